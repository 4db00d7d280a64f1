/- The program's union of labels: what the library's sort and its leaving out of repetitions come to is the one list that rises strictly with these members. No condition beyond the sizes. -/
import Derived.Test.YtckdocofmffheaaLbS
import Derived.Test.YtckdocofmffheaaQ7
namespace Go.Proofs.Ytckdocofmffheaa.Pv
set_option linter.unusedSimpArgs false
set_option linter.unusedVariables false
open Go.RowKit Go.Proofs.Ytckdocofmffheaa.Q Go.Proofs.YtckdocofmffheaaW.PrintWords Go.Proofs.YtckdocofmffheaaW.PrintLast Go.Proofs.YtckdocofmffheaaW.PrintMore
theorem compact_srt (xs : List S35) : Lib.compactUpTo (xs.mergeSort fun x y => !(impl_LabelsBoth.lt y x)).toArray xs.length = srtD lbLt xs := by
  obtain ⟨ss, hss⟩ : ∃ ss, ss = (xs.mergeSort fun x y => !(lbLt y x)) := ⟨_, rfl⟩
  have e0 : (xs.mergeSort fun x y => !(impl_LabelsBoth.lt y x)) = ss := hss.symm
  have hp : ss.Perm xs := hss ▸ List.mergeSort_perm xs _
  have hl : ss.length = xs.length := hp.length_eq
  have hs : ss.Pairwise fun x y => (!(lbLt y x)) = true := by
    rw [hss]
    refine List.pairwise_mergeSort (fun a b c h1 h2 => ?_) (fun a b => ?_) xs
    · simp only [Bool.not_eq_true'] at *
      cases h3 : lbLt c a with
      | false => rfl
      | true =>
        cases h4 : lbLt b c with
        | true => rw [lbLt_so.tr _ _ _ h4 h3] at h1; cases h1
        | false =>
          have e := lbLt_so.tot _ _ h4 h2
          rw [e, h3] at h1
          cases h1
    · cases h : lbLt b a with
      | false => simp
      | true => simp [lbLt_so.asym h]
  rw [e0]
  unfold Lib.compactUpTo
  have hc := compact_rises lbLt_so ss xs.length (fun j => ss.toArray[j]!) (Lib.keeps ss.toArray) (by
      refine List.ext_getElem (by simp [hl]) fun i h1 h2 => ?_
      simp only [List.getElem_map, List.getElem_range]
      rw [getElem!_pos ss.toArray i (by simpa using h1)]
      simp) (fun i j hij hj => by
      have h := List.pairwise_iff_getElem.1 hs i j (by omega) (by omega) hij
      rw [getElem!_pos ss.toArray i (by simp; omega), getElem!_pos ss.toArray j (by simp; omega)]
      simpa using h) (fun j hj => by
      unfold Lib.keeps
      simp)
  rw [hc]
  exact srtD_congr lbLt_so fun x => hp.mem_iff
theorem LabelsBoth_eq (a b : List S35) (h : a.length + b.length ≤ 1048576) : impl_LabelsBoth.f a b = some (srtD lbLt (a ++ b)) := by
  unfold impl_LabelsBoth.f
  rw [if_pos (by omega), ← List.length_append, compact_srt]
end Go.Proofs.Ytckdocofmffheaa.Pv
