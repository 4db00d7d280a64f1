/- Slices of strings in the laws: their sizes, their copies, their comparison. No condition but sound lengths. -/
import Derived.Test.YtmhbikkldbcgkaaQ1
import Derived.Test.YtmhbikkldbcgkaaQ3
import Derived.Test.YtmhbikkldbcgkaaEqS
import Derived.Test.YtmhbikkldbcgkaaSl
import Derived.Test.YtmhbikkldbcgkaaRow
namespace Go.Proofs.Ytmhbikkldbcgkaa.Pv
set_option linter.unusedSimpArgs false
set_option linter.unusedVariables false
open Go.RowKit Go.Proofs.Ytmhbikkldbcgkaa.Q Go.Proofs.YtmhbikkldbcgkaaW.PrintWords Go.Proofs.YtmhbikkldbcgkaaW.PrintLast Go.Proofs.YtmhbikkldbcgkaaW.PrintMore
theorem ev_szStringS (xs : List ByteArray) (g : gL gS xs) (a : Int) (ha : 0 ≤ a) (hb : a ≤ 1048576) : Ev (fun k => laws_szStringS.f k xs a) (spend a (xs.length + (xs.map ByteArray.size).sum)) := by
  have hl : xs.length ≤ 9223372036854775807 := g.2
  refine ev_spendS xs ByteArray.size (fun k a i => laws_szStringS.l0 k xs a i) hl (fun a => ?_) (fun i hi a r hm ha hb hn hy => ?_) a ha hb
  · refine Ev.succ ?_
    simp only [laws_szStringS.l0]
    exact Ev.neg (by omega) (Ev.val rfl)
  · have hs : xs[i].size ≤ 9223372036854775807 := g.1 _ (List.getElem_mem hi)
    refine Ev.succ ?_
    simp only [laws_szStringS.l0]
    rw [rdOf_at _ _ _ hi, w_id (x := a - (xs[i].size : Int)) (by omega) (by omega), wS i (by omega)]
    refine Ev.pos (by omega) (Ev.pos (by omega) (Ev.ite (fun h => Ev.val (hn (by omega)).symm) (fun h => hy (by omega))))
theorem ev_toStringS (xs : List ByteArray) (hl : xs.length ≤ 1048576) : Ev (fun k => laws_toStringS.f k xs) xs := by
  unfold laws_toStringS.f
  refine Ev.pos (by omega) (Ev.pos (by omega) ?_)
  rw [Int.toNat_natCast]
  refine Ev.cast (ev_copyL xs id ⟨#[]⟩ (fun k ys i => laws_toStringS.l0 k xs ys i) (fun ys => ?_) (fun i hi ys r hy h => ?_)) (List.map_id xs)
  · refine Ev.succ ?_
    simp only [laws_toStringS.l0]
    exact Ev.neg (by omega) (Ev.val rfl)
  · refine Ev.succ ?_
    simp only [laws_toStringS.l0]
    rw [rdOf_at _ _ _ hi, wS i (by omega), Int.toNat_natCast]
    exact Ev.pos (by omega) (Ev.pos (by omega) (Ev.pos (by omega) h))
/-- What a budget that did do tells. -/
theorem strs_fit {xs : List ByteArray} (h : ¬ spend 1048576 (xs.length + (xs.map ByteArray.size).sum) < 0) : xs.length ≤ 1048576 ∧ ∀ x ∈ xs, x.size ≤ 1048576 := by
  have h1 := (spend_ge h).1
  refine ⟨by omega, fun x hx => ?_⟩
  have := mem_sum ByteArray.size xs x hx
  omega
end Go.Proofs.Ytmhbikkldbcgkaa.Pv
