/- The texts of the marks. No condition. -/
import Derived.Test.YtmhbikkldbcgkaaQ4
import Derived.Test.YtmhbikkldbcgkaaSl
import Derived.Test.YtmhbikkldbcgkaaBy
namespace Go.Proofs.Ytmhbikkldbcgkaa.Pv
set_option linter.unusedSimpArgs false
set_option linter.unusedVariables false
open Go.RowKit Go.Proofs.Ytmhbikkldbcgkaa.Q Go.Proofs.YtmhbikkldbcgkaaW.PrintWords Go.Proofs.YtmhbikkldbcgkaaW.PrintLast Go.Proofs.YtmhbikkldbcgkaaW.PrintMore
theorem mark_text_l0 : ∀ (d n : Nat) (x : ByteArray), n < 2 ^ d → d ≤ 62 → x.size + d ≤ 1000000 → ∃ t, Ev (fun k => laws_markText.l0 k (n : Int) x) t := by
  intro d
  induction d with
  | zero =>
    intro n x h _ hx
    obtain rfl : n = 0 := by simpa using h
    refine ⟨(⟨#[109]⟩ : ByteArray) ++ x, Ev.succ ?_⟩
    simp only [laws_markText.l0]
    exact Ev.neg (by omega) (Ev.pos (by omega) (Ev.val rfl))
  | succ d ih =>
    intro n x h hd hx
    by_cases h0 : 0 < n
    · have hn : n / 10 < 2 ^ d := by
        rw [Nat.pow_succ] at h
        omega
      have hp : 2 ^ (d + 1) ≤ 2 ^ 62 := Nat.pow_le_pow_right (by omega) hd
      have e1 : wrap64 (Int.tdiv (n : Int) 10) = ((n / 10 : Nat) : Int) := by
        rw [Int.tdiv_eq_ediv_of_nonneg (by omega)]
        exact w_id (by omega) (by omega)
      have hsz : ∀ y : Int, (strOfNums [y]).size = 1 := fun y => by
        rw [← bl_length]
        unfold bytesOf
        rw [strOfNums_data]
        rfl
      obtain ⟨t, ht⟩ := ih (n / 10) (strOfNums [(wrap64 (48 + (Int.tmod (n : Int) 10))) % 256] ++ x) hn (by omega) (by rw [size_append, hsz]; omega)
      refine ⟨t, Ev.succ ?_⟩
      simp only [laws_markText.l0]
      refine Ev.pos (by omega) (Ev.some_bind (Ev.pos (by rw [hsz]; omega) ?_))
      rw [e1]
      exact ht
    · obtain rfl : n = 0 := by omega
      refine ⟨(⟨#[109]⟩ : ByteArray) ++ x, Ev.succ ?_⟩
      simp only [laws_markText.l0]
      exact Ev.neg (by omega) (Ev.pos (by omega) (Ev.val rfl))
/-- The texts of the marks. -/
theorem mark_text : ∃ T : Nat → ByteArray, ∀ n : Nat, n < 4611686018427387904 → Ev (fun k => laws_markText.f k (n : Int)) (T n) := by
  have h : ∀ n : Nat, ∃ t : ByteArray, n < 4611686018427387904 → Ev (fun k => laws_markText.f k (n : Int)) t := by
    intro n
    by_cases hn : n < 4611686018427387904
    · unfold laws_markText.f
      by_cases h0 : (n : Int) ≤ 0
      · exact ⟨_, fun _ => Ev.pos h0 (Ev.val rfl)⟩
      · obtain ⟨t, ht⟩ := mark_text_l0 62 n ⟨#[]⟩ (by simpa using hn) (by omega) (by decide)
        exact ⟨t, fun _ => Ev.neg h0 ht⟩
    · exact ⟨⟨#[]⟩, fun h => absurd h hn⟩
  exact ⟨fun n => Classical.choose (h n), fun n => Classical.choose_spec (h n)⟩
end Go.Proofs.Ytmhbikkldbcgkaa.Pv
