/- What is drawn: the cursor's numbers are in their ranges; it always goes on. No condition beyond the sizes. -/
import Derived.Test.YtjnfehajgogjiaaBy
import Derived.Test.YtjnfehajgogjiaaQ4
namespace Go.Proofs.Ytjnfehajgogjiaa.Pv
set_option linter.unusedSimpArgs false
set_option linter.unusedVariables false
open Go.RowKit Go.Proofs.Ytjnfehajgogjiaa.Q Go.Proofs.YtjnfehajgogjiaaW.PrintWords Go.Proofs.YtjnfehajgogjiaaW.PrintLast Go.Proofs.YtjnfehajgogjiaaW.PrintMore
def CurOk (b : List Int) (i : Int) : Prop := b.length ≤ 140737488351232 ∧ 0 ≤ i ∧ i ≤ (b.length : Int)
theorem new_l0 (l : List Int) (hl : l.length ≤ 140737488351232) : ∀ (d i : Nat) (h : Int), i + d = l.length → ∃ h', Ev (fun k => spec_l01New.l0 k l h (i : Int)) (l, 0, h') := by
  intro d
  induction d with
  | zero =>
    intro i h hi
    refine ⟨h, Ev.succ ?_⟩
    simp only [spec_l01New.l0]
    exact Ev.neg (by omega) (Ev.val rfl)
  | succ d ih =>
    intro i h hi
    by_cases h4 : (i : Int) < 4000
    · obtain ⟨h', he⟩ := ih (i + 1) (Go.bits .and .i64 (wrap64 ((wrap64 ((wrap64 (h * 131)) + (wrap64 (rd l (i : Int))))) + 7)) 1073741823) (by omega)
      refine ⟨h', Ev.succ ?_⟩
      simp only [spec_l01New.l0]
      refine Ev.pos (by omega) (Ev.pos h4 (Ev.pos (by omega) ?_))
      rw [wS i (by omega)]
      exact he
    · refine ⟨h, Ev.succ ?_⟩
      simp only [spec_l01New.l0]
      exact Ev.pos (by omega) (Ev.neg h4 (Ev.val rfl))
theorem ev_new (l : List Int) (hl : l.length ≤ 140737488351232) : ∃ h', Ev (fun k => spec_l01New.f k l) (l, 0, h') := by
  unfold spec_l01New.f
  exact new_l0 l hl l.length 0 _ (by omega)
theorem cur_new {l : List Int} (hl : l.length ≤ 140737488351232) : CurOk l 0 := ⟨hl, by omega, by omega⟩
theorem cur_byte {b : List Int} {i : Int} (h : Int) (hc : CurOk b i) : ∃ x i' h', spec_l01Byte.f b i h = some (x, i', h') ∧ 0 ≤ x ∧ x ≤ 255 ∧ CurOk b i' := by
  obtain ⟨hb, h0, h1⟩ := hc
  unfold spec_l01Byte.f
  by_cases hlt : i < (b.length : Int)
  · rw [if_pos hlt, if_pos h0]
    refine ⟨_, _, _, rfl, (and255 _).1, (and255 _).2, hb, ?_, ?_⟩ <;> (rw [w_id (by omega) (by omega)]; omega)
  · rw [if_neg hlt]
    exact ⟨_, _, _, rfl, (and255 _).1, (and255 _).2, hb, h0, h1⟩
theorem cur_below {b : List Int} {i : Int} (h n : Int) (hn : 0 < n) (hn2 : n ≤ 256) (hc : CurOk b i) : ∃ r i' h', spec_l01Below.f b i h n = some (r, i', h') ∧ 0 ≤ r ∧ r < n ∧ CurOk b i' := by
  obtain ⟨x, i', h', e, hx, _, hc'⟩ := cur_byte h hc
  unfold spec_l01Below.f
  rw [if_neg (by omega), if_pos hn2, e, Option.bind_some, if_neg (by omega)]
  exact ⟨_, _, _, rfl, Int.tmod_nonneg _ hx, Int.tmod_lt_of_pos _ hn, hc'⟩
theorem cur_belowL {b : List Int} {i : Int} (h n : Int) (hn : 256 < n) (hc : CurOk b i) : ∃ r i' h', spec_l01Below.f b i h n = some (r, i', h') ∧ 0 ≤ r ∧ r < n ∧ CurOk b i' := by
  obtain ⟨x1, i1, h1, e1, a1, b1, c1⟩ := cur_byte h hc
  obtain ⟨x2, i2, h2, e2, a2, b2, c2⟩ := cur_byte h1 c1
  obtain ⟨x3, i3, h3, e3, a3, b3, c3⟩ := cur_byte h2 c2
  obtain ⟨x4, i4, h4, e4, a4, b4, c4⟩ := cur_byte h3 c3
  unfold spec_l01Below.f
  rw [if_neg (by omega), if_neg (by omega), e1, Option.bind_some]
  simp only
  rw [e2, Option.bind_some]
  simp only
  rw [e3, Option.bind_some]
  simp only
  rw [e4, Option.bind_some, if_neg (by omega)]
  refine ⟨_, _, _, rfl, Int.tmod_nonneg _ ?_, Int.tmod_lt_of_pos _ (by omega), c4⟩
  simp only
  unfold wrap64
  omega
theorem cur_once {b : List Int} {i : Int} (h n : Int) (hn : 0 < n) (hn2 : n ≤ 256) (hc : CurOk b i) : ∃ r i' h', spec_l01Once.f b i h n = some (r, i', h') ∧ CurOk b i' := by
  obtain ⟨x, i', h', e, _, _, hc'⟩ := cur_below h n hn hn2 hc
  unfold spec_l01Once.f
  rw [e]
  exact ⟨_, _, _, rfl, hc'⟩
end Go.Proofs.Ytjnfehajgogjiaa.Pv
