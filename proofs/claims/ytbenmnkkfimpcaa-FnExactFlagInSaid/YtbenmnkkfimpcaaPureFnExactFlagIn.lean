/- The law FnExactFlagIn answers true at every input: a flag of 0 to 7 is read by division as it is by bits. No condition. -/
import Derived.Test.YtbenmnkkfimpcaaQ11
import Derived.Test.YtbenmnkkfimpcaaQ12
import Derived.Test.YtbenmnkkfimpcaaCt
namespace Go.Proofs.Ytbenmnkkfimpcaa.Pure
set_option linter.unusedSimpArgs false
set_option linter.unusedVariables false
open Go.RowKit Go.Proofs.Ytbenmnkkfimpcaa.Q Go.Proofs.Ytbenmnkkfimpcaa.Pv Go.Proofs.YtbenmnkkfimpcaaW.PrintWords Go.Proofs.YtbenmnkkfimpcaaW.PrintLast Go.Proofs.YtbenmnkkfimpcaaW.PrintMore
theorem flag_bits (f a : Int) (h0 : 0 ≤ f) (h7 : f ≤ 7) (ha : a = 1 ∨ a = 2 ∨ a = 4) : (Int.tmod (wrap64 (Int.tdiv f a)) 2 == 1) = (Go.bits .and .i64 f a != 0) := by
  have hf : f = 0 ∨ f = 1 ∨ f = 2 ∨ f = 3 ∨ f = 4 ∨ f = 5 ∨ f = 6 ∨ f = 7 := by omega
  rcases hf with rfl | rfl | rfl | rfl | rfl | rfl | rfl | rfl <;> rcases ha with rfl | rfl | rfl <;> decide +kernel
theorem flag_same (n : Int) (s : ByteArray) (p f : Int) (t v : ByteArray) (xs : List S109) (a : Int) : ∃ r, spec_FlagIn.f n s p f t v xs a = some r ∧ impl_FlagIn.f n s p f t v xs a = some r := by
  unfold spec_FlagIn.f impl_FlagIn.f spec_l01In.f impl_in.f
  by_cases h0 : f ≥ 0
  · rw [if_pos h0]
    simp only [Option.bind_some]
    by_cases h7 : f ≤ 7
    · simp only [decide_eq_true h7, if_true]
      by_cases h1 : a = 1
      · subst h1
        exact ⟨_, rfl, by rw [flag_bits f 1 h0 h7 (.inl rfl)]; rfl⟩
      · by_cases h2 : a = 2
        · subst h2
          exact ⟨_, rfl, by rw [flag_bits f 2 h0 h7 (.inr (.inl rfl))]; rfl⟩
        · by_cases h4 : a = 4
          · subst h4
            exact ⟨_, rfl, by rw [flag_bits f 4 h0 h7 (.inr (.inr rfl))]; rfl⟩
          · exact ⟨false, by simp [h1, h2, h4], by simp [h1, h2, h4]⟩
    · exact ⟨false, by simp [h7], by simp [h7]⟩
  · rw [if_neg h0]
    simp only [Option.bind_some]
    exact ⟨false, by simp, by simp⟩
theorem FnExactFlagIn : ∀ (x0 : S42) (a1 : Int), g42 x0 → (Lit.int .i64 a1).wf = true → ∃ k, laws_FnExactFlagIn.f k x0.f0 x0.f1 x0.f2 x0.f3 x0.f4 x0.f5 x0.f6 a1 = some true := by
  intro x a g _
  refine Ev.rounds ?_
  unfold laws_FnExactFlagIn.f
  refine Ev.bnd (ev_szDecl x g _ (by omega) (by omega)) (Ev.ite (fun _ => Ev.val rfl) (fun hs => ?_))
  have h2 := spend_ge hs
  have hl : x.f6.length ≤ 1048576 := by
    have := h2.1
    unfold dcSize at this
    omega
  have hm : (x.f6.map ctTo).length ≤ 1048576 := by simp; omega
  have ht := ev_toDecl x hl
  obtain ⟨r, e1, e2⟩ := flag_same x.f0 x.f1 x.f2 x.f3 x.f4 x.f5 (x.f6.map ctTo) a
  refine Ev.bnd ht ?_
  simp only [e1, Option.bind_some]
  refine Ev.bnd ht ?_
  simp only [e2, Option.bind_some]
  exact Ev.neg (by simp) (Ev.bnd ht (Ev.bnd (ev_eqDecl _ _ _ _ _ _ _ hm) (Ev.pos rfl (Ev.val rfl))))
end Go.Proofs.Ytbenmnkkfimpcaa.Pure
