/- The decimal numeral, made digit by digit from the right, is the one of Lib.itoa. No condition but an int64. -/
import Derived.Test.YtbenmnkkfimpcaaDoorQ1
import Derived.Test.YtbenmnkkfimpcaaDoorBy
import Derived.Test.YtbenmnkkfimpcaaDoorTb
namespace Go.Proofs.YtbenmnkkfimpcaaDoor.Pv
open Go.RowKit Go.Proofs.YtbenmnkkfimpcaaDoor.Q Go.Proofs.YtbenmnkkfimpcaaDoorW.PrintWords Go.Proofs.YtbenmnkkfimpcaaDoorW.PrintLast Go.Proofs.YtbenmnkkfimpcaaDoorW.PrintMore
set_option linter.unusedSimpArgs false
set_option linter.unusedVariables false
def dI (u : Nat) : List Int := (Lib.decDigits u).map fun b => (b.toNat : Int)
theorem dI_small {u : Nat} (h : u < 10) : dI u = [48 + (u : Int)] := by
  unfold dI
  rw [Lib.decDigits, dif_pos h]
  simp only [List.map_cons, List.map_nil, UInt8.toNat_ofNat']
  congr 1
  omega
theorem dI_big {u : Nat} (h : ¬ u < 10) : dI u = dI (u / 10) ++ [48 + ((u % 10 : Nat) : Int)] := by
  unfold dI
  rw [Lib.decDigits, dif_neg h, List.map_append]
  congr 1
  simp only [List.map_cons, List.map_nil, UInt8.toNat_ofNat']
  congr 1
  omega
theorem dI_step {u : Nat} (h : u ≠ 0) (l : List Int) : (if u = 0 then [] else dI u) ++ l = (if u / 10 = 0 then [] else dI (u / 10)) ++ ((48 + ((u % 10 : Nat) : Int)) :: l) := by
  rw [if_neg h]
  by_cases hu : u < 10
  · rw [if_pos (by omega), dI_small hu, Nat.mod_eq_of_lt hu]
    rfl
  · rw [if_neg (by omega), dI_big hu]
    simp
theorem bl_list (l : List UInt8) : bytesOf (⟨l.toArray⟩ : ByteArray) = l.map fun b => (b.toNat : Int) := rfl
theorem fig (d : Nat) (h : d < 10) : spec_l01Figure.f (d : Int) = some (48 + (d : Int)) := by
  unfold spec_l01Figure.f
  rw [if_pos (by omega)]
  congr 1
  unfold wrap64
  omega
theorem dec_ev (b : Bool) : ∀ (u : Nat) (x0 : Int) (x4 : ByteArray), x0.natAbs = u → u ≤ 9223372036854775808 → x4.size + (if u = 0 then 0 else Lib.nDigits u) ≤ 31 →
    ∃ r, Ev (fun k => spec_Decimal.l0 k x0 b x4) r ∧ bytesOf r = (if b then [45] else []) ++ ((if u = 0 then [] else dI u) ++ bytesOf x4) := by
  intro u
  induction u using Nat.strongRecOn with
  | _ u ih =>
    intro x0 x4 hx hu hs
    by_cases h0 : u = 0
    · rw [if_pos h0] at hs
      have hx0 : x0 = 0 := by omega
      cases b with
      | true =>
        refine ⟨(⟨#[45]⟩ : ByteArray) ++ x4, ?_, ?_⟩
        · refine Ev.succ ?_
          simp only [spec_Decimal.l0]
          exact Ev.pos hx0 (Ev.pos trivial (Ev.pos (by omega) (Ev.val rfl)))
        · rw [bl_append, if_pos h0]
          rfl
      | false =>
        refine ⟨x4, ?_, ?_⟩
        · refine Ev.succ ?_
          simp only [spec_Decimal.l0]
          exact Ev.pos hx0 (Ev.neg (by decide) (Ev.val rfl))
        · rw [if_pos h0]
          rfl
    · rw [if_neg h0] at hs
      have hnd : Lib.nDigits (u / 10) ≤ Lib.nDigits u - 1 ∨ u < 10 := by
        by_cases hu : u < 10
        · exact .inr hu
        · left; rw [Lib.nDigits_big hu]; omega
      have hp := Lib.nDigits_pos u
      have hb : bytesOf (strOfNums [48 + ((u % 10 : Nat) : Int)]) = [48 + ((u % 10 : Nat) : Int)] := bl_nums (fun x hx => by
        simp only [List.mem_singleton] at hx
        omega)
      have hsz : (strOfNums [48 + ((u % 10 : Nat) : Int)]).size = 1 := by rw [← bl_length, hb]; rfl
      have hsz4 : (strOfNums [48 + ((u % 10 : Nat) : Int)] ++ x4).size = 1 + x4.size := by rw [size_append, hsz]
      have hq : ∀ q : Int, q.natAbs = u / 10 → ∃ r, Ev (fun k => spec_Decimal.l0 k q b (strOfNums [48 + ((u % 10 : Nat) : Int)] ++ x4)) r ∧ bytesOf r = (if b then [45] else []) ++ ((if u = 0 then [] else dI u) ++ bytesOf x4) := by
        intro q hq
        obtain ⟨r, h1, h2⟩ := ih (u / 10) (by omega) q (strOfNums [48 + ((u % 10 : Nat) : Int)] ++ x4) hq (by omega) (by
          rw [hsz4]
          by_cases hz : u / 10 = 0
          · rw [if_pos hz]; omega
          · rw [if_neg hz]
            rcases hnd with h | h <;> omega)
        refine ⟨r, h1, ?_⟩
        rw [h2, bl_append, hb, dI_step h0]
        rfl
      rcases Int.natAbs_eq x0 with hn | hn
      · rw [hx] at hn
        subst hn
        obtain ⟨r, h1, h2⟩ := hq ((u / 10 : Nat) : Int) (Int.natAbs_natCast _)
        refine ⟨r, ?_, h2⟩
        refine Ev.succ ?_
        simp only [spec_Decimal.l0]
        have e1 : Int.tmod (u : Int) 10 = ((u % 10 : Nat) : Int) := rfl
        have e2 : Int.tdiv (u : Int) 10 = ((u / 10 : Nat) : Int) := rfl
        rw [e1, e2]
        refine Ev.neg (by omega) (Ev.neg (by omega) ?_)
        rw [fig _ (by omega)]
        refine Ev.some_bind (Ev.some_bind (Ev.pos (by rw [hsz]; omega) ?_))
        rw [w_id (by omega) (by omega)]
        exact h1
      · rw [hx] at hn
        subst hn
        obtain ⟨r, h1, h2⟩ := hq (-((u / 10 : Nat) : Int)) (by omega)
        have e1 : Int.tmod (-(u : Int)) 10 = -((u % 10 : Nat) : Int) := by rw [Int.neg_tmod]; rfl
        have e2 : Int.tdiv (-(u : Int)) 10 = -((u / 10 : Nat) : Int) := by rw [Int.neg_tdiv]; rfl
        refine ⟨r, ?_, h2⟩
        refine Ev.succ ?_
        simp only [spec_Decimal.l0]
        rw [e1, e2]
        refine Ev.neg (by omega) (Ev.ite (fun hc => ?_) (fun hc => ?_))
        · rw [Int.neg_neg, w_id (x := ((u % 10 : Nat) : Int)) (by omega) (by omega), fig _ (by omega)]
          refine Ev.some_bind (Ev.some_bind (Ev.pos (by rw [hsz]; omega) ?_))
          rw [w_id (by omega) (by omega)]
          exact h1
        · have hz : u % 10 = 0 := by omega
          rw [hz] at h1 hsz
          rw [hz]
          rw [show (-((0 : Nat) : Int)) = ((0 : Nat) : Int) from rfl, fig _ (by omega)]
          refine Ev.some_bind (Ev.some_bind (Ev.pos (by rw [hsz]; omega) ?_))
          rw [w_id (by omega) (by omega)]
          exact h1
theorem decimal_ev (n : Int) (h0 : -9223372036854775808 ≤ n) (h1 : n ≤ 9223372036854775807) : Ev (fun k => spec_Decimal.f k n) (⟨(Lib.itoa n).toArray⟩ : ByteArray) := by
  unfold spec_Decimal.f
  refine Ev.ite (fun h => Ev.val ?_) (fun h => ?_)
  · subst h
    refine bl_inj ?_
    rw [bl_list]
    show _ = dI 0
    rw [dI_small (by omega)]
    rfl
  · obtain ⟨r, hr, hb⟩ := dec_ev (decide (n < 0)) n.natAbs n (⟨#[]⟩ : ByteArray) rfl (by omega) (by
      show 0 + _ ≤ 31
      rw [if_neg (show ¬ n.natAbs = 0 by omega)]
      have : Lib.nDigits n.natAbs ≤ 20 := by
        rcases Nat.lt_or_ge (Lib.nDigits n.natAbs) 21 with h | h
        · omega
        · exfalso
          have hle : 10 ^ 20 ≤ n.natAbs := by
            have key : ∀ (k u : Nat), k + 1 < Lib.nDigits u + 0 → 10 ^ (k + 1) ≤ u := by
              intro k
              induction k with
              | zero =>
                intro u hu
                by_cases hs : u < 10
                · rw [Lib.nDigits_small hs] at hu; omega
                · omega
              | succ k ih =>
                intro u hu
                by_cases hs : u < 10
                · rw [Lib.nDigits_small hs] at hu; omega
                · rw [Lib.nDigits_big hs] at hu
                  have := ih (u / 10) (by omega)
                  rw [Nat.pow_succ]
                  omega
            exact key 19 _ (by omega)
          omega
      omega)
    refine Ev.cast hr (bl_inj ?_)
    rw [hb, bl_list]
    rw [if_neg (show ¬ n.natAbs = 0 by omega)]
    show (if decide (n < 0) = true then [45] else []) ++ (dI n.natAbs ++ []) = _
    rw [List.append_nil]
    unfold Lib.itoa
    by_cases hn : n < 0
    · rw [if_pos hn, if_pos (decide_eq_true hn)]
      rfl
    · rw [if_neg hn, if_neg (by simpa using hn), show n.toNat = n.natAbs from by omega]
      rfl
theorem itoa_some (n : Int) (h0 : -9223372036854775808 ≤ n) (h1 : n ≤ 9223372036854775807) : impl_Decimal.f n = some (⟨(Lib.itoa n).toArray⟩ : ByteArray) := by
  unfold impl_Decimal.f strconv_Itoa.f
  rw [if_pos ⟨h0, h1⟩]
  rfl
end Go.Proofs.YtbenmnkkfimpcaaDoor.Pv
