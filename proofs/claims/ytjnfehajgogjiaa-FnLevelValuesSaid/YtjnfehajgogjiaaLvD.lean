/- What DrawLevels and DrawPlaces give: two texts of level trees; twelve numbers in 0 .. 9999. No condition beyond the sizes. -/
import Derived.Test.YtjnfehajgogjiaaDraw
import Derived.Test.YtjnfehajgogjiaaLv2
import Derived.Test.YtjnfehajgogjiaaQ13
import Derived.Test.YtjnfehajgogjiaaQ4
import Derived.Test.YtjnfehajgogjiaaQ5
import Derived.Test.YtjnfehajgogjiaaQ6
namespace Go.Proofs.Ytjnfehajgogjiaa.Pv
set_option linter.unusedSimpArgs false
set_option linter.unusedVariables false
open Go.RowKit Go.Proofs.Ytjnfehajgogjiaa.Q Go.Proofs.YtjnfehajgogjiaaW.PrintWords Go.Proofs.YtjnfehajgogjiaaW.PrintLast Go.Proofs.YtjnfehajgogjiaaW.PrintMore
theorem dec_small (r : Int) (h0 : 0 ≤ r) (h1 : r < 10) : ∃ s, Ev (fun k => spec_Decimal.f k r) s ∧ bytesOf s = [48 + r] ∧ s.size = 1 := by
  by_cases hz : r = 0
  · subst hz
    refine ⟨⟨#[48]⟩, ?_, rfl, rfl⟩
    unfold spec_Decimal.f
    exact Ev.pos rfl (Ev.val rfl)
  · refine ⟨strOfNums [48 + r] ++ ⟨#[]⟩, ?_, ?_, ?_⟩
    · unfold spec_Decimal.f
      refine Ev.neg hz (Ev.succ ?_)
      simp only [spec_Decimal.l0]
      have e1 : Int.tmod r 10 = r := Int.tmod_eq_of_lt h0 h1
      have e2 : Int.tdiv r 10 = 0 := Int.tdiv_eq_zero_of_lt h0 h1
      rw [e1, e2]
      refine Ev.neg hz (Ev.neg (by omega) ?_)
      unfold spec_l01Figure.f
      rw [if_pos h1, show (wrap64 (48 + r)) % 256 = 48 + r from by unfold wrap64; omega, show wrap64 0 = 0 from by unfold wrap64; omega]
      refine Ev.some_bind (Ev.some_bind (Ev.pos ?_ (Ev.succ ?_)))
      · rw [strOfNums_size]
        exact (by decide : 1 + (⟨#[]⟩ : ByteArray).size ≤ 9223372036854775807)
      · simp only [spec_Decimal.l0]
        refine Ev.pos (by trivial) (Ev.neg (by simp; omega) (Ev.val rfl))
    · rw [bl_append, bl_nums (by intro x hx; simp only [List.mem_singleton] at hx; omega)]
      rfl
    · rw [size_append, strOfNums_size]
      rfl
def lvMax : Nat → Nat
  | 0 => 2
  | d + 1 => 2 * lvMax d + 1
theorem lvMax_pos (d : Nat) : 2 ≤ lvMax d := by
  induction d with
  | zero => exact Nat.le_refl _
  | succ d ih => simp only [lvMax]; omega
theorem size_tx {s : ByteArray} {t : Lv} (e : bytesOf s = t.tx) : s.size = t.tx.length := by rw [← e, bl_length]
theorem draw_leaf {b : List Int} {i : Int} (h x2 : Int) (hc : CurOk b i) : ∃ (s : ByteArray) (t : Lv) (i' h' : Int), Ev (fun k => spec_l04Level.j0 k 3 x2 true b i h) (s, i', h') ∧ bytesOf s = t.tx ∧ t.ok ∧ t.tx.length ≤ 2 ∧ CurOk b i' := by
  obtain ⟨o, i1, h1, e1, c1⟩ := cur_once h 2 (by omega) (by omega) hc
  cases o
  · refine ⟨⟨#[122]⟩, .z, i1, h1, Ev.succ ?_, rfl, trivial, by decide, c1⟩
    simp only [spec_l04Level.j0]
    refine Ev.pos (by trivial) (Ev.pos (by omega) ?_)
    rw [e1]
    refine Ev.some_bind (Ev.succ ?_)
    simp only [spec_l04Level.j1]
    exact Ev.neg (by simp) (Ev.val rfl)
  · obtain ⟨r, i2, h2, e2, r0, r3, c2⟩ := cur_below h1 3 (by omega) (by omega) c1
    obtain ⟨ds, ed, bd, sd⟩ := dec_small r r0 (by omega)
    refine ⟨⟨#[117]⟩ ++ ds, .u r.toNat, i2, h2, Ev.succ ?_, ?_, ?_, by simp [Lv.tx], c2⟩
    · simp only [spec_l04Level.j0]
      refine Ev.pos (by trivial) (Ev.pos (by omega) ?_)
      rw [e1]
      refine Ev.some_bind (Ev.succ ?_)
      simp only [spec_l04Level.j1]
      refine Ev.pos (by trivial) ?_
      rw [e2]
      exact Ev.some_bind (Ev.bnd ed (Ev.pos (by omega) (Ev.val rfl)))
    · rw [bl_append, bd]
      simp only [Lv.tx]
      rw [show ((r.toNat : Nat) : Int) = r from by omega]
      rfl
    · show r.toNat < 3
      omega
theorem draw_level : ∀ (d : Nat) (hd : d ≤ 3) {b : List Int} {i : Int} (h : Int) (_ : CurOk b i), ∃ (s : ByteArray) (t : Lv) (i' h' : Int), Ev (fun k => spec_l04Level.f k b i h 3 (d : Int)) (s, i', h') ∧ bytesOf s = t.tx ∧ t.ok ∧ t.tx.length ≤ lvMax d ∧ CurOk b i' := by
  intro d
  induction d with
  | zero =>
    intro _ b i h hc
    obtain ⟨s, t, i', h', e, e2, ho, hl, c⟩ := draw_leaf h 0 hc
    refine ⟨s, t, i', h', Ev.succ ?_, e2, ho, hl, c⟩
    simp only [spec_l04Level.f]
    exact Ev.pos (by omega) e
  | succ d ih =>
    intro hd b i h hc
    obtain ⟨o, i1, h1, e1, c1⟩ := cur_once h 3 (by omega) (by omega) hc
    cases o
    · obtain ⟨r, i2, h2, e2, r0, r4, c2⟩ := cur_below h1 4 (by omega) (by omega) c1
      obtain ⟨s1, t1, i3, h3, e3, b3, o3, l3, c3⟩ := ih (by omega) h2 c2
      obtain ⟨s2, t2, i4, h4, e4, b4, o4, l4, c4⟩ := ih (by omega) h3 c3
      have hw : wrap64 (((d + 1 : Nat) : Int) - 1) = (d : Int) := by
        unfold wrap64
        omega
      have hm : lvMax d ≤ 11 := by
        rcases d with _ | _ | _ | d
        · decide
        · decide
        · decide
        · omega
      have z1 := size_tx b3
      have z2 := size_tx b4
      have go : ∀ {s : ByteArray} {i' h' : Int}, Ev (fun k => spec_l04Level.j0 k 3 ((d + 1 : Nat) : Int) false b i1 h1) (s, i', h') → Ev (fun k => spec_l04Level.f k b i h 3 ((d + 1 : Nat) : Int)) (s, i', h') := by
        intro s i' h' he
        refine Ev.succ ?_
        simp only [spec_l04Level.f]
        refine Ev.neg (by omega) ?_
        rw [e1]
        exact Ev.some_bind he
      by_cases hr0 : r = 0
      · refine ⟨⟨#[109]⟩ ++ s1 ++ s2, .m t1 t2, i4, h4, go (Ev.succ ?_), ?_, ⟨o3, o4⟩, ?_, c4⟩
        · simp only [spec_l04Level.j0]
          refine Ev.neg (by simp) ?_
          rw [e2, hw]
          refine Ev.some_bind (Ev.pos hr0 (Ev.bnd e3 (Ev.pos ?_ (Ev.bnd e4 (Ev.pos ?_ (Ev.val rfl))))))
          · simp only
            omega
          · simp only [size_append]
            rw [show (⟨#[109]⟩ : ByteArray).size = 1 from rfl]
            omega
        · rw [bl_append, bl_append, b3, b4]
          rfl
        · simp only [Lv.tx, List.length_cons, List.length_append, lvMax]
          omega
      · by_cases hr1 : r = 1
        · refine ⟨⟨#[105]⟩ ++ s1 ++ s2, .i t1 t2, i4, h4, go (Ev.succ ?_), ?_, ⟨o3, o4⟩, ?_, c4⟩
          · simp only [spec_l04Level.j0]
            refine Ev.neg (by simp) ?_
            rw [e2, hw]
            refine Ev.some_bind (Ev.neg hr0 (Ev.pos hr1 (Ev.bnd e3 (Ev.pos ?_ (Ev.bnd e4 (Ev.pos ?_ (Ev.val rfl)))))))
            · simp only
              omega
            · simp only [size_append]
              rw [show (⟨#[105]⟩ : ByteArray).size = 1 from rfl]
              omega
          · rw [bl_append, bl_append, b3, b4]
            rfl
          · simp only [Lv.tx, List.length_cons, List.length_append, lvMax]
            omega
        · refine ⟨⟨#[43]⟩ ++ s1, .s t1, i3, h3, go (Ev.succ ?_), ?_, o3, ?_, c3⟩
          · simp only [spec_l04Level.j0]
            refine Ev.neg (by simp) ?_
            rw [e2, hw]
            refine Ev.some_bind (Ev.neg hr0 (Ev.neg hr1 (Ev.bnd e3 (Ev.pos ?_ (Ev.val rfl)))))
            simp only
            omega
          · rw [bl_append, b3]
            rfl
          · simp only [Lv.tx, List.length_cons, lvMax]
            omega
    · obtain ⟨s, t, i', h', e, e2, ho, hl, c⟩ := draw_leaf h1 ((d + 1 : Nat) : Int) c1
      refine ⟨s, t, i', h', Ev.succ ?_, e2, ho, Nat.le_trans hl (lvMax_pos _), c⟩
      simp only [spec_l04Level.f]
      refine Ev.neg (by omega) ?_
      rw [e1]
      exact Ev.some_bind e
theorem ev_DrawLevels (l : List Int) (hl : l.length ≤ 140737488351232) : ∃ (s1 s2 : ByteArray) (t1 t2 : Lv), Ev (fun k => spec_DrawLevels.f k l) (s1, s2) ∧ bytesOf s1 = t1.tx ∧ t1.ok ∧ t1.tx.length ≤ 23 ∧ bytesOf s2 = t2.tx ∧ t2.ok ∧ t2.tx.length ≤ 23 := by
  obtain ⟨h, e0⟩ := ev_new l hl
  obtain ⟨s1, t1, i1, h1, e1, b1, o1, l1, c1⟩ := draw_level 3 (by omega) h (cur_new hl)
  obtain ⟨s2, t2, i2, h2, e2, b2, o2, l2, c2⟩ := draw_level 3 (by omega) h1 c1
  refine ⟨s1, s2, t1, t2, ?_, b1, o1, l1, b2, o2, l2⟩
  unfold spec_DrawLevels.f
  exact Ev.bnd e0 (Ev.bnd e1 (Ev.bnd e2 (Ev.val rfl)))
theorem places_l0 : ∀ (d n : Nat) (hn : n + d = 12) (out : List Int) (b : List Int) (i h : Int), CurOk b i → out.length = n → (∀ x ∈ out, 0 ≤ x ∧ x ≤ 9999) → ∃ r, Ev (fun k => spec_DrawPlaces.l0 k out (n : Int) b i h) r ∧ r.length = 12 ∧ ∀ x ∈ r, 0 ≤ x ∧ x ≤ 9999 := by
  intro d
  induction d with
  | zero =>
    intro n hn out b i h hc hl ho
    refine ⟨out, Ev.succ ?_, by omega, ho⟩
    simp only [spec_DrawPlaces.l0]
    exact Ev.neg (by omega) (Ev.val rfl)
  | succ d ih =>
    intro n hn out b i h hc hl ho
    obtain ⟨r, i', h', e, r0, r1, c⟩ := cur_belowL h 10000 (by omega) hc
    obtain ⟨q, eq, lq, hq⟩ := ih (n + 1) (by omega) (out ++ [r]) b i' h' c (by simp [hl]) (by
      intro x hx
      rcases List.mem_append.1 hx with hx | hx
      · exact ho x hx
      · simp only [List.mem_singleton] at hx
        omega)
    refine ⟨q, Ev.succ ?_, lq, hq⟩
    simp only [spec_DrawPlaces.l0]
    refine Ev.pos (by omega) ?_
    rw [e]
    refine Ev.some_bind (Ev.pos (by omega) ?_)
    rw [wS n (by omega)]
    exact eq
theorem ev_DrawPlaces (l : List Int) (hl : l.length ≤ 140737488351232) : ∃ r, Ev (fun k => spec_DrawPlaces.f k l) r ∧ r.length = 12 ∧ ∀ x ∈ r, 0 ≤ x ∧ x ≤ 9999 := by
  obtain ⟨h, e0⟩ := ev_new l hl
  obtain ⟨x, i1, h1, e1, _, _, c1⟩ := cur_byte h (cur_new hl)
  obtain ⟨r, er, lr, hr⟩ := places_l0 12 0 rfl [] l i1 h1 c1 rfl (by intro x hx; cases hx)
  refine ⟨r, ?_, lr, hr⟩
  unfold spec_DrawPlaces.f
  refine Ev.bnd e0 ?_
  simp only [e1]
  exact er
end Go.Proofs.Ytjnfehajgogjiaa.Pv
