/- The law FnLevelOrder answers true at every input. No condition. -/
import Derived.Test.YtjnfehajgogjiaaQ8
import Derived.Test.YtjnfehajgogjiaaLvX
import Derived.Test.YtjnfehajgogjiaaLvD
namespace Go.Proofs.Ytjnfehajgogjiaa.Pure
set_option linter.unusedSimpArgs false
set_option linter.unusedVariables false
open Go.RowKit Go.Proofs.Ytjnfehajgogjiaa.Q Go.Proofs.Ytjnfehajgogjiaa.Pv Go.Proofs.YtjnfehajgogjiaaW.PrintWords Go.Proofs.YtjnfehajgogjiaaW.PrintLast Go.Proofs.YtjnfehajgogjiaaW.PrintMore
theorem order_j1 (s t : ByteArray) (a b : Lv) (hs : Tx s a) (ht : Tx t b) (la : a.tx.length ≤ 23) (lb : b.tx.length ≤ 23) : Ev (fun k => laws_FnLevelOrder.j1 k s t false) true := by
  have ss : s.size = a.tx.length := size_tx hs.tx
  have st : t.size = b.tx.length := size_tx ht.tx
  have one : ∀ c : UInt8, (⟨#[c]⟩ : ByteArray).size = 1 := fun _ => rfl
  refine Ev.succ ?_
  simp only [laws_FnLevelOrder.j1]
  refine Ev.neg (by simp) (Ev.bnd (ev_le_yes hs hs (fun x y z _ _ _ => Int.le_refl _)) (Ev.pos rfl (Ev.pos (by omega) (Ev.pos (by rw [size_append, one]; omega) ?_))))
  have hm := tx_m hs ht (by omega)
  have hm' := tx_m ht hs (by omega)
  have hi := tx_i hs ht (by omega)
  have hsu := tx_s hs (by omega)
  have hiz := tx_i hs tx_z (by simp only [Lv.tx, List.length_cons, List.length_nil]; omega)
  refine Ev.bnd (ev_le_yes hs hm (fun x y z _ _ _ => by simp only [Lv.val]; omega)) (Ev.pos rfl (Ev.pos (by rw [size_append, one]; omega) ?_))
  refine Ev.bnd (ev_le_yes hi hm (fun x y z hx hy hz => by
    have h1 := nn_val hx hy hz a
    have h2 := nn_val hx hy hz b
    simp only [Lv.val]
    split <;> omega)) (Ev.pos rfl ?_)
  refine Ev.bnd (ev_le_yes ht hi (fun x y z hx hy hz => by
    have h1 := nn_val hx hy hz a
    have h2 := nn_val hx hy hz b
    simp only [Lv.val]
    split <;> omega)) (Ev.pos rfl ?_)
  have hbig : (wit (.s a) a).2 = true := by
    rw [← Bool.not_eq_false]
    intro h
    have := wit_le h 0 0 0 (by omega) (by omega) (by omega)
    simp only [Lv.val] at this
    omega
  have hno := ev_le_tree hsu hs
  rw [hbig] at hno
  refine Ev.bnd hno (Ev.neg (by simp) ?_)
  have habove : Ev (fun k => impl_LevelAbove.f k ((⟨#[43]⟩ : ByteArray) ++ s)) true := by
    unfold impl_LevelAbove.f
    exact Ev.bnd (ev_le_yes tx_sz hsu (fun x y z hx hy hz => by
      have h1 := nn_val hx hy hz a
      simp only [Lv.val]
      omega)) (Ev.val rfl)
  refine Ev.bnd habove (Ev.pos rfl (Ev.pos (by rw [size_append, one]; omega) ?_))
  have hzero : Ev (fun k => impl_LevelZero.f k (((⟨#[105]⟩ : ByteArray) ++ s) ++ (⟨#[122]⟩ : ByteArray))) true := by
    unfold impl_LevelZero.f
    exact Ev.bnd (ev_le_yes hiz tx_z (fun x y z hx hy hz => by simp only [Lv.val]; exact Int.le_refl _)) (Ev.val rfl)
  refine Ev.bnd hzero (Ev.pos rfl (Ev.pos (by omega) (Ev.pos (by rw [size_append, one]; omega) ?_)))
  have hsame : Ev (fun k => impl_LevelSame.f k (((⟨#[109]⟩ : ByteArray) ++ s) ++ t) (((⟨#[109]⟩ : ByteArray) ++ t) ++ s)) true := by
    unfold impl_LevelSame.f
    exact Ev.bnd (ev_le_yes hm hm' (fun x y z _ _ _ => by simp only [Lv.val]; omega)) (Ev.pos rfl (Ev.bnd (ev_le_yes hm' hm (fun x y z _ _ _ => by simp only [Lv.val]; omega)) (Ev.val rfl)))
  exact Ev.bnd hsame (Ev.val rfl)
theorem ev_at {s : ByteArray} {a : Lv} (hs : Tx s a) (v : List Int) (h3 : v.length = 3) (hv : vOk v) : Ev (fun k => impl_LevelAt.f k s v) (a.val v) := by
  have := ev_LevelAt s v (by omega) a hs.ok hs.small hs.tx
  rwa [lvAt_ok a v hv (by omega) (by have := params_le a hs.ok; omega)] at this
theorem order_j0 (s t : ByteArray) (a b : Lv) (hs : Tx s a) (ht : Tx t b) (la : a.tx.length ≤ 23) (lb : b.tx.length ≤ 23) : Ev (fun k => laws_FnLevelOrder.j0 k s t (wit a b).1 (wit a b).2 false) true := by
  have hj := order_j1 s t a b hs ht la lb
  refine Ev.succ ?_
  simp only [laws_FnLevelOrder.j0]
  refine Ev.neg (by simp) (Ev.ite (fun hw => ?_) (fun _ => hj))
  have hM := witM_range a b hs.small ht.small
  obtain ⟨x, y, z, hx, hy, hz, e, hgt⟩ := wit1_good a b 0 1 (witM a b) hw
  have rng : ∀ u, In3 0 1 (witM a b) u → 0 ≤ u ∧ u ≤ 1000 := by
    rintro u (rfl | rfl | rfl) <;> omega
  have e1 : (wit a b).1 = [x, y, z] := e
  rw [e1]
  have hv : vOk [x, y, z] := vOk3 (rng x hx) (rng y hy) (rng z hz)
  refine Ev.some_bind (Ev.pos (by simp) (Ev.bnd (ev_at hs _ (by rfl) hv) (Ev.some_bind (Ev.pos (by simp) (Ev.bnd (ev_at ht _ (by rfl) hv) ?_)))))
  have hgt' : ¬ a.val ([] ++ [x, y, z]) ≤ b.val ([] ++ [x, y, z]) := by
    show ¬ a.val [x, y, z] ≤ b.val [x, y, z]
    omega
  rw [decide_eq_false hgt']
  exact hj
theorem FnLevelOrder : laws_FnLevelOrder.Pure := by
  intro l _ hl _
  refine Ev.rounds ?_
  unfold laws_FnLevelOrder.f
  have hb : ∃ b, laws_big.f l = some b := ⟨_, rfl⟩
  obtain ⟨b, eb⟩ := hb
  rw [eb]
  refine Ev.some_bind (Ev.ite (fun _ => Ev.val rfl) (fun _ => ?_))
  obtain ⟨s, t, p, q, he, e1, o1, l1, e2, o2, l2⟩ := ev_DrawLevels l (by omega)
  obtain ⟨r, hr, hr12, hrr⟩ := ev_DrawPlaces l (by omega)
  refine Ev.bnd he (Ev.bnd hr (Ev.pos (by omega) (Ev.pos (by omega) (Ev.pos (by omega) ?_))))
  have hs : Tx s p := ⟨o1, by omega, e1⟩
  have ht : Tx t q := ⟨o2, by omega, e2⟩
  obtain ⟨v, hv⟩ : ∃ v : List Int, v = [Int.tmod (rd r 0) 40, Int.tmod (rd r 1) 40, Int.tmod (rd r 2) 40] := ⟨_, rfl⟩
  have rng : ∀ i : Nat, i < 12 → 0 ≤ Int.tmod (rd r (i : Int)) 40 ∧ Int.tmod (rd r (i : Int)) 40 ≤ 1000 := by
    intro i hi
    rw [rd_getD, List.getD_eq_getElem?_getD, List.getElem?_eq_getElem (by omega)]
    have := hrr _ (List.getElem_mem (by omega : i < r.length))
    simp only [Option.getD_some]
    rw [Int.tmod_eq_emod_of_nonneg this.1]
    omega
  have r0 := rng 0 (by omega)
  have r1 := rng 1 (by omega)
  have r2 := rng 2 (by omega)
  have hvo : vOk v := by
    rw [hv]
    exact vOk3 r0 r1 r2
  rw [← hv]
  have hv3 : v.length = 3 := by rw [hv]; rfl
  have key := order_j0 s t p q hs ht l1 l2
  have a0 : 0 ≤ p.val v := by rw [hv]; exact nn_val r0.1 r1.1 r2.1 p
  have b0 : 0 ≤ q.val v := by rw [hv]; exact nn_val r0.1 r1.1 r2.1 q
  refine Ev.some_bind (Ev.bnd (ev_le_tree hs ht) (Ev.bnd (ev_LevelWitness_tree s t p q o1 o2 (by omega) (by omega) e1 e2) (Ev.some_bind (Ev.pos (by simp only [List.length_nil]; omega) (Ev.bnd (ev_at hs _ (by simpa using hv3) hvo) (Ev.some_bind (Ev.pos (by simp only [List.length_nil]; omega) (Ev.bnd (ev_at ht _ (by simpa using hv3) hvo) ?_))))))))
  have an : ¬ p.val ([] ++ v) < 0 := by show ¬ p.val v < 0; omega
  have bn : ¬ q.val ([] ++ v) < 0 := by show ¬ q.val v < 0; omega
  rw [decide_eq_false bn]
  refine Ev.neg (by cases (wit p q).2 <;> simp) (Ev.ite (fun hle => Ev.neg ?_ (Ev.neg an key)) (fun _ => Ev.neg an key))
  have hw : (wit p q).2 = false := by simpa using hle
  have := wit_le hw (Int.tmod (rd r 0) 40) (Int.tmod (rd r 1) 40) (Int.tmod (rd r 2) 40) r0.1 r1.1 r2.1
  rw [hv]
  show ¬ p.val [Int.tmod (rd r 0) 40, Int.tmod (rd r 1) 40, Int.tmod (rd r 2) 40] > q.val [Int.tmod (rd r 0) 40, Int.tmod (rd r 1) 40, Int.tmod (rd r 2) 40]
  omega
end Go.Proofs.Ytjnfehajgogjiaa.Pure
