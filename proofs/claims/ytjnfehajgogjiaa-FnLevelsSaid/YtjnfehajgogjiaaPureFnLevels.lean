/- The law FnLevels answers true at every input. No condition. -/
import Derived.Test.YtjnfehajgogjiaaQ7
import Derived.Test.YtjnfehajgogjiaaLvS
import Derived.Test.YtjnfehajgogjiaaLvD
namespace Go.Proofs.Ytjnfehajgogjiaa.Pure
set_option linter.unusedSimpArgs false
set_option linter.unusedVariables false
open Go.RowKit Go.Proofs.Ytjnfehajgogjiaa.Q Go.Proofs.Ytjnfehajgogjiaa.Pv Go.Proofs.YtjnfehajgogjiaaW.PrintWords Go.Proofs.YtjnfehajgogjiaaW.PrintLast Go.Proofs.YtjnfehajgogjiaaW.PrintMore
theorem FnLevels : laws_FnLevels.Pure := by
  intro l _ hl _
  refine Ev.rounds ?_
  unfold laws_FnLevels.f
  have hb : ∃ b, laws_big.f l = some b := ⟨_, rfl⟩
  obtain ⟨b, eb⟩ := hb
  rw [eb]
  refine Ev.some_bind (Ev.ite (fun _ => Ev.val rfl) (fun _ => ?_))
  obtain ⟨s, t, p, q, he, e1, o1, l1, e2, o2, l2⟩ := ev_DrawLevels l (by omega)
  have hs : Tx s p := ⟨o1, by omega, e1⟩
  have ht : Tx t q := ⟨o2, by omega, e2⟩
  have ss : s.size = p.tx.length := size_tx e1
  have st : t.size = q.tx.length := size_tx e2
  have hsu := tx_s hs (by omega)
  have hm := tx_m hs ht (by omega)
  obtain ⟨hz1, hz2, hz3⟩ := put_zero (.s p) o1
  obtain ⟨r1, er1, tr1⟩ := put_fits hs [⟨#[117, 48]⟩, ⟨#[117, 49]⟩, ⟨#[117, 50]⟩] [.u 0, .u 1, .u 2] rfl rfl (by simp [Lv.ok]) (by simp [Lv.tx]) (by rw [put_self p o1]; omega)
  obtain ⟨r2, er2, tr2⟩ := put_fits hsu [⟨#[122]⟩, ⟨#[122]⟩, ⟨#[122]⟩] [.z, .z, .z] rfl rfl (by simp [Lv.ok]) (by simp [Lv.tx]) (by simp only [Lv.tx, List.length_cons] at hz3 ⊢; omega)
  have one : ∀ c : UInt8, (⟨#[c]⟩ : ByteArray).size = 1 := fun _ => rfl
  have hrs : r1 = s := bl_inj (by rw [tr1.tx, put_self p o1, e1])
  have hcat : bytesOf (s ++ t) = p.tx ++ q.tx := by rw [bl_append, e1, e2]
  have hcs : (s ++ t).size = p.tx.length + q.tx.length := by rw [size_append]; omega
  have end0 : Ev (fun k => impl_LevelEnd.f k (s ++ t) 0) (s.size : Int) := by
    have h := ev_LevelEnd (s ++ t) (by omega) 0 (by omega)
    rw [List.drop_zero, hcat, scan_tx p o1 q.tx 0, scan_zero] at h
    refine Ev.cast h ?_
    simp only [endAt]
    omega
  have end1 : Ev (fun k => impl_LevelEnd.f k (s ++ t) (s.size : Int)) (((s.size : Int)) + ((t.size : Int))) := by
    have h := ev_LevelEnd (s ++ t) (by omega) s.size (by omega)
    have hd : (p.tx ++ q.tx).drop s.size = q.tx := by rw [ss]; exact List.drop_left
    have e := scan_tx q o2 [] 0
    rw [List.append_nil] at e
    rw [hcat, hd, e, scan_zero] at h
    refine Ev.cast h ?_
    simp only [endAt, List.length_nil]
    omega
  have notok : Ev (fun k => impl_LevelOk.f k (s ++ t)) false := by
    have h := ev_LevelOk (s ++ t)
    rw [hcat] at h
    refine Ev.cast h ?_
    unfold lvOk
    rw [scan_tx p o1 q.tx 0, scan_zero]
    exact decide_eq_false (fun e => tx_ne q (Option.some.inj e.2))
  have ok1 : Ev (fun k => impl_LevelOk.f k s) true := Ev.cast (ev_LevelOk s) (by rw [e1]; exact lvOk_of o1 (by omega))
  have ups : ∀ {x : ByteArray} {y : Lv}, Tx x y → Ev (fun k => impl_LevelUps.f k x) (y.ups : Int) := fun {x y} h => Ev.cast (ev_LevelUps x) (by rw [h.tx]; exact lvUps_tree y h.ok h.small)
  have par : ∀ {x : ByteArray} {y : Lv}, Tx x y → Ev (fun k => impl_LevelParams.f k x) (y.params : Int) := fun {x y} h => Ev.cast (ev_LevelParams x) (by rw [h.tx]; exact lvPar_tree y h.ok h.small)
  have hup := ups_le p
  have huq := ups_le q
  refine Ev.bnd he ?_
  dsimp only
  refine (Ev.bnd er1 (Ev.pos (by omega) (Ev.bnd er2 (Ev.pos rfl (Ev.pos rfl (Ev.pos (by rw [hrs]) (Ev.bnd ok1 (Ev.pos rfl (Ev.pos (by omega) (Ev.bnd end0 (Ev.pos rfl (Ev.bnd end1 (Ev.pos ?_ (Ev.pos (by rw [size_append, one]; omega) (Ev.bnd (ups hm) (Ev.bnd (ups hs) (Ev.bnd (ups ht) (Ev.pos ?_ (Ev.bnd (par tr2) (Ev.pos ?_ (Ev.bnd (ups tr2) (Ev.pos ?_ (Ev.bnd (par hs) (Ev.pos ?_ (Ev.bnd notok (Ev.val rfl))))))))))))))))))))))))))
  · rw [w_id (by omega) (by omega)]
  · rw [w_id (by omega) (by omega)]
    simp only [Lv.ups]
    omega
  · rw [hz1]
    rfl
  · rw [w_id (by omega) (by omega), hz2]
    simp only [Lv.ups]
    omega
  · have := params_le p o1
    omega
end Go.Proofs.Ytjnfehajgogjiaa.Pure
