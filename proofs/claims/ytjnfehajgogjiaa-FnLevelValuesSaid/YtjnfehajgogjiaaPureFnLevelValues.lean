/- The law FnLevelValues answers true at every input. No condition. -/
import Derived.Test.YtjnfehajgogjiaaQ10
import Derived.Test.YtjnfehajgogjiaaQ14
import Derived.Test.YtjnfehajgogjiaaLvS
import Derived.Test.YtjnfehajgogjiaaLvD
namespace Go.Proofs.Ytjnfehajgogjiaa.Pure
set_option linter.unusedSimpArgs false
set_option linter.unusedVariables false
open Go.RowKit Go.Proofs.Ytjnfehajgogjiaa.Q Go.Proofs.Ytjnfehajgogjiaa.Pv Go.Proofs.YtjnfehajgogjiaaW.PrintWords Go.Proofs.YtjnfehajgogjiaaW.PrintLast Go.Proofs.YtjnfehajgogjiaaW.PrintMore
theorem put_over {s : ByteArray} {t : Lv} (hs : Tx s t) (xs : List ByteArray) (ts : List Lv) (h3 : xs.length = 3) (hx : xs.map bytesOf = ts.map Lv.tx) (hz : ∀ x ∈ xs, x.size ≤ 140737488351232) (hsz : 60 < (t.put ts).tx.length) :
    Ev (fun k => impl_LevelPut.f k s xs) (⟨#[]⟩, false) ∧ Ev (fun k => spec_LevelPut.f k s xs) (⟨#[]⟩, false) := by
  have hlen : ts.length = 3 := by rw [← List.length_map (f := Lv.tx), ← hx, List.length_map, h3]
  have hp := params_le t hs.ok
  have hsub : t.sub (xs.map bytesOf) = (t.put ts).tx := by rw [hx]; exact sub_put ts t (by omega)
  have hv : lvPut t xs = (⟨#[]⟩, false) := by
    unfold lvPut putEnd
    rw [if_neg (by omega), hsub, if_pos hsz]
    split <;> rfl
  rw [← hv]
  exact ⟨ev_LevelPut s xs (by omega) t hs.ok hs.small hs.tx, ev_spec_LevelPut s xs (by omega) hz t hs.ok hs.small hs.tx⟩
theorem ev_at3 {s : ByteArray} {a : Lv} (hs : Tx s a) (v : List Int) (h3 : v.length = 3) (hv : vOk v) : Ev (fun k => impl_LevelAt.f k s v) (a.val v) := by
  have := ev_LevelAt s v (by omega) a hs.ok hs.small hs.tx
  rwa [lvAt_ok a v hv (by omega) (by have := params_le a hs.ok; omega)] at this
theorem FnLevelValues : laws_FnLevelValues.Pure := by
  intro l _ hl _
  refine Ev.rounds ?_
  unfold laws_FnLevelValues.f
  have hb : ∃ b, laws_big.f l = some b ∧ (b = false → l.length ≤ 1048576) := ⟨_, rfl, fun h => by have := of_decide_eq_false h; omega⟩
  obtain ⟨b, eb, hbig⟩ := hb
  rw [eb]
  refine Ev.some_bind (Ev.ite (fun _ => Ev.val rfl) (fun hnb => ?_))
  have hl2 := hbig (Bool.eq_false_iff.2 hnb)
  obtain ⟨s, t, p, q, he, e1, o1, l1, e2, o2, l2⟩ := ev_DrawLevels l (by omega)
  obtain ⟨s', t', p', q', he', e1', o1', l1', e2', o2', l2'⟩ := ev_DrawLevels ([5] ++ l) (by simp only [List.length_append, List.length_cons, List.length_nil]; omega)
  obtain ⟨r, hr, hr12, hrr⟩ := ev_DrawPlaces l (by omega)
  have hs : Tx s p := ⟨o1, by omega, e1⟩
  have ht : Tx t q := ⟨o2, by omega, e2⟩
  have hs' : Tx s' p' := ⟨o1', by omega, e1'⟩
  have ht' : Tx t' q' := ⟨o2', by omega, e2'⟩
  have ss : s.size = p.tx.length := size_tx e1
  have st : t.size = q.tx.length := size_tx e2
  have ss' : s'.size = p'.tx.length := size_tx e1'
  have st' : t'.size = q'.tx.length := size_tx e2'
  obtain ⟨v, hv⟩ : ∃ v : List Int, v = [Int.tmod (rd r 0) 5, Int.tmod (rd r 1) 5, Int.tmod (rd r 2) 5] := ⟨_, rfl⟩
  have rng : ∀ i : Nat, i < 12 → 0 ≤ Int.tmod (rd r (i : Int)) 5 ∧ Int.tmod (rd r (i : Int)) 5 ≤ 4 := by
    intro i hi
    rw [rd_getD, List.getD_eq_getElem?_getD, List.getElem?_eq_getElem (by omega)]
    have := hrr _ (List.getElem_mem (by omega : i < r.length))
    simp only [Option.getD_some]
    rw [Int.tmod_eq_emod_of_nonneg this.1]
    omega
  have hv4 : ∀ x ∈ v, 0 ≤ x ∧ x ≤ 4 := by
    rw [hv]
    intro x hx
    simp only [List.mem_cons, List.not_mem_nil, or_false] at hx
    rcases hx with rfl | rfl | rfl
    · exact rng 0 (by omega)
    · exact rng 1 (by omega)
    · exact rng 2 (by omega)
  have hvo : vOk v := fun x hx => by have := hv4 x hx; omega
  have hv3 : v.length = 3 := by rw [hv]; rfl
  have vb := fun (a : Lv) => val_bounds v 4 (by omega) hv4 a
  have hup := ups_le p
  have huq := ups_le q
  have hup' := ups_le p'
  have huq' := ups_le q'
  have bp := vb p
  have bq := vb q
  have bp' := vb p'
  have bq' := vb q'
  have hw : vOk [q.val v, p'.val v, q'.val v] := vOk3 (by omega) (by omega) (by omega)
  refine Ev.bnd he (Ev.some_bind (Ev.pos (by simp only [List.length_cons, List.length_nil]; omega) (Ev.bnd he' (Ev.bnd hr (Ev.pos (by omega) (Ev.pos (by omega) (Ev.pos (by omega) ?_)))))))
  rw [← hv]
  refine Ev.some_bind ?_
  dsimp only
  have xsz : ∀ x ∈ [t, s', t'], x.size ≤ 140737488351232 := by
    intro x hx
    simp only [List.mem_cons, List.not_mem_nil, or_false] at hx
    rcases hx with rfl | rfl | rfl <;> omega
  have hmap : [t, s', t'].map bytesOf = [q, p', q'].map Lv.tx := by simp [e2, e1', e2']
  by_cases hfit : (p.put [q, p', q']).tx.length ≤ 60
  · obtain ⟨x, ex, tx⟩ := put_fits hs [t, s', t'] [q, p', q'] rfl hmap (by simp [o2, o1', o2']) (by simp; omega) hfit
    have hpv : (p.put [q, p', q']).val v = p.val [q.val v, p'.val v, q'.val v] := put_val [q, p', q'] v p
    have hsu := tx_s hs (by omega)
    have one : ∀ c : UInt8, (⟨#[c]⟩ : ByteArray).size = 1 := fun _ => rfl
    have ups : Ev (fun k => impl_LevelUps.f k s) (p.ups : Int) := Ev.cast (ev_LevelUps s) (by rw [e1]; exact lvUps_tree p o1 (by omega))
    refine Ev.bnd ex (Ev.pos rfl ?_)
    dsimp only
    refine Ev.some_bind (Ev.pos (by simp only [List.length_nil]; omega) (Ev.bnd (ev_at3 ht _ (by simpa using hv3) hvo) (Ev.some_bind (Ev.pos (by simp only [List.length_nil]; omega) (Ev.bnd (ev_at3 hs' _ (by simpa using hv3) hvo) (Ev.some_bind (Ev.pos (by simp only [List.length_nil]; omega) (Ev.bnd (ev_at3 ht' _ (by simpa using hv3) hvo) (Ev.some_bind (Ev.pos (by simp only [List.length_nil]; omega) (Ev.bnd (ev_at3 hs _ (by simpa using hv3) hvo) (Ev.some_bind (Ev.pos (by simp only [List.length_nil]; omega) (Ev.bnd (ev_at3 tx _ (by simpa using hv3) hvo) (Ev.bnd (ev_at3 hs _ rfl hw) ?_)))))))))))))))
    refine Ev.pos hpv (Ev.pos bp.1 (Ev.pos (by omega) (Ev.some_bind (Ev.pos (by simp only [List.length_nil]; omega) (Ev.bnd (ev_at3 hsu _ (by simpa using hv3) hvo) (Ev.pos ?_ (Ev.bnd ups (Ev.val ?_))))))))
    · show p.val v + 1 = wrap64 (p.val v + 1)
      rw [w_id (by omega) (by omega)]
    · apply decide_eq_true
      show p.val v ≤ wrap64 (4 + (p.ups : Int))
      rw [w_id (by omega) (by omega)]
      omega
  · obtain ⟨h1, h2⟩ := put_over hs [t, s', t'] [q, p', q'] rfl hmap xsz (by omega)
    exact Ev.bnd h1 (Ev.neg (by simp) (Ev.bnd h2 (Ev.val rfl)))
end Go.Proofs.Ytjnfehajgogjiaa.Pure
