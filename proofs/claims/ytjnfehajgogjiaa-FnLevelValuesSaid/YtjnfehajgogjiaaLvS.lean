/- Putting in: each parameter by itself changes nothing; levels without parameters put in. No condition beyond the sizes. -/
import Derived.Test.YtjnfehajgogjiaaLvU
import Derived.Test.YtjnfehajgogjiaaLvX
import Derived.Test.YtjnfehajgogjiaaQ3
namespace Go.Proofs.Ytjnfehajgogjiaa.Pv
set_option linter.unusedSimpArgs false
set_option linter.unusedVariables false
open Go.RowKit Go.Proofs.Ytjnfehajgogjiaa.Q Go.Proofs.YtjnfehajgogjiaaW.PrintWords Go.Proofs.YtjnfehajgogjiaaW.PrintLast Go.Proofs.YtjnfehajgogjiaaW.PrintMore
theorem tx_range (t : Lv) (h : t.ok) : ∀ x ∈ t.tx, 0 ≤ x ∧ x ≤ 255 := by
  induction t with
  | z => intro x hx; simp [Lv.tx] at hx; omega
  | s a ih =>
    intro x hx
    simp only [Lv.tx, List.mem_cons] at hx
    rcases hx with rfl | hx
    · omega
    · exact ih h x hx
  | m a b iha ihb =>
    intro x hx
    simp only [Lv.tx, List.mem_cons, List.mem_append] at hx
    rcases hx with rfl | hx | hx
    · omega
    · exact iha h.1 x hx
    · exact ihb h.2 x hx
  | i a b iha ihb =>
    intro x hx
    simp only [Lv.tx, List.mem_cons, List.mem_append] at hx
    rcases hx with rfl | hx | hx
    · omega
    · exact iha h.1 x hx
    · exact ihb h.2 x hx
  | u k =>
    intro x hx
    have hk : k < 3 := h
    simp only [Lv.tx, List.mem_cons, List.not_mem_nil, or_false] at hx
    omega
/-- What LevelPut makes where all fits. -/
theorem put_fits {s : ByteArray} {t : Lv} (hs : Tx s t) (xs : List ByteArray) (ts : List Lv) (h3 : xs.length = 3) (hx : xs.map bytesOf = ts.map Lv.tx) (ho : ∀ u ∈ ts, u.ok) (hl : ∀ u ∈ ts, u.tx.length ≤ 60) (hsz : (t.put ts).tx.length ≤ 60) :
    ∃ r, Ev (fun k => impl_LevelPut.f k s xs) (r, true) ∧ Tx r (t.put ts) := by
  have hlen : ts.length = 3 := by rw [← List.length_map (f := Lv.tx), ← hx, List.length_map, h3]
  have hp := params_le t hs.ok
  have hall : xs.all (fun x => lvOk (bytesOf x)) = true := by
    rw [List.all_eq_true]
    intro x hxm
    have : bytesOf x ∈ ts.map Lv.tx := by rw [← hx]; exact List.mem_map_of_mem hxm
    obtain ⟨u, hu, e⟩ := List.mem_map.1 this
    rw [← e]
    exact lvOk_of (ho u hu) (hl u hu)
  have hsub : t.sub (xs.map bytesOf) = (t.put ts).tx := by rw [hx]; exact sub_put ts t (by omega)
  have hv : lvPut t xs = (strOfNums (t.put ts).tx, true) := by
    unfold lvPut putEnd
    rw [if_neg (by omega), if_pos hall, hsub, if_neg (by omega)]
  refine ⟨strOfNums (t.put ts).tx, ?_, ⟨put_ok ts ho t, hsz, bl_nums (tx_range _ (put_ok ts ho t))⟩⟩
  rw [← hv]
  exact ev_LevelPut s xs (by omega) t hs.ok hs.small hs.tx
theorem put_self (t : Lv) (h : t.ok) : t.put [.u 0, .u 1, .u 2] = t := by
  induction t with
  | z => rfl
  | s a ih => simp only [Lv.put, ih h]
  | m a b iha ihb => simp only [Lv.put, iha h.1, ihb h.2]
  | i a b iha ihb => simp only [Lv.put, iha h.1, ihb h.2]
  | u k =>
    have hk : k < 3 := h
    match k, hk with
    | 0, _ => rfl
    | 1, _ => rfl
    | 2, _ => rfl
theorem put_zero (t : Lv) (h : t.ok) : (t.put [.z, .z, .z]).params = 0 ∧ (t.put [.z, .z, .z]).ups = t.ups ∧ (t.put [.z, .z, .z]).tx.length ≤ t.tx.length := by
  induction t with
  | z => exact ⟨rfl, rfl, Nat.le_refl _⟩
  | s a ih =>
    obtain ⟨h1, h2, h3⟩ := ih h
    simp only [Lv.put, Lv.params, Lv.ups, Lv.tx, List.length_cons]
    omega
  | m a b iha ihb =>
    obtain ⟨h1, h2, h3⟩ := iha h.1
    obtain ⟨g1, g2, g3⟩ := ihb h.2
    simp only [Lv.put, Lv.params, Lv.ups, Lv.tx, List.length_cons, List.length_append]
    omega
  | i a b iha ihb =>
    obtain ⟨h1, h2, h3⟩ := iha h.1
    obtain ⟨g1, g2, g3⟩ := ihb h.2
    simp only [Lv.put, Lv.params, Lv.ups, Lv.tx, List.length_cons, List.length_append]
    omega
  | u k =>
    have hk : k < 3 := h
    match k, hk with
    | 0, _ => exact ⟨rfl, rfl, by decide⟩
    | 1, _ => exact ⟨rfl, rfl, by decide⟩
    | 2, _ => exact ⟨rfl, rfl, by decide⟩
end Go.Proofs.Ytjnfehajgogjiaa.Pv
