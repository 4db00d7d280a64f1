/- Putting levels into a level: both the program and the reference build, byte by byte, the text in which each parameter is replaced. No condition but sound lengths. -/
import Derived.Test.YtjnfehajgogjiaaQ10
import Derived.Test.YtjnfehajgogjiaaQ2
import Derived.Test.YtjnfehajgogjiaaQ3
import Derived.Test.YtjnfehajgogjiaaLvP
import Derived.Test.YtjnfehajgogjiaaSl
namespace Go.Proofs.Ytjnfehajgogjiaa.Pv
set_option linter.unusedSimpArgs false
set_option linter.unusedVariables false
open Go.RowKit Go.Proofs.Ytjnfehajgogjiaa.Q Go.Proofs.YtjnfehajgogjiaaW.PrintWords Go.Proofs.YtjnfehajgogjiaaW.PrintLast Go.Proofs.YtjnfehajgogjiaaW.PrintMore
def Lv.sub (xs : List (List Int)) : Lv → List Int
  | .z => [122]
  | .s a => 43 :: a.sub xs
  | .m a b => 109 :: (a.sub xs ++ b.sub xs)
  | .i a b => 105 :: (a.sub xs ++ b.sub xs)
  | .u k => xs.getD k []
theorem sub_put (ts : List Lv) (t : Lv) (h : t.params ≤ ts.length) : t.sub (ts.map Lv.tx) = (t.put ts).tx := by
  induction t with
  | z => rfl
  | s a ih => simp only [Lv.sub, Lv.put, Lv.tx, ih h]
  | m a b iha ihb => simp only [Lv.params] at h; simp only [Lv.sub, Lv.put, Lv.tx, iha (by omega), ihb (by omega)]
  | i a b iha ihb => simp only [Lv.params] at h; simp only [Lv.sub, Lv.put, Lv.tx, iha (by omega), ihb (by omega)]
  | u k =>
    simp only [Lv.params] at h
    simp only [Lv.sub, Lv.put]
    rw [List.getD_eq_getElem?_getD, List.getD_eq_getElem?_getD, List.getElem?_map, List.getElem?_eq_getElem (by omega)]
    rfl
theorem sub_len (xs : List (List Int)) (hx : ∀ x ∈ xs, x.length ≤ 60) (t : Lv) : (t.sub xs).length ≤ 60 * t.tx.length := by
  induction t with
  | z => simp [Lv.sub, Lv.tx]
  | s a ih => simp only [Lv.sub, Lv.tx, List.length_cons]; omega
  | m a b iha ihb => simp only [Lv.sub, Lv.tx, List.length_cons, List.length_append]; omega
  | i a b iha ihb => simp only [Lv.sub, Lv.tx, List.length_cons, List.length_append]; omega
  | u k =>
    simp only [Lv.sub, Lv.tx, List.length_cons, List.length_nil]
    rw [List.getD_eq_getElem?_getD]
    cases e : xs[k]? with
    | none => simp
    | some x =>
      have := hx x (List.mem_of_getElem? e)
      simp only [Option.getD_some]
      omega
theorem drop_tx {s : ByteArray} {a : Nat} {t l : List Int} (h : (bytesOf s).drop a = t ++ l) : (bytesOf s).drop (a + t.length) = l := by
  rw [← List.drop_drop, h, List.drop_left]
theorem put_loop (s : ByteArray) (xs : List ByteArray) (hx : ∀ x ∈ xs, x.size ≤ 60) (L : Nat → List Int → Int → Option (ByteArray × Bool)) (r : ByteArray × Bool)
    (hc : ∀ (a : Nat) (c : Int) (l acc : List Int), (bytesOf s).drop a = c :: l → c ≠ 117 → acc.length < 1000000000 → Ev (fun k => L k (acc ++ [c]) ((a + 1 : Nat) : Int)) r → Ev (fun k => L k acc (a : Int)) r)
    (hu : ∀ (a j : Nat) (l acc : List Int) (hj : j < xs.length), (bytesOf s).drop a = 117 :: (48 + (j : Int)) :: l → j < 3 → acc.length < 1000000000 → Ev (fun k => L k (acc ++ bytesOf xs[j]) ((a + 2 : Nat) : Int)) r → Ev (fun k => L k acc (a : Int)) r) :
    ∀ (t : Lv) (a : Nat) (l acc : List Int), t.ok → t.params ≤ xs.length → (bytesOf s).drop a = t.tx ++ l → acc.length + 60 * t.tx.length < 1000000000 →
      Ev (fun k => L k (acc ++ t.sub (xs.map bytesOf)) ((a + t.tx.length : Nat) : Int)) r → Ev (fun k => L k acc (a : Int)) r := by
  have hb : ∀ x ∈ xs.map bytesOf, x.length ≤ 60 := by
    intro x hxm
    obtain ⟨y, hy, rfl⟩ := List.mem_map.1 hxm
    rw [bl_length]
    exact hx y hy
  intro t
  induction t with
  | z =>
    intro a l acc _ _ h hl hr
    exact hc a 122 l acc h (by omega) (by simp only [Lv.tx, List.length_cons, List.length_nil] at hl; omega) hr
  | s t ih =>
    intro a l acc ho hp h hl hr
    have h : (bytesOf s).drop a = 43 :: (t.tx ++ l) := h
    simp only [Lv.tx, List.length_cons] at hl hr
    have hd : (bytesOf s).drop (a + 1) = t.tx ++ l := drop_tx (t := [43]) h
    refine hc a 43 _ acc h (by omega) (by omega) (ih (a + 1) l _ ho hp hd (by simp only [List.length_append, List.length_cons, List.length_nil]; omega) ?_)
    rw [show a + 1 + t.tx.length = a + (t.tx.length + 1) from by omega, List.append_assoc]
    exact hr
  | m x y ihx ihy =>
    intro a l acc ho hp h hl hr
    have h : (bytesOf s).drop a = 109 :: ((x.tx ++ y.tx) ++ l) := h
    simp only [Lv.tx, List.length_cons, List.length_append] at hl hr
    simp only [Lv.params] at hp
    have hd : (bytesOf s).drop (a + 1) = x.tx ++ (y.tx ++ l) := by
      rw [← List.append_assoc]
      exact drop_tx (t := [109]) h
    have hsx := sub_len _ hb x
    refine hc a 109 _ acc h (by omega) (by omega) (ihx (a + 1) _ _ ho.1 (by omega) hd (by simp only [List.length_append, List.length_cons, List.length_nil]; omega) ?_)
    refine ihy (a + 1 + x.tx.length) l _ ho.2 (by omega) (drop_tx hd) (by simp only [List.length_append, List.length_cons, List.length_nil]; omega) ?_
    rw [show a + 1 + x.tx.length + y.tx.length = a + (x.tx.length + y.tx.length + 1) from by omega, List.append_assoc, List.append_assoc]
    exact hr
  | i x y ihx ihy =>
    intro a l acc ho hp h hl hr
    have h : (bytesOf s).drop a = 105 :: ((x.tx ++ y.tx) ++ l) := h
    simp only [Lv.tx, List.length_cons, List.length_append] at hl hr
    simp only [Lv.params] at hp
    have hd : (bytesOf s).drop (a + 1) = x.tx ++ (y.tx ++ l) := by
      rw [← List.append_assoc]
      exact drop_tx (t := [105]) h
    have hsx := sub_len _ hb x
    refine hc a 105 _ acc h (by omega) (by omega) (ihx (a + 1) _ _ ho.1 (by omega) hd (by simp only [List.length_append, List.length_cons, List.length_nil]; omega) ?_)
    refine ihy (a + 1 + x.tx.length) l _ ho.2 (by omega) (drop_tx hd) (by simp only [List.length_append, List.length_cons, List.length_nil]; omega) ?_
    rw [show a + 1 + x.tx.length + y.tx.length = a + (x.tx.length + y.tx.length + 1) from by omega, List.append_assoc, List.append_assoc]
    exact hr
  | u j =>
    intro a l acc ho hp h hl hr
    simp only [Lv.params] at hp
    refine hu a j l acc (by omega) h ho (by simp only [Lv.tx, List.length_cons, List.length_nil] at hl; omega) ?_
    have e : (Lv.u j).sub (xs.map bytesOf) = bytesOf (xs[j]'(by omega)) := by
      simp only [Lv.sub]
      rw [List.getD_eq_getElem?_getD, List.getElem?_map, List.getElem?_eq_getElem (by omega)]
      rfl
    rw [e] at hr
    exact hr
def putEnd (l : List Int) : ByteArray × Bool := if 60 < l.length then (⟨#[]⟩, false) else (strOfNums l, true)
def lvPut (t : Lv) (xs : List ByteArray) : ByteArray × Bool :=
  if xs.length < t.params ∨ 3 < xs.length then (⟨#[]⟩, false) else if xs.all (fun x => lvOk (bytesOf x)) = true then putEnd (t.sub (xs.map bytesOf)) else (⟨#[]⟩, false)
theorem all_small {xs : List ByteArray} (h : xs.all (fun x => lvOk (bytesOf x)) = true) : ∀ x ∈ xs, x.size ≤ 60 := by
  intro x hx
  have := List.all_eq_true.1 h x hx
  unfold lvOk at this
  have := (of_decide_eq_true this).1
  rw [bl_length] at this
  exact this
theorem ev_put_end {l : List Int} {L : Nat → Option (ByteArray × Bool)} (h : Ev L (if (l.length : Int) > 60 then ((⟨#[]⟩ : ByteArray), false) else (strOfNums l, true))) : Ev L (putEnd l) := by
  refine Ev.cast h ?_
  unfold putEnd
  by_cases c : 60 < l.length
  · rw [if_pos c, if_pos (by omega)]
  · rw [if_neg c, if_neg (by omega)]
theorem impl_put_l0 (s : ByteArray) (hs : s.size ≤ 60) (xs : List ByteArray) (hx : ∀ x ∈ xs, x.size ≤ 60) (t : Lv) (ho : t.ok) (hp : t.params ≤ xs.length) (e : bytesOf s = t.tx) : Ev (fun k => impl_LevelPut.l0 k s xs [] 0) (putEnd (t.sub (xs.map bytesOf))) := by
  have hl : t.tx.length = s.size := by rw [← e, bl_length]
  refine put_loop s xs hx (fun k acc i => impl_LevelPut.l0 k s xs acc i) _ (fun a c l acc h hc hl hr => ?_) (fun a j l acc hj h h3 hl hr => ?_) t 0 [] [] ho hp (by rw [List.drop_zero, List.append_nil, e]) (by simp only [List.length_nil]; omega) ?_
  · obtain ⟨ha, hb, hd⟩ := drop_cons h
    refine Ev.succ ?_
    simp only [impl_LevelPut.l0]
    rw [hb, wS a (by omega)]
    exact Ev.pos (by omega) (Ev.pos (by omega) (Ev.neg hc (Ev.pos (by omega) hr)))
  · obtain ⟨ha, hb, hd⟩ := drop_cons h
    obtain ⟨ha1, hb1, hd1⟩ := drop_cons hd
    have hxj := hx _ (List.getElem_mem hj)
    refine Ev.succ ?_
    simp only [impl_LevelPut.l0]
    rw [hb, wS a (by omega), hb1, wS (a + 1) (by omega), show (48 + (j : Int) - 48) % 256 = (j : Int) from by omega, rdOf_at _ _ _ hj]
    exact Ev.pos (by omega) (Ev.pos (by omega) (Ev.pos rfl (Ev.pos (by omega) (Ev.pos (by omega) (Ev.pos (by omega) (Ev.pos (by omega) (Ev.pos (by omega) hr)))))))
  · refine Ev.succ ?_
    simp only [impl_LevelPut.l0]
    refine Ev.neg (by omega) (ev_put_end ?_)
    exact Ev.ite (fun h => Ev.val (by rw [if_pos (by simpa using h)])) (fun h => Ev.val (by rw [if_neg (by simpa using h)]; rfl))
theorem spec_put_l1 (s : ByteArray) (hs : s.size ≤ 60) (xs : List ByteArray) (hx : ∀ x ∈ xs, x.size ≤ 60) (t : Lv) (ho : t.ok) (hp : t.params ≤ xs.length) (e : bytesOf s = t.tx) : Ev (fun k => spec_LevelPut.l1 k s xs [] 0) (putEnd (t.sub (xs.map bytesOf))) := by
  have hl : t.tx.length = s.size := by rw [← e, bl_length]
  refine put_loop s xs hx (fun k acc i => spec_LevelPut.l1 k s xs acc i) _ (fun a c l acc h hc hl hr => ?_) (fun a j l acc hj h h3 hl hr => ?_) t 0 [] [] ho hp (by rw [List.drop_zero, List.append_nil, e]) (by simp only [List.length_nil]; omega) ?_
  · obtain ⟨ha, hb, hd⟩ := drop_cons h
    refine Ev.succ ?_
    simp only [spec_LevelPut.l1]
    rw [hb, wS a (by omega)]
    exact Ev.pos (by omega) (Ev.pos (by omega) (Ev.neg hc (Ev.pos (by omega) hr)))
  · obtain ⟨ha, hb, hd⟩ := drop_cons h
    obtain ⟨ha1, hb1, hd1⟩ := drop_cons hd
    have hxj := hx _ (List.getElem_mem hj)
    refine Ev.succ ?_
    simp only [spec_LevelPut.l1]
    rw [hb, wS a (by omega), hb1, wS (a + 1) (by omega), w_id (x := 48 + (j : Int)) (by omega) (by omega), show (48 + (j : Int) - 48) = (j : Int) from by omega, w_id (x := (j : Int)) (by omega) (by omega), rdOf_at _ _ _ hj]
    exact Ev.pos (by omega) (Ev.pos (by omega) (Ev.pos rfl (Ev.pos (by omega) (Ev.pos (by omega) (Ev.pos (by omega) (Ev.pos (by omega) (Ev.pos (by omega) hr)))))))
  · refine Ev.succ ?_
    simp only [spec_LevelPut.l1]
    refine Ev.neg (by omega) (ev_put_end ?_)
    exact Ev.ite (fun h => Ev.val (by rw [if_pos (by simpa using h)])) (fun h => Ev.val (by rw [if_neg (by simpa using h)]; rfl))
theorem ev_bad_put (xs : List ByteArray) (hl : xs.length ≤ 1048576) : Ev (fun k => slices_ContainsFunc_string_string_at_impl_LevelPut_1.f k xs) (!(xs.all fun x => lvOk (bytesOf x))) := by
  unfold slices_ContainsFunc_string_string_at_impl_LevelPut_1.f slices_IndexFunc_string_string_at_impl_LevelPut_1.f
  obtain ⟨r, h1, h2⟩ := ev_idx xs (fun x => !(lvOk (bytesOf x))) (fun k i => slices_IndexFunc_string_string_at_impl_LevelPut_1.l0 k xs (xs.length : Int) i) (by
    refine Ev.succ ?_
    simp only [slices_IndexFunc_string_string_at_impl_LevelPut_1.l0]
    exact Ev.neg (by omega) (Ev.val rfl)) (fun i hi r hy hn => by
    refine Ev.succ ?_
    simp only [slices_IndexFunc_string_string_at_impl_LevelPut_1.l0, impl_LevelPut_1.f]
    rw [rdOf_at _ _ _ hi, wS i (by omega)]
    refine Ev.pos (by omega) (Ev.pos (by omega) (Ev.pos (by omega) (Ev.bnd (Ev.bnd (ev_LevelOk xs[i]) (Ev.val rfl)) ?_)))
    exact Ev.ite (fun h => Ev.val (hy h).symm) (fun h => hn (Bool.eq_false_iff.2 h)))
  refine Ev.bnd h1 (Ev.val ?_)
  rw [h2, List.any_eq_not_all_not]
  simp
theorem ev_LevelPut (s : ByteArray) (xs : List ByteArray) (hxl : xs.length ≤ 1048576) (t : Lv) (ho : t.ok) (hl : t.tx.length ≤ 60) (e : bytesOf s = t.tx) : Ev (fun k => impl_LevelPut.f k s xs) (lvPut t xs) := by
  have hs : s.size ≤ 60 := by rw [← bl_length, e]; exact hl
  unfold impl_LevelPut.f
  refine Ev.bnd (ev_LevelOk s) ?_
  rw [e, lvOk_of ho hl]
  refine Ev.pos rfl (Ev.bnd (ev_LevelParams s) ?_)
  rw [e, lvPar_tree t ho hl]
  have no : Ev (fun k => impl_LevelPut.j0 k s xs true) ((⟨#[]⟩ : ByteArray), false) := by
    refine Ev.succ ?_
    simp only [impl_LevelPut.j0]
    exact Ev.pos trivial (Ev.val rfl)
  unfold lvPut
  by_cases h1 : xs.length < t.params
  · rw [if_pos (.inl h1)]
    exact Ev.pos (by omega) no
  refine Ev.neg (by omega) ?_
  by_cases h2 : 3 < xs.length
  · rw [if_pos (.inr h2)]
    exact Ev.pos (by omega) no
  rw [if_neg (by omega)]
  refine Ev.neg (by omega) (Ev.bnd (ev_bad_put xs hxl) ?_)
  by_cases h3 : xs.all (fun x => lvOk (bytesOf x)) = true
  · rw [if_pos h3, h3]
    refine Ev.succ ?_
    simp only [impl_LevelPut.j0]
    exact Ev.neg (by simp) (impl_put_l0 s hs xs (all_small h3) t ho (by omega) e)
  · rw [if_neg h3, Bool.eq_false_iff.2 h3]
    exact no
theorem ev_LevelPut_no (s : ByteArray) (xs : List ByteArray) (h : lvOk (bytesOf s) = false) : Ev (fun k => impl_LevelPut.f k s xs) (⟨#[]⟩, false) := by
  unfold impl_LevelPut.f
  refine Ev.bnd (ev_LevelOk s) ?_
  rw [h]
  refine Ev.neg (by simp) (Ev.succ ?_)
  simp only [impl_LevelPut.j0]
  exact Ev.pos trivial (Ev.val rfl)
theorem spec_put_l0 (s : ByteArray) (xs : List ByteArray) (hxl : xs.length ≤ 1048576) (hx : ∀ x ∈ xs, x.size ≤ 140737488351232) (R : ByteArray × Bool) (h1 : xs.all (fun x => lvOk (bytesOf x)) = true → Ev (fun k => spec_LevelPut.l1 k s xs [] 0) R) :
    Ev (fun k => spec_LevelPut.l0 k s xs 0) (if xs.all (fun x => lvOk (bytesOf x)) = true then R else (⟨#[]⟩, false)) := by
  have key : ∀ (d i : Nat), i + d = xs.length → (xs.take i).all (fun x => lvOk (bytesOf x)) = true → Ev (fun k => spec_LevelPut.l0 k s xs (i : Int)) (if xs.all (fun x => lvOk (bytesOf x)) = true then R else (⟨#[]⟩, false)) := by
    intro d
    induction d with
    | zero =>
      intro i h hp
      rw [List.take_of_length_le (by omega)] at hp
      rw [if_pos hp]
      refine Ev.succ ?_
      simp only [spec_LevelPut.l0]
      exact Ev.neg (by omega) (h1 hp)
    | succ d ih =>
      intro i h hp
      have hi : i < xs.length := by omega
      refine Ev.succ ?_
      simp only [spec_LevelPut.l0]
      rw [rdOf_at _ _ _ hi, wS i (by omega)]
      refine Ev.pos (by omega) (Ev.pos (by omega) (Ev.bnd (ev_spec_LevelOk xs[i] (hx _ (List.getElem_mem hi))) ?_))
      refine Ev.ite (fun ho => ih (i + 1) (by omega) ?_) (fun ho => Ev.val ?_)
      · rw [← List.take_append_getElem hi, List.all_append, hp]
        simp [ho]
      · have hn : ¬ xs.all (fun x => lvOk (bytesOf x)) = true := fun ha => ho (List.all_eq_true.1 ha xs[i] (List.getElem_mem hi))
        rw [if_neg hn]
  exact key xs.length 0 (by omega) rfl
theorem ev_spec_LevelPut (s : ByteArray) (xs : List ByteArray) (hxl : xs.length ≤ 1048576) (hx : ∀ x ∈ xs, x.size ≤ 140737488351232) (t : Lv) (ho : t.ok) (hl : t.tx.length ≤ 60) (e : bytesOf s = t.tx) : Ev (fun k => spec_LevelPut.f k s xs) (lvPut t xs) := by
  have hs : s.size ≤ 60 := by rw [← bl_length, e]; exact hl
  have no : Ev (fun k => spec_LevelPut.j0 k s xs true) ((⟨#[]⟩ : ByteArray), false) := by
    refine Ev.succ ?_
    simp only [spec_LevelPut.j0]
    exact Ev.pos trivial (Ev.val rfl)
  unfold spec_LevelPut.f lvPut
  refine Ev.bnd (ev_spec_LevelOk s (by omega)) ?_
  rw [e, lvOk_of ho hl]
  refine Ev.pos rfl ?_
  by_cases h2 : 3 < xs.length
  · rw [if_pos (.inr h2)]
    exact Ev.pos (by omega) no
  refine Ev.neg (by omega) (Ev.bnd (ev_spec_LevelParams s (by omega)) ?_)
  rw [e, lvPar_tree t ho hl]
  by_cases h1 : xs.length < t.params
  · rw [if_pos (.inl h1), decide_eq_true (by omega)]
    exact no
  rw [if_neg (by omega), decide_eq_false (by omega)]
  refine Ev.succ ?_
  simp only [spec_LevelPut.j0]
  exact Ev.neg (by simp) (spec_put_l0 s xs hxl hx _ (fun h3 => spec_put_l1 s hs xs (all_small h3) t ho (by omega) e))
theorem ev_spec_LevelPut_no (s : ByteArray) (hs : s.size ≤ 140737488351232) (xs : List ByteArray) (h : lvOk (bytesOf s) = false) : Ev (fun k => spec_LevelPut.f k s xs) (⟨#[]⟩, false) := by
  unfold spec_LevelPut.f
  refine Ev.bnd (ev_spec_LevelOk s hs) ?_
  rw [h]
  refine Ev.neg (by simp) (Ev.succ ?_)
  simp only [spec_LevelPut.j0]
  exact Ev.pos trivial (Ev.val rfl)
end Go.Proofs.Ytjnfehajgogjiaa.Pv
