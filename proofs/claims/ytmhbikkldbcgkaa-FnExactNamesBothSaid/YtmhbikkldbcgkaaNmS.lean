/- The reference's sorted names: the names in ascending order, each once; the program's union of names comes to the same list. No condition beyond the sizes. -/
import Derived.Test.YtmhbikkldbcgkaaBo
import Derived.Sort.Walk0
import Derived.Test.YtmhbikkldbcgkaaQ2
import Derived.Test.YtmhbikkldbcgkaaQ3
namespace Go.Proofs.Ytmhbikkldbcgkaa.Pv
set_option linter.unusedSimpArgs false
set_option linter.unusedVariables false
open Go.RowKit Go.Proofs.Ytmhbikkldbcgkaa.Q Go.Proofs.YtmhbikkldbcgkaaW.PrintWords Go.Proofs.YtmhbikkldbcgkaaW.PrintLast Go.Proofs.YtmhbikkldbcgkaaW.PrintMore
abbrev nmGet (xs : List ByteArray) (i : Nat) : ByteArray := xs.getD i ByteArray.empty
theorem rdS_nat (xs : List ByteArray) (i : Nat) : rdOf ByteArray.empty xs (i : Int) = nmGet xs i := rfl
theorem nmGet_drop (xs : List ByteArray) (i : Nat) (h : i < xs.length) : xs.drop i = nmGet xs i :: xs.drop (i + 1) := by
  rw [List.drop_eq_getElem_cons h]
  congr 1
  unfold nmGet
  rw [List.getD_eq_getElem?_getD, List.getElem?_eq_getElem h]
  rfl
theorem nm_last (out : List ByteArray) (h : out.length ≠ 0) : out.getLast? = some (nmGet out (out.length - 1)) := by
  rw [List.getLast?_eq_getElem?]
  unfold nmGet
  rw [List.getD_eq_getElem?_getD, List.getElem?_eq_getElem (by omega)]
  rfl
theorem ev_pushS {β : Type} (out : List ByteArray) (x : ByteArray) (M : Nat) (K : Nat → List ByteArray → Option β) (r : β) (hb : out.length < M) (hb2 : out.length < 4611686018427387904)
    (h : ∀ out', Push out x out' → Ev (fun k => K k out') r) :
    Ev (fun k => if (out.length : Int) = 0 then (if out.length < M then K k (out ++ [x]) else none) else
      (if 0 ≤ wrap64 ((out.length : Int) - 1) then (if wrap64 ((out.length : Int) - 1) < (out.length : Int) then
        (if (rdOf ByteArray.empty out (wrap64 ((out.length : Int) - 1))).toList = x.toList then K k out else
          (if out.length < M then K k (out ++ [x]) else none)) else none) else none)) r := by
  by_cases h0 : out.length = 0
  · refine Ev.pos (by omega) (Ev.pos hb (h _ (.inl ⟨rfl, fun o ho => ?_⟩)))
    rw [List.eq_nil_of_length_eq_zero h0] at ho
    cases ho
  · have hw : wrap64 ((out.length : Int) - 1) = ((out.length - 1 : Nat) : Int) := by
      unfold wrap64
      omega
    rw [hw, rdS_nat]
    have hl := nm_last out h0
    refine Ev.neg (by omega) (Ev.pos (by omega) (Ev.pos (by omega) (Ev.ite (fun hn => h _ (.inr ⟨rfl, ?_⟩)) (fun hn => Ev.pos hb (h _ (.inl ⟨rfl, fun o ho => ?_⟩))))))
    · rw [hl]
      congr 1
      exact toList_eq_iff.1 hn
    · rw [hl] at ho
      cases ho
      exact fun e => hn (by rw [e])
theorem mem_cons_dropS {α : Type} {z x : α} {out out' a a' b R : List α} (hm : ∀ z, z ∈ R ↔ z ∈ out ∨ z ∈ a ∨ z ∈ b) (ha : a = x :: a') (ho : ∀ z, z ∈ out' ↔ z ∈ out ∨ z = x) : z ∈ R ↔ z ∈ out' ∨ z ∈ a' ∨ z ∈ b := by
  rw [hm, ho, ha, List.mem_cons]
  constructor
  · rintro (h | (h | h) | h) <;> simp [h]
  · rintro ((h | h) | h | h) <;> simp [h]
theorem merge_loopS (a b R : List ByteArray) (hs : a.length + b.length ≤ 1048576) (hR : Rises sLess R) : ∀ (d i j : Nat) (out : List ByteArray), i + j + d = a.length + b.length → i ≤ a.length → j ≤ b.length →
    Mrg sLess out (a.drop i) (b.drop j) → out.length ≤ i + j → (∀ z, z ∈ R ↔ z ∈ out ∨ z ∈ a.drop i ∨ z ∈ b.drop j) → Ev (fun k => spec_l02Sorted.l0 k a b out (i : Int) (j : Int)) R := by
  intro d
  induction d with
  | zero =>
    intro i j out h hi hj m _ hm
    refine Ev.succ ?_
    simp only [spec_l02Sorted.l0]
    refine Ev.neg (by omega) ?_
    rw [decide_eq_false (by omega)]
    refine Ev.succ ?_
    simp only [spec_l02Sorted.j1]
    refine Ev.neg (by simp) (Ev.val ?_)
    refine rises_one sLess_so m.ro hR fun z => ?_
    rw [hm, List.drop_eq_nil_iff.2 (by omega), List.drop_eq_nil_iff.2 (by omega)]
    simp
  | succ d ih =>
    intro i j out h hi hj m hl hm
    have left : i < a.length → (∀ y ∈ b.drop j, sLess y (nmGet a i) = false) → Ev (fun k => spec_l02Sorted.j2 k a b out (i : Int) (j : Int) true) R := by
      intro hia hx
      have hd := nmGet_drop a i hia
      refine Ev.succ ?_
      simp only [spec_l02Sorted.j2]
      rw [rdS_nat, wS i (by omega)]
      refine Ev.pos trivial (Ev.pos (by omega) (Ev.pos (by omega) (ev_pushS out (nmGet a i) _ (fun k o => spec_l02Sorted.l0 k a b o ((i + 1 : Nat) : Int) (j : Int)) R (by omega) (by omega) fun out' hp => ?_)))
      rw [hd] at m
      obtain ⟨m', hmem, hlen⟩ := m.push sLess_so hp hx
      exact ih (i + 1) j out' (by omega) (by omega) hj m' (by omega) fun z => mem_cons_dropS hm hd hmem
    have right : j < b.length → (∀ y ∈ a.drop i, sLess y (nmGet b j) = false) → Ev (fun k => spec_l02Sorted.j2 k a b out (i : Int) (j : Int) false) R := by
      intro hjb hx
      have hd := nmGet_drop b j hjb
      refine Ev.succ ?_
      simp only [spec_l02Sorted.j2]
      rw [rdS_nat, wS j (by omega)]
      refine Ev.neg (by simp) (Ev.pos (by omega) (Ev.pos (by omega) (ev_pushS out (nmGet b j) _ (fun k o => spec_l02Sorted.l0 k a b o (i : Int) ((j + 1 : Nat) : Int)) R (by omega) (by omega) fun out' hp => ?_)))
      rw [hd] at m
      obtain ⟨m', hmem, hlen⟩ := m.swap.push sLess_so hp hx
      exact ih i (j + 1) out' (by omega) hi (by omega) m'.swap (by omega) fun z => (mem_cons_dropS (fun z => (hm z).trans (or_congr Iff.rfl Or.comm)) hd hmem).trans (or_congr Iff.rfl Or.comm)
    have go : Ev (fun k => spec_l02Sorted.j1 k a b out (i : Int) (j : Int) true) R := by
      refine Ev.succ ?_
      simp only [spec_l02Sorted.j1]
      rw [rdS_nat, rdS_nat]
      refine Ev.pos trivial (Ev.ite (fun h1 => left (by omega) ?_) (fun h1 => Ev.ite (fun h2 => Ev.pos (by omega) (Ev.pos (by omega) (Ev.pos (by omega) ?_))) (fun h2 => right (by omega) ?_)))
      · rw [List.drop_eq_nil_iff.2 (by omega)]
        simp
      · cases hq : Op.bytesLess (nmGet b j).toList (nmGet a i).toList with
        | false =>
          refine left (by omega) fun y hy => ?_
          rw [nmGet_drop b j (by omega)] at hy
          rcases List.mem_cons.1 hy with rfl | hy
          · exact hq
          · have hb := m.rb
            rw [nmGet_drop b j (by omega)] at hb
            cases hc : sLess y (nmGet a i) with
            | false => rfl
            | true =>
              have := sLess_so.tr _ _ _ ((List.pairwise_cons.1 hb).1 y hy) hc
              rw [show sLess (nmGet b j) (nmGet a i) = false from hq] at this
              cases this
        | true =>
          refine right (by omega) fun y hy => ?_
          rw [nmGet_drop a i (by omega)] at hy
          rcases List.mem_cons.1 hy with rfl | hy
          · exact sLess_so.asym hq
          · have ha := m.ra
            rw [nmGet_drop a i (by omega)] at ha
            exact sLess_so.asym (sLess_so.tr _ _ _ hq ((List.pairwise_cons.1 ha).1 y hy))
      · rw [List.drop_eq_nil_iff.2 (by omega)]
        simp
    refine Ev.succ ?_
    simp only [spec_l02Sorted.l0]
    refine Ev.ite (fun _ => go) (fun h1 => ?_)
    rw [decide_eq_true (by omega)]
    exact go
theorem ev_sortedS : ∀ (n : Nat) (l : List ByteArray), l.length ≤ n → l.length ≤ 1048576 → Ev (fun k => spec_l02Sorted.f k l) (srtD sLess l) := by
  intro n
  induction n with
  | zero =>
    intro l hn _
    obtain rfl : l = [] := List.eq_nil_of_length_eq_zero (by omega)
    refine Ev.succ ?_
    simp only [spec_l02Sorted.f]
    exact Ev.pos (by simp) (Ev.some_bind (Ev.pos (by simp) (Ev.val rfl)))
  | succ n ih =>
    intro l hn hl
    refine Ev.succ ?_
    simp only [spec_l02Sorted.f]
    have hw : wrap64 ((l.length : Int) / 2) = ((l.length / 2 : Nat) : Int) := by
      unfold wrap64
      omega
    refine Ev.ite (fun h2 => Ev.some_bind (a := ([] : List ByteArray)) (Ev.pos (by rw [List.length_nil]; omega) (Ev.val ?_))) (fun h2 => ?_)
    · rw [List.nil_append]
      refine (srtD_of_rises sLess_so ?_).symm
      match l, h2 with
      | [], _ => exact List.Pairwise.nil
      | [x], _ => exact List.pairwise_singleton _ _
      | x :: y :: l, h2 =>
        simp only [List.length_cons] at h2
        omega
    · rw [hw, Int.toNat_natCast]
      have ht : (l.take (l.length / 2)).length = l.length / 2 := by
        rw [List.length_take]
        omega
      have hd : (l.drop (l.length / 2)).length = l.length - l.length / 2 := List.length_drop
      refine Ev.pos (by omega) (Ev.pos (by omega) (Ev.bnd (ih _ (by omega) (by omega)) (Ev.bnd (ih _ (by omega) (by omega)) ?_)))
      have h1 := srtD_len (lt := sLess) (l.take (l.length / 2))
      have h2 := srtD_len (lt := sLess) (l.drop (l.length / 2))
      refine merge_loopS _ _ (srtD sLess l) (by omega) (srtD_rises sLess_so _) ((srtD sLess (l.take (l.length / 2))).length + (srtD sLess (l.drop (l.length / 2))).length) 0 0 [] (by omega) (by omega) (by omega) (Mrg.start (srtD_rises sLess_so _) (srtD_rises sLess_so _)) (by simp) fun z => ?_
      rw [List.drop_zero, List.drop_zero, srtD_mem sLess_so, srtD_mem sLess_so, srtD_mem sLess_so]
      simp only [List.not_mem_nil, false_or]
      rw [← List.mem_append, List.take_append_drop]
theorem ev_spec_NamesBoth (a b : List ByteArray) (h : a.length + b.length ≤ 1048576) : Ev (fun k => spec_NamesBoth.f k a b) (srtD sLess (a ++ b)) := by
  unfold spec_NamesBoth.f
  refine Ev.some_bind (Ev.pos (by simp only [List.length_nil]; omega) ?_)
  refine Ev.pos (by simp only [List.length_append, List.length_nil]; omega) ?_
  simp only [List.nil_append]
  exact Ev.bnd (ev_sortedS _ _ (Nat.le_refl _) (by rw [List.length_append]; exact h)) (Ev.val rfl)
theorem bless_so : SO Op.bytesLess := ⟨bless_irr, bless_tr, bless_tot⟩
theorem compact_srtS (ss : List (List UInt8)) : Lib.compact (ss.mergeSort fun x y => decide (x ≤ y)) = srtD Op.bytesLess ss := by
  have ele : ∀ x y : List UInt8, decide (x ≤ y) = !(Op.bytesLess y x) := fun x y => by
    rw [Go.Proofs.bytesLess_eq]
    by_cases h : y < x
    · have h2 : ¬ x ≤ y := fun e => e h
      simp [h, h2]
    · have h2 : x ≤ y := h
      simp [h, h2]
  obtain ⟨zs, hzs⟩ : ∃ zs, zs = (ss.mergeSort fun x y => decide (x ≤ y)) := ⟨_, rfl⟩
  rw [← hzs]
  have hp : zs.Perm ss := hzs ▸ List.mergeSort_perm ss _
  have hs : zs.Pairwise fun x y => decide (x ≤ y) = true := by
    rw [hzs]
    refine List.pairwise_mergeSort (fun a b c h1 h2 => ?_) (fun a b => ?_) ss
    · rw [ele] at *
      simp only [Bool.not_eq_true'] at *
      cases h3 : Op.bytesLess c a with
      | false => rfl
      | true =>
        cases h4 : Op.bytesLess b c with
        | true => rw [bless_tr _ _ _ h4 h3] at h1; cases h1
        | false =>
          have e := bless_tot _ _ h4 h2
          rw [e, h3] at h1
          cases h1
    · rw [ele, ele]
      cases h : Op.bytesLess b a with
      | false => simp
      | true => simp [bless_so.asym h]
  unfold Lib.compact Lib.compactUpTo
  have hc := compact_rises bless_so zs zs.length (fun j => zs.toArray[j]!) (Lib.keeps zs.toArray) (by
      refine List.ext_getElem (by simp) fun i h1 h2 => ?_
      simp only [List.getElem_map, List.getElem_range]
      rw [getElem!_pos zs.toArray i (by simpa using h1)]
      simp) (fun i j hij hj => by
      have h := List.pairwise_iff_getElem.1 hs i j (by omega) (by omega) hij
      rw [getElem!_pos zs.toArray i (by simp; omega), getElem!_pos zs.toArray j (by simpa using hj)]
      rw [ele] at h
      simpa using h) (fun j hj => by
      unfold Lib.keeps
      simp)
  rw [hc]
  exact srtD_congr bless_so fun x => hp.mem_iff
theorem NamesBoth_eq (a b : List ByteArray) (h : a.length + b.length ≤ 1048576) : impl_NamesBoth.f a b = some (srtD sLess (a ++ b)) := by
  unfold impl_NamesBoth.f
  rw [if_pos (by omega), compact_srtS]
  congr 1
  have mkb : ∀ x : ByteArray, (⟨x.data.toList.toArray⟩ : ByteArray) = x := fun x => by cases x; simp
  refine srtD_eq sLess_so ?_ fun x => ?_
  · refine List.pairwise_map.2 ((srtD_rises bless_so _).imp fun {s t} h => ?_)
    show Op.bytesLess (ByteArray.toList _) (ByteArray.toList _) = true
    rw [ByteArray.toList_eq, ByteArray.toList_eq]
    simpa using h
  · rw [List.mem_map]
    constructor
    · rintro ⟨s, hs, rfl⟩
      rw [srtD_mem bless_so, List.mem_map] at hs
      obtain ⟨y, hy, rfl⟩ := hs
      rw [mkb]
      exact hy
    · intro hx
      exact ⟨x.data.toList, (srtD_mem bless_so _ _).2 (List.mem_map.2 ⟨x, hx, rfl⟩), mkb x⟩
end Go.Proofs.Ytmhbikkldbcgkaa.Pv
