/- Printed for this claim by a program of this session (wip/tools/xprint.py) out of the translation: what each Go function comes to, and that it comes to it. Not trusted: Lean checks it. -/
import Derived.Shelf.Strings.SplitCore
import Derived.Lib.SplitLaws
import Derived.Shelf.SlicesE.DeleteFunc
import Derived.Shelf.GgSortFunc.RowK
import Derived.Lib.SlKept
import Derived.Test.YtckdocofmffheaaDoorSh
import Derived.Test.YtckdocofmffheaaDoorSl
import Derived.Test.YtckdocofmffheaaDoorQ0
import Derived.Test.YtckdocofmffheaaDoorQ6
namespace Go.Proofs.YtckdocofmffheaaDoor.Q
open Go.RowKit Go.Proofs.YtckdocofmffheaaDoorW.PrintWords Go.Proofs.YtckdocofmffheaaDoorW.PrintLast Go.Proofs.YtckdocofmffheaaDoorW.PrintMore
attribute [local go_sem] max2_int min2_int max_two min_two max_three min_three max_four min_four   -- for this text's walks alone
set_option linter.unusedVariables false
set_option linter.unusedSimpArgs false

/-! ### impl_Broken: function 44 -/
instance impl_Broken.inhL : Inhabited S30 := ⟨z30⟩
instance impl_Broken.inhR : Inhabited S41 := ⟨z41⟩
structure impl_Broken.RowAt (W : World) (g cap : Nat) (dk : Array S30) : Prop where mk :: (out : ∃ cur, W.heap[g]? = some (.cells cur 30 (0, 0)) ∧ cur.size = cap * 2 ∧ dk.size ≤ cap ∧ cap ≤ maxLen ∧ ∀ t, t < dk.size → cur[t * 2]? = some (.int .i64 dk[t]!.f0) ∧ cur[t * 2 + 1]? = some (.string dk[t]!.f1))
theorem impl_Broken.RowAt.lt {W : World} {g cap : Nat} {dk : Array S30} (h : impl_Broken.RowAt W g cap dk) : g < W.heap.size := by
  obtain ⟨cur, hh, _⟩ := h.out
  exact (Array.getElem?_eq_some_iff.1 hh).1
theorem impl_Broken.RowAt.below {W W' : World} {g cap : Nat} {dk : Array S30} (h : impl_Broken.RowAt W g cap dk) (hb : Go.RowKit.Below W.heap.size W W') : impl_Broken.RowAt W' g cap dk := by
  have hl := h.lt
  obtain ⟨cur, hh, r⟩ := h.out
  exact ⟨⟨cur, (hb.block g hl).trans hh, r⟩⟩
theorem impl_Broken.RowAt.cells {W : World} {g cap : Nat} {dk : Array S30} (h : impl_Broken.RowAt W g cap dk) {i : Nat} (hi : i < dk.size) :
    (W.cell? ⟨g, i * 2, none⟩ = some (.int .i64 dk[i]!.f0) ∧ W.cell? ⟨g, i * 2 + 1, none⟩ = some (.string dk[i]!.f1)) ∧ W.frozen? ⟨g, i * 2, none⟩ = false ∧ W.frozen? ⟨g, i * 2 + 1, none⟩ = false := by
  obtain ⟨cur, hh, _, _, _, hc⟩ := h.out
  have := hc i hi
  exact ⟨⟨by simp [World.cell?, hh, this.1], by simp [World.cell?, hh, this.2]⟩, by simp [World.frozen?, hh], by simp [World.frozen?, hh]⟩
theorem impl_Broken.set_heap (W : World) (g o : Nat) (v : Value) (cur : Array Value) (e : TypeId) (h : W.heap[g]? = some (.cells cur e (0, 0))) : (W.setCell ⟨g, o, none⟩ v).heap[g]? = some (.cells (cur.setIfInBounds o v) e (0, 0)) := by
  rw [Go.Sort.setCell_eq]
  simp [Go.Sort.mapBlock, Array.getElem?_modify, h, Go.Sort.onCells]
theorem impl_Broken.RowAt.set {W : World} {g cap : Nat} {dk : Array S30} (h : impl_Broken.RowAt W g cap dk) (i : Nat) (hi : i < dk.size) (u : S30) : impl_Broken.RowAt ((W.setCell ⟨g, i * 2, none⟩ (.int .i64 u.f0)).setCell ⟨g, i * 2 + 1, none⟩ (.string u.f1)) g cap (dk.setIfInBounds i u) := by
  obtain ⟨cur, hh, hs, hd, hm, hc⟩ := h.out
  refine ⟨⟨_, impl_Broken.set_heap _ g _ _ _ _ (impl_Broken.set_heap W g _ _ cur _ hh), by simp [hs], by simpa using hd, hm, fun t ht => ?_⟩⟩
  have ht' : t < dk.size := by simpa using ht
  have h1 : t * 2 < cur.size := by rw [hs]; omega
  have h2 : t * 2 + 1 < cur.size := by rw [hs]; omega
  by_cases e : t = i
  · subst e
    rw [Go.Sort.getElem!_set_same dk t u hi]
    constructor
    · rw [Array.getElem?_setIfInBounds, if_neg (by omega), Array.getElem?_setIfInBounds, if_pos rfl, if_pos h1]
    · rw [Array.getElem?_setIfInBounds, if_pos rfl, if_pos (by simpa using h2)]
  · rw [Go.Sort.getElem!_set_other dk i t u e]
    constructor
    · rw [Array.getElem?_setIfInBounds, if_neg (by omega), Array.getElem?_setIfInBounds, if_neg (by omega)]
      exact (hc t ht').1
    · rw [Array.getElem?_setIfInBounds, if_neg (by omega), Array.getElem?_setIfInBounds, if_neg (by omega)]
      exact (hc t ht').2
theorem impl_Broken.set_below {B : Nat} {w w1 : World} (h : Go.RowKit.Below B w w1) (g o : Nat) (hg : B ≤ g) (v : Value) : Go.RowKit.Below B w (w1.setCell ⟨g, o, none⟩ v) := by
  rw [Go.Sort.setCell_eq]
  exact ⟨h.os, h.tape, h.output, by have := h.size; simpa [Go.Sort.mapBlock] using this, fun k hk => by
    show (w1.heap.modify g _)[k]? = _
    rw [Array.getElem?_modify, if_neg (by omega)]
    exact h.block k hk⟩
theorem impl_Broken.sets_below {B : Nat} {w : World} (g : Nat) (hg : B ≤ g) : ∀ (vs : List Value) (o : Nat) (w1 : World), Go.RowKit.Below B w w1 → Go.RowKit.Below B w (w1.setCells g o vs)
  | [], _, _, h => h
  | v :: r, o, w1, h => impl_Broken.sets_below g hg r (o + 1) _ (impl_Broken.set_below h g o hg v)
theorem impl_Broken.sets_heap (g : Nat) (e : TypeId) : ∀ (vs : List Value) (o : Nat) (W : World) (cur : Array Value), W.heap[g]? = some (.cells cur e (0, 0)) → ∃ cur', (W.setCells g o vs).heap[g]? = some (.cells cur' e (0, 0)) ∧ cur'.size = cur.size ∧ ∀ t, t < o → cur'[t]? = cur[t]?
  | [], _, _, cur, h => ⟨cur, h, rfl, fun _ _ => rfl⟩
  | v :: r, o, W, cur, h => by
    obtain ⟨c, h1, h2, h3⟩ := impl_Broken.sets_heap g e r (o + 1) _ _ (impl_Broken.set_heap W g o v cur e h)
    exact ⟨c, h1, by simpa using h2, fun t ht => by rw [h3 t (by omega), Array.getElem?_setIfInBounds, if_neg (by omega)]⟩
theorem impl_Broken.RowAt.out2 {W : World} {g cap : Nat} {dk : Array S30} (h : impl_Broken.RowAt W g cap dk) (base : Nat) (hb : base ≤ g) (m : Nat) (hm : m ≤ dk.size) (r : List S30) (hr : r.length = m) (hrd : ∀ j, j < m → r[j]? = some dk[j]!) : Kd.R k30 30 W base (fun _ => True) (.slice (some ⟨g, 0, none⟩) m cap) r := by
  obtain ⟨cur, hh, hs, hd, hcap, hc⟩ := h.out
  subst hr
  have hlen : (cur.toList.take (r.length * 2)).length = r.length * 2 := by
    rw [List.length_take, show cur.toList.length = cap * 2 from by simpa using hs]
    omega
  refine ⟨fun _ _ => trivial, cur.toList.take (r.length * 2), ⟨hlen, .inr ⟨g, cap, _, rfl, hb, hh, by omega, hcap, hs, rfl⟩⟩, hlen, fun j p hp => ?_⟩
  obtain ⟨hj, _⟩ := List.getElem?_eq_some_iff.1 hp
  have hq := hrd j hj
  rw [hp] at hq
  have hpd : p = dk[j]! := Option.some.inj hq
  have at_ : ∀ t, t < r.length * 2 → (cur.toList.take (r.length * 2))[t]? = cur[t]? := fun t ht => by
    rw [List.getElem?_take_of_lt ht, Array.getElem?_toList]
  have h0 := at_ (j * 2) (by omega)
  have h1 := at_ (j * 2 + 1) (by omega)
  rw [(hc j (by omega)).1, ← hpd] at h0
  rw [(hc j (by omega)).2, ← hpd] at h1
  have hd2 : ((cur.toList.take (r.length * 2)).drop (j * 2)).take k30.sz = [.int .i64 p.f0, .string p.f1] := by
    show ((cur.toList.take (r.length * 2)).drop (j * 2)).take 2 = _
    obtain ⟨l0, e0⟩ := List.getElem?_eq_some_iff.1 h0
    obtain ⟨l1, e1⟩ := List.getElem?_eq_some_iff.1 h1
    rw [List.drop_eq_getElem_cons l0, List.drop_eq_getElem_cons l1, e0, e1]
    rfl
  show k30.M _ _ _ p (((cur.toList.take (r.length * 2)).drop (j * 2)).take k30.sz)
  rw [hd2]
  exact k30_mkM _ _ _ _
theorem impl_Broken.rowOf {W : World} {base : Nat} {v : Value} {xs : List S30} (hR : Kd.R k30 30 W base (fun _ => True) v xs) (hne : xs ≠ []) : ∃ g cap, v = .slice (some ⟨g, 0, none⟩) xs.length cap ∧ base ≤ g ∧ xs.length ≤ cap ∧ impl_Broken.RowAt W g cap xs.toArray := by
  obtain ⟨_, inner, ⟨hlen, hor⟩, hreps⟩ := hR
  rcases hor with ⟨rfl, hz⟩ | ⟨g, cap, cur, rfl, hg, hh, hn, hcap, hsz, htake⟩
  · exact absurd (List.eq_nil_of_length_eq_zero hz) hne
  refine ⟨g, cap, rfl, hg, hn, ⟨⟨cur, hh, hsz, by simpa using hn, hcap, fun t ht => ?_⟩⟩⟩
  have ht' : t < xs.length := by simpa using ht
  have hx := k30_openM (hreps.2 t _ (List.getElem?_eq_getElem ht'))
  have e2 : xs.toArray[t]! = xs[t] := by rw [getElem!_pos _ _ (by simpa using ht')]; simp
  rw [e2]
  have gt : ∀ c, c < 2 → cur[t * 2 + c]? = ([.int .i64 xs[t].f0, .string xs[t].f1] : List Value)[c]? := fun c hc => by
    have h1 : ((inner.drop (t * 2)).take 2)[c]? = ([.int .i64 xs[t].f0, .string xs[t].f1] : List Value)[c]? := congrArg (fun l => l[c]?) hx
    rw [List.getElem?_take_of_lt hc, List.getElem?_drop, ← htake] at h1
    have h2 : (cur.toList.take (xs.length * 2))[t * 2 + c]? = ([.int .i64 xs[t].f0, .string xs[t].f1] : List Value)[c]? := h1
    rw [List.getElem?_take_of_lt (by omega), Array.getElem?_toList] at h2
    exact h2
  exact ⟨gt 0 (by decide), gt 1 (by decide)⟩
theorem impl_Broken.clear (W : World) (b o n c : Nat) (hn : 0 < n) (hc : ∀ j, j < n * 2 → (W.cell? ⟨b, o + j, none⟩).isSome = true ∧ W.frozen? ⟨b, o + j, none⟩ = false) :
    ∃ vs : List Value, vs.length = n * 2 ∧ ∀ ty, (Builtin.clear_ #[24] ty #[.slice (some ⟨b, o, none⟩) n c]).run Tryd.prog W = .ok (.tuple #[]) (W.setCells b o vs) := by
  have hl : (Builtin.zeroCells (.agg #[(.int .i64 0), (.string ⟨#[]⟩)] : Value).cells n).toList.length = n * 2 := by simp [Builtin.zeroCells, Value.cells]
  refine ⟨_, hl, fun ty => ?_⟩
  have hst := run_storeCells_cells (P := Tryd.prog) b o (Builtin.zeroCells (.agg #[(.int .i64 0), (.string ⟨#[]⟩)] : Value).cells n).toList 0 W (fun j hj => by rw [hl] at hj; simpa using (hc j hj).1) (fun j hj => by rw [hl] at hj; simpa using (hc j hj).2) (by
    intro v hv
    simp only [Builtin.zeroCells, Value.cells, Array.toList_map, List.mem_map] at hv
    obtain ⟨i, _, rfl⟩ := hv
    have : i % 2 = 0 ∨ i % 2 = 1 := by omega
    rcases this with e | e <;> simp [e, Value.oneCell'])
  simp only [Nat.add_zero] at hst
  have hv := Tryd.zeroValue30
  obtain ⟨m, rfl⟩ : ∃ m, n = m + 1 := ⟨n - 1, by omega⟩
  simp [Builtin.clear_, run_underlying Tryd.underlying24, hv, hst]
def impl_Broken.encL (x : S30) : List Value := [.int .i64 x.f0, .string x.f1]
def impl_Broken.encR (x : S41) : List Value := [.string x.f0, .int .i64 x.f1, .string x.f2]
def impl_Broken.one (k : Nat) (nm : ByteArray) (l : S30) (r : S41) : Option Bool := impl_Forbids.f k r.f0 r.f1 r.f2 nm l.f0 l.f1
def impl_Broken.fb (k : Nat) (nm : ByteArray) (l : S30) (r : S41) : Bool := (impl_Broken.one k nm l r) == some true
def impl_Broken.ok (k : Nat) (rules : List S41) (nm : ByteArray) (l : S30) : Bool := rules.all fun r => (impl_Broken.one k nm l r).isSome
def impl_Broken.f (k : Nat) (rules : List S41) (nm : ByteArray) (labels : List S30) : Option (List S30) :=
  if labels.length ≤ 4194304 ∧ (labels.all (impl_Broken.ok k rules nm)) = true then some (labels.filter fun l => rules.any (impl_Broken.fb k nm l)) else none
theorem impl_Broken.one_mono {k : Nat} {nm : ByteArray} {l : S30} {r : S41} (h : (impl_Broken.one k nm l r).isSome = true) : impl_Broken.one (k + 1) nm l r = impl_Broken.one k nm l r := by
  obtain ⟨b, hb⟩ := Option.isSome_iff_exists.1 h
  rw [hb]
  exact impl_Forbids.mono _ _ _ _ _ _ k b hb
theorem impl_Broken.ok_mono {k : Nat} {rules : List S41} {nm : ByteArray} {l : S30} (h : impl_Broken.ok k rules nm l = true) : impl_Broken.ok (k + 1) rules nm l = true ∧ (rules.any (impl_Broken.fb (k + 1) nm l)) = rules.any (impl_Broken.fb k nm l) := by
  unfold impl_Broken.ok at *
  rw [List.all_eq_true] at *
  refine ⟨fun r hr => by rw [impl_Broken.one_mono (h r hr)]; exact h r hr, ?_⟩
  rw [Bool.eq_iff_iff, List.any_eq_true, List.any_eq_true]
  constructor
  · rintro ⟨r, hr, e⟩
    refine ⟨r, hr, ?_⟩
    unfold impl_Broken.fb at *
    rwa [impl_Broken.one_mono (h r hr)] at e
  · rintro ⟨r, hr, e⟩
    refine ⟨r, hr, ?_⟩
    unfold impl_Broken.fb at *
    rwa [impl_Broken.one_mono (h r hr)]
theorem impl_Broken.mono : ∀ a0 a1 a2 k, LeO (impl_Broken.f k a0 a1 a2) (impl_Broken.f (k + 1) a0 a1 a2) := by
  intro rules nm labels k r h
  unfold impl_Broken.f at *
  by_cases hc : labels.length ≤ 4194304 ∧ (labels.all (impl_Broken.ok k rules nm)) = true
  · rw [if_pos hc] at h
    have ha := List.all_eq_true.1 hc.2
    rw [if_pos ⟨hc.1, List.all_eq_true.2 fun l hl => (impl_Broken.ok_mono (ha l hl)).1⟩, ← h]
    congr 1
    refine List.filter_congr fun l hl => ?_
    exact (impl_Broken.ok_mono (ha l hl)).2
  · rw [if_neg hc] at h
    cases h
theorem impl_Broken.any_attach {α : Type} (l : List α) (p : α → Bool) : (l.attach.any fun x => p x.1) = l.any p := by
  rw [Bool.eq_iff_iff, List.any_eq_true, List.any_eq_true]
  constructor
  · rintro ⟨x, _, h⟩
    exact ⟨x.1, x.2, h⟩
  · rintro ⟨x, hx, h⟩
    exact ⟨⟨x, hx⟩, List.mem_attach _ _, h⟩
theorem impl_Broken.attach_get {α : Type} [Inhabited α] (l : List α) [Inhabited {x // x ∈ l}] (j : Nat) (h : j < l.length) : (l.attach[j]!).1 = l[j]! := by
  rw [getElem!_pos l.attach j (by simpa using h), getElem!_pos l j h]
  simp
set_option maxHeartbeats 4000000 in
theorem impl_Broken.p2 (k : Nat) (Bn Bl : Nat) (nm : ByteArray) (l : S30) (rules : List S41) (ok : impl_Broken.ok k rules nm l = true) (w : World) (hBn : Bn < w.heap.size) (hBl : Bl < w.heap.size) (cn : w.cell? ⟨Bn, 0, none⟩ = some (.string nm)) (cl0 : w.cell? ⟨Bl, 0, none⟩ = some (.int .i64 l.f0)) (cl1 : w.cell? ⟨Bl, 1, none⟩ = some (.string l.f1)) :
    Go.Proofs.PredBelow Tryd.prog 81 #[.pointer (some ⟨Bn, 0, none⟩), .pointer (some ⟨Bl, 0, none⟩)] (fun x : {r // r ∈ rules} => .agg (impl_Broken.encR x.1).toArray) (fun x => impl_Broken.fb k nm l x.1) w := fun W x hb => by
  obtain ⟨r, hr⟩ := x
  obtain ⟨b, hb1⟩ := Option.isSome_iff_exists.1 (List.all_eq_true.1 ok r hr)
  have hfb : impl_Broken.fb k nm l r = b := by unfold impl_Broken.fb; rw [hb1]; cases b <;> rfl
  have cn' : W.cell? ⟨Bn, 0, none⟩ = some (.string nm) := (hb.cell (p := ⟨Bn, 0, none⟩) hBn).trans cn
  have cl0' : W.cell? ⟨Bl, 0, none⟩ = some (.int .i64 l.f0) := (hb.cell (p := ⟨Bl, 0, none⟩) hBl).trans cl0
  have cl1' : W.cell? ⟨Bl, 1, none⟩ = some (.string l.f1) := (hb.cell (p := ⟨Bl, 1, none⟩) hBl).trans cl1
  have hne1 : Bn ≠ W.heap.size := by have := hb.size; omega
  have hne2 : Bl ≠ W.heap.size := by have := hb.size; omega
  have hBW1 : Bn < W.heap.size := by have := hb.size; omega
  have hBW2 : Bl < W.heap.size := by have := hb.size; omega
  have hcon := fun W' => impl_Forbids.calls k r.f0 r.f1 r.f2 nm l.f0 l.f1 b W' hb1
  have HB := Aside0.mk hb
  show Calls Tryd.prog 81 #[.agg #[.string r.f0, .int .i64 r.f1, .string r.f2], .pointer (some ⟨Bn, 0, none⟩), .pointer (some ⟨Bl, 0, none⟩)] W fun e w' => e = .returned (.bool (impl_Broken.fb k nm l r)) ∧ Go.RowKit.Below w.heap.size w w'
  clear hb hb1 hr ok cn cl0 cl1
  rw [hfb]
  clear hfb
  generalize l.f0 = y0 at hcon cl0'
  generalize l.f1 = y1 at hcon cl1'
  generalize r.f0 = z0 at hcon ⊢
  generalize r.f1 = z1 at hcon ⊢
  generalize r.f2 = z2 at hcon ⊢
  go_enter Tryd.func81, Tryd.ntmps81
  go_wp2_with (go_at_call 34; refine (hcon _).mono ?_; rintro e w' ⟨rfl, hb'⟩)
  go_ret
  exact ⟨rfl, (HB.out.alloc HB.out.size _).trans (hb'.mono (by have := HB.out.size; simp only [World.size_alloc]; omega))⟩
theorem impl_Broken.none_rule (A0 : Option Addr) (c0 : Nat) (fv : Value) (w : World) : Calls Tryd.prog 80 #[.slice A0 0 c0, fv] w fun e w' => e = .returned (.bool false) ∧ w' = w := by
  have h0 : Calls Tryd.prog 109 #[.slice A0 0 c0, fv] w fun e w' => e = .returned (.int .i64 (-1)) ∧ w' = w := by
    go_enter Tryd.func109, Tryd.ntmps109
    go_wp2
    go_loopg [5, 8] 0 (fun _ _ s8 wr => s8 = .int .i64 0 ∧ wr = w)
    case atStart => exact ⟨rfl, rfl⟩
    case round =>
      obtain ⟨rfl, rfl⟩ := hrel
      go_wp2
      go_ret
      exact ⟨rfl, rfl⟩
  go_enter Tryd.func80, Tryd.ntmps80
  go_wp2_with (go_at_call 109; refine h0.mono ?_; rintro e w' ⟨rfl, rfl⟩)
  go_ret
  exact ⟨rfl, rfl⟩
theorem impl_Broken.index_none (A0 : Option Addr) (c0 : Nat) (fv : Value) (w : World) : Calls Tryd.prog 104 #[.slice A0 0 c0, fv] w fun e w' => e = .returned (.int .i64 (-1)) ∧ w' = w := by
  go_enter Tryd.func104, Tryd.ntmps104
  go_wp2
  go_loopg [5, 8] 0 (fun _ _ s8 wr => s8 = .int .i64 0 ∧ wr = w)
  case atStart => exact ⟨rfl, rfl⟩
  case round =>
    obtain ⟨rfl, rfl⟩ := hrel
    go_wp2
    go_ret
    exact ⟨rfl, rfl⟩
theorem impl_Broken.delete_none (A0 : Option Addr) (c0 : Nat) (fv : Value) (w : World) : Calls Tryd.prog 77 #[.slice A0 0 c0, fv] w fun e w' => e = .returned (.slice A0 0 c0) ∧ w' = w := by
  have h0 := impl_Broken.index_none A0 c0 fv
  go_enter Tryd.func77, Tryd.ntmps77
  go_wp2_with (go_at_call 104; refine (h0 _).mono ?_; rintro e w' ⟨rfl, rfl⟩)
  go_ret
  exact ⟨rfl, rfl⟩
set_option maxHeartbeats 4000000 in
theorem impl_Broken.p1 (k : Nat) (nm : ByteArray) (rules : List S41) (A0 : Option Addr) (c0 : Nat) (Br Bn : Nat) (l : S30) (ok : impl_Broken.ok k rules nm l = true) (w : World) (hBr : Br < w.heap.size) (hBn : Bn < w.heap.size) (cr : w.cell? ⟨Br, 0, none⟩ = some (.slice A0 rules.length c0)) (cn : w.cell? ⟨Bn, 0, none⟩ = some (.string nm))
    (hr0 : Kd.C k41 w A0 rules.length rules) (hc0 : rules.length ≤ c0) :
    Calls Tryd.prog 79 #[.agg #[.int .i64 l.f0, .string l.f1], .pointer (some ⟨Br, 0, none⟩), .pointer (some ⟨Bn, 0, none⟩)] w fun e w' => e = .returned (.bool !(rules.any (impl_Broken.fb k nm l))) ∧ Go.RowKit.Below w.heap.size w w' := by
  have hb1 : Go.RowKit.Below w.heap.size w (w.alloc (.cells #[.int .i64 l.f0, .string l.f1] 30)) := (Below.refl _ _).alloc (Nat.le_refl _) _
  have eg : ∀ args w, (callFunc 81 args).run Tryd.prog w = .ok (.enter 81 args) w := enters_of Tryd.func81 (by kernel_rfl) rfl
  have hcon : Calls Tryd.prog 80 #[.slice A0 rules.length c0, .func (.func 81) #[] #[.pointer (some ⟨Bn, 0, none⟩), .pointer (some ⟨w.heap.size, 0, none⟩)]] (w.alloc (.cells #[.int .i64 l.f0, .string l.f1] 30)) fun e w' => e = .returned (.bool (rules.any (impl_Broken.fb k nm l))) ∧ Go.RowKit.Below w.heap.size w w' := by
    cases rules with
    | nil => exact (impl_Broken.none_rule A0 c0 _ _).mono fun e w' ⟨he, hw⟩ => ⟨he, hw ▸ hb1⟩
    | cons x0 xs =>
      obtain ⟨ad, rfl, hcell⟩ := hr0.2.2 (by simp)
      have hat : ∀ j, j < (x0 :: xs).length → ∀ i v, (impl_Broken.encR (x0 :: xs)[j]!)[i]? = some v → w.cell? (ad.add (j * 3 + i)) = some v := by
        intro j hj i v hv
        have e : (x0 :: xs)[j]? = some ((x0 :: xs)[j]!) := by rw [getElem!_pos _ j hj, List.getElem?_eq_getElem hj]
        obtain ⟨c, hl, hk, hu⟩ := hcell j _ e
        rw [k41_open hk] at hu
        exact hu i v hv
      obtain ⟨bk, o, spot⟩ := ad
      have h00 := hat 0 (by simp) 0 _ rfl
      have hs : spot = none := by simpa [Addr.add] using World.cell?_spot h00
      subst hs
      have hbk : bk < w.heap.size := World.block_lt_of_cell? w (⟨bk, o, none⟩ : Addr) (by simpa [Addr.add] using h00)
      have hat2 : ∀ j, j < (x0 :: xs).length → ∀ i v, (impl_Broken.encR (x0 :: xs)[j]!)[i]? = some v → w.cell? ⟨bk, o + j * 3 + i, none⟩ = some v := fun j hj i v hv => by
        have := hat j hj i v hv
        rwa [Go.WideShapes.add_plain, ← Nat.add_assoc] at this
      haveI : Inhabited {r // r ∈ x0 :: xs} := ⟨⟨x0, by simp⟩⟩
      have hl0 : (x0 :: xs).length ≤ 9223372036854775807 := hr0.2.1
      have hA := Go.Proofs.AnyQ.slices_ContainsFunc Tryd.laysSlgf8_f80 3 Tryd.isAgg41 Tryd.sizeOf41 (fun x : {r // r ∈ x0 :: xs} => impl_Broken.encR x.1) (fun _ => rfl) (fun x => impl_Broken.fb k nm l x.1) 81 #[.pointer (some ⟨Bn, 0, none⟩), .pointer (some ⟨w.heap.size, 0, none⟩)] eg bk o (x0 :: xs).length c0 (x0 :: xs).attach (w.alloc (.cells #[.int .i64 l.f0, .string l.f1] 30))
        (impl_Broken.p2 k Bn w.heap.size nm l (x0 :: xs) ok _ (by simp; omega) (by simp) (Lib.cell?_alloc_some _ cn) (by simp) (by simp)) (by rw [List.length_attach]; exact Nat.le_refl _) hl0 (by simp only [World.size_alloc]; omega) (fun j hj i v hv => by
          rw [List.length_attach] at hj
          rw [impl_Broken.attach_get _ j hj] at hv
          exact Lib.cell?_alloc_some _ (hat2 j hj i v hv))
      rw [List.take_of_length_le (by rw [List.length_attach]; exact Nat.le_refl _), impl_Broken.any_attach] at hA
      exact hA.mono fun e w' ⟨he, hb'⟩ => ⟨he, hb1.trans (hb'.mono (by simp))⟩
  clear hr0 hc0 ok hb1
  generalize (rules.any (impl_Broken.fb k nm l)) = r at hcon ⊢
  generalize rules.length = n0 at hcon cr
  have hne1 : Br ≠ w.heap.size := by omega
  have hne2 : Bn ≠ w.heap.size := by omega
  generalize l.f0 = y0 at hcon ⊢
  generalize l.f1 = y1 at hcon ⊢
  go_enter Tryd.func79, Tryd.ntmps79
  go_wp2_with (go_at_call 80; refine hcon.mono ?_; rintro e w' ⟨rfl, hb'⟩)
  go_ret
  exact ⟨rfl, hb'⟩
set_option maxHeartbeats 4000000 in
set_option maxRecDepth 100000 in
theorem impl_Broken.clone (A0 : Option Addr) (c0 : Nat) (l0 : List S30) (w : World) (hr0 : Kd.C k30 w A0 l0.length l0) (hc0 : l0.length ≤ c0) (hl : l0.length ≤ 4194304) :
    Calls Tryd.prog 78 #[.slice A0 l0.length c0] w fun e w' => ∃ v : Value, e = .returned v ∧ Kd.R k30 30 w' w.heap.size (fun _ => True) v l0 ∧ Go.RowKit.Below w.heap.size w w' := by
  have q22 : ∀ (w : World) (a : Option Addr) (n c n' c' : Nat), (binOp .eql 24 (.slice a n c) (.slice none n' c')).run Tryd.prog w = .ok (.bool a.isNone) w := fun w a n c n' c' => Lib.run_eql_slice_nil w _ _ a n c n' c' Tryd.underlying24
  cases A0 with
  | none =>
    have h0 : l0 = [] := by
      cases l0 with
      | nil => rfl
      | cons x xs =>
        obtain ⟨ad, e, _⟩ := hr0.2.2 (by simp)
        cases e
    subst h0
    clear hr0 hc0 hl
    go_enter Tryd.func78, Tryd.ntmps78
    go_wp2
    go_ret
    exact ⟨_, rfl, Kd.R_nil _ _ _ _ _, Below.refl _ _⟩
  | some a =>
    have HR0 := Aside0.mk hr0
    have HL := Aside0.mk hl
    have hl0 : l0.length ≤ 9223372036854775807 := hr0.2.1
    clear hr0 hl
    go_enter Tryd.func78, Tryd.ntmps78
    go_wp2_with (first | ((with_reducible refine gate_dst (N := 5) rfl ?_); refine Kd.R_lit k30 w.heap.size 30 ?hg (N := 5) ?hd (xs := ([] : List (S30))) (inner := []) (ok := fun _ => True) (okp := fun _ => True) ?hr ?hp (fun _ hk => hk) trivial (Below.refl _ _) (Nat.le_refl _) (by simp) ?_; (case hd => rfl); (case hg => rfl); (case hr => first | (go_simp; done) | (go_simp; rfl)); (case hp => exact (Reps.none _ _)); intro v1 w1 ho1 hb1 hg_ hnew_; clear hg_ hnew_; have HO1 := Aside0.mk ho1; have HB1 := Aside0.mk hb1; clear ho1 hb1) | ((with_reducible refine gate_builtin (b := .append) (xs := #[.tmp 5, .tmp 6]) rfl ?_); at_builtin; refine Kd.R_append_rows k30 (w0 := w) w.heap.size rfl (.tmp 5) (.tmp 6) 24 30 (.agg #[(.int .i64 0), (.string ⟨#[]⟩)]) 24 rfl Tryd.underlying24 info30 rfl (by decide) (by omega) _ [] l0 (some a) l0.length c0 (fun _ => True) (fun _ => False) rfl rfl HO1.out (Kd.C_below HR0.out HB1.out) (fun _ _ h => h) (fun _ h => h.elim) (fun _ _ => trivial) HB1.out HB1.out.size (by have := HL.out; simp only [List.length_nil]; omega) ?_; intro v2 w2 ho2 hb2 hg_ hat_; clear hg_ hat_; rw [List.nil_append] at ho2; have HO2 := Aside0.mk ho2; have HB2 := Aside0.mk hb2; clear ho2 hb2))
    go_ret
    exact ⟨_, rfl, HO2.out, HB2.out⟩
open Go.Lib Go.Proofs in
set_option maxHeartbeats 8000000 in
set_option maxRecDepth 1000000 in
theorem impl_Broken.delete (p : S30 → Bool) (Br Bn : Nat) (w0 : World) (g cap : Nat) (xs : List S30) (w : World) (hg0 : w0.heap.size ≤ g) (hB : Go.RowKit.Below w0.heap.size w0 w) (row : impl_Broken.RowAt w g cap xs.toArray) (hne : xs ≠ []) (hcap : xs.length ≤ cap) (hsz : xs.length ≤ 4194304)
    (hp : ∀ W x, x ∈ xs → Go.RowKit.Below w0.heap.size w0 W → Calls Tryd.prog 79 #[.agg #[.int .i64 x.f0, .string x.f1], .pointer (some ⟨Br, 0, none⟩), .pointer (some ⟨Bn, 0, none⟩)] W fun e W' => e = .returned (.bool (p x)) ∧ Go.RowKit.Below W.heap.size W W') :
    Calls Tryd.prog 77 #[.slice (some ⟨g, 0, none⟩) xs.length cap, .func (.func 79) #[] #[.pointer (some ⟨Br, 0, none⟩), .pointer (some ⟨Bn, 0, none⟩)]] w fun e w' => ∃ v, e = .returned v ∧ Kd.R k30 30 w' w0.heap.size (fun _ => True) v (xs.filter fun x => !p x) ∧ Go.RowKit.Below w0.heap.size w0 w' := by
  have mixed : Tryd.prog.follows .mixedOrders = true := by kernel_rfl
  have eg : ∀ args w, (callFunc 79 args).run Tryd.prog w = .ok (.enter 79 args) w := enters_of Tryd.func79 (by kernel_rfl) rfl
  obtain ⟨x0, hx0⟩ := List.exists_mem_of_ne_nil xs hne
  haveI : Inhabited {x // x ∈ xs} := ⟨⟨x0, hx0⟩⟩
  have hIF := AnyQ.slices_IndexFunc Tryd.laysSlgf6_f104 2 Tryd.isAgg30 Tryd.sizeOf30 (fun x : {x // x ∈ xs} => impl_Broken.encL x.1) (fun _ => rfl) (fun x => p x.1) 79 #[.pointer (some ⟨Br, 0, none⟩), .pointer (some ⟨Bn, 0, none⟩)] eg g 0 xs.length cap xs.attach w
    (fun W x hb => (hp W x.1 x.2 (hB.trans (hb.mono hB.size))).mono fun e w' ⟨he, hb'⟩ => ⟨he, hb.trans (hb'.mono hb.size)⟩) (by rw [List.length_attach]; exact Nat.le_refl _) (by omega) row.lt (fun j hj i v hv => by
      rw [List.length_attach] at hj
      rw [impl_Broken.attach_get _ j hj] at hv
      have hc := (row.cells (i := j) (by simpa using hj)).1
      have e2 : xs.toArray[j]! = xs[j]! := by rw [getElem!_pos xs.toArray j (by simpa using hj), getElem!_pos xs j hj]; simp
      rw [e2] at hc
      rw [Nat.zero_add]
      obtain ⟨y, hy⟩ : ∃ y, y = xs[j]! := ⟨_, rfl⟩
      rw [← hy] at hc
      have hv : (impl_Broken.encL xs[j]!)[i]? = some v := hv
      rw [← hy] at hv
      clear hy
      match i, hv with
      | 0, hv => simp [impl_Broken.encL] at hv; rw [← hv]; exact hc.1
      | 1, hv => simp [impl_Broken.encL] at hv; rw [← hv]; exact hc.2
      | i + 2, hv => simp [impl_Broken.encL] at hv)
  rw [List.take_of_length_le (by rw [List.length_attach]; exact Nat.le_refl _)] at hIF
  have ga : ∀ j, j < xs.length → (xs.attach[j]!).1 = xs[j]! := fun j hj => impl_Broken.attach_get xs j hj
  have ta : ∀ j, j < xs.length → xs.toArray[j]! = xs[j]! := fun j hj => by rw [getElem!_pos xs.toArray j (by simpa using hj), getElem!_pos xs j hj]; simp
  obtain ⟨kp, HK⟩ : ∃ kp : Nat → Bool, Aside0 (kp = fun j => !p xs.toArray[j]!) := ⟨_, ⟨rfl⟩⟩
  have hfil : (xs.filter fun x => !p x) = keptUpTo kp xs.toArray xs.toArray.size := by rw [HK.out]; exact (keptUpTo_filter (fun x => !p x) xs.toArray).symm
  have HF := Aside0.mk hfil
  clear hfil
  rcases idxByFrom_spec (fun _ (y : {x // x ∈ xs}) => p y.1) default xs.attach 0 with ⟨e1, hall⟩ | ⟨k0, hk0, e1, ht, hall⟩
  · have e2 : Lib.idxBy (fun _ (y : {x // x ∈ xs}) => p y.1) xs.attach default = -1 := e1
    rw [e2] at hIF
    have hkeep : ∀ x ∈ xs, (!p x) = true := fun x hx => by
      obtain ⟨j, hj, e⟩ := List.getElem_of_mem hx
      have := hall j (by simpa using hj)
      rw [ga j hj, getElem!_pos xs j hj, e] at this
      rw [this]
      rfl
    have e3 : (xs.filter fun x => !p x) = xs := List.filter_eq_self.2 hkeep
    rw [e3]
    have HROW := Aside0.mk row
    have HBW := Aside0.mk hB
    have HTA := Aside0.mk ta
    clear row hB hp hall hkeep e3 e1 e2 ga ta
    go_enter Tryd.func77, Tryd.ntmps77
    go_wp2_with (go_at_call 104; refine hIF.mono ?_; rintro e w' ⟨rfl, hb'⟩; have HB2 := Aside0.mk hb'; clear hb')
    go_ret
    refine ⟨_, rfl, (HROW.out.below HB2.out).out2 _ hg0 xs.length (by simp) xs rfl (fun j hj => ?_), HBW.out.trans (HB2.out.mono HBW.out.size)⟩
    rw [HTA.out j hj, getElem!_pos xs j hj, List.getElem?_eq_getElem hj]
  · have hk0' : k0 < xs.length := by simpa using hk0
    have e2 : Lib.idxBy (fun _ (y : {x // x ∈ xs}) => p y.1) xs.attach default = (k0 : Int) := by unfold Lib.idxBy; rw [e1]; simp
    rw [e2] at hIF
    have hkeep : ∀ j, j < k0 → kp j = true := fun j hj => by rw [HK.out]; show (!p xs.toArray[j]!) = true; rw [ta j (by omega), ← ga j (by omega), hall j hj]; rfl
    have hdrop : kp k0 = false := by rw [HK.out]; show (!p xs.toArray[k0]!) = false; rw [ta k0 hk0', ← ga k0 hk0', ht]; rfl
    have hne1 : ((k0 : Int) == -1) = false := beq_eq_false_iff_ne.2 (by omega)
    have HROW := Aside0.mk row
    have HBW := Aside0.mk hB
    have HP := Aside0.mk hp
    have HG := Aside0.mk hg0
    have HTA := Aside0.mk ta
    have HS := Aside0.mk (KeptInv.start (d := xs.toArray) hkeep hdrop)
    clear row hB hp hall ht e1 e2 hkeep hdrop hg0 ga ta hx0 hne
    go_enter Tryd.func77, Tryd.ntmps77
    go_wp2_with (go_at_call 104; refine hIF.mono ?_; rintro e w' ⟨rfl, hb'⟩; have HB2 := Aside0.mk hb'; clear hb')
    go_loopg [5, 6] xs.length (fun gg s5 s6 wr => ∃ (i j : Nat) (dk : Array S30), s5 = .int .i64 i ∧ s6 = .int .i64 j ∧ j ≤ xs.length ∧ xs.length - j ≤ gg ∧ Aside0 (impl_Broken.RowAt wr g cap dk) ∧ Aside0 (Go.RowKit.Below w0.heap.size w0 wr) ∧ Aside0 (KeptInv kp xs.toArray j i dk))
    case atStart => exact ⟨k0, k0 + 1, xs.toArray, rfl, by go_num, by omega, by omega, ⟨HROW.out.below HB2.out⟩, ⟨HBW.out.trans (HB2.out.mono HBW.out.size)⟩, HS⟩
    case round =>
      obtain ⟨i, j, dk, rfl, rfl, hjd, hgg, RA, BB, I2⟩ := hrel
      have hij := I2.out.lt
      have hds := I2.out.size
      simp only [List.size_toArray] at hds
      by_cases hlt : j < xs.length
      · obtain ⟨⟨cj, cj'⟩, _⟩ := RA.out.cells (i := j) (by omega)
        obtain ⟨⟨ci, ci'⟩, fi, fi'⟩ := RA.out.cells (i := i) (by omega)
        rw [I2.out.high j (by omega), HTA.out j hlt] at cj cj'
        have hu : xs[j]! ∈ xs := by rw [getElem!_pos xs j hlt]; exact List.getElem_mem hlt
        have hcall := fun W => HP.out W xs[j]! hu
        have HU := Aside0.mk (show xs.toArray[j]! = xs[j]! from HTA.out j hlt)
        generalize xs[j]! = u at cj cj' hcall HU
        clear hu
        have hgl := RA.out.lt
        have hgne : g ≠ wr.heap.size := by omega
        generalize dk[i]! = old at ci ci'
        obtain ⟨W1, hW1⟩ : ∃ W1, W1 = wr.alloc (.cells #[.int .i64 u.f0, .string u.f1] 30) := ⟨_, rfl⟩
        have hb1 : Go.RowKit.Below wr.heap.size wr W1 := by rw [hW1]; exact (Below.refl _ _).alloc (Nat.le_refl _) _
        have hs1 : W1.heap.size = wr.heap.size + 1 := by rw [hW1]; simp
        have vc0 : W1.cell? ⟨wr.heap.size, 0, none⟩ = some (.int .i64 u.f0) := by rw [hW1]; simp
        have vc1 : W1.cell? ⟨wr.heap.size, 1, none⟩ = some (.string u.f1) := by rw [hW1]; simp
        have hc1 := hcall W1 (BB.out.trans (hb1.mono BB.out.size))
        have V0 := Aside0.mk vc0
        have V1 := Aside0.mk vc1
        have RA1 := Aside0.mk (RA.out.below hb1)
        have BB1 := Aside0.mk (BB.out.trans (hb1.mono BB.out.size))
        have HS1 := Aside0.mk hs1
        have HDS := Aside0.mk hds
        have HIJ := Aside0.mk hij
        clear vc0 vc1 hb1 hs1 hcall hds
        rw [hW1] at hc1
        cases hq : p u with
        | true =>
          rw [hq] at hc1
          go_wp2_with (first | (go_at_fn 79; rw [← hW1] at hc1 ⊢; refine hc1.mono ?_; rintro e w' ⟨rfl, hb'⟩; have HB3 := Aside0.mk hb'; clear hb' hc1))
          go_roundg (xs.length - (j + 1))
          case measure => omega
          case rel => exact ⟨i, j + 1, dk, rfl, by go_num, by omega, Nat.le_refl _, ⟨RA1.out.below HB3.out⟩, ⟨BB1.out.trans (HB3.out.mono BB1.out.size)⟩, ⟨I2.out.skip (by rw [HK.out]; show (!p xs.toArray[j]!) = false; rw [HU.out, hq]; rfl)⟩⟩
        | false =>
          rw [hq] at hc1
          have hi1 : i * 2 ≠ i * 2 + 1 := by omega
          go_wp2_with (first | (go_at_fn 79; rw [← hW1] at hc1 ⊢; refine hc1.mono ?_; rintro e w' ⟨rfl, hb'⟩; have HB3 := Aside0.mk hb'; have ve0 : w'.cell? ⟨wr.heap.size, 0, none⟩ = some (.int .i64 u.f0) := (hb'.cell (p := ⟨wr.heap.size, 0, none⟩) (show wr.heap.size < W1.heap.size by rw [HS1.out]; exact Nat.lt_succ_self _)).trans V0.out; have ve1 : w'.cell? ⟨wr.heap.size, 1, none⟩ = some (.string u.f1) := (hb'.cell (p := ⟨wr.heap.size, 1, none⟩) (show wr.heap.size < W1.heap.size by rw [HS1.out]; exact Nat.lt_succ_self _)).trans V1.out; have hcc := (RA1.out.below hb').cells (i := i) (by have := HDS.out; have := HIJ.out; omega); have q0 := hcc.1.1; have q1 := hcc.1.2; have q2 := hcc.2.1; have q3 := hcc.2.2; clear hcc hb' hc1 ci ci' fi fi'; generalize dk[i]! = old2 at q0 q1))
          go_roundg (xs.length - (j + 1))
          case measure => omega
          case rel =>
            refine ⟨i + 1, j + 1, dk.setIfInBounds i u, by go_num, by go_num, by omega, Nat.le_refl _, ⟨(RA1.out.below HB3.out).set i (by have := HDS.out; have := HIJ.out; omega) u⟩, ⟨impl_Broken.set_below (impl_Broken.set_below (BB1.out.trans (HB3.out.mono BB1.out.size)) g _ HG.out _) g _ HG.out _⟩, ⟨?_⟩⟩
            have := I2.out.keep (by simpa using hlt) (by rw [HK.out]; show (!p xs.toArray[j]!) = true; rw [HU.out, hq]; rfl)
            rwa [HU.out] at this
      · obtain rfl : j = xs.length := by omega
        have hgl := RA.out.lt
        obtain ⟨vs, hvl, hcl⟩ := impl_Broken.clear wr g (i * 2) (xs.length - i) (cap - i) (by omega) (fun q hq => by
          obtain ⟨cur, hh, hs, hd, hm, hc⟩ := RA.out.out
          have hl : i * 2 + q < cur.size := by rw [hs]; omega
          exact ⟨by simp [World.cell?, hh, Array.getElem?_eq_getElem hl], by simp [World.frozen?, hh]⟩)
        have HIJ := Aside0.mk hij
        have HDS := Aside0.mk hds
        have HC := Aside0.mk hcap
        have hci : ¬ cap = i := by omega
        have hil : i ≤ xs.length := by omega
        have hil2 : i ≤ cap := by omega
        clear hij hds
        go_wp2
        go_ret
        have hI := I2.out
        have hds := HDS.out
        have hij := HIJ.out
        obtain ⟨cur, hh, hs, hd, hm, hc⟩ := RA.out.out
        obtain ⟨cur', h1, h2, h3⟩ := impl_Broken.sets_heap g 30 vs (i * 2) wr cur hh
        have hrow : impl_Broken.RowAt (wr.setCells g (i * 2) vs) g cap (dk.extract 0 i) := by
          refine ⟨⟨cur', h1, by rw [h2, hs], by simp; omega, hm, fun t ht => ?_⟩⟩
          have ht' : t < i := by simp at ht; omega
          have e4 : (dk.extract 0 i)[t]! = dk[t]! := by
            rw [getElem!_pos (dk.extract 0 i) t ht, getElem!_pos dk t (by omega)]
            simp
          rw [e4, h3 _ (by omega), h3 _ (by omega)]
          exact hc t (by omega)
        refine ⟨_, rfl, hrow.out2 _ HG.out i (by simp; omega) _ ?_ (fun q hq => ?_), impl_Broken.sets_below g HG.out vs _ _ BB.out⟩
        · rw [HF.out, List.size_toArray]
          exact hI.len
        · rw [HF.out, List.size_toArray, hI.low q hq]
          congr 1
          rw [getElem!_pos (dk.extract 0 i) q (by simp; omega), getElem!_pos dk q (by omega)]
          simp
set_option maxHeartbeats 4000000 in
theorem impl_Broken.calls (k : Nat) (A0 : Option Addr) (c0 : Nat) (l0 : List S41) (a1 : ByteArray) (A2 : Option Addr) (c2 : Nat) (l2 : List S30) (r : List S30) (w : World) (hr0 : Kd.C k41 w A0 l0.length l0) (hc0 : l0.length ≤ c0) (hr2 : Kd.C k30 w A2 l2.length l2) (hc2 : l2.length ≤ c2) (h : impl_Broken.f k l0 a1 l2 = some r) :
    Calls Tryd.prog 44 #[.slice A0 l0.length c0, .string a1, .slice A2 l2.length c2] w fun e w' => ∃ v0_ : Value, e = .returned (v0_) ∧ Kd.R k30 30 w' w.heap.size (fun _ => True) v0_ r ∧ Below w.heap.size w w' := by
  unfold impl_Broken.f at h
  by_cases hc : l2.length ≤ 4194304 ∧ (l2.all (impl_Broken.ok k l0 a1)) = true
  · rw [if_pos hc] at h
    obtain rfl := Option.some.inj h
    clear h
    obtain ⟨hl, hok⟩ := hc
    have hb1 : Go.RowKit.Below w.heap.size w ((w.alloc (.cells #[.slice A0 l0.length c0] 59)).alloc (.cells #[.string a1] 9)) := ((Below.refl _ _).alloc (Nat.le_refl _) _).alloc (by simp) _
    obtain ⟨w1, hw1⟩ : ∃ w1, w1 = (w.alloc (.cells #[.slice A0 l0.length c0] 59)).alloc (.cells #[.string a1] 9) := ⟨_, rfl⟩
    have cr : w1.cell? ⟨w.heap.size, 0, none⟩ = some (.slice A0 l0.length c0) := by
      rw [hw1]
      exact Lib.cell?_alloc_some _ (by simp)
    have cn : w1.cell? ⟨w.heap.size + 1, 0, none⟩ = some (.string a1) := by
      rw [hw1, show w.heap.size + 1 = (w.alloc (.cells #[.slice A0 l0.length c0] 59)).heap.size by simp]
      simp
    have hs1 : w1.heap.size = w.heap.size + 2 := by rw [hw1]; simp
    rw [← hw1] at hb1
    have hclone := impl_Broken.clone A2 c2 l2 w1 (Kd.C_below hr2 hb1) hc2 hl
    have hp : ∀ W x, x ∈ l2 → Go.RowKit.Below w1.heap.size w1 W → Calls Tryd.prog 79 #[.agg #[.int .i64 x.f0, .string x.f1], .pointer (some ⟨w.heap.size, 0, none⟩), .pointer (some ⟨w.heap.size + 1, 0, none⟩)] W fun e W' => e = .returned (.bool !(l0.any (impl_Broken.fb k a1 x))) ∧ Go.RowKit.Below W.heap.size W W' := fun W x hx hb =>
      impl_Broken.p1 k a1 l0 A0 c0 w.heap.size (w.heap.size + 1) x (List.all_eq_true.1 hok x hx) W (by have := hb.size; omega) (by have := hb.size; omega) ((hb.cell (p := ⟨w.heap.size, 0, none⟩) (show w.heap.size < w1.heap.size by omega)).trans cr) ((hb.cell (p := ⟨w.heap.size + 1, 0, none⟩) (show w.heap.size + 1 < w1.heap.size by omega)).trans cn) (Kd.C_below hr0 (hb1.trans (hb.mono (by omega)))) hc0
    have hrest : ∀ v W2, Kd.R k30 30 W2 w1.heap.size (fun _ => True) v l2 → Go.RowKit.Below w1.heap.size w1 W2 → Calls Tryd.prog 77 #[v, .func (.func 79) #[] #[.pointer (some ⟨w.heap.size, 0, none⟩), .pointer (some ⟨w.heap.size + 1, 0, none⟩)]] W2 fun e w' => ∃ v, e = .returned v ∧ Kd.R k30 30 w' w.heap.size (fun _ => True) v (l2.filter fun l => l0.any (impl_Broken.fb k a1 l)) ∧ Go.RowKit.Below w.heap.size w w' := by
      intro v W2 hR hB
      by_cases h0 : l2 = []
      · subst h0
        obtain ⟨A, c, rfl⟩ := Kd.R_slice hR
        refine (impl_Broken.delete_none A c _ W2).mono ?_
        rintro e w' ⟨rfl, rfl⟩
        exact ⟨_, rfl, Kd.R_lower hR (by omega), hb1.trans (hB.mono (by omega))⟩
      · obtain ⟨g, cap, rfl, hg, hcap, row⟩ := impl_Broken.rowOf hR h0
        refine (impl_Broken.delete (fun x => !(l0.any (impl_Broken.fb k a1 x))) w.heap.size (w.heap.size + 1) w1 g cap l2 W2 hg hB row h0 hcap hl hp).mono ?_
        rintro e w' ⟨v, rfl, hR2, hB2⟩
        simp only [Bool.not_not] at hR2
        exact ⟨v, rfl, Kd.R_lower hR2 (by omega), hb1.trans (hB2.mono (by omega))⟩
    have HRE := Aside0.mk hrest
    clear hrest hp cr cn hb1 hr0 hc0 hr2 hc2 hok hl
    subst hw1
    have e1 : (w.alloc (.cells #[.slice A0 l0.length c0] 59)).heap.size = w.heap.size + 1 := by simp
    generalize (l2.filter fun l => l0.any (impl_Broken.fb k a1 l)) = r at HRE ⊢
    generalize l0.length = n0 at hclone HRE ⊢
    generalize l2.length = n2 at hclone ⊢
    go_enter Tryd.func44, Tryd.ntmps44
    go_wp2_with (first | (go_at_call 78; refine hclone.mono ?_; rintro e w' ⟨v, rfl, hR, hB⟩; have hs := HRE.out v w' hR hB; clear hR hB) | (go_at_call 77; refine hs.mono ?_; rintro e w' ⟨v0, rfl, hR2, hB2⟩; clear hs; have R2 := Aside0.mk hR2; have B2 := Aside0.mk hB2; clear hR2 hB2))
    go_ret
    exact ⟨_, rfl, R2.out, B2.out⟩
  · rw [if_neg hc] at h
    cases h


end Go.Proofs.YtckdocofmffheaaDoor.Q
