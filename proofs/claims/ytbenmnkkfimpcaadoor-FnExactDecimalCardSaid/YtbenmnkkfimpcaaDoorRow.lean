/- Readings of arguments: whatever can be read as data of a type is, cell by cell, of the kind by which the printed walks read it; the numbers in it are whole numbers of their kinds. No condition. -/
import Derived.Test.YtbenmnkkfimpcaaDoorWWords
import Derived.ChangeArms
import Derived.DataReads
import Derived.ChangeOld
import Derived.SizedLaws
namespace Go.Proofs.YtbenmnkkfimpcaaDoor.Pv
set_option linter.unusedSimpArgs false
set_option linter.unusedVariables false
open Go.RowKit Go.Proofs.YtbenmnkkfimpcaaDoorW.PrintWords
/-- What is read at type t is of kind d, and good. -/
structure Opens (P : Program) (t : TypeId) {α : Type} (d : Kd α) (G : α → Prop) : Prop where
  rd : ∀ {H : Type} {enc : TypeId × Value → H} {w : World} {n : Nat} {cs : List Value} {x : DataW H × List MemPlace}, DataW.trod enc P w 0 (fun _ => true) true n t cs = some x → ∃ v, d.K w v cs ∧ G v
variable {P : Program} {t e : TypeId} {α β : Type} {d : Kd α} {d' : Kd β} {G : α → Prop} {G' : β → Prop}
def gI (k : IntKind) (n : Int) : Prop := (Lit.int k n).wf = true
def gS (s : ByteArray) : Prop := s.size ≤ maxLen
def gB (_ : Bool) : Prop := True
def gL (G : α → Prop) (xs : List α) : Prop := (∀ x ∈ xs, G x) ∧ xs.length ≤ maxLen
theorem opens_int {k : IntKind} (ht : P.underlying t = some (.int k)) : Opens P t (Kd.int k) (gI k) := by
  refine ⟨?_⟩
  intro H enc w n cs x h
  obtain ⟨m, rfl, rfl, hm⟩ := DataW.trod_int ht h
  exact ⟨m, rfl, hm⟩
theorem opens_bool (ht : P.underlying t = some .bool) : Opens P t Kd.bool gB := by
  refine ⟨?_⟩
  intro H enc w n cs x h
  obtain ⟨m, rfl, rfl⟩ := DataW.trod_bool ht h
  exact ⟨m, rfl, trivial⟩
theorem opens_string (ht : P.underlying t = some .string) : Opens P t Kd.string gS := by
  refine ⟨?_⟩
  intro H enc w n cs x h
  obtain ⟨s, rfl, rfl, hs⟩ := DataW.trod_string ht h
  exact ⟨s, rfl, hs⟩
theorem add_add (a : Addr) (m n : Nat) : (a.add m).add n = a.add (m + n) := by
  unfold Addr.add
  rcases Nat.eq_zero_or_pos m with rfl | hm
  · simp
  · rcases Nat.eq_zero_or_pos n with rfl | hn
    · simp
    · rw [if_neg (by omega), if_neg (by omega), if_neg (by omega)]
      simp [Nat.add_assoc]
theorem opens_slice (ht : P.underlying t = some (.slice e)) (hc : P.cellsOf e = d.sz) (hd : Opens P e d G) : Opens P t (Kd.slice e d) (gL G) := by
  refine ⟨?_⟩
  intro H enc w n cs x h
  rcases DataW.trod_slice ht h with ⟨rfl, rfl⟩ | ⟨a, len, cap, elems, rest, m, _, rfl, rfl, hb, hl, hm, hlen, hel, hsp, hns⟩
  · refine ⟨[], ⟨none, 0, rfl, Nat.le_refl _, rfl, Nat.zero_le _, fun h0 => absurd h0 (Nat.lt_irrefl _)⟩, ?_, Nat.zero_le _⟩
    intro x hx
    cases hx
  · have each : ∀ i, i < len → ∃ v c, w.cells? 0 (a.add (i * P.cellsOf e)) (P.cellsOf e) = some c ∧ d.K w v c ∧ G v := by
      intro i hi
      have h1 := hel i hi
      rw [List.getElem?_eq_getElem (by omega)] at h1
      obtain ⟨c, hc1, hc2⟩ := Option.bind_eq_some_iff.1 h1
      obtain ⟨v, hv, hg⟩ := hd.rd hc2
      exact ⟨v, c, hc1, hv, hg⟩
    have all : ∀ k, k ≤ len → ∃ xs : List α, xs.length = k ∧ (∀ y ∈ xs, G y) ∧ ∀ j p, xs[j]? = some p → ∃ c, w.cells? 0 (a.add (j * P.cellsOf e)) (P.cellsOf e) = some c ∧ d.K w p c := by
      intro k
      induction k with
      | zero => exact fun _ => ⟨[], rfl, (fun y hy => by cases hy), (fun j p hp => by simp at hp)⟩
      | succ k ih =>
        intro hk
        obtain ⟨xs, hxl, hxg, hxc⟩ := ih (by omega)
        obtain ⟨v, c, h1, h2, h3⟩ := each k (by omega)
        refine ⟨xs ++ [v], by simp [hxl], ?_, ?_⟩
        · intro y hy
          rcases List.mem_append.1 hy with hy | hy
          · exact hxg y hy
          · rw [List.mem_singleton.1 hy]
            exact h3
        · intro j p hp
          rcases Nat.lt_or_ge j xs.length with hj | hj
          · rw [List.getElem?_append_left hj] at hp
            exact hxc j p hp
          · have : j < (xs ++ [v]).length := (List.getElem?_eq_some_iff.1 hp).1
            have hj' : j = xs.length := by simp at this; omega
            subst hj'
            have : p = v := by simpa using hp.symm
            subst this
            rw [hxl]
            exact ⟨c, h1, h2⟩
    obtain ⟨xs, hxl, hxg, hxc⟩ := all len (Nat.le_refl _)
    subst hxl
    refine ⟨xs, ⟨some a, cap, rfl, hl, rfl, by unfold maxLen at hm; omega, fun _ => ⟨a, rfl, fun j p hp => ?_⟩⟩, hxg, by omega⟩
    obtain ⟨c, h1, h2⟩ := hxc j p hp
    obtain ⟨_, hcl, hcc⟩ := World.cells?_some h1
    have hcs : c.length = d.sz := d.K_len h2
    refine ⟨c, hcs, h2, fun i u hu => ?_⟩
    have hi : i < P.cellsOf e := by
      have := (List.getElem?_eq_some_iff.1 hu).1
      omega
    have h3 := hcc i hi
    rw [hu] at h3
    have ha : (a.add (j * P.cellsOf e)).add i = a.add (j * d.sz + i) := by
      rw [hc, add_add]
    rw [← ha]
    exact h3
/-- The fields from the place o on, one after the other. -/
structure OpensF (P : Program) (fs : List Field) (o : Nat) {α : Type} (d : Kd α) (G : α → Prop) : Prop where
  rd : ∀ {H : Type} {enc : TypeId × Value → H} {w : World} {n : Nat} {cs : List Value} {xs : List (DataW H × List MemPlace)}, cs.length = o + d.sz → xs.length = fs.length →
    (∀ (i : Nat) (f : Field), fs[i]? = some f → DataW.trod enc P w 0 (fun _ => true) true n f.type ((cs.drop f.offset).take (P.cellsOf f.type)) = xs[i]?) → ∃ v, d.K w v (cs.drop o) ∧ G v
theorem opensF_one {f : Field} {o : Nat} (ho : f.offset = o) (hc : P.cellsOf f.type = d.sz) (hd : Opens P f.type d G) : OpensF P [f] o d G := by
  refine ⟨?_⟩
  intro H enc w n cs xs hcs hxs h
  have h0 := h 0 f rfl
  have hx : 0 < xs.length := by rw [hxs]; exact Nat.zero_lt_one
  rw [List.getElem?_eq_getElem hx, ho] at h0
  obtain ⟨v, hv, hg⟩ := hd.rd h0
  refine ⟨v, ?_, hg⟩
  rw [hc, List.take_of_length_le (by rw [List.length_drop]; omega)] at hv
  exact hv
theorem opensF_cons {f : Field} {fs : List Field} {o : Nat} (ho : f.offset = o) (hc : P.cellsOf f.type = d.sz) (hd : Opens P f.type d G) (hs : OpensF P fs (o + d.sz) d' G') :
    OpensF P (f :: fs) o (Kd.pair d d') (fun x => G x.1 ∧ G' x.2) := by
  refine ⟨?_⟩
  intro H enc w n cs xs hcs hxs h
  have hcs : cs.length = o + (d.sz + d'.sz) := hcs
  cases xs with
  | nil => simp at hxs
  | cons x xs =>
    have h0 := h 0 f rfl
    rw [List.getElem?_cons_zero, ho, hc] at h0
    obtain ⟨v, hv, hg⟩ := hd.rd h0
    obtain ⟨v', hv', hg'⟩ := hs.rd (cs := cs) (xs := xs) (by omega) (by simpa using hxs) (fun i g hi => by
      have := h (i + 1) g (by simpa using hi)
      rw [List.getElem?_cons_succ] at this
      exact this)
    refine ⟨(v, v'), ⟨_, _, ?_, hv, hv'⟩, hg, hg'⟩
    have : (cs.drop o).take d.sz ++ (cs.drop o).drop d.sz = cs.drop o := List.take_append_drop _ _
    rw [List.drop_drop] at this
    exact this.symm
theorem opens_struct {fs : Array Field} (ht : P.underlying t = some (.struct fs)) (hc : P.cellsOf t = d.sz) (hf : OpensF P fs.toList 0 d G) : Opens P t d G := by
  refine ⟨?_⟩
  intro H enc w n cs x h
  obtain ⟨xs, m, rfl, rfl, hl, hx, hr⟩ := DataW.trod_struct ht h
  obtain ⟨v, hv, hg⟩ := hf.rd (cs := cs) (xs := xs) (by omega) (by simpa using hx) (fun i f hi => hr i f (by simpa using hi))
  exact ⟨v, hv, hg⟩
theorem opens_iso {f : β → α} (g : α → β) (hfg : ∀ x, f (g x) = x) (h : Opens P t d G) : Opens P t (Kd.iso d f) (fun x => G (f x)) := by
  refine ⟨?_⟩
  intro H enc w n cs x hx
  obtain ⟨v, hv, hg⟩ := h.rd hx
  exact ⟨g v, by show d.K w (f (g v)) cs; rw [hfg]; exact hv, by show G (f (g v)); rw [hfg]; exact hg⟩
end Go.Proofs.YtbenmnkkfimpcaaDoor.Pv
