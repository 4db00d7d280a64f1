/- What the Go functions LevelParams and LevelUps (the program's and the reference's) come to. No condition beyond the sizes. -/
import Derived.Test.YtjnfehajgogjiaaLvE
import Derived.Test.YtjnfehajgogjiaaLv2
import Derived.Test.YtjnfehajgogjiaaQ2
import Derived.Test.YtjnfehajgogjiaaQ9
namespace Go.Proofs.Ytjnfehajgogjiaa.Pv
set_option linter.unusedSimpArgs false
set_option linter.unusedVariables false
open Go.RowKit Go.Proofs.Ytjnfehajgogjiaa.Q Go.Proofs.YtjnfehajgogjiaaW.PrintWords Go.Proofs.YtjnfehajgogjiaaW.PrintLast Go.Proofs.YtjnfehajgogjiaaW.PrintMore
theorem indexByte_mem (l : List UInt8) (c : UInt8) : 0 ≤ Lib.indexByte l c ↔ c ∈ l := by
  induction l with
  | nil => simp [Lib.indexByte]
  | cons b l ih =>
    have hg := Lib.indexByte_ge l c
    unfold Lib.indexByte
    by_cases h : b = c
    · subst h
      simp
    · rw [if_neg (by simpa using h)]
      by_cases h2 : Lib.indexByte l c = -1
      · rw [if_pos (by simpa using h2)]
        simp only [List.mem_cons]
        rw [← ih, h2]
        constructor
        · intro h3
          omega
        · rintro (h3 | h3)
          · exact absurd h3.symm h
          · omega
      · rw [if_neg (by simpa using h2)]
        simp only [List.mem_cons]
        rw [← ih]
        constructor
        · intro h3
          right
          omega
        · rintro (h3 | h3)
          · exact absurd h3.symm h
          · omega
theorem mem_bytes (s : ByteArray) (x : Int) (h0 : 0 ≤ x) (h1 : x ≤ 255) : x.toNat.toUInt8 ∈ s.data.toList ↔ x ∈ bytesOf s := by
  unfold bytesOf
  rw [List.mem_map]
  constructor
  · intro h
    refine ⟨_, h, ?_⟩
    rw [UInt8.toNat_ofNat']
    omega
  · rintro ⟨b, hb, e⟩
    have : x.toNat.toUInt8 = b := by
      rw [← e, Int.toNat_natCast]
      exact UInt8.toNat_inj.1 (by rw [UInt8.toNat_ofNat', Nat.mod_eq_of_lt b.toNat_lt])
    rw [this]
    exact hb
theorem ev_IndexByte (s : ByteArray) (x : Int) (h0 : 0 ≤ x) (h1 : x ≤ 255) : ∃ r, strings_IndexByte.f s x = some r ∧ (r ≥ 0 ↔ x ∈ bytesOf s) := by
  refine ⟨Lib.indexByte s.data.toList x.toNat.toUInt8, rfl, ?_⟩
  show 0 ≤ _ ↔ _
  rw [indexByte_mem, mem_bytes s x h0 h1]
def lvPar (l : List Int) : Int := if lvOk l = true then (if (50 : Int) ∈ l then 3 else if (49 : Int) ∈ l then 2 else if (48 : Int) ∈ l then 1 else 0) else 0
theorem lvPar_tree (t : Lv) (h : t.ok) (hl : t.tx.length ≤ 60) : lvPar t.tx = t.params := by
  unfold lvPar
  rw [if_pos (lvOk_of h hl), params_digits t h]
theorem ev_LevelParams (s : ByteArray) : Ev (fun k => impl_LevelParams.f k s) (lvPar (bytesOf s)) := by
  unfold impl_LevelParams.f
  refine Ev.bnd (ev_LevelOk s) ?_
  unfold lvPar
  by_cases hok : lvOk (bytesOf s) = true
  · refine Ev.pos hok ?_
    rw [if_pos hok]
    obtain ⟨r2, e2, i2⟩ := ev_IndexByte s 50 (by omega) (by omega)
    obtain ⟨r1, e1, i1⟩ := ev_IndexByte s 49 (by omega) (by omega)
    obtain ⟨r0, e0, i0⟩ := ev_IndexByte s 48 (by omega) (by omega)
    refine Ev.succ ?_
    simp only [impl_LevelParams.l0]
    refine Ev.pos (by omega) ?_
    rw [show (wrap64 (48 + 2)) % 256 = 50 from by unfold wrap64; omega, e2]
    refine Ev.some_bind ?_
    by_cases h2 : (50 : Int) ∈ bytesOf s
    · refine Ev.pos (i2.2 h2) (Ev.val ?_)
      rw [if_pos h2]
      unfold wrap64
      omega
    refine Ev.neg (fun h => h2 (i2.1 h)) ?_
    rw [if_neg h2, show wrap64 (2 - 1) = 1 from by unfold wrap64; omega]
    refine Ev.succ ?_
    simp only [impl_LevelParams.l0]
    refine Ev.pos (by omega) ?_
    rw [show (wrap64 (48 + 1)) % 256 = 49 from by unfold wrap64; omega, e1]
    refine Ev.some_bind ?_
    by_cases h1 : (49 : Int) ∈ bytesOf s
    · refine Ev.pos (i1.2 h1) (Ev.val ?_)
      rw [if_pos h1]
      unfold wrap64
      omega
    refine Ev.neg (fun h => h1 (i1.1 h)) ?_
    rw [if_neg h1, show wrap64 (1 - 1) = 0 from by unfold wrap64; omega]
    refine Ev.succ ?_
    simp only [impl_LevelParams.l0]
    refine Ev.pos (by omega) ?_
    rw [show (wrap64 (48 + 0)) % 256 = 48 from by unfold wrap64; omega, e0]
    refine Ev.some_bind ?_
    by_cases h0 : (48 : Int) ∈ bytesOf s
    · refine Ev.pos (i0.2 h0) (Ev.val ?_)
      rw [if_pos h0]
      unfold wrap64
      omega
    refine Ev.neg (fun h => h0 (i0.1 h)) ?_
    rw [if_neg h0, show wrap64 (0 - 1) = -1 from by unfold wrap64; omega]
    refine Ev.succ ?_
    simp only [impl_LevelParams.l0]
    exact Ev.neg (by omega) (Ev.val rfl)
  · refine Ev.neg hok (Ev.val ?_)
    rw [if_neg hok]
theorem drop_cons {s : ByteArray} {a : Nat} {c : Int} {l : List Int} (h : (bytesOf s).drop a = c :: l) : a < s.size ∧ bt s (a : Int) = c ∧ (bytesOf s).drop (a + 1) = l := by
  have ha : a < s.size := by
    have := congrArg List.length h
    rw [List.length_drop, bl_length] at this
    simp at this
    omega
  rw [bl_drop s a ha] at h
  injection h with h1 h2
  exact ⟨ha, h1, h2⟩
theorem spec_params_l0 (s : ByteArray) (hs : s.size ≤ 140737488351232) (hok : lvOk (bytesOf s) = true) : ∀ (d a : Nat) (n : Int), a + d = s.size → 0 ≤ n → n ≤ 255 → Ev (fun k => spec_LevelParams.l0 k s n (a : Int)) (plf ((bytesOf s).drop a) n) := by
  intro d
  induction d with
  | zero =>
    intro a n h _ _
    refine Ev.succ ?_
    simp only [spec_LevelParams.l0]
    refine Ev.neg (by omega) (Ev.succ ?_)
    simp only [spec_LevelParams.j1]
    refine Ev.neg (by simp) (Ev.val ?_)
    rw [drop_all s a (by omega)]
    rfl
  | succ d ih =>
    intro a n h h0 h1
    have ha : a < s.size := by omega
    refine Ev.succ ?_
    simp only [spec_LevelParams.l0]
    refine Ev.pos (by omega) (Ev.bnd (ev_spec_LevelOk s hs) ?_)
    rw [hok]
    refine Ev.succ ?_
    simp only [spec_LevelParams.j1]
    refine Ev.pos (by simp) (Ev.pos (by omega) (Ev.pos (by omega) ?_))
    rw [wS a (by omega), bl_drop s a ha]
    by_cases hu : bt s (a : Int) = 117
    · refine Ev.pos hu ?_
      rw [hu]
      have ha1 : a + 1 < s.size := by
        obtain ⟨t, ho, ht, _⟩ := lvOk_tree hok
        refine Nat.lt_of_not_le fun hle => last_tx t ho ((bytesOf s).take a) ?_
        rw [← ht]
        have e1 := List.take_append_drop a (bytesOf s)
        rw [bl_drop s a ha, hu, drop_all s (a + 1) (by omega)] at e1
        exact e1.symm
      refine Ev.pos (by omega) (Ev.pos (by omega) ?_)
      have hb := bt_range s (((a + 1 : Nat)) : Int)
      rw [w_id (x := bt s (((a + 1 : Nat)) : Int)) (by omega) (by omega), w_id (x := bt s (((a + 1 : Nat)) : Int) - 47) (by omega) (by omega), bl_drop s (a + 1) ha1]
      simp only [plf]
      by_cases hc : bt s (((a + 1 : Nat)) : Int) - 47 > n
      · refine Ev.pos hc ?_
        rw [if_pos ⟨trivial, hc⟩, ← bl_drop s (a + 1) ha1]
        exact ih (a + 1) _ (by omega) (by omega) (by omega)
      · refine Ev.neg hc ?_
        rw [if_neg (fun e => hc e.2), ← bl_drop s (a + 1) ha1]
        exact ih (a + 1) _ (by omega) (by omega) (by omega)
    · refine Ev.neg hu ?_
      rw [plf_other _ hu]
      exact ih (a + 1) n (by omega) h0 h1
theorem ev_spec_LevelParams (s : ByteArray) (hs : s.size ≤ 140737488351232) : Ev (fun k => spec_LevelParams.f k s) (lvPar (bytesOf s)) := by
  unfold spec_LevelParams.f
  by_cases hok : lvOk (bytesOf s) = true
  · refine Ev.cast (spec_params_l0 s hs hok s.size 0 0 (by omega) (by omega) (by omega)) ?_
    obtain ⟨t, ho, ht, hl⟩ := lvOk_tree hok
    rw [List.drop_zero, ht, plf_text t ho]
    exact (lvPar_tree t ho (by rw [← ht]; exact hl)).symm
  · unfold lvPar
    rw [if_neg hok]
    refine Ev.succ ?_
    simp only [spec_LevelParams.l0]
    have hf : lvOk (bytesOf s) = false := by simpa using hok
    refine Ev.ite (fun _ => Ev.bnd (ev_spec_LevelOk s hs) ?_) (fun _ => Ev.succ ?_)
    · rw [hf]
      refine Ev.succ ?_
      simp only [spec_LevelParams.j1]
      exact Ev.neg (by simp) (Ev.val rfl)
    · simp only [spec_LevelParams.j1]
      exact Ev.neg (by simp) (Ev.val rfl)
/-! LevelUps -/
def lvUps (l : List Int) : Int := if lvOk l = true then (l.count 43 : Int) else 0
theorem lvUps_tree (t : Lv) (h : t.ok) (hl : t.tx.length ≤ 60) : lvUps t.tx = t.ups := by
  unfold lvUps
  rw [if_pos (lvOk_of h hl), count_tx t h]
theorem count_bytes (s : ByteArray) : (Lib.countByte s.data.toList 43 : Int) = ((bytesOf s).count 43 : Int) := by
  unfold bytesOf Lib.countByte
  generalize s.data.toList = l
  induction l with
  | nil => rfl
  | cons b l ih =>
    rw [List.map_cons, List.count_cons, List.count_cons]
    have hb : (b == (43 : UInt8)) = (((b.toNat : Nat) : Int) == 43) := by
      rw [Bool.eq_iff_iff, beq_iff_eq, beq_iff_eq]
      constructor
      · rintro rfl
        rfl
      · intro h
        exact UInt8.toNat_inj.1 (show b.toNat = 43 by omega)
    rw [hb]
    push_cast
    rw [ih]
theorem ev_LevelUps (s : ByteArray) : Ev (fun k => impl_LevelUps.f k s) (lvUps (bytesOf s)) := by
  unfold impl_LevelUps.f
  refine Ev.bnd (ev_LevelOk s) ?_
  unfold lvUps
  refine Ev.ite (fun h => ?_) (fun h => Ev.val (by rw [if_neg h]))
  rw [if_pos h]
  exact Ev.some_bind (Ev.val (count_bytes s))
end Go.Proofs.Ytjnfehajgogjiaa.Pv
