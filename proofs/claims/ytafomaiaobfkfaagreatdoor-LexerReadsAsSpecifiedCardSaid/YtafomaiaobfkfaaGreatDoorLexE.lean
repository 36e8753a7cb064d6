/-
  (*reader).sign of the lexer, walked. Conditions: each theorem's own.
-/
import Derived.Test.YtafomaiaobfkfaaGreatDoorLexC
import Derived.Test.YtafomaiaobfkfaaGreatDoorWMore
namespace Go.Proofs.YtafomaiaobfkfaaGreatDoor.Lx
open Go.RowKit Go.Proofs.YtafomaiaobfkfaaGreatDoorW.PrintWords Go.Proofs.YtafomaiaobfkfaaGreatDoorW.PrintMore
attribute [local go_sem] max2_int min2_int max_two min_two
set_option linter.unusedVariables false
set_option linter.unusedSimpArgs false

theorem longs_cell (w : World) (j : Nat) (hj : j < longs.length) :
    (w.alloc (.cells (longs.map fun l => Value.string ⟨l.toArray⟩).toArray 9)).cell? ⟨w.heap.size, j, none⟩ = some (.string ((longs.map fun l => (⟨l.toArray⟩ : ByteArray)).getD j ByteArray.empty)) := by
  have h : (w.alloc (.cells (longs.map fun l => Value.string ⟨l.toArray⟩).toArray 9)).heap[w.heap.size]? = some (.cells (longs.map fun l => Value.string ⟨l.toArray⟩).toArray 9 (0, 0)) := heap_alloc_new w _
  rw [blk_cell h]
  simp [List.getD, hj]

def LongsPost (w : World) (e : Ending) (w' : World) : Prop := ∃ b, e = .returned (.slice (some ⟨b, 0, none⟩) 5 5) ∧ Below w.heap.size w w' ∧
  ∀ j, j < (longs.map fun l => (⟨l.toArray⟩ : ByteArray)).length → w'.cell? ⟨b, 0 + j, none⟩ = some (.string ((longs.map fun l => (⟨l.toArray⟩ : ByteArray)).getD j ByteArray.empty))
theorem longs_any (w : World) (hG : Gl w) :
    Calls Tryz.prog 33 #[.string ⟨#[61, 61, 32, 33, 61, 32, 60, 61, 32, 62, 61, 32, 46, 46]⟩] w (LongsPost w) :=
  (Tryz.strings_Fields _ _ (by decide) (ascii_of _ (by decide)) hG).mono fun _ _ ⟨a, b⟩ => by
    subst b
    refine ⟨w.heap.size, by rw [a]; rfl, (Below.refl _ _).alloc (Nat.le_refl _) _, fun j hj => ?_⟩
    rw [show (0 : Nat) + j = j from by omega]
    exact longs_cell w j (by simpa using hj)
theorem longs_contains (b : Nat) (x : ByteArray) (w : World) (h : ∀ j, j < (longs.map fun l => (⟨l.toArray⟩ : ByteArray)).length → w.cell? ⟨b, 0 + j, none⟩ = some (.string ((longs.map fun l => (⟨l.toArray⟩ : ByteArray)).getD j ByteArray.empty))) :
    Calls Tryz.prog 34 #[.slice (some ⟨b, 0, none⟩) 5 5, .string x] w fun e w' => e = .returned (.bool (Lib.containsS ((longs.map fun l => (⟨l.toArray⟩ : ByteArray)).take 5) x)) ∧ w' = w :=
  Tryz.slices_Contains_string b 0 5 5 (longs.map fun l => (⟨l.toArray⟩ : ByteArray)) x w (by decide) (by omega) h

theorem longs_has (x : ByteArray) : Lib.containsS ((longs.map fun l => (⟨l.toArray⟩ : ByteArray)).take 5) x = decide (x.data.toList ∈ longs) := by
  rw [Bool.eq_iff_iff, Lib.containsS_iff, decide_eq_true_eq]
  simp only [List.take_of_length_le (show (longs.map fun l => (⟨l.toArray⟩ : ByteArray)).length ≤ 5 from by decide), List.mem_map]
  constructor
  · rintro ⟨l, hl, rfl⟩
    simpa using hl
  · intro h
    exact ⟨_, h, mk_data x⟩

theorem idx_neg (l : L) (c : UInt8) : Lib.indexByte l c < 0 ↔ c ∉ l := by
  have hge := Lib.indexByte_ge l c
  induction l with
  | nil => simp [Lib.indexByte]
  | cons b r ih =>
    have h1 := Lib.indexByte_ge r c
    simp only [Lib.indexByte, List.mem_cons, not_or]
    by_cases hb : b = c
    · subst hb; simp
    · have hb' : (b == c) = false := by simpa using hb
      rw [hb']
      have ih' := ih h1
      constructor
      · intro h
        refine ⟨fun e => hb e.symm, ih'.1 ?_⟩
        simp at h
        split at h
        · omega
        · omega
      · rintro ⟨_, h⟩
        have := ih'.2 h
        have e : Lib.indexByte r c = -1 := by omega
        simp [e]
/-- The search among the signs of one byte. -/
theorem shorts_any (b : UInt8) (w : World) :
    Calls Tryz.prog 74 #[.string ⟨#[123, 125, 40, 41, 91, 93, 44, 59, 58, 61, 60, 62, 43, 45, 42, 47, 37]⟩, .int .u8 b.toNat] w fun e w' => e = .returned (.int .i64 (Lib.indexByte shorts b)) ∧ w' = w :=
  (Tryz.strings_IndexByte _ _ w).mono fun _ _ ⟨a, h⟩ => ⟨by rw [a]; simp [shorts], h⟩

theorem Lxm.setFar {w : World} {b : Nat} {k o : Int} {s : ByteArray} (h : Lxm w b k o s) {p : Addr} (hp : b ≠ p.block) (u : Value) : Lxm (w.setCell p u) b k o s := blk_far h hp u

set_option maxHeartbeats 3200000 in
theorem sign_any (g : Nat) (s : ByteArray) (i : Nat) (w : World) (hb : Rdr w g s i) (hi : i < s.size) (hs : s.size ≤ 140737488351232) (hG : Gl w) :
    Calls Tryz.prog 48 #[.pointer (some ⟨g, 0, none⟩)] w (ReadPost w g s (signL (sl s i))) := by
  obtain ⟨r0, hr0⟩ : ∃ r0, r0 = signL (sl s i) := ⟨_, rfl⟩
  rw [← hr0]
  have HR0 := Lib.hid hr0; clear hr0
  have hlt := hb.lt
  have hne := hb.ne_gl hG
  have hb1 : Rdr (w.alloc (.cells #[.int .i64 0, .int .i64 0, .string ⟨#[]⟩] 44)) g s i := blk_alloc hb _
  have hL1 := Lxm.new w
  have d0 := hb1.c0
  have d1 := hb1.c1
  have hg1 := gb_alloc (World.grownBy.refl w (some g)) (.cells #[.int .i64 0, .int .i64 0, .string ⟨#[]⟩] 44)
  have hG1 := hG.grown hg1 (by rintro _ ⟨⟩; exact hne)
  obtain ⟨⟨q0, q1, q2⟩, f0, f1, f2⟩ := hL1.cell
  have hi' := Nat.le_of_lt hi
  by_cases h2 : i + 1 < s.size
  · have hmin : min (i + 2) s.size = i + 2 := by omega
    have hxe : (s.extract i (i + 2)).data.toList = [s[i], s[i + 1]] := by
      rw [Lib.extract_data]
      have := sl_cons s i hi
      rw [sl_cons s (i + 1) h2] at this
      unfold sl at this
      rw [this, show i + 2 - i = 2 from by omega]
      rfl
    have HX := Lib.hid hxe; clear hxe
    by_cases hm : [s[i], s[i + 1]] ∈ longs
    · go_enter Tryz.func48, Tryz.ntmps48
      go_wp2_with fail
      go_quiet (fail)
      clear hmin
      go_wp2_with fail
      refine (longs_any _ (by exact hG1)).mono ?_
      rintro e w2 ⟨b2, rfl, hb2, hc2⟩
      have HC2 := Lib.hid hc2; clear hc2
      go_wp2_with fail
      refine (longs_contains b2 _ _ HC2.out).mono ?_
      rintro e w' ⟨rfl, rfl⟩
      rw [longs_has, HX.out, decide_eq_true hm]
      have hr2 : Rdr w' g s i := Rdr.far (by exact hb1) hb2
      have hL2 : Lxm w' w.heap.size 0 0 ⟨#[]⟩ := Lxm.far (by exact hL1) hb2
      have hg2 : w.grownBy w' (some g) := gb_then (gb_drewN hg1 _) hb2
      clear d0 d1 q0 q1 q2 f0 f1 f2
      have d0 := hr2.c0
      have d1 := hr2.c1
      have e1 := hr2.f1
      obtain ⟨⟨q0, q1, q2⟩, f0, f1, f2⟩ := hL2.cell
      go_wp2_with fail
      have hle : (s.size : Int) ≤ 140737488351232 := by omega
      go_quiet (fail)
      go_wp2_with fail
      refine (fail_no _ rfl _ _).mono ?_
      rintro e w4 ⟨rfl, rfl⟩
      go_wp2_with fail
      refine read_end' (T := [s[i], s[i + 1]]) (R := sl s (i + 2)) (j := i + 2) rfl rfl (hL2.setFar (p := ⟨g, 1, none⟩) (by simp; omega) _) (hr2.set_ (i + 2)) (gb_set (gb_drewN hg2 _) (.inl rfl) _) hlt ?_ ?_ ?_
      · rw [← HX.out, mk_data]
      · rw [sl_len]; omega
      · rw [HR0.out, sl_cons s i hi, sl_cons s (i + 1) h2]; simp only [signL]; rw [if_pos hm]
    · have hxf : (s.extract i (i + 1)).data.toList = [s[i]] := by
        rw [Lib.extract_data]
        have := sl_cons s i hi
        unfold sl at this
        rw [this, show i + 1 - i = 1 from by omega]
        rfl
      obtain ⟨x1, hx1⟩ : ∃ x1, x1 = s.extract i (i + 1) := ⟨_, rfl⟩
      rw [← hx1] at hxf
      have hxs : x1.size = 1 := by rw [Lib.size_eq, hxf]; rfl
      have hxz : ∀ h : 0 < x1.size, x1[0] = s[i] := by
        intro h
        have e2 : x1.data.toList[0]? = some s[i] := by rw [hxf]; rfl
        simp at e2
        rw [Array.getElem?_eq_getElem (by simpa using h)] at e2
        injection e2
      have h0x : 0 < x1.size := by omega
      have HXS := Lib.hid hxs; have HX1 := Lib.hid hx1; have HXZ := Lib.hid hxz; have HXF := Lib.hid hxf
      clear hxf hx1 hxs hxz
      go_enter Tryz.func48, Tryz.ntmps48
      go_wp2_with fail
      go_quiet (fail)
      clear hmin
      go_wp2_with fail
      refine (longs_any _ (by exact hG1)).mono ?_
      rintro e w2 ⟨b2, rfl, hb2, hc2⟩
      have HC2 := Lib.hid hc2; clear hc2
      go_wp2_with fail
      refine (longs_contains b2 _ _ HC2.out).mono ?_
      rintro e w' ⟨rfl, rfl⟩
      rw [longs_has, HX.out, decide_eq_false hm]
      have hr2 : Rdr w' g s i := Rdr.far (by exact hb1) hb2
      have hL2 : Lxm w' w.heap.size 0 0 ⟨#[]⟩ := Lxm.far (by exact hL1) hb2
      have hg2 : w.grownBy w' (some g) := gb_then (gb_drewN hg1 _) hb2
      clear d0 d1 q0 q1 q2 f0 f1 f2
      have d0 := hr2.c0
      have d1 := hr2.c1
      have e1 := hr2.f1
      obtain ⟨⟨q0, q1, q2⟩, f0, f1, f2⟩ := hL2.cell
      have hle : (s.size : Int) ≤ 140737488351232 := by omega
      go_wp2_with fail
      go_quiet (fail)
      rw [← HX1.out]
      go_wp2_with fail
      refine (shorts_any _ _).mono ?_
      rintro e w3 ⟨rfl, rfl⟩
      rw [HXZ.out h0x]
      by_cases hsh : s[i] ∈ shorts
      · have hneg : ¬ Lib.indexByte shorts s[i] < 0 := by rw [idx_neg]; simpa using hsh
        have HN := Lib.hid hneg; clear hneg
        go_wp2_with fail
        refine (fail_no _ (by simpa using HN.out) _ _).mono ?_
        rintro e w4 ⟨rfl, rfl⟩
        go_wp2_with fail
        refine read_end' (T := [s[i]]) (R := sl s (i + 1)) (j := i + 1) rfl rfl (hL2.setFar (p := ⟨g, 1, none⟩) (by simp; omega) _) (hr2.set_ (i + 1)) (gb_set (gb_drewN hg2 _) (.inl rfl) _) hlt ?_ ?_ ?_
        · rw [← HXF.out, mk_data]
        · rw [sl_len]; omega
        · rw [HR0.out, sl_cons s i hi, sl_cons s (i + 1) h2]; simp only [signL]; rw [if_neg hm, if_pos hsh]
      · have hneg : Lib.indexByte shorts s[i] < 0 := (idx_neg _ _).2 hsh
        have HN := Lib.hid hneg; clear hneg
        go_wp2_with fail
        refine (fail_yes _ (by simpa using HN.out) _ _).mono ?_
        rintro e w4 ⟨rfl, rfl⟩
        exact read_bad (gb_drewN hg2 _) (by rw [HR0.out, sl_cons s i hi, sl_cons s (i + 1) h2]; simp only [signL]; rw [if_neg hm, if_neg hsh])
  · have hmin : min (i + 2) s.size = i + 1 := by omega
    have hsz : s.size = i + 1 := by omega
    have hxf : (s.extract i (i + 1)).data.toList = [s[i]] := by
      rw [Lib.extract_data]
      have := sl_cons s i hi
      rw [sl_nil s (i + 1) (by omega)] at this
      unfold sl at this
      rw [this, show i + 1 - i = 1 from by omega]
      rfl
    obtain ⟨x1, hx1⟩ : ∃ x1, x1 = s.extract i (i + 1) := ⟨_, rfl⟩
    rw [← hx1] at hxf
    have hxs : x1.size = 1 := by rw [Lib.size_eq, hxf]; rfl
    have hxz : ∀ h : 0 < x1.size, x1[0] = s[i] := by
      intro h
      have e2 : x1.data.toList[0]? = some s[i] := by rw [hxf]; rfl
      simp at e2
      rw [Array.getElem?_eq_getElem (by simpa using h)] at e2
      injection e2
    have h0x : 0 < x1.size := by omega
    have HXS := Lib.hid hxs; have HX1 := Lib.hid hx1; have HXZ := Lib.hid hxz; have HXF := Lib.hid hxf; have HSZ := Lib.hid hsz
    clear hxf hx1 hxs hxz hsz
    have e1 := hb1.f1
    have hle : (s.size : Int) ≤ 140737488351232 := by omega
    go_enter Tryz.func48, Tryz.ntmps48
    go_wp2_with fail
    go_quiet (fail)
    clear hmin
    go_wp2_with fail
    go_quiet (fail)
    rw [← HX1.out]
    go_wp2_with fail
    refine (shorts_any _ _).mono ?_
    rintro e w3 ⟨rfl, rfl⟩
    rw [HXZ.out h0x]
    by_cases hsh : s[i] ∈ shorts
    · have hneg : ¬ Lib.indexByte shorts s[i] < 0 := by rw [idx_neg]; simpa using hsh
      have HN := Lib.hid hneg; clear hneg
      go_wp2_with fail
      refine (fail_no _ (by simpa using HN.out) _ _).mono ?_
      rintro e w4 ⟨rfl, rfl⟩
      go_wp2_with fail
      refine read_end' (T := [s[i]]) (R := []) (j := i + 1) rfl rfl (Lxm.setFar (p := ⟨g, 1, none⟩) (by exact hL1) (by simp; omega) _) (Rdr.set_ (by exact hb1) (i + 1)) (gb_set (gb_drewN hg1 _) (.inl rfl) _) hlt ?_ ?_ ?_
      · rw [← HXF.out, mk_data]
      · have := HSZ.out; simp; omega
      · rw [HR0.out, sl_cons s i hi, sl_nil s (i + 1) (by omega)]; simp only [signL]; rw [if_pos hsh]
    · have hneg : Lib.indexByte shorts s[i] < 0 := (idx_neg _ _).2 hsh
      have HN := Lib.hid hneg; clear hneg
      go_wp2_with fail
      refine (fail_yes _ (by simpa using HN.out) _ _).mono ?_
      rintro e w4 ⟨rfl, rfl⟩
      exact read_bad (gb_drewN hg1 _) (by rw [HR0.out, sl_cons s i hi, sl_nil s (i + 1) (by omega)]; simp only [signL]; rw [if_neg hsh])

end Go.Proofs.YtafomaiaobfkfaaGreatDoor.Lx
