/- Functions of the program as plain Lean, and their contracts: printed by a program of this session (wip/patch_printer.py). Conditions: each theorem's own. -/
import Derived.Test.YtafomaiaobfkfaaGreatDoorLexXa
import Derived.Test.YtafomaiaobfkfaaGreatDoorWMore
import Derived.StillTailTactics
import Derived.Laws.EntriesVeiled
import Derived.Recover
import Derived.Defers
namespace Go.Proofs.YtafomaiaobfkfaaGreatDoor.Lx
open Go.RowKit Go.Proofs.YtafomaiaobfkfaaGreatDoorW.PrintWords Go.Proofs.YtafomaiaobfkfaaGreatDoorW.PrintMore
attribute [local go_sem] max2_int min2_int max_two min_two
set_option linter.unusedVariables false
set_option linter.unusedSimpArgs false

theorem longs_cell (w : World) (j : Nat) (hj : j < longs.length) :
    (w.alloc (.cells (longs.map fun l => Value.string ⟨l.toArray⟩).toArray 9)).cell? ⟨w.heap.size, j, none⟩ = some (.string ((longs.map fun l => (⟨l.toArray⟩ : ByteArray)).getD j ByteArray.empty)) := by
  have h : (w.alloc (.cells (longs.map fun l => Value.string ⟨l.toArray⟩).toArray 9)).heap[w.heap.size]? = some (.cells (longs.map fun l => Value.string ⟨l.toArray⟩).toArray 9 (0, 0)) := heap_alloc_new w _
  rw [blk_cell h]
  simp [List.getD, hj]

def LongsPost (w : World) (e : Ending) (w' : World) : Prop := ∃ b, e = .returned (.slice (some ⟨b, 0, none⟩) 5 5) ∧ Below w.heap.size w w' ∧
  ∀ j, j < (longs.map fun l => (⟨l.toArray⟩ : ByteArray)).length → w'.cell? ⟨b, 0 + j, none⟩ = some (.string ((longs.map fun l => (⟨l.toArray⟩ : ByteArray)).getD j ByteArray.empty))
theorem longs_any (w : World) (hG : Gl w) :
    Calls Tryz.prog 33 #[.string ⟨#[61, 61, 32, 33, 61, 32, 60, 61, 32, 62, 61, 32, 46, 46]⟩] w (LongsPost w) :=
  (Tryz.strings_Fields _ _ (by decide) (ascii_of _ (by decide)) hG).mono fun _ _ ⟨a, b⟩ => by
    subst b
    refine ⟨w.heap.size, by rw [a]; rfl, (Below.refl _ _).alloc (Nat.le_refl _) _, fun j hj => ?_⟩
    rw [show (0 : Nat) + j = j from by omega]
    exact longs_cell w j (by simpa using hj)
theorem longs_contains (b : Nat) (x : ByteArray) (w : World) (h : ∀ j, j < (longs.map fun l => (⟨l.toArray⟩ : ByteArray)).length → w.cell? ⟨b, 0 + j, none⟩ = some (.string ((longs.map fun l => (⟨l.toArray⟩ : ByteArray)).getD j ByteArray.empty))) :
    Calls Tryz.prog 34 #[.slice (some ⟨b, 0, none⟩) 5 5, .string x] w fun e w' => e = .returned (.bool (Lib.containsS ((longs.map fun l => (⟨l.toArray⟩ : ByteArray)).take 5) x)) ∧ w' = w :=
  Tryz.slices_Contains_string b 0 5 5 (longs.map fun l => (⟨l.toArray⟩ : ByteArray)) x w (by decide) (by omega) h

theorem longs_has (x : ByteArray) : Lib.containsS ((longs.map fun l => (⟨l.toArray⟩ : ByteArray)).take 5) x = decide (x.data.toList ∈ longs) := by
  rw [Bool.eq_iff_iff, Lib.containsS_iff, decide_eq_true_eq]
  simp only [List.take_of_length_le (show (longs.map fun l => (⟨l.toArray⟩ : ByteArray)).length ≤ 5 from by decide), List.mem_map]
  constructor
  · rintro ⟨l, hl, rfl⟩
    simpa using hl
  · intro h
    exact ⟨_, h, mk_data x⟩

theorem idx_neg (l : L) (c : UInt8) : Lib.indexByte l c < 0 ↔ c ∉ l := by
  have hge := Lib.indexByte_ge l c
  induction l with
  | nil => simp [Lib.indexByte]
  | cons b r ih =>
    have h1 := Lib.indexByte_ge r c
    simp only [Lib.indexByte, List.mem_cons, not_or]
    by_cases hb : b = c
    · subst hb; simp
    · have hb' : (b == c) = false := by simpa using hb
      rw [hb']
      have ih' := ih h1
      constructor
      · intro h
        refine ⟨fun e => hb e.symm, ih'.1 ?_⟩
        simp at h
        split at h
        · omega
        · omega
      · rintro ⟨_, h⟩
        have := ih'.2 h
        have e : Lib.indexByte r c = -1 := by omega
        simp [e]
/-- The search among the signs of one byte. -/
theorem shorts_any (b : UInt8) (w : World) :
    Calls Tryz.prog 74 #[.string ⟨#[123, 125, 40, 41, 91, 93, 44, 59, 58, 61, 60, 62, 43, 45, 42, 47, 37]⟩, .int .u8 b.toNat] w fun e w' => e = .returned (.int .i64 (Lib.indexByte shorts b)) ∧ w' = w :=
  (Tryz.strings_IndexByte _ _ w).mono fun _ _ ⟨a, h⟩ => ⟨by rw [a]; simp [shorts], h⟩

theorem Lxm.setFar {w : World} {b : Nat} {k o : Int} {s : ByteArray} (h : Lxm w b k o s) {p : Addr} (hp : b ≠ p.block) (u : Value) : Lxm (w.setCell p u) b k o s := blk_far h hp u

set_option maxHeartbeats 3200000 in
theorem sign_any (g : Nat) (s : ByteArray) (i : Nat) (w : World) (hb : Rdr w g s i) (hi : i < s.size) (hs : s.size ≤ 140737488351232) (hG : Gl w) :
    Calls Tryz.prog 48 #[.pointer (some ⟨g, 0, none⟩)] w (ReadPost w g s (signL (sl s i))) := by
  obtain ⟨r0, hr0⟩ : ∃ r0, r0 = signL (sl s i) := ⟨_, rfl⟩
  rw [← hr0]
  have HR0 := Lib.hid hr0; clear hr0
  have hlt := hb.lt
  have hne := hb.ne_gl hG
  have hb1 : Rdr (w.alloc (.cells #[.int .i64 0, .int .i64 0, .string ⟨#[]⟩] 44)) g s i := blk_alloc hb _
  have hL1 := Lxm.new w
  have d0 := hb1.c0
  have d1 := hb1.c1
  have hg1 := gb_alloc (World.grownBy.refl w (some g)) (.cells #[.int .i64 0, .int .i64 0, .string ⟨#[]⟩] 44)
  have hG1 := hG.grown hg1 (by rintro _ ⟨⟩; exact hne)
  obtain ⟨⟨q0, q1, q2⟩, f0, f1, f2⟩ := hL1.cell
  have hi' := Nat.le_of_lt hi
  by_cases h2 : i + 1 < s.size
  · have hmin : min (i + 2) s.size = i + 2 := by omega
    have hxe : (s.extract i (i + 2)).data.toList = [s[i], s[i + 1]] := by
      rw [Lib.extract_data]
      have := sl_cons s i hi
      rw [sl_cons s (i + 1) h2] at this
      unfold sl at this
      rw [this, show i + 2 - i = 2 from by omega]
      rfl
    have HX := Lib.hid hxe; clear hxe
    by_cases hm : [s[i], s[i + 1]] ∈ longs
    · go_enter Tryz.func48, Tryz.ntmps48
      go_wp2_with fail
      go_quiet (fail)
      clear hmin
      go_wp2_with fail
      refine (longs_any _ (by exact hG1)).mono ?_
      rintro e w2 ⟨b2, rfl, hb2, hc2⟩
      have HC2 := Lib.hid hc2; clear hc2
      go_wp2_with fail
      refine (longs_contains b2 _ _ HC2.out).mono ?_
      rintro e w' ⟨rfl, rfl⟩
      rw [longs_has, HX.out, decide_eq_true hm]
      have hr2 : Rdr w' g s i := Rdr.far (by exact hb1) hb2
      have hL2 : Lxm w' w.heap.size 0 0 ⟨#[]⟩ := Lxm.far (by exact hL1) hb2
      have hg2 : w.grownBy w' (some g) := gb_then (gb_drewN hg1 _) hb2
      clear d0 d1 q0 q1 q2 f0 f1 f2
      have d0 := hr2.c0
      have d1 := hr2.c1
      have e1 := hr2.f1
      obtain ⟨⟨q0, q1, q2⟩, f0, f1, f2⟩ := hL2.cell
      go_wp2_with fail
      have hle : (s.size : Int) ≤ 140737488351232 := by omega
      go_quiet (fail)
      go_wp2_with fail
      refine (fail_no _ rfl _ _).mono ?_
      rintro e w4 ⟨rfl, rfl⟩
      go_wp2_with fail
      refine read_end' (T := [s[i], s[i + 1]]) (R := sl s (i + 2)) (j := i + 2) rfl rfl (hL2.setFar (p := ⟨g, 1, none⟩) (by simp; omega) _) (hr2.set_ (i + 2)) (gb_set (gb_drewN hg2 _) (.inl rfl) _) hlt ?_ ?_ ?_
      · rw [← HX.out, mk_data]
      · rw [sl_len]; omega
      · rw [HR0.out, sl_cons s i hi, sl_cons s (i + 1) h2]; simp only [signL]; rw [if_pos hm]
    · have hxf : (s.extract i (i + 1)).data.toList = [s[i]] := by
        rw [Lib.extract_data]
        have := sl_cons s i hi
        unfold sl at this
        rw [this, show i + 1 - i = 1 from by omega]
        rfl
      obtain ⟨x1, hx1⟩ : ∃ x1, x1 = s.extract i (i + 1) := ⟨_, rfl⟩
      rw [← hx1] at hxf
      have hxs : x1.size = 1 := by rw [Lib.size_eq, hxf]; rfl
      have hxz : ∀ h : 0 < x1.size, x1[0] = s[i] := by
        intro h
        have e2 : x1.data.toList[0]? = some s[i] := by rw [hxf]; rfl
        simp at e2
        rw [Array.getElem?_eq_getElem (by simpa using h)] at e2
        injection e2
      have h0x : 0 < x1.size := by omega
      have HXS := Lib.hid hxs; have HX1 := Lib.hid hx1; have HXZ := Lib.hid hxz; have HXF := Lib.hid hxf
      clear hxf hx1 hxs hxz
      go_enter Tryz.func48, Tryz.ntmps48
      go_wp2_with fail
      go_quiet (fail)
      clear hmin
      go_wp2_with fail
      refine (longs_any _ (by exact hG1)).mono ?_
      rintro e w2 ⟨b2, rfl, hb2, hc2⟩
      have HC2 := Lib.hid hc2; clear hc2
      go_wp2_with fail
      refine (longs_contains b2 _ _ HC2.out).mono ?_
      rintro e w' ⟨rfl, rfl⟩
      rw [longs_has, HX.out, decide_eq_false hm]
      have hr2 : Rdr w' g s i := Rdr.far (by exact hb1) hb2
      have hL2 : Lxm w' w.heap.size 0 0 ⟨#[]⟩ := Lxm.far (by exact hL1) hb2
      have hg2 : w.grownBy w' (some g) := gb_then (gb_drewN hg1 _) hb2
      clear d0 d1 q0 q1 q2 f0 f1 f2
      have d0 := hr2.c0
      have d1 := hr2.c1
      have e1 := hr2.f1
      obtain ⟨⟨q0, q1, q2⟩, f0, f1, f2⟩ := hL2.cell
      have hle : (s.size : Int) ≤ 140737488351232 := by omega
      go_wp2_with fail
      go_quiet (fail)
      rw [← HX1.out]
      go_wp2_with fail
      refine (shorts_any _ _).mono ?_
      rintro e w3 ⟨rfl, rfl⟩
      rw [HXZ.out h0x]
      by_cases hsh : s[i] ∈ shorts
      · have hneg : ¬ Lib.indexByte shorts s[i] < 0 := by rw [idx_neg]; simpa using hsh
        have HN := Lib.hid hneg; clear hneg
        go_wp2_with fail
        refine (fail_no _ (by simpa using HN.out) _ _).mono ?_
        rintro e w4 ⟨rfl, rfl⟩
        go_wp2_with fail
        refine read_end' (T := [s[i]]) (R := sl s (i + 1)) (j := i + 1) rfl rfl (hL2.setFar (p := ⟨g, 1, none⟩) (by simp; omega) _) (hr2.set_ (i + 1)) (gb_set (gb_drewN hg2 _) (.inl rfl) _) hlt ?_ ?_ ?_
        · rw [← HXF.out, mk_data]
        · rw [sl_len]; omega
        · rw [HR0.out, sl_cons s i hi, sl_cons s (i + 1) h2]; simp only [signL]; rw [if_neg hm, if_pos hsh]
      · have hneg : Lib.indexByte shorts s[i] < 0 := (idx_neg _ _).2 hsh
        have HN := Lib.hid hneg; clear hneg
        go_wp2_with fail
        refine (fail_yes _ (by simpa using HN.out) _ _).mono ?_
        rintro e w4 ⟨rfl, rfl⟩
        exact read_bad (gb_drewN hg2 _) (by rw [HR0.out, sl_cons s i hi, sl_cons s (i + 1) h2]; simp only [signL]; rw [if_neg hm, if_neg hsh])
  · have hmin : min (i + 2) s.size = i + 1 := by omega
    have hsz : s.size = i + 1 := by omega
    have hxf : (s.extract i (i + 1)).data.toList = [s[i]] := by
      rw [Lib.extract_data]
      have := sl_cons s i hi
      rw [sl_nil s (i + 1) (by omega)] at this
      unfold sl at this
      rw [this, show i + 1 - i = 1 from by omega]
      rfl
    obtain ⟨x1, hx1⟩ : ∃ x1, x1 = s.extract i (i + 1) := ⟨_, rfl⟩
    rw [← hx1] at hxf
    have hxs : x1.size = 1 := by rw [Lib.size_eq, hxf]; rfl
    have hxz : ∀ h : 0 < x1.size, x1[0] = s[i] := by
      intro h
      have e2 : x1.data.toList[0]? = some s[i] := by rw [hxf]; rfl
      simp at e2
      rw [Array.getElem?_eq_getElem (by simpa using h)] at e2
      injection e2
    have h0x : 0 < x1.size := by omega
    have HXS := Lib.hid hxs; have HX1 := Lib.hid hx1; have HXZ := Lib.hid hxz; have HXF := Lib.hid hxf; have HSZ := Lib.hid hsz
    clear hxf hx1 hxs hxz hsz
    have e1 := hb1.f1
    have hle : (s.size : Int) ≤ 140737488351232 := by omega
    go_enter Tryz.func48, Tryz.ntmps48
    go_wp2_with fail
    go_quiet (fail)
    clear hmin
    go_wp2_with fail
    go_quiet (fail)
    rw [← HX1.out]
    go_wp2_with fail
    refine (shorts_any _ _).mono ?_
    rintro e w3 ⟨rfl, rfl⟩
    rw [HXZ.out h0x]
    by_cases hsh : s[i] ∈ shorts
    · have hneg : ¬ Lib.indexByte shorts s[i] < 0 := by rw [idx_neg]; simpa using hsh
      have HN := Lib.hid hneg; clear hneg
      go_wp2_with fail
      refine (fail_no _ (by simpa using HN.out) _ _).mono ?_
      rintro e w4 ⟨rfl, rfl⟩
      go_wp2_with fail
      refine read_end' (T := [s[i]]) (R := []) (j := i + 1) rfl rfl (Lxm.setFar (p := ⟨g, 1, none⟩) (by exact hL1) (by simp; omega) _) (Rdr.set_ (by exact hb1) (i + 1)) (gb_set (gb_drewN hg1 _) (.inl rfl) _) hlt ?_ ?_ ?_
      · rw [← HXF.out, mk_data]
      · have := HSZ.out; simp; omega
      · rw [HR0.out, sl_cons s i hi, sl_nil s (i + 1) (by omega)]; simp only [signL]; rw [if_pos hsh]
    · have hneg : Lib.indexByte shorts s[i] < 0 := (idx_neg _ _).2 hsh
      have HN := Lib.hid hneg; clear hneg
      go_wp2_with fail
      refine (fail_yes _ (by simpa using HN.out) _ _).mono ?_
      rintro e w4 ⟨rfl, rfl⟩
      exact read_bad (gb_drewN hg1 _) (by rw [HR0.out, sl_cons s i hi, sl_nil s (i + 1) (by omega)]; simp only [signL]; rw [if_neg hsh])

end Go.Proofs.YtafomaiaobfkfaaGreatDoor.Lx
namespace Go.Proofs.YtafomaiaobfkfaaGreatDoor.Lx
open Go.RowKit Go.Proofs.YtafomaiaobfkfaaGreatDoorW.PrintWords
set_option linter.unusedVariables false
set_option linter.unusedSimpArgs false

theorem infoB : (Tryz.prog.info? 5).map (fun i => (i.zero, i.size, i.bytes)) = some (some (.int .u8 0), 1, 1) := by kernel_rfl

/-- Bytes as the numbers that a []byte holds. -/
def ints (l : L) : List Int := l.map fun b => (b.toNat : Int)
theorem ints_app (l : L) (b : UInt8) : ints (l ++ [b]) = ints l ++ [(b.toNat : Int)] := by simp [ints]
theorem ints_len (l : L) : (ints l).length = l.length := by simp [ints]
theorem str_ints (l : L) : strOfNums (ints l) = ⟨l.toArray⟩ := by
  unfold strOfNums ints
  congr 2
  rw [List.map_map]
  conv => rhs; rw [← List.map_id l]
  exact List.map_congr_left fun b _ => by simp

/-- A row of bytes of the call's own: made from block 'base' on. -/
def Own (w : World) (base : Nat) (v : Value) (l : L) : Prop := w.ownsRow base 5 1 v (ints l).length (nums .u8 (ints l))
theorem Own.nil (w : World) (base : Nat) : Own w base (.slice none 0 0) [] := own_nil w base _ _
theorem Own.grown {w w' : World} {base : Nat} {v : Value} {l : L} (h : Own w base v l) {g : Nat} (hg : w.grownBy w' (some g)) (hne : g < base) : Own w' base v l :=
  own_other h hg (by
    rcases hv : v.ownBlock with _ | k
    · exact .inl rfl
    · refine .inr ?_
      have := own_base h k hv
      intro e
      injection e with e
      omega)
theorem Own.slice {w : World} {base : Nat} {v : Value} {l : L} (h : Own w base v l) : ∃ A c, v = .slice A l.length c := by
  have := own_slice h
  rwa [ints_len] at this

theorem textL_bad (acc : L) : textL acc [] = .bad 142 := by unfold textL; rfl


theorem Lxm.new' (w : World) (a : Addr) (u : Value) : Lxm ((w.setCell a u).alloc (.cells #[.int .i64 0, .int .i64 0, .string ⟨#[]⟩] 44)) w.heap.size 0 0 ⟨#[]⟩ := by
  have h := Lxm.new (w.setCell a u)
  have e : (w.setCell a u).heap.size = w.heap.size := by simp [World.setCell]
  rwa [e] at h

/-! ### one step of a text -/
def Step (s : ByteArray) (acc : L) (m m' : Nat) (c : UInt8) : Prop :=
  m ≤ m' ∧ m' ≤ s.size ∧ ((32 ≤ c.toNat ∧ c.toNat ≤ 126) → m' < s.size ∧ textL acc (sl s m) = textL (acc ++ [c]) (sl s (m' + 1))) ∧ (¬ (32 ≤ c.toNat ∧ c.toNat ≤ 126) → textL acc (sl s m) = .bad 142)
theorem step_plain (s : ByteArray) (acc : L) (m : Nat) (h : m < s.size) (h34 : s[m].toNat ≠ 34) (h92 : s[m].toNat ≠ 92) : Step s acc m m s[m] := by
  refine ⟨Nat.le_refl _, by omega, fun hc => ⟨h, ?_⟩, fun hc => ?_⟩
  · rw [sl_cons s m h]
    conv => lhs; unfold textL
    rw [if_neg h34, if_neg h92, if_neg (by omega)]
  · rw [sl_cons s m h]
    unfold textL
    rw [if_neg h34, if_neg h92, if_pos (by omega)]
theorem step_esc (s : ByteArray) (acc : L) (m : Nat) (h : m + 1 < s.size) (h92 : s[m].toNat = 92) (hc : s[m + 1].toNat = 34 ∨ s[m + 1].toNat = 92) : Step s acc m (m + 1) s[m + 1] := by
  refine ⟨by omega, by omega, fun _ => ⟨h, ?_⟩, fun hn => absurd (by omega) hn⟩
  rw [sl_cons s m (by omega), sl_cons s (m + 1) h]
  conv => lhs; unfold textL
  rw [if_neg (by omega), if_pos h92]
  simp only [if_pos hc]
theorem step_not (s : ByteArray) (acc : L) (m : Nat) (h : m < s.size) (h92 : s[m].toNat = 92) (hc : ∀ h : m + 1 < s.size, ¬ (s[m + 1].toNat = 34 ∨ s[m + 1].toNat = 92)) : Step s acc m (m + 1) 0 := by
  refine ⟨by omega, by omega, fun hn => absurd hn (by decide), fun _ => ?_⟩
  rw [sl_cons s m h]
  by_cases h1 : m + 1 < s.size
  · rw [sl_cons s (m + 1) h1]
    unfold textL
    rw [if_neg (by omega), if_pos h92]
    simp only [if_neg (hc h1)]
  · rw [sl_nil s (m + 1) (by omega)]
    unfold textL
    rw [if_neg (by omega), if_pos h92]
theorem text_stop (s : ByteArray) (acc : L) (m : Nat) (h : m < s.size) (h34 : s[m].toNat = 34) : textL acc (sl s m) = if 200 < acc.length then .bad 142 else .got 4 acc (sl s (m + 1)) := by
  rw [sl_cons s m h]
  unfold textL
  rw [if_pos h34]

/-- The search for what may be escaped. -/
theorem esc_any (b : UInt8) (w : World) :
    Calls Tryz.prog 74 #[.string ⟨#[34, 92]⟩, .int .u8 b.toNat] w fun e w' => e = .returned (.int .i64 (Lib.indexByte [34, 92] b)) ∧ w' = w :=
  (Tryz.strings_IndexByte _ _ w).mono fun _ _ ⟨a, h⟩ => ⟨by rw [a]; simp, h⟩
theorem esc_iff (b : UInt8) : 0 ≤ Lib.indexByte [34, 92] b ↔ (b.toNat = 34 ∨ b.toNat = 92) := by
  have h := idx_neg [34, 92] b
  have : b ∈ ([34, 92] : L) ↔ (b.toNat = 34 ∨ b.toNat = 92) := by
    simp only [List.mem_cons, List.not_mem_nil, or_false]
    constructor
    · rintro (rfl | rfl)
      · exact .inl rfl
      · exact .inr rfl
    · rintro (h | h)
      · exact .inl (UInt8.toNat_inj.1 h)
      · exact .inr (UInt8.toNat_inj.1 h)
  rw [← this]
  constructor
  · intro h1
    exact Classical.byContradiction fun hn => by have := h.2 hn; omega
  · intro h1
    exact Classical.byContradiction fun hn => h.1 (by omega) h1

set_option maxHeartbeats 3200000 in
set_option maxRecDepth 100000 in
theorem text_any (g : Nat) (s : ByteArray) (i : Nat) (w : World) (hb : Rdr w g s i) (hi : i < s.size) (hs : s.size ≤ 140737488351232) :
    Calls Tryz.prog 46 #[.pointer (some ⟨g, 0, none⟩)] w (ReadPost w g s (textL [] (sl s (i + 1)))) := by
  obtain ⟨r0, hr0⟩ : ∃ r0, r0 = textL [] (sl s (i + 1)) := ⟨_, rfl⟩
  rw [← hr0]
  have HR0 := Lib.hid hr0; clear hr0
  have hlt := hb.lt
  have hb1 : Rdr (w.alloc (.cells #[.int .i64 0, .int .i64 0, .string ⟨#[]⟩] 44)) g s i := blk_alloc hb _
  have hL1 := Lxm.new w
  have d0 := hb1.c0
  have d1 := hb1.c1
  have e1 := hb1.f1
  have hg1 := gb_alloc (World.grownBy.refl w (some g)) (.cells #[.int .i64 0, .int .i64 0, .string ⟨#[]⟩] 44)
  have hle : (s.size : Int) ≤ 140737488351232 := by omega
  have hi' : (i : Int) < s.size := by omega
  go_enter Tryz.func46, Tryz.ntmps46
  go_upto_block 0 with (fail)
  clear d0 d1 e1
  go_cut [3] (fun v wc => ∃ (m : Nat) (acc : L), m ≤ s.size ∧ acc.length ≤ m ∧ Hid (r0 = textL acc (sl s m)) ∧ Hid (∀ h : m < s.size, s[m].toNat = 34) ∧ Rdr wc g s m ∧ Own wc (w.heap.size + 1) v acc ∧ Lxm wc w.heap.size 0 0 ⟨#[]⟩ ∧ w.grownBy wc (some g) ∧ w.heap.size + 1 ≤ wc.heap.size)
  case first =>
   go_wp2_with fail
   go_loopg [3] (s.size - (i + 1)) (fun gk v wr => ∃ (m : Nat) (acc : L), m ≤ s.size ∧ gk = s.size - m ∧ acc.length ≤ m ∧ Hid (r0 = textL acc (sl s m)) ∧ Rdr wr g s m ∧ Own wr (w.heap.size + 1) v acc ∧ Lxm wr w.heap.size 0 0 ⟨#[]⟩ ∧ w.grownBy wr (some g) ∧ w.heap.size + 1 ≤ wr.heap.size)
   case atStart => exact ⟨i + 1, [], by omega, rfl, by simp, HR0.out, blk_alloc (hb.set_ (i + 1)) _, Own.nil _ _, Lxm.new' w _ _, gb_alloc (gb_set (World.grownBy.refl w (some g)) (.inl rfl) _) _, by simp [World.setCell]⟩
   case round =>
     obtain ⟨m, acc, h1, rfl, h2, he, hr, how, hL, hg, hsz⟩ := hrel
     have d0 := hr.c0
     have d1 := hr.c1
     have e1 := hr.f1
     by_cases hlt2 : m < s.size
     · have hd : decide ((m : Int) < (s.size : Int)) = true := by simp; omega
       by_cases h34 : s[m].toNat = 34
       · have h34b : (((s[m].toNat : Nat) : Int) != 34) = false := by simp; omega
         have H34 := Lib.hid h34; have H34B := Lib.hid h34b; clear h34 h34b
         go_wp2_with fail
         go_quiet (fail)
         clear hd
         have h34b := H34B.out
         simp only [h34b]
         clear h34b
         go_wp2_with fail
         go_meet
         exact ⟨m, acc, h1, h2, he.out, fun _ => H34.out, hr, how, hL, gb_drewN hg _, hsz⟩
       · have h34b : (((s[m].toNat : Nat) : Int) != 34) = true := by simp; omega
         have H34 := Lib.hid h34; have H34B := Lib.hid h34b; clear h34 h34b
         go_wp2_with fail
         go_quiet (fail)
         clear hd
         have h34b := H34B.out
         simp only [h34b]
         clear h34b
         have hd : decide ((m : Int) < (s.size : Int)) = true := by simp; omega
         go_wp2_with fail
         go_quiet (fail)
         clear hd
         go_upto_if 44 with (fail)
         go_cut [4] (fun v4 wc => ∃ (m' : Nat) (c : UInt8), v4 = .int .u8 (c.toNat : Int) ∧ Step s acc m m' c ∧ Rdr wc g s m' ∧ wr.grownBy wc (some g))
         case first =>
           by_cases h92 : s[m].toNat = 92
           · have h92b : (((s[m].toNat : Nat) : Int) == 92) = true := by simp; omega
             simp only [h92b]
             clear h92b
             have H92 := Lib.hid h92; clear h92
             by_cases hm1 : m + 1 < s.size
             · have hd : decide ((m : Int) + 1 < (s.size : Int)) = true := by simp; omega
               have t0 : (0 : Int) ≤ (m : Int) + 1 := by omega
               have t1 : ((m : Int) + 1).toNat = m + 1 := by omega
               have t2 : (m : Int) + 1 < (s.size : Int) := by omega
               go_wp2_with fail
               go_quiet ((go_at_call 74; exact Calls.quiet_of_same (esc_any _ _)))
               clear hd
               by_cases hc : s[m + 1].toNat = 34 ∨ s[m + 1].toNat = 92
               · have hcb := (esc_iff s[m + 1]).2 hc
                 have hcb' : decide (0 ≤ Lib.indexByte [34, 92] s[m + 1]) = true := by simpa using hcb
                 simp only [hcb']
                 have HC := Lib.hid hc; clear hc hcb hcb'
                 go_wp2_with fail
                 go_quiet (fail)
                 go_wp2_with fail
                 go_meet
                 exact ⟨m + 1, s[m + 1], rfl, step_esc s acc m hm1 H92.out HC.out, hr.set_ (m + 1), gb_drewN (gb_drewN (gb_set (gb_drewN (World.grownBy.refl wr _) _) (.inl rfl) _) _) _⟩
               · have hcb := mt (esc_iff s[m + 1]).1 hc
                 have hcb' : decide (0 ≤ Lib.indexByte [34, 92] s[m + 1]) = false := by simpa using hcb
                 simp only [hcb']
                 have HC := Lib.hid hc; clear hc hcb hcb'
                 go_wp2_with fail
                 go_meet
                 exact ⟨m + 1, 0, rfl, step_not s acc m hlt2 H92.out (fun _ => HC.out), hr.set_ (m + 1), gb_drewN (gb_set (gb_drewN (World.grownBy.refl wr _) _) (.inl rfl) _) _⟩
             · have hd : decide ((m : Int) + 1 < (s.size : Int)) = false := by simp; omega
               go_wp2_with fail
               go_quiet (fail)
               clear hd
               go_wp2_with fail
               go_meet
               exact ⟨m + 1, 0, rfl, step_not s acc m hlt2 H92.out (fun h => absurd h hm1), hr.set_ (m + 1), gb_drewN (gb_set (gb_drewN (World.grownBy.refl wr _) _) (.inl rfl) _) _⟩
           · have h92b : (((s[m].toNat : Nat) : Int) == 92) = false := by simp; omega
             simp only [h92b]
             clear h92b
             go_wp2_with fail
             go_meet
             exact ⟨m, s[m], rfl, step_plain s acc m hlt2 H34.out h92, hr, gb_drewN (World.grownBy.refl wr _) _⟩
         case rest =>
           obtain ⟨m', c, rfl, ⟨s1, s2, s3, s4⟩, hr', hg'⟩ := hcut
           have how' := how.grown hg' (by omega)
           have hL' := hL.grown hg' (by omega)
           have hgw := gb_trans hg hg' (.inl rfl)
           have hsz' := Nat.le_trans hsz hg'.size
           have S3 := Lib.hid s3; have S4 := Lib.hid s4
           clear s3 s4 d0 d1 e1
           have d0 := hr'.c0
           have d1 := hr'.c1
           have e1 := hr'.f1
           by_cases hc : 32 ≤ c.toNat ∧ c.toNat ≤ 126
           · obtain ⟨s5, s6⟩ := S3.out hc
             obtain ⟨c1, c2⟩ := hc
             have c1' : (32 : Int) ≤ (c.toNat : Int) := by omega
             have c2' : (c.toNat : Int) ≤ 126 := by omega
             have S6 := Lib.hid s6; clear s6
             go_wp2_with fail
             refine (fail_no _ (by first | rfl | (simp; omega)) _ _).mono ?_
             rintro e w4 ⟨rfl, rfl⟩
             go_wp2_with (at_builtin; refine print_append_num (w0 := w4) (W := w4) (w.heap.size + 1) rfl (.tmp 91) (.tmp 93) 47 5 .u8 1 rfl Tryz.underlying47 infoB (by omega) u3 (ints acc) (c.toNat : Int) rfl rfl how' (Below.refl _ _) (by omega) (by rw [ints_len]; omega) ?_; intro v1 w1 hown hbel hgr hat; have hr1 : Rdr w1 g s m' := (hbel.block g (by omega)).trans hr'; have b0 := hr1.c0; have b1 := hr1.c1; have b2 := hr1.f1)
             go_roundg (s.size - (m' + 1))
             case rel =>
               refine ⟨m' + 1, acc ++ [c], by omega, rfl, by simp; omega, he.out.trans S6.out, hr1.set_ (m' + 1), ?_, ?_, ?_, ?_⟩
               · refine Own.grown (g := g) (w := w1) ?_ (gb_set (World.grownBy.refl w1 _) (.inl rfl) _) (by omega)
                 unfold Own
                 rw [ints_app]
                 exact hown
               · exact Lxm.setFar (p := ⟨g, 1, none⟩) ((hbel.block w.heap.size (by omega)).trans hL') (by simp; omega) _
               · refine gb_set (gb_trans hgw hgr (.inr fun x hx => ?_)) (.inl rfl) _
                 have := own_base how' x hx
                 omega
               · have := hbel.size; simp [World.setCell]; omega
             case measure => omega
           · have hbad := S4.out hc
             have hr0 : r0 = .bad 142 := he.out.trans hbad
             have HB := Lib.hid hr0; clear hbad hr0
             by_cases hc1 : c.toNat < 32
             · have c1' : (c.toNat : Int) < 32 := by omega
               go_wp2_with fail
               refine (fail_yes _ (by first | rfl | (simp; omega)) _ _).mono ?_
               rintro e w4 ⟨rfl, rfl⟩
               exact read_bad hgw HB.out
             · have c1' : (32 : Int) ≤ (c.toNat : Int) := by omega
               have c2' : (126 : Int) < (c.toNat : Int) := by omega
               go_wp2_with fail
               refine (fail_yes _ (by first | rfl | (simp; omega)) _ _).mono ?_
               rintro e w4 ⟨rfl, rfl⟩
               exact read_bad hgw HB.out
     · have hd : decide ((m : Int) < (s.size : Int)) = false := by simp; omega
       go_wp2_with fail
       go_quiet (fail)
       clear hd
       go_wp2_with fail
       go_meet
       exact ⟨m, acc, h1, h2, he.out, fun h => absurd h hlt2, hr, how, hL, gb_drewN hg _, hsz⟩
  case rest =>
    obtain ⟨m, acc, h1, h2, he, h34, hr, how, hL, hg, hsz⟩ := hcut
    have d0 := hr.c0
    have d1 := hr.c1
    have e1 := hr.f1
    by_cases hlt2 : m < s.size
    · have hr1 : r0 = if 200 < acc.length then .bad 142 else .got 4 acc (sl s (m + 1)) := by rw [he.out, text_stop s acc m hlt2 (h34.out hlt2)]
      have HR1 := Lib.hid hr1; clear hr1
      obtain ⟨A, c, hv⟩ := how.slice
      subst hv
      have hd : decide ((s.size : Int) ≤ (m : Int)) = false := by simp; omega
      by_cases h200 : 200 < acc.length
      · have hr0 : r0 = .bad 142 := by rw [HR1.out, if_pos h200]
        have HB := Lib.hid hr0; clear hr0
        go_wp2_with fail
        refine wp_region_still_tail 15 (by kernel_rfl) (by kernel_rfl) ?_
        simp only [List.take_succ_cons, List.take_zero, List.drop_succ_cons, List.drop_zero]
        change wpStill _ _ (World.drew _) _ _ _
        repeat still_step
        refine wpStill_nil ?_
        change wpList _ _ _ _ _ (World.drew _)
        go_wp2_with fail
        refine (fail_yes _ (by simp; omega) _ _).mono ?_
        rintro e w4 ⟨rfl, rfl⟩
        exact read_bad ⟨hg.os, hg.tape, hg.output, hg.size, hg.block⟩ HB.out
      · have hr0 : r0 = .got 4 acc (sl s (m + 1)) := by rw [HR1.out, if_neg h200]
        have HB := Lib.hid hr0; clear hr0
        obtain ⟨⟨q0, q1, q2⟩, f0, f1, f2⟩ := hL.cell
        have hlt3 : (m : Int) < (s.size : Int) := by omega
        go_wp2_with fail
        refine wp_region_still_tail 15 (by kernel_rfl) (by kernel_rfl) ?_
        simp only [List.take_succ_cons, List.take_zero, List.drop_succ_cons, List.drop_zero]
        change wpStill _ _ (World.drew _) _ _ _
        repeat still_step
        refine wpStill_nil ?_
        change wpList _ _ _ _ _ (World.drew _)
        clear hd
        go_wp2_with fail
        refine (fail_no _ (by simp; omega) _ _).mono ?_
        rintro e w4 ⟨rfl, rfl⟩
        have how2 : Own (wc.setCell ⟨g, 1, none⟩ (.int .i64 ((m : Int) + 1))).drew (w.heap.size + 1) (.slice A acc.length c) acc := Own.grown (g := g) how (w' := wc.setCell ⟨g, 1, none⟩ (.int .i64 ((m : Int) + 1))) (gb_set (p := ⟨g, 1, none⟩) (World.grownBy.refl wc _) (.inl rfl) _) (by omega)
        have hcv : (convert 47 9 (.slice A acc.length c)).run Tryz.prog (wc.setCell ⟨g, 1, none⟩ (.int .i64 ((m : Int) + 1))).drew = .ok (.string (⟨acc.toArray⟩ : ByteArray)) (wc.setCell ⟨g, 1, none⟩ (.int .i64 ((m : Int) + 1))).drew := by
          rw [← str_ints]
          exact own_string Tryz.underlying47 Tryz.underlying5 Tryz.underlying9 how2
        obtain ⟨x, hx⟩ : ∃ x : ByteArray, x = ⟨acc.toArray⟩ := ⟨_, rfl⟩
        rw [← hx] at hcv
        have HE := Lib.hid hx; clear hx
        go_wp2_with fail
        exact read_end' (W := (wc.setCell ⟨g, 1, none⟩ (.int .i64 ((m : Int) + 1))).drew) (T := acc) (R := sl s (m + 1)) (j := m + 1) rfl rfl (Lxm.setFar (p := ⟨g, 1, none⟩) hL (by simp; omega) _) (hr.set_ (m + 1)) (gb_drewN (gb_set (p := ⟨g, 1, none⟩) hg (.inl rfl) _) 1) hlt HE.out.symm (by rw [sl_len]; omega) HB.out
    · have hr0 : r0 = .bad 142 := by rw [he.out, sl_nil s m (by omega), textL_bad]
      have HB := Lib.hid hr0; clear hr0
      have hd : decide ((s.size : Int) ≤ (m : Int)) = true := by simp; omega
      go_wp2_with fail
      refine wp_region_still_tail 15 (by kernel_rfl) (by kernel_rfl) ?_
      simp only [List.take_succ_cons, List.take_zero, List.drop_succ_cons, List.drop_zero]
      change wpStill _ _ (World.drew _) _ _ _
      repeat still_step
      refine wpStill_nil ?_
      change wpList _ _ _ _ _ (World.drew _)
      go_wp2_with fail
      refine (fail_yes _ rfl _ _).mono ?_
      rintro e w4 ⟨rfl, rfl⟩
      exact read_bad ⟨hg.os, hg.tape, hg.output, hg.size, hg.block⟩ HB.out

end Go.Proofs.YtafomaiaobfkfaaGreatDoor.Lx
namespace Go.Proofs.YtafomaiaobfkfaaGreatDoor.Lx
open Go.RowKit Go.Proofs.YtafomaiaobfkfaaGreatDoorW.PrintWords
set_option linter.unusedVariables false
set_option linter.unusedSimpArgs false

/-- How a token begins, and which function reads it: the four forms. -/
def begF : Nat → Nat
  | 0 => 41
  | 1 => 43
  | 2 => 45
  | _ => 47
def redF : Nat → Nat
  | 0 => 42
  | 1 => 44
  | 2 => 46
  | _ => 48
def begB : Nat → UInt8 → Bool
  | 0, b => smallB b
  | 1, b => digitB b
  | 2, b => decide (b.toNat = 34)
  | _, _ => true
abbrev fv (n : Nat) : Value := .func (.func n) #[] #[]
def formCells : Array Value := #[fv (begF 0), fv (redF 0), fv (begF 1), fv (redF 1), fv (begF 2), fv (redF 2), fv (begF 3), fv (redF 3)]
theorem formCells_beg (k : Nat) (h : k < 4) : formCells[k * 2]? = some (fv (begF k)) := by
  match k, h with
  | 0, _ => rfl
  | 1, _ => rfl
  | 2, _ => rfl
  | 3, _ => rfl
theorem formCells_red (k : Nat) (h : k < 4) : formCells[k * 2 + 1]? = some (fv (redF k)) := by
  match k, h with
  | 0, _ => rfl
  | 1, _ => rfl
  | 2, _ => rfl
  | 3, _ => rfl
theorem forms_any (w : World) :
    Calls Tryz.prog 27 #[] w fun e w' =>
      e = .returned (.slice (some ⟨w.heap.size, 0, none⟩) 4 4) ∧ w' = w.alloc (.cells formCells 69) := by
  go_enter Tryz.func27, Tryz.ntmps27
  go_wp2
  go_ret
  exact ⟨rfl, rfl⟩

theorem enters_beg (k : Nat) : Enters (begF k) := fun args W => by
  match k with
  | 0 => simp only [begF]; go_simp
  | 1 => simp only [begF]; go_simp
  | 2 => simp only [begF]; go_simp
  | k + 3 => simp only [begF]; go_simp
theorem enters_red (k : Nat) : Enters (redF k) := fun args W => by
  match k with
  | 0 => simp only [redF]; go_simp
  | 1 => simp only [redF]; go_simp
  | 2 => simp only [redF]; go_simp
  | k + 3 => simp only [redF]; go_simp
theorem beg_any (k : Nat) (b : UInt8) (w : World) :
    Calls Tryz.prog (begF k) #[.int .u8 b.toNat] w fun e w' => e = .returned (.bool (begB k b)) ∧ ∃ n, w' = w.drewN n := by
  match k with
  | 0 => exact isSmall_any b w
  | 1 => exact isDigit_any b w
  | 2 => exact quote_any b w
  | k + 3 => exact any_any b w

/-- The form that takes a byte: the first one that says so. -/
def pick (b : UInt8) : Nat := if smallB b then 0 else if digitB b then 1 else if b.toNat = 34 then 2 else 3
theorem pick_le (b : UInt8) : pick b ≤ 3 := by unfold pick; split <;> (try split) <;> (try split) <;> omega
theorem pick_yes (b : UInt8) : begB (pick b) b = true := by
  unfold pick
  split
  · simpa [begB]
  · split
    · simpa [begB]
    · split
      · simpa [begB]
      · rfl
theorem pick_no (b : UInt8) (k : Nat) (h : k < pick b) : begB k b = false := by
  unfold pick at h
  split at h
  · omega
  · split at h
    · obtain rfl : k = 0 := by omega
      simpa [begB] using ‹¬ smallB b = true›
    · split at h
      · rcases (by omega : k = 0 ∨ k = 1) with rfl | rfl
        · simpa [begB] using ‹¬ smallB b = true›
        · simpa [begB] using ‹¬ digitB b = true›
      · rcases (by omega : k = 0 ∨ k = 1 ∨ k = 2) with rfl | rfl | rfl
        · simpa [begB] using ‹¬ smallB b = true›
        · simpa [begB] using ‹¬ digitB b = true›
        · simpa [begB] using ‹¬ b.toNat = 34›
theorem red_any (g : Nat) (s : ByteArray) (i : Nat) (w : World) (hb : Rdr w g s i) (hi : i < s.size) (hs : s.size ≤ 140737488351232) (hG : Gl w) :
    Calls Tryz.prog (redF (pick s[i])) #[.pointer (some ⟨g, 0, none⟩)] w (ReadPost w g s (tokL (sl s i))) := by
  have e := sl_cons s i hi
  have h := pick_yes s[i]
  unfold tokL
  rw [e]
  simp only
  by_cases h1 : smallB s[i] = true
  · rw [if_pos h1, show pick s[i] = 0 from by simp [pick, h1], ← e]
    exact name_any g s i w hb (Nat.le_of_lt hi) hs hG
  · rw [if_neg h1]
    by_cases h2 : digitB s[i] = true
    · rw [if_pos h2, show pick s[i] = 1 from by simp [pick, h1, h2], ← e]
      exact number_any g s i w hb hi h2 hs
    · rw [if_neg h2]
      by_cases h3 : s[i].toNat = 34
      · rw [if_pos h3, show pick s[i] = 2 from by simp [pick, h1, h2, h3]]
        exact text_any g s i w hb hi hs
      · rw [if_neg h3, show pick s[i] = 3 from by simp [pick, h1, h2, h3], ← e]
        exact sign_any g s i w hb hi hs hG

/-! ### the deferred closure -/
theorem catch_idle (args : Array Value) (ha : args.size = 3) (w : World) :
    CallsD Tryz.prog 26 args .returning w fun e u' w' => e = .returned (.tuple #[]) ∧ u' = .returning ∧ w' = w := by
  obtain ⟨l⟩ := args
  match l, ha with
  | [x, y, z], _ =>
    refine callsD_of_wpS Tryz.func26 rfl fun c₀ cs hu => ?_
    apply wpS_seq
    apply wpS_region
    simp [wpOpsS, go_sem, recoverD, hu, Tryz.ntmps26, Exit.thenS]
    apply wpS_seq
    apply wpS_region
    simp [wpOpsS, go_sem, recoverD, hu, Exit.thenS]
    refine wpS_cond (t := false) (by simp [Act.eval, Array.replicate]) ?_
    simp only [Bool.false_eq_true, if_false]
    refine wpS_of_wp (wp_skip ?_)
    cases c₀
    simp_all [bodyPostS, results]

theorem catch_panicking (w : World) (b : Nat) (at_ n : Int) (v : Value) (p0 p1 : Value) (older : List PanicEntry)
    (hl : w.heap[b]? = some (.cells #[v] 23 (0, 0))) (hp : w.heap[b + 1]? = some (.cells #[p0, p1] 26 (0, 0))) (ha : w.heap[b + 1 + 1 + 1]? = some (.cells #[.int .i64 at_] 3 (0, 0))) :
    CallsD Tryz.prog 26 #[.pointer (some ⟨b + 1 + 1 + 1, 0, none⟩), .pointer (some ⟨b, 0, none⟩), .pointer (some ⟨b + 1, 0, none⟩)]
      (.panicking ({ v := .iface 24 (.int .i64 n), recovered := false } :: older)) w fun e u' w' =>
      e = .returned (.tuple #[]) ∧ u' = .panicking ({ v := .iface 24 (.int .i64 n), recovered := true } :: older) ∧
        w' = ((w.setCell ⟨b, 0, none⟩ (.slice none 0 0)).setCell ⟨b + 1, 0, none⟩ (.int .i64 at_)).setCell ⟨b + 1, 1, none⟩ (.int .i64 n) := by
  have c0 : w.cell? ⟨b, 0, none⟩ = some v := blk_cell hl 0
  have f0 := blk_frozen hl 0
  have c1 : w.cell? ⟨b + 1, 0, none⟩ = some p0 := blk_cell hp 0
  have c2 : w.cell? ⟨b + 1, 1, none⟩ = some p1 := blk_cell hp 1
  have f1 := blk_frozen hp 0
  have f2 := blk_frozen hp 1
  have c3 : w.cell? ⟨b + 1 + 1 + 1, 0, none⟩ = some (.int .i64 at_) := blk_cell ha 0
  have hta : ∀ W : World, (Instr.typeAssert (.iface 24 (.int .i64 n)) 20 24 true).run Tryz.prog W = .ok (.tuple #[.int .i64 n, .bool true]) W := fun W => by kernel_rfl
  refine callsD_of_wpS Tryz.func26 rfl fun c₀ cs hu => ?_
  simp only [Tryz.ntmps26, List.size_toArray, List.length_cons, List.length_nil, Nat.reduceAdd, Nat.reduceSub, Array.replicate_succ,
     Array.replicate_zero, List.push_toArray, List.append_toArray, List.nil_append, List.cons_append]
  apply wpS_seq
  apply wpS_region
  simp [wpOpsS, go_sem, recoverD, hu, Exit.thenS]
  refine wpS_of_wp ?_
  go_wp2
  exact ⟨rfl, _, rfl, _, results_none rfl _ _ _, rfl, rfl, rfl⟩
end Go.Proofs.YtafomaiaobfkfaaGreatDoor.Lx
namespace Go.Proofs.YtafomaiaobfkfaaGreatDoor.Lx
open Go.RowKit Go.Proofs.YtafomaiaobfkfaaGreatDoorW.PrintWords
set_option linter.unusedVariables false
set_option linter.unusedSimpArgs false

/-! ### the plain side: a token ends where the rest begins -/
theorem nameL_suf {l : L} {k : Int} {t rest : L} (h : nameL l = .got k t rest) : rest <:+ l := by
  unfold nameL at h
  split at h
  · injection h with _ _ h3; subst h3; exact List.dropWhile_suffix _
  · split at h
    · cases h
    · injection h with _ _ h3; subst h3; exact List.dropWhile_suffix _
theorem numberL_suf {l : L} {k : Int} {t rest : L} (h : numberL l = .got k t rest) : rest <:+ l := by
  unfold numberL at h
  split at h
  · cases h
  · injection h with _ _ h3; subst h3; exact List.dropWhile_suffix _
theorem textL_suf : ∀ (n : Nat) (acc l : L), l.length ≤ n → ∀ (k : Int) (t rest : L), textL acc l = .got k t rest → rest <:+ l
  | 0, acc, l, hn => by
    intro k t rest h
    have : l = [] := List.eq_nil_of_length_eq_zero (by omega)
    subst this
    simp [textL] at h
  | n + 1, acc, [], hn => by
    intro k t rest h
    simp [textL] at h
  | n + 1, acc, b :: r, hn => by
    intro k t rest h
    simp at hn
    unfold textL at h
    split at h
    · split at h
      · cases h
      · injection h with _ _ h3; subst h3; exact List.suffix_cons _ _
    · split at h
      · split at h
        · cases h
        · rename_i c r'
          simp at hn
          split at h
          · have := textL_suf n _ r' (by omega) _ _ _ h
            exact this.trans ((List.suffix_cons _ _).trans (List.suffix_cons _ _))
          · cases h
      · split at h
        · cases h
        · exact (textL_suf n _ r (by omega) _ _ _ h).trans (List.suffix_cons _ _)
theorem signL_suf {l : L} {k : Int} {t rest : L} (h : signL l = .got k t rest) : rest <:+ l := by
  match l, h with
  | [], h => simp [signL] at h
  | [b], h =>
    simp only [signL] at h
    split at h
    · injection h with _ _ h3; subst h3; exact List.nil_suffix
    · cases h
  | b :: c :: r, h =>
    simp only [signL] at h
    split at h
    · injection h with _ _ h3; subst h3; exact (List.suffix_cons _ _).trans (List.suffix_cons _ _)
    · split at h
      · injection h with _ _ h3; subst h3; exact List.suffix_cons _ _
      · cases h
theorem tokL_suf {l : L} {k : Int} {t rest : L} (h : tokL l = .got k t rest) : rest <:+ l := by
  match l, h with
  | [], h => simp [tokL] at h
  | b :: r, h =>
    simp only [tokL] at h
    split at h
    · exact nameL_suf h
    · split at h
      · exact numberL_suf h
      · split at h
        · exact (textL_suf _ _ r (Nat.le_refl _) _ _ _ h).trans (List.suffix_cons _ _)
        · exact signL_suf h
theorem sl_of_suf {s : ByteArray} {i : Nat} {rest : L} (h : rest <:+ sl s i) : sl s (s.size - rest.length) = rest := by
  have h1 : rest <:+ s.data.toList := h.trans (List.drop_suffix _ _)
  have h2 := List.suffix_iff_eq_drop.1 h1
  have h3 : rest.length ≤ s.size := by simpa using h1.length_le
  unfold sl
  conv => rhs; rw [h2]
  simp

/-- What reading comes to, behind space. -/
def stepT (N n : Nat) (l : L) : Out :=
  match l with
  | [] => .ok []
  | b :: r =>
    match tokL (b :: r) with
    | .bad e => .bad (N - (b :: r).length) e
    | .got k t rest => (toksF N n rest).push ⟨k, N - (b :: r).length, t⟩
theorem toksF_step (N n : Nat) (l : L) : toksF N (n + 1) l = stepT N n (skipB false l) := by
  unfold toksF stepT
  cases skipB false l <;> rfl
def Out.pre (ts : List Tok) : Out → Out
  | .bad o e => .bad o e
  | .ok us => .ok (ts ++ us)
theorem Out.pre_push (ts : List Tok) (t : Tok) (o : Out) : (o.push t).pre ts = o.pre (ts ++ [t]) := by cases o <;> simp [Out.push, Out.pre]
theorem Out.pre_nil (o : Out) : o.pre [] = o := by cases o <;> rfl

/-- What Tokens returns. -/
def toksS (s : ByteArray) : Out := if 65536 < s.size then .bad 0 2 else toks s.data.toList

/-- A token's cells. -/
def RT (t : Tok) (cs : List Value) : Prop := cs = [.int .i64 t.k, .int .i64 t.off, .string ⟨t.s.toArray⟩]
theorem info44 : (Tryz.prog.info? 44).map (fun i => (i.zero, i.size, i.bytes)) = some (some (.agg #[(.int .i64 0), (.int .i64 0), (.string ⟨#[]⟩)]), 3, 32) := by kernel_rfl

def TokPost (w : World) (o : Out) (e : Ending) (w' : World) : Prop :=
  match o with
  | .bad off n => e = .returned (.tuple #[.slice none 0 0, .agg #[.int .i64 off, .int .i64 n]]) ∧ Below w.heap.size w w'
  | .ok ts => ∃ v, e = .returned (.tuple #[v, .agg #[.int .i64 0, .int .i64 0]]) ∧ OwnRow RT 44 3 w' w.heap.size v ts ∧ Below w.heap.size w w'

theorem one3 (k n : Int) (x : ByteArray) : ∀ u ∈ [Value.int .i64 k, .int .i64 n, .string x], u.oneCell' = true := by
  intro u hu
  simp at hu
  rcases hu with rfl | rfl | rfl <;> rfl
/-- The blocks that the call of Tokens lays, from block b on. -/
def Blks (w : World) (b : Nat) (s : ByteArray) (i : Nat) (v : Value) (at_ : Int) : Prop :=
  w.heap[b]? = some (.cells #[v] 23 (0, 0)) ∧ w.heap[b + 1]? = some (.cells #[.int .i64 0, .int .i64 0] 26 (0, 0)) ∧ Rdr w (b + 1 + 1) s i ∧
  w.heap[b + 1 + 1 + 1]? = some (.cells #[.int .i64 at_] 3 (0, 0)) ∧ w.heap[b + 1 + 1 + 1 + 1]? = some (.cells formCells 69 (0, 0))
theorem Blks.grown {w w' : World} {b : Nat} {s : ByteArray} {i j : Nat} {v : Value} {at_ : Int} (h : Blks w b s i v at_) (hg : w.grownBy w' (some (b + 1 + 1))) (hr : Rdr w' (b + 1 + 1) s j) : Blks w' b s j v at_ :=
  ⟨blk_grown h.1 hg (by intro e; injection e with e; omega), blk_grown h.2.1 hg (by intro e; injection e with e; omega), hr,
    blk_grown h.2.2.2.1 hg (by intro e; injection e with e; omega), blk_grown h.2.2.2.2 hg (by intro e; injection e with e; omega)⟩
/-- What stands at the head of each loop: the blocks, the tokens so far. -/
structure Inv (w : World) (s : ByteArray) (W : World) (i : Nat) (v : Value) (ts : List Tok) (at_ : Int) : Prop where
  blks : Blks W w.heap.size s i v at_
  own : OwnRow RT 44 3 W w.heap.size v ts
  bel : Below w.heap.size w W
theorem Inv.start {w W : World} {s : ByteArray} (hW : W = ((((w.alloc (Obj.cells #[Value.slice none 0 0] 23)).alloc (Obj.cells #[Value.int IntKind.i64 0, Value.int IntKind.i64 0] 26)).alloc
      (Obj.cells #[Value.string s, Value.int IntKind.i64 0] 63)).alloc (Obj.cells #[Value.int IntKind.i64 0] 3)).alloc (Obj.cells formCells 69)) : Inv w s W 0 (.slice none 0 0) [] 0 := by
  subst hW
  refine ⟨⟨?_, ?_, ?_, ?_, ?_⟩, OwnRow.none_ _ _ _ _ _, ?_⟩
  · exact blk_alloc (blk_alloc (blk_alloc (blk_alloc (heap_alloc_new w _) _) _) _) _
  · exact blk_alloc (blk_alloc (blk_alloc (by have := heap_alloc_new (w.alloc (Obj.cells #[Value.slice none 0 0] 23)) (Obj.cells #[Value.int IntKind.i64 0, Value.int IntKind.i64 0] 26); simpa using this) _) _) _
  · exact blk_alloc (blk_alloc (by have := heap_alloc_new ((w.alloc (Obj.cells #[Value.slice none 0 0] 23)).alloc (Obj.cells #[Value.int IntKind.i64 0, Value.int IntKind.i64 0] 26)) (Obj.cells #[Value.string s, Value.int IntKind.i64 0] 63); simpa using this) _) _
  · exact blk_alloc (by have := heap_alloc_new (((w.alloc (Obj.cells #[Value.slice none 0 0] 23)).alloc (Obj.cells #[Value.int IntKind.i64 0, Value.int IntKind.i64 0] 26)).alloc (Obj.cells #[Value.string s, Value.int IntKind.i64 0] 63)) (Obj.cells #[Value.int IntKind.i64 0] 3); simpa using this) _
  · have := heap_alloc_new ((((w.alloc (Obj.cells #[Value.slice none 0 0] 23)).alloc (Obj.cells #[Value.int IntKind.i64 0, Value.int IntKind.i64 0] 26)).alloc (Obj.cells #[Value.string s, Value.int IntKind.i64 0] 63)).alloc (Obj.cells #[Value.int IntKind.i64 0] 3)) (Obj.cells formCells 69)
    simpa using this
  · exact below_of_gb (gb_alloc (gb_alloc (gb_alloc (gb_alloc (gb_alloc (World.grownBy.refl w none) _) _) _) _) _) (by simp)
theorem Inv.grown {w W W' : World} {s : ByteArray} {i j : Nat} {v : Value} {ts : List Tok} {at_ : Int} (h : Inv w s W i v ts at_) (hg : W.grownBy W' (some (w.heap.size + 1 + 1))) (hr : Rdr W' (w.heap.size + 1 + 1) s j) : Inv w s W' j v ts at_ :=
  ⟨h.blks.grown hg hr, h.own.other hg (.inr (Ne.symm (h.own.ne_block h.blks.2.2.1 (by decide)))), by
    have := gb_trans (gb_below h.bel none) hg (.inr fun x hx => by injection hx with hx; omega)
    exact below_of_gb this (by simp)⟩
theorem Inv.setAt {w W : World} {s : ByteArray} {i : Nat} {v : Value} {ts : List Tok} {at_ : Int} (h : Inv w s W i v ts at_) (n : Int) : Inv w s (W.setCell ⟨w.heap.size + 1 + 1 + 1, 0, none⟩ (.int .i64 n)) i v ts n :=
  ⟨⟨blk_far h.blks.1 (by simp only; omega) _, blk_far h.blks.2.1 (by simp only; omega) _, blk_far h.blks.2.2.1 (by simp) _, blk_set h.blks.2.2.2.1 0 _, blk_far h.blks.2.2.2.2 (by simp) _⟩,
    h.own.set_ h.blks.2.2.2.1 (by decide) 0 _, below_of_gb (gb_set (gb_below h.bel none) (.inr (by simp; omega)) _) (by simp)⟩
theorem Inv.alloc {w W : World} {s : ByteArray} {i : Nat} {v : Value} {ts : List Tok} {at_ : Int} (h : Inv w s W i v ts at_) (o : Obj) : Inv w s (W.alloc o) i v ts at_ :=
  h.grown (gb_alloc (World.grownBy.refl W _) o) (blk_alloc h.blks.2.2.1 o)
theorem Inv.drewN {w W : World} {s : ByteArray} {i : Nat} {v : Value} {ts : List Tok} {at_ : Int} (h : Inv w s W i v ts at_) (n : Nat) : Inv w s (W.drewN n) i v ts at_ :=
  h.grown (gb_drewN (World.grownBy.refl W _) n) (blk_drewN h.blks.2.2.1 n)
theorem Blks.own {w W w1 : World} {s : ByteArray} {i : Nat} {v : Value} {ts : List Tok} {at_ : Int} (h : Inv w s W i v ts at_) (hg : W.grownBy w1 v.ownBlock) : Blks w1 w.heap.size s i v at_ :=
  ⟨blk_grown h.blks.1 hg (h.own.ne_block h.blks.1 (by decide)), blk_grown h.blks.2.1 hg (h.own.ne_block h.blks.2.1 (by decide)), blk_grown h.blks.2.2.1 hg (h.own.ne_block h.blks.2.2.1 (by decide)),
    blk_grown h.blks.2.2.2.1 hg (h.own.ne_block h.blks.2.2.2.1 (by decide)), blk_grown h.blks.2.2.2.2 hg (h.own.ne_block h.blks.2.2.2.2 (by decide))⟩
theorem Inv.push {w w1 : World} {s : ByteArray} {i : Nat} {v v1 : Value} {ts' : List Tok} {at_ : Int} (hb : Blks w1 w.heap.size s i v at_) (ho : OwnRow RT 44 3 w1 w.heap.size v1 ts') (hbel : Below w.heap.size w w1) :
    Inv w s (w1.setCell ⟨w.heap.size, 0, none⟩ v1) i v1 ts' at_ :=
  ⟨⟨blk_set hb.1 0 _, blk_far hb.2.1 (by simp) _, blk_far hb.2.2.1 (by simp only; omega) _, blk_far hb.2.2.2.1 (by simp only; omega) _, blk_far hb.2.2.2.2 (by simp only; omega) _⟩,
    ho.set_ hb.1 (by decide) 0 _, below_of_gb (gb_set (gb_below hbel none) (.inr (Nat.le_refl _)) _) (by simp)⟩
theorem res_tok {tmps : Array Value} {w : World} {b : Nat} {v p0 p1 : Value} (h2 : tmps.getD 2 undef = .pointer (some ⟨b, 0, none⟩)) (h3 : tmps.getD 3 undef = .pointer (some ⟨b + 1, 0, none⟩))
    (hl : w.heap[b]? = some (.cells #[v] 23 (0, 0))) (hp : w.heap[b + 1]? = some (.cells #[p0, p1] 26 (0, 0))) : (results Tryz.f10 tmps).run Tryz.prog w = .ok (.tuple #[v, .agg #[p0, p1]]) w := by
  have c0 : w.cell? ⟨b, 0, none⟩ = some v := blk_cell hl 0
  have c1 : w.cell? ⟨b + 1, 0, none⟩ = some p0 := blk_cell hp 0
  have c2 : w.cell? ⟨b + 1, 1, none⟩ = some p1 := blk_cell hp 1
  have hu := Tryz.underlying23
  have hu6 := Tryz.underlying26
  have h2' : tmps[2]?.getD undef = .pointer (some ⟨b, 0, none⟩) := by simpa using h2
  have h3' : tmps[3]?.getD undef = .pointer (some ⟨b + 1, 0, none⟩) := by simpa using h3
  simp [results, h2', h3', go_sem, c0, c1, c2, hu, hu6]

set_option maxHeartbeats 1600000 in
theorem tokens_any (s : ByteArray) (w : World) (hG : Gl w) :
    Calls Tryz.prog 10 #[.string s] w (TokPost w (toksS s)) := by
  have hmf : ∀ (fn : Fn) (first cap : Array Value) (w : World), (Instr.makeFunc fn first cap).run Tryz.prog w = .ok (.func fn first cap) w := fun _ _ _ _ => rfl
  obtain ⟨o0, ho0⟩ : ∃ o0, o0 = toksS s := ⟨_, rfl⟩
  rw [← ho0]
  have HO0 := Lib.hid ho0; clear ho0
  by_cases hbig : 65536 < s.size
  · go_enter_defers Tryz.func10, Tryz.ntmps10
    have hb : (65536 : Int) < s.size := by omega
    go_wp2
    have ho : o0 = .bad 0 2 := by rw [HO0.out]; unfold toksS; rw [if_pos hbig]
    subst ho
    refine ⟨_, res_tok rfl rfl (blk_alloc (heap_alloc_new w _) _) (by have := heap_alloc_new (w.alloc (Obj.cells #[Value.slice none 0 0] 23)) (Obj.cells #[Value.int IntKind.i64 0, Value.int IntKind.i64 2] 26); simpa using this), rfl, ?_⟩
    exact below_of_gb (gb_alloc (gb_alloc (World.grownBy.refl w none) _) _) (by simp)
  · have ho : o0 = (stepT s.size s.size (sl s (skipAt s 0))).pre [] := by
      rw [HO0.out, Out.pre_nil]; unfold toksS; rw [if_neg hbig]; unfold toks
      rw [toksF_step, (skipAt_sl s 0 (Nat.zero_le _)).1, sl_full]
      simp
    clear HO0
    have HO0 := Lib.hid ho; clear ho
    have hsk := skipAt_sl s 0 (Nat.zero_le _)
    have hgl : ∀ {W W' : World}, True := trivial
    go_enter_defers Tryz.func10, Tryz.ntmps10
    have hb : ¬ (65536 : Int) < s.size := by omega
    have hs : s.size ≤ 140737488351232 := by omega
    go_wp2_with (first | (go_at_call 27; refine (forms_any _).mono ?_; rintro e w1 ⟨rfl, rfl⟩))
    obtain ⟨W0, hW0⟩ : ∃ W0, W0 = ((((w.alloc (Obj.cells #[Value.slice none 0 0] 23)).alloc (Obj.cells #[Value.int IntKind.i64 0, Value.int IntKind.i64 0] 26)).alloc
      (Obj.cells #[Value.string s, Value.int IntKind.i64 0] 63)).alloc (Obj.cells #[Value.int IntKind.i64 0] 3)).alloc (Obj.cells formCells 69) := ⟨_, rfl⟩
    have hI := Inv.start hW0
    rw [← hW0]
    clear hW0
    refine (space_any _ s 0 _ hI.blks.2.2.1 (Nat.zero_le _) hs).mono ?_
    rintro e w1 ⟨rfl, hr1, hg1⟩
    have hI1 := hI.grown hg1 hr1
    clear hg1 hr1 hI
    have hGW : ∀ W : World, Below w.heap.size w W → Gl W := fun W h => hG.below h
    have HGW := Lib.hid hGW; clear hGW hG
    obtain ⟨-, -, hsk2⟩ := hsk
    go_wp2
    go_loopg [] (s.size - skipAt s 0) (fun gk wr => ∃ (m n : Nat) (v : Value) (ts : List Tok) (at_ : Int), m ≤ s.size ∧ gk = s.size - m ∧ s.size - m ≤ n ∧ ts.length ≤ m ∧
      Hid (o0 = (stepT s.size n (sl s m)).pre ts) ∧ Inv w s wr m v ts at_)
    case atStart => exact ⟨skipAt s 0, s.size, _, _, _, hsk2, rfl, by omega, by simp, HO0, hI1⟩
    case round =>
      obtain ⟨m, n, v, ts, at_, h1, rfl, h2, h3, he, hI⟩ := hrel
      obtain ⟨A, cA, rfl, hcA⟩ := hI.own.slice_
      have d0 := hI.blks.2.2.1.c0
      have d1 := hI.blks.2.2.1.c1
      have a0 : wr.cell? ⟨w.heap.size + 1 + 1 + 1, 0, none⟩ = some (.int .i64 at_) := blk_cell hI.blks.2.2.2.1 0
      have a1 := blk_frozen hI.blks.2.2.2.1 0
      have l0 : wr.cell? ⟨w.heap.size, 0, none⟩ = some (.slice A ts.length cA) := blk_cell hI.blks.1 0
      have l1 := blk_frozen hI.blks.1 0
      have p0 : wr.cell? ⟨w.heap.size + 1, 0, none⟩ = some (.int .i64 0) := blk_cell hI.blks.2.1 0
      have p1 : wr.cell? ⟨w.heap.size + 1, 1, none⟩ = some (.int .i64 0) := blk_cell hI.blks.2.1 1
      have q0 := blk_frozen hI.blks.2.1 0
      have q1 := blk_frozen hI.blks.2.1 1
      by_cases hlt : m < s.size
      · have hd : (m : Int) < (s.size : Int) := by omega
        go_wp2
        go_loopg [36] 4 (fun gk kk wq => ∃ k : Nat, kk = .int .i64 k ∧ gk = 4 - k ∧ k ≤ pick s[m] ∧ Inv w s wq m (.slice A ts.length cA) ts m)
        case atStart => exact ⟨0, rfl, rfl, Nat.zero_le _, hI.setAt m⟩
        case round =>
          obtain ⟨k, rfl, rfl, hk, hI2⟩ := hrel
          have hk3 := pick_le s[m]
          have b0 : wr.cell? ⟨w.heap.size + 1 + 1 + 1 + 1, k * 2, none⟩ = some (fv (begF k)) := (blk_cell hI2.blks.2.2.2.2 (k * 2)).trans (formCells_beg k (by omega))
          have b1 : wr.cell? ⟨w.heap.size + 1 + 1 + 1 + 1, k * 2 + 1, none⟩ = some (fv (redF k)) := (blk_cell hI2.blks.2.2.2.2 (k * 2 + 1)).trans (formCells_red k (by omega))
          have hk0 : (0 : Int) ≤ k := by omega
          have hk4 : (k : Int) < 4 := by omega
          have HP := Lib.hid hk
          clear hk hk3
          have hf := enters_beg k
          have hf2 := enters_red k
          unfold Enters at hf hf2
          have HQ := Lib.hid (beg_any k)
          have d2 : wr.cell? ⟨w.heap.size + 1 + 1 + 1, 0, none⟩ = some (.int .i64 m) := blk_cell hI2.blks.2.2.2.1 0
          have hm0 : (0 : Int) ≤ m := by omega
          have hm1 : (m : Int).toNat = m := by omega
          have hlw : w.heap.size + 1 + 1 + 1 < wr.heap.size := blk_lt hI2.blks.2.2.2.1
          go_wp2
          go_quiet ((exact Calls.quiet_of (HQ.out _ _)))
          by_cases hkp : k = pick s[m]
          · have hbv : begB k s[m] = true := by rw [hkp]; exact pick_yes _
            simp only [hbv]
            clear hbv
            obtain ⟨r0, hr0⟩ : ∃ r0, r0 = tokL (sl s m) := ⟨_, rfl⟩
            have hI3 := (hI2.alloc (Obj.cells #[Value.func (Fn.func (begF k)) #[] #[], Value.func (Fn.func (redF k)) #[] #[]] 69)).drewN nq
            have hred := red_any _ s m _ hI3.blks.2.2.1 hlt hs (HGW.out _ hI3.bel)
            rw [← hkp, ← hr0] at hred
            have HRED := Lib.hid hred
            have HR0 := Lib.hid hr0
            clear hred hr0
            clear hkp
            go_wp2_with fail
            refine (HRED.out).mono ?_
            intro e w2 hpost
            rcases r0 with en | ⟨K, T, R⟩
            · obtain ⟨rfl, hg⟩ := hpost
              clear hf hf2
              have hI3' := hI3
              go_wp2
              have hlb := blk_grown hI3.blks.1 hg (by intro e; injection e with e; omega)
              have hpb := blk_grown hI3.blks.2.1 hg (by intro e; injection e with e; omega)
              have hab := blk_grown hI3.blks.2.2.2.1 hg (by intro e; injection e with e; omega)
              refine leaves_cons (fv := .func 26) (cap := #[.pointer (some ⟨w.heap.size + 1 + 1 + 1, 0, none⟩), .pointer (some ⟨w.heap.size, 0, none⟩), .pointer (some ⟨w.heap.size + 1, 0, none⟩)]) (dargs := #[]) (ds := []) (f := 26) (args := #[.pointer (some ⟨w.heap.size + 1 + 1 + 1, 0, none⟩), .pointer (some ⟨w.heap.size, 0, none⟩), .pointer (some ⟨w.heap.size + 1, 0, none⟩)]) (by simp) (by simp [go_sem]) ?_
              refine (catch_panicking w2 w.heap.size m en _ _ _ [] hlb hpb hab).mono ?_
              rintro e u' w'' ⟨rfl, rfl, rfl⟩
              have ho : o0 = .bad m en := by
                have e := HR0.out
                rw [he.out]
                rw [sl_cons s m hlt] at e ⊢
                simp only [stepT, ← e, Out.pre, List.length_cons, sl_len]
                congr 1
                omega
              subst ho
              refine ⟨_, res_tok rfl rfl (p0 := .int .i64 m) (p1 := .int .i64 en) (v := .slice none 0 0) ?_ ?_, rfl, ?_⟩
              · exact blk_far (blk_far (blk_set hlb 0 _) (by simp) _) (by simp) _
              · exact blk_set (blk_set (blk_far hpb (by simp) _) 0 _) 1 _
              · have h4 := below_of_gb (gb_trans (gb_below hI3.bel none) hg (.inr fun x hx => by injection hx with hx; omega)) (by simp)
                exact below_of_gb (gb_set (gb_set (gb_set (gb_below h4 none) (.inr (by simp)) _) (.inr (by simp)) _) (.inr (by simp)) _) (by simp)
            · obtain ⟨rfl, hr2, hg⟩ := hpost
              have hI4 := hI3.grown hg hr2
              have hsuf := sl_of_suf (tokL_suf HR0.out.symm)
              have hlt2 := tokL_lt HR0.out.symm
              rw [sl_len] at hlt2
              have HS := Lib.hid hsuf; clear hsuf
              have l2 : w2.cell? ⟨w.heap.size, 0, none⟩ = some (.slice A ts.length cA) := blk_cell hI4.blks.1 0
              have l3 := blk_frozen hI4.blks.1 0
              have a2 : w2.cell? ⟨w.heap.size + 1 + 1 + 1, 0, none⟩ = some (.int .i64 m) := blk_cell hI4.blks.2.2.2.1 0
              have hlw2 : w.heap.size + 1 + 1 + 1 < w2.heap.size := blk_lt hI4.blks.2.2.2.1
              have hlw3 : w.heap.size < w2.heap.size := by omega
              clear hg hI3 hI2 hI
              go_wp2_with (at_builtin; refine OwnRow.append (w0 := w) (R := RT) w.heap.size rfl (.tmp 52) (.tmp 54) 23 44 (.agg #[(.int .i64 0), (.int .i64 0), (.string ⟨#[]⟩)]) 3 32 rfl Tryz.underlying23 info44 rfl (by decide) (by decide) (.slice A ts.length cA) ts ⟨K, m, T⟩ [.int .i64 K, .int .i64 m, .string ⟨T.toArray⟩] rfl ?hx rfl rfl ?h1 ?hO ?hB ?hS ?hL ?_; (case hx => first | (go_simp; done) | (go_simp; rfl)); (case h1 => exact one3 _ _ _); (case hO => exact (hI4.alloc _).own); (case hB => exact (hI4.alloc _).bel); (case hS => exact (hI4.alloc _).bel.size); (case hL => omega); intro v1 w3 hown hbel hgr hat; clear hat; have hI5 := Blks.own (hI4.alloc _) hgr; clear hgr; obtain ⟨A1, c1, rfl, hc1⟩ := hown.slice_; have e0 := blk_cell hI5.1 0; have e1 := blk_frozen hI5.1 0)
              have hI6 := Inv.push hI5 hown hbel
              simp only [List.length_append, List.length_cons, List.length_nil, Nat.zero_add] at hI6
              refine (space_any _ s _ _ hI6.blks.2.2.1 (by omega) hs).mono ?_
              rintro e w4 ⟨rfl, hr4, hg4⟩
              have hI7 := hI6.grown hg4 hr4
              have hsk := skipAt_sl s (s.size - R.length) (by omega)
              obtain ⟨n', rfl⟩ : ∃ n', n = n' + 1 := ⟨n - 1, by omega⟩
              have ho : o0 = (stepT s.size n' (sl s (skipAt s (s.size - R.length)))).pre (ts ++ [⟨K, m, T⟩]) := by
                have e := HR0.out
                rw [he.out, hsk.1, HS.out, ← toksF_step, ← Out.pre_push]
                rw [sl_cons s m hlt] at e ⊢
                simp only [stepT, ← e, List.length_cons, sl_len]
                rw [show s.size - (s.size - (m + 1) + 1) = m from by omega]
              have HO := Lib.hid ho; clear ho
              obtain ⟨-, hsk3, hsk4⟩ := hsk
              go_wp2
              go_roundg (s.size - skipAt s (s.size - R.length))
              case rel => exact ⟨skipAt s (s.size - R.length), n', _, _, _, hsk4, rfl, by omega, by simp; omega, HO, hI7⟩
              case measure => omega
          · have hbv : begB k s[m] = false := pick_no _ _ (by have := HP.out; omega)
            simp only [hbv]
            clear hbv
            go_wp2
            go_roundg (4 - (k + 1))
            case rel => exact ⟨k + 1, by simp, rfl, by have := HP.out; omega, (hI2.alloc _).drewN _⟩
            case measure => omega
      · have hd : ¬ (m : Int) < (s.size : Int) := by omega
        obtain rfl : m = s.size := by omega
        rw [sl_nil s s.size (Nat.le_refl _)] at he
        have ho : o0 = .ok ts := by rw [he.out]; simp [stepT, Out.pre]
        subst ho
        go_wp2
        refine leaves_cons (fv := .func 26) (cap := #[.pointer (some ⟨w.heap.size + 1 + 1 + 1, 0, none⟩), .pointer (some ⟨w.heap.size, 0, none⟩), .pointer (some ⟨w.heap.size + 1, 0, none⟩)]) (dargs := #[]) (ds := []) (u := .returning) (f := 26) (args := #[.pointer (some ⟨w.heap.size + 1 + 1 + 1, 0, none⟩), .pointer (some ⟨w.heap.size, 0, none⟩), .pointer (some ⟨w.heap.size + 1, 0, none⟩)]) (by simp) (by simp [go_sem]) ?_
        refine (catch_idle _ rfl _).mono ?_
        rintro e u' w'' ⟨rfl, rfl, rfl⟩
        have hb1 : ∀ x, Below w.heap.size w x → True := fun _ _ => trivial
        refine ⟨_, res_tok rfl rfl (v := .slice A ts.length cA) (p0 := .int .i64 0) (p1 := .int .i64 0) ?_ ?_, ⟨_, rfl, ?_, ?_⟩⟩
        · exact blk_far (blk_far (blk_set hI.blks.1 0 _) (by simp) _) (by simp) _
        · exact blk_set (blk_set (blk_far hI.blks.2.1 (by simp) _) 0 _) 1 _
        · exact OwnRow.set_ (OwnRow.set_ (hI.own.set_ hI.blks.1 (by decide) 0 _) (blk_far hI.blks.2.1 (by simp) _) (by decide) 0 _) (blk_set (blk_far hI.blks.2.1 (by simp) _) 0 _) (by decide) 1 _
        · exact below_of_gb (gb_set (gb_set (gb_set (gb_below hI.bel none) (.inr (by simp)) _) (.inr (by simp)) _) (.inr (by simp)) _) (by simp)
end Go.Proofs.YtafomaiaobfkfaaGreatDoor.Lx
