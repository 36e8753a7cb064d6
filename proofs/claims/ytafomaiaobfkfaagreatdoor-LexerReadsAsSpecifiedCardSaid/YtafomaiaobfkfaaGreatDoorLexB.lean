/-
  The lexer's small functions, walked: what a byte is, Words, Word, fail, (*reader).while, (*reader).space. Conditions: each theorem's own.
-/
import Derived.Test.YtafomaiaobfkfaaGreatDoorLexA
import Derived.Test.YtafomaiaobfkfaaGreatDoorShelf
namespace Go.Proofs.YtafomaiaobfkfaaGreatDoor.Lx
open Go.RowKit Go.Proofs.YtafomaiaobfkfaaGreatDoorW.PrintWords
set_option linter.unusedVariables false
set_option linter.unusedSimpArgs false

theorem ret_b {a b : Bool} (h : a = b) : Ending.returned (.bool a) = .returned (.bool b) := by rw [h]

/-! ### what a byte is -/
theorem isSmall_any (b : UInt8) (w : World) :
    Calls Tryz.prog 41 #[.int .u8 b.toNat] w fun e w' => e = .returned (.bool (smallB b)) ∧ ∃ n, w' = w.drewN n := by
  go_enter Tryz.func41, Tryz.ntmps41
  go_wp2
  all_goals go_ret
  all_goals exact ⟨ret_b (by unfold smallB; rw [Bool.eq_iff_iff]; simp only [Bool.and_eq_true, Bool.or_eq_true, decide_eq_true_eq, beq_iff_eq, bne_iff_ne, ne_eq, Bool.false_eq_true, true_iff, iff_true, false_iff, iff_false, eq_self]; omega), 0, rfl⟩

theorem isDigit_any (b : UInt8) (w : World) :
    Calls Tryz.prog 43 #[.int .u8 b.toNat] w fun e w' => e = .returned (.bool (digitB b)) ∧ ∃ n, w' = w.drewN n := by
  go_enter Tryz.func43, Tryz.ntmps43
  go_wp2
  all_goals go_ret
  all_goals exact ⟨ret_b (by unfold digitB; rw [Bool.eq_iff_iff]; simp only [Bool.and_eq_true, Bool.or_eq_true, decide_eq_true_eq, beq_iff_eq, bne_iff_ne, ne_eq, Bool.false_eq_true, true_iff, iff_true, false_iff, iff_false, eq_self]; omega), 0, rfl⟩

theorem isRest_any (b : UInt8) (w : World) :
    Calls Tryz.prog 72 #[.int .u8 b.toNat] w fun e w' => e = .returned (.bool (restB b)) ∧ ∃ n, w' = w.drewN n := by
  cases hs : smallB b
  · cases hd : digitB b
    · go_enter Tryz.func72, Tryz.ntmps72
      go_wp2_with (first | (go_at_call 41; refine (isSmall_any _ _).mono ?_; rintro e w' ⟨rfl, n1, rfl⟩; rw [hs]) | (go_at_call 43; refine (isDigit_any _ _).mono ?_; rintro e w' ⟨rfl, n2, rfl⟩; rw [hd]))
      go_ret
      exact ⟨ret_b (by rw [Bool.eq_iff_iff]; simp only [restB, hs, hd, Bool.and_eq_true, Bool.or_eq_true, decide_eq_true_eq, beq_iff_eq, bne_iff_ne, ne_eq, Bool.false_eq_true, true_iff, iff_true, false_iff, iff_false, eq_self, false_or, true_or, or_true]; omega), _, rfl⟩
    · go_enter Tryz.func72, Tryz.ntmps72
      go_wp2_with (first | (go_at_call 41; refine (isSmall_any _ _).mono ?_; rintro e w' ⟨rfl, n1, rfl⟩; rw [hs]) | (go_at_call 43; refine (isDigit_any _ _).mono ?_; rintro e w' ⟨rfl, n2, rfl⟩; rw [hd]))
      go_ret
      exact ⟨ret_b (by simp [restB, hs, hd]), _, rfl⟩
  · go_enter Tryz.func72, Tryz.ntmps72
    go_wp2_with (go_at_call 41; refine (isSmall_any _ _).mono ?_; rintro e w' ⟨rfl, n1, rfl⟩; rw [hs])
    go_ret
    exact ⟨ret_b (by simp [restB, hs]), _, rfl⟩

theorem quote_any (b : UInt8) (w : World) :
    Calls Tryz.prog 45 #[.int .u8 b.toNat] w fun e w' => e = .returned (.bool (decide (b.toNat = 34))) ∧ ∃ n, w' = w.drewN n := by
  go_enter Tryz.func45, Tryz.ntmps45
  go_wp2
  all_goals go_ret
  all_goals exact ⟨ret_b (by rw [Bool.eq_iff_iff]; simp only [Bool.and_eq_true, Bool.or_eq_true, decide_eq_true_eq, beq_iff_eq, bne_iff_ne, ne_eq, Bool.false_eq_true, true_iff, iff_true, false_iff, iff_false, eq_self]; omega), 0, rfl⟩

theorem any_any (b : UInt8) (w : World) :
    Calls Tryz.prog 47 #[.int .u8 b.toNat] w fun e w' => e = .returned (.bool true) ∧ ∃ n, w' = w.drewN n := by
  go_enter Tryz.func47, Tryz.ntmps47
  go_wp2
  all_goals go_ret
  all_goals exact ⟨rfl, 0, rfl⟩

theorem blank_any (b : UInt8) (w : World) :
    Calls Tryz.prog 50 #[.int .u8 b.toNat] w fun e w' => e = .returned (.bool (spB b)) ∧ ∃ n, w' = w.drewN n := by
  go_enter Tryz.func50, Tryz.ntmps50
  go_wp2
  all_goals go_ret
  all_goals exact ⟨ret_b (by unfold spB; rw [Bool.eq_iff_iff]; simp only [Bool.and_eq_true, Bool.or_eq_true, decide_eq_true_eq, beq_iff_eq, bne_iff_ne, ne_eq, Bool.false_eq_true, true_iff, iff_true, false_iff, iff_false, eq_self]; omega), 0, rfl⟩

theorem notLine_any (b : UInt8) (w : World) :
    Calls Tryz.prog 51 #[.int .u8 b.toNat] w fun e w' => e = .returned (.bool (decide (b.toNat ≠ 10))) ∧ ∃ n, w' = w.drewN n := by
  go_enter Tryz.func51, Tryz.ntmps51
  go_wp2
  all_goals go_ret
  all_goals exact ⟨ret_b (by rw [Bool.eq_iff_iff]; simp only [Bool.and_eq_true, Bool.or_eq_true, decide_eq_true_eq, beq_iff_eq, bne_iff_ne, ne_eq, Bool.false_eq_true, true_iff, iff_true, false_iff, iff_false, eq_self]; omega), 0, rfl⟩

/-! ### fail -/
theorem fail_no (b : Bool) (hb : b = false) (e : Int) (w : World) :
    Calls Tryz.prog 73 #[.bool b, .int .i64 e] w fun x w' => x = .returned (.tuple #[]) ∧ w' = w := by
  subst hb
  go_enter Tryz.func73, Tryz.ntmps73
  go_wp2
  go_end0
  exact ⟨rfl, rfl⟩

theorem fail_yes (b : Bool) (hb : b = true) (e : Int) (w : World) :
    Calls Tryz.prog 73 #[.bool b, .int .i64 e] w fun x w' => x = .panicked [{ v := .iface 24 (.int .i64 e), recovered := false }] ∧ w' = w := by
  subst hb
  go_enter Tryz.func73, Tryz.ntmps73
  go_wp2
  exact ⟨rfl, rfl, rfl⟩

/-! ### Words, Word -/
theorem ascii_of (l : L) (h : ∀ b ∈ l, b.toNat < 128) : ∀ (j : Nat) b, l[j]? = some b → b.toNat < 128 := fun j b hj => h b (List.mem_of_getElem? hj)
theorem words_any (w : World) (hG : Gl w) :
    Calls Tryz.prog 16 #[] w fun e w' => e = .returned (.slice (some ⟨w.heap.size, 0, none⟩) 6 6) ∧ w' = w.alloc (.cells (words.map fun l => Value.string ⟨l.toArray⟩).toArray 9) := by
  go_enter Tryz.func16, Tryz.ntmps16
  go_wp2_with (go_at_call 33; refine (Tryz.strings_Fields _ _ (by decide) (ascii_of _ (by decide)) hG).mono ?_; rintro e w' ⟨rfl, rfl⟩)
  go_ret
  exact ⟨rfl, rfl⟩


theorem words_cell (w : World) (j : Nat) (hj : j < words.length) :
    (w.alloc (.cells (words.map fun l => Value.string ⟨l.toArray⟩).toArray 9)).cell? ⟨w.heap.size, j, none⟩ = some (.string ((words.map fun l => (⟨l.toArray⟩ : ByteArray)).getD j ByteArray.empty)) := by
  have h : (w.alloc (.cells (words.map fun l => Value.string ⟨l.toArray⟩).toArray 9)).heap[w.heap.size]? = some (.cells (words.map fun l => Value.string ⟨l.toArray⟩).toArray 9 (0, 0)) := heap_alloc_new w _
  rw [blk_cell h]
  simp [List.getD, hj]

theorem words_has (s : ByteArray) : Lib.containsS ((words.map fun l => (⟨l.toArray⟩ : ByteArray)).take 6) s = decide (s.data.toList ∈ words) := by
  rw [Bool.eq_iff_iff, Lib.containsS_iff, decide_eq_true_eq]
  simp only [List.take_of_length_le (show (words.map fun l => (⟨l.toArray⟩ : ByteArray)).length ≤ 6 from by decide), List.mem_map]
  constructor
  · rintro ⟨l, hl, rfl⟩
    simpa using hl
  · intro h
    exact ⟨_, h, mk_data s⟩

theorem word_any (s : ByteArray) (w : World) (hG : Gl w) :
    Calls Tryz.prog 18 #[.string s] w fun e w' => e = .returned (.bool (decide (s.data.toList ∈ words))) ∧ Below w.heap.size w w' := by
  go_enter Tryz.func18, Tryz.ntmps18
  go_wp2_with (go_at_call 16; refine (words_any _ hG).mono ?_; rintro e w' ⟨rfl, rfl⟩)
  refine (Tryz.slices_Contains_string w.heap.size 0 6 6 (words.map fun l => (⟨l.toArray⟩ : ByteArray)) s _ (by decide) (by omega) (fun j hj => ?_)).mono ?_
  · rw [show (0 : Nat) + j = j from by omega, words_cell w j (by simpa using hj)]
  rintro e w' ⟨rfl, rfl⟩
  go_wp2
  go_ret
  exact ⟨ret_b (words_has s), (Below.refl _ _).alloc (Nat.le_refl _) _⟩

theorem word_yes (s : ByteArray) (w : World) (hG : Gl w) (h : s.data.toList ∈ words) :
    Calls Tryz.prog 18 #[.string s] w fun e w' => e = .returned (.bool true) ∧ Below w.heap.size w w' :=
  (word_any s w hG).mono fun _ _ ⟨a, b⟩ => ⟨by rw [a, decide_eq_true h], b⟩
theorem word_not (s : ByteArray) (w : World) (hG : Gl w) (h : s.data.toList ∉ words) :
    Calls Tryz.prog 18 #[.string s] w fun e w' => e = .returned (.bool false) ∧ Below w.heap.size w w' :=
  (word_any s w hG).mono fun _ _ ⟨a, b⟩ => ⟨by rw [a, decide_eq_false h], b⟩

/-! ### (*reader).while, (*reader).space -/
/-- The reader at block g: its source and its offset. -/
def Rdr (w : World) (g : Nat) (s : ByteArray) (i : Nat) : Prop := w.heap[g]? = some (.cells #[.string s, .int .i64 i] 63 (0, 0))
theorem Rdr.c0 {w : World} {g : Nat} {s : ByteArray} {i : Nat} (h : Rdr w g s i) : w.cell? ⟨g, 0, none⟩ = some (.string s) := blk_cell h 0
theorem Rdr.c1 {w : World} {g : Nat} {s : ByteArray} {i : Nat} (h : Rdr w g s i) : w.cell? ⟨g, 1, none⟩ = some (.int .i64 i) := blk_cell h 1
theorem Rdr.f1 {w : World} {g : Nat} {s : ByteArray} {i : Nat} (h : Rdr w g s i) : w.frozen? ⟨g, 1, none⟩ = false := blk_frozen h 1
theorem Rdr.set_ {w : World} {g : Nat} {s : ByteArray} {i : Nat} (h : Rdr w g s i) (j : Nat) : Rdr (w.setCell ⟨g, 1, none⟩ (.int .i64 j)) g s j := blk_set h 1 _
theorem Rdr.far {w w' : World} {g : Nat} {s : ByteArray} {i : Nat} (h : Rdr w g s i) (hb : Below w.heap.size w w') : Rdr w' g s i := blk_below h hb
theorem Rdr.lt {w : World} {g : Nat} {s : ByteArray} {i : Nat} (h : Rdr w g s i) : g < w.heap.size := blk_lt h
theorem Rdr.ne_gl {w : World} {g : Nat} {s : ByteArray} {i : Nat} (h : Rdr w g s i) (hG : Gl w) : g ≠ 0 := hG.ne_blk h (by simp)

/-- A function value without captures that enters its function. -/
def Enters (fn : Nat) : Prop := ∀ (args : Array Value) (W : World), (callFunc fn args).run Tryz.prog W = .ok (.enter fn args) W

set_option maxHeartbeats 800000 in
theorem while_any (g fn : Nat) (p : UInt8 → Bool) (s : ByteArray) (i j : Nat) (w : World) (hf : Enters fn)
    (hp : ∀ (b : UInt8) (W : World), Calls Tryz.prog fn #[.int .u8 b.toNat] W fun e w' => e = .returned (.bool (p b)) ∧ ∃ n, w' = W.drewN n)
    (hb : Rdr w g s i) (hj : Whl p s i j) (hs : s.size ≤ 140737488351232) :
    Calls Tryz.prog 49 #[.pointer (some ⟨g, 0, none⟩), .func (.func fn) #[] #[]] w fun e w' =>
      e = .returned (.string (s.extract i j)) ∧ Rdr w' g s j ∧ w.grownBy w' (some g) := by
  obtain ⟨hij, hjs, hy, hn⟩ := hj
  have c0 := hb.c0
  have c1 := hb.c1
  have HY := Lib.hid hy; have HN := Lib.hid hn; have HP := Lib.hid hp
  clear hy hn hp
  unfold Enters at hf
  go_enter Tryz.func49, Tryz.ntmps49
  go_wp2
  go_loopg [] (j - i) (fun gk wr => ∃ m : Nat, i ≤ m ∧ m ≤ j ∧ gk = j - m ∧ Rdr wr g s m ∧ w.grownBy wr (some g))
  case atStart => exact ⟨i, Nat.le_refl _, hij, rfl, hb, World.grownBy.refl w _⟩
  case round =>
    obtain ⟨m, h1, h2, rfl, hr, hg⟩ := hrel
    have d0 := hr.c0
    have d1 := hr.c1
    have f1 := hr.f1
    have hlen : (s.size : Int) ≤ 140737488351232 := by omega
    by_cases hlt : m < s.size
    · have hd : decide ((m : Int) < (s.size : Int)) = true := by simp; omega
      by_cases hmj : m < j
      · go_wp2_with fail
        go_quiet ((exact Calls.quiet_of (HP.out _ _)))
        clear hd
        have hpv : p s[m] = true := HY.out m hlt h1 hmj
        simp only [hpv]
        clear hpv
        go_wp2
        go_roundg (j - (m + 1))
        case rel => exact ⟨m + 1, by omega, by omega, rfl, hr.set_ (m + 1), gb_set (gb_drewN hg _) (.inl rfl) _⟩
        case measure => omega
      · obtain rfl : m = j := by omega
        go_wp2_with fail
        go_quiet ((exact Calls.quiet_of (HP.out _ _)))
        clear hd
        have hpv : p s[m] = false := HN.out hlt
        simp only [hpv]
        clear hpv
        go_wp2
        go_quiet (fail)
        go_wp2
        go_ret
        exact ⟨rfl, hr, gb_drewN (gb_drewN hg _) _⟩
    · have hd : decide ((m : Int) < (s.size : Int)) = false := by simp; omega
      obtain rfl : m = j := by omega
      go_wp2_with fail
      go_quiet (fail)
      go_wp2
      go_quiet (fail)
      go_wp2
      go_ret
      exact ⟨rfl, hr, gb_drewN (gb_drewN hg _) _⟩


/-- Where skipping leads to from an offset. -/
theorem skip_sp (s : ByteArray) (i : Nat) (h : i ≤ s.size) : ∃ j, Whl spB s i j ∧ skipB false (sl s i) = skipB false (sl s j) := by
  obtain ⟨a, _, c⟩ := whl_ex spB s _ i rfl h
  refine ⟨_, a, ?_⟩
  rw [← c]
  generalize sl s i = l
  induction l with
  | nil => rfl
  | cons b r ih =>
    by_cases hb : spB b = true
    · rw [List.dropWhile_cons, if_pos hb, ← ih]
      simp [skipB, hb]
    · rw [List.dropWhile_cons, if_neg hb]
theorem skip_line (s : ByteArray) (i : Nat) (h : i ≤ s.size) : ∃ j, Whl (fun b => decide (b.toNat ≠ 10)) s i j ∧ skipB true (sl s i) = skipB false (sl s j) ∧ (skipB true (sl s i)).length ≤ s.size - j := by
  obtain ⟨a, _, c⟩ := whl_ex (fun b => decide (b.toNat ≠ 10)) s _ i rfl h
  have key : ∀ l : L, skipB true l = skipB false (l.dropWhile fun b => decide (b.toNat ≠ 10)) := by
    intro l
    induction l with
    | nil => rfl
    | cons b r ih =>
      by_cases hb : b.toNat = 10
      · rw [List.dropWhile_cons, if_neg (by simp [hb])]
        simp [skipB, hb, spB]
      · rw [List.dropWhile_cons, if_pos (by simp [hb]), ← ih]
        simp [skipB, hb]
  refine ⟨_, a, by rw [← c]; exact key _, ?_⟩
  rw [key, c, ← sl_len]
  exact skipB_le _ _

end Go.Proofs.YtafomaiaobfkfaaGreatDoor.Lx
