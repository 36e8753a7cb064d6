/-
  lexer.forms, the deferred closure of Tokens: walked. Conditions: each theorem's own.
-/
import Derived.Test.YtafomaiaobfkfaaGreatDoorLexD
import Derived.Test.YtafomaiaobfkfaaGreatDoorLexF
import Derived.Laws.EntriesVeiled
import Derived.Recover
import Derived.Defers
namespace Go.Proofs.YtafomaiaobfkfaaGreatDoor.Lx
open Go.RowKit Go.Proofs.YtafomaiaobfkfaaGreatDoorW.PrintWords
set_option linter.unusedVariables false
set_option linter.unusedSimpArgs false

/-- How a token begins, and which function reads it: the four forms. -/
def begF : Nat → Nat
  | 0 => 41
  | 1 => 43
  | 2 => 45
  | _ => 47
def redF : Nat → Nat
  | 0 => 42
  | 1 => 44
  | 2 => 46
  | _ => 48
def begB : Nat → UInt8 → Bool
  | 0, b => smallB b
  | 1, b => digitB b
  | 2, b => decide (b.toNat = 34)
  | _, _ => true
abbrev fv (n : Nat) : Value := .func (.func n) #[] #[]
def formCells : Array Value := #[fv (begF 0), fv (redF 0), fv (begF 1), fv (redF 1), fv (begF 2), fv (redF 2), fv (begF 3), fv (redF 3)]
theorem formCells_beg (k : Nat) (h : k < 4) : formCells[k * 2]? = some (fv (begF k)) := by
  match k, h with
  | 0, _ => rfl
  | 1, _ => rfl
  | 2, _ => rfl
  | 3, _ => rfl
theorem formCells_red (k : Nat) (h : k < 4) : formCells[k * 2 + 1]? = some (fv (redF k)) := by
  match k, h with
  | 0, _ => rfl
  | 1, _ => rfl
  | 2, _ => rfl
  | 3, _ => rfl
theorem forms_any (w : World) :
    Calls Tryz.prog 27 #[] w fun e w' =>
      e = .returned (.slice (some ⟨w.heap.size, 0, none⟩) 4 4) ∧ w' = w.alloc (.cells formCells 69) := by
  go_enter Tryz.func27, Tryz.ntmps27
  go_wp2
  go_ret
  exact ⟨rfl, rfl⟩

theorem enters_beg (k : Nat) : Enters (begF k) := fun args W => by
  match k with
  | 0 => simp only [begF]; go_simp
  | 1 => simp only [begF]; go_simp
  | 2 => simp only [begF]; go_simp
  | k + 3 => simp only [begF]; go_simp
theorem enters_red (k : Nat) : Enters (redF k) := fun args W => by
  match k with
  | 0 => simp only [redF]; go_simp
  | 1 => simp only [redF]; go_simp
  | 2 => simp only [redF]; go_simp
  | k + 3 => simp only [redF]; go_simp
theorem beg_any (k : Nat) (b : UInt8) (w : World) :
    Calls Tryz.prog (begF k) #[.int .u8 b.toNat] w fun e w' => e = .returned (.bool (begB k b)) ∧ ∃ n, w' = w.drewN n := by
  match k with
  | 0 => exact isSmall_any b w
  | 1 => exact isDigit_any b w
  | 2 => exact quote_any b w
  | k + 3 => exact any_any b w

/-- The form that takes a byte: the first one that says so. -/
def pick (b : UInt8) : Nat := if smallB b then 0 else if digitB b then 1 else if b.toNat = 34 then 2 else 3
theorem pick_le (b : UInt8) : pick b ≤ 3 := by unfold pick; split <;> (try split) <;> (try split) <;> omega
theorem pick_yes (b : UInt8) : begB (pick b) b = true := by
  unfold pick
  split
  · simpa [begB]
  · split
    · simpa [begB]
    · split
      · simpa [begB]
      · rfl
theorem pick_no (b : UInt8) (k : Nat) (h : k < pick b) : begB k b = false := by
  unfold pick at h
  split at h
  · omega
  · split at h
    · obtain rfl : k = 0 := by omega
      simpa [begB] using ‹¬ smallB b = true›
    · split at h
      · rcases (by omega : k = 0 ∨ k = 1) with rfl | rfl
        · simpa [begB] using ‹¬ smallB b = true›
        · simpa [begB] using ‹¬ digitB b = true›
      · rcases (by omega : k = 0 ∨ k = 1 ∨ k = 2) with rfl | rfl | rfl
        · simpa [begB] using ‹¬ smallB b = true›
        · simpa [begB] using ‹¬ digitB b = true›
        · simpa [begB] using ‹¬ b.toNat = 34›
theorem red_any (g : Nat) (s : ByteArray) (i : Nat) (w : World) (hb : Rdr w g s i) (hi : i < s.size) (hs : s.size ≤ 140737488351232) (hG : Gl w) :
    Calls Tryz.prog (redF (pick s[i])) #[.pointer (some ⟨g, 0, none⟩)] w (ReadPost w g s (tokL (sl s i))) := by
  have e := sl_cons s i hi
  have h := pick_yes s[i]
  unfold tokL
  rw [e]
  simp only
  by_cases h1 : smallB s[i] = true
  · rw [if_pos h1, show pick s[i] = 0 from by simp [pick, h1], ← e]
    exact name_any g s i w hb (Nat.le_of_lt hi) hs hG
  · rw [if_neg h1]
    by_cases h2 : digitB s[i] = true
    · rw [if_pos h2, show pick s[i] = 1 from by simp [pick, h1, h2], ← e]
      exact number_any g s i w hb hi h2 hs
    · rw [if_neg h2]
      by_cases h3 : s[i].toNat = 34
      · rw [if_pos h3, show pick s[i] = 2 from by simp [pick, h1, h2, h3]]
        exact text_any g s i w hb hi hs
      · rw [if_neg h3, show pick s[i] = 3 from by simp [pick, h1, h2, h3], ← e]
        exact sign_any g s i w hb hi hs hG

/-! ### the deferred closure -/
theorem catch_idle (args : Array Value) (ha : args.size = 3) (w : World) :
    CallsD Tryz.prog 26 args .returning w fun e u' w' => e = .returned (.tuple #[]) ∧ u' = .returning ∧ w' = w := by
  obtain ⟨l⟩ := args
  match l, ha with
  | [x, y, z], _ =>
    refine callsD_of_wpS Tryz.func26 rfl fun c₀ cs hu => ?_
    apply wpS_seq
    apply wpS_region
    simp [wpOpsS, go_sem, recoverD, hu, Tryz.ntmps26, Exit.thenS]
    apply wpS_seq
    apply wpS_region
    simp [wpOpsS, go_sem, recoverD, hu, Exit.thenS]
    refine wpS_cond (t := false) (by simp [Act.eval, Array.replicate]) ?_
    simp only [Bool.false_eq_true, if_false]
    refine wpS_of_wp (wp_skip ?_)
    cases c₀
    simp_all [bodyPostS, results]

theorem catch_panicking (w : World) (b : Nat) (at_ n : Int) (v : Value) (p0 p1 : Value) (older : List PanicEntry)
    (hl : w.heap[b]? = some (.cells #[v] 23 (0, 0))) (hp : w.heap[b + 1]? = some (.cells #[p0, p1] 26 (0, 0))) (ha : w.heap[b + 1 + 1 + 1]? = some (.cells #[.int .i64 at_] 3 (0, 0))) :
    CallsD Tryz.prog 26 #[.pointer (some ⟨b + 1 + 1 + 1, 0, none⟩), .pointer (some ⟨b, 0, none⟩), .pointer (some ⟨b + 1, 0, none⟩)]
      (.panicking ({ v := .iface 24 (.int .i64 n), recovered := false } :: older)) w fun e u' w' =>
      e = .returned (.tuple #[]) ∧ u' = .panicking ({ v := .iface 24 (.int .i64 n), recovered := true } :: older) ∧
        w' = ((w.setCell ⟨b, 0, none⟩ (.slice none 0 0)).setCell ⟨b + 1, 0, none⟩ (.int .i64 at_)).setCell ⟨b + 1, 1, none⟩ (.int .i64 n) := by
  have c0 : w.cell? ⟨b, 0, none⟩ = some v := blk_cell hl 0
  have f0 := blk_frozen hl 0
  have c1 : w.cell? ⟨b + 1, 0, none⟩ = some p0 := blk_cell hp 0
  have c2 : w.cell? ⟨b + 1, 1, none⟩ = some p1 := blk_cell hp 1
  have f1 := blk_frozen hp 0
  have f2 := blk_frozen hp 1
  have c3 : w.cell? ⟨b + 1 + 1 + 1, 0, none⟩ = some (.int .i64 at_) := blk_cell ha 0
  have hta : ∀ W : World, (Instr.typeAssert (.iface 24 (.int .i64 n)) 20 24 true).run Tryz.prog W = .ok (.tuple #[.int .i64 n, .bool true]) W := fun W => by kernel_rfl
  refine callsD_of_wpS Tryz.func26 rfl fun c₀ cs hu => ?_
  simp only [Tryz.ntmps26, List.size_toArray, List.length_cons, List.length_nil, Nat.reduceAdd, Nat.reduceSub, Array.replicate_succ,
     Array.replicate_zero, List.push_toArray, List.append_toArray, List.nil_append, List.cons_append]
  apply wpS_seq
  apply wpS_region
  simp [wpOpsS, go_sem, recoverD, hu, Exit.thenS]
  refine wpS_of_wp ?_
  go_wp2
  exact ⟨rfl, _, rfl, _, results_none rfl _ _ _, rfl, rfl, rfl⟩
end Go.Proofs.YtafomaiaobfkfaaGreatDoor.Lx
