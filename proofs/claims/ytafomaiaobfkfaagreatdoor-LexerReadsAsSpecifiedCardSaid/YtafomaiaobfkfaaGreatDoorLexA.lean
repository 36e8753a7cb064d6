/-
  Worlds, blocks and cuts of strings, for the walks of the lexer: lemmas that name no function of the program. Conditions: none.
-/
import Derived.Test.YtafomaiaobfkfaaGreatDoorProg
import Derived.Test.YtafomaiaobfkfaaGreatDoorLexM
import Derived.Test.YtafomaiaobfkfaaGreatDoorWWords
import Derived.WalkKit
import Derived.WalkSpells
import Derived.WalkLawsBesides
import Derived.Deep.QuietTactic
import Derived.BigQuiet
import Derived.Deep.Draws
import Derived.Deep.LoopGhost
import Derived.Deep.DeepCutAuto
import Derived.Deep.CutBlock
import Derived.Lib.Hide
import Derived.Lib.Space
import Derived.Lib.LaidTab
import Derived.Lib.Strings
import Derived.Below
namespace Go.Proofs.YtafomaiaobfkfaaGreatDoor.Lx
open Go.RowKit Go.Proofs.YtafomaiaobfkfaaGreatDoorW.PrintWords
set_option linter.unusedVariables false
set_option linter.unusedSimpArgs false

/-! ### worlds -/
theorem gb_drewN {a w : World} {r : Option Nat} (h : a.grownBy w r) (n : Nat) : a.grownBy (w.drewN n) r := ⟨h.os, h.tape, h.output, h.size, h.block⟩
theorem gb_alloc {a w : World} {r : Option Nat} (h : a.grownBy w r) (o : Obj) : a.grownBy (w.alloc o) r :=
  ⟨h.os, h.tape, h.output, Nat.le_trans h.size (by simp), fun i hi hne => (Below.heap_alloc w o i (Nat.lt_of_lt_of_le hi h.size)).trans (h.block i hi hne)⟩
theorem gb_set {a w : World} {r : Option Nat} (h : a.grownBy w r) {p : Addr} (hp : some p.block = r ∨ a.heap.size ≤ p.block) (u : Value) : a.grownBy (w.setCell p u) r :=
  ⟨h.os, h.tape, h.output, by simpa [World.setCell] using h.size, fun i hi hne => (Below.heap_setCell w p u i (by
    rintro rfl
    rcases hp with hp | hp
    · exact hne hp
    · omega)).trans (h.block i hi hne)⟩
theorem gb_below {a w : World} (h : Below a.heap.size a w) (r : Option Nat) : a.grownBy w r := ⟨h.os, h.tape, h.output, h.size, fun i hi _ => h.block i hi⟩
theorem gb_trans {a b c : World} {r q : Option Nat} (h : a.grownBy b r) (k : b.grownBy c q) (hq : q = r ∨ ∀ x, q = some x → a.heap.size ≤ x) : a.grownBy c r :=
  ⟨k.os.trans h.os, k.tape.trans h.tape, k.output.trans h.output, Nat.le_trans h.size k.size, fun i hi hne => by
    refine (k.block i (Nat.lt_of_lt_of_le hi h.size) ?_).trans (h.block i hi hne)
    rcases hq with rfl | hq
    · exact hne
    · intro e
      have := hq i e.symm
      omega⟩
theorem gb_then {a b c : World} {r : Option Nat} (h : a.grownBy b r) (k : Below b.heap.size b c) : a.grownBy c r := gb_trans h (gb_below k r) (.inl rfl)
theorem below_of_gb {a w : World} {r : Option Nat} (h : a.grownBy w r) (hr : ∀ x, r = some x → a.heap.size ≤ x) : Below a.heap.size a w :=
  ⟨h.os, h.tape, h.output, h.size, fun i hi => h.block i hi (fun e => by have := hr i e.symm; omega)⟩
theorem gb_cell {a w : World} {r : Option Nat} (h : a.grownBy w r) {p : Addr} {v : Value} (hc : a.cell? p = some v) (hne : some p.block ≠ r) : w.cell? p = some v :=
  (World.cell?_of_block (h.block p.block (World.block_lt_of_cell? a p hc) hne)).trans hc

/-! ### the package-level variables that are read -/
theorem gSpace : Tryz.prog.globalNamed "strings.asciiSpace" = some 0 := by kernel_rfl
/-- What each call needs of the world: the table strings.asciiSpace holds what its initialiser lays. -/
def Gl (w : World) : Prop := Lib.TabIs Tryz.prog w "strings.asciiSpace" .u8 Lib.asciiSpaceTab
theorem gl_iff (w : World) : Gl w ↔ ∃ t fr, w.heap[0]? = some (.cells (Lib.asciiSpaceTab.map fun z => Value.int .u8 z).toArray t fr) := by
  unfold Gl Lib.TabIs World.var?
  rw [gSpace]
  simp only [Option.bind_some]
  constructor
  · intro h
    split at h
    · rename_i cs t fr hh
      injection h with h
      exact ⟨t, fr, by rw [hh, h]⟩
    · cases h
  · rintro ⟨t, fr, h⟩
    rw [h]
theorem Gl.grown {w w' : World} {r : Option Nat} (h : Gl w) (hg : w.grownBy w' r) (hr : ∀ g, r = some g → g ≠ 0) : Gl w' := by
  rw [gl_iff] at h ⊢
  obtain ⟨t, fr, h⟩ := h
  exact ⟨t, fr, (hg.block _ (blk_lt h) (fun e => hr _ e.symm rfl)).trans h⟩
theorem Gl.below {w w' : World} (h : Gl w) (hb : Below w.heap.size w w') : Gl w' := h.grown (gb_below hb none) (by simp)
theorem Gl.ne_blk {w : World} (h : Gl w) {g : Nat} {t : TypeId} {cs : Array Value} {fr : Nat × Nat} (hb : w.heap[g]? = some (.cells cs t fr)) (hs : cs.size ≠ 256) : g ≠ 0 := by
  rintro rfl
  rw [gl_iff] at h
  obtain ⟨t', fr', h⟩ := h
  rw [h] at hb
  injection hb with hb
  injection hb with hb _ _
  subst hb
  simp [Lib.asciiSpaceTab_length] at hs

/-! ### cuts of strings -/
/-- What stands from an offset on. -/
def sl (s : ByteArray) (i : Nat) : L := s.data.toList.drop i
theorem sl_len (s : ByteArray) (i : Nat) : (sl s i).length = s.size - i := by simp [sl]
theorem sl_nil (s : ByteArray) (i : Nat) (h : s.size ≤ i) : sl s i = [] := List.drop_eq_nil_of_le (by simpa using h)
theorem sl_cons (s : ByteArray) (i : Nat) (h : i < s.size) : sl s i = s[i] :: sl s (i + 1) := by
  unfold sl
  rw [List.drop_eq_getElem_cons (by simpa using h)]
  rfl
theorem sl_drop (s : ByteArray) (i k : Nat) : (sl s i).drop k = sl s (i + k) := by simp [sl, List.drop_drop]
theorem sl_full (s : ByteArray) : sl s 0 = s.data.toList := rfl
theorem sl_inj {s : ByteArray} {i j : Nat} (h : sl s i = sl s j) (hi : i ≤ s.size) (hj : j ≤ s.size) : i = j := by
  have := congrArg List.length h
  rw [sl_len, sl_len] at this
  omega

/-- j: how far one comes from i on while the bytes are of a kind. -/
def Whl (p : UInt8 → Bool) (s : ByteArray) (i j : Nat) : Prop :=
  i ≤ j ∧ j ≤ s.size ∧ (∀ (k : Nat) (h : k < s.size), i ≤ k → k < j → p s[k] = true) ∧ (∀ h : j < s.size, p s[j] = false)

theorem whl_ex (p : UInt8 → Bool) (s : ByteArray) (n : Nat) : ∀ i, s.size - i = n → i ≤ s.size → Whl p s i (i + ((sl s i).takeWhile p).length) ∧
    (sl s i).takeWhile p = (s.extract i (i + ((sl s i).takeWhile p).length)).data.toList ∧ (sl s i).dropWhile p = sl s (i + ((sl s i).takeWhile p).length) := by
  induction n with
  | zero =>
    intro i h1 h2
    rw [sl_nil s i (by omega)]
    refine ⟨⟨by simp, by simpa using h2, fun k h a b => by simp at b; omega, fun h => by simp at h; omega⟩, ?_, ?_⟩
    · simp
    · simp [sl_nil s i (by omega)]
  | succ n ih =>
    intro i h1 h2
    have hlt : i < s.size := by omega
    rw [sl_cons s i hlt]
    by_cases hp : p s[i] = true
    · obtain ⟨⟨a, b, c, d⟩, e, f⟩ := ih (i + 1) (by omega) (by omega)
      have hlen : i + ((s[i] :: sl s (i + 1)).takeWhile p).length = i + 1 + ((sl s (i + 1)).takeWhile p).length := by simp [List.takeWhile_cons, hp]; omega
      obtain ⟨m, hm⟩ : ∃ m, m = ((sl s (i + 1)).takeWhile p).length := ⟨_, rfl⟩
      rw [hlen]
      rw [← hm] at a b c d e f ⊢
      refine ⟨⟨by omega, b, fun k h x y => ?_, d⟩, ?_, ?_⟩
      · by_cases hk : k = i
        · subst hk; exact hp
        · exact c k h (by omega) y
      · rw [List.takeWhile_cons, if_pos hp, e, Lib.extract_data, Lib.extract_data]
        have := sl_cons s i hlt
        unfold sl at this
        rw [this, show i + 1 + m - i = m + 1 from by omega, List.take_succ_cons, show i + 1 + m - (i + 1) = m from by omega]
      · rw [List.dropWhile_cons, if_pos hp, f]
    · have hp' : p s[i] = false := by simpa using hp
      have hlen : ((s[i] :: sl s (i + 1)).takeWhile p).length = 0 := by simp [List.takeWhile_cons, hp']
      rw [hlen, Nat.add_zero]
      refine ⟨⟨Nat.le_refl _, by omega, fun k h x y => by omega, fun _ => hp'⟩, ?_, ?_⟩
      · simp [List.takeWhile_cons, hp']
      · rw [List.dropWhile_cons, if_neg (by simp [hp']), sl_cons s i hlt]

theorem mk_data (s : ByteArray) : (⟨s.data.toList.toArray⟩ : ByteArray) = s := by cases s; simp

end Go.Proofs.YtafomaiaobfkfaaGreatDoor.Lx
