/- Functions of the program as plain Lean, and their contracts: printed by a program of this session (wip/patch_printer.py). Conditions: each theorem's own. -/
import Derived.Test.YtafomaiaobfkfaaGreatDoorProg
import Derived.Test.YtafomaiaobfkfaaGreatDoorWWords
import Derived.WalkKit
import Derived.WalkSpells
import Derived.WalkLawsBesides
import Derived.Deep.QuietTactic
import Derived.BigQuiet
import Derived.Deep.Draws
import Derived.Deep.LoopGhost
import Derived.Deep.DeepCutAuto
import Derived.Deep.CutBlock
import Derived.Lib.Hide
import Derived.Lib.Space
import Derived.Lib.LaidTab
import Derived.Lib.Strings
import Derived.Below
import Derived.Test.YtafomaiaobfkfaaGreatDoorShelf
namespace Go.Proofs.YtafomaiaobfkfaaGreatDoor.Lx
set_option linter.unusedVariables false
set_option linter.unusedSimpArgs false

abbrev L := List UInt8

def smallB (b : UInt8) : Bool := decide (97 ≤ b.toNat) && decide (b.toNat ≤ 122)
def digitB (b : UInt8) : Bool := decide (48 ≤ b.toNat) && decide (b.toNat ≤ 57)
def capB (b : UInt8) : Bool := decide (65 ≤ b.toNat) && decide (b.toNat ≤ 90)
def restB (b : UInt8) : Bool := smallB b || digitB b || decide (b.toNat = 95)
def spB (b : UInt8) : Bool := decide (b.toNat = 32) || decide (b.toNat = 9) || decide (b.toNat = 10) || decide (b.toNat = 13)
def letB (b : UInt8) : Bool := restB b || capB b

def words : List L := [[97, 108, 108], [97, 110, 100], [104, 97, 115], [105, 110], [110, 111, 116], [111, 114]]
def longs : List L := [[61, 61], [33, 61], [60, 61], [62, 61], [46, 46]]
def shorts : L := [123, 125, 40, 41, 91, 93, 44, 59, 58, 61, 60, 62, 43, 45, 42, 47, 37]

/-- What is left behind space and comments; the Bool: inside a comment. -/
def skipB : Bool → L → L
  | _, [] => []
  | false, b :: r => if spB b then skipB false r else if b.toNat = 35 then skipB true r else b :: r
  | true, b :: r => if b.toNat = 10 then skipB false r else skipB true r

/-- What the reading of one token comes to: an error, or its kind, its text and what is left. -/
inductive Res where
  | bad (e : Int)
  | got (k : Int) (t rest : L)
  deriving Inhabited

def nameL (l : L) : Res :=
  if l.takeWhile restB ∈ words then .got 2 (l.takeWhile restB) (l.dropWhile restB)
  else if 40 < (l.takeWhile restB).length then .bad 2
  else .got 1 (l.takeWhile restB) (l.dropWhile restB)

def headIs (p : UInt8 → Bool) : L → Bool
  | [] => false
  | c :: _ => p c

def numberL (l : L) : Res :=
  if 18 < (l.takeWhile digitB).length ∨ (l.head? = some 48 ∧ 1 < (l.takeWhile digitB).length) ∨ headIs letB (l.dropWhile digitB) = true then .bad 141
  else .got 3 (l.takeWhile digitB) (l.dropWhile digitB)

/-- A text, behind its first quote; what has been read of it stands ahead. -/
def textL : L → L → Res
  | _, [] => .bad 142
  | acc, b :: r =>
    if b.toNat = 34 then (if 200 < acc.length then .bad 142 else .got 4 acc r)
    else if b.toNat = 92 then
      match r with
      | [] => .bad 142
      | c :: r' => if c.toNat = 34 ∨ c.toNat = 92 then textL (acc ++ [c]) r' else .bad 142
    else if b.toNat < 32 ∨ 126 < b.toNat then .bad 142
    else textL (acc ++ [b]) r

def signL : L → Res
  | [] => .bad 140
  | [b] => if b ∈ shorts then .got 5 [b] [] else .bad 140
  | b :: c :: r => if [b, c] ∈ longs then .got 5 [b, c] r else if b ∈ shorts then .got 5 [b] (c :: r) else .bad 140

def tokL : L → Res
  | [] => .bad 140
  | b :: r =>
    if smallB b then nameL (b :: r)
    else if digitB b then numberL (b :: r)
    else if b.toNat = 34 then textL [] r
    else signL (b :: r)

structure Tok where
  k : Int
  off : Nat
  s : L
  deriving DecidableEq, Inhabited

/-- The tokens of a source, or the first problem: its offset and its error. -/
inductive Out where
  | bad (off : Nat) (e : Int)
  | ok (ts : List Tok)
  deriving Inhabited

def Out.push (t : Tok) : Out → Out
  | .bad o e => .bad o e
  | .ok ts => .ok (t :: ts)

/-- N: the length of the whole source; the first number bounds the rounds. -/
def toksF (N : Nat) : Nat → L → Out
  | 0, _ => .ok []
  | n + 1, l =>
    match skipB false l with
    | [] => .ok []
    | b :: r =>
      match tokL (b :: r) with
      | .bad e => .bad (N - (b :: r).length) e
      | .got k t rest => (toksF N n rest).push ⟨k, N - (b :: r).length, t⟩

def toks (l : L) : Out := toksF l.length (l.length + 1) l

theorem skipB_le : ∀ (l : L) (c : Bool), (skipB c l).length ≤ l.length
  | [], c => by cases c <;> simp [skipB]
  | b :: r, false => by
    unfold skipB
    have h1 := skipB_le r false
    have h2 := skipB_le r true
    split
    · simp; omega
    · split
      · simp; omega
      · simp
  | b :: r, true => by
    unfold skipB
    have h1 := skipB_le r false
    have h2 := skipB_le r true
    split <;> (simp; omega)

theorem takeDrop_len (p : UInt8 → Bool) (l : L) : (l.takeWhile p).length + (l.dropWhile p).length = l.length := by
  rw [← List.length_append, List.takeWhile_append_dropWhile]

/-- What is left behind a token is shorter. -/
theorem nameL_lt {b : UInt8} {r : L} (hb : restB b = true) {k : Int} {t rest : L} (h : nameL (b :: r) = .got k t rest) : rest.length < (b :: r).length := by
  unfold nameL at h
  have hl := takeDrop_len restB (b :: r)
  have h1 : 1 ≤ ((b :: r).takeWhile restB).length := by simp [List.takeWhile_cons, hb]
  split at h
  · injection h with _ _ h3; subst h3; omega
  · split at h
    · cases h
    · injection h with _ _ h3; subst h3; omega

theorem numberL_lt {b : UInt8} {r : L} (hb : digitB b = true) {k : Int} {t rest : L} (h : numberL (b :: r) = .got k t rest) : rest.length < (b :: r).length := by
  unfold numberL at h
  have hl := takeDrop_len digitB (b :: r)
  have h1 : 1 ≤ ((b :: r).takeWhile digitB).length := by simp [List.takeWhile_cons, hb]
  split at h
  · cases h
  · injection h with _ _ h3; subst h3; omega

theorem textL_le : ∀ (n : Nat) (acc l : L), l.length ≤ n → ∀ (k : Int) (t rest : L), textL acc l = .got k t rest → rest.length < l.length
  | 0, acc, l, hn => by
    intro k t rest h
    have : l = [] := List.eq_nil_of_length_eq_zero (by omega)
    subst this
    simp [textL] at h
  | n + 1, acc, [], hn => by
    intro k t rest h
    simp [textL] at h
  | n + 1, acc, b :: r, hn => by
    intro k t rest h
    simp at hn
    unfold textL at h
    split at h
    · split at h
      · cases h
      · injection h with _ _ h3; subst h3; simp
    · split at h
      · split at h
        · cases h
        · rename_i c r'
          simp at hn
          split at h
          · have := textL_le n _ r' (by omega) _ _ _ h
            simp; omega
          · cases h
      · split at h
        · cases h
        · have := textL_le n _ r (by omega) _ _ _ h
          simp; omega

theorem signL_lt {l : L} {k : Int} {t rest : L} (h : signL l = .got k t rest) : rest.length < l.length := by
  match l, h with
  | [], h => simp [signL] at h
  | [b], h =>
    simp only [signL] at h
    split at h
    · injection h with _ _ h3; subst h3; simp
    · cases h
  | b :: c :: r, h =>
    simp only [signL] at h
    split at h
    · injection h with _ _ h3; subst h3; simp; omega
    · split at h
      · injection h with _ _ h3; subst h3; simp
      · cases h

theorem tokL_lt {l : L} {k : Int} {t rest : L} (h : tokL l = .got k t rest) : rest.length < l.length := by
  match l, h with
  | [], h => simp [tokL] at h
  | b :: r, h =>
    simp only [tokL] at h
    split at h
    · exact nameL_lt (by simp [restB, *]) h
    · split at h
      · exact numberL_lt (by assumption) h
      · split at h
        · have := textL_le _ _ r (Nat.le_refl _) _ _ _ h; simp; omega
        · exact signL_lt h

end Go.Proofs.YtafomaiaobfkfaaGreatDoor.Lx
namespace Go.Proofs.YtafomaiaobfkfaaGreatDoor.Lx
open Go.RowKit Go.Proofs.YtafomaiaobfkfaaGreatDoorW.PrintWords
set_option linter.unusedVariables false
set_option linter.unusedSimpArgs false

/-! ### worlds -/
theorem gb_drewN {a w : World} {r : Option Nat} (h : a.grownBy w r) (n : Nat) : a.grownBy (w.drewN n) r := ⟨h.os, h.tape, h.output, h.size, h.block⟩
theorem gb_alloc {a w : World} {r : Option Nat} (h : a.grownBy w r) (o : Obj) : a.grownBy (w.alloc o) r :=
  ⟨h.os, h.tape, h.output, Nat.le_trans h.size (by simp), fun i hi hne => (Below.heap_alloc w o i (Nat.lt_of_lt_of_le hi h.size)).trans (h.block i hi hne)⟩
theorem gb_set {a w : World} {r : Option Nat} (h : a.grownBy w r) {p : Addr} (hp : some p.block = r ∨ a.heap.size ≤ p.block) (u : Value) : a.grownBy (w.setCell p u) r :=
  ⟨h.os, h.tape, h.output, by simpa [World.setCell] using h.size, fun i hi hne => (Below.heap_setCell w p u i (by
    rintro rfl
    rcases hp with hp | hp
    · exact hne hp
    · omega)).trans (h.block i hi hne)⟩
theorem gb_below {a w : World} (h : Below a.heap.size a w) (r : Option Nat) : a.grownBy w r := ⟨h.os, h.tape, h.output, h.size, fun i hi _ => h.block i hi⟩
theorem gb_trans {a b c : World} {r q : Option Nat} (h : a.grownBy b r) (k : b.grownBy c q) (hq : q = r ∨ ∀ x, q = some x → a.heap.size ≤ x) : a.grownBy c r :=
  ⟨k.os.trans h.os, k.tape.trans h.tape, k.output.trans h.output, Nat.le_trans h.size k.size, fun i hi hne => by
    refine (k.block i (Nat.lt_of_lt_of_le hi h.size) ?_).trans (h.block i hi hne)
    rcases hq with rfl | hq
    · exact hne
    · intro e
      have := hq i e.symm
      omega⟩
theorem gb_then {a b c : World} {r : Option Nat} (h : a.grownBy b r) (k : Below b.heap.size b c) : a.grownBy c r := gb_trans h (gb_below k r) (.inl rfl)
theorem below_of_gb {a w : World} {r : Option Nat} (h : a.grownBy w r) (hr : ∀ x, r = some x → a.heap.size ≤ x) : Below a.heap.size a w :=
  ⟨h.os, h.tape, h.output, h.size, fun i hi => h.block i hi (fun e => by have := hr i e.symm; omega)⟩
theorem gb_cell {a w : World} {r : Option Nat} (h : a.grownBy w r) {p : Addr} {v : Value} (hc : a.cell? p = some v) (hne : some p.block ≠ r) : w.cell? p = some v :=
  (World.cell?_of_block (h.block p.block (World.block_lt_of_cell? a p hc) hne)).trans hc

/-! ### the package-level variables that are read -/
theorem gSpace : Tryz.prog.globalNamed "strings.asciiSpace" = some 0 := by kernel_rfl
/-- What each call needs of the world: the table strings.asciiSpace holds what its initialiser lays. -/
def Gl (w : World) : Prop := Lib.TabIs Tryz.prog w "strings.asciiSpace" .u8 Lib.asciiSpaceTab
theorem gl_iff (w : World) : Gl w ↔ ∃ t fr, w.heap[0]? = some (.cells (Lib.asciiSpaceTab.map fun z => Value.int .u8 z).toArray t fr) := by
  unfold Gl Lib.TabIs World.var?
  rw [gSpace]
  simp only [Option.bind_some]
  constructor
  · intro h
    split at h
    · rename_i cs t fr hh
      injection h with h
      exact ⟨t, fr, by rw [hh, h]⟩
    · cases h
  · rintro ⟨t, fr, h⟩
    rw [h]
theorem Gl.grown {w w' : World} {r : Option Nat} (h : Gl w) (hg : w.grownBy w' r) (hr : ∀ g, r = some g → g ≠ 0) : Gl w' := by
  rw [gl_iff] at h ⊢
  obtain ⟨t, fr, h⟩ := h
  exact ⟨t, fr, (hg.block _ (blk_lt h) (fun e => hr _ e.symm rfl)).trans h⟩
theorem Gl.below {w w' : World} (h : Gl w) (hb : Below w.heap.size w w') : Gl w' := h.grown (gb_below hb none) (by simp)
theorem Gl.ne_blk {w : World} (h : Gl w) {g : Nat} {t : TypeId} {cs : Array Value} {fr : Nat × Nat} (hb : w.heap[g]? = some (.cells cs t fr)) (hs : cs.size ≠ 256) : g ≠ 0 := by
  rintro rfl
  rw [gl_iff] at h
  obtain ⟨t', fr', h⟩ := h
  rw [h] at hb
  injection hb with hb
  injection hb with hb _ _
  subst hb
  simp [Lib.asciiSpaceTab_length] at hs

/-! ### cuts of strings -/
/-- What stands from an offset on. -/
def sl (s : ByteArray) (i : Nat) : L := s.data.toList.drop i
theorem sl_len (s : ByteArray) (i : Nat) : (sl s i).length = s.size - i := by simp [sl]
theorem sl_nil (s : ByteArray) (i : Nat) (h : s.size ≤ i) : sl s i = [] := List.drop_eq_nil_of_le (by simpa using h)
theorem sl_cons (s : ByteArray) (i : Nat) (h : i < s.size) : sl s i = s[i] :: sl s (i + 1) := by
  unfold sl
  rw [List.drop_eq_getElem_cons (by simpa using h)]
  rfl
theorem sl_drop (s : ByteArray) (i k : Nat) : (sl s i).drop k = sl s (i + k) := by simp [sl, List.drop_drop]
theorem sl_full (s : ByteArray) : sl s 0 = s.data.toList := rfl
theorem sl_inj {s : ByteArray} {i j : Nat} (h : sl s i = sl s j) (hi : i ≤ s.size) (hj : j ≤ s.size) : i = j := by
  have := congrArg List.length h
  rw [sl_len, sl_len] at this
  omega

/-- j: how far one comes from i on while the bytes are of a kind. -/
def Whl (p : UInt8 → Bool) (s : ByteArray) (i j : Nat) : Prop :=
  i ≤ j ∧ j ≤ s.size ∧ (∀ (k : Nat) (h : k < s.size), i ≤ k → k < j → p s[k] = true) ∧ (∀ h : j < s.size, p s[j] = false)

theorem whl_ex (p : UInt8 → Bool) (s : ByteArray) (n : Nat) : ∀ i, s.size - i = n → i ≤ s.size → Whl p s i (i + ((sl s i).takeWhile p).length) ∧
    (sl s i).takeWhile p = (s.extract i (i + ((sl s i).takeWhile p).length)).data.toList ∧ (sl s i).dropWhile p = sl s (i + ((sl s i).takeWhile p).length) := by
  induction n with
  | zero =>
    intro i h1 h2
    rw [sl_nil s i (by omega)]
    refine ⟨⟨by simp, by simpa using h2, fun k h a b => by simp at b; omega, fun h => by simp at h; omega⟩, ?_, ?_⟩
    · simp
    · simp [sl_nil s i (by omega)]
  | succ n ih =>
    intro i h1 h2
    have hlt : i < s.size := by omega
    rw [sl_cons s i hlt]
    by_cases hp : p s[i] = true
    · obtain ⟨⟨a, b, c, d⟩, e, f⟩ := ih (i + 1) (by omega) (by omega)
      have hlen : i + ((s[i] :: sl s (i + 1)).takeWhile p).length = i + 1 + ((sl s (i + 1)).takeWhile p).length := by simp [List.takeWhile_cons, hp]; omega
      obtain ⟨m, hm⟩ : ∃ m, m = ((sl s (i + 1)).takeWhile p).length := ⟨_, rfl⟩
      rw [hlen]
      rw [← hm] at a b c d e f ⊢
      refine ⟨⟨by omega, b, fun k h x y => ?_, d⟩, ?_, ?_⟩
      · by_cases hk : k = i
        · subst hk; exact hp
        · exact c k h (by omega) y
      · rw [List.takeWhile_cons, if_pos hp, e, Lib.extract_data, Lib.extract_data]
        have := sl_cons s i hlt
        unfold sl at this
        rw [this, show i + 1 + m - i = m + 1 from by omega, List.take_succ_cons, show i + 1 + m - (i + 1) = m from by omega]
      · rw [List.dropWhile_cons, if_pos hp, f]
    · have hp' : p s[i] = false := by simpa using hp
      have hlen : ((s[i] :: sl s (i + 1)).takeWhile p).length = 0 := by simp [List.takeWhile_cons, hp']
      rw [hlen, Nat.add_zero]
      refine ⟨⟨Nat.le_refl _, by omega, fun k h x y => by omega, fun _ => hp'⟩, ?_, ?_⟩
      · simp [List.takeWhile_cons, hp']
      · rw [List.dropWhile_cons, if_neg (by simp [hp']), sl_cons s i hlt]

theorem mk_data (s : ByteArray) : (⟨s.data.toList.toArray⟩ : ByteArray) = s := by cases s; simp

end Go.Proofs.YtafomaiaobfkfaaGreatDoor.Lx
namespace Go.Proofs.YtafomaiaobfkfaaGreatDoor.Lx
open Go.RowKit Go.Proofs.YtafomaiaobfkfaaGreatDoorW.PrintWords
set_option linter.unusedVariables false
set_option linter.unusedSimpArgs false

theorem ret_b {a b : Bool} (h : a = b) : Ending.returned (.bool a) = .returned (.bool b) := by rw [h]

/-! ### what a byte is -/
theorem isSmall_any (b : UInt8) (w : World) :
    Calls Tryz.prog 41 #[.int .u8 b.toNat] w fun e w' => e = .returned (.bool (smallB b)) ∧ ∃ n, w' = w.drewN n := by
  go_enter Tryz.func41, Tryz.ntmps41
  go_wp2
  all_goals go_ret
  all_goals exact ⟨ret_b (by unfold smallB; rw [Bool.eq_iff_iff]; simp only [Bool.and_eq_true, Bool.or_eq_true, decide_eq_true_eq, beq_iff_eq, bne_iff_ne, ne_eq, Bool.false_eq_true, true_iff, iff_true, false_iff, iff_false, eq_self]; omega), 0, rfl⟩

theorem isDigit_any (b : UInt8) (w : World) :
    Calls Tryz.prog 43 #[.int .u8 b.toNat] w fun e w' => e = .returned (.bool (digitB b)) ∧ ∃ n, w' = w.drewN n := by
  go_enter Tryz.func43, Tryz.ntmps43
  go_wp2
  all_goals go_ret
  all_goals exact ⟨ret_b (by unfold digitB; rw [Bool.eq_iff_iff]; simp only [Bool.and_eq_true, Bool.or_eq_true, decide_eq_true_eq, beq_iff_eq, bne_iff_ne, ne_eq, Bool.false_eq_true, true_iff, iff_true, false_iff, iff_false, eq_self]; omega), 0, rfl⟩

theorem isRest_any (b : UInt8) (w : World) :
    Calls Tryz.prog 72 #[.int .u8 b.toNat] w fun e w' => e = .returned (.bool (restB b)) ∧ ∃ n, w' = w.drewN n := by
  cases hs : smallB b
  · cases hd : digitB b
    · go_enter Tryz.func72, Tryz.ntmps72
      go_wp2_with (first | (go_at_call 41; refine (isSmall_any _ _).mono ?_; rintro e w' ⟨rfl, n1, rfl⟩; rw [hs]) | (go_at_call 43; refine (isDigit_any _ _).mono ?_; rintro e w' ⟨rfl, n2, rfl⟩; rw [hd]))
      go_ret
      exact ⟨ret_b (by rw [Bool.eq_iff_iff]; simp only [restB, hs, hd, Bool.and_eq_true, Bool.or_eq_true, decide_eq_true_eq, beq_iff_eq, bne_iff_ne, ne_eq, Bool.false_eq_true, true_iff, iff_true, false_iff, iff_false, eq_self, false_or, true_or, or_true]; omega), _, rfl⟩
    · go_enter Tryz.func72, Tryz.ntmps72
      go_wp2_with (first | (go_at_call 41; refine (isSmall_any _ _).mono ?_; rintro e w' ⟨rfl, n1, rfl⟩; rw [hs]) | (go_at_call 43; refine (isDigit_any _ _).mono ?_; rintro e w' ⟨rfl, n2, rfl⟩; rw [hd]))
      go_ret
      exact ⟨ret_b (by simp [restB, hs, hd]), _, rfl⟩
  · go_enter Tryz.func72, Tryz.ntmps72
    go_wp2_with (go_at_call 41; refine (isSmall_any _ _).mono ?_; rintro e w' ⟨rfl, n1, rfl⟩; rw [hs])
    go_ret
    exact ⟨ret_b (by simp [restB, hs]), _, rfl⟩

theorem quote_any (b : UInt8) (w : World) :
    Calls Tryz.prog 45 #[.int .u8 b.toNat] w fun e w' => e = .returned (.bool (decide (b.toNat = 34))) ∧ ∃ n, w' = w.drewN n := by
  go_enter Tryz.func45, Tryz.ntmps45
  go_wp2
  all_goals go_ret
  all_goals exact ⟨ret_b (by rw [Bool.eq_iff_iff]; simp only [Bool.and_eq_true, Bool.or_eq_true, decide_eq_true_eq, beq_iff_eq, bne_iff_ne, ne_eq, Bool.false_eq_true, true_iff, iff_true, false_iff, iff_false, eq_self]; omega), 0, rfl⟩

theorem any_any (b : UInt8) (w : World) :
    Calls Tryz.prog 47 #[.int .u8 b.toNat] w fun e w' => e = .returned (.bool true) ∧ ∃ n, w' = w.drewN n := by
  go_enter Tryz.func47, Tryz.ntmps47
  go_wp2
  all_goals go_ret
  all_goals exact ⟨rfl, 0, rfl⟩

theorem blank_any (b : UInt8) (w : World) :
    Calls Tryz.prog 50 #[.int .u8 b.toNat] w fun e w' => e = .returned (.bool (spB b)) ∧ ∃ n, w' = w.drewN n := by
  go_enter Tryz.func50, Tryz.ntmps50
  go_wp2
  all_goals go_ret
  all_goals exact ⟨ret_b (by unfold spB; rw [Bool.eq_iff_iff]; simp only [Bool.and_eq_true, Bool.or_eq_true, decide_eq_true_eq, beq_iff_eq, bne_iff_ne, ne_eq, Bool.false_eq_true, true_iff, iff_true, false_iff, iff_false, eq_self]; omega), 0, rfl⟩

theorem notLine_any (b : UInt8) (w : World) :
    Calls Tryz.prog 51 #[.int .u8 b.toNat] w fun e w' => e = .returned (.bool (decide (b.toNat ≠ 10))) ∧ ∃ n, w' = w.drewN n := by
  go_enter Tryz.func51, Tryz.ntmps51
  go_wp2
  all_goals go_ret
  all_goals exact ⟨ret_b (by rw [Bool.eq_iff_iff]; simp only [Bool.and_eq_true, Bool.or_eq_true, decide_eq_true_eq, beq_iff_eq, bne_iff_ne, ne_eq, Bool.false_eq_true, true_iff, iff_true, false_iff, iff_false, eq_self]; omega), 0, rfl⟩

/-! ### fail -/
theorem fail_no (b : Bool) (hb : b = false) (e : Int) (w : World) :
    Calls Tryz.prog 73 #[.bool b, .int .i64 e] w fun x w' => x = .returned (.tuple #[]) ∧ w' = w := by
  subst hb
  go_enter Tryz.func73, Tryz.ntmps73
  go_wp2
  go_end0
  exact ⟨rfl, rfl⟩

theorem fail_yes (b : Bool) (hb : b = true) (e : Int) (w : World) :
    Calls Tryz.prog 73 #[.bool b, .int .i64 e] w fun x w' => x = .panicked [{ v := .iface 24 (.int .i64 e), recovered := false }] ∧ w' = w := by
  subst hb
  go_enter Tryz.func73, Tryz.ntmps73
  go_wp2
  exact ⟨rfl, rfl, rfl⟩

/-! ### Words, Word -/
theorem ascii_of (l : L) (h : ∀ b ∈ l, b.toNat < 128) : ∀ (j : Nat) b, l[j]? = some b → b.toNat < 128 := fun j b hj => h b (List.mem_of_getElem? hj)
theorem words_any (w : World) (hG : Gl w) :
    Calls Tryz.prog 16 #[] w fun e w' => e = .returned (.slice (some ⟨w.heap.size, 0, none⟩) 6 6) ∧ w' = w.alloc (.cells (words.map fun l => Value.string ⟨l.toArray⟩).toArray 9) := by
  go_enter Tryz.func16, Tryz.ntmps16
  go_wp2_with (go_at_call 33; refine (Tryz.strings_Fields _ _ (by decide) (ascii_of _ (by decide)) hG).mono ?_; rintro e w' ⟨rfl, rfl⟩)
  go_ret
  exact ⟨rfl, rfl⟩


theorem words_cell (w : World) (j : Nat) (hj : j < words.length) :
    (w.alloc (.cells (words.map fun l => Value.string ⟨l.toArray⟩).toArray 9)).cell? ⟨w.heap.size, j, none⟩ = some (.string ((words.map fun l => (⟨l.toArray⟩ : ByteArray)).getD j ByteArray.empty)) := by
  have h : (w.alloc (.cells (words.map fun l => Value.string ⟨l.toArray⟩).toArray 9)).heap[w.heap.size]? = some (.cells (words.map fun l => Value.string ⟨l.toArray⟩).toArray 9 (0, 0)) := heap_alloc_new w _
  rw [blk_cell h]
  simp [List.getD, hj]

theorem words_has (s : ByteArray) : Lib.containsS ((words.map fun l => (⟨l.toArray⟩ : ByteArray)).take 6) s = decide (s.data.toList ∈ words) := by
  rw [Bool.eq_iff_iff, Lib.containsS_iff, decide_eq_true_eq]
  simp only [List.take_of_length_le (show (words.map fun l => (⟨l.toArray⟩ : ByteArray)).length ≤ 6 from by decide), List.mem_map]
  constructor
  · rintro ⟨l, hl, rfl⟩
    simpa using hl
  · intro h
    exact ⟨_, h, mk_data s⟩

theorem word_any (s : ByteArray) (w : World) (hG : Gl w) :
    Calls Tryz.prog 18 #[.string s] w fun e w' => e = .returned (.bool (decide (s.data.toList ∈ words))) ∧ Below w.heap.size w w' := by
  go_enter Tryz.func18, Tryz.ntmps18
  go_wp2_with (go_at_call 16; refine (words_any _ hG).mono ?_; rintro e w' ⟨rfl, rfl⟩)
  refine (Tryz.slices_Contains_string w.heap.size 0 6 6 (words.map fun l => (⟨l.toArray⟩ : ByteArray)) s _ (by decide) (by omega) (fun j hj => ?_)).mono ?_
  · rw [show (0 : Nat) + j = j from by omega, words_cell w j (by simpa using hj)]
  rintro e w' ⟨rfl, rfl⟩
  go_wp2
  go_ret
  exact ⟨ret_b (words_has s), (Below.refl _ _).alloc (Nat.le_refl _) _⟩

theorem word_yes (s : ByteArray) (w : World) (hG : Gl w) (h : s.data.toList ∈ words) :
    Calls Tryz.prog 18 #[.string s] w fun e w' => e = .returned (.bool true) ∧ Below w.heap.size w w' :=
  (word_any s w hG).mono fun _ _ ⟨a, b⟩ => ⟨by rw [a, decide_eq_true h], b⟩
theorem word_not (s : ByteArray) (w : World) (hG : Gl w) (h : s.data.toList ∉ words) :
    Calls Tryz.prog 18 #[.string s] w fun e w' => e = .returned (.bool false) ∧ Below w.heap.size w w' :=
  (word_any s w hG).mono fun _ _ ⟨a, b⟩ => ⟨by rw [a, decide_eq_false h], b⟩

/-! ### (*reader).while, (*reader).space -/
/-- The reader at block g: its source and its offset. -/
def Rdr (w : World) (g : Nat) (s : ByteArray) (i : Nat) : Prop := w.heap[g]? = some (.cells #[.string s, .int .i64 i] 63 (0, 0))
theorem Rdr.c0 {w : World} {g : Nat} {s : ByteArray} {i : Nat} (h : Rdr w g s i) : w.cell? ⟨g, 0, none⟩ = some (.string s) := blk_cell h 0
theorem Rdr.c1 {w : World} {g : Nat} {s : ByteArray} {i : Nat} (h : Rdr w g s i) : w.cell? ⟨g, 1, none⟩ = some (.int .i64 i) := blk_cell h 1
theorem Rdr.f1 {w : World} {g : Nat} {s : ByteArray} {i : Nat} (h : Rdr w g s i) : w.frozen? ⟨g, 1, none⟩ = false := blk_frozen h 1
theorem Rdr.set_ {w : World} {g : Nat} {s : ByteArray} {i : Nat} (h : Rdr w g s i) (j : Nat) : Rdr (w.setCell ⟨g, 1, none⟩ (.int .i64 j)) g s j := blk_set h 1 _
theorem Rdr.far {w w' : World} {g : Nat} {s : ByteArray} {i : Nat} (h : Rdr w g s i) (hb : Below w.heap.size w w') : Rdr w' g s i := blk_below h hb
theorem Rdr.lt {w : World} {g : Nat} {s : ByteArray} {i : Nat} (h : Rdr w g s i) : g < w.heap.size := blk_lt h
theorem Rdr.ne_gl {w : World} {g : Nat} {s : ByteArray} {i : Nat} (h : Rdr w g s i) (hG : Gl w) : g ≠ 0 := hG.ne_blk h (by simp)

/-- A function value without captures that enters its function. -/
def Enters (fn : Nat) : Prop := ∀ (args : Array Value) (W : World), (callFunc fn args).run Tryz.prog W = .ok (.enter fn args) W

set_option maxHeartbeats 800000 in
theorem while_any (g fn : Nat) (p : UInt8 → Bool) (s : ByteArray) (i j : Nat) (w : World) (hf : Enters fn)
    (hp : ∀ (b : UInt8) (W : World), Calls Tryz.prog fn #[.int .u8 b.toNat] W fun e w' => e = .returned (.bool (p b)) ∧ ∃ n, w' = W.drewN n)
    (hb : Rdr w g s i) (hj : Whl p s i j) (hs : s.size ≤ 140737488351232) :
    Calls Tryz.prog 49 #[.pointer (some ⟨g, 0, none⟩), .func (.func fn) #[] #[]] w fun e w' =>
      e = .returned (.string (s.extract i j)) ∧ Rdr w' g s j ∧ w.grownBy w' (some g) := by
  obtain ⟨hij, hjs, hy, hn⟩ := hj
  have c0 := hb.c0
  have c1 := hb.c1
  have HY := Lib.hid hy; have HN := Lib.hid hn; have HP := Lib.hid hp
  clear hy hn hp
  unfold Enters at hf
  go_enter Tryz.func49, Tryz.ntmps49
  go_wp2
  go_loopg [] (j - i) (fun gk wr => ∃ m : Nat, i ≤ m ∧ m ≤ j ∧ gk = j - m ∧ Rdr wr g s m ∧ w.grownBy wr (some g))
  case atStart => exact ⟨i, Nat.le_refl _, hij, rfl, hb, World.grownBy.refl w _⟩
  case round =>
    obtain ⟨m, h1, h2, rfl, hr, hg⟩ := hrel
    have d0 := hr.c0
    have d1 := hr.c1
    have f1 := hr.f1
    have hlen : (s.size : Int) ≤ 140737488351232 := by omega
    by_cases hlt : m < s.size
    · have hd : decide ((m : Int) < (s.size : Int)) = true := by simp; omega
      by_cases hmj : m < j
      · go_wp2_with fail
        go_quiet ((exact Calls.quiet_of (HP.out _ _)))
        clear hd
        have hpv : p s[m] = true := HY.out m hlt h1 hmj
        simp only [hpv]
        clear hpv
        go_wp2
        go_roundg (j - (m + 1))
        case rel => exact ⟨m + 1, by omega, by omega, rfl, hr.set_ (m + 1), gb_set (gb_drewN hg _) (.inl rfl) _⟩
        case measure => omega
      · obtain rfl : m = j := by omega
        go_wp2_with fail
        go_quiet ((exact Calls.quiet_of (HP.out _ _)))
        clear hd
        have hpv : p s[m] = false := HN.out hlt
        simp only [hpv]
        clear hpv
        go_wp2
        go_quiet (fail)
        go_wp2
        go_ret
        exact ⟨rfl, hr, gb_drewN (gb_drewN hg _) _⟩
    · have hd : decide ((m : Int) < (s.size : Int)) = false := by simp; omega
      obtain rfl : m = j := by omega
      go_wp2_with fail
      go_quiet (fail)
      go_wp2
      go_quiet (fail)
      go_wp2
      go_ret
      exact ⟨rfl, hr, gb_drewN (gb_drewN hg _) _⟩


/-- Where skipping leads to from an offset. -/
theorem skip_sp (s : ByteArray) (i : Nat) (h : i ≤ s.size) : ∃ j, Whl spB s i j ∧ skipB false (sl s i) = skipB false (sl s j) := by
  obtain ⟨a, _, c⟩ := whl_ex spB s _ i rfl h
  refine ⟨_, a, ?_⟩
  rw [← c]
  generalize sl s i = l
  induction l with
  | nil => rfl
  | cons b r ih =>
    by_cases hb : spB b = true
    · rw [List.dropWhile_cons, if_pos hb, ← ih]
      simp [skipB, hb]
    · rw [List.dropWhile_cons, if_neg hb]
theorem skip_line (s : ByteArray) (i : Nat) (h : i ≤ s.size) : ∃ j, Whl (fun b => decide (b.toNat ≠ 10)) s i j ∧ skipB true (sl s i) = skipB false (sl s j) ∧ (skipB true (sl s i)).length ≤ s.size - j := by
  obtain ⟨a, _, c⟩ := whl_ex (fun b => decide (b.toNat ≠ 10)) s _ i rfl h
  have key : ∀ l : L, skipB true l = skipB false (l.dropWhile fun b => decide (b.toNat ≠ 10)) := by
    intro l
    induction l with
    | nil => rfl
    | cons b r ih =>
      by_cases hb : b.toNat = 10
      · rw [List.dropWhile_cons, if_neg (by simp [hb])]
        simp [skipB, hb, spB]
      · rw [List.dropWhile_cons, if_pos (by simp [hb]), ← ih]
        simp [skipB, hb]
  refine ⟨_, a, by rw [← c]; exact key _, ?_⟩
  rw [key, c, ← sl_len]
  exact skipB_le _ _

end Go.Proofs.YtafomaiaobfkfaaGreatDoor.Lx
namespace Go.Proofs.YtafomaiaobfkfaaGreatDoor.Lx
open Go.RowKit Go.Proofs.YtafomaiaobfkfaaGreatDoorW.PrintWords
set_option linter.unusedVariables false
set_option linter.unusedSimpArgs false

/-! ### what skipping comes to -/
theorem skipB_drop : ∀ (l : L) (c : Bool), ∃ k, k ≤ l.length ∧ skipB c l = l.drop k
  | [], c => ⟨0, by simp, by cases c <;> rfl⟩
  | b :: r, false => by
    obtain ⟨k, hk, h⟩ := skipB_drop r false
    obtain ⟨k', hk', h'⟩ := skipB_drop r true
    unfold skipB
    split
    · exact ⟨k + 1, by simpa using hk, by simpa using h⟩
    · split
      · exact ⟨k' + 1, by simpa using hk', by simpa using h'⟩
      · exact ⟨0, by simp, rfl⟩
  | b :: r, true => by
    obtain ⟨k, hk, h⟩ := skipB_drop r false
    obtain ⟨k', hk', h'⟩ := skipB_drop r true
    unfold skipB
    split
    · exact ⟨k + 1, by simpa using hk, by simpa using h⟩
    · exact ⟨k' + 1, by simpa using hk', by simpa using h'⟩

/-- The offset behind space. -/
def skipAt (s : ByteArray) (i : Nat) : Nat := s.size - (skipB false (sl s i)).length
theorem skipAt_sl (s : ByteArray) (i : Nat) (h : i ≤ s.size) : sl s (skipAt s i) = skipB false (sl s i) ∧ i ≤ skipAt s i ∧ skipAt s i ≤ s.size := by
  obtain ⟨k, hk, e⟩ := skipB_drop (sl s i) false
  rw [sl_len] at hk
  rw [sl_drop] at e
  have : skipAt s i = i + k := by unfold skipAt; rw [e, sl_len]; omega
  rw [this, e]
  exact ⟨rfl, by omega, by omega⟩
theorem skipAt_of (s : ByteArray) (i j : Nat) (h : skipB false (sl s i) = sl s j) (hj : j ≤ s.size) : skipAt s i = j := by
  unfold skipAt
  rw [h, sl_len]
  omega
theorem skip_stop (s : ByteArray) (j : Nat) (hj : j ≤ s.size) (h1 : ∀ h : j < s.size, spB s[j] = false) (h2 : ∀ h : j < s.size, s[j].toNat ≠ 35) : skipB false (sl s j) = sl s j := by
  by_cases h : j < s.size
  · rw [sl_cons s j h]
    simp [skipB, h1 h, h2 h]
  · rw [sl_nil s j (by omega)]
    rfl
theorem skip_hash (s : ByteArray) (i : Nat) (h : i < s.size) (h35 : s[i].toNat = 35) : ∃ j, Whl (fun b => decide (b.toNat ≠ 10)) s i j ∧ i < j ∧ skipB false (sl s i) = skipB false (sl s j) := by
  obtain ⟨j, ⟨a, b, c, d⟩, e, _⟩ := skip_line s (i + 1) (by omega)
  refine ⟨j, ⟨by omega, b, fun k hk x y => ?_, d⟩, by omega, ?_⟩
  · by_cases hki : k = i
    · subst hki; simp [h35]
    · exact c k hk (by omega) y
  · rw [sl_cons s i h, ← e]
    simp [skipB, h35, spB]

theorem enters50 : Enters 50 := fun args W => by go_simp
theorem enters51 : Enters 51 := fun args W => by go_simp

set_option maxHeartbeats 800000 in
theorem space_any (g : Nat) (s : ByteArray) (i : Nat) (w : World) (hb : Rdr w g s i) (hi : i ≤ s.size) (hs : s.size ≤ 140737488351232) :
    Calls Tryz.prog 28 #[.pointer (some ⟨g, 0, none⟩)] w fun e w' =>
      e = .returned (.tuple #[]) ∧ Rdr w' g s (skipAt s i) ∧ w.grownBy w' (some g) := by
  go_enter Tryz.func28, Tryz.ntmps28
  go_wp2_with fail
  go_loopg [] (s.size - i) (fun gk wr => ∃ m : Nat, m ≤ s.size ∧ gk = s.size - m ∧ Hid (skipB false (sl s i) = skipB false (sl s m)) ∧ Rdr wr g s m ∧ w.grownBy wr (some g))
  case atStart => exact ⟨i, hi, rfl, rfl, hb, World.grownBy.refl w _⟩
  case round =>
    obtain ⟨m, h1, rfl, he, hr, hg⟩ := hrel
    obtain ⟨j, hw, hj⟩ := skip_sp s m h1
    have HJ := Lib.hid hj; clear hj
    have hjs := hw.2.1
    have hlen : (s.size : Int) ≤ 140737488351232 := by omega
    go_wp2_with (go_at_call 49; refine (while_any g _ spB s m j _ enters50 blank_any hr hw hs).mono ?_; rintro e w1 ⟨rfl, hr1, hg1⟩; have d0 := hr1.c0; have d1 := hr1.c1)
    by_cases hlt : j < s.size
    · have hd : ((j : Int) == (s.size : Int)) = false := by simp; omega
      go_quiet (fail)
      clear hd
      by_cases h35 : s[j].toNat = 35
      · obtain ⟨j2, hw2, hjj, hj2⟩ := skip_hash s j hlt h35
        have HJ2 := Lib.hid hj2; clear hj2
        have hb1 : (((s[j].toNat : Nat) : Int) != 35) = false := by simp [h35]
        simp only [hb1]
        clear hb1 h35
        have hj2s := hw2.2.1
        have hij := hw.1
        go_wp2_with (go_at_call 49; refine (while_any g _ (fun b => decide (b.toNat ≠ 10)) s j j2 _ enters51 notLine_any (by exact hr1) hw2 hs).mono ?_; rintro e w2 ⟨rfl, hr2, hg2⟩)
        go_roundg (s.size - j2)
        case rel => exact ⟨j2, hj2s, rfl, he.out.trans (HJ.out.trans HJ2.out), hr2, gb_trans (gb_drewN (gb_trans hg hg1 (.inl rfl)) _) hg2 (.inl rfl)⟩
        case measure => omega
      · have hb1 : (((s[j].toNat : Nat) : Int) != 35) = true := by simp; omega
        simp only [hb1]
        clear hb1
        have hfin : skipAt s i = j := skipAt_of s i j (he.out.trans (HJ.out.trans (skip_stop s j hjs hw.2.2.2 (fun _ => h35)))) hjs
        have HF := Lib.hid hfin; clear hfin
        go_wp2
        refine bodyPost_ret (results_none rfl _ _ _) rfl ?_
        rw [HF.out]
        exact ⟨rfl, hr1, gb_drewN (gb_trans hg hg1 (.inl rfl)) _⟩
    · have hd : ((j : Int) == (s.size : Int)) = true := by simp; omega
      have hfin : skipAt s i = j := skipAt_of s i j (he.out.trans (HJ.out.trans (skip_stop s j hjs hw.2.2.2 (fun h => absurd h hlt)))) hjs
      have HF := Lib.hid hfin; clear hfin
      go_quiet (fail)
      go_wp2
      refine bodyPost_ret (results_none rfl _ _ _) rfl ?_
      rw [HF.out]
      exact ⟨rfl, hr1, gb_drewN (gb_trans hg hg1 (.inl rfl)) _⟩

/-! ### (*reader).name -/
/-- What a reader's method comes to: a token and the reader behind it, or a panic with an error. -/
def ReadPost (w : World) (g : Nat) (s : ByteArray) (r : Res) (e : Ending) (w' : World) : Prop :=
  match r with
  | .bad n => e = .panicked [{ v := .iface 24 (.int .i64 n), recovered := false }] ∧ w.grownBy w' (some g)
  | .got k t rest => e = .returned (.agg #[.int .i64 k, .int .i64 0, .string ⟨t.toArray⟩]) ∧ Rdr w' g s (s.size - rest.length) ∧ w.grownBy w' (some g)

theorem enters72 : Enters 72 := fun args W => by go_simp

/-- The cells of a new Lexeme's block. -/
def Lxm (w : World) (b : Nat) (k o : Int) (s : ByteArray) : Prop := w.heap[b]? = some (.cells #[.int .i64 k, .int .i64 o, .string s] 44 (0, 0))
theorem Lxm.cell {w : World} {b : Nat} {k o : Int} {s : ByteArray} (h : Lxm w b k o s) : (w.cell? ⟨b, 0, none⟩ = some (.int .i64 k) ∧ w.cell? ⟨b, 1, none⟩ = some (.int .i64 o) ∧ w.cell? ⟨b, 2, none⟩ = some (.string s)) ∧
    (w.frozen? ⟨b, 0, none⟩ = false ∧ w.frozen? ⟨b, 1, none⟩ = false ∧ w.frozen? ⟨b, 2, none⟩ = false) :=
  ⟨⟨blk_cell h 0, blk_cell h 1, blk_cell h 2⟩, blk_frozen h 0, blk_frozen h 1, blk_frozen h 2⟩
theorem Lxm.new (w : World) : Lxm (w.alloc (.cells #[.int .i64 0, .int .i64 0, .string ⟨#[]⟩] 44)) w.heap.size 0 0 ⟨#[]⟩ := heap_alloc_new w _
theorem Lxm.grown {w w' : World} {b g : Nat} {k o : Int} {s : ByteArray} (h : Lxm w b k o s) (hg : w.grownBy w' (some g)) (hne : b ≠ g) : Lxm w' b k o s := blk_grown h hg (by intro e; injection e with e; exact hne e)
theorem Lxm.far {w w' : World} {b : Nat} {k o : Int} {s : ByteArray} (h : Lxm w b k o s) (hb : Below w.heap.size w w') : Lxm w' b k o s := blk_below h hb
theorem Lxm.lt {w : World} {b : Nat} {k o : Int} {s : ByteArray} (h : Lxm w b k o s) : b < w.heap.size := blk_lt h

theorem Lxm.done {w : World} {b : Nat} {k0 o0 : Int} {s0 : ByteArray} (h : Lxm w b k0 o0 s0) (k o : Int) (s : ByteArray) :
    Lxm (((w.setCell ⟨b, 0, none⟩ (.int .i64 k)).setCell ⟨b, 1, none⟩ (.int .i64 o)).setCell ⟨b, 2, none⟩ (.string s)) b k o s := blk_set (blk_set (blk_set h 0 _) 1 _) 2 _
theorem Rdr.setFar {w : World} {g : Nat} {s : ByteArray} {i : Nat} (h : Rdr w g s i) {p : Addr} (hp : g ≠ p.block) (u : Value) : Rdr (w.setCell p u) g s i := blk_far h hp u
theorem res_lxm {fn : Func} (hfn : fn.results = #[.cell 2 44]) {tmps : Array Value} {b : Nat} (hp : tmps.getD 2 undef = .pointer (some ⟨b, 0, none⟩)) {w : World} {k o : Int} {s : ByteArray} (h : Lxm w b k o s) :
    (results fn tmps).run Tryz.prog w = .ok (.agg #[.int .i64 k, .int .i64 o, .string s]) w := by
  obtain ⟨⟨q0, q1, q2⟩, _⟩ := h.cell
  have hu := Tryz.underlying44
  have hp' : tmps[2]?.getD undef = .pointer (some ⟨b, 0, none⟩) := by simpa using hp
  simp [results, hfn, hp', go_sem, q0, q1, q2, hu]
/-- The end of a reader's method: the token is stored and handed back. -/
theorem read_end' {fn : Func} (hfn : fn.results = #[.cell 2 44]) {w W : World} {g : Nat} {s : ByteArray} {j : Nat} {k0 o0 : Int} {s0 : ByteArray} {k : Int} {x : ByteArray} {T R : L} {r : Res} {tmps : Array Value}
    (hp : tmps.getD 2 undef = .pointer (some ⟨w.heap.size, 0, none⟩)) (hL : Lxm W w.heap.size k0 o0 s0) (hr : Rdr W g s j) (hg : w.grownBy W (some g)) (hlt : g < w.heap.size)
    (hT : (⟨T.toArray⟩ : ByteArray) = x) (hR : s.size - R.length = j) (h : r = .got k T R) :
    bodyPost Tryz.prog fn (ReadPost w g s r) .ret { tmps := tmps, defers := [] } (((W.setCell ⟨w.heap.size, 0, none⟩ (.int .i64 k)).setCell ⟨w.heap.size, 1, none⟩ (.int .i64 0)).setCell ⟨w.heap.size, 2, none⟩ (.string x)) := by
  subst h
  refine bodyPost_ret (res_lxm hfn hp (hL.done k 0 x)) rfl ⟨by rw [hT], ?_, ?_⟩
  · rw [hR]
    exact ((hr.setFar (p := ⟨w.heap.size, 0, none⟩) (by simp; omega) _).setFar (p := ⟨w.heap.size, 1, none⟩) (by simp; omega) _).setFar (p := ⟨w.heap.size, 2, none⟩) (by simp; omega) _
  · exact gb_set (gb_set (gb_set hg (.inr (Nat.le_refl _)) _) (.inr (Nat.le_refl _)) _) (.inr (Nat.le_refl _)) _
theorem read_end {fn : Func} (hfn : fn.results = #[.cell 2 44]) {w W : World} {g : Nat} {s : ByteArray} {j : Nat} {k0 o0 : Int} {s0 : ByteArray} {k : Int} {x : ByteArray} {T R : L} {tmps : Array Value}
    (hp : tmps.getD 2 undef = .pointer (some ⟨w.heap.size, 0, none⟩)) (hL : Lxm W w.heap.size k0 o0 s0) (hr : Rdr W g s j) (hg : w.grownBy W (some g)) (hlt : g < w.heap.size)
    (hT : (⟨T.toArray⟩ : ByteArray) = x) (hR : s.size - R.length = j) :
    bodyPost Tryz.prog fn (ReadPost w g s (.got k T R)) .ret { tmps := tmps, defers := [] } (((W.setCell ⟨w.heap.size, 0, none⟩ (.int .i64 k)).setCell ⟨w.heap.size, 1, none⟩ (.int .i64 0)).setCell ⟨w.heap.size, 2, none⟩ (.string x)) :=
  read_end' hfn hp hL hr hg hlt hT hR rfl
/-- .. or it leaves by a panic. -/
theorem read_bad {fn : Func} {w W : World} {g : Nat} {s : ByteArray} {n : Int} {r : Res} {tmps : Array Value} (hg : w.grownBy W (some g)) (h : r = .bad n) :
    bodyPost Tryz.prog fn (ReadPost w g s r) (.panic [{ v := .iface 24 (.int .i64 n), recovered := false }]) { tmps := tmps, defers := [] } W := by
  subst h
  exact ⟨rfl, rfl, hg⟩

set_option maxHeartbeats 800000 in
theorem name_any (g : Nat) (s : ByteArray) (i : Nat) (w : World) (hb : Rdr w g s i) (hi : i ≤ s.size) (hs : s.size ≤ 140737488351232) (hG : Gl w) :
    Calls Tryz.prog 42 #[.pointer (some ⟨g, 0, none⟩)] w (ReadPost w g s (nameL (sl s i))) := by
  obtain ⟨hw, ht, hr⟩ := whl_ex restB s _ i rfl hi
  have hlen := takeDrop_len restB (sl s i)
  unfold nameL
  generalize hT : (sl s i).takeWhile restB = T at *
  generalize hR : (sl s i).dropWhile restB = R at *
  obtain ⟨j, hj⟩ : ∃ j, j = i + T.length := ⟨_, rfl⟩
  rw [← hj] at hw ht hr
  have hsz : j - i = T.length := by omega
  have hjs := hw.2.1
  have hRl : s.size - R.length = j := by rw [hr, sl_len]; omega
  have hTe : (⟨T.toArray⟩ : ByteArray) = s.extract i j := by rw [ht, mk_data]
  have HT := Lib.hid ht; have HR := Lib.hid hRl; have HE := Lib.hid hTe; have HZ := Lib.hid hsz
  clear hlen hT hR ht hr hj hRl hTe hsz
  have hne := hb.ne_gl hG
  have hlt := hb.lt
  by_cases hm : T ∈ words
  · rw [if_pos hm]
    go_enter Tryz.func42, Tryz.ntmps42
    go_wp2_with fail
    refine (while_any g _ restB s i j _ enters72 isRest_any (by exact blk_alloc hb _) hw hs).mono ?_
    rintro e w1 ⟨rfl, hr1, hg1⟩
    have hgw := gb_trans (gb_alloc (World.grownBy.refl w (some g)) _) hg1 (.inl rfl)
    have hL1 := (Lxm.new w).grown hg1 (by omega)
    go_wp2_with fail
    refine (word_yes _ _ (hG.grown hgw (by rintro _ ⟨⟩; exact hne)) (by rw [← HT.out]; exact hm)).mono ?_
    rintro e w2 ⟨rfl, hb2⟩
    have hL2 := hL1.far hb2
    obtain ⟨⟨q0, q1, q2⟩, f0, f1, f2⟩ := hL2.cell
    go_wp2
    exact read_end rfl rfl hL2 (hr1.far hb2) (gb_then hgw hb2) hlt HE.out HR.out
  · rw [if_neg hm]
    by_cases h40 : 40 < T.length
    · rw [if_pos h40]
      go_enter Tryz.func42, Tryz.ntmps42
      go_wp2_with fail
      refine (while_any g _ restB s i j _ enters72 isRest_any (by exact blk_alloc hb _) hw hs).mono ?_
      rintro e w1 ⟨rfl, hr1, hg1⟩
      have hgw := gb_trans (gb_alloc (World.grownBy.refl w (some g)) _) hg1 (.inl rfl)
      have hL1 := (Lxm.new w).grown hg1 (by omega)
      go_wp2_with fail
      refine (word_not _ _ (hG.grown hgw (by rintro _ ⟨⟩; exact hne)) (by rw [← HT.out]; exact hm)).mono ?_
      rintro e w2 ⟨rfl, hb2⟩
      have hz := HZ.out
      go_wp2_with fail
      refine (fail_yes _ (by simp; omega) _ _).mono ?_
      rintro e w3 ⟨rfl, rfl⟩
      exact ⟨rfl, rfl, gb_then hgw hb2⟩
    · rw [if_neg h40]
      go_enter Tryz.func42, Tryz.ntmps42
      go_wp2_with fail
      refine (while_any g _ restB s i j _ enters72 isRest_any (by exact blk_alloc hb _) hw hs).mono ?_
      rintro e w1 ⟨rfl, hr1, hg1⟩
      have hgw := gb_trans (gb_alloc (World.grownBy.refl w (some g)) _) hg1 (.inl rfl)
      have hL1 := (Lxm.new w).grown hg1 (by omega)
      go_wp2_with fail
      refine (word_not _ _ (hG.grown hgw (by rintro _ ⟨⟩; exact hne)) (by rw [← HT.out]; exact hm)).mono ?_
      rintro e w2 ⟨rfl, hb2⟩
      have hL2 := hL1.far hb2
      obtain ⟨⟨q0, q1, q2⟩, f0, f1, f2⟩ := hL2.cell
      have hz := HZ.out
      go_wp2_with fail
      refine (fail_no _ (by simp; omega) _ _).mono ?_
      rintro e w3 ⟨rfl, rfl⟩
      go_wp2
      exact read_end rfl rfl hL2 (hr1.far hb2) (gb_then hgw hb2) hlt HE.out HR.out

end Go.Proofs.YtafomaiaobfkfaaGreatDoor.Lx
namespace Go.Proofs.YtafomaiaobfkfaaGreatDoor.Lx
open Go.RowKit Go.Proofs.YtafomaiaobfkfaaGreatDoorW.PrintWords
set_option linter.unusedVariables false
set_option linter.unusedSimpArgs false

theorem enters43 : Enters 43 := fun args W => by go_simp

theorem u8_eq {a b : UInt8} (h : a.toNat = b.toNat) : a = b := UInt8.toNat_inj.1 h

/-- What stands behind the digits: the byte that is looked at. -/
def nextB (s : ByteArray) (j : Nat) : UInt8 := if h : j < s.size then s[j] else 32

theorem head_let (s : ByteArray) (j : Nat) : headIs letB (sl s j) = letB (nextB s j) := by
  unfold nextB
  by_cases h : j < s.size
  · rw [sl_cons s j h, dif_pos h]
    rfl
  · rw [sl_nil s j (by omega), dif_neg h]
    decide

set_option maxHeartbeats 1600000 in
theorem number_any (g : Nat) (s : ByteArray) (i : Nat) (w : World) (hb : Rdr w g s i) (hi : i < s.size) (hd : digitB s[i] = true) (hs : s.size ≤ 140737488351232) :
    Calls Tryz.prog 44 #[.pointer (some ⟨g, 0, none⟩)] w (ReadPost w g s (numberL (sl s i))) := by
  obtain ⟨hw, ht, hr⟩ := whl_ex digitB s _ i rfl (Nat.le_of_lt hi)
  have hlen := takeDrop_len digitB (sl s i)
  have h1 : 1 ≤ ((sl s i).takeWhile digitB).length := by rw [sl_cons s i hi]; simp [List.takeWhile_cons, hd]
  have hh : (sl s i).head? = some s[i] := by rw [sl_cons s i hi]; rfl
  unfold numberL
  rw [hh]
  generalize hT : (sl s i).takeWhile digitB = T at *
  generalize hR : (sl s i).dropWhile digitB = R at *
  obtain ⟨j, hj⟩ : ∃ j, j = i + T.length := ⟨_, rfl⟩
  rw [← hj] at hw ht hr
  have hhl : headIs letB R = letB (nextB s j) := by rw [hr, head_let]
  rw [hhl]
  have hjs := hw.2.1
  have hRl : s.size - R.length = j := by rw [hr, sl_len]; omega
  obtain ⟨x, hx⟩ : ∃ x, x = s.extract i j := ⟨_, rfl⟩
  have hxT : x.data.toList = T := by rw [hx, ht]
  have hxs : x.size = T.length := by rw [Lib.size_eq, hxT]
  have hx0 : ∀ h : 0 < x.size, x[0] = s[i] := by
    intro h
    have e1 : x.data.toList[0]? = (sl s i)[0]? := by
      rw [hxT, ← hT, sl_cons s i hi]
      simp [List.takeWhile_cons, hd]
    rw [sl_cons s i hi] at e1
    simp at e1
    have e2 := e1
    rw [Array.getElem?_eq_getElem (by simpa using h)] at e2
    injection e2
  have hTe : (⟨T.toArray⟩ : ByteArray) = x := by rw [← hxT, mk_data]
  have hlt := hb.lt
  rw [← hxs]
  have HR := Lib.hid hRl; have HE := Lib.hid hTe; have HX := Lib.hid hx; have HX0 := Lib.hid hx0
  have hx1 : 0 < x.size := by omega
  clear hlen hT hR ht hr hj hRl hTe hx hxT hxs hh hhl h1 hx0
  obtain ⟨r0, hr0⟩ : ∃ r0 : Res, r0 = (if 18 < x.size ∨ some s[i] = some 48 ∧ 1 < x.size ∨ letB (nextB s j) = true then Res.bad 141 else Res.got 3 T R) := ⟨_, rfl⟩
  rw [← hr0]
  have HR0 := Lib.hid hr0; clear hr0
  go_enter Tryz.func44, Tryz.ntmps44
  go_wp2_with fail
  refine (while_any g _ digitB s i j _ enters43 isDigit_any (by exact blk_alloc hb _) hw hs).mono ?_
  rintro e w1 ⟨rfl, hr1, hg1⟩
  rw [← HX.out]
  have hgw := gb_trans (gb_alloc (World.grownBy.refl w (some g)) _) hg1 (.inl rfl)
  have hL1 := (Lxm.new w).grown hg1 (by omega)
  have d0 := hr1.c0
  have d1 := hr1.c1
  obtain ⟨⟨q0, q1, q2⟩, f0, f1, f2⟩ := hL1.cell
  go_wp2_with fail
  go_quiet (fail)
  go_upto_if 16 with (fail)
  go_cut [4] (fun v4 wc => v4 = .int .u8 ((nextB s j).toNat : Int) ∧ ∃ n, wc = w1.drewN n)
  case first =>
    by_cases hjl : j < s.size
    · have hnb : nextB s j = s[j] := by unfold nextB; rw [dif_pos hjl]
      have HN := Lib.hid hnb; clear hnb
      go_wp2_with fail
      go_quiet (fail)
      go_wp2_with fail
      go_meet
      exact ⟨by rw [HN.out], _, World.drewN_drewN _ _ _⟩
    · have hnb : nextB s j = 32 := by unfold nextB; rw [dif_neg hjl]
      have HN := Lib.hid hnb; clear hnb
      go_wp2_with fail
      go_meet
      exact ⟨by rw [HN.out]; rfl, _, rfl⟩
  case rest =>
    obtain ⟨rfl, n, rfl⟩ := hcut
    generalize nextB s j = c at HR0
    clear d0 d1
    by_cases h18 : 18 < x.size
    · have hbad : r0 = .bad 141 := by rw [HR0.out, if_pos (.inl h18)]
      have HB := Lib.hid hbad; clear hbad HR0
      go_wp2_with fail
      refine (fail_yes _ rfl _ _).mono ?_
      rintro e w3 ⟨rfl, rfl⟩
      exact read_bad (gb_drewN hgw _) HB.out
    · by_cases h48 : s[i] = 48 ∧ 1 < x.size
      · have hbad : r0 = .bad 141 := by rw [HR0.out, if_pos (.inr (.inl ⟨by rw [h48.1], h48.2⟩))]
        have HB := Lib.hid hbad; clear hbad HR0
        have hx00 : (((x[0].toNat : Nat) : Int) == 48) = true := by rw [HX0.out hx1, h48.1]; rfl
        have h1x := h48.2
        have H48 := Lib.hid h48; clear h48
        go_wp2_with fail
        refine (fail_yes _ (by first | rfl | (simp; omega)) _ _).mono ?_
        rintro e w3 ⟨rfl, rfl⟩
        exact read_bad (gb_drewN hgw _) HB.out
      · by_cases h4 : s[i] = 48
        · have h1x : ¬ 1 < x.size := fun h => h48 ⟨h4, h⟩
          have H4 := Lib.hid h4; clear h4
          cases hc : restB c
          · cases hc2 : capB c
            · have hgot : r0 = .got 3 T R := by rw [HR0.out, if_neg (fun h => h.elim h18 (fun h => h.elim (fun h => h48 ⟨by injection h.1, h.2⟩) (fun h => by simp [letB, hc, hc2] at h)))]
              have HB := Lib.hid hgot; have HC2 := Lib.hid hc2; clear hgot HR0 hc2 h48
              have hx00 : (((x[0].toNat : Nat) : Int) == 48) = true := by rw [HX0.out hx1, H4.out]; rfl
              go_wp2_with fail
              refine (isRest_any _ _).mono ?_
              rintro e w3 ⟨rfl, n3, rfl⟩
              rw [hc]
              go_wp2_with fail
              all_goals
                refine (fail_no _ (by first | rfl | (have h := HC2.out; unfold capB at h; simp at h ⊢; omega)) _ _).mono ?_
                rintro e w4 ⟨rfl, rfl⟩
                go_wp2
                exact read_end' rfl rfl hL1 hr1 (gb_drewN hgw _) hlt HE.out HR.out HB.out
            · have hbad : r0 = .bad 141 := by rw [HR0.out, if_pos (.inr (.inr (by simp [letB, hc2])))]
              have HB := Lib.hid hbad; have HC2 := Lib.hid hc2; clear hbad HR0 hc2 h48
              have hx00 : (((x[0].toNat : Nat) : Int) == 48) = true := by rw [HX0.out hx1, H4.out]; rfl
              go_wp2_with fail
              refine (isRest_any _ _).mono ?_
              rintro e w3 ⟨rfl, n3, rfl⟩
              rw [hc]
              have hcap : (65 : Int) ≤ (c.toNat : Int) ∧ (c.toNat : Int) ≤ 90 := by have h := HC2.out; unfold capB at h; simp at h; omega
              obtain ⟨hcap1, hcap2⟩ := hcap
              go_wp2_with fail
              refine (fail_yes _ (by first | rfl | (simp; omega)) _ _).mono ?_
              rintro e w4 ⟨rfl, rfl⟩
              exact read_bad (gb_drewN hgw _) HB.out
          · have hbad : r0 = .bad 141 := by rw [HR0.out, if_pos (.inr (.inr (by simp [letB, hc])))]
            have HB := Lib.hid hbad; clear hbad HR0 h48
            have hx00 : (((x[0].toNat : Nat) : Int) == 48) = true := by rw [HX0.out hx1, H4.out]; rfl
            go_wp2_with fail
            refine (isRest_any _ _).mono ?_
            rintro e w3 ⟨rfl, n3, rfl⟩
            rw [hc]
            go_wp2_with fail
            refine (fail_yes _ rfl _ _).mono ?_
            rintro e w4 ⟨rfl, rfl⟩
            exact read_bad (gb_drewN hgw _) HB.out
        · have H4 := Lib.hid h4; clear h4
          cases hc : restB c
          · cases hc2 : capB c
            · have hgot : r0 = .got 3 T R := by rw [HR0.out, if_neg (fun h => h.elim h18 (fun h => h.elim (fun h => h48 ⟨by injection h.1, h.2⟩) (fun h => by simp [letB, hc, hc2] at h)))]
              have HB := Lib.hid hgot; have HC2 := Lib.hid hc2; clear hgot HR0 hc2 h48
              have hx00 : (((x[0].toNat : Nat) : Int) == 48) = false := by rw [HX0.out hx1]; simp; intro h; exact H4.out (u8_eq (Int.ofNat.inj h))
              go_wp2_with fail
              refine (isRest_any _ _).mono ?_
              rintro e w3 ⟨rfl, n3, rfl⟩
              rw [hc]
              go_wp2_with fail
              all_goals
                refine (fail_no _ (by first | rfl | (have h := HC2.out; unfold capB at h; simp at h ⊢; omega)) _ _).mono ?_
                rintro e w4 ⟨rfl, rfl⟩
                go_wp2
                exact read_end' rfl rfl hL1 hr1 (gb_drewN hgw _) hlt HE.out HR.out HB.out
            · have hbad : r0 = .bad 141 := by rw [HR0.out, if_pos (.inr (.inr (by simp [letB, hc2])))]
              have HB := Lib.hid hbad; have HC2 := Lib.hid hc2; clear hbad HR0 hc2 h48
              have hx00 : (((x[0].toNat : Nat) : Int) == 48) = false := by rw [HX0.out hx1]; simp; intro h; exact H4.out (u8_eq (Int.ofNat.inj h))
              go_wp2_with fail
              refine (isRest_any _ _).mono ?_
              rintro e w3 ⟨rfl, n3, rfl⟩
              rw [hc]
              have hcap : (65 : Int) ≤ (c.toNat : Int) ∧ (c.toNat : Int) ≤ 90 := by have h := HC2.out; unfold capB at h; simp at h; omega
              obtain ⟨hcap1, hcap2⟩ := hcap
              go_wp2_with fail
              refine (fail_yes _ (by first | rfl | (simp; omega)) _ _).mono ?_
              rintro e w4 ⟨rfl, rfl⟩
              exact read_bad (gb_drewN hgw _) HB.out
          · have hbad : r0 = .bad 141 := by rw [HR0.out, if_pos (.inr (.inr (by simp [letB, hc])))]
            have HB := Lib.hid hbad; clear hbad HR0 h48
            have hx00 : (((x[0].toNat : Nat) : Int) == 48) = false := by rw [HX0.out hx1]; simp; intro h; exact H4.out (u8_eq (Int.ofNat.inj h))
            go_wp2_with fail
            refine (isRest_any _ _).mono ?_
            rintro e w3 ⟨rfl, n3, rfl⟩
            rw [hc]
            go_wp2_with fail
            refine (fail_yes _ rfl _ _).mono ?_
            rintro e w4 ⟨rfl, rfl⟩
            exact read_bad (gb_drewN hgw _) HB.out

end Go.Proofs.YtafomaiaobfkfaaGreatDoor.Lx
