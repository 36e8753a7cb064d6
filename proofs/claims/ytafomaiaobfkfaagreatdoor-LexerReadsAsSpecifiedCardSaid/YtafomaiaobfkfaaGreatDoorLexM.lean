/-
  The lexer's specification as a plain Lean function on lists of bytes: no program in sight. Conditions: none.
-/
namespace Go.Proofs.YtafomaiaobfkfaaGreatDoor.Lx
set_option linter.unusedVariables false
set_option linter.unusedSimpArgs false

abbrev L := List UInt8

def smallB (b : UInt8) : Bool := decide (97 ≤ b.toNat) && decide (b.toNat ≤ 122)
def digitB (b : UInt8) : Bool := decide (48 ≤ b.toNat) && decide (b.toNat ≤ 57)
def capB (b : UInt8) : Bool := decide (65 ≤ b.toNat) && decide (b.toNat ≤ 90)
def restB (b : UInt8) : Bool := smallB b || digitB b || decide (b.toNat = 95)
def spB (b : UInt8) : Bool := decide (b.toNat = 32) || decide (b.toNat = 9) || decide (b.toNat = 10) || decide (b.toNat = 13)
def letB (b : UInt8) : Bool := restB b || capB b

def words : List L := [[97, 108, 108], [97, 110, 100], [104, 97, 115], [105, 110], [110, 111, 116], [111, 114]]
def longs : List L := [[61, 61], [33, 61], [60, 61], [62, 61], [46, 46]]
def shorts : L := [123, 125, 40, 41, 91, 93, 44, 59, 58, 61, 60, 62, 43, 45, 42, 47, 37]

/-- What is left behind space and comments; the Bool: inside a comment. -/
def skipB : Bool → L → L
  | _, [] => []
  | false, b :: r => if spB b then skipB false r else if b.toNat = 35 then skipB true r else b :: r
  | true, b :: r => if b.toNat = 10 then skipB false r else skipB true r

/-- What the reading of one token comes to: an error, or its kind, its text and what is left. -/
inductive Res where
  | bad (e : Int)
  | got (k : Int) (t rest : L)
  deriving Inhabited

def nameL (l : L) : Res :=
  if l.takeWhile restB ∈ words then .got 2 (l.takeWhile restB) (l.dropWhile restB)
  else if 40 < (l.takeWhile restB).length then .bad 2
  else .got 1 (l.takeWhile restB) (l.dropWhile restB)

def headIs (p : UInt8 → Bool) : L → Bool
  | [] => false
  | c :: _ => p c

def numberL (l : L) : Res :=
  if 18 < (l.takeWhile digitB).length ∨ (l.head? = some 48 ∧ 1 < (l.takeWhile digitB).length) ∨ headIs letB (l.dropWhile digitB) = true then .bad 141
  else .got 3 (l.takeWhile digitB) (l.dropWhile digitB)

/-- A text, behind its first quote; what has been read of it stands ahead. -/
def textL : L → L → Res
  | _, [] => .bad 142
  | acc, b :: r =>
    if b.toNat = 34 then (if 200 < acc.length then .bad 142 else .got 4 acc r)
    else if b.toNat = 92 then
      match r with
      | [] => .bad 142
      | c :: r' => if c.toNat = 34 ∨ c.toNat = 92 then textL (acc ++ [c]) r' else .bad 142
    else if b.toNat < 32 ∨ 126 < b.toNat then .bad 142
    else textL (acc ++ [b]) r

def signL : L → Res
  | [] => .bad 140
  | [b] => if b ∈ shorts then .got 5 [b] [] else .bad 140
  | b :: c :: r => if [b, c] ∈ longs then .got 5 [b, c] r else if b ∈ shorts then .got 5 [b] (c :: r) else .bad 140

def tokL : L → Res
  | [] => .bad 140
  | b :: r =>
    if smallB b then nameL (b :: r)
    else if digitB b then numberL (b :: r)
    else if b.toNat = 34 then textL [] r
    else signL (b :: r)

structure Tok where
  k : Int
  off : Nat
  s : L
  deriving DecidableEq, Inhabited

/-- The tokens of a source, or the first problem: its offset and its error. -/
inductive Out where
  | bad (off : Nat) (e : Int)
  | ok (ts : List Tok)
  deriving Inhabited

def Out.push (t : Tok) : Out → Out
  | .bad o e => .bad o e
  | .ok ts => .ok (t :: ts)

/-- N: the length of the whole source; the first number bounds the rounds. -/
def toksF (N : Nat) : Nat → L → Out
  | 0, _ => .ok []
  | n + 1, l =>
    match skipB false l with
    | [] => .ok []
    | b :: r =>
      match tokL (b :: r) with
      | .bad e => .bad (N - (b :: r).length) e
      | .got k t rest => (toksF N n rest).push ⟨k, N - (b :: r).length, t⟩

def toks (l : L) : Out := toksF l.length (l.length + 1) l

theorem skipB_le : ∀ (l : L) (c : Bool), (skipB c l).length ≤ l.length
  | [], c => by cases c <;> simp [skipB]
  | b :: r, false => by
    unfold skipB
    have h1 := skipB_le r false
    have h2 := skipB_le r true
    split
    · simp; omega
    · split
      · simp; omega
      · simp
  | b :: r, true => by
    unfold skipB
    have h1 := skipB_le r false
    have h2 := skipB_le r true
    split <;> (simp; omega)

theorem takeDrop_len (p : UInt8 → Bool) (l : L) : (l.takeWhile p).length + (l.dropWhile p).length = l.length := by
  rw [← List.length_append, List.takeWhile_append_dropWhile]

/-- What is left behind a token is shorter. -/
theorem nameL_lt {b : UInt8} {r : L} (hb : restB b = true) {k : Int} {t rest : L} (h : nameL (b :: r) = .got k t rest) : rest.length < (b :: r).length := by
  unfold nameL at h
  have hl := takeDrop_len restB (b :: r)
  have h1 : 1 ≤ ((b :: r).takeWhile restB).length := by simp [List.takeWhile_cons, hb]
  split at h
  · injection h with _ _ h3; subst h3; omega
  · split at h
    · cases h
    · injection h with _ _ h3; subst h3; omega

theorem numberL_lt {b : UInt8} {r : L} (hb : digitB b = true) {k : Int} {t rest : L} (h : numberL (b :: r) = .got k t rest) : rest.length < (b :: r).length := by
  unfold numberL at h
  have hl := takeDrop_len digitB (b :: r)
  have h1 : 1 ≤ ((b :: r).takeWhile digitB).length := by simp [List.takeWhile_cons, hb]
  split at h
  · cases h
  · injection h with _ _ h3; subst h3; omega

theorem textL_le : ∀ (n : Nat) (acc l : L), l.length ≤ n → ∀ (k : Int) (t rest : L), textL acc l = .got k t rest → rest.length < l.length
  | 0, acc, l, hn => by
    intro k t rest h
    have : l = [] := List.eq_nil_of_length_eq_zero (by omega)
    subst this
    simp [textL] at h
  | n + 1, acc, [], hn => by
    intro k t rest h
    simp [textL] at h
  | n + 1, acc, b :: r, hn => by
    intro k t rest h
    simp at hn
    unfold textL at h
    split at h
    · split at h
      · cases h
      · injection h with _ _ h3; subst h3; simp
    · split at h
      · split at h
        · cases h
        · rename_i c r'
          simp at hn
          split at h
          · have := textL_le n _ r' (by omega) _ _ _ h
            simp; omega
          · cases h
      · split at h
        · cases h
        · have := textL_le n _ r (by omega) _ _ _ h
          simp; omega

theorem signL_lt {l : L} {k : Int} {t rest : L} (h : signL l = .got k t rest) : rest.length < l.length := by
  match l, h with
  | [], h => simp [signL] at h
  | [b], h =>
    simp only [signL] at h
    split at h
    · injection h with _ _ h3; subst h3; simp
    · cases h
  | b :: c :: r, h =>
    simp only [signL] at h
    split at h
    · injection h with _ _ h3; subst h3; simp; omega
    · split at h
      · injection h with _ _ h3; subst h3; simp
      · cases h

theorem tokL_lt {l : L} {k : Int} {t rest : L} (h : tokL l = .got k t rest) : rest.length < l.length := by
  match l, h with
  | [], h => simp [tokL] at h
  | b :: r, h =>
    simp only [tokL] at h
    split at h
    · exact nameL_lt (by simp [restB, *]) h
    · split at h
      · exact numberL_lt (by assumption) h
      · split at h
        · have := textL_le _ _ r (Nat.le_refl _) _ _ _ h; simp; omega
        · exact signL_lt h

end Go.Proofs.YtafomaiaobfkfaaGreatDoor.Lx
