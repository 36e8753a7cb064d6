/-
  The printed functions written, Possible, Value, Text of the specification, and isToken, Value, Text of the lexer: they agree: plain Lean. Conditions: each theorem's own.
-/
import Derived.Test.YtafomaiaobfkfaaGreatDoorPr28
import Derived.Test.YtafomaiaobfkfaaGreatDoorPr29
import Derived.Test.YtafomaiaobfkfaaGreatDoorPrXb
import Derived.Test.YtafomaiaobfkfaaGreatDoorLawR3
import Derived.Test.YtafomaiaobfkfaaGreatDoorLawV
namespace Go.Proofs.YtafomaiaobfkfaaGreatDoor.Pr
open Go.RowKit Lx Go.Proofs.YtafomaiaobfkfaaGreatDoorW.PrintWords
set_option linter.unusedVariables false
set_option linter.unusedSimpArgs false

def p10 : Nat → Nat
  | 0 => 1
  | j + 1 => p10 j * 10
theorem p10_18 : p10 18 = 1000000000000000000 := by decide
theorem p10_le (j : Nat) (h : j ≤ 18) : p10 j ≤ 1000000000000000000 := by
  have : ∀ j, j ≤ 18 → p10 j ≤ 1000000000000000000 := by decide
  exact this j h
def valD : L → Nat
  | [] => 0
  | b :: r => (b.toNat - 48) * p10 r.length + valD r
theorem dig_le {b : UInt8} (h : digitB b = true) : 48 ≤ b.toNat ∧ b.toNat ≤ 57 := by simpa [digitB] using h
theorem decFrom_val : ∀ (l : L) (acc : Nat), (∀ b ∈ l, digitB b = true) → Lib.decFrom acc l = some (acc * p10 l.length + valD l)
  | [], acc, _ => by simp [Lib.decFrom, valD, p10]
  | b :: r, acc, h => by
    have hb := dig_le (h b (by simp))
    have ih := decFrom_val r (acc * 10 + (b.toNat - 48)) (fun c hc => h c (by simp [hc]))
    have e : Lib.digitVal b = some (b.toNat - 48) := by simp [Lib.digitVal, hb]
    simp only [Lib.decFrom, e, ih, valD, List.length_cons, p10]
    congr 1
    rw [Nat.add_mul, Nat.mul_assoc, Nat.mul_comm 10, Nat.add_assoc]
theorem atoi_val (b : UInt8) (r : L) (h : ∀ c ∈ b :: r, digitB c = true) : Lib.atoi (b :: r) = some ((valD (b :: r) : Nat) : Int) := by
  have hb := dig_le (h b (by simp))
  have e1 : (b == 45) = false := by
    rw [beq_eq_false_iff_ne]
    rintro rfl
    simp at hb
  have e2 : (b == 43) = false := by
    rw [beq_eq_false_iff_ne]
    rintro rfl
    simp at hb
  simp only [Lib.atoi, e1, e2, Bool.false_eq_true, if_false, Lib.decNat, List.isEmpty_cons]
  rw [decFrom_val _ _ h]
  simp

/-! ### what a number token is -/
theorem mem_twW {p : UInt8 → Bool} : ∀ (l : L), ∀ c ∈ l.takeWhile p, p c = true
  | [], c, h => by cases h
  | b :: r, c, h => by
    rw [List.takeWhile_cons] at h
    split at h
    · rcases List.mem_cons.1 h with rfl | h
      · assumption
      · exact mem_twW r c h
    · cases h
theorem nameL_kind {l : L} {k : Int} {t rest : L} (h : nameL l = .got k t rest) : k = 1 ∨ k = 2 := by
  unfold nameL at h
  split at h
  · injection h with h1 _ _; omega
  · split at h
    · cases h
    · injection h with h1 _ _; omega
theorem textL_kind : ∀ (n : Nat) (acc l : L), l.length ≤ n → ∀ (k : Int) (t rest : L), textL acc l = .got k t rest → k = 4
  | 0, acc, l, hn => by
    intro k t rest h
    have : l = [] := List.eq_nil_of_length_eq_zero (by omega)
    subst this
    simp [textL] at h
  | n + 1, acc, [], hn => by
    intro k t rest h
    simp [textL] at h
  | n + 1, acc, b :: r, hn => by
    intro k t rest h
    simp at hn
    unfold textL at h
    split at h
    · split at h
      · cases h
      · injection h with h1 _ _; omega
    · split at h
      · split at h
        · cases h
        · rename_i c r'
          simp at hn
          split at h
          · exact textL_kind n _ r' (by omega) _ _ _ h
          · cases h
      · split at h
        · cases h
        · exact textL_kind n _ r (by omega) _ _ _ h
theorem tokL_num {b : UInt8} {r t rest : L} (h : tokL (b :: r) = .got 3 t rest) : t ≠ [] ∧ (∀ c ∈ t, digitB c = true) ∧ t.length ≤ 18 := by
  rw [tokL_cons] at h
  split at h
  · have := nameL_kind h; omega
  · split at h
    · rename_i hd
      unfold numberL at h
      split at h
      · cases h
      · rename_i hn
        injection h with _ h2 _
        subst h2
        refine ⟨by simp [List.takeWhile_cons, hd], fun c hc => mem_twW _ c hc, ?_⟩
        omega
    · split at h
      · have := textL_kind _ _ _ (Nat.le_refl _) _ _ _ h; omega
      · have := (signL_shape h).1; omega
theorem toks_num (l t : L) (o : Nat) (h : toks l = .ok [⟨3, o, t⟩]) : t ≠ [] ∧ (∀ c ∈ t, digitB c = true) ∧ t.length ≤ 18 := by
  unfold toks toksF at h
  split at h
  · cases h
  · rename_i b r hb
    split at h
    · cases h
    · rename_i k t' rest hg
      cases hq : toksF l.length l.length rest with
      | bad o e => rw [hq] at h; simp [Out.push] at h
      | ok us =>
        rw [hq] at h
        simp only [Out.push, Out.ok.injEq, List.cons.injEq, Tok.mk.injEq] at h
        obtain ⟨⟨rfl, _, rfl⟩, _⟩ := h
        exact tokL_num hg

/-! ### written -/
theorem written_l0 (s : ByteArray) (hs : s.size ≤ 33000) (a b : Int) (m : Nat) : ∀ (i k : Nat) (X : L), i + m = s.size → X.length ≤ 2 * i → 3 * m + 1 ≤ k →
    antiquaryref14_written.l0 k (ints X) (i : Int) a b s = some ((⟨#[34]⟩ : ByteArray) ++ (⟨(X ++ escL (sl s i)).toArray⟩ : ByteArray) ++ ⟨#[34]⟩) := by
  induction m with
  | zero =>
    intro i k X hm hX hk
    obtain ⟨k, rfl⟩ : ∃ k', k = k' + 1 := ⟨k - 1, by omega⟩
    have hl : (⟨X.toArray⟩ : ByteArray).size = X.length := List.size_toArray
    rw [antiquaryref14_written.l0, if_neg (by omega), str_ints, sl_nil s i (by omega), if_pos (by omega), if_pos (by rw [ByteArray.size_append, hl]; (show 1 + X.length + 1 ≤ _); omega)]
    simp [escL]
  | succ m ih =>
    intro i k X hm hX hk
    obtain ⟨k, rfl⟩ : ∃ k', k = k' + 3 := ⟨k - 3, by omega⟩
    have h : i < s.size := by omega
    have hb := btR s i h
    have hw := wrS i (by omega)
    have hal := ints_len X
    rw [antiquaryref14_written.l0, if_pos (by omega), if_pos (by omega), hb, sl_cons s i h]
    by_cases h34 : s[i].toNat = 34
    · have e : (ints X ++ [92] ++ [(s[i].toNat : Int)]) = ints (X ++ [92, s[i]]) := by simp [ints]
      have hsp : spcB s[i] = true := by simp [spcB, h34]
      rw [if_pos (by omega), if_pos (by omega)]
      simp only [Option.bind_some]
      rw [if_pos (by simp [hal]; omega), antiquaryref14_written.j2, hw, e, ih (i + 1) (k + 1) _ (by omega) (by simp; omega) (by omega)]
      simp [escL, hsp]
    · rw [if_neg (by omega)]
      by_cases h92 : s[i].toNat = 92
      · have e : (ints X ++ [92] ++ [(s[i].toNat : Int)]) = ints (X ++ [92, s[i]]) := by simp [ints]
        have hsp : spcB s[i] = true := by simp [spcB, h92]
        rw [if_pos (by omega), if_pos (by omega), antiquaryref14_written.j1, if_pos (by omega), if_pos (by omega), if_pos (by simp [hal]; omega), hb, antiquaryref14_written.j2, hw, e, ih (i + 1) k _ (by omega) (by simp; omega) (by omega)]
        simp [escL, hsp]
      · have e : (ints X ++ [(s[i].toNat : Int)]) = ints (X ++ [s[i]]) := by simp [ints]
        have hsp : spcB s[i] = false := by simp [spcB, h34, h92]
        rw [if_neg (by omega), antiquaryref14_written.j1, if_pos (by omega), if_pos (by omega), if_pos (by omega), hb, antiquaryref14_written.j2, hw, e, ih (i + 1) k _ (by omega) (by simp; omega) (by omega)]
        simp [escL, hsp]
theorem written_f (a b : Int) (s : ByteArray) (hs : s.size ≤ 33000) (k : Nat) (hk : 3 * s.size + 1 ≤ k) : antiquaryref14_written.f k a b s = some (wrS44 a s) := by
  unfold antiquaryref14_written.f wrS44
  split
  · have := written_l0 s hs a b s.size 0 k [] (by omega) (by simp) hk
    simpa [ints, quoteS, sl_full] using this
  · rfl
/-! ### isToken, Possible -/
theorem possible_f (a b : Int) (s : ByteArray) (hs : s.size ≤ 32000) (k : Nat) (hk : 500000 ≤ k) : antiquaryref14_Possible.f (k + 1) a b s = some (isTok a s) := by
  have hz := wrS44_size a s
  obtain ⟨xs, o, e, ht, hl⟩ := toks_short (wrS44 a s) (by omega)
  unfold antiquaryref14_Possible.f isTok
  rw [if_neg (by omega), written_f a b s (by omega) (k + 1) (by omega)]
  simp only [Option.bind_some]
  rw [tokens_f _ (by omega) (k + 1) (by omega), ht]
  simp only [Option.bind_some]
  by_cases he : e = 0
  · subst he
    rw [if_pos rfl]
    match xs with
    | [] => simp [antiquaryref14_Possible.j0]
    | [x] =>
      rw [if_pos (by simp), if_pos (by simp)]
      simp only [rd_T44, Int.toNat_zero, List.getD_cons_zero, antiquaryref14_Possible.j0]
      by_cases h0 : x.f0 = a
      · rw [if_pos h0]
        by_cases h2 : x.f2.toList = s.toList
        · rw [if_pos h2]
          simp [h0, h2]
        · rw [if_neg h2]
          simp [h2]
      · rw [if_neg h0]
        simp [h0]
    | x :: y :: r =>
      rw [if_neg (by simp; omega)]
      simp [antiquaryref14_Possible.j0]
  · rw [if_neg he]
    simp only [antiquaryref14_Possible.j0]
    match xs with
    | [] => simp
    | [x] => simp [he]
    | x :: y :: r => simp
theorem isTok_num (s : ByteArray) (hs : s.size ≤ 32000) (h : isTok 3 s = true) : s.data.toList ≠ [] ∧ (∀ c ∈ s.data.toList, digitB c = true) ∧ s.data.toList.length ≤ 18 := by
  unfold isTok at h
  rw [show wrS44 3 s = s from rfl] at h
  unfold lexer_Tokens.f at h
  unfold toksS at h
  rw [if_neg (by omega)] at h
  cases hq : toks s.data.toList with
  | bad o e => rw [hq] at h; simp [outS] at h
  | ok ts =>
    rw [hq] at h
    match ts, hq, h with
    | [], hq, h => simp [outS] at h
    | [t], hq, h =>
      obtain ⟨k, o, u⟩ := t
      simp [outS, tS] at h
      obtain ⟨h1, h2, h3⟩ := h
      have e : u = s.data.toList := by
        first | exact h3 | (rw [Lib.toList_data, Lib.toList_data] at h3; exact h3) | (simpa [Lib.toList_data] using h3)
      subst h1
      rw [← e]
      exact toks_num _ _ _ hq
    | x :: y :: r, hq, h => simp [outS] at h

end Go.Proofs.YtafomaiaobfkfaaGreatDoor.Pr
