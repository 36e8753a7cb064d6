/-
  The printed functions of the specification skip, small, digit, rest, letter, Word, name, number: what they compute, by the pure model. Conditions: each theorem's own.
-/
import Derived.Test.YtafomaiaobfkfaaGreatDoorPr21
import Derived.Test.YtafomaiaobfkfaaGreatDoorLexXc
namespace Go.Proofs.YtafomaiaobfkfaaGreatDoor.Pr
open Go.RowKit Lx Go.Proofs.YtafomaiaobfkfaaGreatDoorW.PrintWords
set_option linter.unusedVariables false
set_option linter.unusedSimpArgs false

theorem wrR (x : Int) (h0 : 0 ≤ x) (h1 : x < 9223372036854775808) : wrap64 x = x := by
  unfold wrap64
  omega
theorem wrS (i : Nat) (h : i ≤ 70000) : wrap64 ((i : Int) + 1) = ((i + 1 : Nat) : Int) := by
  rw [wrR _ (by omega) (by omega)]
  rfl
theorem btR (s : ByteArray) (i : Nat) (h : i < s.size) : bt s (i : Int) = (s[i].toNat : Int) := by simp [bt, h]

theorem skip_both (s : ByteArray) (hs : s.size ≤ 66000) (m : Nat) : ∀ i : Nat, s.size - i = m → i ≤ s.size →
    (∀ k, 6 * m + 4 ≤ k → antiquaryref14_skip.l0 k s (i : Int) = some ((s.size - (skipB false (sl s i)).length : Nat) : Int)) ∧
    (∀ k, 6 * m + 7 ≤ k → antiquaryref14_skip.l1 k s (i : Int) = some ((s.size - (skipB true (sl s i)).length : Nat) : Int)) := by
  induction m with
  | zero =>
    intro i hm hi
    have he : i = s.size := by omega
    have hlt : ¬ (i : Int) < (s.size : Int) := by omega
    have e1 : (some (i : Int)) = some ((s.size - (skipB false (sl s i)).length : Nat) : Int) := by rw [sl_nil s i (by omega)]; simp [skipB, he]
    have e2 : (some (i : Int)) = some ((s.size - (skipB true (sl s i)).length : Nat) : Int) := by rw [sl_nil s i (by omega)]; simp [skipB, he]
    constructor
    · intro k hk
      obtain ⟨k, rfl⟩ : ∃ k', k = k' + 1 := ⟨k - 1, by omega⟩
      rw [antiquaryref14_skip.l0]
      rw [if_neg hlt]
      exact e1
    · intro k hk
      obtain ⟨k, rfl⟩ : ∃ k', k = k' + 4 := ⟨k - 4, by omega⟩
      simp only [antiquaryref14_skip.l1, antiquaryref14_skip.j2, antiquaryref14_skip.j4, antiquaryref14_skip.l0]
      rw [if_neg hlt, if_neg hlt]
      exact e2
  | succ m ih =>
    intro i hm hi
    have h : i < s.size := by omega
    have hlt : (i : Int) < (s.size : Int) := by omega
    have h0 : (0 : Int) ≤ (i : Int) := by omega
    have hw := wrS i (by omega)
    have hb := btR s i h
    obtain ⟨a0, a1⟩ := ih (i + 1) (by omega) (by omega)
    obtain ⟨b, hbb⟩ : ∃ b, b = s[i] := ⟨_, rfl⟩
    have hsl : sl s i = b :: sl s (i + 1) := by rw [sl_cons s i h, hbb]
    rw [← hbb] at hb
    have hlen : (sl s (i + 1)).length = s.size - (i + 1) := sl_len s (i + 1)
    have L0 : ∀ k, 6 * (m + 1) + 4 ≤ k → antiquaryref14_skip.l0 k s (i : Int) = some ((s.size - (skipB false (sl s i)).length : Nat) : Int) := by
      intro k hk
      obtain ⟨k, rfl⟩ : ∃ k', k = k' + 3 := ⟨k - 3, by omega⟩
      rw [antiquaryref14_skip.l0]
      rw [if_pos hlt, if_pos h0, hb, hsl]
      by_cases h35 : b.toNat = 35
      · rw [if_pos (show (b.toNat : Int) = 35 by omega)]
        rw [antiquaryref14_skip.l1]
        rw [if_pos hlt, if_pos h0, hb, if_neg (show ¬ (b.toNat : Int) = 10 by omega), hw, a1 _ (by omega)]
        simp [skipB, spB, h35]
      · rw [if_neg (show ¬ (b.toNat : Int) = 35 by omega)]
        by_cases hsp : spB b = true
        · have j : antiquaryref14_skip.j3 (k + 2) s (i : Int) false = some ((s.size - (skipB false (b :: sl s (i + 1))).length : Nat) : Int) := by
            simp only [antiquaryref14_skip.j3, antiquaryref14_skip.j4]
            rw [if_neg (by simp), hw, a0 _ (by omega)]
            simp [skipB, hsp]
          simp only [spB, Bool.or_eq_true, decide_eq_true_eq] at hsp
          by_cases q1 : (b.toNat : Int) = 32
          · rw [if_pos q1]; exact j
          · rw [if_neg q1]
            by_cases q2 : (b.toNat : Int) = 9
            · rw [if_pos q2]; exact j
            · rw [if_neg q2]
              by_cases q3 : (b.toNat : Int) = 10
              · rw [if_pos q3]; exact j
              · rw [if_neg q3, show ((b.toNat : Int) != 13) = false by simp; omega]
                exact j
        · have hsp' : spB b = false := by simpa using hsp
          simp only [spB, Bool.or_eq_true, decide_eq_true_eq] at hsp
          rw [if_neg (show ¬ (b.toNat : Int) = 32 by omega), if_neg (show ¬ (b.toNat : Int) = 9 by omega), if_neg (show ¬ (b.toNat : Int) = 10 by omega), show ((b.toNat : Int) != 13) = true by simp; omega]
          simp only [antiquaryref14_skip.j3, if_true]
          simp only [skipB, hsp', h35, Bool.false_eq_true, if_false, List.length_cons, hlen]
          congr 2
          omega
    refine ⟨L0, fun k hk => ?_⟩
    obtain ⟨k, rfl⟩ : ∃ k', k = k' + 3 := ⟨k - 3, by omega⟩
    rw [antiquaryref14_skip.l1]
    rw [if_pos hlt, if_pos h0, hb]
    by_cases h10 : b.toNat = 10
    · rw [if_pos (show (b.toNat : Int) = 10 by omega)]
      simp only [antiquaryref14_skip.j2, antiquaryref14_skip.j4]
      rw [L0 _ (by omega), hsl]
      simp [skipB, spB, h10]
    · rw [if_neg (show ¬ (b.toNat : Int) = 10 by omega), hw, a1 _ (by omega), hsl]
      simp [skipB, h10]
theorem skip_f (s : ByteArray) (hs : s.size ≤ 66000) (i : Nat) (hi : i ≤ s.size) (k : Nat) (hk : 6 * s.size + 4 ≤ k) : antiquaryref14_skip.f k s (i : Int) = some ((skipAt s i : Nat) : Int) := by
  unfold antiquaryref14_skip.f
  rw [(skip_both s hs (s.size - i) i rfl hi).1 k (by omega)]
  rfl

/-! ### what a byte is -/
theorem small_f (b : UInt8) : antiquaryref14_small.f (b.toNat : Int) = some (smallB b) := by
  unfold antiquaryref14_small.f smallB
  by_cases h : 97 ≤ b.toNat
  · rw [if_pos (by omega)]
    simp [h]
    omega
  · rw [if_neg (by omega)]
    simp [h]
theorem digit_f (b : UInt8) : antiquaryref14_digit.f (b.toNat : Int) = some (digitB b) := by
  unfold antiquaryref14_digit.f digitB
  by_cases h : 48 ≤ b.toNat
  · rw [if_pos (by omega)]
    simp [h]
    omega
  · rw [if_neg (by omega)]
    simp [h]
theorem rest_f (b : UInt8) (k : Nat) : antiquaryref14_rest.f (k + 1) (b.toNat : Int) = some (restB b) := by
  unfold antiquaryref14_rest.f
  rw [small_f, digit_f]
  simp only [Option.bind_some, antiquaryref14_rest.j0, restB]
  cases smallB b <;> cases digitB b <;> simp
  rw [Bool.eq_iff_iff]
  simp
  omega
theorem letter_f (b : UInt8) (k : Nat) : antiquaryref14_letter.f (k + 1) (b.toNat : Int) = some (smallB b || capB b || decide (b.toNat = 95)) := by
  unfold antiquaryref14_letter.f
  rw [small_f]
  simp only [Option.bind_some, antiquaryref14_letter.j0, capB]
  cases smallB b
  · simp only [Bool.false_eq_true, if_false, Bool.false_or]
    by_cases h1 : (b.toNat : Int) ≥ 65
    · rw [if_pos h1]
      by_cases h2 : (b.toNat : Int) ≤ 90
      · rw [if_pos h2]
        simp
        omega
      · rw [if_neg h2]
        congr 1
        rw [Bool.eq_iff_iff]
        simp
        omega
    · rw [if_neg h1]
      congr 1
      rw [Bool.eq_iff_iff]
      simp
      omega
  · simp
end Go.Proofs.YtafomaiaobfkfaaGreatDoor.Pr
