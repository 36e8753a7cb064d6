/-
  LexerNumbersAreExact: what the walked law computes is true, whatever the number: plain Lean. Conditions: each theorem's own.
-/
import Derived.Test.YtafomaiaobfkfaaGreatDoorPr27
import Derived.Test.YtafomaiaobfkfaaGreatDoorLexL
namespace Go.Proofs.YtafomaiaobfkfaaGreatDoor.Pr
open Go.RowKit Lx
set_option linter.unusedVariables false
set_option linter.unusedSimpArgs false

def p10 : Nat → Nat
  | 0 => 1
  | j + 1 => p10 j * 10
theorem p10_18 : p10 18 = 1000000000000000000 := by decide
theorem p10_le (j : Nat) (h : j ≤ 18) : p10 j ≤ 1000000000000000000 := by
  have : ∀ j, j ≤ 18 → p10 j ≤ 1000000000000000000 := by decide
  exact this j h
def valD : L → Nat
  | [] => 0
  | b :: r => (b.toNat - 48) * p10 r.length + valD r
theorem dig_le {b : UInt8} (h : digitB b = true) : 48 ≤ b.toNat ∧ b.toNat ≤ 57 := by simpa [digitB] using h
theorem decFrom_val : ∀ (l : L) (acc : Nat), (∀ b ∈ l, digitB b = true) → Lib.decFrom acc l = some (acc * p10 l.length + valD l)
  | [], acc, _ => by simp [Lib.decFrom, valD, p10]
  | b :: r, acc, h => by
    have hb := dig_le (h b (by simp))
    have ih := decFrom_val r (acc * 10 + (b.toNat - 48)) (fun c hc => h c (by simp [hc]))
    have e : Lib.digitVal b = some (b.toNat - 48) := by simp [Lib.digitVal, hb]
    simp only [Lib.decFrom, e, ih, valD, List.length_cons, p10]
    congr 1
    rw [Nat.add_mul, Nat.mul_assoc, Nat.mul_comm 10, Nat.add_assoc]
theorem atoi_val (b : UInt8) (r : L) (h : ∀ c ∈ b :: r, digitB c = true) : Lib.atoi (b :: r) = some ((valD (b :: r) : Nat) : Int) := by
  have hb := dig_le (h b (by simp))
  have e1 : (b == 45) = false := by
    rw [beq_eq_false_iff_ne]
    rintro rfl
    simp at hb
  have e2 : (b == 43) = false := by
    rw [beq_eq_false_iff_ne]
    rintro rfl
    simp at hb
  simp only [Lib.atoi, e1, e2, Bool.false_eq_true, if_false, Lib.decNat, List.isEmpty_cons]
  rw [decFrom_val _ _ h]
  simp
theorem takeWhile_all {p : UInt8 → Bool} : ∀ {l : L}, (∀ b ∈ l, p b = true) → l.takeWhile p = l ∧ l.dropWhile p = []
  | [], _ => ⟨rfl, rfl⟩
  | b :: r, h => by
    have hb := h b (by simp)
    have ih := takeWhile_all (l := r) (fun c hc => h c (by simp [hc]))
    simp [List.takeWhile_cons, List.dropWhile_cons, hb, ih.1, ih.2]
theorem takeWhile_x {p : UInt8 → Bool} (c : UInt8) (hc : p c = false) : ∀ {l : L}, (∀ b ∈ l, p b = true) → (l ++ [c]).takeWhile p = l ∧ (l ++ [c]).dropWhile p = [c]
  | [], _ => by simp [List.takeWhile_cons, List.dropWhile_cons, hc]
  | b :: r, h => by
    have hb := h b (by simp)
    have ih := takeWhile_x c hc (l := r) (fun c hc => h c (by simp [hc]))
    simp [List.takeWhile_cons, List.dropWhile_cons, hb, ih.1, ih.2]
theorem tok_dig {b : UInt8} (r : L) (hb : digitB b = true) : skipB false (b :: r) = b :: r ∧ tokL (b :: r) = numberL (b :: r) := by
  have h := dig_le hb
  have h1 : spB b = false := by
    simp only [spB, Bool.or_eq_false_iff, decide_eq_false_iff_not]
    omega
  have h2 : smallB b = false := by
    simp only [smallB, Bool.and_eq_false_iff, decide_eq_false_iff_not]
    omega
  constructor
  · simp only [skipB, h1, Bool.false_eq_true, if_false]
    rw [if_neg (by omega)]
  · simp only [tokL, h2, hb, Bool.false_eq_true, if_false, if_true]
theorem toks_dig {b : UInt8} (r : L) (hb : digitB b = true) (e : Int) (h : numberL (b :: r) = .bad e) : toks (b :: r) = .bad 0 e := by
  unfold toks
  rw [toksF_step, (tok_dig r hb).1]
  simp only [Lx.stepT, (tok_dig r hb).2, h, Nat.sub_self]
theorem toks_digits (b : UInt8) (r : L) (h : ∀ c ∈ b :: r, digitB c = true) (hl : (b :: r).length ≤ 18) (hh : r = [] ∨ b ≠ 48) : toks (b :: r) = .ok [⟨3, 0, b :: r⟩] := by
  have hb := h b (by simp)
  obtain ⟨t1, t2⟩ := takeWhile_all h
  have hn : numberL (b :: r) = .got 3 (b :: r) [] := by
    unfold numberL
    rw [t1, t2, if_neg]
    simp only [headIs, Bool.false_eq_true, or_false, List.head?_cons, Option.some.injEq, not_or, not_and]
    refine ⟨by omega, fun h48 => ?_⟩
    rcases hh with rfl | hh
    · simp
    · exact absurd h48 hh
  unfold toks
  rw [toksF_step, (tok_dig r hb).1]
  simp only [Lx.stepT, (tok_dig r hb).2, hn, Nat.sub_self, List.length_cons]
  rw [toksF_step]
  simp [skipB, Lx.stepT, Out.push]
theorem toks_zero (b : UInt8) (r : L) (h : ∀ c ∈ b :: r, digitB c = true) : toks (48 :: b :: r) = .bad 0 141 := by
  refine toks_dig _ (by decide) _ ?_
  have h' : ∀ c ∈ (48 : UInt8) :: b :: r, digitB c = true := by
    intro c hc
    rcases List.mem_cons.1 hc with rfl | hc
    · decide
    · exact h c hc
  obtain ⟨t1, t2⟩ := takeWhile_all h'
  unfold numberL
  rw [t1, if_pos]
  exact .inr (.inl ⟨by simp, by simp⟩)
theorem toks_letter (b : UInt8) (r : L) (h : ∀ c ∈ b :: r, digitB c = true) : toks ((b :: r) ++ [120]) = .bad 0 141 := by
  obtain ⟨t1, t2⟩ := takeWhile_x (p := digitB) 120 (by decide) h
  rw [List.cons_append] at t1 t2 ⊢
  refine toks_dig _ (h b (by simp)) _ ?_
  unfold numberL
  rw [t2, if_pos]
  exact .inr (.inr (by decide))

theorem toksS_small (s : ByteArray) (h : s.size ≤ 65536) : toksS s = toks s.data.toList := by unfold toksS; rw [if_neg (by omega)]
theorem value_dig (b : UInt8) (r : L) (h : ∀ c ∈ b :: r, digitB c = true) (hl : (b :: r).length ≤ 18) (hh : r = [] ∨ b ≠ 48) (k : Nat) :
    lexer_Value.f (k + 1) 3 0 ⟨(b :: r).toArray⟩ = some (((valD (b :: r) : Nat) : Int), 0) := by
  have hs : (⟨(b :: r).toArray⟩ : ByteArray).size = (b :: r).length := by simp [ByteArray.size]
  have ht : lexer_Tokens.f ⟨(b :: r).toArray⟩ = some ([⟨3, 0, ⟨(b :: r).toArray⟩⟩], 0, 0) := by
    unfold lexer_Tokens.f
    rw [toksS_small _ (by omega)]
    rw [show (⟨(b :: r).toArray⟩ : ByteArray).data.toList = b :: r from rfl, toks_digits b r h hl hh]
    rfl
  have hi : lexer_isToken.f (k + 1) 3 0 ⟨(b :: r).toArray⟩ = some true := by
    unfold lexer_isToken.f
    rw [show lexer_write.f 3 0 ⟨(b :: r).toArray⟩ = some ⟨(b :: r).toArray⟩ from rfl]
    simp only [Option.bind_some, ht]
    simp [rd_T44, lexer_isToken.j0]
  unfold lexer_Value.f
  rw [if_pos rfl, hi]
  simp only [Option.bind_some, if_true]
  unfold strconv_Atoi.f
  rw [if_pos (by omega), show (⟨(b :: r).toArray⟩ : ByteArray).data.toList = b :: r from rfl, atoi_val b r h]
  rfl

theorem numbers_j1 (n : Int) (b : UInt8) (r : L) (h : ∀ c ∈ b :: r, digitB c = true) (hl : (b :: r).length ≤ 18) (hh : r = [] ∨ b ≠ 48) (hv : ((valD (b :: r) : Nat) : Int) = n) (k : Nat) :
    antiquarylaw14_LexerNumbersAreExact.j1 (k + 2) n [⟨3, 0, ⟨(b :: r).toArray⟩⟩] false = some true := by
  simp only [antiquarylaw14_LexerNumbersAreExact.j1]
  rw [if_neg (by simp), if_pos (by simp)]
  simp only [rd_T44, Int.toNat_zero, List.getD_cons_zero]
  rw [value_dig b r h hl hh k]
  rw [show antiquarylaw14_sanity.f (k + 1) = some true from rfl]
  simp only [Option.bind_some, if_true, hv, beq_self_eq_true]
  rfl

theorem strOne (k : Nat) (acc : L) : ∃ d : UInt8, d.toNat = 48 + k % 10 ∧ strOfNums [wrap64 (48 + Int.tmod (k : Int) 10) % 256] ++ ⟨acc.toArray⟩ = (⟨(d :: acc).toArray⟩ : ByteArray) ∧
    (strOfNums [wrap64 (48 + Int.tmod (k : Int) 10) % 256]).size = 1 := by
  have hk : k % 10 < 10 := Nat.mod_lt _ (by omega)
  have e : wrap64 (48 + Int.tmod (k : Int) 10) % 256 = ((48 + k % 10 : Nat) : Int) := by
    have e1 : Int.tmod (k : Int) 10 = ((k % 10 : Nat) : Int) := by
      rw [Int.tmod_eq_emod_of_nonneg (by omega)]
      rfl
    rw [e1]
    unfold wrap64
    omega
  have hd : (UInt8.ofNat (48 + k % 10)).toNat = 48 + k % 10 := by simp; omega
  refine ⟨UInt8.ofNat (48 + k % 10), hd, ?_, ?_⟩
  · have := str_ints [UInt8.ofNat (48 + k % 10)]
    simp only [ints, List.map_cons, List.map_nil, hd] at this
    rw [e, this]
    simp [ByteArray.ext_iff]
  · have := str_ints [UInt8.ofNat (48 + k % 10)]
    simp only [ints, List.map_cons, List.map_nil, hd] at this
    rw [e, this]
    rfl
end Go.Proofs.YtafomaiaobfkfaaGreatDoor.Pr
