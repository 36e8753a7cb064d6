/-
  LexerNumbersAreExact: what the walked law computes is true, whatever the number: plain Lean. Conditions: each theorem's own.
-/
import Derived.Test.YtafomaiaobfkfaaGreatDoorLawN0
namespace Go.Proofs.YtafomaiaobfkfaaGreatDoor.Pr
open Go.RowKit Lx
set_option linter.unusedVariables false
set_option linter.unusedSimpArgs false

theorem ar4 (k q : Nat) (h : k < q * 10) : k / 10 < q := by omega
theorem ar5 (a : Nat) (h : a ≤ 18) : 1 + a ≤ 9223372036854775807 := by omega
theorem ar6 (a : Nat) (h : a ≤ 18) : a + 1 ≤ 9223372036854775807 := by omega
theorem ar7 (k x : Nat) (h1 : 48 = 48 + k % 10) (h0 : k / 10 = 0) (hp : 0 < k) : False := by omega
theorem ar8 (k : Nat) (h : k < 1000000000000000000) : wrap64 (Int.tdiv (k : Int) 10) = ((k / 10 : Nat) : Int) := by
  have e1 : Int.tdiv (k : Int) 10 = ((k / 10 : Nat) : Int) := by
    rw [Int.tdiv_eq_ediv_of_nonneg (by omega)]
    rfl
  rw [e1]
  unfold wrap64
  omega
theorem ar9 (k A V n q : Nat) (h : k * A + V = n) : k / 10 * (A * 10) + (k % 10 * A + V) = n := by
  have e := Nat.div_add_mod k 10
  have e3 : k / 10 * (A * 10) = (10 * (k / 10)) * A := by rw [Nat.mul_comm 10 (k / 10), Nat.mul_assoc, Nat.mul_comm A 10]
  rw [e3, ← Nat.add_assoc, ← Nat.add_mul, e]
  exact h
theorem dig_new (k : Nat) (d : UInt8) (h : d.toNat = 48 + k % 10) : digitB d = true := by
  have := Nat.mod_lt k (show 0 < 10 by omega)
  simp only [digitB, Bool.and_eq_true, decide_eq_true_eq]
  omega

theorem numbers_fin (n : Nat) (b : UInt8) (r : L) (K : Nat) (hl : (b :: r).length ≤ 18) (hd : ∀ c ∈ b :: r, digitB c = true) (hv : valD (b :: r) = n) (hh : r = [] ∨ b ≠ 48) :
    antiquarylaw14_LexerNumbersAreExact.l0 (K + 3) (n : Int) ⟨(b :: r).toArray⟩ 0 = some true := by
  have hsz : (⟨(b :: r).toArray⟩ : ByteArray).size = (b :: r).length := by simp [ByteArray.size]
  have t1 : lexer_Tokens.f ⟨(b :: r).toArray⟩ = some ([⟨3, 0, ⟨(b :: r).toArray⟩⟩], 0, 0) := by
    unfold lexer_Tokens.f
    rw [toksS_small _ (by omega), show (⟨(b :: r).toArray⟩ : ByteArray).data.toList = b :: r from rfl, toks_digits b r hd hl hh]
    rfl
  have t2 : lexer_Tokens.f ((⟨#[48]⟩ : ByteArray) ++ ⟨(b :: r).toArray⟩) = some ([], 0, 141) := by
    unfold lexer_Tokens.f
    have e : ((⟨#[48]⟩ : ByteArray) ++ ⟨(b :: r).toArray⟩).data.toList = 48 :: b :: r := by simp
    have e1 : (⟨#[48]⟩ : ByteArray).size = 1 := rfl
    rw [toksS_small _ (by rw [ByteArray.size_append, hsz, e1]; omega), e, toks_zero b r hd]
    rfl
  have t3 : lexer_Tokens.f ((⟨(b :: r).toArray⟩ : ByteArray) ++ ⟨#[120]⟩) = some ([], 0, 141) := by
    unfold lexer_Tokens.f
    have e : ((⟨(b :: r).toArray⟩ : ByteArray) ++ ⟨#[120]⟩).data.toList = (b :: r) ++ [120] := by simp
    have e1 : (⟨#[120]⟩ : ByteArray).size = 1 := rfl
    rw [toksS_small _ (by rw [ByteArray.size_append, hsz, e1]; omega), e, toks_letter b r hd]
    rfl
  have tl : (⟨(b :: r).toArray⟩ : ByteArray).toList = b :: r := by
    rw [ByteArray.toList_eq]
  unfold antiquarylaw14_LexerNumbersAreExact.l0
  rw [if_neg (by omega), tl, if_neg (by simp)]
  simp only [t1, t2, t3, Option.bind_some]
  rw [hsz, if_pos (ar5 _ hl), if_pos (ar6 _ hl), if_pos trivial, if_pos (by simp), if_neg (by decide)]
  exact numbers_j1 (n : Int) b r hd hl hh (by rw [hv]) K

theorem numbers_l0 (n : Nat) (m : Nat) : ∀ (acc : L) (k K : Nat), acc.length + m = 18 → m + 6 < K → (∀ c ∈ acc, digitB c = true) → k * p10 acc.length + valD acc = n → k < p10 m →
    (k = 0 → acc = [] ∨ acc = [48] ∨ acc.head? ≠ some 48) → antiquarylaw14_LexerNumbersAreExact.l0 K (n : Int) ⟨acc.toArray⟩ (k : Int) = some true := by
  have fin : ∀ (acc : L) (k K : Nat), acc.length ≤ 18 → 6 < K → (∀ c ∈ acc, digitB c = true) → k * p10 acc.length + valD acc = n → k = 0 → acc ≠ [] → (k = 0 → acc = [] ∨ acc = [48] ∨ acc.head? ≠ some 48) →
      antiquarylaw14_LexerNumbersAreExact.l0 K (n : Int) ⟨acc.toArray⟩ (k : Int) = some true := by
    intro acc k K hl hK hd hv h0 hne hh
    subst h0
    obtain ⟨K, rfl⟩ : ∃ K', K = K' + 3 := ⟨K - 3, by omega⟩
    match acc, hne, hd, hv, hl, hh with
    | b :: r, _, hd, hv, hl, hh =>
      refine numbers_fin n b r K hl hd (by simpa using hv) ?_
      rcases hh rfl with h | h | h
      · cases h
      · injection h with h1 h2
        exact .inl h2
      · right
        intro e
        subst e
        simp at h
  induction m with
  | zero =>
    intro acc k K hm hK hd hv hk hh
    have h0 : k = 0 := by
      have : p10 0 = 1 := rfl
      omega
    refine fin acc k K (by omega) (by omega) hd hv h0 ?_ hh
    rintro rfl
    simp at hm
  | succ m ih =>
    intro acc k K hm hK hd hv hk hh
    by_cases hc : 0 < k ∨ acc = []
    · obtain ⟨K, rfl⟩ : ∃ K', K = K' + 1 := ⟨K - 1, by omega⟩
      obtain ⟨d, hd1, hd2, hd3⟩ := strOne k acc
      have hlt : k < 1000000000000000000 := Nat.lt_of_lt_of_le hk (p10_le (m + 1) (by omega))
      have hsz : (⟨acc.toArray⟩ : ByteArray).size = acc.length := by simp [ByteArray.size]
      have hstep := ih (d :: acc) (k / 10) K (by rw [List.length_cons]; omega) (by omega)
        (by
          intro c hc'
          rcases List.mem_cons.1 hc' with rfl | hc'
          · exact dig_new k _ hd1
          · exact hd c hc')
        (by
          simp only [valD, List.length_cons, p10, hd1]
          rw [show 48 + k % 10 - 48 = k % 10 from by omega]
          exact ar9 k _ _ n 0 hv)
        (ar4 k _ hk)
        (by
          intro h0
          rcases Nat.eq_zero_or_pos k with h | hp
          · rcases hc with hc | rfl
            · exact absurd h (Nat.ne_of_gt hc)
            · right; left
              have : d = 48 := by
                apply UInt8.toNat_inj.1
                rw [hd1, h]
                rfl
              rw [this]
          · right; right
            intro e
            injection e with e
            rw [e] at hd1
            exact ar7 k 0 hd1 h0 hp)
      rw [← hd2, ← ar8 k hlt] at hstep
      have ha : acc.length ≤ 18 := by omega
      have hsize : (strOfNums [wrap64 (48 + Int.tmod (k : Int) 10) % 256]).size + (⟨acc.toArray⟩ : ByteArray).size ≤ 9223372036854775807 := by
        rw [hd3, hsz]
        exact ar5 _ ha
      have tl : (⟨acc.toArray⟩ : ByteArray).toList = acc := by rw [ByteArray.toList_eq]
      unfold antiquarylaw14_LexerNumbersAreExact.l0
      by_cases hpos : 0 < k
      · rw [if_pos (show (k : Int) > 0 from Int.natCast_pos.2 hpos)]
        simp only [Option.bind_some]
        rw [if_pos hsize]
        exact hstep
      · rw [if_neg (show ¬ (k : Int) > 0 from fun h => hpos (Int.natCast_pos.1 h)), tl, if_pos (hc.resolve_left hpos)]
        simp only [Option.bind_some]
        rw [if_pos hsize]
        exact hstep
    · have h0 : k = 0 := by omega
      exact fin acc k K (by omega) (by omega) hd hv h0 (fun h => hc (.inr h)) hh

theorem numbers (n : Int) (h : (Lit.int .u64 n).wf = true) : ∃ k, antiquarylaw14_LexerNumbersAreExact.f k n = some true := by
  refine ⟨100, ?_⟩
  have h0 : 0 ≤ n := by
    simp [Lit.wf] at h
    have e : IntKind.u64.min = 0 := rfl
    omega
  obtain ⟨a, rfl⟩ := Int.eq_ofNat_of_zero_le h0
  have e : wrap64 (Int.tmod ((a : Nat) : Int) 1000000000000000000) = ((a % 1000000000000000000 : Nat) : Int) := by
    have e1 : Int.tmod ((a : Nat) : Int) 1000000000000000000 = ((a % 1000000000000000000 : Nat) : Int) := by
      rw [Int.tmod_eq_emod_of_nonneg (by omega)]
      rfl
    rw [e1]
    unfold wrap64
    omega
  unfold antiquarylaw14_LexerNumbersAreExact.f
  rw [e]
  have hlt : a % 1000000000000000000 < 1000000000000000000 := Nat.mod_lt a (by omega)
  exact numbers_l0 _ 18 [] _ 100 rfl (by omega) (by simp) (by simp [valD, p10]) (by rw [p10_18]; exact hlt) (fun _ => .inl rfl)
end Go.Proofs.YtafomaiaobfkfaaGreatDoor.Pr
