/-
  LexerWritesAsSpecified: what the walked law computes is true, whatever the tokens: plain Lean. Conditions: each theorem's own.
-/
import Derived.Test.YtafomaiaobfkfaaGreatDoorPr33
import Derived.Test.YtafomaiaobfkfaaGreatDoorLawW0
namespace Go.Proofs.YtafomaiaobfkfaaGreatDoor.Pr
open Go.RowKit Lx Go.Proofs.YtafomaiaobfkfaaGreatDoorW.PrintWords
set_option linter.unusedVariables false
set_option linter.unusedSimpArgs false

/-! ### Value -/
theorem p10_17 (i : Nat) (h : i ≤ 17) : p10 i ≤ 100000000000000000 := by
  have : ∀ j, j ≤ 17 → p10 j ≤ 100000000000000000 := by decide
  exact this i h
theorem ar1 (v d q : Nat) (hq : q ≤ 100000000000000000) (hv : v < q) (hd : d ≤ 9) : wrap64 (wrap64 (10 * (v : Int)) + (((d + 48 : Nat) : Int) - 48) % 256) = ((v * 10 + d : Nat) : Int) := by
  unfold wrap64
  omega
theorem ar2 (v d q : Nat) (hv : v < q) (hd : d ≤ 9) : v * 10 + d < q * 10 := by omega
theorem ar3 (v d P V : Nat) : (v * 10 + d) * P + V = v * (P * 10) + (d * P + V) := by
  rw [Nat.add_mul, Nat.mul_assoc, Nat.mul_comm 10, Nat.add_assoc]
theorem value_l0 (s : ByteArray) (hd : ∀ c ∈ s.data.toList, digitB c = true) (hl : s.size ≤ 18) (a b : Int) (m : Nat) : ∀ (i v k : Nat), i + m = s.size → v < p10 i → m < k →
    antiquaryref14_Value.l0 k (v : Int) (i : Int) a b s = some (((v * p10 m + valD (sl s i) : Nat) : Int), 0) := by
  induction m with
  | zero =>
    intro i v k hm hv hk
    obtain ⟨k, rfl⟩ : ∃ k', k = k' + 1 := ⟨k - 1, by omega⟩
    rw [antiquaryref14_Value.l0, if_neg (by omega), sl_nil s i (by omega)]
    simp [valD, p10]
  | succ m ih =>
    intro i v k hm hv hk
    obtain ⟨k, rfl⟩ : ∃ k', k = k' + 1 := ⟨k - 1, by omega⟩
    have h : i < s.size := by omega
    have hb := btR s i h
    have hw := wrS i (by omega)
    have hdig := dig_le (hd s[i] (by
      have : sl s i = s[i] :: sl s (i + 1) := sl_cons s i h
      have h2 : s[i] ∈ sl s i := by rw [this]; simp
      exact List.mem_of_mem_drop h2))
    obtain ⟨d, hde⟩ : ∃ d, s[i].toNat = d + 48 := ⟨s[i].toNat - 48, by omega⟩
    have hd9 : d ≤ 9 := by omega
    have hq := p10_17 i (by omega)
    have hlen : (sl s (i + 1)).length = m := by rw [sl_len]; omega
    have hval : valD (sl s i) = d * p10 m + valD (sl s (i + 1)) := by
      rw [sl_cons s i h]
      show (s[i].toNat - 48) * p10 (sl s (i + 1)).length + valD (sl s (i + 1)) = _
      rw [hlen, hde, Nat.add_sub_cancel]
    rw [antiquaryref14_Value.l0, if_pos (by omega), if_pos (by omega), hb, hw, hde, ar1 v d (p10 i) hq hv hd9, ih (i + 1) (v * 10 + d) k (by omega) (ar2 v d (p10 i) hv hd9) (by omega), hval, ar3]
    rfl
theorem values (a b : Int) (s : ByteArray) (hs : s.size ≤ 32000) (k : Nat) (hk : 500100 ≤ k) : ∃ q, lexer_Value.f k a b s = some q ∧ antiquaryref14_Value.f k a b s = some q := by
  obtain ⟨k, rfl⟩ : ∃ k', k = k' + 1 := ⟨k - 1, by omega⟩
  unfold lexer_Value.f antiquaryref14_Value.f
  by_cases ha : a = 3
  · subst ha
    rw [if_pos rfl, if_pos rfl, isToken_f 3 b s hs k, possible_f 3 b s hs k (by omega)]
    simp only [Option.bind_some]
    cases ht : isTok 3 s with
    | false => exact ⟨(0, 1), by simp, by simp [antiquaryref14_Value.j0]⟩
    | true =>
      obtain ⟨h1, h2, h3⟩ := isTok_num s hs ht
      have h4 : s.size ≤ 18 := by simpa using h3
      obtain ⟨c, r, hcr⟩ : ∃ c r, s.data.toList = c :: r := by
        cases hq : s.data.toList with
        | nil => exact absurd hq h1
        | cons c r => exact ⟨c, r, rfl⟩
      have hv := value_l0 s h2 h4 3 b s.size 0 0 k (by omega) (by simp [p10]) (by omega)
      refine ⟨(((valD s.data.toList : Nat) : Int), 0), ?_, ?_⟩
      · rw [if_pos rfl]
        unfold strconv_Atoi.f
        rw [if_pos h4, hcr, atoi_val c r (by rw [← hcr]; exact h2)]
        rfl
      · simp only [antiquaryref14_Value.j0, Bool.not_true, Bool.false_eq_true, if_false]
        rw [sl_full] at hv
        simpa using hv
  · rw [if_neg ha, if_neg ha]
    exact ⟨(0, 1), rfl, by simp [antiquaryref14_Value.j0]⟩

/-! ### Text -/
abbrev spS : ByteArray := ⟨#[32]⟩
theorem join_snoc (xs : List L) (y sep : L) : Lib.join (xs ++ [y]) sep = if xs = [] then y else Lib.join xs sep ++ sep ++ y := by
  match xs with
  | [] => simp [Lib.join_one]
  | x :: r =>
    rw [if_neg (by simp), List.cons_append, Lib.join_cons, Lib.join_cons]
    simp [Lib.joinTail]
theorem joinS_snoc (xs : List ByteArray) (y : ByteArray) : joinS (xs ++ [y]) spS = if xs = [] then y.data.toList else joinS xs spS ++ [32] ++ y.data.toList := by
  unfold joinS
  rw [List.map_append, List.map_cons, List.map_nil, join_snoc]
  simp
theorem bytes_ints (s : ByteArray) : bytesOf s = ints s.data.toList := rfl
theorem rdW (xs : List S44) (i : Nat) (h : i < xs.length) : rd_T44 xs (i : Int) = xs[i] := by simp [rd_T44, List.getD, h]
theorem text_both (l : List S44) (hl : l.length ≤ 100) (hs : ∀ x ∈ l, x.f2.size ≤ 300) (m : Nat) : ∀ (i k1 k2 : Nat) (out : List ByteArray), i + m = l.length → out.length = i → (joinS out spS).length ≤ 603 * i →
    500100 + m ≤ k1 → 500100 + 2 * m ≤ k2 → ∃ q, lexer_Text.l0 k1 out l (l.length : Int) (i : Int) = some q ∧ antiquaryref14_Text.l0 k2 l (ints (joinS out spS)) (i : Int) = some q := by
  induction m with
  | zero =>
    intro i k1 k2 out hm ho hj h1 h2
    obtain ⟨k1, rfl⟩ : ∃ k', k1 = k' + 1 := ⟨k1 - 1, by omega⟩
    obtain ⟨k2, rfl⟩ : ∃ k', k2 = k' + 1 := ⟨k2 - 1, by omega⟩
    have hsz : (⟨(joinS out spS).toArray⟩ : ByteArray).size = (joinS out spS).length := List.size_toArray
    rw [lexer_Text.l0, antiquaryref14_Text.l0, if_neg (by omega), if_neg (by omega), ints_len, str_ints]
    have hjn : strings_Join.f out ⟨#[32]⟩ = some ⟨(joinS out spS).toArray⟩ := by
      unfold strings_Join.f
      exact if_pos ⟨by omega, Nat.le_trans hj (by omega)⟩
    rw [hjn]
    simp only [Option.bind_some]
    rw [hsz]
    by_cases hb : ((joinS out spS).length : Int) > 65536
    · rw [if_pos hb]
      exact ⟨_, rfl, rfl⟩
    · rw [if_neg hb]
      exact ⟨_, rfl, rfl⟩
  | succ m ih =>
    intro i k1 k2 out hm ho hj h1 h2
    obtain ⟨k1, rfl⟩ : ∃ k', k1 = k' + 2 := ⟨k1 - 2, by omega⟩
    obtain ⟨k2, rfl⟩ : ∃ k', k2 = k' + 3 := ⟨k2 - 3, by omega⟩
    have hi : i < l.length := by omega
    have hx := rdW l i hi
    obtain ⟨x, hxe⟩ : ∃ x, x = l[i] := ⟨_, rfl⟩
    rw [← hxe] at hx
    have hxs := hs x (by rw [hxe]; exact List.getElem_mem hi)
    have hw := wrS i (by omega)
    have hz := wrS44_size x.f0 x.f2
    rw [lexer_Text.l0, antiquaryref14_Text.l0, if_pos (by omega), if_pos (by omega), if_pos (by omega), if_pos (by omega), if_pos (by omega), hx, isToken_f _ _ _ (by omega) k1, possible_f _ _ _ (by omega) (k2 + 1) (by omega)]
    simp only [Option.bind_some]
    cases isTok x.f0 x.f2 with
    | false => exact ⟨(⟨#[]⟩, 1), by simp, by simp⟩
    | true =>
      rw [if_pos rfl, if_pos rfl, lexer_write_f _ _ _ (by omega)]
      simp only [Option.bind_some]
      have hsn := joinS_snoc out (wrS44 x.f0 x.f2)
      have hdl : (wrS44 x.f0 x.f2).data.toList.length = (wrS44 x.f0 x.f2).size := by simp
      rw [if_pos (by omega), hw]
      have hjl : (joinS (out ++ [wrS44 x.f0 x.f2]) spS).length ≤ 603 * (i + 1) := by
        rw [hsn]
        split
        · omega
        · simp only [List.length_append, List.length_cons, List.length_nil]
          omega
      obtain ⟨q, e1, e2⟩ := ih (i + 1) (k1 + 1) (k2 + 1) (out ++ [wrS44 x.f0 x.f2]) (by omega) (by simp; omega) hjl (by omega) (by omega)
      refine ⟨q, e1, ?_⟩
      rw [← e2, hsn]
      have hil := ints_len (joinS out spS)
      by_cases h0 : i = 0
      · have hon : out = [] := List.eq_nil_of_length_eq_zero (by omega)
        subst hon
        rw [if_neg (by omega), if_pos rfl]
        have hj0 : joinS [] spS = [] := rfl
        rw [antiquaryref14_Text.j1, if_pos (by omega), if_pos (by omega), hx, written_f _ _ _ (by omega) _ (by omega)]
        simp only [Option.bind_some]
        rw [if_pos (by rw [hj0]; simp [ints]; omega), hw, hj0, bytes_ints]
        simp [ints]
      · have hon : out ≠ [] := by rintro rfl; simp at ho; omega
        rw [if_pos (by omega), if_pos (by omega), if_neg hon]
        rw [antiquaryref14_Text.j1, if_pos (by omega), if_pos (by omega), hx, written_f _ _ _ (by omega) _ (by omega)]
        simp only [Option.bind_some]
        rw [if_pos (by simp only [List.length_append, List.length_cons, List.length_nil, hil]; omega), hw, bytes_ints]
        simp [ints]
theorem texts (l : List S44) (hl : l.length ≤ 100) (hs : ∀ x ∈ l, x.f2.size ≤ 300) (k : Nat) (hk : 500400 ≤ k) : ∃ q, lexer_Text.f k l = some q ∧ antiquaryref14_Text.f k l = some q := by
  unfold lexer_Text.f antiquaryref14_Text.f
  have := text_both l hl hs l.length 0 k k [] (by omega) rfl (by simp [joinS, Lib.join_nil]) (by omega) (by omega)
  exact this

/-! ### the law -/
theorem writes_l0 (l : List S44) (hl : l.length ≤ 100) (m : Nat) : ∀ (i k : Nat), i + m = l.length → (∀ (j : Nat) (h : j < l.length), j < i → l[j].f2.size ≤ 300) → 600000 + m ≤ k →
    antiquarylaw14_LexerWritesAsSpecified.l0 k l (i : Int) = some true := by
  induction m with
  | zero =>
    intro i k hm hs hk
    obtain ⟨k, rfl⟩ : ∃ k', k = k' + 2 := ⟨k - 2, by omega⟩
    have hsan : antiquarylaw14_sanity.f (k + 1) = some true := rfl
    obtain ⟨q, e1, e2⟩ := texts l hl (fun x hx => by
      obtain ⟨j, hj, rfl⟩ := List.getElem_of_mem hx
      exact hs j hj (by omega)) (k + 1) (by omega)
    rw [antiquarylaw14_LexerWritesAsSpecified.l0, if_neg (by omega), e1, e2, hsan]
    simp [antiquarylaw14_LexerWritesAsSpecified.j1]
  | succ m ih =>
    intro i k hm hs hk
    obtain ⟨k, rfl⟩ : ∃ k', k = k' + 1 := ⟨k - 1, by omega⟩
    have hsan : antiquarylaw14_sanity.f k = some true := rfl
    have hi : i < l.length := by omega
    have hx := rdW l i hi
    rw [antiquarylaw14_LexerWritesAsSpecified.l0, if_pos (by omega), if_pos (by omega), hx]
    by_cases hz : (l[i].f2.size : Int) > 300
    · rw [if_pos hz, hsan]
      rfl
    · rw [if_neg hz]
      obtain ⟨q, e1, e2⟩ := values l[i].f0 l[i].f1 l[i].f2 (by omega) k (by omega)
      rw [e1, e2]
      simp only [Option.bind_some, if_true]
      rw [wrS i (by omega)]
      exact ih (i + 1) k (by omega) (fun j hj hji => by
        by_cases e : j = i
        · subst e; omega
        · exact hs j hj (by omega)) (by omega)
theorem writes (l : List S44) : ∃ k, antiquarylaw14_LexerWritesAsSpecified.f k l = some true := by
  refine ⟨700000, ?_⟩
  unfold antiquarylaw14_LexerWritesAsSpecified.f
  by_cases h : (l.length : Int) > 100
  · rw [if_pos h]
    rfl
  · rw [if_neg h]
    exact writes_l0 l (by omega) l.length 0 700000 (by omega) (fun j hj h => by omega) (by omega)
end Go.Proofs.YtafomaiaobfkfaaGreatDoor.Pr
