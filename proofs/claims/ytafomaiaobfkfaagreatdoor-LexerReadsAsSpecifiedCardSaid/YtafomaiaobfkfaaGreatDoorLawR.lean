/-
  LexerReadsAsSpecified: what the walked law computes is true, whatever the source and the offset: plain Lean. Conditions: each theorem's own.
-/
import Derived.Test.YtafomaiaobfkfaaGreatDoorPr25
import Derived.Test.YtafomaiaobfkfaaGreatDoorLawR3
namespace Go.Proofs.YtafomaiaobfkfaaGreatDoor.Pr
open Go.RowKit Lx Go.Proofs.YtafomaiaobfkfaaGreatDoorW.PrintWords
set_option linter.unusedVariables false
set_option linter.unusedSimpArgs false

/-! ### equal, words -/
theorem eqR_l0 (xs : List S44) (hm : xs.length < 4398046511104) (n : Nat) : ∀ (i k : Nat), i + n = xs.length → n < k → antiquarylaw14_equal.l0 k xs xs (i : Int) = some true := by
  induction n with
  | zero =>
    intro i k hn hk
    obtain ⟨k, rfl⟩ : ∃ k', k = k' + 1 := ⟨k - 1, by omega⟩
    rw [antiquarylaw14_equal.l0, if_neg (by omega)]
  | succ n ih =>
    intro i k hn hk
    obtain ⟨k, rfl⟩ : ∃ k', k = k' + 1 := ⟨k - 1, by omega⟩
    have e1 : wrap64 ((i : Int) + 1) = ((i + 1 : Nat) : Int) := by
      rw [wrR _ (by omega) (by omega)]
      rfl
    rw [antiquarylaw14_equal.l0, if_pos (by omega), if_pos (by omega), if_pos (by omega), e1, if_neg (by simp)]
    exact ih (i + 1) k (by omega) (by omega)
theorem eqR (xs : List S44) (hm : xs.length < 4398046511104) (k : Nat) (hk : xs.length < k) : antiquarylaw14_equal.f k xs xs = some true := by
  unfold antiquarylaw14_equal.f
  rw [if_pos rfl]
  exact eqR_l0 xs hm xs.length 0 k (by omega) hk
theorem wordsR (k : Nat) : antiquarylaw14_words.f (k + 7) wordsB wordsB = some true := by
  unfold antiquarylaw14_words.f
  rw [if_pos rfl]
  kernel_rfl

/-! ### Place -/
theorem last_take (s : ByteArray) (c : Int) : ∀ (n : Nat) (t : ByteArray), (∀ j, j < n → s.data[j]! = t.data[j]!) → Lib.lastIdx s c n = Lib.lastIdx t c n
  | 0, t, h => rfl
  | n + 1, t, h => by
    have ih := last_take s c n t (fun j hj => h j (by omega))
    simp only [Lib.lastIdx, ih, h n (by omega)]
theorem place_l0 (s : ByteArray) (hs : s.size ≤ 66000) (a : Nat) (ha : a ≤ s.size) (m : Nat) : ∀ (i k : Nat), i + m = a → m < k →
    antiquaryref14_Place.l0 k s (a : Int) (i : Int) (1 + ((Lib.countByte (s.data.toList.take i) 10 : Nat) : Int)) ((i : Int) - Lib.lastIdx s 10 i) =
      some (1 + ((Lib.countByte (s.data.toList.take a) 10 : Nat) : Int), (a : Int) - Lib.lastIdx s 10 a) := by
  induction m with
  | zero =>
    intro i k hm hk
    obtain ⟨k, rfl⟩ : ∃ k', k = k' + 1 := ⟨k - 1, by omega⟩
    obtain rfl : i = a := by omega
    rw [antiquaryref14_Place.l0, if_neg (by omega)]
  | succ m ih =>
    intro i k hm hk
    obtain ⟨k, rfl⟩ : ∃ k', k = k' + 1 := ⟨k - 1, by omega⟩
    have h : i < s.size := by omega
    have hb := btR s i h
    have hg : s.data[i]! = s[i] := by
      have : i < s.data.size := h
      rw [getElem!_pos s.data i this]
      rfl
    have hcnt : s.data.toList.take (i + 1) = s.data.toList.take i ++ [s[i]] := by
      rw [List.take_succ_eq_append_getElem (by simpa using h)]
      rfl
    have hcl : Lib.countByte (s.data.toList.take i) 10 ≤ i := by
      have := List.count_le_length (a := (10 : UInt8)) (l := s.data.toList.take i)
      unfold Lib.countByte
      simp at this
      omega
    have hli : -1 ≤ Lib.lastIdx s 10 i ∧ Lib.lastIdx s 10 i ≤ i := by
      rcases Lib.lastIdx_spec s 10 i with h | ⟨j, h1, h2, h3⟩
      · omega
      · omega
    have next := ih (i + 1) k (by omega) (by omega)
    rw [antiquaryref14_Place.l0, if_pos (by omega), if_pos (by omega), if_pos (by omega), hb, wrS i (by omega)]
    by_cases q : (s[i].toNat : Int) = 10
    · have h10 : s[i] = 10 := by
        apply UInt8.toNat_inj.1
        rw [show (10 : UInt8).toNat = 10 from rfl]
        omega
      rw [if_pos q]
      rw [hcnt, Lib.lastIdx_hit s 10 i (by rw [hg]; exact q)] at next
      have c1 : Lib.countByte (s.data.toList.take i ++ [s[i]]) 10 = Lib.countByte (s.data.toList.take i) 10 + 1 := by
        unfold Lib.countByte
        rw [List.count_append, h10]
        rfl
      rw [c1] at next
      rw [wrR _ (by omega) (by omega)]
      rw [show (1 + ((Lib.countByte (s.data.toList.take i) 10 : Nat) : Int)) + 1 = 1 + ((Lib.countByte (s.data.toList.take i) 10 + 1 : Nat) : Int) from by omega]
      rw [show (((i + 1 : Nat) : Int) - (i : Int)) = 1 from by omega] at next
      exact next
    · have h10 : ¬ s[i] = 10 := by
        intro e
        rw [e] at q
        exact q rfl
      rw [if_neg q]
      rw [hcnt, Lib.lastIdx_miss s 10 i (by rw [hg]; exact q)] at next
      have c1 : Lib.countByte (s.data.toList.take i ++ [s[i]]) 10 = Lib.countByte (s.data.toList.take i) 10 := by
        unfold Lib.countByte
        rw [List.count_append, List.count_singleton]
        simp [h10]
      rw [c1] at next
      rw [wrR _ (by omega) (by omega)]
      rw [show (i : Int) - Lib.lastIdx s 10 i + 1 = ((i + 1 : Nat) : Int) - Lib.lastIdx s 10 i from by omega]
      exact next
theorem places (s : ByteArray) (hs : s.size ≤ 66000) (x : Int) (k : Nat) (hk : s.size + 10 ≤ k) : ∃ q, lexer_Place.f k s x = some q ∧ antiquaryref14_Place.f k s x = some q := by
  obtain ⟨k, rfl⟩ : ∃ k', k = k' + 1 := ⟨k - 1, by omega⟩
  unfold lexer_Place.f antiquaryref14_Place.f
  have big : lexer_Place.j0 (k + 1) s x true = some (0, 0) ∧ antiquaryref14_Place.j0 (k + 1) s x true = some (0, 0) := ⟨by simp [lexer_Place.j0], by simp [antiquaryref14_Place.j0]⟩
  by_cases h0 : x < 0
  · rw [if_pos h0, if_pos h0]
    exact ⟨_, big.1, big.2⟩
  · rw [if_neg h0, if_neg h0]
    by_cases h1 : x > (s.size : Int)
    · rw [decide_eq_true h1]
      exact ⟨_, big.1, big.2⟩
    · rw [decide_eq_false h1]
      obtain ⟨a, rfl⟩ := Int.eq_ofNat_of_zero_le (show 0 ≤ x by omega)
      have ha : a ≤ s.size := by omega
      have hp := place_l0 s hs a ha a 0 k (by omega) (by omega)
      simp only [List.take_zero] at hp
      have hc0 : Lib.countByte ([] : L) 10 = 0 := rfl
      have hl0 : Lib.lastIdx s 10 0 = -1 := rfl
      rw [hc0, hl0] at hp
      have hcl : Lib.countByte (s.data.toList.take a) 10 ≤ a := by
        have := List.count_le_length (a := (10 : UInt8)) (l := s.data.toList.take a)
        unfold Lib.countByte
        simp at this
        omega
      have hli : -1 ≤ Lib.lastIdx s 10 a ∧ Lib.lastIdx s 10 a ≤ a := by
        rcases Lib.lastIdx_spec s 10 a with h | ⟨j, h1, h2, h3⟩
        · omega
        · omega
      refine ⟨(1 + ((Lib.countByte (s.data.toList.take a) 10 : Nat) : Int), (a : Int) - Lib.lastIdx s 10 a), ?_, ?_⟩
      rotate_left
      · simp only [antiquaryref14_Place.j0]
        rw [if_neg (by simp)]
        exact hp
      · simp only [lexer_Place.j0]
        rw [if_neg (by simp), if_pos (by omega), if_pos (by omega)]
        simp only [Int.toNat_natCast, Int.ofNat_eq_natCast]
        have hcut : (s.extract 0 a).data.toList = s.data.toList.take a := by rw [Lib.extract_data]; simp
        have hsz : (s.extract 0 a).size = a := by
          rw [ByteArray.size_extract]
          omega
        have c1 : strings_Count.f (s.extract 0 a) (⟨#[10]⟩ : ByteArray) = some ((Lib.countByte (s.data.toList.take a) 10 : Nat) : Int) := by
          unfold strings_Count.f
          rw [hcut]
        have c2 : strings_LastIndexByte.f (s.extract 0 a) 10 = some (Lib.lastIdx s 10 a) := by
          unfold strings_LastIndexByte.f
          rw [if_pos (by omega)]
          unfold Lib.lastIndexByte
          rw [hsz]
          congr 1
          refine last_take _ _ a s (fun j hj => ?_)
          have e1 : j < (s.extract 0 a).data.size := by
            have : (s.extract 0 a).data.size = a := hsz
            omega
          have e2 : j < s.data.size := by
            have : s.data.size = s.size := rfl
            omega
          rw [getElem!_pos (s.extract 0 a).data j e1, getElem!_pos s.data j e2]
          have g1 : (s.extract 0 a).data.toList[j]? = (s.data.toList.take a)[j]? := by rw [hcut]
          rw [List.getElem?_take_of_lt hj] at g1
          simp only [Array.getElem?_toList] at g1
          rw [Array.getElem?_eq_getElem e1, Array.getElem?_eq_getElem e2] at g1
          exact Option.some.inj g1
        rw [c1, c2]
        simp only [Option.bind_some]
        rw [wrR _ (by omega) (by omega), wrR _ (by omega) (by omega)]

theorem toks_short (s : ByteArray) (h : s.size ≤ 66000) : ∃ xs o e, lexer_Tokens.f s = some (xs, o, e) ∧ xs.length ≤ 70000 := by
  unfold lexer_Tokens.f
  cases hq : toksS s with
  | bad o e => exact ⟨[], _, _, rfl, by simp⟩
  | ok ts =>
    refine ⟨ts.map tS, _, _, rfl, ?_⟩
    unfold toksS at hq
    split at hq
    · cases hq
    · have := (toksF_len _ _ _ _ hq).1
      simp at this ⊢
      omega
theorem reads_j0 (s : ByteArray) (hs : s.size ≤ 66000) (x : Int) (k : Nat) (hk : 600000 ≤ k) (c : Bool) : antiquarylaw14_LexerReadsAsSpecified.j0 (k + 2) s x c = some true := by
  rw [antiquarylaw14_LexerReadsAsSpecified.j0]
  have hsan : antiquarylaw14_sanity.f (k + 1) = some true := rfl
  cases c with
  | true => rfl
  | false =>
    rw [if_neg (by simp)]
    obtain ⟨xs, o, e, ht, hl⟩ := toks_short s hs
    obtain ⟨q, p1, p2⟩ := places s hs x (k + 1) (by omega)
    rw [tokens_f s hs (k + 1) (by omega), ht, p1, p2, hsan]
    simp only [Option.bind_some, if_true]
    rw [eqR xs (by omega) (k + 1) (by omega)]
    have hw1 : lexer_Words.f = some wordsB := rfl
    have hw2 : antiquaryref14_Words.f = some wordsB := rfl
    obtain ⟨k7, hk7⟩ : ∃ k7, k + 1 = k7 + 7 := ⟨k - 6, by omega⟩
    have hw3 : antiquarylaw14_words.f (k + 1) wordsB wordsB = some true := by rw [hk7]; exact wordsR k7
    have hw4 : lexer_Word.f s = some (decide (s.data.toList ∈ Lx.words)) := rfl
    have hw5 := word_f s (k + 1) (by omega)
    simp only [Option.bind_some, if_true, beq_self_eq_true, Bool.and_self, hw1, hw2, hw3, hw4, hw5]
    rfl
theorem reads (s : ByteArray) (x : Int) (h : (Lit.int .i64 x).wf = true) : ∃ k, antiquarylaw14_LexerReadsAsSpecified.f k s x = some true := by
  have hall : ∀ k : Nat, antiquarylaw14_LexerReadsAsSpecified.j0 (k + 2) s x true = some true := fun k => rfl
  refine ⟨600000 + 2, ?_⟩
  unfold antiquarylaw14_LexerReadsAsSpecified.f
  by_cases h1 : (s.size : Int) > 2000
  · rw [if_pos h1]
    by_cases h2 : (s.size : Int) ≤ 65536
    · rw [if_pos h2]
      exact hall 600000
    · rw [if_neg h2]
      by_cases h3 : (s.size : Int) > 65636
      · rw [decide_eq_true h3]
        exact hall 600000
      · exact reads_j0 s (by omega) x 600000 (by omega) _
  · rw [if_neg h1]
    exact reads_j0 s (by omega) x 600000 (by omega) _
end Go.Proofs.YtafomaiaobfkfaaGreatDoor.Pr
