/-
  The printed functions of the specification next, Tokens: what they compute, by the pure model. Conditions: each theorem's own.
-/
import Derived.Test.YtafomaiaobfkfaaGreatDoorLawR2a
import Derived.Test.YtafomaiaobfkfaaGreatDoorLawR2b
namespace Go.Proofs.YtafomaiaobfkfaaGreatDoor.Pr
open Go.RowKit Lx Go.Proofs.YtafomaiaobfkfaaGreatDoorW.PrintWords
set_option linter.unusedVariables false
set_option linter.unusedSimpArgs false

theorem tokL_cons (b : UInt8) (r : L) : tokL (b :: r) = if smallB b then nameL (b :: r) else if digitB b then numberL (b :: r) else if b.toNat = 34 then textL [] r else signL (b :: r) := rfl
theorem next_f (s : ByteArray) (hs : s.size ≤ 66000) (i : Nat) (hi : i < s.size) (k : Nat) (hk : 2 * s.size + 50 ≤ k) : antiquaryref14_next.f k s (i : Int) = some (resT s i (tokL (sl s i))) := by
  unfold antiquaryref14_next.f
  have hb := btR s i hi
  have e := sl_cons s i hi
  have ht := tokL_cons s[i] (sl s (i + 1))
  rw [← e] at ht
  rw [if_pos (by omega), if_pos (by omega), hb, small_f, digit_f, ht, name_f s hs i (Nat.le_of_lt hi) k (by omega), number_f s hs i hi k (by omega), text_f s hs i hi k (by omega), sign_f s hs i hi k (by omega)]
  simp only [Option.bind_some]
  by_cases h1 : smallB s[i] = true
  · rw [if_pos h1, if_pos h1]
  · rw [if_neg h1, if_neg h1]
    by_cases h2 : digitB s[i] = true
    · rw [if_pos h2, if_pos h2]
    · rw [if_neg h2, if_neg h2]
      by_cases h3 : s[i].toNat = 34
      · rw [if_pos (show (s[i].toNat : Int) = 34 by omega), if_pos h3]
      · rw [if_neg (show ¬ (s[i].toNat : Int) = 34 by omega), if_neg h3]

theorem tokens_l0 (s : ByteArray) (hs : s.size ≤ 66000) (m : Nat) : ∀ (j n k : Nat) (ts : List Tok), j + m = s.size → m ≤ n → ts.length ≤ j → 6 * s.size + 60 + m ≤ k →
    antiquaryref14_Tokens.l0 k s (ts.map tS) (j : Int) = some (outS ((Lx.stepT s.size n (sl s j)).pre ts)) := by
  induction m using Nat.strongRecOn with
  | _ m ih =>
    intro j n k ts hm hn hl hk
    obtain ⟨k, rfl⟩ : ∃ k', k = k' + 1 := ⟨k - 1, by omega⟩
    rw [antiquaryref14_Tokens.l0]
    by_cases h : j < s.size
    · rw [if_pos (by omega), next_f s hs j h k (by omega)]
      simp only [Option.bind_some]
      have e := sl_cons s j h
      have hlen : (sl s j).length = s.size - j := sl_len s j
      have hst : Lx.stepT s.size n (sl s j) = match tokL (sl s j) with
          | .bad e => .bad (s.size - (sl s j).length) e
          | .got k t rest => (toksF s.size n rest).push ⟨k, s.size - (sl s j).length, t⟩ := by
        rw [e]
        rfl
      have hoff : s.size - (sl s j).length = j := by rw [hlen]; omega
      rw [hst, hoff]
      cases hq : tokL (sl s j) with
      | bad er =>
        have := tokL_bad hq
        have he : ¬ er = 0 := by omega
        simp only [resT, he, if_false]
        rfl
      | got K t rest =>
        simp only [resT]
        have hlt := tokL_lt hq
        have hsuf := sl_of_suf (tokL_suf hq)
        rw [hlen] at hlt
        have hle : s.size - rest.length ≤ s.size := Nat.sub_le _ _
        have hsk := skipAt_sl s (s.size - rest.length) hle
        obtain ⟨n, rfl⟩ : ∃ n', n = n' + 1 := ⟨n - 1, by omega⟩
        rw [if_pos trivial, List.length_map, if_pos (by omega), skip_f s hs _ hle k (by omega)]
        simp only [Option.bind_some]
        obtain ⟨q, hq1, hq2⟩ : ∃ q, q = skipAt s (s.size - rest.length) ∧ j < q := ⟨_, rfl, by omega⟩
        rw [← hq1] at hsk ⊢
        have h3 := hsk.2.2
        have ap : ts.map tS ++ [⟨K, (j : Int), ⟨t.toArray⟩⟩] = (ts ++ [(⟨K, j, t⟩ : Tok)]).map tS := by
          rw [List.map_append]
          rfl
        rw [ap, Out.pre_push, toksF_step, ← hsuf, ← hsk.1]
        exact ih (s.size - q) (by omega) q n k (ts ++ [⟨K, j, t⟩]) (by omega) (by omega) (by rw [List.length_append, List.length_singleton]; omega) (by omega)
    · rw [if_neg (by omega), sl_nil s j (by omega)]
      simp only [Lx.stepT, Out.pre, outS, List.append_nil]
theorem tokens_f (s : ByteArray) (hs : s.size ≤ 66000) (k : Nat) (hk : 7 * s.size + 70 ≤ k) : antiquaryref14_Tokens.f k s = lexer_Tokens.f s := by
  unfold antiquaryref14_Tokens.f lexer_Tokens.f toksS
  by_cases h : 65536 < s.size
  · rw [if_pos (by omega), if_pos h]
    rfl
  · have hsk := skipAt_sl s 0 (Nat.zero_le _)
    have h3 := hsk.2.2
    rw [if_neg (by omega), if_neg h, show (0 : Int) = ((0 : Nat) : Int) from rfl, skip_f s hs 0 (Nat.zero_le _) k (by omega)]
    simp only [Option.bind_some]
    have := tokens_l0 s hs (s.size - skipAt s 0) (skipAt s 0) s.size k [] (by omega) (by omega) (by simp) (by omega)
    rw [List.map_nil] at this
    rw [this, Out.pre_nil]
    unfold toks
    rw [toksF_step, hsk.1, sl_full]
    simp
end Go.Proofs.YtafomaiaobfkfaaGreatDoor.Pr
