/-
  The printed functions of the specification text, sign, next, Tokens: what they compute, by the pure model. Conditions: each theorem's own.
-/
import Derived.Test.YtafomaiaobfkfaaGreatDoorLawR1
namespace Go.Proofs.YtafomaiaobfkfaaGreatDoor.Pr
open Go.RowKit Lx Go.Proofs.YtafomaiaobfkfaaGreatDoorW.PrintWords
set_option linter.unusedVariables false
set_option linter.unusedSimpArgs false

theorem tx1 (n j : Nat) (h : j < n) : n - (n - (j + 1)) = j + 1 := by omega
theorem text_l0 (s : ByteArray) (hs : s.size ≤ 66000) (i : Nat) (m : Nat) : ∀ (j k : Nat) (acc : L), j + m = s.size → acc.length ≤ j → 2 * m + 2 ≤ k →
    antiquaryref14_text.l0 k s (i : Int) (ints acc) (j : Int) = some (resT s i (textL acc (sl s j))) := by
  induction m using Nat.strongRecOn with
  | _ m ih =>
    intro j k acc hm ha hk
    obtain ⟨k, rfl⟩ : ∃ k', k = k' + 2 := ⟨k - 2, by omega⟩
    rw [antiquaryref14_text.l0]
    by_cases h : j < s.size
    · have hb := btR s j h
      have hw := wrS j (by omega)
      obtain ⟨b, hbb⟩ : ∃ b, b = s[j] := ⟨_, rfl⟩
      have hsl : sl s j = b :: sl s (j + 1) := by rw [sl_cons s j h, hbb]
      rw [← hbb] at hb
      rw [if_pos (by omega), if_pos (by omega), hb, hsl]
      have hal : (ints acc).length = acc.length := ints_len acc
      by_cases h34 : b.toNat = 34
      · rw [if_pos (show (b.toNat : Int) = 34 by omega), hal]
        unfold textL
        rw [if_pos h34]
        by_cases q : 200 < acc.length
        · rw [if_pos (by omega), if_pos q]
          rfl
        · rw [if_neg (by omega), if_neg q, str_ints, hw]
          have hl1 : s.size - (sl s (j + 1)).length = j + 1 := by rw [sl_len]; exact tx1 _ _ h
          simp only [resT, hl1]
      · rw [if_neg (show ¬ (b.toNat : Int) = 34 by omega)]
        have bad : antiquaryref14_text.j1 (k + 1) s (i : Int) (ints acc) (j : Int) (b.toNat : Int) true = some (resT s i (.bad 142)) := by
          rw [antiquaryref14_text.j1]
          simp [resT]
        by_cases h32 : b.toNat < 32
        · rw [if_pos (by omega), bad]
          unfold textL
          rw [if_neg h34, if_neg (by omega), if_pos (.inl h32)]
        · rw [if_neg (by omega)]
          by_cases h126 : 126 < b.toNat
          · rw [show decide ((b.toNat : Int) > 126) = true by simp; omega, bad]
            unfold textL
            rw [if_neg h34, if_neg (by omega), if_pos (.inr h126)]
          · rw [show decide ((b.toNat : Int) > 126) = false by simp; omega, antiquaryref14_text.j1, if_neg (by simp)]
            by_cases h92 : b.toNat = 92
            · rw [if_pos (show (b.toNat : Int) = 92 by omega), hw]
              unfold textL
              rw [if_neg h34, if_pos h92]
              by_cases he : j + 1 = s.size
              · rw [if_pos (by omega), sl_nil s (j + 1) (by omega)]
                rfl
              · have h' : j + 1 < s.size := by omega
                have hc := btR s (j + 1) h'
                have hw' := wrS (j + 1) (by omega)
                obtain ⟨c, hcc⟩ : ∃ c, c = s[j + 1] := ⟨_, rfl⟩
                have hsl' : sl s (j + 1) = c :: sl s (j + 1 + 1) := by rw [sl_cons s (j + 1) h', hcc]
                rw [← hcc] at hc
                rw [if_neg (by omega), if_pos (by omega), if_pos (by omega), hc, hsl', hw', hal]
                have go : (if acc.length < 140737488355328 then (antiquaryref14_text.l0 k s (i : Int) (ints acc ++ [(c.toNat : Int)]) ((j + 1 + 1 : Nat) : Int)) else none) = some (resT s i (textL (acc ++ [c]) (sl s (j + 1 + 1)))) := by
                  rw [if_pos (by omega), ← ints_app]
                  obtain ⟨m, rfl⟩ : ∃ m', m = m' + 2 := ⟨m - 2, by omega⟩
                  exact ih m (by omega) (j + 1 + 1) k (acc ++ [c]) (by omega) (by rw [List.length_append, List.length_singleton]; omega) (by omega)
                simp only
                by_cases c34 : c.toNat = 34
                · rw [if_pos (show (c.toNat : Int) = 34 by omega), if_pos (show c.toNat = 34 ∨ c.toNat = 92 from .inl c34)]
                  exact go
                · rw [if_neg (show ¬ (c.toNat : Int) = 34 by omega)]
                  by_cases c92 : c.toNat = 92
                  · rw [if_pos (show (c.toNat : Int) = 92 by omega), if_pos (show c.toNat = 34 ∨ c.toNat = 92 from .inr c92)]
                    exact go
                  · rw [if_neg (show ¬ (c.toNat : Int) = 92 by omega), if_neg (show ¬ (c.toNat = 34 ∨ c.toNat = 92) by omega)]
                    rfl
            · rw [if_neg (show ¬ (b.toNat : Int) = 92 by omega), hal, if_pos (by omega), hw, ← ints_app]
              unfold textL
              rw [if_neg h34, if_neg h92, if_neg (by omega)]
              obtain ⟨m, rfl⟩ : ∃ m', m = m' + 1 := ⟨m - 1, by omega⟩
              exact ih m (by omega) (j + 1) k (acc ++ [b]) (by omega) (by rw [List.length_append, List.length_singleton]; omega) (by omega)
    · rw [if_neg (by omega), sl_nil s j (by omega), textL_bad]
      rfl
theorem text_f (s : ByteArray) (hs : s.size ≤ 66000) (i : Nat) (hi : i < s.size) (k : Nat) (hk : 2 * s.size + 2 ≤ k) : antiquaryref14_text.f k s (i : Int) = some (resT s i (textL [] (sl s (i + 1)))) := by
  unfold antiquaryref14_text.f
  rw [wrS i (by omega)]
  exact text_l0 s hs i (s.size - (i + 1)) (i + 1) k [] (by omega) (by simp) (by omega)
end Go.Proofs.YtafomaiaobfkfaaGreatDoor.Pr
