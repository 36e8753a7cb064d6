/-
  How the lexer writes a token, and whether a token is one: by the pure model. Conditions: each theorem's own.
-/
import Derived.Test.YtafomaiaobfkfaaGreatDoorPrXb
import Derived.Test.YtafomaiaobfkfaaGreatDoorLexXc
namespace Go.Proofs.YtafomaiaobfkfaaGreatDoor.Pr
open Go.RowKit Lx Go.Proofs.YtafomaiaobfkfaaGreatDoorW.PrintWords
set_option linter.unusedVariables false
set_option linter.unusedSimpArgs false

/-- What a token is written as. -/
def wrS44 (a : Int) (s : ByteArray) : ByteArray := if a = 4 then quoteS s else s
theorem lexer_write_f (a b : Int) (s : ByteArray) (hs : s.size ≤ 33000) : lexer_write.f a b s = some (wrS44 a s) := by
  unfold lexer_write.f wrS44
  split
  · rw [if_pos (by omega)]
  · rfl
theorem quoteS_size (s : ByteArray) : (quoteS s).size ≤ 2 * s.size + 2 := by
  have h1 := escL_len s.data.toList
  have h2 := cE_le s.data.toList
  have h3 : s.data.toList.length = s.size := by simp
  have h4 : (⟨(escL s.data.toList).toArray⟩ : ByteArray).size = (escL s.data.toList).length := List.size_toArray
  unfold quoteS
  rw [ByteArray.size_append, ByteArray.size_append, h4]
  show 1 + _ + 1 ≤ _
  omega
theorem wrS44_size (a : Int) (s : ByteArray) : (wrS44 a s).size ≤ 2 * s.size + 2 := by
  unfold wrS44
  split
  · exact quoteS_size s
  · omega

theorem toks_short (s : ByteArray) (h : s.size ≤ 66000) : ∃ xs o e, lexer_Tokens.f s = some (xs, o, e) ∧ xs.length ≤ 70000 := by
  unfold lexer_Tokens.f
  cases hq : toksS s with
  | bad o e => exact ⟨[], _, _, rfl, by simp⟩
  | ok ts =>
    refine ⟨ts.map tS, _, _, rfl, ?_⟩
    unfold toksS at hq
    split at hq
    · cases hq
    · have := (toksF_len _ _ _ _ hq).1
      simp at this ⊢
      omega
def isTok (a : Int) (s : ByteArray) : Bool := match lexer_Tokens.f (wrS44 a s) with
  | some ([x], _, 0) => x.f0 == a && (x.f1 == 0 && x.f2.toList == s.toList)
  | _ => false
theorem isToken_f (a b : Int) (s : ByteArray) (hs : s.size ≤ 32000) (k : Nat) : lexer_isToken.f (k + 1) a b s = some (isTok a s) := by
  obtain ⟨xs, o, e, ht, hl⟩ := toks_short (wrS44 a s) (by have := wrS44_size a s; omega)
  unfold lexer_isToken.f isTok
  rw [lexer_write_f a b s (by omega)]
  simp only [Option.bind_some, ht]
  by_cases he : e = 0
  · subst he
    rw [if_pos rfl]
    match xs with
    | [] => simp [lexer_isToken.j0]
    | [x] => simp [rd_T44, lexer_isToken.j0]
    | x :: y :: r =>
      rw [if_neg (by simp; omega)]
      simp [lexer_isToken.j0]
  · rw [if_neg he]
    simp only [lexer_isToken.j0]
    match xs with
    | [] => simp
    | [x] => simp [he]
    | x :: y :: r => simp
end Go.Proofs.YtafomaiaobfkfaaGreatDoor.Pr
