/-
  LexerIsLocal: what the walked law computes is true, whatever the sources: plain Lean. Conditions: each theorem's own.
-/
import Derived.Test.YtafomaiaobfkfaaGreatDoorPr26
import Derived.Test.YtafomaiaobfkfaaGreatDoorLexL
namespace Go.Proofs.YtafomaiaobfkfaaGreatDoor.Pr
open Go.RowKit
set_option linter.unusedVariables false
set_option linter.unusedSimpArgs false

theorem wr_in (x : Int) (h0 : 0 ≤ x) (h1 : x < 9223372036854775808) : wrap64 x = x := by
  unfold wrap64
  omega
theorem rd_T44_at (xs : List S44) (i : Nat) (h : i < xs.length) : rd_T44 xs (i : Int) = xs[i] := by simp [rd_T44, List.getD, h]
theorem equal_l0 (xs : List S44) (hm : xs.length < 4398046511104) : ∀ (n i k : Nat), xs.length - i = n → i ≤ xs.length → n < k → antiquarylaw14_equal.l0 k xs xs (i : Int) = some true
  | n, i, 0, _, _, h => absurd h (by omega)
  | n, i, k + 1, hn, hi, hk => by
    unfold antiquarylaw14_equal.l0
    by_cases h : i < xs.length
    · have e1 : wrap64 ((i : Int) + 1) = ((i + 1 : Nat) : Int) := by rw [wr_in _ (by omega) (by omega)]; simp
      rw [if_pos (by omega), if_pos (by omega), if_pos (by omega), e1]
      rw [if_neg (by simp)]
      exact equal_l0 xs hm (n - 1) (i + 1) k (by omega) (by omega) (by omega)
    · rw [if_neg (by omega)]
theorem equal_refl (xs : List S44) (hm : xs.length < 4398046511104) (k : Nat) (hk : xs.length < k) : antiquarylaw14_equal.f k xs xs = some true := by
  unfold antiquarylaw14_equal.f
  rw [if_pos rfl]
  exact equal_l0 xs hm xs.length 0 k (by omega) (by omega) hk

theorem isLocal_l0 (a : ByteArray) (ha : a.size ≤ 2000) (m n : List S44) (hm : m.length ≤ 2001) (hn : n.length < 4398046511104) (ho : ∀ x ∈ m, 0 ≤ x.f1 ∧ x.f1 ≤ 2000) :
    ∀ (r i k : Nat) (acc : List S44), m.length - i = r → i ≤ m.length → n.length + 3 + r < k → acc.length + r < 4398046511104 →
      n = acc ++ (m.drop i).map (fun x => ⟨x.f0, x.f1 + a.size + 1, x.f2⟩) → antiquarylaw14_LexerIsLocal.l0 k a m n acc (i : Int) 0 0 = some true
  | r, i, 0, acc, _, _, h, _, _ => absurd h (by omega)
  | r, i, k + 1, acc, hr, hi, hk, hl, he => by
    unfold antiquarylaw14_LexerIsLocal.l0
    by_cases h : i < m.length
    · have e1 : wrap64 ((i : Int) + 1) = ((i + 1 : Nat) : Int) := by rw [wr_in _ (by omega) (by omega)]; simp
      rw [if_pos (by omega), if_pos (by omega), if_pos (by omega), e1, rd_T44_at m i h]
      obtain ⟨o1, o2⟩ := ho m[i] (List.getElem_mem h)
      rw [wr_in (m[i].f1 + (a.size : Int)) (by omega) (by omega), wr_in _ (by omega) (by omega)]
      refine isLocal_l0 a ha m n hm hn ho (r - 1) (i + 1) k _ (by omega) (by omega) (by omega) (by simp; omega) ?_
      rw [he, List.drop_eq_getElem_cons h, List.map_cons, List.append_assoc]
      rfl
    · obtain rfl : i = m.length := by omega
      rw [if_neg (by omega)]
      obtain ⟨k, rfl⟩ : ∃ k', k = k' + 1 := ⟨k - 1, by omega⟩
      have e : n = acc := by rw [he]; simp
      subst e
      rw [show antiquarylaw14_sanity.f (k + 1) = some true from rfl]
      simp only [Option.bind_some, if_true, beq_self_eq_true, Bool.and_self]
      rw [equal_refl n hn (k + 1) (by omega)]
      rfl

theorem toksS_eq (s : ByteArray) (h : s.size ≤ 65536) : Lx.toksS s = Lx.toks s.data.toList := by unfold Lx.toksS; rw [if_neg (by omega)]
theorem isLocal_j0 (a b : ByteArray) (ha : a.size ≤ 2000) (hb : b.size ≤ 2000) (K : Nat) (hK : 9000 < K) : antiquarylaw14_LexerIsLocal.j0 (K + 2) a b false = some true := by
  have hl : ((a ++ (⟨#[10]⟩ : ByteArray)) ++ b).data.toList = a.data.toList ++ 10 :: b.data.toList := by simp
  have hal : a.data.toList.length = a.size := by simp
  have hbl : b.data.toList.length = b.size := by simp
  have hone : (a ++ (⟨#[10]⟩ : ByteArray)).size = a.size + 1 := by rw [ByteArray.size_append]; rfl
  have hab : ((a ++ (⟨#[10]⟩ : ByteArray)) ++ b).size = a.size + 1 + b.size := by rw [ByteArray.size_append, hone]
  have hs1 : a.size + 1 ≤ 9223372036854775807 := by omega
  have hs2 : (a ++ (⟨#[10]⟩ : ByteArray)).size + b.size ≤ 9223372036854775807 := by omega
  have h2 := Lx.toks_two a.data.toList b.data.toList
  rw [← hl, ← toksS_eq _ (by omega), ← toksS_eq a (by omega), ← toksS_eq b (by omega), hal] at h2
  have hbadA := Lx.toksF_bad a.data.toList.length (a.data.toList.length + 1) a.data.toList
  have hbadB := Lx.toksF_bad b.data.toList.length (b.data.toList.length + 1) b.data.toList
  have hlenA := Lx.toksF_len a.data.toList.length (a.data.toList.length + 1) a.data.toList
  have hlenB := Lx.toksF_len b.data.toList.length (b.data.toList.length + 1) b.data.toList
  rw [show Lx.toksF a.data.toList.length (a.data.toList.length + 1) a.data.toList = Lx.toksS a from by rw [toksS_eq a (by omega)]; rfl] at hbadA hlenA
  rw [show Lx.toksF b.data.toList.length (b.data.toList.length + 1) b.data.toList = Lx.toksS b from by rw [toksS_eq b (by omega)]; rfl] at hbadB hlenB
  cases hA : Lx.toksS a with
  | bad o e =>
    obtain ⟨h4, h5⟩ := hbadA o e hA
    have f1 : lexer_Tokens.f a = some ([], (o : Int), e) := by unfold lexer_Tokens.f; rw [hA]; rfl
    obtain ⟨q, f2⟩ : ∃ q, lexer_Tokens.f b = some q := ⟨_, rfl⟩
    have f3 : lexer_Tokens.f ((a ++ (⟨#[10]⟩ : ByteArray)) ++ b) = some ([], (o : Int), e) := by unfold lexer_Tokens.f; rw [h2, hA]; rfl
    have he : ¬ e = 0 := by omega
    simp only [antiquarylaw14_LexerIsLocal.j0, f1, f2, f3, Option.bind_some]
    rw [if_neg (by simp), if_pos hs1, if_pos hs2, if_neg he]
    simp [antiquarylaw14_sanity.f, antiquarylaw14_LexerIsLocal.j1]
  | ok ts =>
    obtain ⟨l1, l2⟩ := hlenA ts hA
    have f1 : lexer_Tokens.f a = some (ts.map tS, 0, 0) := by unfold lexer_Tokens.f; rw [hA]; rfl
    cases hB : Lx.toksS b with
    | bad o e =>
      obtain ⟨h4, h5⟩ := hbadB o e hB
      have f2 : lexer_Tokens.f b = some ([], (o : Int), e) := by unfold lexer_Tokens.f; rw [hB]; rfl
      have f3 : lexer_Tokens.f ((a ++ (⟨#[10]⟩ : ByteArray)) ++ b) = some ([], ((o + (a.size + 1) : Nat) : Int), e) := by unfold lexer_Tokens.f; rw [h2, hA, hB]; rfl
      have he : ¬ e = 0 := by omega
      have hw : wrap64 ((wrap64 ((o : Int) + (a.size : Int))) + 1) = ((o + (a.size + 1) : Nat) : Int) := by
        rw [wr_in ((o : Int) + (a.size : Int)) (by omega) (by omega), wr_in _ (by omega) (by omega)]
        omega
      simp only [antiquarylaw14_LexerIsLocal.j0, f1, f2, f3, Option.bind_some]
      rw [if_neg (by simp), if_pos hs1, if_pos hs2, if_pos trivial, if_neg he, hw]
      simp [antiquarylaw14_sanity.f, antiquarylaw14_LexerIsLocal.j2]
    | ok us =>
      obtain ⟨l3, l4⟩ := hlenB us hB
      have f2 : lexer_Tokens.f b = some (us.map tS, 0, 0) := by unfold lexer_Tokens.f; rw [hB]; rfl
      have f3 : lexer_Tokens.f ((a ++ (⟨#[10]⟩ : ByteArray)) ++ b) = some ((ts ++ us.map (Lx.Tok.shift (a.size + 1))).map tS, 0, 0) := by unfold lexer_Tokens.f; rw [h2, hA, hB]; rfl
      simp only [antiquarylaw14_LexerIsLocal.j0, f1, f2, f3, Option.bind_some, List.nil_append, List.length_nil, Nat.zero_add, List.length_map]
      rw [if_neg (by simp), if_pos hs1, if_pos hs2, if_pos trivial, if_pos trivial, if_pos (by omega)]
      refine isLocal_l0 a ha (us.map tS) _ (by simp; omega) (by simp; omega) (fun x hx => ?_) us.length 0 (K + 1) (ts.map tS) (by simp) (by simp) (by simp; omega) (by simp; omega) ?_
      · obtain ⟨t, ht, rfl⟩ := List.mem_map.1 hx
        have := l4 t ht
        simp only [tS]
        omega
      · simp only [List.drop_zero, List.map_append, List.map_map]
        congr 1
theorem isLocal (a b : ByteArray) : ∃ k, antiquarylaw14_LexerIsLocal.f k a b = some true := by
  refine ⟨9999 + 2, ?_⟩
  have hj : ∀ x, (x = false → a.size ≤ 2000 ∧ b.size ≤ 2000) → antiquarylaw14_LexerIsLocal.j0 (9999 + 2) a b x = some true := by
    intro x hx
    cases x with
    | true => rfl
    | false => exact isLocal_j0 a b (hx rfl).1 (hx rfl).2 9999 (by omega)
  unfold antiquarylaw14_LexerIsLocal.f
  split
  · exact hj true (by simp)
  · rename_i h1
    refine hj _ (fun h => ?_)
    have h2 := of_decide_eq_false h
    omega
end Go.Proofs.YtafomaiaobfkfaaGreatDoor.Pr
