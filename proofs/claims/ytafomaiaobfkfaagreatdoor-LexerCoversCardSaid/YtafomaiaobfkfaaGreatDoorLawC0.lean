/-
  LexerCovers: what its steps see, plain Lean: a source is a chain of tokens. Conditions: each theorem's own.
-/
import Derived.Test.YtafomaiaobfkfaaGreatDoorPr23
import Derived.Test.YtafomaiaobfkfaaGreatDoorLawF
import Derived.Test.YtafomaiaobfkfaaGreatDoorLexU
namespace Go.Proofs.YtafomaiaobfkfaaGreatDoor.Pr
open Go.RowKit Lx Go.Proofs.YtafomaiaobfkfaaGreatDoorW.PrintWords
set_option linter.unusedVariables false
set_option linter.unusedSimpArgs false

theorem equalC_l0 (xs : List S44) (hm : xs.length < 4398046511104) : ∀ (n i k : Nat), xs.length - i = n → i ≤ xs.length → n < k → antiquarylaw14_equal.l0 k xs xs (i : Int) = some true := by
  intro n
  induction n with
  | zero =>
    intro i k hn hi hk
    obtain ⟨k, rfl⟩ : ∃ k', k = k' + 1 := ⟨k - 1, by omega⟩
    rw [antiquarylaw14_equal.l0, if_neg (by omega)]
  | succ n ih =>
    intro i k hn hi hk
    obtain ⟨k, rfl⟩ : ∃ k', k = k' + 1 := ⟨k - 1, by omega⟩
    have e1 : wrap64 ((i : Int) + 1) = ((i + 1 : Nat) : Int) := by
      rw [wrF _ (by omega) (by omega)]
      rfl
    rw [antiquarylaw14_equal.l0, if_pos (by omega), if_pos (by omega), if_pos (by omega), e1, if_neg (by simp)]
    exact ih (i + 1) k (by omega) (by omega) (by omega)
theorem equalC (xs : List S44) (hm : xs.length < 4398046511104) : antiquarylaw14_equal.f (xs.length + 1) xs xs = some true := by
  unfold antiquarylaw14_equal.f
  rw [if_pos rfl]
  exact equalC_l0 xs hm xs.length 0 _ (by omega) (by omega) (by omega)

/-- A source as a chain. -/
structure Src (s : ByteArray) (it : List (L × Int × L)) (z : L) : Prop where
  src : s.data.toList = bld it ++ z
  chain : Chain it z
  tail : skipB false z = []
  small : s.size ≤ 2000
def xsOf (it : List (L × Int × L)) : List S44 := (tsOf 0 it).map tS
theorem tsOf_len : ∀ (p : Nat) (it : List (L × Int × L)), (tsOf p it).length = it.length
  | _, [] => rfl
  | p, (g, k, t) :: r => by simp [tsOf, tsOf_len _ r]
theorem tsOf_take : ∀ (p : Nat) (it : List (L × Int × L)) (j : Nat), tsOf p (it.take j) = (tsOf p it).take j
  | _, [], j => by simp [tsOf]
  | p, (g, k, t) :: r, 0 => rfl
  | p, (g, k, t) :: r, j + 1 => by
    rw [List.take_succ_cons]
    simp only [tsOf, List.take_succ_cons]
    rw [tsOf_take _ r j]
theorem tsOf_get : ∀ (p : Nat) (it : List (L × Int × L)) (i : Nat) (h : i < it.length), (tsOf p it)[i]? = some ⟨it[i].2.1, p + (bld (it.take i)).length + it[i].1.length, it[i].2.2⟩
  | p, (g, k, t) :: r, 0, h => by simp [tsOf, bld]
  | p, (g, k, t) :: r, i + 1, h => by
    have ih := tsOf_get (p + g.length + (wrL k t).length) r i (by simpa using h)
    simp only [tsOf, List.getElem?_cons_succ, List.take_succ_cons, List.getElem_cons_succ, bld, List.length_append]
    rw [ih]
    congr 2
    omega
theorem xsOf_len (it : List (L × Int × L)) : (xsOf it).length = it.length := by simp [xsOf, tsOf_len]
theorem chain_good : ∀ {it : List (L × Int × L)} {z : L}, Chain it z → ∀ y ∈ it, Gap y.1 ∧ Lx.Good y.2.1 y.2.2
  | [], _, _, y, hy => by cases hy
  | (g, k, t) :: r, z, ⟨h1, h2, _, h4⟩, y, hy => by
    rcases List.mem_cons.1 hy with rfl | hy
    · exact ⟨h1, h2⟩
    · exact chain_good h4 y hy
theorem chain_count {it : List (L × Int × L)} {z : L} (h : Chain it z) : it.length ≤ (bld it).length := bld_count it (fun y hy => (chain_good h y hy).2)
theorem wr_ge : ∀ (k : Int) (t : L), t.length ≤ (wrL k t).length := by
  intro k t
  have := escL_len t
  unfold wrL
  split <;> (simp; try omega)
theorem extract_mk (s : ByteArray) (a b : Nat) (x y z : L) (h : s.data.toList = x ++ (y ++ z)) (ha : a = x.length) (hb : b = a + y.length) : s.extract a b = ⟨y.toArray⟩ := by
  have e : (s.extract a b).data.toList = y := by
    rw [Lib.extract_data, h, ha, hb, ha]
    simp
  rw [← e, mk_data]
theorem bld_step (it : List (L × Int × L)) (i : Nat) (h : i < it.length) : bld (it.take (i + 1)) = bld (it.take i) ++ (it[i].1 ++ wrL it[i].2.1 it[i].2.2) := by
  rw [List.take_succ_eq_append_getElem h, bld_app]
  simp [bld]
/-- What a round of the law sees. -/
structure StepC (s : ByteArray) (it : List (L × Int × L)) (i : Nat) (at_ x e : Nat) (o : ByteArray) : Prop where
  hat : at_ = (bld (it.take i)).length
  hat' : e = (bld (it.take (i + 1))).length
  hx : x = at_ + it[i]!.1.length
  lt1 : at_ ≤ x
  lt2 : x + o.size = e
  lt3 : e ≤ s.size
  tok : ∃ y, (xsOf it)[i]? = some y ∧ y.f1 = (x : Int) ∧ lexer_Text.f 9 [y] = some (o, 0)
  cut : s.extract x e = o
  gap : antiquarylaw14_blank.f (s.extract at_ x) = some true
  pre : lexer_Tokens.f (s.extract 0 e) = some ((xsOf it).take (i + 1), 0, 0)
theorem blank_true (g : L) (hg : g.length ≤ 2000) (h : skipB false g = []) : antiquarylaw14_blank.f ⟨g.toArray⟩ = some true := by
  have hs : (⟨g.toArray⟩ : ByteArray).size = g.length := List.size_toArray
  unfold antiquarylaw14_blank.f
  rw [toksS_ok ⟨g.toArray⟩ (by omega) [] (blank_toks h)]
  rfl
theorem stepC {s : ByteArray} {it : List (L × Int × L)} {z : L} (h : Src s it z) (i : Nat) (hi : i < it.length) : ∃ at_ x e o, StepC s it i at_ x e o := by
  obtain ⟨⟨g, k, t⟩, hy⟩ : ∃ y, y = it[i] := ⟨_, rfl⟩
  have hg := chain_good h.chain _ (List.getElem_mem hi)
  rw [← hy] at hg
  obtain ⟨hg1, hg2⟩ := hg
  have hb := bld_step it i hi
  rw [← hy] at hb
  simp only at hg1 hg2 hb
  have hsz : s.data.toList.length = s.size := by simp
  have hlen := h.src
  have hall : bld it = bld (it.take (i + 1)) ++ bld (it.drop (i + 1)) := by rw [← bld_app, List.take_append_drop]
  have hS : s.data.toList = (bld (it.take i) ++ (g ++ wrL k t)) ++ (bld (it.drop (i + 1)) ++ z) := by rw [hlen, hall, hb]; simp
  have hL : s.size = (bld (it.take i)).length + (g.length + (wrL k t).length) + ((bld (it.drop (i + 1))).length + z.length) := by rw [← hsz, hS]; simp; omega
  have hsm := h.small
  have ho : (⟨(wrL k t).toArray⟩ : ByteArray).size = (wrL k t).length := List.size_toArray
  have hget := tsOf_get 0 it i hi
  rw [← hy] at hget
  refine ⟨(bld (it.take i)).length, (bld (it.take i)).length + g.length, (bld (it.take (i + 1))).length, ⟨(wrL k t).toArray⟩, rfl, rfl, ?_, by omega, by rw [hb, ho]; simp; omega, by rw [hb]; simp; omega, ?_, ?_, ?_, ?_⟩
  · rw [getElem!_pos it i hi, ← hy]
  · refine ⟨tS ⟨k, 0 + (bld (it.take i)).length + g.length, t⟩, by unfold xsOf; rw [List.getElem?_map, hget]; rfl, by simp [tS], ?_⟩
    have hG : GoodS (tS ⟨k, 0 + (bld (it.take i)).length + g.length, t⟩) := by
      refine ⟨hg2, ?_⟩
      have := wr_ge k t
      show (⟨t.toArray⟩ : ByteArray).size ≤ 5000
      have e : (⟨t.toArray⟩ : ByteArray).size = t.length := List.size_toArray
      omega
    rw [text_one _ hG 9 (by omega)]
    have e := wS_data (tS ⟨k, 0 + (bld (it.take i)).length + g.length, t⟩)
    have e2 : wS (tS ⟨k, 0 + (bld (it.take i)).length + g.length, t⟩) = ⟨(wrL k t).toArray⟩ := by
      rw [← mk_data (wS _), e]
      rfl
    rw [e2]
  · exact extract_mk s _ _ (bld (it.take i) ++ g) (wrL k t) (bld (it.drop (i + 1)) ++ z) (by rw [hS]; simp) (by simp) (by rw [hb]; simp; omega)
  · rw [extract_mk s _ _ (bld (it.take i)) g (wrL k t ++ (bld (it.drop (i + 1)) ++ z)) (by rw [hS]; simp) rfl rfl]
    exact blank_true g (by omega) (blank_of_gap hg1)
  · have he : s.extract 0 (bld (it.take (i + 1))).length = ⟨(bld (it.take (i + 1))).toArray⟩ := extract_mk s _ _ [] (bld (it.take (i + 1))) (bld (it.drop (i + 1)) ++ z) (by rw [hlen, hall]; simp) rfl (by simp)
    have hos : (⟨(bld (it.take (i + 1))).toArray⟩ : ByteArray).size = (bld (it.take (i + 1))).length := List.size_toArray
    have hch := h.chain.take (i + 1)
    have ht := Chain.toks (bld (it.take (i + 1))).length (it.take (i + 1)) ((bld (it.take (i + 1))).length + 1) 0 (by have := chain_count hch; omega) hch (by omega)
    rw [he, toksS_ok ⟨(bld (it.take (i + 1))).toArray⟩ (by rw [hos, hb]; simp; omega) (tsOf 0 (it.take (i + 1))) ht, tsOf_take]
    simp [xsOf, List.map_take]
theorem endC {s : ByteArray} {it : List (L × Int × L)} {z : L} (h : Src s it z) : (bld it).length ≤ s.size ∧ antiquarylaw14_blank.f (s.extract (bld it).length s.size) = some true := by
  have hsz : s.data.toList.length = s.size := by simp
  have hL : s.size = (bld it).length + z.length := by rw [← hsz, h.src]; simp
  have hsm := h.small
  refine ⟨by omega, ?_⟩
  rw [extract_mk s _ _ (bld it) z [] (by rw [h.src]; simp) rfl hL]
  exact blank_true z (by omega) h.tail
theorem srcC (s : ByteArray) (hs : s.size ≤ 2000) : (∃ o e, lexer_Tokens.f s = some ([], o, e) ∧ e ≠ 0) ∨ ∃ it z, Src s it z ∧ lexer_Tokens.f s = some (xsOf it, 0, 0) := by
  have hS : toksS s = toks s.data.toList := by unfold toksS; rw [if_neg (by omega)]
  cases hq : toks s.data.toList with
  | bad o e =>
    refine .inl ⟨o, e, ?_, ?_⟩
    · unfold lexer_Tokens.f
      rw [hS, hq]
      rfl
    · have := (toksF_bad _ _ _ _ _ hq).1
      omega
  | ok ts =>
    obtain ⟨it, z, h1, h2, h3, h4⟩ := chain_of s.data.toList.length (s.data.toList.length + 1) s.data.toList ts 0 (by omega) (by omega) hq
    exact .inr ⟨it, z, ⟨h1, h2, h3, hs⟩, by rw [toksS_ok s (by omega) ts hq, h4]; rfl⟩
end Go.Proofs.YtafomaiaobfkfaaGreatDoor.Pr
