/-
  The printed functions of the specification text, sign, next, Tokens: what they compute, by the pure model. Conditions: each theorem's own.
-/
import Derived.Test.YtafomaiaobfkfaaGreatDoorLawR1
namespace Go.Proofs.YtafomaiaobfkfaaGreatDoor.Pr
open Go.RowKit Lx Go.Proofs.YtafomaiaobfkfaaGreatDoorW.PrintWords
set_option linter.unusedVariables false
set_option linter.unusedSimpArgs false

/-! ### signs -/
def resS (s : ByteArray) (i : Nat) : Option ByteArray → Int × Int × ByteArray × Int × Int
  | none => (0, 0, ⟨#[]⟩, 0, 140)
  | some x => (5, (i : Int), x, ((i + x.size : Nat) : Int), 0)
theorem sign_l0 (s : ByteArray) (hs : s.size ≤ 66000) (i : Nat) (hi : i ≤ s.size) (xs : List ByteArray) (hx : xs.length ≤ 100) (hz : ∀ x ∈ xs, x.size ≤ 100) (d : Nat) : ∀ (p k : Nat), xs.length - p = d → p ≤ xs.length → d < k →
    antiquaryref14_sign.l0 k s (i : Int) xs (p : Int) = some (resS s i ((xs.drop p).find? fun x => decide (x.data.toList <+: sl s i))) := by
  induction d with
  | zero =>
    intro p k hd hp hk
    obtain ⟨k, rfl⟩ : ∃ k', k = k' + 1 := ⟨k - 1, by omega⟩
    rw [antiquaryref14_sign.l0, if_neg (by omega), List.drop_eq_nil_of_le (by omega)]
    rfl
  | succ d ih =>
    intro p k hd hp hk
    obtain ⟨k, rfl⟩ : ∃ k', k = k' + 1 := ⟨k - 1, by omega⟩
    have h : p < xs.length := by omega
    have e : rdOf ByteArray.empty xs (p : Int) = xs[p] := by simp [rdOf, List.getD, h]
    have hsz := hz xs[p] (List.getElem_mem h)
    have hw : wrap64 ((i : Int) + (xs[p].size : Int)) = ((i + xs[p].size : Nat) : Int) := by
      rw [wrR _ (by omega) (by omega)]
      rfl
    have next := ih (p + 1) k (by omega) (by omega) (by omega)
    rw [antiquaryref14_sign.l0, if_pos (by omega), if_pos (by omega), e, hw, wrS p (by omega), next, List.drop_eq_getElem_cons h, List.find?_cons]
    have hpl : xs[p].data.toList.length = xs[p].size := by simp
    by_cases q : i + xs[p].size ≤ s.size
    · rw [if_pos (by omega), if_pos (by omega), if_pos (by omega)]
      simp only [Int.toNat_natCast, ByteArray.toList_eq]
      have e2 : (s.extract i (i + xs[p].size)).data.toList = (sl s i).take xs[p].size := by
        rw [Lib.extract_data, show i + xs[p].size - i = xs[p].size from by omega]
        rfl
      rw [e2]
      by_cases q2 : (sl s i).take xs[p].size = xs[p].data.toList
      · have hp : xs[p].data.toList <+: sl s i := by
          rw [List.prefix_iff_eq_take, hpl]
          exact q2.symm
        rw [if_pos q2, decide_eq_true hp]
        rfl
      · have hp : ¬ xs[p].data.toList <+: sl s i := by
          rw [List.prefix_iff_eq_take, hpl]
          exact fun h => q2 h.symm
        rw [if_neg q2, decide_eq_false hp]
    · have hp : ¬ xs[p].data.toList <+: sl s i := by
        intro h
        have := h.length_le
        rw [hpl, sl_len] at this
        omega
      rw [if_neg (by omega), decide_eq_false hp]

def LS : List L := longs ++ shorts.map fun x => [x]
theorem signs_eq : antiquaryref14_Signs.f = some (LS.map fun l => ⟨l.toArray⟩) := by
  unfold antiquaryref14_Signs.f
  rfl
theorem find_two (b c : UInt8) (r : L) : ∀ xs : List L, (∀ l ∈ xs, l.length = 2) → xs.find? (fun l => decide (l <+: b :: c :: r)) = if [b, c] ∈ xs then some [b, c] else none
  | [], _ => by simp
  | l :: xs, h => by
    have hl := h l (by simp)
    have ih := find_two b c r xs (fun l hl => h l (by simp [hl]))
    match l, hl with
    | [x, y], _ =>
      rw [List.find?_cons, ih]
      by_cases q : x = b ∧ y = c
      · obtain ⟨rfl, rfl⟩ := q
        simp [List.cons_prefix_cons]
      · have : decide ([x, y] <+: b :: c :: r) = false := by
          rw [decide_eq_false_iff_not]
          simp only [List.cons_prefix_cons, List.nil_prefix, and_true]
          exact q
        rw [this]
        have e : ([b, c] ∈ [x, y] :: xs) ↔ [b, c] ∈ xs := by
          simp only [List.mem_cons, List.cons.injEq, and_true]
          constructor
          · rintro (⟨h1, h2⟩ | h)
            · exact absurd ⟨h1.symm, h2.symm⟩ q
            · exact h
          · exact .inr
        simp only [e]
theorem find_two_one (b : UInt8) : ∀ xs : List L, (∀ l ∈ xs, l.length = 2) → xs.find? (fun l => decide (l <+: [b])) = none := by
  intro xs h
  rw [List.find?_eq_none]
  intro l hl
  rw [decide_eq_true_eq]
  intro hp
  have := hp.length_le
  rw [h l hl] at this
  simp at this
theorem find_one (b : UInt8) (r : L) : ∀ xs : L, (xs.map fun x => [x]).find? (fun l => decide (l <+: b :: r)) = if b ∈ xs then some [b] else none
  | [] => by simp
  | x :: xs => by
    have ih := find_one b r xs
    rw [List.map_cons, List.find?_cons, ih]
    by_cases q : x = b
    · subst q
      simp [List.cons_prefix_cons]
    · have : decide ([x] <+: b :: r) = false := by
        rw [decide_eq_false_iff_not]
        simp only [List.cons_prefix_cons, List.nil_prefix, and_true]
        exact q
      rw [this]
      have e : (b ∈ x :: xs) ↔ b ∈ xs := by
        simp only [List.mem_cons]
        constructor
        · rintro (h | h)
          · exact absurd h.symm q
          · exact h
        · exact .inr
      simp only [e]
theorem find_sign (b : UInt8) (r : L) : (LS.find? fun l => decide (l <+: b :: r)) = match signL (b :: r) with
    | .bad _ => none
    | .got _ t _ => some t := by
  unfold LS
  rw [List.find?_append, find_one]
  match r with
  | [] =>
    rw [find_two_one b longs (by decide)]
    simp only [signL]
    by_cases q : b ∈ shorts <;> simp [q]
  | c :: r =>
    rw [find_two b c r longs (by decide)]
    simp only [signL]
    by_cases q : [b, c] ∈ longs
    · simp [q]
    · by_cases q2 : b ∈ shorts <;> simp [q, q2]
theorem signL_shape {l : L} {k : Int} {t rest : L} (h : signL l = .got k t rest) : k = 5 ∧ l = t ++ rest := by
  match l, h with
  | [], h => simp [signL] at h
  | [b], h =>
    simp only [signL] at h
    split at h
    · injection h with h1 h2 h3; subst h1 h2 h3; simp
    · cases h
  | b :: c :: r, h =>
    simp only [signL] at h
    split at h
    · injection h with h1 h2 h3; subst h1 h2 h3; simp
    · split at h
      · injection h with h1 h2 h3; subst h1 h2 h3; simp
      · cases h
theorem sign_f (s : ByteArray) (hs : s.size ≤ 66000) (i : Nat) (hi : i < s.size) (k : Nat) (hk : 30 ≤ k) : antiquaryref14_sign.f k s (i : Int) = some (resT s i (signL (sl s i))) := by
  unfold antiquaryref14_sign.f
  rw [signs_eq]
  simp only [Option.bind_some]
  rw [show (0 : Int) = ((0 : Nat) : Int) from rfl, sign_l0 s hs i (Nat.le_of_lt hi) _ (by decide) (by decide) 22 0 k (by decide) (by simp) (by omega)]
  congr 1
  rw [List.drop_zero, List.find?_map]
  have e : (fun l : L => decide (l <+: sl s i)) = ((fun x : ByteArray => decide (x.data.toList <+: sl s i)) ∘ fun l : L => (⟨l.toArray⟩ : ByteArray)) := by
    funext l
    simp
  rw [← e]
  have hc := sl_cons s i hi
  have hf := find_sign s[i] (sl s (i + 1))
  rw [← hc] at hf
  rw [hf]
  cases hq : signL (sl s i) with
  | bad e => rw [signL_bad hq]; rfl
  | got k t rest =>
    obtain ⟨rfl, hl⟩ := signL_shape hq
    have hlen := congrArg List.length hl
    rw [sl_len, List.length_append] at hlen
    simp only [Option.map_some, resS, resT]
    have : (⟨t.toArray⟩ : ByteArray).size = t.length := by simp [ByteArray.size]
    rw [this, show i + t.length = s.size - rest.length from by omega]
end Go.Proofs.YtafomaiaobfkfaaGreatDoor.Pr
