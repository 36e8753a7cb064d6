/-
  The lexer's specification reads a line feed between two sources as their border: plain Lean. Conditions: each theorem's own.
-/
import Derived.Test.YtafomaiaobfkfaaGreatDoorLexH
namespace Go.Proofs.YtafomaiaobfkfaaGreatDoor.Lx
set_option linter.unusedVariables false
set_option linter.unusedSimpArgs false

theorem tw_app (p : UInt8 → Bool) (h : p 10 = false) : ∀ x y : L, (x ++ 10 :: y).takeWhile p = x.takeWhile p ∧ (x ++ 10 :: y).dropWhile p = x.dropWhile p ++ 10 :: y
  | [], y => by simp [List.takeWhile_cons, List.dropWhile_cons, h]
  | b :: x, y => by
    have ih := tw_app p h x y
    by_cases hb : p b = true
    · simp [List.takeWhile_cons, List.dropWhile_cons, hb, ih.1, ih.2]
    · simp [List.takeWhile_cons, List.dropWhile_cons, hb]
def Res.app (y : L) : Res → Res
  | .bad e => .bad e
  | .got k t r => .got k t (r ++ 10 :: y)
theorem nameL_app (x y : L) : nameL (x ++ 10 :: y) = (nameL x).app y := by
  obtain ⟨h1, h2⟩ := tw_app restB (by decide) x y
  unfold nameL
  rw [h1, h2]
  split
  · rfl
  · split <;> rfl
theorem numberL_app (b : UInt8) (x y : L) : numberL ((b :: x) ++ 10 :: y) = (numberL (b :: x)).app y := by
  obtain ⟨h1, h2⟩ := tw_app digitB (by decide) (b :: x) y
  have h3 : headIs letB ((b :: x).dropWhile digitB ++ 10 :: y) = headIs letB ((b :: x).dropWhile digitB) := by
    cases (b :: x).dropWhile digitB
    · rfl
    · rfl
  have h4 : ((b :: x) ++ 10 :: y).head? = (b :: x).head? := rfl
  unfold numberL
  rw [h1, h2, h3, h4]
  split <;> rfl
theorem textL_lf (acc y : L) : textL acc (10 :: y) = .bad 142 := by
  unfold textL
  rfl
theorem textL_app : ∀ (n : Nat) (acc x y : L), x.length ≤ n → textL acc (x ++ 10 :: y) = (textL acc x).app y
  | 0, acc, x, y, hn => by
    have : x = [] := List.eq_nil_of_length_eq_zero (by omega)
    subst this
    rw [textL_bad, List.nil_append, textL_lf]
    rfl
  | n + 1, acc, [], y, hn => by
    rw [textL_bad, List.nil_append, textL_lf]
    rfl
  | n + 1, acc, b :: r, y, hn => by
    simp at hn
    rw [List.cons_append]
    unfold textL
    by_cases h34 : b.toNat = 34
    · rw [if_pos h34, if_pos h34]
      split <;> rfl
    · rw [if_neg h34, if_neg h34]
      by_cases h92 : b.toNat = 92
      · rw [if_pos h92, if_pos h92]
        match r, hn with
        | [], _ => simp [Res.app]
        | c :: r', hn =>
          simp only [List.cons_append]
          simp at hn
          by_cases hc : c.toNat = 34 ∨ c.toNat = 92
          · rw [if_pos hc, if_pos hc]
            exact textL_app n _ r' y (by omega)
          · rw [if_neg hc, if_neg hc]
            rfl
      · rw [if_neg h92, if_neg h92]
        by_cases hr : b.toNat < 32 ∨ 126 < b.toNat
        · rw [if_pos hr, if_pos hr]
          rfl
        · rw [if_neg hr, if_neg hr]
          exact textL_app n _ r y (by omega)
theorem ne_longs (b : UInt8) : [b, 10] ∉ longs := by simp [longs]
theorem signL_app (b : UInt8) (x y : L) : signL ((b :: x) ++ 10 :: y) = (signL (b :: x)).app y := by
  match x with
  | [] =>
    simp only [List.cons_append, List.nil_append, signL]
    rw [if_neg (ne_longs b)]
    split <;> rfl
  | c :: r =>
    simp only [List.cons_append, signL]
    split
    · rfl
    · split <;> rfl
theorem tokL_app (b : UInt8) (x y : L) : tokL ((b :: x) ++ 10 :: y) = (tokL (b :: x)).app y := by
  have e1 := nameL_app (b :: x) y
  have e2 := numberL_app b x y
  have e3 := textL_app _ [] x y (Nat.le_refl _)
  have e4 := signL_app b x y
  rw [List.cons_append] at e1 e2 e4 ⊢
  simp only [tokL]
  split
  · exact e1
  · split
    · exact e2
    · split
      · exact e3
      · exact e4
theorem skipB_app : ∀ (c : Bool) (x y : L), skipB c (x ++ 10 :: y) = if skipB c x = [] then skipB false y else skipB c x ++ 10 :: y
  | false, [], y => by simp [skipB, spB]
  | true, [], y => by simp [skipB]
  | false, b :: x, y => by
    have i1 := skipB_app false x y
    have i2 := skipB_app true x y
    rw [List.cons_append]
    simp only [skipB]
    by_cases h1 : spB b = true
    · simp only [if_pos h1]; exact i1
    · simp only [if_neg h1]
      by_cases h2 : b.toNat = 35
      · simp only [if_pos h2]; exact i2
      · simp [if_neg h2]
  | true, b :: x, y => by
    have i1 := skipB_app false x y
    have i2 := skipB_app true x y
    rw [List.cons_append]
    simp only [skipB]
    by_cases h1 : b.toNat = 10
    · simp only [if_pos h1]; exact i1
    · simp only [if_neg h1]; exact i2

theorem toksF_fuel (N : Nat) : ∀ (n n' : Nat) (l : L), l.length < n → l.length < n' → toksF N n l = toksF N n' l
  | 0, _, _, h, _ => absurd h (by omega)
  | _, 0, _, _, h => absurd h (by omega)
  | n + 1, n' + 1, l, h, h' => by
    have hs := skipB_le l false
    unfold toksF
    cases hk : skipB false l with
    | nil => rfl
    | cons b r =>
      rw [hk] at hs
      simp only
      cases ht : tokL (b :: r) with
      | bad e => rfl
      | got k t rest =>
        have := tokL_lt ht
        simp only
        rw [toksF_fuel N n n' rest (by omega) (by omega)]
theorem toksF_loc (NA : Nat) (y : L) : ∀ (n : Nat) (x : L) (n1 n2 : Nat), x.length + 1 + y.length < n → x.length < n1 → y.length < n2 → x.length ≤ NA →
    toksF (NA + 1 + y.length) n (x ++ 10 :: y) = match toksF NA n1 x with
      | .bad o e => .bad o e
      | .ok ts => (toksF (NA + 1 + y.length) n2 y).pre ts
  | 0, _, _, _, h, _, _, _ => absurd h (by omega)
  | _, _, 0, _, _, h, _, _ => absurd h (by omega)
  | n + 1, x, n1 + 1, n2, h, h1, h2, h3 => by
    have hs := skipB_le x false
    have hA := skipB_app false x y
    cases hk : skipB false x with
    | nil =>
      rw [hk, if_pos rfl] at hA
      have e1 : toksF (NA + 1 + y.length) (n + 1) (x ++ 10 :: y) = toksF (NA + 1 + y.length) (n + 1) y := by rw [toksF_step, toksF_step, hA]
      have e2 : toksF NA (n1 + 1) x = .ok [] := by rw [toksF_step, hk]; rfl
      rw [e1, e2, toksF_fuel _ (n + 1) n2 y (by omega) h2]
      simp only [Out.pre_nil]
    | cons b r =>
      rw [hk, if_neg (by simp)] at hA
      rw [hk] at hs
      rw [toksF_step, toksF_step, hA, hk]
      have ht := tokL_app b r y
      rw [List.cons_append] at ht ⊢
      unfold stepT
      simp only
      rw [ht]
      simp only [List.length_cons, List.length_append] at hs ⊢
      cases hr : tokL (b :: r) with
      | bad e =>
        simp only [Res.app]
        congr 1
        omega
      | got k t rest =>
        have hlt := tokL_lt hr
        simp only [List.length_cons] at hlt
        simp only [Res.app]
        rw [toksF_loc NA y n rest n1 n2 (by omega) (by omega) h2 (by omega)]
        rw [show NA + 1 + y.length - (r.length + (y.length + 1) + 1) = NA - (r.length + 1) from by omega]
        cases toksF NA n1 rest with
        | bad o e => rfl
        | ok ts =>
          simp only [Out.push]
          cases toksF (NA + 1 + y.length) n2 y <;> simp [Out.push, Out.pre]
def Tok.shift (d : Nat) (t : Tok) : Tok := ⟨t.k, t.off + d, t.s⟩
def Out.shift (d : Nat) : Out → Out
  | .bad o e => .bad (o + d) e
  | .ok ts => .ok (ts.map (Tok.shift d))
theorem toksF_shift (N d : Nat) : ∀ (n : Nat) (l : L), l.length ≤ N → toksF (N + d) n l = (toksF N n l).shift d
  | 0, _, _ => rfl
  | n + 1, l, h => by
    have hs := skipB_le l false
    unfold toksF
    cases hk : skipB false l with
    | nil => rfl
    | cons b r =>
      rw [hk] at hs
      simp only [List.length_cons] at hs
      simp only
      cases ht : tokL (b :: r) with
      | bad e =>
        simp only [Out.shift, List.length_cons]
        congr 1
        omega
      | got k t rest =>
        have hlt := tokL_lt ht
        simp only [List.length_cons] at hlt ⊢
        rw [toksF_shift N d n rest (by omega)]
        rw [show N + d - (r.length + 1) = N - (r.length + 1) + d from by omega]
        cases toksF N n rest <;> simp [Out.push, Out.shift, Tok.shift]
/-- Two sources with a line feed between. -/
theorem toks_two (x y : L) : toks (x ++ 10 :: y) = match toks x with
    | .bad o e => .bad o e
    | .ok ts => ((toks y).shift (x.length + 1)).pre ts := by
  have h := toksF_loc x.length y ((x ++ 10 :: y).length + 1) x (x.length + 1) (y.length + 1) (by simp; omega) (by omega) (by omega) (Nat.le_refl _)
  have e : (x ++ 10 :: y).length = x.length + 1 + y.length := by simp; omega
  unfold toks
  rw [e] at h ⊢
  rw [h]
  have hsh := toksF_shift y.length (x.length + 1) (y.length + 1) y (Nat.le_refl _)
  rw [show x.length + 1 + y.length = y.length + (x.length + 1) from by omega, hsh]

/-! ### bounds -/
theorem toksF_len (N : Nat) : ∀ (n : Nat) (l : L) (ts : List Tok), toksF N n l = .ok ts → ts.length ≤ n ∧ ∀ t ∈ ts, t.off ≤ N
  | 0, l, ts, h => by
    simp only [toksF] at h
    injection h with h
    subst h
    simp
  | n + 1, l, ts, h => by
    unfold toksF at h
    cases hk : skipB false l with
    | nil =>
      rw [hk] at h
      injection h with h
      subst h
      simp
    | cons b r =>
      rw [hk] at h
      simp only at h
      cases ht : tokL (b :: r) with
      | bad e => rw [ht] at h; cases h
      | got k t rest =>
        rw [ht] at h
        simp only at h
        cases hq : toksF N n rest with
        | bad o e => rw [hq] at h; cases h
        | ok us =>
          rw [hq] at h
          simp only [Out.push] at h
          injection h with h
          subst h
          obtain ⟨i1, i2⟩ := toksF_len N n rest us hq
          refine ⟨by simp; omega, fun t ht => ?_⟩
          rcases List.mem_cons.1 ht with rfl | ht
          · simp
          · exact i2 t ht
theorem nameL_bad {l : L} {e : Int} (h : nameL l = .bad e) : e = 2 := by
  unfold nameL at h
  split at h
  · cases h
  · split at h
    · injection h with h; exact h.symm
    · cases h
theorem numberL_bad {l : L} {e : Int} (h : numberL l = .bad e) : e = 141 := by
  unfold numberL at h
  split at h
  · injection h with h; exact h.symm
  · cases h
theorem textL_bad2 : ∀ (n : Nat) (acc l : L), l.length ≤ n → ∀ e, textL acc l = .bad e → e = 142
  | 0, acc, l, hn => by
    intro e h
    have : l = [] := List.eq_nil_of_length_eq_zero (by omega)
    subst this
    simp [textL] at h
    exact h.symm
  | n + 1, acc, [], hn => by
    intro e h
    simp [textL] at h
    exact h.symm
  | n + 1, acc, b :: r, hn => by
    intro e h
    simp at hn
    unfold textL at h
    split at h
    · split at h
      · injection h with h; exact h.symm
      · cases h
    · split at h
      · split at h
        · injection h with h; exact h.symm
        · rename_i c r'
          simp at hn
          split at h
          · exact textL_bad2 n _ r' (by omega) _ h
          · injection h with h; exact h.symm
      · split at h
        · injection h with h; exact h.symm
        · exact textL_bad2 n _ r (by omega) _ h
theorem signL_bad {l : L} {e : Int} (h : signL l = .bad e) : e = 140 := by
  match l, h with
  | [], h => simp [signL] at h; exact h.symm
  | [b], h =>
    simp only [signL] at h
    split at h
    · cases h
    · injection h with h; exact h.symm
  | b :: c :: r, h =>
    simp only [signL] at h
    split at h
    · cases h
    · split at h
      · cases h
      · injection h with h; exact h.symm
theorem tokL_bad {l : L} {e : Int} (h : tokL l = .bad e) : e = 2 ∨ e = 140 ∨ e = 141 ∨ e = 142 := by
  match l, h with
  | [], h => simp [tokL] at h; omega
  | b :: r, h =>
    simp only [tokL] at h
    split at h
    · exact .inl (nameL_bad h)
    · split at h
      · exact .inr (.inr (.inl (numberL_bad h)))
      · split at h
        · exact .inr (.inr (.inr (textL_bad2 _ _ _ (Nat.le_refl _) _ h)))
        · exact .inr (.inl (signL_bad h))
theorem toksF_bad (N : Nat) : ∀ (n : Nat) (l : L) (o : Nat) (e : Int), toksF N n l = .bad o e → (e = 2 ∨ e = 140 ∨ e = 141 ∨ e = 142) ∧ o ≤ N
  | 0, l, o, e, h => by simp [toksF] at h
  | n + 1, l, o, e, h => by
    unfold toksF at h
    cases hk : skipB false l with
    | nil => rw [hk] at h; cases h
    | cons b r =>
      rw [hk] at h
      simp only at h
      cases ht : tokL (b :: r) with
      | bad e' =>
        rw [ht] at h
        simp only at h
        injection h with h1 h2
        subst h2
        exact ⟨tokL_bad ht, by omega⟩
      | got k t rest =>
        rw [ht] at h
        simp only at h
        cases hq : toksF N n rest with
        | ok us => rw [hq] at h; cases h
        | bad o' e' =>
          rw [hq] at h
          simp only [Out.push] at h
          injection h with h1 h2
          subst h1 h2
          exact toksF_bad N n rest o' e' hq
end Go.Proofs.YtafomaiaobfkfaaGreatDoor.Lx
