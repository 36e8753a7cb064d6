/-
  Tokens written and read again: plain Lean on lists of bytes. Conditions: each theorem's own.
-/
import Derived.Test.YtafomaiaobfkfaaGreatDoorLexXc
namespace Go.Proofs.YtafomaiaobfkfaaGreatDoor.Lx
set_option linter.unusedVariables false
set_option linter.unusedSimpArgs false

theorem mem_tw {p : UInt8 → Bool} : ∀ (l : L), ∀ c ∈ l.takeWhile p, p c = true
  | [], c, h => by cases h
  | b :: r, c, h => by
    rw [List.takeWhile_cons] at h
    split at h
    · rcases List.mem_cons.1 h with rfl | h
      · assumption
      · exact mem_tw r c h
    · cases h
/-- A token as it is written. -/
def wrL (k : Int) (t : L) : L := if k = 4 then 34 :: (escL t ++ [34]) else t
/-- What begins space or a comment. -/
def sepB (b : UInt8) : Bool := spB b || decide (b.toNat = 35)
theorem sep_rest {b : UInt8} (h : sepB b = true) : restB b = false ∧ letB b = false ∧ digitB b = false := by
  simp only [sepB, spB, Bool.or_eq_true, decide_eq_true_eq] at h
  simp [letB, restB, smallB, digitB, capB]
  omega
theorem sep_sign {b : UInt8} (h : sepB b = true) : ∀ a : UInt8, [a, b] ∉ longs := by
  intro a hm
  simp only [sepB, spB, Bool.or_eq_true, decide_eq_true_eq] at h
  simp only [longs, List.mem_cons, List.cons.injEq, and_true, List.not_mem_nil, or_false] at hm
  rcases hm with ⟨_, rfl⟩ | ⟨_, rfl⟩ | ⟨_, rfl⟩ | ⟨_, rfl⟩ | ⟨_, rfl⟩ <;> simp at h
/-- Nothing, or space, or a comment. -/
def Stop (y : L) : Prop := y = [] ∨ ∃ c r, y = c :: r ∧ sepB c = true
theorem tw_stop {p : UInt8 → Bool} (hp : ∀ c, sepB c = true → p c = false) {y : L} (hy : Stop y) : ∀ t : L, (∀ b ∈ t, p b = true) → (t ++ y).takeWhile p = t ∧ (t ++ y).dropWhile p = y
  | [], _ => by
    rcases hy with rfl | ⟨c, r, rfl, hc⟩
    · exact ⟨rfl, rfl⟩
    · simp [List.takeWhile_cons, List.dropWhile_cons, hp c hc]
  | b :: t, h => by
    have ih := tw_stop hp hy t (fun c hc => h c (by simp [hc]))
    simp [List.takeWhile_cons, List.dropWhile_cons, h b (by simp), ih.1, ih.2]

/-- What the tokens are. -/
def Good (k : Int) (t : L) : Prop :=
  ((k = if t ∈ words then 2 else 1) ∧ (∃ b r, t = b :: r ∧ smallB b = true) ∧ (∀ c ∈ t, restB c = true) ∧ (t ∈ words ∨ t.length ≤ 40)) ∨
  (k = 3 ∧ (∃ b r, t = b :: r) ∧ (∀ c ∈ t, digitB c = true) ∧ t.length ≤ 18 ∧ ¬ (t.head? = some 48 ∧ 1 < t.length)) ∨
  (k = 4 ∧ (∀ c ∈ t, 32 ≤ c.toNat ∧ c.toNat ≤ 126) ∧ t.length ≤ 200) ∨
  (k = 5 ∧ ((∃ b, t = [b] ∧ b ∈ shorts) ∨ t ∈ longs))
theorem small_rest {b : UInt8} (h : smallB b = true) : restB b = true := by simp [restB, h]
theorem digit_small {b : UInt8} (h : digitB b = true) : smallB b = false := by
  simp [digitB] at h
  simp [smallB]
  omega
theorem head_tw {p : UInt8 → Bool} {b : UInt8} {r : L} (h : p b = true) : ((b :: r).takeWhile p).head? = some b := by simp [List.takeWhile_cons, h]
theorem textL_good : ∀ (n : Nat) (acc l : L), l.length ≤ n → (∀ c ∈ acc, 32 ≤ c.toNat ∧ c.toNat ≤ 126) → ∀ (k : Int) (t rest : L), textL acc l = .got k t rest →
    k = 4 ∧ (∀ c ∈ t, 32 ≤ c.toNat ∧ c.toNat ≤ 126) ∧ t.length ≤ 200 ∧ t.length + rest.length < acc.length + l.length
  | 0, acc, l, hn => by
    intro ha k t rest h
    have : l = [] := List.eq_nil_of_length_eq_zero (by omega)
    subst this
    simp [textL] at h
  | n + 1, acc, [], hn => by
    intro ha k t rest h
    simp [textL] at h
  | n + 1, acc, b :: r, hn => by
    intro ha k t rest h
    simp at hn
    unfold textL at h
    split at h
    · split at h
      · cases h
      · injection h with h1 h2 h3
        subst h2 h3
        exact ⟨h1.symm, ha, by omega, by simp⟩
    · split at h
      · split at h
        · cases h
        · rename_i c r'
          simp at hn
          split at h
          · rename_i hc
            obtain ⟨e1, e2, e3, e4⟩ := textL_good n _ r' (by omega) (by
              intro x hx
              rcases List.mem_append.1 hx with hx | hx
              · exact ha x hx
              · simp at hx; subst hx; omega) _ _ _ h
            exact ⟨e1, e2, e3, by simp at e4 ⊢; omega⟩
          · cases h
      · split at h
        · cases h
        · rename_i hb
          obtain ⟨e1, e2, e3, e4⟩ := textL_good n _ r (by omega) (by
            intro x hx
            rcases List.mem_append.1 hx with hx | hx
            · exact ha x hx
            · simp at hx; subst hx; omega) _ _ _ h
          exact ⟨e1, e2, e3, by simp at e4 ⊢; omega⟩
theorem tokL_good {l : L} {k : Int} {t rest : L} (h : tokL l = .got k t rest) : Good k t ∧ t.length + rest.length ≤ l.length ∧ rest.length < l.length := by
  have hlt := tokL_lt h
  match l, h with
  | [], h => simp [tokL] at h
  | b :: r, h =>
    simp only [tokL] at h
    split at h
    · rename_i hb
      unfold nameL at h
      have hl := takeDrop_len restB (b :: r)
      have e : ((b :: r).takeWhile restB) = b :: r.takeWhile restB := by simp [List.takeWhile_cons, small_rest hb]
      have hall : ∀ c ∈ (b :: r).takeWhile restB, restB c = true := fun c hc => mem_tw _ c hc
      split at h
      · rename_i hw
        injection h with h1 h2 h3
        subst h2 h3
        exact ⟨.inl ⟨by rw [if_pos hw]; exact h1.symm, ⟨b, _, e, hb⟩, hall, .inl hw⟩, by omega, hlt⟩
      · rename_i hw
        split at h
        · cases h
        · injection h with h1 h2 h3
          subst h2 h3
          exact ⟨.inl ⟨by rw [if_neg hw]; exact h1.symm, ⟨b, _, e, hb⟩, hall, .inr (by omega)⟩, by omega, hlt⟩
    · split at h
      · rename_i hb
        unfold numberL at h
        have hl := takeDrop_len digitB (b :: r)
        split at h
        · cases h
        · rename_i hn
          injection h with h1 h2 h3
          subst h2 h3
          refine ⟨.inr (.inl ⟨h1.symm, ⟨b, r.takeWhile digitB, by simp [List.takeWhile_cons, hb]⟩, fun c hc => mem_tw _ c hc, by omega, ?_⟩), by omega, hlt⟩
          rintro ⟨q1, q2⟩
          apply hn
          rw [head_tw hb] at q1
          exact .inr (.inl ⟨by simpa using q1, q2⟩)
      · split at h
        · obtain ⟨e1, e2, e3, e4⟩ := textL_good _ [] r (Nat.le_refl _) (fun c hc => by cases hc) _ _ _ h
          exact ⟨.inr (.inr (.inl ⟨e1, e2, e3⟩)), by simp at e4 ⊢; omega, hlt⟩
        · match r, h with
          | [], h =>
            simp only [signL] at h
            split at h
            · rename_i hb
              injection h with h1 h2 h3
              subst h2 h3
              exact ⟨.inr (.inr (.inr ⟨h1.symm, .inl ⟨b, rfl, hb⟩⟩)), by simp, hlt⟩
            · cases h
          | c :: r, h =>
            simp only [signL] at h
            split at h
            · rename_i hb
              injection h with h1 h2 h3
              subst h2 h3
              exact ⟨.inr (.inr (.inr ⟨h1.symm, .inr hb⟩)), by simp; omega, hlt⟩
            · split at h
              · rename_i hb
                injection h with h1 h2 h3
                subst h2 h3
                exact ⟨.inr (.inr (.inr ⟨h1.symm, .inl ⟨b, rfl, hb⟩⟩)), by simp; omega, hlt⟩
              · cases h
theorem textL_esc (y : L) : ∀ (t acc : L), (∀ c ∈ t, 32 ≤ c.toNat ∧ c.toNat ≤ 126) → textL acc (escL t ++ 34 :: y) = if 200 < (acc ++ t).length then .bad 142 else .got 4 (acc ++ t) y
  | [], acc, _ => by
    show textL acc (34 :: y) = _
    unfold textL
    rw [if_pos (by decide)]
    simp
  | b :: t, acc, h => by
    have hb := h b (by simp)
    have ih := textL_esc y t (acc ++ [b]) (fun c hc => h c (by simp [hc]))
    unfold escL
    by_cases hs : spcB b = true
    · rw [if_pos hs, List.cons_append, List.cons_append]
      unfold textL
      rw [if_neg (by decide), if_pos (by decide)]
      simp only
      have : b.toNat = 34 ∨ b.toNat = 92 := by simpa [spcB] using hs
      rw [if_pos this, ih]
      simp
    · rw [if_neg hs, List.cons_append]
      have : ¬ b.toNat = 34 ∧ ¬ b.toNat = 92 := by
        simp [spcB] at hs
        exact hs
      unfold textL
      rw [if_neg this.1, if_neg this.2, if_neg (by omega), ih]
      simp
theorem shorts_plain : ∀ b ∈ shorts, smallB b = false ∧ digitB b = false ∧ ¬ b.toNat = 34 ∧ spB b = false ∧ ¬ b.toNat = 35 := by decide
theorem longs_plain : ∀ t ∈ longs, ∃ b c, t = [b, c] ∧ smallB b = false ∧ digitB b = false ∧ ¬ b.toNat = 34 ∧ spB b = false ∧ ¬ b.toNat = 35 := by
  intro t ht
  simp only [longs, List.mem_cons, List.not_mem_nil, or_false] at ht
  rcases ht with rfl | rfl | rfl | rfl | rfl <;> exact ⟨_, _, rfl, by decide, by decide, by decide, by decide, by decide⟩
theorem skip_head {b : UInt8} {r : L} (h1 : spB b = false) (h2 : ¬ b.toNat = 35) : skipB false (b :: r) = b :: r := by simp [skipB, h1, h2]
theorem small_plain {b : UInt8} (h : smallB b = true) : spB b = false ∧ ¬ b.toNat = 35 := by
  simp [smallB] at h
  simp [spB]
  omega
theorem digit_plain {b : UInt8} (h : digitB b = true) : spB b = false ∧ ¬ b.toNat = 35 := by
  simp [digitB] at h
  simp [spB]
  omega
/-- A token that is written, with a border behind it, is read again. -/
theorem wr_read {k : Int} {t y : L} (h : Good k t) (hy : Stop y) : tokL (wrL k t ++ y) = .got k t y ∧ ∃ b r, wrL k t = b :: r ∧ spB b = false ∧ ¬ b.toNat = 35 := by
  rcases h with ⟨hk, ⟨b, r, rfl, hb⟩, hall, hw⟩ | ⟨rfl, ⟨b, r, rfl⟩, hall, hl, hz⟩ | ⟨rfl, hall, hl⟩ | ⟨rfl, h⟩
  · have hk4 : ¬ k = 4 := by rw [hk]; split <;> decide
    have e : wrL k (b :: r) = b :: r := by unfold wrL; rw [if_neg hk4]
    rw [e]
    refine ⟨?_, b, r, rfl, small_plain hb⟩
    obtain ⟨t1, t2⟩ := tw_stop (p := restB) (fun c hc => (sep_rest hc).1) hy (b :: r) hall
    rw [List.cons_append] at t1 t2 ⊢
    simp only [tokL]
    rw [if_pos hb]
    unfold nameL
    rw [t1, t2]
    by_cases hm : b :: r ∈ words
    · rw [if_pos hm, hk, if_pos hm]
    · rw [if_neg hm, hk, if_neg hm, if_neg (by rcases hw with hw | hw; exact absurd hw hm; omega)]
  · have e : wrL 3 (b :: r) = b :: r := rfl
    have hb := hall b (by simp)
    rw [e]
    refine ⟨?_, b, r, rfl, digit_plain hb⟩
    obtain ⟨t1, t2⟩ := tw_stop (p := digitB) (fun c hc => (sep_rest hc).2.2) hy (b :: r) hall
    rw [List.cons_append] at t1 t2 ⊢
    simp only [tokL]
    rw [if_neg (by rw [digit_small hb]; simp), if_pos hb]
    unfold numberL
    rw [t1, t2, if_neg]
    rintro (h | ⟨h1, h2⟩ | h)
    · omega
    · exact hz ⟨by simpa using h1, h2⟩
    · rcases hy with rfl | ⟨c, r', rfl, hc⟩
      · simp [headIs] at h
      · simp [headIs, (sep_rest hc).2.1] at h
  · have e : wrL 4 t = 34 :: (escL t ++ [34]) := rfl
    rw [e]
    refine ⟨?_, 34, _, rfl, by decide, by decide⟩
    have := textL_esc y t [] hall
    rw [List.cons_append]
    simp only [tokL]
    rw [if_neg (by decide), if_neg (by decide), if_pos (by decide), List.append_assoc, List.singleton_append, this, List.nil_append, if_neg (by omega)]
  · have e : wrL 5 t = t := rfl
    rw [e]
    rcases h with ⟨b, rfl, hb⟩ | hl
    · obtain ⟨p1, p2, p3, p4, p5⟩ := shorts_plain b hb
      refine ⟨?_, b, [], rfl, p4, p5⟩
      rw [List.cons_append, List.nil_append]
      simp only [tokL]
      rw [if_neg (by simp [p1]), if_neg (by simp [p2]), if_neg p3]
      rcases hy with rfl | ⟨c, r, rfl, hc⟩
      · simp [signL, hb]
      · simp [signL, hb, sep_sign hc b]
    · obtain ⟨b, c, rfl, p1, p2, p3, p4, p5⟩ := longs_plain t hl
      refine ⟨?_, b, [c], rfl, p4, p5⟩
      rw [List.cons_append, List.cons_append, List.nil_append]
      simp only [tokL]
      rw [if_neg (by simp [p1]), if_neg (by simp [p2]), if_neg p3]
      simp [signL, hl]

/-! ### a source of tokens with gaps -/
def Gap (g : L) : Prop := ∀ x, skipB false (g ++ x) = skipB false x
def bld : List (L × Int × L) → L
  | [] => []
  | (g, k, t) :: r => g ++ (wrL k t ++ bld r)
theorem bld_toks (N : Nat) : ∀ (it : List (L × Int × L)) (n : Nat), it.length < n → (∀ x ∈ it, Gap x.1 ∧ Good x.2.1 x.2.2) → (∀ x ∈ it.tail, ∃ c r, x.1 = c :: r ∧ sepB c = true) →
    ∃ us, toksF N n (bld it) = .ok us ∧ us.map (fun u => (u.k, u.s)) = it.map (·.2)
  | [], n, hn, _, _ => by
    obtain ⟨n, rfl⟩ : ∃ m, n = m + 1 := ⟨n - 1, by simp at hn; omega⟩
    exact ⟨[], by simp [bld, toksF, skipB], rfl⟩
  | (g, k, t) :: r, n, hn, hg, hs => by
    obtain ⟨n, rfl⟩ : ∃ m, n = m + 1 := ⟨n - 1, by simp at hn; omega⟩
    obtain ⟨h1, h2⟩ : Gap g ∧ Good k t := hg (g, k, t) (by simp)
    have hstop : Stop (bld r) := by
      match r, hs with
      | [], _ => exact .inl rfl
      | (g', k', t') :: r', hs =>
        obtain ⟨c, q, e, hc⟩ := hs (g', k', t') (by simp)
        simp only at e
        exact .inr ⟨c, q ++ (wrL k' t' ++ bld r'), by simp [bld, e], hc⟩
    obtain ⟨e1, b, q, e2, p1, p2⟩ := wr_read h2 hstop
    obtain ⟨us, i1, i2⟩ := bld_toks N r n (by simp at hn; omega) (fun x hx => hg x (by simp [hx])) (fun x hx => hs x (List.mem_of_mem_tail hx))
    rw [bld]
    unfold toksF
    have e3 : skipB false (g ++ (wrL k t ++ bld r)) = b :: (q ++ bld r) := by
      rw [h1 (wrL k t ++ bld r), e2, List.cons_append, skip_head p1 p2]
    rw [e2, List.cons_append] at e1
    rw [e3]
    simp only
    rw [e1]
    simp only
    rw [i1]
    exact ⟨_, rfl, by simp [i2]⟩
theorem toksF_good (N : Nat) : ∀ (n : Nat) (l : L) (ts : List Tok), toksF N n l = .ok ts → (∀ x ∈ ts, Good x.k x.s) ∧ (ts.map (fun x => 2 * x.s.length + 3)).sum ≤ 5 * l.length
  | 0, l, ts, h => by
    simp [toksF] at h
    subst h
    exact ⟨fun x hx => (by cases hx), by simp⟩
  | n + 1, l, ts, h => by
    unfold toksF at h
    have hsk := skipB_le l false
    split at h
    · injection h with h
      subst h
      exact ⟨fun x hx => (by cases hx), by simp⟩
    · rename_i b r hb
      split at h
      · cases h
      · rename_i k t rest hg
        obtain ⟨g1, g2, g3⟩ := tokL_good hg
        cases hq : toksF N n rest with
        | bad o e => rw [hq] at h; simp [Out.push] at h
        | ok us =>
          rw [hq] at h
          simp only [Out.push, Out.ok.injEq] at h
          subst h
          obtain ⟨i1, i2⟩ := toksF_good N n rest us hq
          rw [hb] at hsk
          refine ⟨fun x hx => ?_, ?_⟩
          · rcases List.mem_cons.1 hx with rfl | hx
            · exact g1
            · exact i1 x hx
          · simp only [List.map_cons, List.sum_cons]
            omega
/-- Space alone. -/
theorem blank_skip {g : L} (h : toks g = .ok []) : skipB false g = [] := by
  unfold toks toksF at h
  split at h
  · assumption
  · split at h
    · cases h
    · rename_i k t rest hg
      cases hq : toksF g.length g.length rest with
      | bad o e => rw [hq] at h; simp [Out.push] at h
      | ok us => rw [hq] at h; simp [Out.push] at h
theorem gap_lf {g : L} (h : skipB false g = []) : Gap (g ++ [10]) := by
  intro x
  have := skipB_app false g x
  rw [if_pos h] at this
  simpa using this
theorem gap_sp : Gap [32] := fun x => by simp [skipB, spB]
theorem gap_nil : Gap [] := fun x => rfl
theorem sep_of_blank {g : L} (h : skipB false g = []) : ∃ c r, g ++ [10] = c :: r ∧ sepB c = true := by
  match g, h with
  | [], _ => exact ⟨10, [], rfl, by decide⟩
  | b :: r, h =>
    refine ⟨b, r ++ [10], rfl, ?_⟩
    unfold skipB at h
    split at h
    · simp [sepB, *]
    · split at h
      · simp [sepB, *]
      · cases h
/-- A token alone. -/
theorem wr_alone {k : Int} {t : L} (h : Good k t) : toks (wrL k t) = .ok [⟨k, 0, t⟩] := by
  obtain ⟨e1, b, q, e2, p1, p2⟩ := wr_read (y := []) h (.inl rfl)
  rw [List.append_nil, e2] at e1
  unfold toks toksF
  rw [e2, skip_head p1 p2]
  simp only
  rw [e1]
  simp only
  have : toksF (b :: q).length (b :: q).length [] = .ok [] := by
    rw [List.length_cons]
    simp [toksF, skipB]
  rw [this]
  simp [Out.push]
theorem good_len {k : Int} {t : L} : (wrL k t).length ≤ 2 * t.length + 2 := by
  have h1 := escL_len t
  have h2 := cE_le t
  unfold wrL
  split
  · simp; omega
  · omega
end Go.Proofs.YtafomaiaobfkfaaGreatDoor.Lx
