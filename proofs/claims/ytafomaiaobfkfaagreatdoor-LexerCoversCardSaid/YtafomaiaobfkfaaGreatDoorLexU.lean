/-
  A source is its tokens with space between them, each as it is written: plain Lean on lists of bytes. Conditions: each theorem's own.
-/
import Derived.Test.YtafomaiaobfkfaaGreatDoorLexT
namespace Go.Proofs.YtafomaiaobfkfaaGreatDoor.Lx
set_option linter.unusedVariables false
set_option linter.unusedSimpArgs false

/-- What skipping leaves, and what it skips. -/
theorem skip_split : ∀ (l : L) (c : Bool), skipB c l = [] ∨ ∃ g, l = g ++ skipB c l ∧ ∀ x, skipB c (g ++ x) = skipB false x
  | [], c => .inl (by cases c <;> simp [skipB])
  | b :: r, false => by
    by_cases h1 : spB b = true
    · have e : ∀ y, skipB false (b :: y) = skipB false y := fun y => by simp [skipB, h1]
      rcases skip_split r false with h | ⟨g, e1, e2⟩
      · exact .inl (by rw [e, h])
      · exact .inr ⟨b :: g, by rw [e, List.cons_append, ← e1], fun x => by rw [List.cons_append, e, e2]⟩
    · by_cases h2 : b.toNat = 35
      · have e : ∀ y, skipB false (b :: y) = skipB true y := fun y => by simp [skipB, h1, h2]
        rcases skip_split r true with h | ⟨g, e1, e2⟩
        · exact .inl (by rw [e, h])
        · exact .inr ⟨b :: g, by rw [e, List.cons_append, ← e1], fun x => by rw [List.cons_append, e, e2]⟩
      · have e : skipB false (b :: r) = b :: r := by simp [skipB, h1, h2]
        exact .inr ⟨[], by rw [e]; rfl, fun x => rfl⟩
  | b :: r, true => by
    by_cases h2 : b.toNat = 10
    · have e : ∀ y, skipB true (b :: y) = skipB false y := fun y => by simp [skipB, h2]
      rcases skip_split r false with h | ⟨g, e1, e2⟩
      · exact .inl (by rw [e, h])
      · exact .inr ⟨b :: g, by rw [e, List.cons_append, ← e1], fun x => by rw [List.cons_append, e, e2]⟩
    · have e : ∀ y, skipB true (b :: y) = skipB true y := fun y => by simp [skipB, h2]
      rcases skip_split r true with h | ⟨g, e1, e2⟩
      · exact .inl (by rw [e, h])
      · exact .inr ⟨b :: g, by rw [e, List.cons_append, ← e1], fun x => by rw [List.cons_append, e, e2]⟩
theorem blank_of_gap {g : L} (h : Gap g) : skipB false g = [] := by
  have := h []
  simpa [skipB] using this

theorem textL_src : ∀ (n : Nat) (acc l : L), l.length ≤ n → ∀ (k : Int) (t rest : L), textL acc l = .got k t rest → ∃ u, t = acc ++ u ∧ l = escL u ++ 34 :: rest
  | 0, acc, l, hn => by
    intro k t rest h
    have : l = [] := List.eq_nil_of_length_eq_zero (by omega)
    subst this
    simp [textL] at h
  | n + 1, acc, [], hn => by
    intro k t rest h
    simp [textL] at h
  | n + 1, acc, b :: r, hn => by
    intro k t rest h
    simp at hn
    unfold textL at h
    split at h
    · rename_i h34
      split at h
      · cases h
      · injection h with h1 h2 h3
        subst h2 h3
        have : b = 34 := UInt8.toNat_inj.1 h34
        exact ⟨[], by simp, by rw [this]; rfl⟩
    · rename_i h34
      split at h
      · rename_i h92
        split at h
        · cases h
        · rename_i c r'
          simp at hn
          split at h
          · rename_i hc
            obtain ⟨u, e1, e2⟩ := textL_src n _ r' (by omega) _ _ _ h
            have hb : b = 92 := UInt8.toNat_inj.1 h92
            have hsp : spcB c = true := by simpa [spcB] using hc
            exact ⟨c :: u, by rw [e1]; simp, by rw [e2, hb]; simp [escL, hsp]⟩
          · cases h
      · rename_i h92
        split at h
        · cases h
        · obtain ⟨u, e1, e2⟩ := textL_src n _ r (by omega) _ _ _ h
          have hsp : spcB b = false := by simp [spcB, h34, h92]
          exact ⟨b :: u, by rw [e1]; simp, by rw [e2]; simp [escL, hsp]⟩
/-- What a token was read of is what it is written as. -/
theorem tokL_src {l : L} {k : Int} {t rest : L} (h : tokL l = .got k t rest) : l = wrL k t ++ rest := by
  have hg := (tokL_good h).1
  match l, h with
  | [], h => simp [tokL] at h
  | b :: r, h =>
    simp only [tokL] at h
    split at h
    · unfold nameL at h
      split at h
      · injection h with h1 h2 h3
        subst h1 h2 h3
        exact (List.takeWhile_append_dropWhile (p := restB)).symm
      · split at h
        · cases h
        · injection h with h1 h2 h3
          subst h1 h2 h3
          exact (List.takeWhile_append_dropWhile (p := restB)).symm
    · split at h
      · unfold numberL at h
        split at h
        · cases h
        · injection h with h1 h2 h3
          subst h1 h2 h3
          exact (List.takeWhile_append_dropWhile (p := digitB)).symm
      · split at h
        · rename_i h34
          obtain ⟨hk, _⟩ := textL_good _ [] r (Nat.le_refl _) (fun c hc => (by cases hc)) _ _ _ h
          obtain ⟨u, e1, e2⟩ := textL_src _ [] r (Nat.le_refl _) _ _ _ h
          have hb : b = 34 := UInt8.toNat_inj.1 h34
          subst hk
          rw [e2, hb]
          simp only [List.nil_append] at e1
          subst e1
          simp [wrL]
        · match r, h with
          | [], h =>
            simp only [signL] at h
            split at h
            · injection h with h1 h2 h3
              subst h1 h2 h3
              rfl
            · cases h
          | c :: r, h =>
            simp only [signL] at h
            split at h
            · injection h with h1 h2 h3
              subst h1 h2 h3
              rfl
            · split at h
              · injection h with h1 h2 h3
                subst h1 h2 h3
                rfl
              · cases h
theorem pre_head {y rest : L} (h : y <+: rest) : y = [] ∨ ∃ c q q', y = c :: q ∧ rest = c :: q' := by
  obtain ⟨z, rfl⟩ := h
  match y with
  | [] => exact .inl rfl
  | c :: q => exact .inr ⟨c, q, q ++ z, rfl, rfl⟩
theorem tw_pre {p : UInt8 → Bool} {t rest y : L} (h1 : (t ++ rest).takeWhile p = t) (h2 : (t ++ rest).dropWhile p = rest) (hy : y <+: rest) : (t ++ y).takeWhile p = t ∧ (t ++ y).dropWhile p = y := by
  have hall : ∀ c ∈ t, p c = true := by rw [← h1]; exact fun c hc => mem_tw _ c hc
  have hne : ∀ c q', rest = c :: q' → p c = false := by
    intro c q' e
    have := List.head?_dropWhile_not p (t ++ rest)
    rw [h2, e] at this
    simpa using this
  have key : ∀ t : L, (∀ c ∈ t, p c = true) → (t ++ y).takeWhile p = t ∧ (t ++ y).dropWhile p = y := by
    intro t
    induction t with
    | nil =>
      intro _
      rcases pre_head hy with rfl | ⟨c, q, q', rfl, e⟩
      · exact ⟨rfl, rfl⟩
      · have := hne c q' e
        simp [List.takeWhile_cons, List.dropWhile_cons, this]
    | cons b t ih =>
      intro h
      have hi := ih (fun c hc => h c (by simp [hc]))
      simp [List.takeWhile_cons, List.dropWhile_cons, h b (by simp), hi.1, hi.2]
  exact key t hall
/-- A token is read the same way, wherever the source ends behind it. -/
theorem tokL_pre {l : L} {k : Int} {t rest y : L} (h : tokL l = .got k t rest) (hy : y <+: rest) : tokL (wrL k t ++ y) = .got k t y := by
  have hs := tokL_src h
  have hg := (tokL_good h).1
  rcases hg with ⟨hk, ⟨b, r, rfl, hb⟩, hall, hw⟩ | ⟨rfl, ⟨b, r, rfl⟩, hall, hl, hz⟩ | ⟨rfl, hall, hl⟩ | ⟨rfl, hg⟩
  · have hk4 : ¬ k = 4 := by rw [hk]; split <;> decide
    have e : wrL k (b :: r) = b :: r := by unfold wrL; rw [if_neg hk4]
    rw [e] at hs ⊢
    subst hs
    have hn : nameL (b :: r ++ rest) = .got k (b :: r) rest := by
      rw [List.cons_append] at h ⊢
      simp only [tokL] at h
      rwa [if_pos hb] at h
    have htd : ((b :: r) ++ rest).takeWhile restB = b :: r ∧ ((b :: r) ++ rest).dropWhile restB = rest := by
      unfold nameL at hn
      split at hn
      · injection hn with _ h2 h3; exact ⟨h2, h3⟩
      · split at hn
        · cases hn
        · injection hn with _ h2 h3; exact ⟨h2, h3⟩
    obtain ⟨t1, t2⟩ := tw_pre htd.1 htd.2 hy
    rw [List.cons_append] at t1 t2 ⊢
    simp only [tokL]
    rw [if_pos hb]
    unfold nameL
    rw [t1, t2]
    by_cases hm : b :: r ∈ words
    · rw [if_pos hm, hk, if_pos hm]
    · rw [if_neg hm, hk, if_neg hm, if_neg (by rcases hw with hw | hw; exact absurd hw hm; omega)]
  · have e : wrL 3 (b :: r) = b :: r := rfl
    have hb := hall b (by simp)
    rw [e] at hs ⊢
    subst hs
    have hn : numberL (b :: r ++ rest) = .got 3 (b :: r) rest := by
      rw [List.cons_append] at h ⊢
      simp only [tokL] at h
      rwa [if_neg (by rw [digit_small hb]; simp), if_pos hb] at h
    unfold numberL at hn
    split at hn
    · cases hn
    · rename_i hno
      injection hn with _ h2 h3
      obtain ⟨t1, t2⟩ := tw_pre h2 h3 hy
      rw [List.cons_append] at t1 t2 ⊢
      simp only [tokL]
      rw [if_neg (by rw [digit_small hb]; simp), if_pos hb]
      unfold numberL
      rw [t1, t2, if_neg]
      rintro (q | ⟨q1, q2⟩ | q)
      · omega
      · exact hz ⟨by simpa using q1, q2⟩
      · rcases pre_head hy with rfl | ⟨c, q0, q', rfl, e⟩
        · simp [headIs] at q
        · apply hno
          rw [h3, e]
          exact .inr (.inr (by simpa [headIs] using q))
  · have e : wrL 4 t = 34 :: (escL t ++ [34]) := rfl
    have := textL_esc y t [] hall
    rw [e, List.cons_append]
    simp only [tokL]
    rw [if_neg (by decide), if_neg (by decide), if_pos (by decide), List.append_assoc, List.singleton_append, this, List.nil_append, if_neg (by omega)]
  · have e : wrL 5 t = t := rfl
    rw [e] at hs ⊢
    subst hs
    rcases hg with ⟨b, rfl, hb⟩ | hl
    · obtain ⟨p1, p2, p3, p4, p5⟩ := shorts_plain b hb
      rw [List.cons_append, List.nil_append] at h ⊢
      simp only [tokL] at h ⊢
      rw [if_neg (by simp [p1]), if_neg (by simp [p2]), if_neg p3] at h ⊢
      rcases pre_head hy with rfl | ⟨c, q, q', rfl, rfl⟩
      · simp [signL, hb]
      · simp only [signL] at h ⊢
        by_cases hl : [b, c] ∈ longs
        · rw [if_pos hl] at h
          injection h with _ h2 _
          simp at h2
        · rw [if_neg hl, if_pos hb]
    · obtain ⟨b, c, rfl, p1, p2, p3, p4, p5⟩ := longs_plain t hl
      rw [List.cons_append, List.cons_append, List.nil_append]
      simp only [tokL]
      rw [if_neg (by simp [p1]), if_neg (by simp [p2]), if_neg p3]
      simp [signL, hl]

/-! ### the source as a chain -/
/-- The tokens of a chain, from an offset on. -/
def tsOf : Nat → List (L × Int × L) → List Tok
  | _, [] => []
  | p, (g, k, t) :: r => ⟨k, p + g.length, t⟩ :: tsOf (p + g.length + (wrL k t).length) r
def Chain : List (L × Int × L) → L → Prop
  | [], _ => True
  | (g, k, t) :: r, z => Gap g ∧ Good k t ∧ (∀ y, y <+: bld r ++ z → tokL (wrL k t ++ y) = .got k t y) ∧ Chain r z
theorem bldU_app : ∀ a b : List (L × Int × L), bld (a ++ b) = bld a ++ bld b
  | [], b => rfl
  | (g, k, t) :: r, b => by
    have ih := bldU_app r b
    simp [bld, ih]
theorem Chain.take : ∀ {it : List (L × Int × L)} {z : L}, Chain it z → ∀ j, Chain (it.take j) []
  | [], z, _, j => by rw [List.take_nil]; trivial
  | (g, k, t) :: r, z, h, 0 => trivial
  | (g, k, t) :: r, z, ⟨h1, h2, h3, h4⟩, j + 1 => by
    rw [List.take_succ_cons]
    refine ⟨h1, h2, fun y hy => h3 y ?_, Chain.take h4 j⟩
    rw [List.append_nil] at hy
    refine hy.trans ⟨bld (r.drop j) ++ z, ?_⟩
    rw [← List.append_assoc, ← bldU_app, List.take_append_drop]
theorem Chain.toks (N : Nat) : ∀ (it : List (L × Int × L)) (n p : Nat), it.length < n → Chain it [] → p + (bld it).length = N → toksF N n (bld it) = .ok (tsOf p it)
  | [], n, p, hn, _, _ => by
    obtain ⟨n, rfl⟩ : ∃ m, n = m + 1 := ⟨n - 1, by simp at hn; omega⟩
    simp [bld, toksF, skipB, tsOf]
  | (g, k, t) :: r, n, p, hn, ⟨h1, h2, h3, h4⟩, hp => by
    obtain ⟨n, rfl⟩ : ∃ m, n = m + 1 := ⟨n - 1, by simp at hn; omega⟩
    obtain ⟨_, b, q, e2, p1, p2⟩ := wr_read (y := []) h2 (.inl rfl)
    have e1 := h3 (bld r) (by simp)
    have hlen : p + (g.length + ((b :: q).length + (bld r).length)) = N := by
      have := hp
      simp only [bld, List.length_append] at this
      rw [e2] at this
      simpa using this
    have e3 : skipB false (g ++ (wrL k t ++ bld r)) = b :: (q ++ bld r) := by
      rw [h1 (wrL k t ++ bld r), e2, List.cons_append, skip_head p1 p2]
    have ih := Chain.toks N r n (p + g.length + (wrL k t).length) (by simp at hn; omega) h4 (by rw [e2]; omega)
    rw [e2, List.cons_append] at e1
    rw [bld]
    unfold toksF
    rw [e3]
    simp only
    rw [e1]
    simp only
    rw [ih]
    simp only [Out.push, tsOf]
    congr 2
    simp at hlen ⊢
    omega
/-- A source without a problem is a chain, with space behind. -/
theorem chain_of (N : Nat) : ∀ (n : Nat) (l : L) (ts : List Tok) (p : Nat), l.length < n → p + l.length = N → toksF N n l = .ok ts →
    ∃ it z, l = bld it ++ z ∧ Chain it z ∧ skipB false z = [] ∧ ts = tsOf p it
  | 0, l, ts, p, hn, _, _ => by omega
  | n + 1, l, ts, p, hn, hp, h => by
    unfold toksF at h
    split at h
    · rename_i hs
      injection h with h
      subst h
      exact ⟨[], l, rfl, trivial, hs, rfl⟩
    · rename_i b r hb
      split at h
      · cases h
      · rename_i k t rest hg
        cases hq : toksF N n rest with
        | bad o e => rw [hq] at h; simp [Out.push] at h
        | ok us =>
          rw [hq] at h
          simp only [Out.push, Out.ok.injEq] at h
          subst h
          rcases skip_split l false with hn0 | ⟨g, e1, e2⟩
          · rw [hb] at hn0; cases hn0
          · rw [hb] at e1
            have hsrc := tokL_src hg
            have hgd := tokL_good hg
            have hlt := hgd.2.2
            have hll : l.length = g.length + (b :: r).length := by rw [e1]; simp
            have hbr : (b :: r).length = (wrL k t).length + rest.length := by rw [hsrc]; simp
            obtain ⟨it, z, i1, i2, i3, i4⟩ := chain_of N n rest us (p + g.length + (wrL k t).length) (by omega) (by omega) hq
            refine ⟨(g, k, t) :: it, z, ?_, ⟨e2, hgd.1, fun y hy => tokL_pre hg (by rw [i1]; exact hy), i2⟩, i3, ?_⟩
            · rw [e1, hsrc, i1]
              simp [bld]
            · rw [i4]
              simp only [tsOf]
              congr 2
              omega
theorem blank_toks {g : L} (h : skipB false g = []) : Lx.toks g = .ok [] := by
  unfold Lx.toks toksF
  rw [h]
end Go.Proofs.YtafomaiaobfkfaaGreatDoor.Lx
