/-
  LexerForgetsSpace: what the walked law computes is true, whatever the source and the gaps: plain Lean. Conditions: each theorem's own.
-/
import Derived.Test.YtafomaiaobfkfaaGreatDoorPr35
import Derived.Test.YtafomaiaobfkfaaGreatDoorLawV
import Derived.Test.YtafomaiaobfkfaaGreatDoorLexT
namespace Go.Proofs.YtafomaiaobfkfaaGreatDoor.Pr
open Go.RowKit Lx Go.Proofs.YtafomaiaobfkfaaGreatDoorW.PrintWords
set_option linter.unusedVariables false
set_option linter.unusedSimpArgs false

/-! ### tokens of a source -/
theorem wrF (x : Int) (h0 : 0 ≤ x) (h1 : x < 9223372036854775808) : wrap64 x = x := by
  unfold wrap64
  omega
abbrev spF : ByteArray := ⟨#[32]⟩
def tl (x : S44) : Int × L := (x.f0, x.f2.data.toList)
def wS (x : S44) : ByteArray := wrS44 x.f0 x.f2
def GoodS (x : S44) : Prop := Lx.Good x.f0 x.f2.data.toList ∧ x.f2.size ≤ 5000
theorem wS_data (x : S44) : (wS x).data.toList = wrL x.f0 x.f2.data.toList := by
  unfold wS wrS44 wrL
  split
  · unfold quoteS
    simp
  · rfl
theorem rdF (xs : List S44) (i : Nat) (h : i < xs.length) : rd_T44 xs (i : Int) = xs[i] := by simp [rd_T44, List.getD, h]
theorem toksS_ok (s : ByteArray) (h : s.size ≤ 65536) (ts : List Tok) (ht : toks s.data.toList = .ok ts) : lexer_Tokens.f s = some (ts.map tS, 0, 0) := by
  unfold lexer_Tokens.f toksS
  rw [if_neg (by omega), ht]
  rfl
theorem isTok_good {x : S44} (h : GoodS x) : isTok x.f0 x.f2 = true := by
  obtain ⟨h1, h2⟩ := h
  have hz := wrS44_size x.f0 x.f2
  have e := wr_alone h1
  have e2 := wS_data x
  unfold wS at e2
  rw [← e2] at e
  have e3 := toksS_ok _ (by omega) _ e
  unfold isTok
  rw [e3]
  simp [tS, Lib.toList_data]

theorem same_l0 (xs ys : List S44) (he : xs.map tl = ys.map tl) (hl : xs.length ≤ 100000) (m : Nat) : ∀ i k : Nat, i + m = xs.length → m < k → antiquaryref14_Same.l0 k xs ys (i : Int) = some true := by
  have hlen : xs.length = ys.length := by simpa using congrArg List.length he
  induction m with
  | zero =>
    intro i k hm hk
    obtain ⟨k, rfl⟩ : ∃ k', k = k' + 1 := ⟨k - 1, by omega⟩
    rw [antiquaryref14_Same.l0, if_neg (by omega)]
  | succ m ih =>
    intro i k hm hk
    obtain ⟨k, rfl⟩ : ∃ k', k = k' + 1 := ⟨k - 1, by omega⟩
    have h1 : i < xs.length := by omega
    have h2 : i < ys.length := by omega
    have hi : tl xs[i] = tl ys[i] := by
      have := congrArg (fun l => l[i]?) he
      simp only [List.getElem?_map, List.getElem?_eq_getElem h1, List.getElem?_eq_getElem h2, Option.map_some, Option.some.injEq] at this
      exact this
    unfold tl at hi
    injection hi with e1 e2
    have hw : wrap64 ((i : Int) + 1) = ((i + 1 : Nat) : Int) := by rw [wrF _ (by omega) (by omega)]; rfl
    rw [antiquaryref14_Same.l0, if_pos (by omega), if_pos (by omega), if_pos (by omega), rdF xs i h1, rdF ys i h2, if_pos e1, if_pos (by rw [Lib.toList_data, Lib.toList_data, e2]), hw]
    exact ih (i + 1) k (by omega) (by omega)
theorem same_f (xs ys : List S44) (he : xs.map tl = ys.map tl) (hl : xs.length ≤ 100000) (k : Nat) (hk : xs.length < k) : antiquaryref14_Same.f k xs ys = some true := by
  have hlen : xs.length = ys.length := by simpa using congrArg List.length he
  unfold antiquaryref14_Same.f
  rw [if_pos (by omega)]
  exact same_l0 xs ys he hl xs.length 0 k (by omega) hk
theorem tl_tS (us : List Tok) : (us.map tS).map tl = us.map fun u => (u.k, u.s) := by simp [tS, tl]

/-! ### Text -/
theorem text_l0F (xs : List S44) (hx : ∀ x ∈ xs, GoodS x) (hl : xs.length ≤ 60000) (m : Nat) : ∀ (i k : Nat) (out : List ByteArray), i + m = xs.length → m + 1 < k → out.length = i → (joinS (out ++ (xs.drop i).map wS) spF).length ≤ 65536 →
    lexer_Text.l0 k out xs (xs.length : Int) (i : Int) = some (⟨(joinS (out ++ (xs.drop i).map wS) spF).toArray⟩, 0) := by
  induction m with
  | zero =>
    intro i k out hm hk ho hj
    obtain ⟨k, rfl⟩ : ∃ k', k = k' + 1 := ⟨k - 1, by omega⟩
    rw [List.drop_eq_nil_of_le (by omega), List.map_nil, List.append_nil] at hj ⊢
    have hsz : (⟨(joinS out spF).toArray⟩ : ByteArray).size = (joinS out spF).length := List.size_toArray
    rw [lexer_Text.l0, if_neg (by omega)]
    have hjn : strings_Join.f out ⟨#[32]⟩ = some ⟨(joinS out spF).toArray⟩ := by
      unfold strings_Join.f
      exact if_pos ⟨by omega, Nat.le_trans hj (by omega)⟩
    rw [hjn]
    simp only [Option.bind_some]
    rw [hsz, if_neg (by omega)]
  | succ m ih =>
    intro i k out hm hk ho hj
    obtain ⟨k, rfl⟩ : ∃ k', k = k' + 2 := ⟨k - 2, by omega⟩
    have h1 : i < xs.length := by omega
    have hg := hx _ (List.getElem_mem h1)
    have hw : wrap64 ((i : Int) + 1) = ((i + 1 : Nat) : Int) := by rw [wrF _ (by omega) (by omega)]; rfl
    have hd : out ++ (xs.drop i).map wS = (out ++ [wS xs[i]]) ++ (xs.drop (i + 1)).map wS := by
      rw [List.drop_eq_getElem_cons h1, List.map_cons, List.append_assoc]
      rfl
    have hsz := hg.2
    rw [hd] at hj ⊢
    rw [lexer_Text.l0, if_pos (by omega), if_pos (by omega), if_pos (by omega), rdF xs i h1, isToken_f _ _ _ (by omega) k, isTok_good hg]
    simp only [Option.bind_some, if_true]
    rw [lexer_write_f _ _ _ (by omega)]
    simp only [Option.bind_some]
    rw [if_pos (by omega), hw]
    exact ih (i + 1) (k + 1) _ (by omega) (by omega) (by simp; omega) hj
theorem textF_f (xs : List S44) (hx : ∀ x ∈ xs, GoodS x) (hl : xs.length ≤ 60000) (k : Nat) (hk : xs.length + 2 ≤ k) (hj : (joinS (xs.map wS) spF).length ≤ 65536) :
    lexer_Text.f k xs = some (⟨(joinS (xs.map wS) spF).toArray⟩, 0) := by
  have := text_l0F xs hx hl xs.length 0 k [] (by omega) (by omega) rfl (by simpa using hj)
  simpa [lexer_Text.f] using this
theorem text_one (x : S44) (hx : GoodS x) (k : Nat) (hk : 3 ≤ k) : lexer_Text.f k [x] = some (wS x, 0) := by
  have hz := wrS44_size x.f0 x.f2
  have h2 := hx.2
  have e : joinS ([x].map wS) spF = (wS x).data.toList := by simp [joinS, Lib.join_one]
  have hl : (wS x).data.toList.length = (wS x).size := by simp
  have := textF_f [x] (fun y hy => by simp at hy; subst hy; exact hx) (by simp) k (by simpa using hk) (by rw [e, hl]; unfold wS; omega)
  rw [this, e, mk_data]
def itR (g : L) (xs : List S44) : List (L × Int × L) := xs.map fun x => (g, tl x)
theorem tail_bld (g : L) : ∀ r : List S44, Lib.joinTail g ((r.map wS).map (·.data.toList)) = bld (itR g r)
  | [] => rfl
  | x :: r => by
    have ih := tail_bld g r
    simp only [Lib.joinTail, itR, List.map_cons, List.flatten_cons, bld, tl] at ih ⊢
    rw [ih, wS_data, List.append_assoc]
def itJ : List S44 → List (L × Int × L)
  | [] => []
  | x :: r => ([], tl x) :: itR [32] r
theorem join_bld : ∀ xs : List S44, joinS (xs.map wS) spF = bld (itJ xs)
  | [] => rfl
  | x :: r => by
    have h := tail_bld [32] r
    unfold joinS
    rw [List.map_cons, List.map_cons, Lib.join_cons]
    show _ ++ Lib.joinTail [32] _ = _
    rw [h, wS_data]
    simp [itJ, bld, tl]
theorem itJ_snd (xs : List S44) : (itJ xs).map (·.2) = xs.map tl := by
  cases xs with
  | nil => rfl
  | cons x r => simp [itJ, itR, Function.comp_def]
theorem bld_len : ∀ it : List (L × Int × L), (bld it).length ≤ (it.map fun x => x.1.length + 2 * x.2.2.length + 2).sum
  | [] => by simp [bld]
  | (g, k, t) :: r => by
    have ih := bld_len r
    have hw : (wrL k t).length ≤ 2 * t.length + 2 := good_len
    simp only [bld, List.length_append, List.map_cons, List.sum_cons]
    omega
theorem bld_app : ∀ a b : List (L × Int × L), bld (a ++ b) = bld a ++ bld b
  | [], b => rfl
  | (g, k, t) :: r, b => by
    have ih := bld_app r b
    simp [bld, ih]
theorem itJ_len (xs : List S44) : ((itJ xs).map fun x => x.1.length + 2 * x.2.2.length + 2).sum ≤ (xs.map fun x => 2 * x.f2.data.toList.length + 3).sum := by
  have hR : ∀ r : List S44, ((itR [32] r).map fun x => x.1.length + 2 * x.2.2.length + 2).sum = (r.map fun x => 2 * x.f2.data.toList.length + 3).sum := by
    intro r
    induction r with
    | nil => rfl
    | cons x r ih =>
      simp only [itR, List.map_cons, List.sum_cons, tl, List.length_cons, List.length_nil] at ih ⊢
      rw [ih]
      omega
  cases xs with
  | nil => simp [itJ]
  | cons x r =>
    simp only [itJ, List.map_cons, List.sum_cons, tl, List.length_nil]
    rw [hR r]
    omega

theorem bld_count : ∀ it : List (L × Int × L), (∀ y ∈ it, Lx.Good y.2.1 y.2.2) → it.length ≤ (bld it).length
  | [], _ => by simp
  | (g, k, t) :: r, h => by
    have ih := bld_count r (fun y hy => h y (by simp [hy]))
    obtain ⟨_, b, q, e, _⟩ := wr_read (y := []) (h (g, k, t) (by simp)) (.inl rfl)
    simp only at e
    simp only [bld, e, List.length_cons, List.length_append]
    omega
/-! ### the gaps -/
theorem blank_f (g : ByteArray) (hg : g.size ≤ 100) : ∃ b, antiquarylaw14_blank.f g = some b ∧ (b = true → skipB false g.data.toList = []) := by
  unfold antiquarylaw14_blank.f lexer_Tokens.f toksS
  rw [if_neg (by omega)]
  cases hq : toks g.data.toList with
  | bad o e =>
    simp only [outS, Option.bind_some]
    split
    · rename_i he
      have := (toksF_bad _ _ _ _ _ hq).1
      omega
    · exact ⟨false, rfl, fun h => by cases h⟩
  | ok ts =>
    simp only [outS, Option.bind_some, if_true]
    refine ⟨_, rfl, fun h => blank_skip ?_⟩
    have : ts = [] := by simpa using h
    rw [hq, this]
structure Its (xs : List S44) (i : Nat) (its : List (L × Int × L)) : Prop where
  snd : its.map (·.2) = (xs.take i).map tl
  gap : ∀ y ∈ its, Gap y.1 ∧ ∃ c r, y.1 = c :: r ∧ sepB c = true
  len : (bld its).length ≤ i * 11000
theorem Its.count {xs : List S44} {i : Nat} {its : List (L × Int × L)} (h : Its xs i its) : its.length ≤ (bld its).length := by
  have : ∀ it : List (L × Int × L), (∀ y ∈ it, ∃ c r, y.1 = c :: r ∧ sepB c = true) → it.length ≤ (bld it).length := by
    intro it
    induction it with
    | nil => intro _; simp
    | cons y r ih =>
      intro hy
      obtain ⟨g, k, t⟩ := y
      obtain ⟨c, q, e, _⟩ := hy (g, k, t) (by simp)
      have := ih (fun y hy' => hy y (by simp [hy']))
      simp only at e
      simp only [bld, e, List.length_cons, List.length_append]
      omega
  exact this its (fun y hy => (h.gap y hy).2)
theorem Its.push {xs : List S44} {i : Nat} {its : List (L × Int × L)} (h : Its xs i its) (hi : i < xs.length) (hx : GoodS xs[i]) (g : L) (hg : skipB false g = []) (hgl : g.length ≤ 100) :
    Its xs (i + 1) (its ++ [(g ++ [10], tl xs[i])]) := by
  refine ⟨?_, fun y hy => ?_, ?_⟩
  · rw [List.map_append, h.snd, List.take_succ_eq_append_getElem hi, List.map_append]
    rfl
  · rcases List.mem_append.1 hy with hy | hy
    · exact h.gap y hy
    · simp at hy
      subst hy
      exact ⟨gap_lf hg, sep_of_blank hg⟩
  · rw [bld_app, List.length_append]
    have h1 := h.len
    have h2 := hx.2
    have h3 : (wrL xs[i].f0 xs[i].f2.data.toList).length ≤ 2 * xs[i].f2.data.toList.length + 2 := good_len
    have h4 : xs[i].f2.data.toList.length = xs[i].f2.size := by simp
    simp only [bld, tl, List.length_append, List.length_cons, List.length_nil]
    omega

theorem mem_sum : ∀ (l : List Nat) (x : Nat), x ∈ l → x ≤ l.sum
  | [], x, h => by cases h
  | y :: l, x, h => by
    rw [List.sum_cons]
    rcases List.mem_cons.1 h with rfl | h
    · omega
    · have := mem_sum l x h; omega
/-! ### the law -/
theorem forgets_end (xs : List S44) (hx : ∀ x ∈ xs, GoodS x) (hl : xs.length ≤ 10000) (its : List (L × Int × L)) (h : Its xs xs.length its) (k : Nat) (hk : 20000 ≤ k) (gaps : List ByteArray) :
    antiquarylaw14_LexerForgetsSpace.l0 (k + 1) gaps xs (ints (bld its)) (xs.length : Int) = some true := by
  have hsan : antiquarylaw14_sanity.f k = some true := rfl
  obtain ⟨k, rfl⟩ : ∃ k', k = k' + 1 := ⟨k - 1, by omega⟩
  have hsz : (⟨(bld its).toArray⟩ : ByteArray).size = (bld its).length := List.size_toArray
  have hsnd : its.map (·.2) = xs.map tl := by rw [h.snd, List.take_length]
  rw [antiquarylaw14_LexerForgetsSpace.l0, if_neg (by omega), str_ints, ints_len, hsan]
  by_cases hbig : (bld its).length > 65536
  · have ht : lexer_Tokens.f ⟨(bld its).toArray⟩ = some ([], 0, 2) := by
      unfold lexer_Tokens.f toksS
      rw [if_pos (by omega)]
      rfl
    rw [ht]
    simp only [Option.bind_some]
    rw [if_pos (by omega)]
    rfl
  · obtain ⟨us, e1, e2⟩ := bld_toks (bld its).length its ((bld its).length + 1) (by have := h.count; omega) (fun y hy => ⟨(h.gap y hy).1, by
      have : y.2 ∈ xs.map tl := by rw [← hsnd]; exact List.mem_map_of_mem hy
      obtain ⟨x, hxm, he⟩ := List.mem_map.1 this
      rw [← he]
      exact (hx x hxm).1⟩) (fun y hy => (h.gap y (List.mem_of_mem_tail hy)).2)
    have ht := toksS_ok ⟨(bld its).toArray⟩ (by omega) us e1
    rw [ht]
    simp only [Option.bind_some]
    rw [if_neg (by omega)]
    have hs : antiquaryref14_Same.f (k + 1) xs (us.map tS) = some true := same_f xs _ (by rw [tl_tS, e2, hsnd]) (by omega) _ (by omega)
    simp only [if_true, beq_self_eq_true, Bool.and_self]
    rw [hs]
    rfl
theorem forgets_l0 (xs : List S44) (hx : ∀ x ∈ xs, GoodS x) (hl : xs.length ≤ 10000) (gaps : List ByteArray) (hgl : gaps.length ≤ 20) (m : Nat) : ∀ (i k : Nat) (its : List (L × Int × L)), i + m = xs.length → 30000 + 2 * m ≤ k → Its xs i its →
    antiquarylaw14_LexerForgetsSpace.l0 k gaps xs (ints (bld its)) (i : Int) = some true := by
  induction m with
  | zero =>
    intro i k its hm hk hI
    obtain ⟨k, rfl⟩ : ∃ k', k = k' + 1 := ⟨k - 1, by omega⟩
    obtain rfl : i = xs.length := by omega
    exact forgets_end xs hx hl its hI k (by omega) gaps
  | succ m ih =>
    intro i k its hm hk hI
    obtain ⟨k, rfl⟩ : ∃ k', k = k' + 2 := ⟨k - 2, by omega⟩
    have hi : i < xs.length := by omega
    have hg := hx _ (List.getElem_mem hi)
    have hw : wrap64 ((i : Int) + 1) = ((i + 1 : Nat) : Int) := by rw [wrF _ (by omega) (by omega)]; rfl
    have hlen := hI.len
    have hsan : antiquarylaw14_sanity.f (k + 1) = some true := rfl
    -- what follows a gap
    have next : ∀ g : L, skipB false g = [] → g.length ≤ 100 → antiquarylaw14_LexerForgetsSpace.j3 (k + 1) gaps xs (ints (bld its ++ g)) (i : Int) = some true := by
      intro g hg0 hg1
      have hcut : (xs.take ((i + 1 : Nat) : Int).toNat).drop (i : Int).toNat = [xs[i]] := by
        rw [Int.toNat_natCast, Int.toNat_natCast, List.take_succ_eq_append_getElem hi, List.drop_append_of_le_length (by simp; omega), List.drop_eq_nil_of_le (by simp; omega)]
        rfl
      have hz := wrS44_size xs[i].f0 xs[i].f2
      have hz2 := hg.2
      have hwd := wS_data xs[i]
      have hwl : (wS xs[i]).size ≤ 10002 := by unfold wS; omega
      rw [antiquarylaw14_LexerForgetsSpace.j3, hw, if_pos (by omega), if_pos (by omega), if_pos (by omega), hcut, text_one _ hg k (by omega)]
      simp only [Option.bind_some, if_true]
      rw [if_pos (by rw [ints_len, List.length_append]; omega), if_pos (by rw [List.length_append, ints_len, List.length_append, List.length_singleton]; omega)]
      have hI2 := hI.push hi hg g hg0 hg1
      have e : ints (bld its ++ g) ++ [10] ++ bytesOf (wS xs[i]) = ints (bld (its ++ [(g ++ [10], tl xs[i])])) := by
        rw [bld_app]
        show ints (bld its ++ g) ++ [10] ++ ints (wS xs[i]).data.toList = _
        rw [hwd]
        simp [ints, bld, tl]
      rw [e]
      exact ih (i + 1) k _ (by omega) (by omega) hI2
    rw [antiquarylaw14_LexerForgetsSpace.l0, if_pos (by omega)]
    by_cases h0 : (gaps.length : Int) > 0
    · have t0 : 0 ≤ Int.tmod (i : Int) (gaps.length : Int) := Int.tmod_nonneg _ (by omega)
      have t1 : Int.tmod (i : Int) (gaps.length : Int) < (gaps.length : Int) := Int.tmod_lt_of_pos _ h0
      rw [if_pos h0, if_neg (by omega), if_pos t0, if_pos t1]
      obtain ⟨g, hge⟩ : ∃ g, g = rdOf ByteArray.empty gaps (Int.tmod (i : Int) (gaps.length : Int)) := ⟨_, rfl⟩
      rw [← hge]
      by_cases h100 : (g.size : Int) > 100
      · rw [if_pos h100, hsan]
        rfl
      · rw [if_neg h100]
        obtain ⟨b, e1, e2⟩ := blank_f g (by omega)
        rw [e1]
        simp only [Option.bind_some]
        cases b with
        | false =>
          rw [if_neg (by simp), hsan]
          rfl
        | true =>
          have hgsz : g.data.toList.length = g.size := by simp
          rw [if_pos rfl, if_pos (by rw [ints_len]; omega)]
          have e : ints (bld its) ++ bytesOf g = ints (bld its ++ g.data.toList) := by
            show ints (bld its) ++ ints g.data.toList = _
            simp [ints]
          rw [e]
          exact next g.data.toList (e2 rfl) (by omega)
    · rw [if_neg h0]
      have := next [] rfl (by simp)
      rwa [List.append_nil] at this
theorem forgets_j0 (a : ByteArray) (ha : a.size ≤ 2000) (gaps : List ByteArray) (hgl : gaps.length ≤ 20) : antiquarylaw14_LexerForgetsSpace.j0 100000 a gaps false = some true := by
  have hsan : antiquarylaw14_sanity.f 99999 = some true := rfl
  rw [antiquarylaw14_LexerForgetsSpace.j0, if_neg (by simp), hsan]
  unfold lexer_Tokens.f
  have hS : toksS a = toks a.data.toList := by unfold toksS; rw [if_neg (by omega)]
  rw [hS]
  cases hq : toks a.data.toList with
  | bad o e =>
    simp only [outS, Option.bind_some]
    have := (toksF_bad _ _ _ _ _ hq).1
    rw [if_neg (by omega)]
  | ok ts =>
    obtain ⟨g1, g2⟩ := toksF_good _ _ _ _ hq
    simp only [outS, Option.bind_some, if_true]
    have hsum : (ts.map (fun x => 2 * x.s.length + 3)).sum ≤ 10000 := by
      have : a.data.toList.length = a.size := by simp
      omega
    have hmem : ∀ t ∈ ts, 2 * t.s.length + 3 ≤ 10000 := fun t ht => Nat.le_trans (mem_sum _ _ (List.mem_map_of_mem (f := fun x : Tok => 2 * x.s.length + 3) ht)) hsum
    have hcnt : ts.length ≤ 10000 := by
      have h1 : ∀ us : List Tok, us.length ≤ (us.map (fun x => 2 * x.s.length + 3)).sum := by
        intro us
        induction us with
        | nil => simp
        | cons u r ih => simp only [List.map_cons, List.sum_cons, List.length_cons]; omega
      have := h1 ts
      omega
    have hGS : ∀ x ∈ ts.map tS, GoodS x := by
      intro x hx
      obtain ⟨t, ht, rfl⟩ := List.mem_map.1 hx
      refine ⟨g1 t ht, ?_⟩
      have := hmem t ht
      show (⟨t.s.toArray⟩ : ByteArray).size ≤ 5000
      have e : (⟨t.s.toArray⟩ : ByteArray).size = t.s.length := List.size_toArray
      omega
    have hjl : (joinS ((ts.map tS).map wS) spF).length ≤ 10000 := by
      rw [join_bld]
      refine Nat.le_trans (bld_len _) (Nat.le_trans (itJ_len _) ?_)
      rw [List.map_map]
      exact hsum
    have htext := textF_f (ts.map tS) hGS (by simp; omega) 99999 (by simp; omega) (by omega)
    rw [htext]
    simp only [Option.bind_some]
    -- the text is read again
    have hsz : (⟨(joinS ((ts.map tS).map wS) spF).toArray⟩ : ByteArray).size = (joinS ((ts.map tS).map wS) spF).length := List.size_toArray
    obtain ⟨us, e1, e2⟩ : ∃ us, toks (joinS ((ts.map tS).map wS) spF) = .ok us ∧ us.map (fun u => (u.k, u.s)) = (ts.map tS).map tl := by
      rw [join_bld]
      have hc : (itJ (ts.map tS)).length ≤ (bld (itJ (ts.map tS))).length := by
        refine bld_count _ (fun y hy => ?_)
        have h2 : y.2 ∈ (ts.map tS).map tl := by rw [← itJ_snd]; exact List.mem_map_of_mem hy
        obtain ⟨x, hxm, he⟩ := List.mem_map.1 h2
        rw [← he]
        exact (hGS x hxm).1
      have hA : ∀ y ∈ itJ (ts.map tS), Gap y.1 ∧ Lx.Good y.2.1 y.2.2 := by
        intro y hy
        have h2 : y.2 ∈ (ts.map tS).map tl := by rw [← itJ_snd]; exact List.mem_map_of_mem hy
        obtain ⟨x, hxm, he⟩ := List.mem_map.1 h2
        refine ⟨?_, by rw [← he]; exact (hGS x hxm).1⟩
        cases hts : ts.map tS with
        | nil => rw [hts] at hy; cases hy
        | cons x r =>
          rw [hts] at hy
          simp only [itJ, List.mem_cons] at hy
          rcases hy with rfl | hy
          · exact gap_nil
          · obtain ⟨z, _, rfl⟩ := List.mem_map.1 hy
            exact gap_sp
      have hB : ∀ y ∈ (itJ (ts.map tS)).tail, ∃ c r, y.1 = c :: r ∧ sepB c = true := by
        intro y hy
        cases hts : ts.map tS with
        | nil => rw [hts] at hy; cases hy
        | cons x r =>
          rw [hts] at hy
          simp only [itJ, List.tail_cons] at hy
          obtain ⟨z, _, rfl⟩ := List.mem_map.1 hy
          exact ⟨32, [], rfl, by decide⟩
      obtain ⟨us, e1, e2⟩ := bld_toks (bld (itJ (ts.map tS))).length (itJ (ts.map tS)) ((bld (itJ (ts.map tS))).length + 1) (by omega) hA hB
      exact ⟨us, e1, by rw [e2, itJ_snd]⟩
    rw [show toksS ⟨(joinS ((ts.map tS).map wS) spF).toArray⟩ = .ok us from by unfold toksS; rw [if_neg (by omega)]; exact e1]
    simp only [outS, if_true]
    rw [same_f (ts.map tS) (us.map tS) (by rw [tl_tS us, e2]) (by simp; omega) 99999 (by simp; omega)]
    simp only [Option.bind_some, Bool.not_true, antiquarylaw14_LexerForgetsSpace.j1, Bool.false_eq_true, if_false]
    exact forgets_l0 (ts.map tS) hGS (by simp; omega) gaps hgl (ts.map tS).length 0 99998 [] (by omega) (by simp; omega) ⟨rfl, fun y hy => (by cases hy), by simp [bld]⟩
theorem forgets (a : ByteArray) (gaps : List ByteArray) : ∃ k, antiquarylaw14_LexerForgetsSpace.f k a gaps = some true := by
  refine ⟨100000, ?_⟩
  have hsan : antiquarylaw14_LexerForgetsSpace.j0 100000 a gaps true = some true := rfl
  unfold antiquarylaw14_LexerForgetsSpace.f
  by_cases h1 : (a.size : Int) > 2000
  · rw [if_pos h1]
    exact hsan
  · rw [if_neg h1]
    by_cases h2 : (gaps.length : Int) > 20
    · rw [decide_eq_true h2]
      exact hsan
    · rw [decide_eq_false h2]
      exact forgets_j0 a (by omega) gaps (by omega)
end Go.Proofs.YtafomaiaobfkfaaGreatDoor.Pr
