/-
  lexer.Tokens, walked. Conditions: each theorem's own.
-/
import Derived.Test.YtafomaiaobfkfaaGreatDoorLexG
namespace Go.Proofs.YtafomaiaobfkfaaGreatDoor.Lx
open Go.RowKit Go.Proofs.YtafomaiaobfkfaaGreatDoorW.PrintWords
set_option linter.unusedVariables false
set_option linter.unusedSimpArgs false

/-! ### the plain side: a token ends where the rest begins -/
theorem nameL_suf {l : L} {k : Int} {t rest : L} (h : nameL l = .got k t rest) : rest <:+ l := by
  unfold nameL at h
  split at h
  · injection h with _ _ h3; subst h3; exact List.dropWhile_suffix _
  · split at h
    · cases h
    · injection h with _ _ h3; subst h3; exact List.dropWhile_suffix _
theorem numberL_suf {l : L} {k : Int} {t rest : L} (h : numberL l = .got k t rest) : rest <:+ l := by
  unfold numberL at h
  split at h
  · cases h
  · injection h with _ _ h3; subst h3; exact List.dropWhile_suffix _
theorem textL_suf : ∀ (n : Nat) (acc l : L), l.length ≤ n → ∀ (k : Int) (t rest : L), textL acc l = .got k t rest → rest <:+ l
  | 0, acc, l, hn => by
    intro k t rest h
    have : l = [] := List.eq_nil_of_length_eq_zero (by omega)
    subst this
    simp [textL] at h
  | n + 1, acc, [], hn => by
    intro k t rest h
    simp [textL] at h
  | n + 1, acc, b :: r, hn => by
    intro k t rest h
    simp at hn
    unfold textL at h
    split at h
    · split at h
      · cases h
      · injection h with _ _ h3; subst h3; exact List.suffix_cons _ _
    · split at h
      · split at h
        · cases h
        · rename_i c r'
          simp at hn
          split at h
          · have := textL_suf n _ r' (by omega) _ _ _ h
            exact this.trans ((List.suffix_cons _ _).trans (List.suffix_cons _ _))
          · cases h
      · split at h
        · cases h
        · exact (textL_suf n _ r (by omega) _ _ _ h).trans (List.suffix_cons _ _)
theorem signL_suf {l : L} {k : Int} {t rest : L} (h : signL l = .got k t rest) : rest <:+ l := by
  match l, h with
  | [], h => simp [signL] at h
  | [b], h =>
    simp only [signL] at h
    split at h
    · injection h with _ _ h3; subst h3; exact List.nil_suffix
    · cases h
  | b :: c :: r, h =>
    simp only [signL] at h
    split at h
    · injection h with _ _ h3; subst h3; exact (List.suffix_cons _ _).trans (List.suffix_cons _ _)
    · split at h
      · injection h with _ _ h3; subst h3; exact List.suffix_cons _ _
      · cases h
theorem tokL_suf {l : L} {k : Int} {t rest : L} (h : tokL l = .got k t rest) : rest <:+ l := by
  match l, h with
  | [], h => simp [tokL] at h
  | b :: r, h =>
    simp only [tokL] at h
    split at h
    · exact nameL_suf h
    · split at h
      · exact numberL_suf h
      · split at h
        · exact (textL_suf _ _ r (Nat.le_refl _) _ _ _ h).trans (List.suffix_cons _ _)
        · exact signL_suf h
theorem sl_of_suf {s : ByteArray} {i : Nat} {rest : L} (h : rest <:+ sl s i) : sl s (s.size - rest.length) = rest := by
  have h1 : rest <:+ s.data.toList := h.trans (List.drop_suffix _ _)
  have h2 := List.suffix_iff_eq_drop.1 h1
  have h3 : rest.length ≤ s.size := by simpa using h1.length_le
  unfold sl
  conv => rhs; rw [h2]
  simp

/-- What reading comes to, behind space. -/
def stepT (N n : Nat) (l : L) : Out :=
  match l with
  | [] => .ok []
  | b :: r =>
    match tokL (b :: r) with
    | .bad e => .bad (N - (b :: r).length) e
    | .got k t rest => (toksF N n rest).push ⟨k, N - (b :: r).length, t⟩
theorem toksF_step (N n : Nat) (l : L) : toksF N (n + 1) l = stepT N n (skipB false l) := by
  unfold toksF stepT
  cases skipB false l <;> rfl
def Out.pre (ts : List Tok) : Out → Out
  | .bad o e => .bad o e
  | .ok us => .ok (ts ++ us)
theorem Out.pre_push (ts : List Tok) (t : Tok) (o : Out) : (o.push t).pre ts = o.pre (ts ++ [t]) := by cases o <;> simp [Out.push, Out.pre]
theorem Out.pre_nil (o : Out) : o.pre [] = o := by cases o <;> rfl

/-- What Tokens returns. -/
def toksS (s : ByteArray) : Out := if 65536 < s.size then .bad 0 2 else toks s.data.toList

/-- A token's cells. -/
def RT (t : Tok) (cs : List Value) : Prop := cs = [.int .i64 t.k, .int .i64 t.off, .string ⟨t.s.toArray⟩]
theorem info44 : (Tryz.prog.info? 44).map (fun i => (i.zero, i.size, i.bytes)) = some (some (.agg #[(.int .i64 0), (.int .i64 0), (.string ⟨#[]⟩)]), 3, 32) := by kernel_rfl

def TokPost (w : World) (o : Out) (e : Ending) (w' : World) : Prop :=
  match o with
  | .bad off n => e = .returned (.tuple #[.slice none 0 0, .agg #[.int .i64 off, .int .i64 n]]) ∧ Below w.heap.size w w'
  | .ok ts => ∃ v, e = .returned (.tuple #[v, .agg #[.int .i64 0, .int .i64 0]]) ∧ OwnRow RT 44 3 w' w.heap.size v ts ∧ Below w.heap.size w w'

theorem one3 (k n : Int) (x : ByteArray) : ∀ u ∈ [Value.int .i64 k, .int .i64 n, .string x], u.oneCell' = true := by
  intro u hu
  simp at hu
  rcases hu with rfl | rfl | rfl <;> rfl
/-- The blocks that the call of Tokens lays, from block b on. -/
def Blks (w : World) (b : Nat) (s : ByteArray) (i : Nat) (v : Value) (at_ : Int) : Prop :=
  w.heap[b]? = some (.cells #[v] 23 (0, 0)) ∧ w.heap[b + 1]? = some (.cells #[.int .i64 0, .int .i64 0] 26 (0, 0)) ∧ Rdr w (b + 1 + 1) s i ∧
  w.heap[b + 1 + 1 + 1]? = some (.cells #[.int .i64 at_] 3 (0, 0)) ∧ w.heap[b + 1 + 1 + 1 + 1]? = some (.cells formCells 69 (0, 0))
theorem Blks.grown {w w' : World} {b : Nat} {s : ByteArray} {i j : Nat} {v : Value} {at_ : Int} (h : Blks w b s i v at_) (hg : w.grownBy w' (some (b + 1 + 1))) (hr : Rdr w' (b + 1 + 1) s j) : Blks w' b s j v at_ :=
  ⟨blk_grown h.1 hg (by intro e; injection e with e; omega), blk_grown h.2.1 hg (by intro e; injection e with e; omega), hr,
    blk_grown h.2.2.2.1 hg (by intro e; injection e with e; omega), blk_grown h.2.2.2.2 hg (by intro e; injection e with e; omega)⟩
/-- What stands at the head of each loop: the blocks, the tokens so far. -/
structure Inv (w : World) (s : ByteArray) (W : World) (i : Nat) (v : Value) (ts : List Tok) (at_ : Int) : Prop where
  blks : Blks W w.heap.size s i v at_
  own : OwnRow RT 44 3 W w.heap.size v ts
  bel : Below w.heap.size w W
theorem Inv.start {w W : World} {s : ByteArray} (hW : W = ((((w.alloc (Obj.cells #[Value.slice none 0 0] 23)).alloc (Obj.cells #[Value.int IntKind.i64 0, Value.int IntKind.i64 0] 26)).alloc
      (Obj.cells #[Value.string s, Value.int IntKind.i64 0] 63)).alloc (Obj.cells #[Value.int IntKind.i64 0] 3)).alloc (Obj.cells formCells 69)) : Inv w s W 0 (.slice none 0 0) [] 0 := by
  subst hW
  refine ⟨⟨?_, ?_, ?_, ?_, ?_⟩, OwnRow.none_ _ _ _ _ _, ?_⟩
  · exact blk_alloc (blk_alloc (blk_alloc (blk_alloc (heap_alloc_new w _) _) _) _) _
  · exact blk_alloc (blk_alloc (blk_alloc (by have := heap_alloc_new (w.alloc (Obj.cells #[Value.slice none 0 0] 23)) (Obj.cells #[Value.int IntKind.i64 0, Value.int IntKind.i64 0] 26); simpa using this) _) _) _
  · exact blk_alloc (blk_alloc (by have := heap_alloc_new ((w.alloc (Obj.cells #[Value.slice none 0 0] 23)).alloc (Obj.cells #[Value.int IntKind.i64 0, Value.int IntKind.i64 0] 26)) (Obj.cells #[Value.string s, Value.int IntKind.i64 0] 63); simpa using this) _) _
  · exact blk_alloc (by have := heap_alloc_new (((w.alloc (Obj.cells #[Value.slice none 0 0] 23)).alloc (Obj.cells #[Value.int IntKind.i64 0, Value.int IntKind.i64 0] 26)).alloc (Obj.cells #[Value.string s, Value.int IntKind.i64 0] 63)) (Obj.cells #[Value.int IntKind.i64 0] 3); simpa using this) _
  · have := heap_alloc_new ((((w.alloc (Obj.cells #[Value.slice none 0 0] 23)).alloc (Obj.cells #[Value.int IntKind.i64 0, Value.int IntKind.i64 0] 26)).alloc (Obj.cells #[Value.string s, Value.int IntKind.i64 0] 63)).alloc (Obj.cells #[Value.int IntKind.i64 0] 3)) (Obj.cells formCells 69)
    simpa using this
  · exact below_of_gb (gb_alloc (gb_alloc (gb_alloc (gb_alloc (gb_alloc (World.grownBy.refl w none) _) _) _) _) _) (by simp)
theorem Inv.grown {w W W' : World} {s : ByteArray} {i j : Nat} {v : Value} {ts : List Tok} {at_ : Int} (h : Inv w s W i v ts at_) (hg : W.grownBy W' (some (w.heap.size + 1 + 1))) (hr : Rdr W' (w.heap.size + 1 + 1) s j) : Inv w s W' j v ts at_ :=
  ⟨h.blks.grown hg hr, h.own.other hg (.inr (Ne.symm (h.own.ne_block h.blks.2.2.1 (by decide)))), by
    have := gb_trans (gb_below h.bel none) hg (.inr fun x hx => by injection hx with hx; omega)
    exact below_of_gb this (by simp)⟩
theorem Inv.setAt {w W : World} {s : ByteArray} {i : Nat} {v : Value} {ts : List Tok} {at_ : Int} (h : Inv w s W i v ts at_) (n : Int) : Inv w s (W.setCell ⟨w.heap.size + 1 + 1 + 1, 0, none⟩ (.int .i64 n)) i v ts n :=
  ⟨⟨blk_far h.blks.1 (by simp only; omega) _, blk_far h.blks.2.1 (by simp only; omega) _, blk_far h.blks.2.2.1 (by simp) _, blk_set h.blks.2.2.2.1 0 _, blk_far h.blks.2.2.2.2 (by simp) _⟩,
    h.own.set_ h.blks.2.2.2.1 (by decide) 0 _, below_of_gb (gb_set (gb_below h.bel none) (.inr (by simp; omega)) _) (by simp)⟩
theorem Inv.alloc {w W : World} {s : ByteArray} {i : Nat} {v : Value} {ts : List Tok} {at_ : Int} (h : Inv w s W i v ts at_) (o : Obj) : Inv w s (W.alloc o) i v ts at_ :=
  h.grown (gb_alloc (World.grownBy.refl W _) o) (blk_alloc h.blks.2.2.1 o)
theorem Inv.drewN {w W : World} {s : ByteArray} {i : Nat} {v : Value} {ts : List Tok} {at_ : Int} (h : Inv w s W i v ts at_) (n : Nat) : Inv w s (W.drewN n) i v ts at_ :=
  h.grown (gb_drewN (World.grownBy.refl W _) n) (blk_drewN h.blks.2.2.1 n)
theorem Blks.own {w W w1 : World} {s : ByteArray} {i : Nat} {v : Value} {ts : List Tok} {at_ : Int} (h : Inv w s W i v ts at_) (hg : W.grownBy w1 v.ownBlock) : Blks w1 w.heap.size s i v at_ :=
  ⟨blk_grown h.blks.1 hg (h.own.ne_block h.blks.1 (by decide)), blk_grown h.blks.2.1 hg (h.own.ne_block h.blks.2.1 (by decide)), blk_grown h.blks.2.2.1 hg (h.own.ne_block h.blks.2.2.1 (by decide)),
    blk_grown h.blks.2.2.2.1 hg (h.own.ne_block h.blks.2.2.2.1 (by decide)), blk_grown h.blks.2.2.2.2 hg (h.own.ne_block h.blks.2.2.2.2 (by decide))⟩
theorem Inv.push {w w1 : World} {s : ByteArray} {i : Nat} {v v1 : Value} {ts' : List Tok} {at_ : Int} (hb : Blks w1 w.heap.size s i v at_) (ho : OwnRow RT 44 3 w1 w.heap.size v1 ts') (hbel : Below w.heap.size w w1) :
    Inv w s (w1.setCell ⟨w.heap.size, 0, none⟩ v1) i v1 ts' at_ :=
  ⟨⟨blk_set hb.1 0 _, blk_far hb.2.1 (by simp) _, blk_far hb.2.2.1 (by simp only; omega) _, blk_far hb.2.2.2.1 (by simp only; omega) _, blk_far hb.2.2.2.2 (by simp only; omega) _⟩,
    ho.set_ hb.1 (by decide) 0 _, below_of_gb (gb_set (gb_below hbel none) (.inr (Nat.le_refl _)) _) (by simp)⟩
theorem res_tok {tmps : Array Value} {w : World} {b : Nat} {v p0 p1 : Value} (h2 : tmps.getD 2 undef = .pointer (some ⟨b, 0, none⟩)) (h3 : tmps.getD 3 undef = .pointer (some ⟨b + 1, 0, none⟩))
    (hl : w.heap[b]? = some (.cells #[v] 23 (0, 0))) (hp : w.heap[b + 1]? = some (.cells #[p0, p1] 26 (0, 0))) : (results Tryz.f10 tmps).run Tryz.prog w = .ok (.tuple #[v, .agg #[p0, p1]]) w := by
  have c0 : w.cell? ⟨b, 0, none⟩ = some v := blk_cell hl 0
  have c1 : w.cell? ⟨b + 1, 0, none⟩ = some p0 := blk_cell hp 0
  have c2 : w.cell? ⟨b + 1, 1, none⟩ = some p1 := blk_cell hp 1
  have hu := Tryz.underlying23
  have hu6 := Tryz.underlying26
  have h2' : tmps[2]?.getD undef = .pointer (some ⟨b, 0, none⟩) := by simpa using h2
  have h3' : tmps[3]?.getD undef = .pointer (some ⟨b + 1, 0, none⟩) := by simpa using h3
  simp [results, h2', h3', go_sem, c0, c1, c2, hu, hu6]

set_option maxHeartbeats 1600000 in
theorem tokens_any (s : ByteArray) (w : World) (hG : Gl w) :
    Calls Tryz.prog 10 #[.string s] w (TokPost w (toksS s)) := by
  have hmf : ∀ (fn : Fn) (first cap : Array Value) (w : World), (Instr.makeFunc fn first cap).run Tryz.prog w = .ok (.func fn first cap) w := fun _ _ _ _ => rfl
  obtain ⟨o0, ho0⟩ : ∃ o0, o0 = toksS s := ⟨_, rfl⟩
  rw [← ho0]
  have HO0 := Lib.hid ho0; clear ho0
  by_cases hbig : 65536 < s.size
  · go_enter_defers Tryz.func10, Tryz.ntmps10
    have hb : (65536 : Int) < s.size := by omega
    go_wp2
    have ho : o0 = .bad 0 2 := by rw [HO0.out]; unfold toksS; rw [if_pos hbig]
    subst ho
    refine ⟨_, res_tok rfl rfl (blk_alloc (heap_alloc_new w _) _) (by have := heap_alloc_new (w.alloc (Obj.cells #[Value.slice none 0 0] 23)) (Obj.cells #[Value.int IntKind.i64 0, Value.int IntKind.i64 2] 26); simpa using this), rfl, ?_⟩
    exact below_of_gb (gb_alloc (gb_alloc (World.grownBy.refl w none) _) _) (by simp)
  · have ho : o0 = (stepT s.size s.size (sl s (skipAt s 0))).pre [] := by
      rw [HO0.out, Out.pre_nil]; unfold toksS; rw [if_neg hbig]; unfold toks
      rw [toksF_step, (skipAt_sl s 0 (Nat.zero_le _)).1, sl_full]
      simp
    clear HO0
    have HO0 := Lib.hid ho; clear ho
    have hsk := skipAt_sl s 0 (Nat.zero_le _)
    have hgl : ∀ {W W' : World}, True := trivial
    go_enter_defers Tryz.func10, Tryz.ntmps10
    have hb : ¬ (65536 : Int) < s.size := by omega
    have hs : s.size ≤ 140737488351232 := by omega
    go_wp2_with (first | (go_at_call 27; refine (forms_any _).mono ?_; rintro e w1 ⟨rfl, rfl⟩))
    obtain ⟨W0, hW0⟩ : ∃ W0, W0 = ((((w.alloc (Obj.cells #[Value.slice none 0 0] 23)).alloc (Obj.cells #[Value.int IntKind.i64 0, Value.int IntKind.i64 0] 26)).alloc
      (Obj.cells #[Value.string s, Value.int IntKind.i64 0] 63)).alloc (Obj.cells #[Value.int IntKind.i64 0] 3)).alloc (Obj.cells formCells 69) := ⟨_, rfl⟩
    have hI := Inv.start hW0
    rw [← hW0]
    clear hW0
    refine (space_any _ s 0 _ hI.blks.2.2.1 (Nat.zero_le _) hs).mono ?_
    rintro e w1 ⟨rfl, hr1, hg1⟩
    have hI1 := hI.grown hg1 hr1
    clear hg1 hr1 hI
    have hGW : ∀ W : World, Below w.heap.size w W → Gl W := fun W h => hG.below h
    have HGW := Lib.hid hGW; clear hGW hG
    obtain ⟨-, -, hsk2⟩ := hsk
    go_wp2
    go_loopg [] (s.size - skipAt s 0) (fun gk wr => ∃ (m n : Nat) (v : Value) (ts : List Tok) (at_ : Int), m ≤ s.size ∧ gk = s.size - m ∧ s.size - m ≤ n ∧ ts.length ≤ m ∧
      Hid (o0 = (stepT s.size n (sl s m)).pre ts) ∧ Inv w s wr m v ts at_)
    case atStart => exact ⟨skipAt s 0, s.size, _, _, _, hsk2, rfl, by omega, by simp, HO0, hI1⟩
    case round =>
      obtain ⟨m, n, v, ts, at_, h1, rfl, h2, h3, he, hI⟩ := hrel
      obtain ⟨A, cA, rfl, hcA⟩ := hI.own.slice_
      have d0 := hI.blks.2.2.1.c0
      have d1 := hI.blks.2.2.1.c1
      have a0 : wr.cell? ⟨w.heap.size + 1 + 1 + 1, 0, none⟩ = some (.int .i64 at_) := blk_cell hI.blks.2.2.2.1 0
      have a1 := blk_frozen hI.blks.2.2.2.1 0
      have l0 : wr.cell? ⟨w.heap.size, 0, none⟩ = some (.slice A ts.length cA) := blk_cell hI.blks.1 0
      have l1 := blk_frozen hI.blks.1 0
      have p0 : wr.cell? ⟨w.heap.size + 1, 0, none⟩ = some (.int .i64 0) := blk_cell hI.blks.2.1 0
      have p1 : wr.cell? ⟨w.heap.size + 1, 1, none⟩ = some (.int .i64 0) := blk_cell hI.blks.2.1 1
      have q0 := blk_frozen hI.blks.2.1 0
      have q1 := blk_frozen hI.blks.2.1 1
      by_cases hlt : m < s.size
      · have hd : (m : Int) < (s.size : Int) := by omega
        go_wp2
        go_loopg [36] 4 (fun gk kk wq => ∃ k : Nat, kk = .int .i64 k ∧ gk = 4 - k ∧ k ≤ pick s[m] ∧ Inv w s wq m (.slice A ts.length cA) ts m)
        case atStart => exact ⟨0, rfl, rfl, Nat.zero_le _, hI.setAt m⟩
        case round =>
          obtain ⟨k, rfl, rfl, hk, hI2⟩ := hrel
          have hk3 := pick_le s[m]
          have b0 : wr.cell? ⟨w.heap.size + 1 + 1 + 1 + 1, k * 2, none⟩ = some (fv (begF k)) := (blk_cell hI2.blks.2.2.2.2 (k * 2)).trans (formCells_beg k (by omega))
          have b1 : wr.cell? ⟨w.heap.size + 1 + 1 + 1 + 1, k * 2 + 1, none⟩ = some (fv (redF k)) := (blk_cell hI2.blks.2.2.2.2 (k * 2 + 1)).trans (formCells_red k (by omega))
          have hk0 : (0 : Int) ≤ k := by omega
          have hk4 : (k : Int) < 4 := by omega
          have HP := Lib.hid hk
          clear hk hk3
          have hf := enters_beg k
          have hf2 := enters_red k
          unfold Enters at hf hf2
          have HQ := Lib.hid (beg_any k)
          have d2 : wr.cell? ⟨w.heap.size + 1 + 1 + 1, 0, none⟩ = some (.int .i64 m) := blk_cell hI2.blks.2.2.2.1 0
          have hm0 : (0 : Int) ≤ m := by omega
          have hm1 : (m : Int).toNat = m := by omega
          have hlw : w.heap.size + 1 + 1 + 1 < wr.heap.size := blk_lt hI2.blks.2.2.2.1
          go_wp2
          go_quiet ((exact Calls.quiet_of (HQ.out _ _)))
          by_cases hkp : k = pick s[m]
          · have hbv : begB k s[m] = true := by rw [hkp]; exact pick_yes _
            simp only [hbv]
            clear hbv
            obtain ⟨r0, hr0⟩ : ∃ r0, r0 = tokL (sl s m) := ⟨_, rfl⟩
            have hI3 := (hI2.alloc (Obj.cells #[Value.func (Fn.func (begF k)) #[] #[], Value.func (Fn.func (redF k)) #[] #[]] 69)).drewN nq
            have hred := red_any _ s m _ hI3.blks.2.2.1 hlt hs (HGW.out _ hI3.bel)
            rw [← hkp, ← hr0] at hred
            have HRED := Lib.hid hred
            have HR0 := Lib.hid hr0
            clear hred hr0
            clear hkp
            go_wp2_with fail
            refine (HRED.out).mono ?_
            intro e w2 hpost
            rcases r0 with en | ⟨K, T, R⟩
            · obtain ⟨rfl, hg⟩ := hpost
              clear hf hf2
              have hI3' := hI3
              go_wp2
              have hlb := blk_grown hI3.blks.1 hg (by intro e; injection e with e; omega)
              have hpb := blk_grown hI3.blks.2.1 hg (by intro e; injection e with e; omega)
              have hab := blk_grown hI3.blks.2.2.2.1 hg (by intro e; injection e with e; omega)
              refine leaves_cons (fv := .func 26) (cap := #[.pointer (some ⟨w.heap.size + 1 + 1 + 1, 0, none⟩), .pointer (some ⟨w.heap.size, 0, none⟩), .pointer (some ⟨w.heap.size + 1, 0, none⟩)]) (dargs := #[]) (ds := []) (f := 26) (args := #[.pointer (some ⟨w.heap.size + 1 + 1 + 1, 0, none⟩), .pointer (some ⟨w.heap.size, 0, none⟩), .pointer (some ⟨w.heap.size + 1, 0, none⟩)]) (by simp) (by simp [go_sem]) ?_
              refine (catch_panicking w2 w.heap.size m en _ _ _ [] hlb hpb hab).mono ?_
              rintro e u' w'' ⟨rfl, rfl, rfl⟩
              have ho : o0 = .bad m en := by
                have e := HR0.out
                rw [he.out]
                rw [sl_cons s m hlt] at e ⊢
                simp only [stepT, ← e, Out.pre, List.length_cons, sl_len]
                congr 1
                omega
              subst ho
              refine ⟨_, res_tok rfl rfl (p0 := .int .i64 m) (p1 := .int .i64 en) (v := .slice none 0 0) ?_ ?_, rfl, ?_⟩
              · exact blk_far (blk_far (blk_set hlb 0 _) (by simp) _) (by simp) _
              · exact blk_set (blk_set (blk_far hpb (by simp) _) 0 _) 1 _
              · have h4 := below_of_gb (gb_trans (gb_below hI3.bel none) hg (.inr fun x hx => by injection hx with hx; omega)) (by simp)
                exact below_of_gb (gb_set (gb_set (gb_set (gb_below h4 none) (.inr (by simp)) _) (.inr (by simp)) _) (.inr (by simp)) _) (by simp)
            · obtain ⟨rfl, hr2, hg⟩ := hpost
              have hI4 := hI3.grown hg hr2
              have hsuf := sl_of_suf (tokL_suf HR0.out.symm)
              have hlt2 := tokL_lt HR0.out.symm
              rw [sl_len] at hlt2
              have HS := Lib.hid hsuf; clear hsuf
              have l2 : w2.cell? ⟨w.heap.size, 0, none⟩ = some (.slice A ts.length cA) := blk_cell hI4.blks.1 0
              have l3 := blk_frozen hI4.blks.1 0
              have a2 : w2.cell? ⟨w.heap.size + 1 + 1 + 1, 0, none⟩ = some (.int .i64 m) := blk_cell hI4.blks.2.2.2.1 0
              have hlw2 : w.heap.size + 1 + 1 + 1 < w2.heap.size := blk_lt hI4.blks.2.2.2.1
              have hlw3 : w.heap.size < w2.heap.size := by omega
              clear hg hI3 hI2 hI
              go_wp2_with (at_builtin; refine OwnRow.append (w0 := w) (R := RT) w.heap.size rfl (.tmp 52) (.tmp 54) 23 44 (.agg #[(.int .i64 0), (.int .i64 0), (.string ⟨#[]⟩)]) 3 32 rfl Tryz.underlying23 info44 rfl (by decide) (by decide) (.slice A ts.length cA) ts ⟨K, m, T⟩ [.int .i64 K, .int .i64 m, .string ⟨T.toArray⟩] rfl ?hx rfl rfl ?h1 ?hO ?hB ?hS ?hL ?_; (case hx => first | (go_simp; done) | (go_simp; rfl)); (case h1 => exact one3 _ _ _); (case hO => exact (hI4.alloc _).own); (case hB => exact (hI4.alloc _).bel); (case hS => exact (hI4.alloc _).bel.size); (case hL => omega); intro v1 w3 hown hbel hgr hat; clear hat; have hI5 := Blks.own (hI4.alloc _) hgr; clear hgr; obtain ⟨A1, c1, rfl, hc1⟩ := hown.slice_; have e0 := blk_cell hI5.1 0; have e1 := blk_frozen hI5.1 0)
              have hI6 := Inv.push hI5 hown hbel
              simp only [List.length_append, List.length_cons, List.length_nil, Nat.zero_add] at hI6
              refine (space_any _ s _ _ hI6.blks.2.2.1 (by omega) hs).mono ?_
              rintro e w4 ⟨rfl, hr4, hg4⟩
              have hI7 := hI6.grown hg4 hr4
              have hsk := skipAt_sl s (s.size - R.length) (by omega)
              obtain ⟨n', rfl⟩ : ∃ n', n = n' + 1 := ⟨n - 1, by omega⟩
              have ho : o0 = (stepT s.size n' (sl s (skipAt s (s.size - R.length)))).pre (ts ++ [⟨K, m, T⟩]) := by
                have e := HR0.out
                rw [he.out, hsk.1, HS.out, ← toksF_step, ← Out.pre_push]
                rw [sl_cons s m hlt] at e ⊢
                simp only [stepT, ← e, List.length_cons, sl_len]
                rw [show s.size - (s.size - (m + 1) + 1) = m from by omega]
              have HO := Lib.hid ho; clear ho
              obtain ⟨-, hsk3, hsk4⟩ := hsk
              go_wp2
              go_roundg (s.size - skipAt s (s.size - R.length))
              case rel => exact ⟨skipAt s (s.size - R.length), n', _, _, _, hsk4, rfl, by omega, by simp; omega, HO, hI7⟩
              case measure => omega
          · have hbv : begB k s[m] = false := pick_no _ _ (by have := HP.out; omega)
            simp only [hbv]
            clear hbv
            go_wp2
            go_roundg (4 - (k + 1))
            case rel => exact ⟨k + 1, by simp, rfl, by have := HP.out; omega, (hI2.alloc _).drewN _⟩
            case measure => omega
      · have hd : ¬ (m : Int) < (s.size : Int) := by omega
        obtain rfl : m = s.size := by omega
        rw [sl_nil s s.size (Nat.le_refl _)] at he
        have ho : o0 = .ok ts := by rw [he.out]; simp [stepT, Out.pre]
        subst ho
        go_wp2
        refine leaves_cons (fv := .func 26) (cap := #[.pointer (some ⟨w.heap.size + 1 + 1 + 1, 0, none⟩), .pointer (some ⟨w.heap.size, 0, none⟩), .pointer (some ⟨w.heap.size + 1, 0, none⟩)]) (dargs := #[]) (ds := []) (u := .returning) (f := 26) (args := #[.pointer (some ⟨w.heap.size + 1 + 1 + 1, 0, none⟩), .pointer (some ⟨w.heap.size, 0, none⟩), .pointer (some ⟨w.heap.size + 1, 0, none⟩)]) (by simp) (by simp [go_sem]) ?_
        refine (catch_idle _ rfl _).mono ?_
        rintro e u' w'' ⟨rfl, rfl, rfl⟩
        have hb1 : ∀ x, Below w.heap.size w x → True := fun _ _ => trivial
        refine ⟨_, res_tok rfl rfl (v := .slice A ts.length cA) (p0 := .int .i64 0) (p1 := .int .i64 0) ?_ ?_, ⟨_, rfl, ?_, ?_⟩⟩
        · exact blk_far (blk_far (blk_set hI.blks.1 0 _) (by simp) _) (by simp) _
        · exact blk_set (blk_set (blk_far hI.blks.2.1 (by simp) _) 0 _) 1 _
        · exact OwnRow.set_ (OwnRow.set_ (hI.own.set_ hI.blks.1 (by decide) 0 _) (blk_far hI.blks.2.1 (by simp) _) (by decide) 0 _) (blk_set (blk_far hI.blks.2.1 (by simp) _) 0 _) (by decide) 1 _
        · exact below_of_gb (gb_set (gb_set (gb_set (gb_below hI.bel none) (.inr (by simp)) _) (.inr (by simp)) _) (.inr (by simp)) _) (by simp)
end Go.Proofs.YtafomaiaobfkfaaGreatDoor.Lx
