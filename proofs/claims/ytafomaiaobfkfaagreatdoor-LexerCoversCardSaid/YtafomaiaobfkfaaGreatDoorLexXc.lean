/- Functions of the program as plain Lean, and their contracts: printed by a program of this session (wip/patch_printer.py). Conditions: each theorem's own. -/
import Derived.Test.YtafomaiaobfkfaaGreatDoorLexXb
import Derived.Laws.LoneSync
import Derived.Laws.Pointers
import Derived.RegionTactic
import Derived.RegionCalls
import Derived.Lib.ConvBytes
import Derived.Lib.SmallJoins
import Derived.OwnWalk
import Derived.Laws.OwnMore
import Derived.Laws.IdiomStrings
import Derived.Deep.WholeRow
import Derived.Lib.SliceRun
import Derived.Laws.Cover3
import Derived.Laws.CopyOwn
import Derived.Deep.RegionLaw
namespace Go.Proofs.YtafomaiaobfkfaaGreatDoor.Lx
set_option linter.unusedVariables false
set_option linter.unusedSimpArgs false

theorem tw_app (p : UInt8 → Bool) (h : p 10 = false) : ∀ x y : L, (x ++ 10 :: y).takeWhile p = x.takeWhile p ∧ (x ++ 10 :: y).dropWhile p = x.dropWhile p ++ 10 :: y
  | [], y => by simp [List.takeWhile_cons, List.dropWhile_cons, h]
  | b :: x, y => by
    have ih := tw_app p h x y
    by_cases hb : p b = true
    · simp [List.takeWhile_cons, List.dropWhile_cons, hb, ih.1, ih.2]
    · simp [List.takeWhile_cons, List.dropWhile_cons, hb]
def Res.app (y : L) : Res → Res
  | .bad e => .bad e
  | .got k t r => .got k t (r ++ 10 :: y)
theorem nameL_app (x y : L) : nameL (x ++ 10 :: y) = (nameL x).app y := by
  obtain ⟨h1, h2⟩ := tw_app restB (by decide) x y
  unfold nameL
  rw [h1, h2]
  split
  · rfl
  · split <;> rfl
theorem numberL_app (b : UInt8) (x y : L) : numberL ((b :: x) ++ 10 :: y) = (numberL (b :: x)).app y := by
  obtain ⟨h1, h2⟩ := tw_app digitB (by decide) (b :: x) y
  have h3 : headIs letB ((b :: x).dropWhile digitB ++ 10 :: y) = headIs letB ((b :: x).dropWhile digitB) := by
    cases (b :: x).dropWhile digitB
    · rfl
    · rfl
  have h4 : ((b :: x) ++ 10 :: y).head? = (b :: x).head? := rfl
  unfold numberL
  rw [h1, h2, h3, h4]
  split <;> rfl
theorem textL_lf (acc y : L) : textL acc (10 :: y) = .bad 142 := by
  unfold textL
  rfl
theorem textL_app : ∀ (n : Nat) (acc x y : L), x.length ≤ n → textL acc (x ++ 10 :: y) = (textL acc x).app y
  | 0, acc, x, y, hn => by
    have : x = [] := List.eq_nil_of_length_eq_zero (by omega)
    subst this
    rw [textL_bad, List.nil_append, textL_lf]
    rfl
  | n + 1, acc, [], y, hn => by
    rw [textL_bad, List.nil_append, textL_lf]
    rfl
  | n + 1, acc, b :: r, y, hn => by
    simp at hn
    rw [List.cons_append]
    unfold textL
    by_cases h34 : b.toNat = 34
    · rw [if_pos h34, if_pos h34]
      split <;> rfl
    · rw [if_neg h34, if_neg h34]
      by_cases h92 : b.toNat = 92
      · rw [if_pos h92, if_pos h92]
        match r, hn with
        | [], _ => simp [Res.app]
        | c :: r', hn =>
          simp only [List.cons_append]
          simp at hn
          by_cases hc : c.toNat = 34 ∨ c.toNat = 92
          · rw [if_pos hc, if_pos hc]
            exact textL_app n _ r' y (by omega)
          · rw [if_neg hc, if_neg hc]
            rfl
      · rw [if_neg h92, if_neg h92]
        by_cases hr : b.toNat < 32 ∨ 126 < b.toNat
        · rw [if_pos hr, if_pos hr]
          rfl
        · rw [if_neg hr, if_neg hr]
          exact textL_app n _ r y (by omega)
theorem ne_longs (b : UInt8) : [b, 10] ∉ longs := by simp [longs]
theorem signL_app (b : UInt8) (x y : L) : signL ((b :: x) ++ 10 :: y) = (signL (b :: x)).app y := by
  match x with
  | [] =>
    simp only [List.cons_append, List.nil_append, signL]
    rw [if_neg (ne_longs b)]
    split <;> rfl
  | c :: r =>
    simp only [List.cons_append, signL]
    split
    · rfl
    · split <;> rfl
theorem tokL_app (b : UInt8) (x y : L) : tokL ((b :: x) ++ 10 :: y) = (tokL (b :: x)).app y := by
  have e1 := nameL_app (b :: x) y
  have e2 := numberL_app b x y
  have e3 := textL_app _ [] x y (Nat.le_refl _)
  have e4 := signL_app b x y
  rw [List.cons_append] at e1 e2 e4 ⊢
  simp only [tokL]
  split
  · exact e1
  · split
    · exact e2
    · split
      · exact e3
      · exact e4
theorem skipB_app : ∀ (c : Bool) (x y : L), skipB c (x ++ 10 :: y) = if skipB c x = [] then skipB false y else skipB c x ++ 10 :: y
  | false, [], y => by simp [skipB, spB]
  | true, [], y => by simp [skipB]
  | false, b :: x, y => by
    have i1 := skipB_app false x y
    have i2 := skipB_app true x y
    rw [List.cons_append]
    simp only [skipB]
    by_cases h1 : spB b = true
    · simp only [if_pos h1]; exact i1
    · simp only [if_neg h1]
      by_cases h2 : b.toNat = 35
      · simp only [if_pos h2]; exact i2
      · simp [if_neg h2]
  | true, b :: x, y => by
    have i1 := skipB_app false x y
    have i2 := skipB_app true x y
    rw [List.cons_append]
    simp only [skipB]
    by_cases h1 : b.toNat = 10
    · simp only [if_pos h1]; exact i1
    · simp only [if_neg h1]; exact i2

theorem toksF_fuel (N : Nat) : ∀ (n n' : Nat) (l : L), l.length < n → l.length < n' → toksF N n l = toksF N n' l
  | 0, _, _, h, _ => absurd h (by omega)
  | _, 0, _, _, h => absurd h (by omega)
  | n + 1, n' + 1, l, h, h' => by
    have hs := skipB_le l false
    unfold toksF
    cases hk : skipB false l with
    | nil => rfl
    | cons b r =>
      rw [hk] at hs
      simp only
      cases ht : tokL (b :: r) with
      | bad e => rfl
      | got k t rest =>
        have := tokL_lt ht
        simp only
        rw [toksF_fuel N n n' rest (by omega) (by omega)]
theorem toksF_loc (NA : Nat) (y : L) : ∀ (n : Nat) (x : L) (n1 n2 : Nat), x.length + 1 + y.length < n → x.length < n1 → y.length < n2 → x.length ≤ NA →
    toksF (NA + 1 + y.length) n (x ++ 10 :: y) = match toksF NA n1 x with
      | .bad o e => .bad o e
      | .ok ts => (toksF (NA + 1 + y.length) n2 y).pre ts
  | 0, _, _, _, h, _, _, _ => absurd h (by omega)
  | _, _, 0, _, _, h, _, _ => absurd h (by omega)
  | n + 1, x, n1 + 1, n2, h, h1, h2, h3 => by
    have hs := skipB_le x false
    have hA := skipB_app false x y
    cases hk : skipB false x with
    | nil =>
      rw [hk, if_pos rfl] at hA
      have e1 : toksF (NA + 1 + y.length) (n + 1) (x ++ 10 :: y) = toksF (NA + 1 + y.length) (n + 1) y := by rw [toksF_step, toksF_step, hA]
      have e2 : toksF NA (n1 + 1) x = .ok [] := by rw [toksF_step, hk]; rfl
      rw [e1, e2, toksF_fuel _ (n + 1) n2 y (by omega) h2]
      simp only [Out.pre_nil]
    | cons b r =>
      rw [hk, if_neg (by simp)] at hA
      rw [hk] at hs
      rw [toksF_step, toksF_step, hA, hk]
      have ht := tokL_app b r y
      rw [List.cons_append] at ht ⊢
      unfold stepT
      simp only
      rw [ht]
      simp only [List.length_cons, List.length_append] at hs ⊢
      cases hr : tokL (b :: r) with
      | bad e =>
        simp only [Res.app]
        congr 1
        omega
      | got k t rest =>
        have hlt := tokL_lt hr
        simp only [List.length_cons] at hlt
        simp only [Res.app]
        rw [toksF_loc NA y n rest n1 n2 (by omega) (by omega) h2 (by omega)]
        rw [show NA + 1 + y.length - (r.length + (y.length + 1) + 1) = NA - (r.length + 1) from by omega]
        cases toksF NA n1 rest with
        | bad o e => rfl
        | ok ts =>
          simp only [Out.push]
          cases toksF (NA + 1 + y.length) n2 y <;> simp [Out.push, Out.pre]
def Tok.shift (d : Nat) (t : Tok) : Tok := ⟨t.k, t.off + d, t.s⟩
def Out.shift (d : Nat) : Out → Out
  | .bad o e => .bad (o + d) e
  | .ok ts => .ok (ts.map (Tok.shift d))
theorem toksF_shift (N d : Nat) : ∀ (n : Nat) (l : L), l.length ≤ N → toksF (N + d) n l = (toksF N n l).shift d
  | 0, _, _ => rfl
  | n + 1, l, h => by
    have hs := skipB_le l false
    unfold toksF
    cases hk : skipB false l with
    | nil => rfl
    | cons b r =>
      rw [hk] at hs
      simp only [List.length_cons] at hs
      simp only
      cases ht : tokL (b :: r) with
      | bad e =>
        simp only [Out.shift, List.length_cons]
        congr 1
        omega
      | got k t rest =>
        have hlt := tokL_lt ht
        simp only [List.length_cons] at hlt ⊢
        rw [toksF_shift N d n rest (by omega)]
        rw [show N + d - (r.length + 1) = N - (r.length + 1) + d from by omega]
        cases toksF N n rest <;> simp [Out.push, Out.shift, Tok.shift]
/-- Two sources with a line feed between. -/
theorem toks_two (x y : L) : toks (x ++ 10 :: y) = match toks x with
    | .bad o e => .bad o e
    | .ok ts => ((toks y).shift (x.length + 1)).pre ts := by
  have h := toksF_loc x.length y ((x ++ 10 :: y).length + 1) x (x.length + 1) (y.length + 1) (by simp; omega) (by omega) (by omega) (Nat.le_refl _)
  have e : (x ++ 10 :: y).length = x.length + 1 + y.length := by simp; omega
  unfold toks
  rw [e] at h ⊢
  rw [h]
  have hsh := toksF_shift y.length (x.length + 1) (y.length + 1) y (Nat.le_refl _)
  rw [show x.length + 1 + y.length = y.length + (x.length + 1) from by omega, hsh]

/-! ### bounds -/
theorem toksF_len (N : Nat) : ∀ (n : Nat) (l : L) (ts : List Tok), toksF N n l = .ok ts → ts.length ≤ n ∧ ∀ t ∈ ts, t.off ≤ N
  | 0, l, ts, h => by
    simp only [toksF] at h
    injection h with h
    subst h
    simp
  | n + 1, l, ts, h => by
    unfold toksF at h
    cases hk : skipB false l with
    | nil =>
      rw [hk] at h
      injection h with h
      subst h
      simp
    | cons b r =>
      rw [hk] at h
      simp only at h
      cases ht : tokL (b :: r) with
      | bad e => rw [ht] at h; cases h
      | got k t rest =>
        rw [ht] at h
        simp only at h
        cases hq : toksF N n rest with
        | bad o e => rw [hq] at h; cases h
        | ok us =>
          rw [hq] at h
          simp only [Out.push] at h
          injection h with h
          subst h
          obtain ⟨i1, i2⟩ := toksF_len N n rest us hq
          refine ⟨by simp; omega, fun t ht => ?_⟩
          rcases List.mem_cons.1 ht with rfl | ht
          · simp
          · exact i2 t ht
theorem nameL_bad {l : L} {e : Int} (h : nameL l = .bad e) : e = 2 := by
  unfold nameL at h
  split at h
  · cases h
  · split at h
    · injection h with h; exact h.symm
    · cases h
theorem numberL_bad {l : L} {e : Int} (h : numberL l = .bad e) : e = 141 := by
  unfold numberL at h
  split at h
  · injection h with h; exact h.symm
  · cases h
theorem textL_bad2 : ∀ (n : Nat) (acc l : L), l.length ≤ n → ∀ e, textL acc l = .bad e → e = 142
  | 0, acc, l, hn => by
    intro e h
    have : l = [] := List.eq_nil_of_length_eq_zero (by omega)
    subst this
    simp [textL] at h
    exact h.symm
  | n + 1, acc, [], hn => by
    intro e h
    simp [textL] at h
    exact h.symm
  | n + 1, acc, b :: r, hn => by
    intro e h
    simp at hn
    unfold textL at h
    split at h
    · split at h
      · injection h with h; exact h.symm
      · cases h
    · split at h
      · split at h
        · injection h with h; exact h.symm
        · rename_i c r'
          simp at hn
          split at h
          · exact textL_bad2 n _ r' (by omega) _ h
          · injection h with h; exact h.symm
      · split at h
        · injection h with h; exact h.symm
        · exact textL_bad2 n _ r (by omega) _ h
theorem signL_bad {l : L} {e : Int} (h : signL l = .bad e) : e = 140 := by
  match l, h with
  | [], h => simp [signL] at h; exact h.symm
  | [b], h =>
    simp only [signL] at h
    split at h
    · cases h
    · injection h with h; exact h.symm
  | b :: c :: r, h =>
    simp only [signL] at h
    split at h
    · cases h
    · split at h
      · cases h
      · injection h with h; exact h.symm
theorem tokL_bad {l : L} {e : Int} (h : tokL l = .bad e) : e = 2 ∨ e = 140 ∨ e = 141 ∨ e = 142 := by
  match l, h with
  | [], h => simp [tokL] at h; omega
  | b :: r, h =>
    simp only [tokL] at h
    split at h
    · exact .inl (nameL_bad h)
    · split at h
      · exact .inr (.inr (.inl (numberL_bad h)))
      · split at h
        · exact .inr (.inr (.inr (textL_bad2 _ _ _ (Nat.le_refl _) _ h)))
        · exact .inr (.inl (signL_bad h))
theorem toksF_bad (N : Nat) : ∀ (n : Nat) (l : L) (o : Nat) (e : Int), toksF N n l = .bad o e → (e = 2 ∨ e = 140 ∨ e = 141 ∨ e = 142) ∧ o ≤ N
  | 0, l, o, e, h => by simp [toksF] at h
  | n + 1, l, o, e, h => by
    unfold toksF at h
    cases hk : skipB false l with
    | nil => rw [hk] at h; cases h
    | cons b r =>
      rw [hk] at h
      simp only at h
      cases ht : tokL (b :: r) with
      | bad e' =>
        rw [ht] at h
        simp only at h
        injection h with h1 h2
        subst h2
        exact ⟨tokL_bad ht, by omega⟩
      | got k t rest =>
        rw [ht] at h
        simp only at h
        cases hq : toksF N n rest with
        | ok us => rw [hq] at h; cases h
        | bad o' e' =>
          rw [hq] at h
          simp only [Out.push] at h
          injection h with h1 h2
          subst h1 h2
          exact toksF_bad N n rest o' e' hq
end Go.Proofs.YtafomaiaobfkfaaGreatDoor.Lx
namespace Go.Proofs.YtafomaiaobfkfaaGreatDoor.Lx
open Go.RowKit Go.Proofs.YtafomaiaobfkfaaGreatDoorW.PrintWords
set_option linter.unusedVariables false
set_option linter.unusedSimpArgs false

theorem race_disable (w : World) : (callFunc 126 #[]).run Tryz.prog w = .ok (.value (.tuple #[])) w := run_call_mark0 Tryz.func126 (by kernel_rfl) (by kernel_rfl) (by kernel_rfl) .disable (by kernel_rfl) w
theorem race_enable (w : World) : (callFunc 128 #[]).run Tryz.prog w = .ok (.value (.tuple #[])) w := run_call_mark0 Tryz.func128 (by kernel_rfl) (by kernel_rfl) (by kernel_rfl) .enable (by kernel_rfl) w
theorem race_acquire (a : Addr) (w : World) : (callFunc 129 #[.pointer (some a)]).run Tryz.prog w = .ok (.value (.tuple #[])) w := run_call_marked Tryz.func129 (by kernel_rfl) (by kernel_rfl) (by kernel_rfl) .acquire (by kernel_rfl) a w
theorem race_relMerge (a : Addr) (w : World) : (callFunc 131 #[.pointer (some a)]).run Tryz.prog w = .ok (.value (.tuple #[])) w := run_call_marked Tryz.func131 (by kernel_rfl) (by kernel_rfl) (by kernel_rfl) .releaseMerge (by kernel_rfl) a w

/-- '(*sync/atomic.Bool).Store(true)', entered as a deferred call: the cell holds 1. -/
theorem store_deferred (a : Addr) (x : Value) (u : FrameMode) (w : World) (hc : w.cell? a = some x) (hz : w.frozen? a = false) :
    CallsD Tryz.prog 112 #[.pointer (some a), .bool true] u w fun e u' w' => u' = u ∧ (e = .returned (.tuple #[]) ∧ w' = w.drew.setCell a (.int .u32 1)) := by
  have hc' : w.drew.cell? a = some x := by go_simp
  have hz' : w.drew.frozen? a = false := by go_simp
  have hst := run_call_store (P := Tryz.prog) Tryz.func118 (by kernel_rfl) (by kernel_rfl) (by kernel_rfl) (by kernel_rfl) (k := .u32) (y := 1) hc' hz'
  go_enter_d Tryz.func112, Tryz.ntmps112
  go_wp2
  go_region_calls
  all_goals (go_end0; exact ⟨rfl, rfl⟩)

set_option maxRecDepth 100000 in
set_option maxHeartbeats 1600000 in
/-- '(*sync.Mutex).Unlock', entered as a deferred call, the lock held and nobody waiting. -/
theorem unlock_deferred (a : Addr) (u : FrameMode) (w : World) (hc : w.cell? a = some (.int .i32 1)) (hz : w.frozen? a = false) :
    CallsD Tryz.prog 111 #[.pointer (some a)] u w fun e u' w' => u' = u ∧ (e = .returned (.tuple #[]) ∧ w' = w.setCell a (.int .i32 0)) := by
  have hd := race_disable
  have he := race_enable
  have hr := race_relMerge
  have hadd := run_call_add (P := Tryz.prog) Tryz.func132 (by kernel_rfl) (by kernel_rfl) (by kernel_rfl) .i32 (by kernel_rfl) (y := -1) (s := 0) hc hz (by simp [go_sem]; rfl)
  have hcv := run_convert_to_unsafe (P := Tryz.prog) (src := 197) (dst := 152) Tryz.underlying197 Tryz.underlying152 (by kernel_rfl) hc
  go_enter_d Tryz.func111, Tryz.ntmps111
  go_wp2
  go_end0
  go_wp2
  go_end0
  exact ⟨rfl, rfl⟩

set_option maxRecDepth 100000 in
set_option maxHeartbeats 1600000 in
/-- '(*sync.Mutex).Lock', the lock free. -/
theorem lock_free (a : Addr) (w : World) (hc : w.cell? a = some (.int .i32 0)) (hz : w.frozen? a = false) :
    Calls Tryz.prog 110 #[.pointer (some a)] w fun e w' => e = .returned (.tuple #[]) ∧ w' = w.setCell a (.int .i32 1) := by
  have hd := race_disable
  have he := race_enable
  have ha := race_acquire
  have hcas := run_call_cas_hit (P := Tryz.prog) Tryz.func127 (by kernel_rfl) (by kernel_rfl) (by kernel_rfl) .i32 (by kernel_rfl) (y := 1) hc hz
  have hc' : (w.setCell a (.int .i32 1)).cell? a = some (.int .i32 1) := World.cell?_setCell_same w a _ hc
  have hcv := run_convert_to_unsafe (P := Tryz.prog) (src := 197) (dst := 152) Tryz.underlying197 Tryz.underlying152 (by kernel_rfl) hc'
  go_enter Tryz.func110, Tryz.ntmps110
  go_wp2
  first | go_end0 | (simp only [Exit.inBlock, Exit.then]; refine bodyPost_ret (results_none rfl _ _ _) rfl ?_) | refine bodyPost_ret (results_none rfl _ _ _) rfl ?_
  go_wp2
  go_end0
  exact ⟨rfl, rfl⟩

/-- The Replacer at block g: the mark, the lock, the algorithm, the pairs. -/
def Rep (w : World) (g : Nat) (d s : Int) (r o : Value) : Prop := w.heap[g]? = some (.cells #[.int .u32 d, .int .i32 s, .int .u32 0, r, o] 128 (0, 0))
theorem Rep.c0 {w : World} {g : Nat} {d s : Int} {r o : Value} (h : Rep w g d s r o) : w.cell? ⟨g, 0, none⟩ = some (.int .u32 d) := blk_cell h 0
theorem Rep.c1 {w : World} {g : Nat} {d s : Int} {r o : Value} (h : Rep w g d s r o) : w.cell? ⟨g, 1, none⟩ = some (.int .i32 s) := blk_cell h 1
theorem Rep.c3 {w : World} {g : Nat} {d s : Int} {r o : Value} (h : Rep w g d s r o) : w.cell? ⟨g, 3, none⟩ = some r := blk_cell h 3
theorem Rep.c4 {w : World} {g : Nat} {d s : Int} {r o : Value} (h : Rep w g d s r o) : w.cell? ⟨g, 4, none⟩ = some o := blk_cell h 4
theorem Rep.fz {w : World} {g : Nat} {d s : Int} {r o : Value} (h : Rep w g d s r o) (i : Nat) : w.frozen? ⟨g, i, none⟩ = false := blk_frozen h i
theorem Rep.set0 {w : World} {g : Nat} {d s : Int} {r o : Value} (h : Rep w g d s r o) (x : Int) : Rep (w.setCell ⟨g, 0, none⟩ (.int .u32 x)) g x s r o := blk_set h 0 _
theorem Rep.set1 {w : World} {g : Nat} {d s : Int} {r o : Value} (h : Rep w g d s r o) (x : Int) : Rep (w.setCell ⟨g, 1, none⟩ (.int .i32 x)) g d x r o := blk_set h 1 _
theorem Rep.set3 {w : World} {g : Nat} {d s : Int} {r o : Value} (h : Rep w g d s r o) (x : Value) : Rep (w.setCell ⟨g, 3, none⟩ x) g d s x o := blk_set h 3 _
theorem Rep.set4 {w : World} {g : Nat} {d s : Int} {r o : Value} (h : Rep w g d s r o) (x : Value) : Rep (w.setCell ⟨g, 4, none⟩ x) g d s r x := blk_set h 4 _
theorem Rep.lt {w : World} {g : Nat} {d s : Int} {r o : Value} (h : Rep w g d s r o) : g < w.heap.size := blk_lt h

/-- (*sync.Once).doSlow on a Replacer that is not built: what building leaves, with the mark. -/
theorem slow_any (g : Nat) (r o : Value) (w : World) (hR : Rep w g 0 0 r o) (Q : World → Prop)
    (hf : ∀ W, W = w.setCell ⟨g, 1, none⟩ (.int .i32 1) → Calls Tryz.prog 86 #[.pointer (some ⟨g, 0, none⟩)] W fun e w' => e = .returned (.tuple #[]) ∧ ∃ r', Rep w' g 0 1 r' (.slice none 0 0) ∧ Q w') :
    Calls Tryz.prog 100 #[.pointer (some ⟨g, 0, none⟩), .func (.func 86) #[.pointer (some ⟨g, 0, none⟩)] #[]] w fun e w' =>
      e = .returned (.tuple #[]) ∧ ∃ w1, Q w1 ∧ w' = (w1.drew.setCell ⟨g, 0, none⟩ (.int .u32 1)).setCell ⟨g, 1, none⟩ (.int .i32 0) ∧ ∃ r', Rep w1 g 0 1 r' (.slice none 0 0) := by
  have hR1 := hR.set1 1
  have hl := run_call_load (P := Tryz.prog) Tryz.func109 (by kernel_rfl) (by kernel_rfl) (by kernel_rfl) .u32 (by kernel_rfl) hR1.c0
  have hnot : ∀ (x : Bool) (w : World), (Op.unary .not (.bool x)).run Tryz.prog w = .ok (.bool (!x)) w := fun _ _ => rfl
  have hent : ∀ (args : Array Value) (W : World), (callFunc 86 args).run Tryz.prog W = .ok (.enter 86 args) W := fun args W => by go_simp
  go_enter_defers Tryz.func100, Tryz.ntmps100
  go_wp2_with (first | (go_at_call 110; refine (lock_free ⟨g, 1, none⟩ _ hR.c1 (hR.fz 1)).mono ?_; rintro e w' ⟨rfl, rfl⟩) | (go_at_call 99; go_in))
  refine (hf _ rfl).mono ?_
  rintro e w1 ⟨rfl, r', hR2, hQ⟩
  go_wp2
  refine leaves_cons (f := 112) (args := #[.pointer (some ⟨g, 0, none⟩), .bool true]) (by simp) (by simp [go_sem]) ?_
  refine (store_deferred ⟨g, 0, none⟩ _ .returning _ hR2.c0 (hR2.fz 0)).mono ?_
  rintro e u' w'' ⟨rfl, rfl, rfl⟩
  refine leaves_cons (f := 111) (args := #[.pointer (some ⟨g, 1, none⟩)]) (by simp [settle]) (by simp [go_sem]) ?_
  have hR3 : Rep (w1.drew.setCell ⟨g, 0, none⟩ (.int .u32 1)) g 1 1 r' (.slice none 0 0) := Rep.set0 (w := w1.drew) hR2 1
  refine (unlock_deferred ⟨g, 1, none⟩ _ _ hR3.c1 (hR3.fz 1)).mono ?_
  rintro e u' w'' ⟨rfl, rfl, rfl⟩
  simp [Leaves, settle, results, Tryz.results100]
  exact ⟨w1, hQ, rfl, r', hR2⟩

end Go.Proofs.YtafomaiaobfkfaaGreatDoor.Lx
namespace Go.Proofs.YtafomaiaobfkfaaGreatDoor.Lx
open Go.RowKit Go.Proofs.YtafomaiaobfkfaaGreatDoorW.PrintWords
set_option linter.unusedVariables false
set_option linter.unusedSimpArgs false

abbrev tQ : ByteArray := ⟨#[34]⟩
abbrev tBQ : ByteArray := ⟨#[92, 34]⟩
abbrev tB : ByteArray := ⟨#[92]⟩
abbrev tBB : ByteArray := ⟨#[92, 92]⟩
def pairs4 : List Value := [.string tQ, .string tBQ, .string tB, .string tBB]
/-- The four texts lie at block h. -/
def Str4 (w : World) (h : Nat) : Prop := ∃ c, w.heap[h]? = some (.cells c 9 (0, 0)) ∧ c.toList.take 4 = pairs4
theorem Str4.cell {w : World} {h : Nat} (hs : Str4 w h) (j : Nat) (hj : j < 4) : w.cell? ⟨h, j, none⟩ = pairs4[j]? := by
  obtain ⟨c, hh, ht⟩ := hs
  rw [blk_cell hh j, ← ht]
  simp [hj]
theorem Str4.lt {w : World} {h : Nat} (hs : Str4 w h) : h < w.heap.size := by
  obtain ⟨c, hh, ht⟩ := hs
  exact blk_lt hh
theorem Str4.below {w w' : World} {h : Nat} (hs : Str4 w h) (hb : Below w.heap.size w w') : Str4 w' h := by
  obtain ⟨c, hh, ht⟩ := hs
  exact ⟨c, blk_below hh hb, ht⟩
theorem infoS : (Tryz.prog.info? 9).map (fun i => (i.zero, i.size, i.bytes)) = some (some (.string ⟨#[]⟩), 1, 16) := by kernel_rfl
theorem one4 : ∀ u ∈ pairs4, u.oneCell' = true := by
  intro u hu
  simp [pairs4] at hu
  rcases hu with rfl | rfl | rfl | rfl <;> rfl

theorem own_four {w : World} {base : Nat} {v : Value} (h : w.ownsRow base 9 1 v (0 + 4) ([] ++ pairs4)) :
    ∃ g cap, v = .slice (some ⟨g, 0, none⟩) 4 cap ∧ base ≤ g ∧ 4 ≤ cap ∧ Str4 w g := by
  obtain ⟨h1, ⟨rfl, h2⟩ | ⟨g, cap, cur, rfl, h2, h3, h4, h5, h6, h7⟩⟩ := h
  · omega
  · exact ⟨g, cap, rfl, h2, h4, cur, h3, h7⟩

set_option maxRecDepth 100000 in
theorem newRep_any (b0 : Nat) (w : World) (hS : Str4 w b0) :
    Calls Tryz.prog 67 #[.slice (some ⟨b0, 0, none⟩) 4 4] w fun e w' => ∃ g h c, e = .returned (.pointer (some ⟨g, 0, none⟩)) ∧
      Rep w' g 0 0 .nilIface (.slice (some ⟨h, 0, none⟩) 4 c) ∧ 4 ≤ c ∧ Str4 w' h ∧ Below w.heap.size w w' ∧ w.heap.size ≤ g := by
  obtain ⟨i, hi, hz, hsz, hby⟩ := info_parts infoS
  have hcells : ∀ (j : Nat) (u : Value), pairs4[j]? = some u → w.cell? ((⟨b0, 0, none⟩ : Addr).add j) = some u := fun j u hj => by
    have h4 : j < 4 := (List.getElem?_eq_some_iff.1 hj).1
    have e := hS.cell j h4
    rw [hj] at e
    have ha : (⟨b0, 0, none⟩ : Addr).add j = ⟨b0, j, none⟩ := by unfold Addr.add; split <;> simp_all
    rw [ha]
    exact e
  go_enter Tryz.func67, Tryz.ntmps67
  go_wp2_with (at_builtin; refine wpList_append_own w rfl (.const (.slice none 0 0)) (.tmp 8) 39 rfl w.heap.size 9 i (.string ⟨#[]⟩) 1 16 Tryz.underlying39 hi hz hsz hby rfl (by decide) (.slice none 0 0) 0 [] rfl (World.ownsRow_nil _ _ _ _) ⟨b0, 0, none⟩ 4 4 pairs4 rfl rfl hcells one4 (by decide) (by decide) (Nat.le_refl _) ?_; intro v1 w1 hown hgr hv; clear hv; obtain ⟨gh, cap, hv, hb, hcap, hS4⟩ := own_four hown; subst hv; clear hown)
  go_ret
  refine ⟨w1.heap.size, gh, cap, rfl, heap_alloc_new w1 _, hcap, ?_, ?_, hgr.size⟩
  · obtain ⟨cu, hh, ht⟩ := hS4
    exact ⟨cu, blk_alloc hh _, ht⟩
  · exact below_of_gb (r := none) (gb_alloc hgr _) (by simp)


/-- Bytes of a slice of the model's own making. -/
def BytesAt (w : World) (v : Value) (s : ByteArray) : Prop := ∃ h c cs fr, v = .slice (some ⟨h, 0, none⟩) s.size c ∧ w.heap[h]? = some (.cells cs 5 fr) ∧ ∀ j, j < s.size → cs[j]? = some (.int .u8 (s.data.toList.getD j 0).toNat)
theorem BytesAt.grown {w w' : World} {v : Value} {s : ByteArray} {r : Option Nat} (h : BytesAt w v s) (hg : w.grownBy w' r) (hr : ∀ x, r = some x → ∃ cs t fr, w.heap[x]? = some (.cells cs t fr) ∧ t ≠ 5) : BytesAt w' v s := by
  obtain ⟨a, c, cs, fr, e, hh, hc⟩ := h
  refine ⟨a, c, cs, fr, e, (hg.block a (blk_lt hh) ?_).trans hh, hc⟩
  intro e
  obtain ⟨cs', t', fr', h1, h2⟩ := hr a e.symm
  rw [hh] at h1
  injection h1 with h1
  injection h1 with _ h1 _
  exact h2 h1.symm
theorem BytesAt.cell {w : World} {v : Value} {s : ByteArray} (h : BytesAt w v s) : ∃ a c, v = .slice (some ⟨a, 0, none⟩) s.size c ∧ a < w.heap.size ∧ ∀ j, j < s.size → w.cell? ⟨a, j, none⟩ = some (.int .u8 (s.data.toList.getD j 0).toNat) := by
  obtain ⟨a, c, cs, fr, e, hh, hc⟩ := h
  refine ⟨a, c, e, blk_lt hh, fun j hj => ?_⟩
  simp only [World.cell?, hh, Option.isSome_none, Bool.false_eq_true, if_false]
  exact hc j hj
theorem BytesAt.new (w : World) (s : ByteArray) : BytesAt (Lib.bytesWorld w 5 s) (.slice (some ⟨w.heap.size, 0, none⟩) s.size (grownCap w s.size 0 5)) s := by
  refine ⟨_, _, _, _, rfl, Lib.bytesWorld_at_new w 5 s, fun j hj => ?_⟩
  have hj' : j < s.data.size := hj
  have hj2 : j < s.data.toList.length := by simpa using hj'
  simp [Lib.bytesCells, Array.getElem?_append, hj, hj', List.getD, hj2]
abbrev nilV : Value := .slice none 0 0
def M2 : Array Value := madeCells (Value.string ⟨#[]⟩).cells 2
noncomputable def Z1 (k : Nat) : Array Value := Tryz.zeroCells175.setIfInBounds 256 (.slice (some ⟨k, 0, none⟩) 0 2)
theorem zero175 : Tryz.zeroCells175 = Array.replicate 257 nilV := by kernel_rfl

/-- The replacer under way: j of the two pairs are in. -/
structure BI (w W : World) (q j : Nat) (cs : Array Value) (v : Value) : Prop where
  blk : W.heap[q]? = some (.cells cs 175 (0, 0))
  size : cs.size = 257
  nils : ∀ i, i < 256 → (i = 92 → j = 0) → (i = 34 → j ≤ 1) → cs[i]? = some nilV
  one : 1 ≤ j → ∃ v, cs[92]? = some v ∧ BytesAt W v tBB
  two : 2 ≤ j → ∃ v, cs[34]? = some v ∧ BytesAt W v tBQ
  last : cs[256]? = some v
  own : W.ownsRow w.heap.size 9 1 v j ([.string tB, .string tQ].take j)
  bel : Below w.heap.size w W

theorem BI.start (w : World) : BI w ((w.alloc (.cells M2 9)).alloc (.cells (Z1 w.heap.size) 175)) (w.heap.size + 1) 0 (Z1 w.heap.size) (.slice (some ⟨w.heap.size, 0, none⟩) 0 2) where
  blk := by have := heap_alloc_new (w.alloc (.cells M2 9)) (.cells (Z1 w.heap.size) 175); simpa using this
  size := by unfold Z1; rw [zero175]; simp
  nils := fun i hi _ _ => by
    unfold Z1
    rw [zero175, Array.getElem?_setIfInBounds_ne (by omega), Array.getElem?_replicate, if_pos (by omega)]
  one := fun h => by omega
  two := fun h => by omega
  last := by unfold Z1; rw [zero175]; simp
  own := by
    have := World.ownsRow_made (base := w.heap.size) (e := 9) (size := 1) w M2 2 (Nat.le_refl _) (by decide) (size_madeCells _ _)
    exact this.alloc _
  bel := below_of_gb (gb_alloc (gb_alloc (World.grownBy.refl w none) _) _) (by simp)
theorem BI.blk2 {w wr W1 w2 : World} {q j : Nat} {cs : Array Value} {v : Value} (h : BI w wr q j cs v) (hW : wr.grownBy W1 none) (hgr : W1.grownBy w2 v.ownBlock) : w2.heap[q]? = some (.cells cs 175 (0, 0)) :=
  blk_grown (blk_grown h.blk hW (by simp)) hgr (by
    have := h.own.kept hW (by rcases hv : v.ownBlock with _ | k <;> simp)
    exact own_ne this (blk_grown h.blk hW (by simp)) (by decide))
theorem BytesAt.setFar {w : World} {v : Value} {s : ByteArray} {q : Nat} {cs : Array Value} (h : BytesAt w v s) (hq : w.heap[q]? = some (.cells cs 175 (0, 0))) (i : Nat) (u : Value) : BytesAt (w.setCell ⟨q, i, none⟩ u) v s :=
  h.grown (r := some q) (gb_set (World.grownBy.refl w _) (.inl rfl) u) (fun x hx => by injection hx with hx; subst hx; exact ⟨_, _, _, hq, by decide⟩)
theorem bytes_grown (w : World) (e : TypeId) (s : ByteArray) : w.grownBy (Lib.bytesWorld w e s) none := gb_below (bytes_below (Below.refl _ w) (Nat.le_refl _) e s) none
theorem BI.next {w wr W1 w2 : World} {q j : Nat} {cs : Array Value} {v v1 : Value} (h : BI w wr q j cs v) (p : Nat) (s o : ByteArray) (hj : (j = 0 ∧ p = 92 ∧ s = tBB ∧ o = tB) ∨ (j = 1 ∧ p = 34 ∧ s = tBQ ∧ o = tQ))
    (hW : wr.grownBy W1 none) (hgr : W1.grownBy w2 v.ownBlock) (hown : w2.ownsRow w.heap.size 9 1 v1 (j + 1) ([.string tB, .string tQ].take j ++ [.string o])) (hbel : Below w.heap.size w w2) (hq : w.heap.size ≤ q) :
    BI w ((Lib.bytesWorld (w2.setCell ⟨q, 256, none⟩ v1) 5 s).setCell ⟨q, p, none⟩ (.slice (some ⟨(w2.setCell ⟨q, 256, none⟩ v1).heap.size, 0, none⟩) s.size (grownCap (w2.setCell ⟨q, 256, none⟩ v1) s.size 0 5)))
      q (j + 1) ((cs.setIfInBounds 256 v1).setIfInBounds p (.slice (some ⟨(w2.setCell ⟨q, 256, none⟩ v1).heap.size, 0, none⟩) s.size (grownCap (w2.setCell ⟨q, 256, none⟩ v1) s.size 0 5))) v1 := by
  have hb2 := h.blk2 hW hgr
  have hb3 : (w2.setCell ⟨q, 256, none⟩ v1).heap[q]? = _ := blk_set hb2 256 v1
  have hb4 := blk_grown hb3 (bytes_grown _ 5 s) (by simp)
  have hp : p < 256 ∧ p ≠ 256 := by omega
  have own1 := h.own.kept hW (by rcases hv : v.ownBlock with _ | k <;> simp)
  have keep : ∀ {x : Value} {s' : ByteArray}, BytesAt wr x s' → BytesAt ((Lib.bytesWorld (w2.setCell ⟨q, 256, none⟩ v1) 5 s).setCell ⟨q, p, none⟩ (.slice (some ⟨(w2.setCell ⟨q, 256, none⟩ v1).heap.size, 0, none⟩) s.size (grownCap (w2.setCell ⟨q, 256, none⟩ v1) s.size 0 5))) x s' := by
    intro x s' hx
    have h1 := hx.grown hW (by simp)
    have h2 := h1.grown hgr (fun y hy => by
      rcases own1.2 with ⟨rfl, _⟩ | ⟨a, cap, cur, rfl, _, hh, _⟩
      · simp [Value.ownBlock] at hy
      · simp [Value.ownBlock] at hy
        subst hy
        exact ⟨_, _, _, hh, by decide⟩)
    have h3 := h2.setFar hb2 256 v1
    exact (h3.grown (bytes_grown _ 5 s) (by simp)).setFar hb4 p _
  have new : BytesAt ((Lib.bytesWorld (w2.setCell ⟨q, 256, none⟩ v1) 5 s).setCell ⟨q, p, none⟩ (.slice (some ⟨(w2.setCell ⟨q, 256, none⟩ v1).heap.size, 0, none⟩) s.size (grownCap (w2.setCell ⟨q, 256, none⟩ v1) s.size 0 5))) (.slice (some ⟨(w2.setCell ⟨q, 256, none⟩ v1).heap.size, 0, none⟩) s.size (grownCap (w2.setCell ⟨q, 256, none⟩ v1) s.size 0 5)) s :=
    (BytesAt.new _ s).setFar hb4 p _
  have hsz := h.size
  refine ⟨blk_set hb4 p _, by simp [hsz], fun i hi h1 h2 => ?_, fun hj1 => ?_, fun hj2 => ?_, ?_, ?_, ?_⟩
  · have : i ≠ p := by omega
    rw [Array.getElem?_setIfInBounds_ne (by omega), Array.getElem?_setIfInBounds_ne (by omega)]
    exact h.nils i hi (by omega) (by omega)
  · rcases hj with ⟨rfl, rfl, rfl, rfl⟩ | ⟨rfl, rfl, rfl, rfl⟩
    · exact ⟨_, by simp [hsz], new⟩
    · obtain ⟨x, hx, hb⟩ := h.one (Nat.le_refl _)
      refine ⟨x, ?_, keep hb⟩
      rw [Array.getElem?_setIfInBounds_ne (by omega), Array.getElem?_setIfInBounds_ne (by omega)]
      exact hx
  · rcases hj with ⟨rfl, rfl, rfl, rfl⟩ | ⟨rfl, rfl, rfl, rfl⟩
    · omega
    · exact ⟨_, by simp [hsz], new⟩
  · rw [Array.getElem?_setIfInBounds_ne (by omega)]
    simp [hsz]
  · have h1 : ∀ W r, w2.grownBy W r → (r = some q ∨ r = none) → W.ownsRow w.heap.size 9 1 v1 (j + 1) ([.string tB, .string tQ].take j ++ [.string o]) := fun W r hg hr => hown.kept hg (by
      rcases hr with rfl | rfl
      · exact .inr (fun e => own_ne hown hb2 (by decide) e.symm)
      · rcases hv : v1.ownBlock with _ | k <;> simp)
    have h2 := h1 _ (some q) (gb_set (gb_trans (gb_set (p := ⟨q, 256, none⟩) (World.grownBy.refl w2 (some q)) (.inl rfl) v1) (bytes_grown _ 5 s) (.inr (by simp))) (.inl rfl) (.slice (some ⟨(w2.setCell ⟨q, 256, none⟩ v1).heap.size, 0, none⟩) s.size (grownCap (w2.setCell ⟨q, 256, none⟩ v1) s.size 0 5)) (p := ⟨q, p, none⟩)) (.inl rfl)
    have e : ([.string tB, .string tQ] : List Value).take (j + 1) = [.string tB, .string tQ].take j ++ [.string o] := by
      rcases hj with ⟨rfl, rfl, rfl, rfl⟩ | ⟨rfl, rfl, rfl, rfl⟩ <;> rfl
    rw [e]
    exact h2
  · have h2 : w2.grownBy _ (some q) := gb_set (gb_trans (gb_set (p := ⟨q, 256, none⟩) (World.grownBy.refl w2 (some q)) (.inl rfl) v1) (bytes_grown _ 5 s) (.inr (by simp))) (.inl rfl) (.slice (some ⟨(w2.setCell ⟨q, 256, none⟩ v1).heap.size, 0, none⟩) s.size (grownCap (w2.setCell ⟨q, 256, none⟩ v1) s.size 0 5)) (p := ⟨q, p, none⟩)
    exact below_of_gb (gb_trans (gb_below hbel (some q)) h2 (.inl rfl)) (fun x hx => by injection hx with hx; omega)

theorem own_succ {w : World} {base : Nat} {e : TypeId} {size : Nat} {v : Value} {k : Nat} {xs : List Value} (h : w.ownsRow base e size v (k + 1) xs) : ∃ g cap, v = .slice (some ⟨g, 0, none⟩) (k + 1) cap := by
  rcases h.2 with ⟨_, h⟩ | ⟨g, cap, cur, rfl, _⟩
  · omega
  · exact ⟨g, cap, rfl⟩
set_option maxRecDepth 100000 in
set_option maxHeartbeats 3200000 in
theorem build_any (g h c : Nat) (w : World) (hR : Rep w g 0 1 .nilIface (.slice (some ⟨h, 0, none⟩) 4 c)) (hS : Str4 w h) :
    Calls Tryz.prog 101 #[.pointer (some ⟨g, 0, none⟩)] w fun e w' => ∃ q cs v, e = .returned (.iface 176 (.pointer (some ⟨q, 0, none⟩))) ∧ BI w w' q 2 cs v := by
  have c4 := hR.c4
  have s0 : w.cell? ⟨h, 0, none⟩ = some (.string tQ) := hS.cell 0 (by decide)
  have s1 : w.cell? ⟨h, 1, none⟩ = some (.string tBQ) := hS.cell 1 (by decide)
  have s2 : w.cell? ⟨h, 2, none⟩ = some (.string tB) := hS.cell 2 (by decide)
  have s3 : w.cell? ⟨h, 3, none⟩ = some (.string tBB) := hS.cell 3 (by decide)
  obtain ⟨i, hi, hz, hsz, hby⟩ := info_parts infoS
  have hmk : ∀ W : World, (Instr.makeSlice 39 (.int .i64 0) (.int .i64 2)).run Tryz.prog W = .ok (.slice (some ⟨W.heap.size, 0, none⟩) 0 2) (W.alloc (.cells M2 9)) := fun W => by
    have := run_make (P := Tryz.prog) W 39 9 i (.string ⟨#[]⟩) Tryz.underlying39 hi hz .i64 .i64 0 2 (by decide) (by decide) (by rw [hby]; decide) (by decide)
    rw [this, hsz]
    rfl
  have hbd : ∀ (k : Nat) (W : World), (Instr.build 175 #[(1, .slice (some ⟨k, 0, none⟩) 0 2)]).run Tryz.prog W = .ok (.agg (Z1 k)) W := fun k W => run_build W 175 _ _ (by kernel_rfl)
  have hst : (storeCells ⟨w.heap.size + 1, 0, none⟩ (Tryz.zeroCells175.toList.set 256 (.slice (some ⟨w.heap.size, 0, none⟩) 0 2)) 0).run Tryz.prog ((w.alloc (.cells M2 9)).alloc (.cells Tryz.zeroCells175 175)) = .ok () ((w.alloc (.cells M2 9)).alloc (.cells (Z1 w.heap.size) 175)) := by
    have := run_storeCells_new (P := Tryz.prog) (w.alloc (.cells M2 9)) 175 Tryz.zeroCells175 (Z1 w.heap.size) (by kernel_rfl) (by kernel_rfl) (by kernel_rfl)
    simpa [Z1] using this
  have hcb : ∀ (W : World) (s : ByteArray), (convert 9 47 (.string s)).run Tryz.prog W = .ok (.slice (some ⟨W.heap.size, 0, none⟩) s.size (grownCap W s.size 0 5)) (Lib.bytesWorld W 5 s) := fun W s =>
    Lib.run_convert_string_bytes W 9 47 5 s Tryz.underlying9 Tryz.underlying47 Tryz.underlying5
  have hcv : ∀ (W : World) (b : UInt8), (convert 47 9 (.slice (some ⟨W.heap.size, 0, none⟩) 1 1)).run Tryz.prog (W.alloc (.cells #[.int .u8 b.toNat] 5)) = .ok (.string ⟨#[b]⟩) (W.alloc (.cells #[.int .u8 b.toNat] 5)) := fun W b =>
    run_convert_bytes_back (W.alloc (.cells #[.int .u8 b.toNat] 5)) 47 9 5 ⟨W.heap.size, 0, none⟩ 1 [b] Tryz.underlying47 Tryz.underlying5 Tryz.underlying9 (fun j hj => by
      obtain rfl : j = 0 := by simp at hj; omega
      simp [Addr.add])
  have hcv92 : ∀ W : World, (convert 47 9 (.slice (some ⟨W.heap.size, 0, none⟩) 1 1)).run Tryz.prog (W.alloc (.cells #[.int .u8 92] 5)) = .ok (.string tB) (W.alloc (.cells #[.int .u8 92] 5)) := fun W => hcv W 92
  have hcv34 : ∀ W : World, (convert 47 9 (.slice (some ⟨W.heap.size, 0, none⟩) 1 1)).run Tryz.prog (W.alloc (.cells #[.int .u8 34] 5)) = .ok (.string tQ) (W.alloc (.cells #[.int .u8 34] 5)) := fun W => hcv W 34
  clear hcv
  have heq : ∀ (a : Option Addr) (l c : Nat) (W : World), (binOp .eql 47 (.slice a l c) (.slice none 0 0)).run Tryz.prog W = .ok (.bool a.isNone) W := fun a l c W => Lib.run_eql_slice_nil W 47 5 a l c 0 0 Tryz.underlying47
  have eB : ∀ h : 0 < tB.size, (tB[0]'h).toNat = 92 := fun _ => rfl
  have eQ : ∀ h : 0 < tQ.size, (tQ[0]'h).toNat = 34 := fun _ => rfl
  go_enter Tryz.func101, Tryz.ntmps101
  go_wp2
  go_loopg [4, 5] 2 (fun gk v4 v5 wr => ∃ j : Nat, j ≤ 2 ∧ v5 = .int .i64 (2 * j : Nat) ∧ v4 = .bool (decide (j = 0)) ∧ gk = 2 - j ∧ w = wr)
  case atStart => exact ⟨0, by omega, rfl, rfl, rfl, rfl⟩
  case round =>
    obtain ⟨j, hj, rfl, rfl, rfl, rfl⟩ := hrel
    match j, hj with
    | 0, _ =>
      clear hmk hbd hst hcb hcv92 hcv34
      go_wp2
      go_roundg 1
      case rel => exact ⟨1, by omega, rfl, rfl, rfl, rfl⟩
      case measure => omega
    | 1, _ =>
      clear hmk hbd hst hcb hcv92 hcv34
      go_wp2
      go_roundg 0
      case rel => exact ⟨2, by omega, rfl, rfl, rfl, rfl⟩
      case measure => omega
    | 2, _ =>
      go_wp2
      clear hmk hbd hst
      go_loopg [12] 2 (fun gk v12 wr => ∃ (j : Nat) (cs : Array Value) (v : Value), j ≤ 2 ∧ v12 = .int .i64 (2 - 2 * (j : Int)) ∧ gk = 2 - j ∧ BI w wr (w.heap.size + 1) j cs v)
      case atStart =>
        exact ⟨0, _, _, by omega, rfl, rfl, BI.start w⟩
      case round =>
        obtain ⟨j, cs, v, hj, rfl, rfl, hB⟩ := hrel
        have t0 : wr.cell? ⟨h, 0, none⟩ = some (.string tQ) := (hS.below hB.bel).cell 0 (by decide)
        have t1 : wr.cell? ⟨h, 1, none⟩ = some (.string tBQ) := (hS.below hB.bel).cell 1 (by decide)
        have t2 : wr.cell? ⟨h, 2, none⟩ = some (.string tB) := (hS.below hB.bel).cell 2 (by decide)
        have t3 : wr.cell? ⟨h, 3, none⟩ = some (.string tBB) := (hS.below hB.bel).cell 3 (by decide)
        have q6 : wr.cell? ⟨w.heap.size + 1, 256, none⟩ = some v := (blk_cell hB.blk 256).trans hB.last
        clear s0 s1 s2 s3 c4
        match j, hj with
        | 0, _ =>
          have q92 : wr.cell? ⟨w.heap.size + 1, 92, none⟩ = some nilV := (blk_cell hB.blk 92).trans (hB.nils 92 (by decide) (by omega) (by omega))
          have hW1 : wr.grownBy (wr.alloc (.cells #[.int .u8 92] 5)) none := gb_alloc (World.grownBy.refl wr none) _
          go_wp2_with (at_builtin; refine print_append_cells (w0 := w) (W := wr.alloc (.cells #[.int .u8 92] 5)) w.heap.size rfl (.tmp 119) (.tmp 123) 39 9 (.string ⟨#[]⟩) 1 16 rfl Tryz.underlying39 infoS rfl (by decide) (by decide) v 0 _ [.string tB] rfl ?hx rfl (by decide) (hB.own.alloc _) (below_of_gb (gb_alloc (gb_below hB.bel none) _) (by simp)) ?hb (by decide) ?_; (case hx => first | (go_simp; done) | (go_simp; rfl)); (case hb => (have := hB.bel.size; simp; omega)); intro v1 w2 hown hbel hgr hat; clear hat; obtain ⟨gv, cv, ev⟩ := own_succ hown; subst ev; have hb2 := hB.blk2 hW1 hgr; have k6 : w2.cell? ⟨w.heap.size + 1, 256, none⟩ = some v := (blk_cell hb2 256).trans hB.last; have f6 := blk_frozen hb2 256; have hb4 := blk_grown (blk_set hb2 256 _) (bytes_grown (w2.setCell ⟨w.heap.size + 1, 256, none⟩ (.slice (some ⟨gv, 0, none⟩) 1 cv)) 5 tBB) (by simp); have k9 : (Lib.bytesWorld (w2.setCell ⟨w.heap.size + 1, 256, none⟩ (.slice (some ⟨gv, 0, none⟩) 1 cv)) 5 tBB).cell? ⟨w.heap.size + 1, 92, none⟩ = some nilV := (blk_cell hb4 92).trans ((Array.getElem?_setIfInBounds_ne (by decide)).trans (hB.nils 92 (by decide) (by omega) (by omega))); have f9 := blk_frozen hb4 92)
          go_roundg 1
          case rel =>
            have := hB.next 92 tBB tB (by decide) hW1 hgr hown hbel (by omega)
            exact ⟨1, _, _, by omega, rfl, rfl, by simpa [show tBB.size = 2 from rfl, show tBQ.size = 2 from rfl] using this⟩
          case measure => omega
        | 1, _ =>
          have q92 : wr.cell? ⟨w.heap.size + 1, 34, none⟩ = some nilV := (blk_cell hB.blk 34).trans (hB.nils 34 (by decide) (by omega) (by omega))
          have hW1 : wr.grownBy (wr.alloc (.cells #[.int .u8 34] 5)) none := gb_alloc (World.grownBy.refl wr none) _
          go_wp2_with (at_builtin; refine print_append_cells (w0 := w) (W := wr.alloc (.cells #[.int .u8 34] 5)) w.heap.size rfl (.tmp 119) (.tmp 123) 39 9 (.string ⟨#[]⟩) 1 16 rfl Tryz.underlying39 infoS rfl (by decide) (by decide) v 1 _ [.string tQ] rfl ?hx rfl (by decide) (hB.own.alloc _) (below_of_gb (gb_alloc (gb_below hB.bel none) _) (by simp)) ?hb (by decide) ?_; (case hx => first | (go_simp; done) | (go_simp; rfl)); (case hb => (have := hB.bel.size; simp; omega)); intro v1 w2 hown hbel hgr hat; clear hat; obtain ⟨gv, cv, ev⟩ := own_succ hown; subst ev; have hb2 := hB.blk2 hW1 hgr; have k6 : w2.cell? ⟨w.heap.size + 1, 256, none⟩ = some v := (blk_cell hb2 256).trans hB.last; have f6 := blk_frozen hb2 256; have hb4 := blk_grown (blk_set hb2 256 _) (bytes_grown (w2.setCell ⟨w.heap.size + 1, 256, none⟩ (.slice (some ⟨gv, 0, none⟩) 2 cv)) 5 tBQ) (by simp); have k9 : (Lib.bytesWorld (w2.setCell ⟨w.heap.size + 1, 256, none⟩ (.slice (some ⟨gv, 0, none⟩) 2 cv)) 5 tBQ).cell? ⟨w.heap.size + 1, 34, none⟩ = some nilV := (blk_cell hb4 34).trans ((Array.getElem?_setIfInBounds_ne (by decide)).trans (hB.nils 34 (by decide) (by omega) (by omega))); have f9 := blk_frozen hb4 34)
          go_roundg 0
          case rel =>
            have := hB.next 34 tBQ tQ (by decide) hW1 hgr hown hbel (by omega)
            exact ⟨2, _, _, by omega, rfl, rfl, by simpa [show tBB.size = 2 from rfl, show tBQ.size = 2 from rfl] using this⟩
          case measure => omega
        | 2, _ =>
          clear hcb hcv92 hcv34
          go_wp2
          go_ret
          exact ⟨_, cs, v, rfl, hB⟩

end Go.Proofs.YtafomaiaobfkfaaGreatDoor.Lx
namespace Go.Proofs.YtafomaiaobfkfaaGreatDoor.Lx
open Go.RowKit Go.Proofs.YtafomaiaobfkfaaGreatDoorW.PrintWords
set_option linter.unusedVariables false
set_option linter.unusedSimpArgs false

/-! ### the plain side -/
def spcB (b : UInt8) : Bool := decide (b.toNat = 34) || decide (b.toNat = 92)
def escL : L → L
  | [] => []
  | b :: r => if spcB b then 92 :: b :: escL r else b :: escL r
/-- How many bytes are escaped. -/
def cE : L → Nat
  | [] => 0
  | b :: r => if spcB b then cE r + 1 else cE r
theorem escL_len : ∀ l : L, (escL l).length = l.length + cE l
  | [] => rfl
  | b :: r => by
    have := escL_len r
    unfold escL cE
    split <;> (simp; omega)
theorem escL_app : ∀ (x y : L), escL (x ++ y) = escL x ++ escL y
  | [], y => rfl
  | b :: r, y => by
    have := escL_app r y
    simp only [List.cons_append, escL]
    split <;> simp [this]
theorem cE_app : ∀ (x y : L), cE (x ++ y) = cE x + cE y
  | [], y => by simp [cE]
  | b :: r, y => by
    have := cE_app r y
    simp only [List.cons_append, cE]
    split <;> omega
theorem escL_id : ∀ l : L, cE l = 0 → escL l = l
  | [], _ => rfl
  | b :: r, h => by
    unfold cE at h
    split at h
    · omega
    · rename_i hb
      unfold escL
      rw [if_neg hb, escL_id r h]
theorem cE_count : ∀ l : L, cE l = Lib.countByte l 92 + Lib.countByte l 34
  | [] => rfl
  | b :: r => by
    have ih : cE r = List.count 92 r + List.count 34 r := cE_count r
    show cE (b :: r) = List.count 92 (b :: r) + List.count 34 (b :: r)
    simp only [cE, List.count_cons, ih]
    by_cases h1 : b.toNat = 34
    · have : b = 34 := UInt8.toNat_inj.1 h1
      subst this
      simp [spcB]
      omega
    · by_cases h2 : b.toNat = 92
      · have : b = 92 := UInt8.toNat_inj.1 h2
        subst this
        simp [spcB]
        omega
      · have e1 : ¬ b = 34 := fun e => h1 (by rw [e]; rfl)
        have e2 : ¬ b = 92 := fun e => h2 (by rw [e]; rfl)
        simp [spcB, h1, h2, e1, e2]
theorem cE_le (l : L) : cE l ≤ l.length := by
  induction l with
  | nil => simp [cE]
  | cons b r ih => unfold cE; split <;> (simp; omega)
theorem take_one (s : ByteArray) (i : Nat) (h : i < s.size) : s.data.toList.take (i + 1) = s.data.toList.take i ++ [s[i]] := by
  rw [List.take_succ_eq_append_getElem (by simpa using h)]
  rfl
theorem cE_one (s : ByteArray) (i : Nat) (h : i < s.size) : cE (s.data.toList.take (i + 1)) = cE (s.data.toList.take i) + (if spcB s[i] then 1 else 0) := by
  rw [take_one s i h, cE_app]
  simp only [cE]

/-! ### the replacer in memory -/
def BSR (W : World) (q : Nat) : Prop := ∃ cs a c cur, W.heap[q]? = some (.cells cs 175 (0, 0)) ∧ (∀ i, i < 256 → i ≠ 92 → i ≠ 34 → cs[i]? = some nilV) ∧
  (∃ v, cs[92]? = some v ∧ BytesAt W v tBB) ∧ (∃ v, cs[34]? = some v ∧ BytesAt W v tBQ) ∧ cs[256]? = some (.slice (some ⟨a, 0, none⟩) 2 c) ∧
  W.heap[a]? = some (.cells cur 9 (0, 0)) ∧ cur[0]? = some (.string tB) ∧ cur[1]? = some (.string tQ)
theorem BSR.keep {W W' : World} {q : Nat} (h : BSR W q) (hk : ∀ (b : Nat) (cs : Array Value) (t : TypeId) (fr : Nat × Nat), W.heap[b]? = some (Obj.cells cs t fr) → (t = 175 ∨ t = 9 ∨ t = 5) → W'.heap[b]? = W.heap[b]?) : BSR W' q := by
  obtain ⟨cs, a, c, cur, h1, h2, ⟨v9, h3, x9, y9, z9, f9, e9, b9, g9⟩, ⟨v3, h4, x3, y3, z3, f3, e3, b3, g3⟩, h5, h6, h7, h8⟩ := h
  exact ⟨cs, a, c, cur, (hk _ _ _ _ h1 (.inl rfl)).trans h1, h2, ⟨v9, h3, x9, y9, z9, f9, e9, (hk _ _ _ _ b9 (.inr (.inr rfl))).trans b9, g9⟩, ⟨v3, h4, x3, y3, z3, f3, e3, (hk _ _ _ _ b3 (.inr (.inr rfl))).trans b3, g3⟩, h5, (hk _ _ _ _ h6 (.inr (.inl rfl))).trans h6, h7, h8⟩
theorem BSR.below {W W' : World} {q : Nat} (h : BSR W q) (hb : Below W.heap.size W W') : BSR W' q := h.keep fun b cs t fr hh _ => hb.block b (blk_lt hh)
theorem BSR.setFar {W : World} {q g : Nat} {cs : Array Value} (h : BSR W q) (hg : W.heap[g]? = some (.cells cs 128 (0, 0))) (i : Nat) (u : Value) : BSR (W.setCell ⟨g, i, none⟩ u) q :=
  h.keep fun b cs' t fr hh ht => Below.heap_setCell W ⟨g, i, none⟩ u b (by
    rintro rfl
    rw [hg] at hh
    injection hh with hh
    injection hh with _ hh _
    subst hh
    exact absurd ht (by decide))
theorem BI.done {w W : World} {q : Nat} {cs : Array Value} {v : Value} (h : BI w W q 2 cs v) : BSR W q := by
  obtain ⟨a, c, rfl⟩ := own_succ h.own
  obtain ⟨h1, ⟨_, h2⟩ | ⟨g, cap, cur, e, hb, hh, h3, h4, h5, h6⟩⟩ := h.own
  · omega
  · injection e with e1 e2 e3
    injection e1 with e1
    injection e1 with e1
    subst e1
    have k0 : (cur.toList.take (2 * 1))[0]? = some (.string tB) := by rw [h6]; rfl
    have k1 : (cur.toList.take (2 * 1))[1]? = some (.string tQ) := by rw [h6]; rfl
    exact ⟨cs, a, c, cur, h.blk, fun i hi h1 h2 => h.nils i hi (fun e => absurd e h1) (fun e => absurd e h2), h.one (by omega), h.two (by omega), h.last, hh, by simpa using k0, by simpa using k1⟩
theorem BSR.cell_nil {W : World} {q : Nat} (h : BSR W q) (b : UInt8) (hb : spcB b = false) : W.cell? ⟨q, b.toNat, none⟩ = some nilV := by
  obtain ⟨cs, a, c, cur, h1, h2, _⟩ := h
  simp [spcB] at hb
  exact (blk_cell h1 _).trans (h2 _ (UInt8.toNat_lt _) hb.2 hb.1)
/-- What an escaped byte becomes. -/
def escB (b : UInt8) : ByteArray := ⟨#[92, b]⟩
theorem BSR.cell_esc {W : World} {q : Nat} (h : BSR W q) (b : UInt8) (hb : spcB b = true) : ∃ a c, W.cell? ⟨q, b.toNat, none⟩ = some (.slice (some ⟨a, 0, none⟩) 2 c) ∧ W.cell? ⟨a, 0, none⟩ = some (.int .u8 92) ∧ W.cell? ⟨a, 1, none⟩ = some (.int .u8 b.toNat) ∧ a < W.heap.size := by
  obtain ⟨cs, a, c, cur, h1, h2, ⟨v9, h3, b9⟩, ⟨v3, h4, b3⟩, h5, h6, h7, h8⟩ := h
  simp [spcB] at hb
  rcases hb with hb | hb
  · obtain ⟨x, y, rfl, k1, k2⟩ := b3.cell
    refine ⟨x, y, ?_, k2 0 (by decide), ?_, k1⟩
    · rw [hb]; exact (blk_cell h1 _).trans h4
    · rw [hb]; exact k2 1 (by decide)
  · obtain ⟨x, y, rfl, k1, k2⟩ := b9.cell
    refine ⟨x, y, ?_, k2 0 (by decide), ?_, k1⟩
    · rw [hb]; exact (blk_cell h1 _).trans h3
    · rw [hb]; exact k2 1 (by decide)
theorem BSR.cell_last {W : World} {q : Nat} (h : BSR W q) : ∃ a c, W.cell? ⟨q, 256, none⟩ = some (.slice (some ⟨a, 0, none⟩) 2 c) ∧ W.cell? ⟨a, 0, none⟩ = some (.string tB) ∧ W.cell? ⟨a, 1, none⟩ = some (.string tQ) := by
  obtain ⟨cs, a, c, cur, h1, h2, _, _, h5, h6, h7, h8⟩ := h
  exact ⟨a, c, (blk_cell h1 _).trans h5, (blk_cell h6 0).trans h7, (blk_cell h6 1).trans h8⟩

set_option maxRecDepth 100000 in
theorem buildOnce_any (g h c : Nat) (w : World) (hR : Rep w g 0 1 .nilIface (.slice (some ⟨h, 0, none⟩) 4 c)) (hS : Str4 w h) :
    Calls Tryz.prog 86 #[.pointer (some ⟨g, 0, none⟩)] w fun e w' => e = .returned (.tuple #[]) ∧ ∃ q, Rep w' g 0 1 (.iface 176 (.pointer (some ⟨q, 0, none⟩))) nilV ∧ BSR w' q ∧ w.grownBy w' (some g) := by
  go_enter Tryz.func86, Tryz.ntmps86
  go_wp2_with fail
  refine (build_any g h c w hR hS).mono ?_
  rintro e w1 ⟨q, cs, v, rfl, hB⟩
  have hR1 : Rep w1 g 0 1 .nilIface (.slice (some ⟨h, 0, none⟩) 4 c) := blk_below hR hB.bel
  have d3 := hR1.c3
  have f3 := hR1.fz 3
  have d4 := hR1.c4
  have f4 := hR1.fz 4
  go_wp2
  go_end0
  exact ⟨rfl, q, (hR1.set3 _).set4 _, (hB.done.setFar hR1 3 _).setFar (hR1.set3 _) 4 _, gb_set (p := ⟨g, 4, none⟩) (gb_set (p := ⟨g, 3, none⟩) (gb_below hB.bel (some g)) (.inl rfl) _) (.inl rfl) _⟩

theorem do_any (g h c : Nat) (w : World) (hR : Rep w g 0 0 .nilIface (.slice (some ⟨h, 0, none⟩) 4 c)) (hS : Str4 w h) :
    Calls Tryz.prog 85 #[.pointer (some ⟨g, 0, none⟩), .func (.func 86) #[.pointer (some ⟨g, 0, none⟩)] #[]] w fun e w' =>
      e = .returned (.tuple #[]) ∧ ∃ q, Rep w' g 1 0 (.iface 176 (.pointer (some ⟨q, 0, none⟩))) nilV ∧ BSR w' q ∧ w.grownBy w' (some g) := by
  have hl := run_call_load (P := Tryz.prog) Tryz.func109 (by kernel_rfl) (by kernel_rfl) (by kernel_rfl) .u32 (by kernel_rfl) hR.c0
  have hnot : ∀ (x : Bool) (w : World), (Op.unary .not (.bool x)).run Tryz.prog w = .ok (.bool (!x)) w := fun _ _ => rfl
  have hS1 : Str4 (w.setCell ⟨g, 1, none⟩ (.int .i32 1)) h := by
    obtain ⟨cu, hh, ht⟩ := hS
    exact ⟨cu, blk_far hh (by simp only; exact (blk_ne hh hR (by decide))) _, ht⟩
  have hs := slow_any g .nilIface (.slice (some ⟨h, 0, none⟩) 4 c) w hR (fun w1 => ∃ q, Rep w1 g 0 1 (.iface 176 (.pointer (some ⟨q, 0, none⟩))) nilV ∧ BSR w1 q ∧ w.grownBy w1 (some g)) (fun W hW => by
    subst hW
    refine (buildOnce_any g h c _ (hR.set1 1) hS1).mono ?_
    rintro e w' ⟨rfl, q, h1, h2, h3⟩
    exact ⟨rfl, _, h1, q, h1, h2, gb_trans (gb_set (p := ⟨g, 1, none⟩) (World.grownBy.refl w (some g)) (.inl rfl) _) h3 (.inl rfl)⟩)
  go_enter Tryz.func85, Tryz.ntmps85
  go_wp2_with (first | (go_at_call 100; refine hs.mono ?_; rintro e w' ⟨rfl, w1, ⟨q, h1, h2, h3⟩, rfl, r', h4⟩) | (go_at_call 99; go_in))
  go_end0
  have k1 : Rep w1.drew g 0 1 (.iface 176 (.pointer (some ⟨q, 0, none⟩))) nilV := h1
  have b1 : BSR w1.drew q := h2
  exact ⟨rfl, q, (k1.set0 1).set1 0, (b1.setFar k1 0 _).setFar (k1.set0 1) 1 _, gb_set (p := ⟨g, 1, none⟩) (gb_set (p := ⟨g, 0, none⟩) (gb_drewN h3 1) (.inl rfl) _) (.inl rfl) _⟩

end Go.Proofs.YtafomaiaobfkfaaGreatDoor.Lx
namespace Go.Proofs.YtafomaiaobfkfaaGreatDoor.Lx
open Go.RowKit Go.Proofs.YtafomaiaobfkfaaGreatDoorW.PrintWords
set_option linter.unusedVariables false
set_option linter.unusedSimpArgs false

/-- The number of bytes that are found of the first k of the two. -/
def cK (s : ByteArray) : Nat → Nat
  | 0 => 0
  | 1 => Lib.countByte s.data.toList 92
  | _ => Lib.countByte s.data.toList 92 + Lib.countByte s.data.toList 34

theorem wr1 (i : Nat) (h : i + 1 ≤ 140737488355328) : wrap64 ((i : Int) + 1) = ((i + 1 : Nat) : Int) := by
  unfold wrap64
  omega
theorem wr2' (a b : Nat) (h : a + b ≤ 140737488355328) : wrap64 ((a : Int) + (b : Int) + 1) = (a : Int) + ((b + 1 : Nat) : Int) := by
  unfold wrap64
  omega
theorem esc_take (s : ByteArray) (i : Nat) (h : i < s.size) : escL (s.data.toList.take (i + 1)) = escL (s.data.toList.take i) ++ (if spcB s[i] then [92, s[i]] else [s[i]]) := by
  rw [take_one s i h, escL_app]
  simp only [escL]
theorem esc_take_le (s : ByteArray) (i : Nat) : (escL (s.data.toList.take i)).length ≤ (escL s.data.toList).length := by
  conv => rhs; rw [← List.take_append_drop i s.data.toList, escL_app]
  simp
abbrev u8V (x : UInt8) : Value := .int .u8 x.toNat
/-- The buffer at block b: what is written, then zeros. -/
def BB (W : World) (b : Nat) (X : L) (N : Nat) : Prop := W.heap[b]? = some (.cells (X.map u8V ++ List.replicate (N - X.length) (Value.int .u8 0)).toArray 5 (0, 0))
theorem BB.cell {W : World} {b N : Nat} {X : L} (h : BB W b X N) (hl : X.length < N) : W.cell? ⟨b, X.length, none⟩ = some (.int .u8 0) := by
  rw [blk_cell h]
  simp [Nat.sub_pos_of_lt hl]
theorem BB.fresh (W : World) (N : Nat) : BB (W.alloc (.cells (madeCells #[Value.int .u8 0] N) 5)) W.heap.size [] N := by
  unfold BB
  rw [heap_alloc_new]
  congr 2
  apply Array.ext_getElem?
  intro i
  by_cases hi : i < N
  · simp [madeCells, hi, Nat.mod_one]
  · simp [madeCells, hi]
theorem BB.fz {W : World} {b N : Nat} {X : L} (h : BB W b X N) (i : Nat) : W.frozen? ⟨b, i, none⟩ = false := blk_frozen h i
theorem BB.set_ {W : World} {b N : Nat} {X : L} (h : BB W b X N) (hl : X.length < N) (x : UInt8) : BB (W.setCell ⟨b, X.length, none⟩ (u8V x)) b (X ++ [x]) N := by
  have := blk_set h X.length (u8V x)
  unfold BB
  rw [this]
  congr 3
  obtain ⟨m, hm⟩ : ∃ m, N - X.length = m + 1 := ⟨N - X.length - 1, by omega⟩
  rw [hm, show N - (X ++ [x]).length = m from by simp; omega]
  apply Array.ext'
  simp [List.set_append, List.replicate_succ]
theorem BB.splice_ {W : World} {b N : Nat} {X Y : L} (hl : X.length + Y.length ≤ N) (h : W.heap[b]? = some (.cells (splice (X.map u8V ++ List.replicate (N - X.length) (Value.int .u8 0)) X.length (Y.map u8V)).toArray 5 (0, 0))) : BB W b (X ++ Y) N := by
  unfold BB
  rw [h]
  congr 3
  unfold splice
  have e : N - (X ++ Y).length = N - X.length - Y.length := by simp; omega
  rw [e]
  simp [List.take_append, List.drop_append]
theorem wr4 (a b : Nat) (h : a + b ≤ 140737488355328) : wrap64 ((a : Int) + (b : Int)) = ((a + b : Nat) : Int) := by
  unfold wrap64
  omega
theorem addr0 (b j : Nat) : (⟨b, 0, none⟩ : Addr).add j = ⟨b, j, none⟩ := by unfold Addr.add; split <;> simp_all
theorem wr2 (a b : Nat) (h : a + b ≤ 140737488355328) : wrap64 ((a : Int) + wrap64 (b : Int)) = (a : Int) + (b : Int) := by
  unfold wrap64
  omega
theorem wr3 (a b c : Nat) (h : a + b + c ≤ 140737488355328) : wrap64 ((a : Int) + (b : Int) + wrap64 (c : Int)) = (a : Int) + ((b + c : Nat) : Int) := by
  unfold wrap64
  omega
/-- The same world, but for draws. -/
def Sm (w W : World) : Prop := ∃ n, W = w.drewN n
theorem Sm.refl (w : World) : Sm w w := ⟨0, rfl⟩
theorem Sm.drew {w W : World} (h : Sm w W) : Sm w W.drew := by obtain ⟨n, rfl⟩ := h; exact ⟨n + 1, rfl⟩
theorem Sm.drewN {w W : World} (h : Sm w W) (m : Nat) : Sm w (W.drewN m) := by
  obtain ⟨n, rfl⟩ := h
  exact ⟨n + m, by simp [World.drewN, Nat.add_assoc]⟩
theorem Sm.cell {w W : World} (h : Sm w W) {a : Addr} {v : Value} (hc : w.cell? a = some v) : W.cell? a = some v := by obtain ⟨n, rfl⟩ := h; exact hc
theorem Sm.bsr {w W : World} (h : Sm w W) {q : Nat} (hc : BSR w q) : BSR W q := by obtain ⟨n, rfl⟩ := h; exact hc
theorem Sm.bel {w W : World} (h : Sm w W) : Below w.heap.size w W := by obtain ⟨n, rfl⟩ := h; exact ⟨rfl, rfl, rfl, Nat.le_refl _, fun _ _ => rfl⟩

set_option maxHeartbeats 3200000 in
set_option maxRecDepth 100000 in
theorem repl_any (q : Nat) (s : ByteArray) (w : World) (hB : BSR w q) (hs : s.size ≤ 70368744177664) :
    Calls Tryz.prog 179 #[.pointer (some ⟨q, 0, none⟩), .string s] w fun e w' => e = .returned (.string ⟨(escL s.data.toList).toArray⟩) ∧ Below w.heap.size w w' := by
  obtain ⟨at_, ct, l6, l0, l1⟩ := hB.cell_last
  have hcl := cE_le s.data.toList
  have hcc := cE_count s.data.toList
  obtain ⟨C, hC⟩ : ∃ C, C = cE s.data.toList := ⟨_, rfl⟩
  obtain ⟨N, hN⟩ : ∃ N, N = (escL s.data.toList).length := ⟨_, rfl⟩
  have hNC : N = s.size + C := by rw [hN, hC, escL_len]; simp
  rw [← hC] at hcl hcc
  have HC := Lib.hid hC; have HN := Lib.hid hN; have HNC := Lib.hid hNC
  clear hC hN hNC
  go_enter Tryz.func179, Tryz.ntmps179
  go_upto_if 26 with (fail)
  go_cut [5, 6] (fun v5 v6 wc => v5 = .int .i64 (N : Int) ∧ v6 = .bool (decide (0 < C)) ∧ Sm w wc)
  case first =>
    by_cases h16 : 16 ≤ s.size
    · have hd : decide ((16 : Int) ≤ (s.size : Int)) = true := decide_eq_true (by omega)
      simp only [hd]
      clear hd h16
      obtain ⟨N9, hN9⟩ : ∃ N, N = Lib.countByte s.data.toList 92 := ⟨_, rfl⟩
      obtain ⟨N3, hN3⟩ : ∃ N, N = Lib.countByte s.data.toList 34 := ⟨_, rfl⟩
      obtain ⟨a9, c9, x9, x91, x92, _⟩ := hB.cell_esc 92 rfl
      obtain ⟨a3, c3, x3, x31, x32, _⟩ := hB.cell_esc 34 rfl
      have k9 : w.cell? ⟨q, 92, none⟩ = some (.slice (some ⟨a9, 0, none⟩) 2 c9) := x9
      have k3 : w.cell? ⟨q, 34, none⟩ = some (.slice (some ⟨a3, 0, none⟩) 2 c3) := x3
      clear x9 x3 x91 x92 x31 x32
      have K9 := Tryz.strings_Count_one s 92
      have K3 := Tryz.strings_Count_one s 34
      rw [← hN9] at K9
      rw [← hN3] at K3
      have HK9 := Lib.hid K9; have HK3 := Lib.hid K3
      rw [← hN9, ← hN3] at hcc
      have HCC := Lib.hid hcc
      have hb9 : s.size + N9 + N3 ≤ 140737488355328 := by
        have h9 : N9 + N3 ≤ s.size := by rw [← hcc]; simpa using hcl
        omega
      have HB9 := Lib.hid hb9
      clear hb9
      clear K9 K3 hN9 hN3 hcc hcl
      go_wp2
      go_loopg [5, 6, 32] 2 (fun gk v5 v6 v32 wr => ∃ (k m : Nat), k ≤ 2 ∧ v32 = .int .i64 (k : Int) ∧ gk = 2 - k ∧ m = (if k = 0 then 0 else if k = 1 then N9 else N9 + N3) ∧ v5 = .int .i64 ((s.size : Int) + (m : Int)) ∧ v6 = .bool (decide (0 < m)) ∧ Sm w wr)
      case atStart => exact ⟨0, 0, by omega, rfl, rfl, rfl, by simp, rfl, Sm.refl w⟩
      case round =>
        obtain ⟨k, m, hk, rfl, rfl, hm, rfl, rfl, hsm⟩ := hrel
        have m6 := hsm.cell l6
        have m0 := hsm.cell l0
        have m1 := hsm.cell l1
        have n9 := hsm.cell k9
        have n3 := hsm.cell k3
        clear l6 l0 l1 k9 k3
        match k, hk, hm with
        | 0, _, hm =>
          obtain rfl : m = 0 := hm
          clear hm
          by_cases hc : N9 = 0
          · subst hc
            go_wp2_with (go_at_call 31; refine (HK9.out _).mono ?_; rintro e w' ⟨rfl, rfl⟩)
            go_roundg 1
            case rel => exact ⟨1, 0, by omega, rfl, rfl, rfl, by simp, rfl, hsm⟩
            case measure => omega
          · have hcb : ((N9 : Int) != 0) = true := bne_iff_ne.2 (by omega)
            go_wp2_with (go_at_call 31; refine (HK9.out _).mono ?_; rintro e w' ⟨rfl, rfl⟩)
            have eB : ∀ h : 0 < tB.size, (tB[0]'h).toNat = 92 := fun _ => rfl
            go_quiet (fail)
            go_wp2
            go_roundg 1
            case rel => exact ⟨1, N9, by omega, rfl, rfl, rfl, congrArg (Value.int .i64) (wr2 _ _ (Nat.le_trans (Nat.le_add_right _ _) HB9.out)), congrArg Value.bool (decide_eq_true (Nat.pos_of_ne_zero hc)).symm, hsm.drewN _⟩
            case measure => omega
        | 1, _, hm =>
          obtain rfl : m = N9 := hm
          clear hm
          by_cases hc : N3 = 0
          · subst hc
            go_wp2_with (go_at_call 31; refine (HK3.out _).mono ?_; rintro e w' ⟨rfl, rfl⟩)
            go_roundg 0
            case rel => exact ⟨2, m, by omega, rfl, rfl, by simp, by simp, rfl, hsm⟩
            case measure => omega
          · have hcb : ((N3 : Int) != 0) = true := bne_iff_ne.2 (by omega)
            go_wp2_with (go_at_call 31; refine (HK3.out _).mono ?_; rintro e w' ⟨rfl, rfl⟩)
            have eQ : ∀ h : 0 < tQ.size, (tQ[0]'h).toNat = 34 := fun _ => rfl
            go_quiet (fail)
            go_wp2
            go_roundg 0
            case rel => exact ⟨2, m + N3, by omega, rfl, rfl, rfl, congrArg (Value.int .i64) (wr3 _ _ _ HB9.out), congrArg Value.bool (decide_eq_true (Nat.lt_of_lt_of_le (Nat.pos_of_ne_zero hc) (Nat.le_add_left _ _))).symm, hsm.drewN _⟩
            case measure => omega
        | 2, _, hm =>
          obtain rfl : m = N9 + N3 := hm
          clear hm
          go_wp2
          go_meet
          exact ⟨congrArg (Value.int .i64) (by rw [HNC.out, HCC.out]; push_cast; omega), by rw [HCC.out], hsm⟩
    · have hd : decide ((16 : Int) ≤ (s.size : Int)) = false := decide_eq_false (by omega)
      simp only [hd]
      clear hd h16 l6 l0 l1 hcc hcl
      have HSZ := Lib.hid hs
      clear hs
      go_wp2
      go_loopg [5, 6, 10] s.size (fun gk v5 v6 v10 wr => ∃ (i m : Nat), i ≤ s.size ∧ v10 = .int .i64 (i : Int) ∧ gk = s.size - i ∧ m ≤ i ∧ Hid (m = cE (s.data.toList.take i)) ∧ v5 = .int .i64 ((s.size : Int) + (m : Int)) ∧ v6 = .bool (decide (0 < m)) ∧ Sm w wr)
      case atStart => exact ⟨0, 0, Nat.zero_le _, rfl, rfl, Nat.le_refl _, rfl, by simp, rfl, Sm.refl w⟩
      case round =>
        obtain ⟨i, m, hi, rfl, rfl, hmi, hm, rfl, rfl, hsm⟩ := hrel
        have HI := Lib.hid hi
        clear hi
        by_cases hlt : i < s.size
        · have hlt' : (i : Int) < (s.size : Int) := by omega
          have hB' := hsm.bsr hB
          have h256 : (s[i].toNat : Int) < 256 := by have := UInt8.toNat_lt s[i]; omega
          have h0 : (0 : Int) ≤ (s[i].toNat : Int) := by omega
          by_cases hsp : spcB s[i] = true
          · obtain ⟨ae, ce, x1, x2, x3, x4⟩ := hB'.cell_esc s[i] hsp
            clear x2 x3 x4
            have HSP := Lib.hid hsp
            clear hsp hB'
            go_wp2
            go_roundg (s.size - (i + 1))
            case rel =>
              refine ⟨i + 1, m + 1, hlt, congrArg (Value.int .i64) (wr1 _ (by have := HSZ.out; omega)), rfl, by omega, ?_, congrArg (Value.int .i64) (wr2' _ _ (by have := HSZ.out; omega)), rfl, hsm⟩
              show m + 1 = _
              rw [cE_one s i hlt, if_pos HSP.out, ← hm.out]
            case measure => omega
          · have hsp' : spcB s[i] = false := by simpa using hsp
            have x1 := hB'.cell_nil s[i] hsp'
            have HSP := Lib.hid hsp
            clear hsp hsp' hB'
            go_wp2
            go_roundg (s.size - (i + 1))
            case rel =>
              refine ⟨i + 1, m, hlt, congrArg (Value.int .i64) (wr1 _ (by have := HSZ.out; omega)), rfl, by omega, ?_, rfl, rfl, hsm⟩
              show m = _
              rw [cE_one s i hlt, if_neg HSP.out, ← hm.out]
              rfl
            case measure => omega
        · have hlt' : ¬ (i : Int) < (s.size : Int) := by omega
          have hi' : i = s.size := by have := HI.out; omega
          have hm' : m = C := by rw [hm.out, HC.out, hi', List.take_of_length_le (by simp)]
          subst hm'
          go_wp2
          go_meet
          exact ⟨congrArg (Value.int .i64) (by rw [HNC.out]; push_cast; omega), rfl, hsm⟩
  case rest =>
    obtain ⟨rfl, rfl, hsm⟩ := hcut
    by_cases hc0 : C = 0
    · have hd : decide (0 < C) = false := decide_eq_false (by omega)
      simp only [hd]
      go_wp2
      go_ret
      refine ⟨?_, hsm.bel⟩
      rw [escL_id _ (by rw [← HC.out]; exact hc0), mk_data]
      rfl
    · have hd : decide (0 < C) = true := decide_eq_true (by omega)
      simp only [hd]
      clear hd hcc hcl l6 l0 l1
      have HSZ := Lib.hid hs
      have hb := hsm.bsr hB
      have hNs : N ≤ 140737488355328 := by have := HNC.out; have := cE_le s.data.toList; rw [← HC.out] at this; simp at this; omega
      have HNS := Lib.hid hNs
      have HC0 := Lib.hid hc0
      clear hs hNs hc0 hB
      obtain ⟨i5, hi5, hz5, hsz5, hby5⟩ := info_parts infoB
      have hmk : ∀ W : World, (Instr.makeSlice 47 (.int .i64 (N : Int)) (.int .i64 (N : Int))).run Tryz.prog W = .ok (.slice (some ⟨W.heap.size, 0, none⟩) N N) (W.alloc (.cells (madeCells (Value.int .u8 0).cells (N * 1)) 5)) := fun W => by
        have := run_make (P := Tryz.prog) W 47 5 i5 (.int .u8 0) Tryz.underlying47 hi5 hz5 .i64 .i64 N N (by omega) (Int.le_refl _) (by rw [hby5]; have := HNS.out; omega) (by have := HNS.out; omega)
        rw [this, hsz5]
        simp
      clear hi5 hz5 hsz5 hby5
      go_wp2
      clear hmk
      go_loopg [13, 14] s.size (fun gk v13 v14 wr => ∃ (i : Nat) (X : L), i ≤ s.size ∧ v14 = .int .i64 (i : Int) ∧ gk = s.size - i ∧ v13 = .int .i64 (X.length : Int) ∧ Hid (X = escL (s.data.toList.take i)) ∧ BB wr wc.heap.size X N ∧ Below wc.heap.size wc wr)
      case atStart => exact ⟨0, [], Nat.zero_le _, rfl, rfl, rfl, rfl, BB.fresh wc N, below_of_gb (gb_alloc (World.grownBy.refl wc none) _) (by simp)⟩
      case round =>
        obtain ⟨i, X, hi, rfl, rfl, rfl, hX, hBB, hbel⟩ := hrel
        have hbr := hb.below hbel
        have HI := Lib.hid hi
        have hXN : X.length ≤ N := by rw [hX.out, HN.out]; exact esc_take_le s i
        have hge : w.heap.size ≤ wc.heap.size := hsm.bel.size
        clear hi
        by_cases hlt : i < s.size
        · have hlt' : (i : Int) < (s.size : Int) := by omega
          have h256 : (s[i].toNat : Int) < 256 := by have := UInt8.toNat_lt s[i]; omega
          have h0 : (0 : Int) ≤ (s[i].toNat : Int) := by omega
          have hnext : (escL (s.data.toList.take (i + 1))).length ≤ N := by rw [HN.out]; exact esc_take_le s (i + 1)
          have hstep := esc_take s i hlt
          rw [← hX.out] at hstep
          by_cases hsp : spcB s[i] = true
          · rw [if_pos hsp] at hstep
            obtain ⟨ae, ce, x1, x2, x3, x4⟩ := hbr.cell_esc s[i] hsp
            have hl2 : X.length + 2 ≤ N := by rw [hstep] at hnext; simpa using hnext
            have HST := Lib.hid hstep
            clear hsp hstep hnext
            have hj0 : ¬ X.length = N := by omega
            have hj0' : ¬ N = X.length := by omega
            have hj1 : (X.length : Int) ≤ (N : Int) := by omega
            go_wp2_with fail
            obtain ⟨Y, hY⟩ : ∃ Y, Y = (([92, s[i]] : L).map u8V) := ⟨_, rfl⟩
            have hn0 : Y.length = Nat.min 2 (N - X.length) := by rw [hY]; exact (Nat.min_eq_left (show 2 ≤ N - X.length by omega)).symm
            have hsrc : ∀ (j : Nat) (v : Value), Y[j]? = some v → wr.cell? ((⟨ae, 0, none⟩ : Addr).add j) = some v := by
              intro j v hj
              rw [addr0]
              rw [hY] at hj
              match j, hj with
              | 0, hj => simp at hj; subst hj; exact x2
              | 1, hj => simp at hj; subst hj; exact x3
              | j + 2, hj => simp at hj
            have hfit0 : X.length + Y.length ≤ (X.map u8V ++ List.replicate (N - X.length) (Value.int .u8 0)).length := by rw [hY]; simp; omega
            have h10 : ∀ v ∈ Y, v.oneCell' = true := by
              rw [hY]
              intro v hv
              simp at hv
              rcases hv with rfl | rfl <;> rfl
            have hyl : Y.length = 2 := by rw [hY]; rfl
            have HY := Lib.hid hY; have HN0 := Lib.hid hn0; have HSRC := Lib.hid hsrc; have HFIT := Lib.hid hfit0; have H10 := Lib.hid h10; have HYL := Lib.hid hyl
            clear hY hn0 hsrc hfit0 h10 hyl x2 x3
            go_region_law (refine step_copy_splice rfl (.tmp 105) (.tmp 111) 47 47 rfl 5 Tryz.underlying47 (by kernel_rfl) (some ⟨wc.heap.size, X.length, none⟩) (some ⟨ae, 0, none⟩) (N - X.length) (N - X.length) 2 ce (by simp [Act.eval, Act.put, hj0, hj0']) (by simp [Act.eval, Act.put]) wc.heap.size X.length (X.map u8V ++ List.replicate (N - X.length) (Value.int .u8 0)) 5 hBB Y HN0.out (fun _ => ⟨rfl, _, rfl, HSRC.out⟩) HFIT.out H10.out wc.heap.size wc (by first | exact hbel | exact hbel.drew | exact hbel.drew.drew) (Nat.le_refl _) ?_; intro w4 hg4 hb4)
            all_goals (
              go_wp2
              go_roundg (s.size - (i + 1))
              case rel =>
                have hBB2 : BB w4 wc.heap.size (X ++ [92, s[i]]) N := BB.splice_ (by simpa using hl2) (by rw [← HY.out]; exact hg4.out)
                refine ⟨i + 1, X ++ [92, s[i]], hlt, congrArg (Value.int .i64) (wr1 _ (by have := HSZ.out; omega)), rfl, ?_, HST.out.symm, hBB2, hb4⟩
                rw [HYL.out]
                exact congrArg (Value.int .i64) ((wr4 _ _ (Nat.le_trans hl2 HNS.out)).trans (by simp))
              case measure => omega)
          · have hsp' : spcB s[i] = false := by simpa using hsp
            rw [if_neg hsp] at hstep
            have x1 := hbr.cell_nil s[i] hsp'
            have hl1 : X.length < N := by rw [hstep] at hnext; simp at hnext; omega
            have hl1' : (X.length : Int) < (N : Int) := by omega
            have k0 := hBB.cell hl1
            have f0 := hBB.fz X.length
            have HST := Lib.hid hstep
            clear hsp hsp' hstep hnext
            go_wp2
            go_roundg (s.size - (i + 1))
            case rel =>
              refine ⟨i + 1, X ++ [s[i]], hlt, congrArg (Value.int .i64) (wr1 _ (by have := HSZ.out; omega)), rfl, ?_, HST.out.symm, hBB.set_ hl1 s[i], ?_⟩
              · rw [wr1 _ (by have := HNS.out; omega)]; simp
              · exact below_of_gb (gb_set (p := ⟨wc.heap.size, X.length, none⟩) (gb_below hbel none) (.inr (Nat.le_refl _)) _) (by simp)
            case measure => omega
        · have hlt' : ¬ (i : Int) < (s.size : Int) := by omega
          have hi' : i = s.size := by have := HI.out; omega
          have hXe : X = escL s.data.toList := by rw [hX.out, hi', List.take_of_length_le (by simp)]
          have hNX : N = X.length := by rw [HN.out, hXe]
          have hcv : (convert 47 9 (.slice (some ⟨wc.heap.size, 0, none⟩) N N)).run Tryz.prog wr = .ok (.string ⟨X.toArray⟩) wr := by
            have := run_convert_bytes_back wr 47 9 5 ⟨wc.heap.size, 0, none⟩ N X Tryz.underlying47 Tryz.underlying5 Tryz.underlying9 (fun j hj => by
              rw [addr0, blk_cell hBB]
              simp [List.getElem?_append, hj])
            rw [← hNX] at this
            exact this
          have HXE := Lib.hid hXe
          have hfin : Below w.heap.size w wr := hsm.bel.trans (hbel.mono (by exact hge))
          clear hXe hNX hi'
          go_wp2
          go_ret
          exact ⟨by rw [← HXE.out]; rfl, hfin⟩
end Go.Proofs.YtafomaiaobfkfaaGreatDoor.Lx
namespace Go.Proofs.YtafomaiaobfkfaaGreatDoor.Lx
open Go.RowKit Go.Proofs.YtafomaiaobfkfaaGreatDoorW.PrintWords
set_option linter.unusedVariables false
set_option linter.unusedSimpArgs false

set_option maxRecDepth 100000 in
set_option maxHeartbeats 3200000 in
theorem replace_any (g h c : Nat) (s : ByteArray) (w : World) (hR : Rep w g 0 0 .nilIface (.slice (some ⟨h, 0, none⟩) 4 c)) (hS : Str4 w h) (hs : s.size ≤ 70368744177664) :
    Calls Tryz.prog 68 #[.pointer (some ⟨g, 0, none⟩), .string s] w fun e w' => e = .returned (.string ⟨(escL s.data.toList).toArray⟩) ∧ w.grownBy w' (some g) := by
  have hmf : ∀ (fn : Fn) (first cap : Array Value) (w : World), (Instr.makeFunc fn first cap).run Tryz.prog w = .ok (.func fn first cap) w := fun _ _ _ _ => rfl
  go_enter Tryz.func68, Tryz.ntmps68
  go_wp2_with (go_at_call 85; refine (do_any g h c _ hR hS).mono ?_; rintro e w1 ⟨rfl, q, hR1, hB1, hg1⟩; have d3 := hR1.c3)
  refine (repl_any q s _ hB1 hs).mono ?_
  rintro e w2 ⟨rfl, hb2⟩
  go_wp2
  go_ret
  exact ⟨rfl, gb_then hg1 hb2⟩

theorem str4_of (w : World) (o : Obj) : Str4 (((w.alloc o).alloc (.cells pairs4.toArray 9)).drew) (w.heap.size + 1) := by
  have := heap_alloc_new (w.alloc o) (.cells pairs4.toArray 9)
  have h2 : ((w.alloc o).alloc (.cells pairs4.toArray 9)).heap[w.heap.size + 1]? = some (.cells pairs4.toArray 9) := by simpa using this
  exact ⟨pairs4.toArray, h2, rfl⟩
theorem wrap_str (x y z : ByteArray) (hs : y.size ≤ 140737488355328) (hx : x.size = 1) (hz : z.size = 1) : (∀ W : World, (Op.stringOp .add x y).run Tryz.prog W = .ok (.string (x ++ y)) W) ∧ ∀ W : World, (Op.stringOp .add (x ++ y) z).run Tryz.prog W = .ok (.string (x ++ y ++ z)) W :=
  ⟨fun W => run_string_add_sum W x y (by omega), fun W => run_string_add_sum W (x ++ y) z (by rw [ByteArray.size_append]; omega)⟩
set_option maxRecDepth 100000 in
set_option maxHeartbeats 3200000 in
theorem write_text (at_ : Int) (s : ByteArray) (w : World) (hs : s.size ≤ 70368744177664) :
    Calls Tryz.prog 38 #[.agg #[.int .i64 4, .int .i64 at_, .string s]] w fun e w' => e = .returned (.string ((⟨#[34]⟩ : ByteArray) ++ ⟨(escL s.data.toList).toArray⟩ ++ ⟨#[34]⟩)) ∧ Below w.heap.size w w' := by
  obtain ⟨E, hE⟩ : ∃ E : ByteArray, E = ⟨(escL s.data.toList).toArray⟩ := ⟨_, rfl⟩
  have hEs : E.size ≤ 140737488355328 := by
    have h1 := escL_len s.data.toList
    have h2 := cE_le s.data.toList
    have h3 : E.size = (escL s.data.toList).length := by rw [hE]; exact List.size_toArray
    have h4 : s.data.toList.length = s.size := by simp
    omega
  have hrep := fun g h c W (hR : Rep W g 0 0 .nilIface (.slice (some ⟨h, 0, none⟩) 4 c)) (hS : Str4 W h) => replace_any g h c s W hR hS hs
  rw [← hE] at hrep ⊢
  have HREP := Lib.hid hrep
  obtain ⟨ha1, ha2⟩ := wrap_str ⟨#[34]⟩ E ⟨#[34]⟩ hEs rfl rfl
  have hcat1 : (1 : Int) + (E.size : Int) ≤ 9223372036854775807 := by omega
  have hcat2 : (1 : Int) + (E.size : Int) + 1 ≤ 9223372036854775807 := by omega
  clear hE hEs hrep hs
  go_enter Tryz.func38, Tryz.ntmps38
  go_wp2
  go_region_with (first | (go_at_call 67; refine (newRep_any _ _ ?hS).mono ?_; (case hS => exact str4_of _ _); rintro e w1 ⟨g, h, c, rfl, hR, hc, hS, hb, hg⟩; have hbx : w1.heap[w.heap.size]? = some (.cells #[.int .i64 4, .int .i64 at_, .string s] 44 (0, 0)) := (by first | exact blk_below (blk_drew (blk_alloc (heap_alloc_new w _) _)) hb | exact blk_below (blk_alloc (blk_drew (heap_alloc_new w _)) _) hb | exact blk_below (blk_alloc (heap_alloc_new w _) _) hb); have hk := (blk_cell hbx 2).trans rfl) | (go_at_call 68; refine (HREP.out _ _ _ _ hR hS).mono ?_; rintro e w2 ⟨rfl, hg2⟩))
  all_goals (
    have hb0 : w.grownBy w1 none := gb_then (gb_drewN (gb_alloc (gb_alloc (World.grownBy.refl w none) _) _) 1) hb
    have hge : w.heap.size ≤ g := Nat.le_trans (by simp; omega) hg
    go_wp2
    go_ret
    exact ⟨rfl, below_of_gb (gb_trans (gb_below (below_of_gb hb0 (by simp)) (some g)) hg2 (.inl rfl)) (fun x hx => by injection hx with hx; omega)⟩)
end Go.Proofs.YtafomaiaobfkfaaGreatDoor.Lx
