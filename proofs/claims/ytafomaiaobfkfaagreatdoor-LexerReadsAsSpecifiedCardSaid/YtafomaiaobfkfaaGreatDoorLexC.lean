/-
  (*reader).space and (*reader).name of the lexer, walked. Conditions: each theorem's own.
-/
import Derived.Test.YtafomaiaobfkfaaGreatDoorLexB
namespace Go.Proofs.YtafomaiaobfkfaaGreatDoor.Lx
open Go.RowKit Go.Proofs.YtafomaiaobfkfaaGreatDoorW.PrintWords
set_option linter.unusedVariables false
set_option linter.unusedSimpArgs false

/-! ### what skipping comes to -/
theorem skipB_drop : ∀ (l : L) (c : Bool), ∃ k, k ≤ l.length ∧ skipB c l = l.drop k
  | [], c => ⟨0, by simp, by cases c <;> rfl⟩
  | b :: r, false => by
    obtain ⟨k, hk, h⟩ := skipB_drop r false
    obtain ⟨k', hk', h'⟩ := skipB_drop r true
    unfold skipB
    split
    · exact ⟨k + 1, by simpa using hk, by simpa using h⟩
    · split
      · exact ⟨k' + 1, by simpa using hk', by simpa using h'⟩
      · exact ⟨0, by simp, rfl⟩
  | b :: r, true => by
    obtain ⟨k, hk, h⟩ := skipB_drop r false
    obtain ⟨k', hk', h'⟩ := skipB_drop r true
    unfold skipB
    split
    · exact ⟨k + 1, by simpa using hk, by simpa using h⟩
    · exact ⟨k' + 1, by simpa using hk', by simpa using h'⟩

/-- The offset behind space. -/
def skipAt (s : ByteArray) (i : Nat) : Nat := s.size - (skipB false (sl s i)).length
theorem skipAt_sl (s : ByteArray) (i : Nat) (h : i ≤ s.size) : sl s (skipAt s i) = skipB false (sl s i) ∧ i ≤ skipAt s i ∧ skipAt s i ≤ s.size := by
  obtain ⟨k, hk, e⟩ := skipB_drop (sl s i) false
  rw [sl_len] at hk
  rw [sl_drop] at e
  have : skipAt s i = i + k := by unfold skipAt; rw [e, sl_len]; omega
  rw [this, e]
  exact ⟨rfl, by omega, by omega⟩
theorem skipAt_of (s : ByteArray) (i j : Nat) (h : skipB false (sl s i) = sl s j) (hj : j ≤ s.size) : skipAt s i = j := by
  unfold skipAt
  rw [h, sl_len]
  omega
theorem skip_stop (s : ByteArray) (j : Nat) (hj : j ≤ s.size) (h1 : ∀ h : j < s.size, spB s[j] = false) (h2 : ∀ h : j < s.size, s[j].toNat ≠ 35) : skipB false (sl s j) = sl s j := by
  by_cases h : j < s.size
  · rw [sl_cons s j h]
    simp [skipB, h1 h, h2 h]
  · rw [sl_nil s j (by omega)]
    rfl
theorem skip_hash (s : ByteArray) (i : Nat) (h : i < s.size) (h35 : s[i].toNat = 35) : ∃ j, Whl (fun b => decide (b.toNat ≠ 10)) s i j ∧ i < j ∧ skipB false (sl s i) = skipB false (sl s j) := by
  obtain ⟨j, ⟨a, b, c, d⟩, e, _⟩ := skip_line s (i + 1) (by omega)
  refine ⟨j, ⟨by omega, b, fun k hk x y => ?_, d⟩, by omega, ?_⟩
  · by_cases hki : k = i
    · subst hki; simp [h35]
    · exact c k hk (by omega) y
  · rw [sl_cons s i h, ← e]
    simp [skipB, h35, spB]

theorem enters50 : Enters 50 := fun args W => by go_simp
theorem enters51 : Enters 51 := fun args W => by go_simp

set_option maxHeartbeats 800000 in
theorem space_any (g : Nat) (s : ByteArray) (i : Nat) (w : World) (hb : Rdr w g s i) (hi : i ≤ s.size) (hs : s.size ≤ 140737488351232) :
    Calls Tryz.prog 28 #[.pointer (some ⟨g, 0, none⟩)] w fun e w' =>
      e = .returned (.tuple #[]) ∧ Rdr w' g s (skipAt s i) ∧ w.grownBy w' (some g) := by
  go_enter Tryz.func28, Tryz.ntmps28
  go_wp2_with fail
  go_loopg [] (s.size - i) (fun gk wr => ∃ m : Nat, m ≤ s.size ∧ gk = s.size - m ∧ Hid (skipB false (sl s i) = skipB false (sl s m)) ∧ Rdr wr g s m ∧ w.grownBy wr (some g))
  case atStart => exact ⟨i, hi, rfl, rfl, hb, World.grownBy.refl w _⟩
  case round =>
    obtain ⟨m, h1, rfl, he, hr, hg⟩ := hrel
    obtain ⟨j, hw, hj⟩ := skip_sp s m h1
    have HJ := Lib.hid hj; clear hj
    have hjs := hw.2.1
    have hlen : (s.size : Int) ≤ 140737488351232 := by omega
    go_wp2_with (go_at_call 49; refine (while_any g _ spB s m j _ enters50 blank_any hr hw hs).mono ?_; rintro e w1 ⟨rfl, hr1, hg1⟩; have d0 := hr1.c0; have d1 := hr1.c1)
    by_cases hlt : j < s.size
    · have hd : ((j : Int) == (s.size : Int)) = false := by simp; omega
      go_quiet (fail)
      clear hd
      by_cases h35 : s[j].toNat = 35
      · obtain ⟨j2, hw2, hjj, hj2⟩ := skip_hash s j hlt h35
        have HJ2 := Lib.hid hj2; clear hj2
        have hb1 : (((s[j].toNat : Nat) : Int) != 35) = false := by simp [h35]
        simp only [hb1]
        clear hb1 h35
        have hj2s := hw2.2.1
        have hij := hw.1
        go_wp2_with (go_at_call 49; refine (while_any g _ (fun b => decide (b.toNat ≠ 10)) s j j2 _ enters51 notLine_any (by exact hr1) hw2 hs).mono ?_; rintro e w2 ⟨rfl, hr2, hg2⟩)
        go_roundg (s.size - j2)
        case rel => exact ⟨j2, hj2s, rfl, he.out.trans (HJ.out.trans HJ2.out), hr2, gb_trans (gb_drewN (gb_trans hg hg1 (.inl rfl)) _) hg2 (.inl rfl)⟩
        case measure => omega
      · have hb1 : (((s[j].toNat : Nat) : Int) != 35) = true := by simp; omega
        simp only [hb1]
        clear hb1
        have hfin : skipAt s i = j := skipAt_of s i j (he.out.trans (HJ.out.trans (skip_stop s j hjs hw.2.2.2 (fun _ => h35)))) hjs
        have HF := Lib.hid hfin; clear hfin
        go_wp2
        refine bodyPost_ret (results_none rfl _ _ _) rfl ?_
        rw [HF.out]
        exact ⟨rfl, hr1, gb_drewN (gb_trans hg hg1 (.inl rfl)) _⟩
    · have hd : ((j : Int) == (s.size : Int)) = true := by simp; omega
      have hfin : skipAt s i = j := skipAt_of s i j (he.out.trans (HJ.out.trans (skip_stop s j hjs hw.2.2.2 (fun h => absurd h hlt)))) hjs
      have HF := Lib.hid hfin; clear hfin
      go_quiet (fail)
      go_wp2
      refine bodyPost_ret (results_none rfl _ _ _) rfl ?_
      rw [HF.out]
      exact ⟨rfl, hr1, gb_drewN (gb_trans hg hg1 (.inl rfl)) _⟩

/-! ### (*reader).name -/
/-- What a reader's method comes to: a token and the reader behind it, or a panic with an error. -/
def ReadPost (w : World) (g : Nat) (s : ByteArray) (r : Res) (e : Ending) (w' : World) : Prop :=
  match r with
  | .bad n => e = .panicked [{ v := .iface 24 (.int .i64 n), recovered := false }] ∧ w.grownBy w' (some g)
  | .got k t rest => e = .returned (.agg #[.int .i64 k, .int .i64 0, .string ⟨t.toArray⟩]) ∧ Rdr w' g s (s.size - rest.length) ∧ w.grownBy w' (some g)

theorem enters72 : Enters 72 := fun args W => by go_simp

/-- The cells of a new Lexeme's block. -/
def Lxm (w : World) (b : Nat) (k o : Int) (s : ByteArray) : Prop := w.heap[b]? = some (.cells #[.int .i64 k, .int .i64 o, .string s] 44 (0, 0))
theorem Lxm.cell {w : World} {b : Nat} {k o : Int} {s : ByteArray} (h : Lxm w b k o s) : (w.cell? ⟨b, 0, none⟩ = some (.int .i64 k) ∧ w.cell? ⟨b, 1, none⟩ = some (.int .i64 o) ∧ w.cell? ⟨b, 2, none⟩ = some (.string s)) ∧
    (w.frozen? ⟨b, 0, none⟩ = false ∧ w.frozen? ⟨b, 1, none⟩ = false ∧ w.frozen? ⟨b, 2, none⟩ = false) :=
  ⟨⟨blk_cell h 0, blk_cell h 1, blk_cell h 2⟩, blk_frozen h 0, blk_frozen h 1, blk_frozen h 2⟩
theorem Lxm.new (w : World) : Lxm (w.alloc (.cells #[.int .i64 0, .int .i64 0, .string ⟨#[]⟩] 44)) w.heap.size 0 0 ⟨#[]⟩ := heap_alloc_new w _
theorem Lxm.grown {w w' : World} {b g : Nat} {k o : Int} {s : ByteArray} (h : Lxm w b k o s) (hg : w.grownBy w' (some g)) (hne : b ≠ g) : Lxm w' b k o s := blk_grown h hg (by intro e; injection e with e; exact hne e)
theorem Lxm.far {w w' : World} {b : Nat} {k o : Int} {s : ByteArray} (h : Lxm w b k o s) (hb : Below w.heap.size w w') : Lxm w' b k o s := blk_below h hb
theorem Lxm.lt {w : World} {b : Nat} {k o : Int} {s : ByteArray} (h : Lxm w b k o s) : b < w.heap.size := blk_lt h

theorem Lxm.done {w : World} {b : Nat} {k0 o0 : Int} {s0 : ByteArray} (h : Lxm w b k0 o0 s0) (k o : Int) (s : ByteArray) :
    Lxm (((w.setCell ⟨b, 0, none⟩ (.int .i64 k)).setCell ⟨b, 1, none⟩ (.int .i64 o)).setCell ⟨b, 2, none⟩ (.string s)) b k o s := blk_set (blk_set (blk_set h 0 _) 1 _) 2 _
theorem Rdr.setFar {w : World} {g : Nat} {s : ByteArray} {i : Nat} (h : Rdr w g s i) {p : Addr} (hp : g ≠ p.block) (u : Value) : Rdr (w.setCell p u) g s i := blk_far h hp u
theorem res_lxm {fn : Func} (hfn : fn.results = #[.cell 2 44]) {tmps : Array Value} {b : Nat} (hp : tmps.getD 2 undef = .pointer (some ⟨b, 0, none⟩)) {w : World} {k o : Int} {s : ByteArray} (h : Lxm w b k o s) :
    (results fn tmps).run Tryz.prog w = .ok (.agg #[.int .i64 k, .int .i64 o, .string s]) w := by
  obtain ⟨⟨q0, q1, q2⟩, _⟩ := h.cell
  have hu := Tryz.underlying44
  have hp' : tmps[2]?.getD undef = .pointer (some ⟨b, 0, none⟩) := by simpa using hp
  simp [results, hfn, hp', go_sem, q0, q1, q2, hu]
/-- The end of a reader's method: the token is stored and handed back. -/
theorem read_end' {fn : Func} (hfn : fn.results = #[.cell 2 44]) {w W : World} {g : Nat} {s : ByteArray} {j : Nat} {k0 o0 : Int} {s0 : ByteArray} {k : Int} {x : ByteArray} {T R : L} {r : Res} {tmps : Array Value}
    (hp : tmps.getD 2 undef = .pointer (some ⟨w.heap.size, 0, none⟩)) (hL : Lxm W w.heap.size k0 o0 s0) (hr : Rdr W g s j) (hg : w.grownBy W (some g)) (hlt : g < w.heap.size)
    (hT : (⟨T.toArray⟩ : ByteArray) = x) (hR : s.size - R.length = j) (h : r = .got k T R) :
    bodyPost Tryz.prog fn (ReadPost w g s r) .ret { tmps := tmps, defers := [] } (((W.setCell ⟨w.heap.size, 0, none⟩ (.int .i64 k)).setCell ⟨w.heap.size, 1, none⟩ (.int .i64 0)).setCell ⟨w.heap.size, 2, none⟩ (.string x)) := by
  subst h
  refine bodyPost_ret (res_lxm hfn hp (hL.done k 0 x)) rfl ⟨by rw [hT], ?_, ?_⟩
  · rw [hR]
    exact ((hr.setFar (p := ⟨w.heap.size, 0, none⟩) (by simp; omega) _).setFar (p := ⟨w.heap.size, 1, none⟩) (by simp; omega) _).setFar (p := ⟨w.heap.size, 2, none⟩) (by simp; omega) _
  · exact gb_set (gb_set (gb_set hg (.inr (Nat.le_refl _)) _) (.inr (Nat.le_refl _)) _) (.inr (Nat.le_refl _)) _
theorem read_end {fn : Func} (hfn : fn.results = #[.cell 2 44]) {w W : World} {g : Nat} {s : ByteArray} {j : Nat} {k0 o0 : Int} {s0 : ByteArray} {k : Int} {x : ByteArray} {T R : L} {tmps : Array Value}
    (hp : tmps.getD 2 undef = .pointer (some ⟨w.heap.size, 0, none⟩)) (hL : Lxm W w.heap.size k0 o0 s0) (hr : Rdr W g s j) (hg : w.grownBy W (some g)) (hlt : g < w.heap.size)
    (hT : (⟨T.toArray⟩ : ByteArray) = x) (hR : s.size - R.length = j) :
    bodyPost Tryz.prog fn (ReadPost w g s (.got k T R)) .ret { tmps := tmps, defers := [] } (((W.setCell ⟨w.heap.size, 0, none⟩ (.int .i64 k)).setCell ⟨w.heap.size, 1, none⟩ (.int .i64 0)).setCell ⟨w.heap.size, 2, none⟩ (.string x)) :=
  read_end' hfn hp hL hr hg hlt hT hR rfl
/-- .. or it leaves by a panic. -/
theorem read_bad {fn : Func} {w W : World} {g : Nat} {s : ByteArray} {n : Int} {r : Res} {tmps : Array Value} (hg : w.grownBy W (some g)) (h : r = .bad n) :
    bodyPost Tryz.prog fn (ReadPost w g s r) (.panic [{ v := .iface 24 (.int .i64 n), recovered := false }]) { tmps := tmps, defers := [] } W := by
  subst h
  exact ⟨rfl, rfl, hg⟩

set_option maxHeartbeats 800000 in
theorem name_any (g : Nat) (s : ByteArray) (i : Nat) (w : World) (hb : Rdr w g s i) (hi : i ≤ s.size) (hs : s.size ≤ 140737488351232) (hG : Gl w) :
    Calls Tryz.prog 42 #[.pointer (some ⟨g, 0, none⟩)] w (ReadPost w g s (nameL (sl s i))) := by
  obtain ⟨hw, ht, hr⟩ := whl_ex restB s _ i rfl hi
  have hlen := takeDrop_len restB (sl s i)
  unfold nameL
  generalize hT : (sl s i).takeWhile restB = T at *
  generalize hR : (sl s i).dropWhile restB = R at *
  obtain ⟨j, hj⟩ : ∃ j, j = i + T.length := ⟨_, rfl⟩
  rw [← hj] at hw ht hr
  have hsz : j - i = T.length := by omega
  have hjs := hw.2.1
  have hRl : s.size - R.length = j := by rw [hr, sl_len]; omega
  have hTe : (⟨T.toArray⟩ : ByteArray) = s.extract i j := by rw [ht, mk_data]
  have HT := Lib.hid ht; have HR := Lib.hid hRl; have HE := Lib.hid hTe; have HZ := Lib.hid hsz
  clear hlen hT hR ht hr hj hRl hTe hsz
  have hne := hb.ne_gl hG
  have hlt := hb.lt
  by_cases hm : T ∈ words
  · rw [if_pos hm]
    go_enter Tryz.func42, Tryz.ntmps42
    go_wp2_with fail
    refine (while_any g _ restB s i j _ enters72 isRest_any (by exact blk_alloc hb _) hw hs).mono ?_
    rintro e w1 ⟨rfl, hr1, hg1⟩
    have hgw := gb_trans (gb_alloc (World.grownBy.refl w (some g)) _) hg1 (.inl rfl)
    have hL1 := (Lxm.new w).grown hg1 (by omega)
    go_wp2_with fail
    refine (word_yes _ _ (hG.grown hgw (by rintro _ ⟨⟩; exact hne)) (by rw [← HT.out]; exact hm)).mono ?_
    rintro e w2 ⟨rfl, hb2⟩
    have hL2 := hL1.far hb2
    obtain ⟨⟨q0, q1, q2⟩, f0, f1, f2⟩ := hL2.cell
    go_wp2
    exact read_end rfl rfl hL2 (hr1.far hb2) (gb_then hgw hb2) hlt HE.out HR.out
  · rw [if_neg hm]
    by_cases h40 : 40 < T.length
    · rw [if_pos h40]
      go_enter Tryz.func42, Tryz.ntmps42
      go_wp2_with fail
      refine (while_any g _ restB s i j _ enters72 isRest_any (by exact blk_alloc hb _) hw hs).mono ?_
      rintro e w1 ⟨rfl, hr1, hg1⟩
      have hgw := gb_trans (gb_alloc (World.grownBy.refl w (some g)) _) hg1 (.inl rfl)
      have hL1 := (Lxm.new w).grown hg1 (by omega)
      go_wp2_with fail
      refine (word_not _ _ (hG.grown hgw (by rintro _ ⟨⟩; exact hne)) (by rw [← HT.out]; exact hm)).mono ?_
      rintro e w2 ⟨rfl, hb2⟩
      have hz := HZ.out
      go_wp2_with fail
      refine (fail_yes _ (by simp; omega) _ _).mono ?_
      rintro e w3 ⟨rfl, rfl⟩
      exact ⟨rfl, rfl, gb_then hgw hb2⟩
    · rw [if_neg h40]
      go_enter Tryz.func42, Tryz.ntmps42
      go_wp2_with fail
      refine (while_any g _ restB s i j _ enters72 isRest_any (by exact blk_alloc hb _) hw hs).mono ?_
      rintro e w1 ⟨rfl, hr1, hg1⟩
      have hgw := gb_trans (gb_alloc (World.grownBy.refl w (some g)) _) hg1 (.inl rfl)
      have hL1 := (Lxm.new w).grown hg1 (by omega)
      go_wp2_with fail
      refine (word_not _ _ (hG.grown hgw (by rintro _ ⟨⟩; exact hne)) (by rw [← HT.out]; exact hm)).mono ?_
      rintro e w2 ⟨rfl, hb2⟩
      have hL2 := hL1.far hb2
      obtain ⟨⟨q0, q1, q2⟩, f0, f1, f2⟩ := hL2.cell
      have hz := HZ.out
      go_wp2_with fail
      refine (fail_no _ (by simp; omega) _ _).mono ?_
      rintro e w3 ⟨rfl, rfl⟩
      go_wp2
      exact read_end rfl rfl hL2 (hr1.far hb2) (gb_then hgw hb2) hlt HE.out HR.out

end Go.Proofs.YtafomaiaobfkfaaGreatDoor.Lx
