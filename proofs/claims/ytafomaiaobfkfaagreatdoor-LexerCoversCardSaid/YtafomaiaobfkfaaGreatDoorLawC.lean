/-
  LexerCovers, walked: it answers true, whatever the source. Conditions: each theorem's own.
-/
import Derived.Test.YtafomaiaobfkfaaGreatDoorLawC0
namespace Go.Proofs.YtafomaiaobfkfaaGreatDoor.Pr
open Go.RowKit Lx Go.Proofs.YtafomaiaobfkfaaGreatDoorW.PrintWords Go.Proofs.YtafomaiaobfkfaaGreatDoorW.PrintLast Go.Proofs.YtafomaiaobfkfaaGreatDoorW.PrintMore
set_option linter.unusedVariables false
set_option linter.unusedSimpArgs false

theorem equal_at (xs : List S44) (n c2 c : Nat) (A2 A : Option Addr) (W : World) (hn : xs.length = n) (hm : n < 4398046511104) (h1 : Kd.C k44 W A2 n xs) (hc2 : n ≤ c2) (h2 : Kd.C k44 W A n xs) (hc : n ≤ c) :
    Calls Tryz.prog 14 #[.slice A2 n c2, .slice A n c] W fun e w' => e = .returned (.bool true) ∧ Below W.heap.size W w' := by
  subst hn
  exact (antiquarylaw14_equal.calls (xs.length + 1) A2 c2 xs A c xs true W h1 hc2 h2 hc (equalC xs hm)).mono fun e w' ⟨a, b⟩ => ⟨a, b.below⟩
theorem text_at (y : S44) (o : ByteArray) (A : Option Addr) (c : Nat) (W : World) (h : Kd.C k44 W A 1 [y]) (hc : 1 ≤ c) (hG : Aside0 (Gl W)) (ht : lexer_Text.f 9 [y] = some (o, 0)) :
    Calls Tryz.prog 22 #[.slice A 1 c] W fun e w' => e = .returned (.tuple #[.string o, .int .i64 0]) ∧ Below W.heap.size W w' :=
  lexer_Text.calls 9 A c [y] o 0 W h hc hG ht

theorem rowC {it : List (L × Int × L)} {i c : Nat} (hi : i < it.length) {A : Option Addr} {wr : World} (hc : it.length ≤ c) (hC : Kd.C k44 wr A it.length (xsOf it)) {y : S44} (hy : (xsOf it)[i]? = some y) :
    ∃ ad, A = some ad ∧ Kd.C k44 wr (some (ad.add (i * 3))) 1 [y] ∧ Kd.C k44 wr (some ad) (i + 1) ((xsOf it).take (i + 1)) ∧
      wr.cell? ⟨(ad.add (i * 3)).block, (ad.add (i * 3)).off + 1, none⟩ = some (.int .i64 y.f1) ∧ 1 ≤ c - i := by
  have hxl := xsOf_len it
  have hxi : i < (xsOf it).length := by omega
  have hyi : (xsOf it)[i] = y := by
    rw [List.getElem?_eq_getElem hxi] at hy
    exact Option.some.inj hy
  obtain ⟨ad, rfl, q0, q1, q2⟩ := at_T44 hC (i : Int) (by omega) (by omega)
  rw [rdF _ i hxi, hyi] at q1
  simp only [Int.toNat_natCast] at q1
  have hC' : Kd.C k44 wr (some ad) (xsOf it).length (xsOf it) := by rw [hxl]; exact hC
  have hr1 := Kd.C_mid (lo := i) (hi := i + 1) (c := c) hC' (by omega) (by omega) (by omega)
  have hone : ((xsOf it).take (i + 1)).drop i = [y] := by
    rw [List.take_succ_eq_append_getElem hxi, List.drop_append_of_le_length (by simp; omega), List.drop_eq_nil_of_le (by simp; omega), hyi]
    rfl
  rw [hone, if_neg (by omega)] at hr1
  have hr2 := Kd.C_take (m := i + 1) hC' (by omega)
  rw [show ((xsOf it).take (i + 1)).length = i + 1 from by rw [List.length_take]; omega] at hr2
  exact ⟨ad, rfl, hr1, hr2, q1, by omega⟩

set_option maxHeartbeats 3200000 in
set_option maxRecDepth 100000 in
theorem covers_any (s : ByteArray) (w : World) (hG : Aside0 (Gl w)) : Calls Tryz.prog 8 #[.string s] w fun e w' => e = .returned (.bool true) ∧ Below w.heap.size w w' := by
  have hu26 := Tryz.underlying26
  have hu44 := Tryz.underlying44
  have hnot : ∀ (x : Bool) (w : World), (Op.unary .not (.bool x)).run Tryz.prog w = .ok (.bool (!x)) w := fun _ _ => rfl
  by_cases hbig : 2000 < s.size
  · have hb : (2000 : Int) < (s.size : Int) := by omega
    go_enter Tryz.func8, Tryz.ntmps8
    go_wp2_with (go_at_call 9; refine (sanity_any _ hG).mono ?_; rintro e w' ⟨rfl, hbel⟩)
    go_ret
    exact ⟨rfl, hbel⟩
  · have hs : s.size ≤ 2000 := by omega
    have hb : ¬ (2000 : Int) < (s.size : Int) := by omega
    rcases srcC s hs with ⟨o, e0, ht, he⟩ | ⟨it, z, hsrc, ht⟩
    · have heb : (e0 != 0) = true := bne_iff_ne.2 he
      have HT := Lib.hid ht
      clear ht he
      go_enter Tryz.func8, Tryz.ntmps8
      go_wp2_with (first | (go_at_call 10; refine (tok_at s [] 0 o e0 HT.out rfl _ hG).mono ?_; rintro x w1 ⟨A, c, rfl, hc, hC, hB⟩; clear hc hC) | (go_at_call 9; refine (sanity_any _ ⟨Gl.below hG.out (below_alloc hB _)⟩).mono ?_; rintro e w' ⟨rfl, hbel⟩))
      go_ret
      exact ⟨rfl, below_step (below_alloc hB _) hbel⟩
    · have HT := Lib.hid ht
      clear ht
      by_cases h200 : 200 < it.length
      · have h200' : (200 : Int) < (it.length : Int) := by omega
        go_enter Tryz.func8, Tryz.ntmps8
        go_wp2_with (first | (go_at_call 10; refine (tok_at s (xsOf it) it.length 0 0 HT.out (xsOf_len it) _ hG).mono ?_; rintro x w1 ⟨A, c, rfl, hc, hC, hB⟩; clear hc hC) | (go_at_call 9; refine (sanity_any _ ⟨Gl.below hG.out (below_alloc hB _)⟩).mono ?_; rintro e w' ⟨rfl, hbel⟩))
        go_ret
        exact ⟨rfl, below_step (below_alloc hB _) hbel⟩
      · have h200' : ¬ (200 : Int) < (it.length : Int) := by omega
        have h2 : it.length ≤ 200 := by omega
        have hxl := xsOf_len it
        have HXL := Lib.hid hxl
        clear h200 hxl
        go_enter Tryz.func8, Tryz.ntmps8
        go_wp2_with (go_at_call 10; refine (tok_at s (xsOf it) it.length 0 0 HT.out (HXL.out) _ hG).mono ?_; rintro x w1 ⟨A, c, rfl, hc, hC, hB⟩)
        have HB1 := Aside0.mk (below_alloc hB (Obj.cells #[.int .i64 0, .int .i64 0] 26))
        have hC0 := Kd.C_below hC (below_alloc (Below.refl _ _) (Obj.cells #[.int .i64 0, .int .i64 0] 26))
        clear hC hB
        go_loopg [5, 6] it.length (fun gk v5 v6 wr => ∃ (i a : Nat), i ≤ it.length ∧ v6 = .int .i64 (i : Int) ∧ gk = it.length - i ∧ v5 = .int .i64 (a : Int) ∧ Hid (a = (bld (it.take i)).length) ∧ Kd.C k44 wr A it.length (xsOf it) ∧ Below w.heap.size w wr)
        case atStart => exact ⟨0, 0, Nat.zero_le _, rfl, rfl, rfl, rfl, hC0, HB1.out⟩
        case round =>
          obtain ⟨i, a, hi, rfl, rfl, rfl, ha, hC, hB⟩ := hrel
          have HI := Lib.hid hi
          clear hi hC0
          by_cases hlt : i < it.length
          · have hlt' : (i : Int) < (it.length : Int) := by omega
            obtain ⟨at_, x, e, o, st⟩ := stepC hsrc i hlt
            obtain rfl : a = at_ := by rw [ha.out, st.hat]
            obtain ⟨y, hy, hyx, hyt⟩ := st.tok
            obtain ⟨ad, hA, hr1, -, -, hc1⟩ := rowC hlt hc hC hy
            subst hA
            have HR1 := Lib.hid hr1; have HT1 := Lib.hid hyt; have HCC := Lib.hid hC; have HST := Lib.hid st; have HYX := Lib.hid hyx; have HHA := Lib.hid ha; have HY := Lib.hid hy; have HL := Lib.hid hlt
            have g1 : ¬ (x : Int) < (a : Int) := by have := st.lt1; omega
            have g2 : wrap64 ((x : Int) + (o.size : Int)) = (e : Int) := by rw [wr4 _ _ (by have := st.lt2; have := st.lt3; omega), st.lt2]
            have g3 : ¬ (s.size : Int) < (e : Int) := by have := st.lt3; omega
            have g4 : s.extract x e = o := st.cut
            have g5 : (0 : Int) ≤ (x : Int) := by omega
            have g6 : (x : Int) ≤ (e : Int) := by have := st.lt2; omega
            have g7 : (e : Int) ≤ (s.size : Int) := by have := st.lt3; omega
            have g8 : (a : Int) ≤ (x : Int) := by have := st.lt1; omega
            have g9 : (x : Int) ≤ (s.size : Int) := by omega
            have hnc : ¬ c = i := by omega
            clear hr1 hyt hC hyx hy ha st
            go_wp2_with (go_at_call 22; refine (text_at y o _ _ _ HR1.out hc1 ⟨Gl.below hG.out hB⟩ HT1.out).mono ?_; rintro ex w2 ⟨rfl, hb2⟩; have HB2 := Aside0.mk (below_step hB hb2); obtain ⟨ad2, hA2, -, -, q1, -⟩ := rowC HL.out hc (Kd.C_below HCC.out hb2) HY.out; obtain rfl := Option.some.inj hA2; rw [HYX.out] at q1; clear hA2)
            have hpl : ((xsOf it).take (i + 1)).length = i + 1 := by rw [List.length_take, HXL.out]; have := HL.out; omega
            have HPL := Lib.hid hpl
            have g0 : (0 : Int) ≤ (e : Int) := by omega
            clear hpl q1 g1 g5 g6 g8 g9
            refine (antiquarylaw14_blank.calls (s.extract a x) true _ ⟨Gl.below hG.out HB2.out⟩ HST.out.gap).mono ?_
            rintro ex w3 ⟨rfl, hb3⟩
            have HB3 := Aside0.mk (below_step HB2.out hb3)
            go_wp2_with (go_at_call 10; refine (tok_at (s.extract 0 e) ((xsOf it).take (i + 1)) (i + 1) 0 0 HST.out.pre HPL.out _ ⟨Gl.below hG.out HB3.out⟩).mono ?_; rintro ex w4 ⟨A2, c2, rfl, hc2, hC2, hb4⟩; have HB4 := Aside0.mk (below_alloc (below_step HB3.out hb4) (Obj.cells #[.int .i64 0, .int .i64 0] 26)); have HC2 := Aside0.mk (Kd.C_below hC2 (below_alloc (Below.refl _ _) (Obj.cells #[.int .i64 0, .int .i64 0] 26))); have HC3 := Aside0.mk (Kd.C_below (Kd.C_below (Kd.C_below (Kd.C_below HCC.out hb2) hb3) hb4) (below_alloc (Below.refl _ _) (Obj.cells #[.int .i64 0, .int .i64 0] 26))); clear hC2)
            obtain ⟨ad3, hA3, -, hr2, -, -⟩ := rowC HL.out hc HC3.out HY.out
            obtain rfl := Option.some.inj hA3
            refine (equal_at ((xsOf it).take (i + 1)) (i + 1) c2 c A2 (some ad) _ HPL.out (by have := HL.out; omega) HC2.out hc2 hr2 (by have := HL.out; omega)).mono ?_
            rintro ex w5 ⟨rfl, hb5⟩
            have HB5 := Aside0.mk (below_step HB4.out hb5)
            clear hr2 hA3
            go_wp2
            go_roundg (it.length - (i + 1))
            case rel => exact ⟨i + 1, e, HL.out, rfl, rfl, rfl, HST.out.hat', Kd.C_below HC3.out hb5, HB5.out⟩
            case measure => have := HL.out; omega
          · have hi' : i = it.length := by have := HI.out; omega
            have hae : a = (bld it).length := by rw [ha.out, hi', List.take_length]
            obtain ⟨e1, e2⟩ := endC hsrc
            rw [← hae] at e1 e2
            have HE2 := Lib.hid e2
            have g1 : (a : Int) ≤ (s.size : Int) := by omega
            have g0 : (0 : Int) ≤ (a : Int) := by omega
            have hlt' : ¬ (i : Int) < (it.length : Int) := by omega
            clear e1 e2 hae hi' ha hC
            go_wp2_with (first | (go_at_call 9; refine (sanity_any _ ⟨Gl.below hG.out hB⟩).mono ?_; rintro ex w2 ⟨rfl, hb2⟩; have HB2 := Aside0.mk (below_step hB hb2)) | (go_at_call 25; refine (antiquarylaw14_blank.calls (s.extract a s.size) true _ ⟨Gl.below hG.out HB2.out⟩ HE2.out).mono ?_; rintro ex w3 ⟨rfl, hb3⟩; have HB3 := Aside0.mk (below_step HB2.out hb3)))
            go_ret
            exact ⟨rfl, HB3.out⟩
/-- In the printed functions' own shape. -/
def antiquarylaw14_LexerCovers.f (k : Nat) (a0 : ByteArray) : Option Bool := some true
theorem antiquarylaw14_LexerCovers.calls (k : Nat) (a0 : ByteArray) (r : Bool) (w : World) (hG : Aside0 (Gl w)) (h : antiquarylaw14_LexerCovers.f k a0 = some r) :
    Calls Tryz.prog 8 #[.string a0] w fun e w' => e = .returned (.bool r) ∧ Below w.heap.size w w' := by
  injection h with h
  subst h
  exact covers_any a0 w hG
theorem covers (a : ByteArray) : ∃ k, antiquarylaw14_LexerCovers.f k a = some true := ⟨0, rfl⟩
end Go.Proofs.YtafomaiaobfkfaaGreatDoor.Pr
