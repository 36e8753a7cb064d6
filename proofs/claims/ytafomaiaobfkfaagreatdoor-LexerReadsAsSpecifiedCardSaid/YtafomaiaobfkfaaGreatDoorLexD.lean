/-
  (*reader).number and (*reader).sign of the lexer, walked. Conditions: each theorem's own.
-/
import Derived.Test.YtafomaiaobfkfaaGreatDoorLexC
namespace Go.Proofs.YtafomaiaobfkfaaGreatDoor.Lx
open Go.RowKit Go.Proofs.YtafomaiaobfkfaaGreatDoorW.PrintWords
set_option linter.unusedVariables false
set_option linter.unusedSimpArgs false

theorem enters43 : Enters 43 := fun args W => by go_simp

theorem u8_eq {a b : UInt8} (h : a.toNat = b.toNat) : a = b := UInt8.toNat_inj.1 h

/-- What stands behind the digits: the byte that is looked at. -/
def nextB (s : ByteArray) (j : Nat) : UInt8 := if h : j < s.size then s[j] else 32

theorem head_let (s : ByteArray) (j : Nat) : headIs letB (sl s j) = letB (nextB s j) := by
  unfold nextB
  by_cases h : j < s.size
  · rw [sl_cons s j h, dif_pos h]
    rfl
  · rw [sl_nil s j (by omega), dif_neg h]
    decide

set_option maxHeartbeats 1600000 in
theorem number_any (g : Nat) (s : ByteArray) (i : Nat) (w : World) (hb : Rdr w g s i) (hi : i < s.size) (hd : digitB s[i] = true) (hs : s.size ≤ 140737488351232) :
    Calls Tryz.prog 44 #[.pointer (some ⟨g, 0, none⟩)] w (ReadPost w g s (numberL (sl s i))) := by
  obtain ⟨hw, ht, hr⟩ := whl_ex digitB s _ i rfl (Nat.le_of_lt hi)
  have hlen := takeDrop_len digitB (sl s i)
  have h1 : 1 ≤ ((sl s i).takeWhile digitB).length := by rw [sl_cons s i hi]; simp [List.takeWhile_cons, hd]
  have hh : (sl s i).head? = some s[i] := by rw [sl_cons s i hi]; rfl
  unfold numberL
  rw [hh]
  generalize hT : (sl s i).takeWhile digitB = T at *
  generalize hR : (sl s i).dropWhile digitB = R at *
  obtain ⟨j, hj⟩ : ∃ j, j = i + T.length := ⟨_, rfl⟩
  rw [← hj] at hw ht hr
  have hhl : headIs letB R = letB (nextB s j) := by rw [hr, head_let]
  rw [hhl]
  have hjs := hw.2.1
  have hRl : s.size - R.length = j := by rw [hr, sl_len]; omega
  obtain ⟨x, hx⟩ : ∃ x, x = s.extract i j := ⟨_, rfl⟩
  have hxT : x.data.toList = T := by rw [hx, ht]
  have hxs : x.size = T.length := by rw [Lib.size_eq, hxT]
  have hx0 : ∀ h : 0 < x.size, x[0] = s[i] := by
    intro h
    have e1 : x.data.toList[0]? = (sl s i)[0]? := by
      rw [hxT, ← hT, sl_cons s i hi]
      simp [List.takeWhile_cons, hd]
    rw [sl_cons s i hi] at e1
    simp at e1
    have e2 := e1
    rw [Array.getElem?_eq_getElem (by simpa using h)] at e2
    injection e2
  have hTe : (⟨T.toArray⟩ : ByteArray) = x := by rw [← hxT, mk_data]
  have hlt := hb.lt
  rw [← hxs]
  have HR := Lib.hid hRl; have HE := Lib.hid hTe; have HX := Lib.hid hx; have HX0 := Lib.hid hx0
  have hx1 : 0 < x.size := by omega
  clear hlen hT hR ht hr hj hRl hTe hx hxT hxs hh hhl h1 hx0
  obtain ⟨r0, hr0⟩ : ∃ r0 : Res, r0 = (if 18 < x.size ∨ some s[i] = some 48 ∧ 1 < x.size ∨ letB (nextB s j) = true then Res.bad 141 else Res.got 3 T R) := ⟨_, rfl⟩
  rw [← hr0]
  have HR0 := Lib.hid hr0; clear hr0
  go_enter Tryz.func44, Tryz.ntmps44
  go_wp2_with fail
  refine (while_any g _ digitB s i j _ enters43 isDigit_any (by exact blk_alloc hb _) hw hs).mono ?_
  rintro e w1 ⟨rfl, hr1, hg1⟩
  rw [← HX.out]
  have hgw := gb_trans (gb_alloc (World.grownBy.refl w (some g)) _) hg1 (.inl rfl)
  have hL1 := (Lxm.new w).grown hg1 (by omega)
  have d0 := hr1.c0
  have d1 := hr1.c1
  obtain ⟨⟨q0, q1, q2⟩, f0, f1, f2⟩ := hL1.cell
  go_wp2_with fail
  go_quiet (fail)
  go_upto_if 16 with (fail)
  go_cut [4] (fun v4 wc => v4 = .int .u8 ((nextB s j).toNat : Int) ∧ ∃ n, wc = w1.drewN n)
  case first =>
    by_cases hjl : j < s.size
    · have hnb : nextB s j = s[j] := by unfold nextB; rw [dif_pos hjl]
      have HN := Lib.hid hnb; clear hnb
      go_wp2_with fail
      go_quiet (fail)
      go_wp2_with fail
      go_meet
      exact ⟨by rw [HN.out], _, World.drewN_drewN _ _ _⟩
    · have hnb : nextB s j = 32 := by unfold nextB; rw [dif_neg hjl]
      have HN := Lib.hid hnb; clear hnb
      go_wp2_with fail
      go_meet
      exact ⟨by rw [HN.out]; rfl, _, rfl⟩
  case rest =>
    obtain ⟨rfl, n, rfl⟩ := hcut
    generalize nextB s j = c at HR0
    clear d0 d1
    by_cases h18 : 18 < x.size
    · have hbad : r0 = .bad 141 := by rw [HR0.out, if_pos (.inl h18)]
      have HB := Lib.hid hbad; clear hbad HR0
      go_wp2_with fail
      refine (fail_yes _ rfl _ _).mono ?_
      rintro e w3 ⟨rfl, rfl⟩
      exact read_bad (gb_drewN hgw _) HB.out
    · by_cases h48 : s[i] = 48 ∧ 1 < x.size
      · have hbad : r0 = .bad 141 := by rw [HR0.out, if_pos (.inr (.inl ⟨by rw [h48.1], h48.2⟩))]
        have HB := Lib.hid hbad; clear hbad HR0
        have hx00 : (((x[0].toNat : Nat) : Int) == 48) = true := by rw [HX0.out hx1, h48.1]; rfl
        have h1x := h48.2
        have H48 := Lib.hid h48; clear h48
        go_wp2_with fail
        refine (fail_yes _ (by first | rfl | (simp; omega)) _ _).mono ?_
        rintro e w3 ⟨rfl, rfl⟩
        exact read_bad (gb_drewN hgw _) HB.out
      · by_cases h4 : s[i] = 48
        · have h1x : ¬ 1 < x.size := fun h => h48 ⟨h4, h⟩
          have H4 := Lib.hid h4; clear h4
          cases hc : restB c
          · cases hc2 : capB c
            · have hgot : r0 = .got 3 T R := by rw [HR0.out, if_neg (fun h => h.elim h18 (fun h => h.elim (fun h => h48 ⟨by injection h.1, h.2⟩) (fun h => by simp [letB, hc, hc2] at h)))]
              have HB := Lib.hid hgot; have HC2 := Lib.hid hc2; clear hgot HR0 hc2 h48
              have hx00 : (((x[0].toNat : Nat) : Int) == 48) = true := by rw [HX0.out hx1, H4.out]; rfl
              go_wp2_with fail
              refine (isRest_any _ _).mono ?_
              rintro e w3 ⟨rfl, n3, rfl⟩
              rw [hc]
              go_wp2_with fail
              all_goals
                refine (fail_no _ (by first | rfl | (have h := HC2.out; unfold capB at h; simp at h ⊢; omega)) _ _).mono ?_
                rintro e w4 ⟨rfl, rfl⟩
                go_wp2
                exact read_end' rfl rfl hL1 hr1 (gb_drewN hgw _) hlt HE.out HR.out HB.out
            · have hbad : r0 = .bad 141 := by rw [HR0.out, if_pos (.inr (.inr (by simp [letB, hc2])))]
              have HB := Lib.hid hbad; have HC2 := Lib.hid hc2; clear hbad HR0 hc2 h48
              have hx00 : (((x[0].toNat : Nat) : Int) == 48) = true := by rw [HX0.out hx1, H4.out]; rfl
              go_wp2_with fail
              refine (isRest_any _ _).mono ?_
              rintro e w3 ⟨rfl, n3, rfl⟩
              rw [hc]
              have hcap : (65 : Int) ≤ (c.toNat : Int) ∧ (c.toNat : Int) ≤ 90 := by have h := HC2.out; unfold capB at h; simp at h; omega
              obtain ⟨hcap1, hcap2⟩ := hcap
              go_wp2_with fail
              refine (fail_yes _ (by first | rfl | (simp; omega)) _ _).mono ?_
              rintro e w4 ⟨rfl, rfl⟩
              exact read_bad (gb_drewN hgw _) HB.out
          · have hbad : r0 = .bad 141 := by rw [HR0.out, if_pos (.inr (.inr (by simp [letB, hc])))]
            have HB := Lib.hid hbad; clear hbad HR0 h48
            have hx00 : (((x[0].toNat : Nat) : Int) == 48) = true := by rw [HX0.out hx1, H4.out]; rfl
            go_wp2_with fail
            refine (isRest_any _ _).mono ?_
            rintro e w3 ⟨rfl, n3, rfl⟩
            rw [hc]
            go_wp2_with fail
            refine (fail_yes _ rfl _ _).mono ?_
            rintro e w4 ⟨rfl, rfl⟩
            exact read_bad (gb_drewN hgw _) HB.out
        · have H4 := Lib.hid h4; clear h4
          cases hc : restB c
          · cases hc2 : capB c
            · have hgot : r0 = .got 3 T R := by rw [HR0.out, if_neg (fun h => h.elim h18 (fun h => h.elim (fun h => h48 ⟨by injection h.1, h.2⟩) (fun h => by simp [letB, hc, hc2] at h)))]
              have HB := Lib.hid hgot; have HC2 := Lib.hid hc2; clear hgot HR0 hc2 h48
              have hx00 : (((x[0].toNat : Nat) : Int) == 48) = false := by rw [HX0.out hx1]; simp; intro h; exact H4.out (u8_eq (Int.ofNat.inj h))
              go_wp2_with fail
              refine (isRest_any _ _).mono ?_
              rintro e w3 ⟨rfl, n3, rfl⟩
              rw [hc]
              go_wp2_with fail
              all_goals
                refine (fail_no _ (by first | rfl | (have h := HC2.out; unfold capB at h; simp at h ⊢; omega)) _ _).mono ?_
                rintro e w4 ⟨rfl, rfl⟩
                go_wp2
                exact read_end' rfl rfl hL1 hr1 (gb_drewN hgw _) hlt HE.out HR.out HB.out
            · have hbad : r0 = .bad 141 := by rw [HR0.out, if_pos (.inr (.inr (by simp [letB, hc2])))]
              have HB := Lib.hid hbad; have HC2 := Lib.hid hc2; clear hbad HR0 hc2 h48
              have hx00 : (((x[0].toNat : Nat) : Int) == 48) = false := by rw [HX0.out hx1]; simp; intro h; exact H4.out (u8_eq (Int.ofNat.inj h))
              go_wp2_with fail
              refine (isRest_any _ _).mono ?_
              rintro e w3 ⟨rfl, n3, rfl⟩
              rw [hc]
              have hcap : (65 : Int) ≤ (c.toNat : Int) ∧ (c.toNat : Int) ≤ 90 := by have h := HC2.out; unfold capB at h; simp at h; omega
              obtain ⟨hcap1, hcap2⟩ := hcap
              go_wp2_with fail
              refine (fail_yes _ (by first | rfl | (simp; omega)) _ _).mono ?_
              rintro e w4 ⟨rfl, rfl⟩
              exact read_bad (gb_drewN hgw _) HB.out
          · have hbad : r0 = .bad 141 := by rw [HR0.out, if_pos (.inr (.inr (by simp [letB, hc])))]
            have HB := Lib.hid hbad; clear hbad HR0 h48
            have hx00 : (((x[0].toNat : Nat) : Int) == 48) = false := by rw [HX0.out hx1]; simp; intro h; exact H4.out (u8_eq (Int.ofNat.inj h))
            go_wp2_with fail
            refine (isRest_any _ _).mono ?_
            rintro e w3 ⟨rfl, n3, rfl⟩
            rw [hc]
            go_wp2_with fail
            refine (fail_yes _ rfl _ _).mono ?_
            rintro e w4 ⟨rfl, rfl⟩
            exact read_bad (gb_drewN hgw _) HB.out

end Go.Proofs.YtafomaiaobfkfaaGreatDoor.Lx
