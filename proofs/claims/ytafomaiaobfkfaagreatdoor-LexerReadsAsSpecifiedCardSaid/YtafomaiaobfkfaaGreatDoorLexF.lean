/-
  (*reader).text of the lexer, walked. Conditions: each theorem's own.
-/
import Derived.Test.YtafomaiaobfkfaaGreatDoorLexE
import Derived.StillTailTactics
namespace Go.Proofs.YtafomaiaobfkfaaGreatDoor.Lx
open Go.RowKit Go.Proofs.YtafomaiaobfkfaaGreatDoorW.PrintWords
set_option linter.unusedVariables false
set_option linter.unusedSimpArgs false

theorem infoB : (Tryz.prog.info? 5).map (fun i => (i.zero, i.size, i.bytes)) = some (some (.int .u8 0), 1, 1) := by kernel_rfl

/-- Bytes as the numbers that a []byte holds. -/
def ints (l : L) : List Int := l.map fun b => (b.toNat : Int)
theorem ints_app (l : L) (b : UInt8) : ints (l ++ [b]) = ints l ++ [(b.toNat : Int)] := by simp [ints]
theorem ints_len (l : L) : (ints l).length = l.length := by simp [ints]
theorem str_ints (l : L) : strOfNums (ints l) = ⟨l.toArray⟩ := by
  unfold strOfNums ints
  congr 2
  rw [List.map_map]
  conv => rhs; rw [← List.map_id l]
  exact List.map_congr_left fun b _ => by simp

/-- A row of bytes of the call's own: made from block 'base' on. -/
def Own (w : World) (base : Nat) (v : Value) (l : L) : Prop := w.ownsRow base 5 1 v (ints l).length (nums .u8 (ints l))
theorem Own.nil (w : World) (base : Nat) : Own w base (.slice none 0 0) [] := own_nil w base _ _
theorem Own.grown {w w' : World} {base : Nat} {v : Value} {l : L} (h : Own w base v l) {g : Nat} (hg : w.grownBy w' (some g)) (hne : g < base) : Own w' base v l :=
  own_other h hg (by
    rcases hv : v.ownBlock with _ | k
    · exact .inl rfl
    · refine .inr ?_
      have := own_base h k hv
      intro e
      injection e with e
      omega)
theorem Own.slice {w : World} {base : Nat} {v : Value} {l : L} (h : Own w base v l) : ∃ A c, v = .slice A l.length c := by
  have := own_slice h
  rwa [ints_len] at this

theorem textL_bad (acc : L) : textL acc [] = .bad 142 := by unfold textL; rfl


theorem Lxm.new' (w : World) (a : Addr) (u : Value) : Lxm ((w.setCell a u).alloc (.cells #[.int .i64 0, .int .i64 0, .string ⟨#[]⟩] 44)) w.heap.size 0 0 ⟨#[]⟩ := by
  have h := Lxm.new (w.setCell a u)
  have e : (w.setCell a u).heap.size = w.heap.size := by simp [World.setCell]
  rwa [e] at h

/-! ### one step of a text -/
def Step (s : ByteArray) (acc : L) (m m' : Nat) (c : UInt8) : Prop :=
  m ≤ m' ∧ m' ≤ s.size ∧ ((32 ≤ c.toNat ∧ c.toNat ≤ 126) → m' < s.size ∧ textL acc (sl s m) = textL (acc ++ [c]) (sl s (m' + 1))) ∧ (¬ (32 ≤ c.toNat ∧ c.toNat ≤ 126) → textL acc (sl s m) = .bad 142)
theorem step_plain (s : ByteArray) (acc : L) (m : Nat) (h : m < s.size) (h34 : s[m].toNat ≠ 34) (h92 : s[m].toNat ≠ 92) : Step s acc m m s[m] := by
  refine ⟨Nat.le_refl _, by omega, fun hc => ⟨h, ?_⟩, fun hc => ?_⟩
  · rw [sl_cons s m h]
    conv => lhs; unfold textL
    rw [if_neg h34, if_neg h92, if_neg (by omega)]
  · rw [sl_cons s m h]
    unfold textL
    rw [if_neg h34, if_neg h92, if_pos (by omega)]
theorem step_esc (s : ByteArray) (acc : L) (m : Nat) (h : m + 1 < s.size) (h92 : s[m].toNat = 92) (hc : s[m + 1].toNat = 34 ∨ s[m + 1].toNat = 92) : Step s acc m (m + 1) s[m + 1] := by
  refine ⟨by omega, by omega, fun _ => ⟨h, ?_⟩, fun hn => absurd (by omega) hn⟩
  rw [sl_cons s m (by omega), sl_cons s (m + 1) h]
  conv => lhs; unfold textL
  rw [if_neg (by omega), if_pos h92]
  simp only [if_pos hc]
theorem step_not (s : ByteArray) (acc : L) (m : Nat) (h : m < s.size) (h92 : s[m].toNat = 92) (hc : ∀ h : m + 1 < s.size, ¬ (s[m + 1].toNat = 34 ∨ s[m + 1].toNat = 92)) : Step s acc m (m + 1) 0 := by
  refine ⟨by omega, by omega, fun hn => absurd hn (by decide), fun _ => ?_⟩
  rw [sl_cons s m h]
  by_cases h1 : m + 1 < s.size
  · rw [sl_cons s (m + 1) h1]
    unfold textL
    rw [if_neg (by omega), if_pos h92]
    simp only [if_neg (hc h1)]
  · rw [sl_nil s (m + 1) (by omega)]
    unfold textL
    rw [if_neg (by omega), if_pos h92]
theorem text_stop (s : ByteArray) (acc : L) (m : Nat) (h : m < s.size) (h34 : s[m].toNat = 34) : textL acc (sl s m) = if 200 < acc.length then .bad 142 else .got 4 acc (sl s (m + 1)) := by
  rw [sl_cons s m h]
  unfold textL
  rw [if_pos h34]

/-- The search for what may be escaped. -/
theorem esc_any (b : UInt8) (w : World) :
    Calls Tryz.prog 74 #[.string ⟨#[34, 92]⟩, .int .u8 b.toNat] w fun e w' => e = .returned (.int .i64 (Lib.indexByte [34, 92] b)) ∧ w' = w :=
  (Tryz.strings_IndexByte _ _ w).mono fun _ _ ⟨a, h⟩ => ⟨by rw [a]; simp, h⟩
theorem esc_iff (b : UInt8) : 0 ≤ Lib.indexByte [34, 92] b ↔ (b.toNat = 34 ∨ b.toNat = 92) := by
  have h := idx_neg [34, 92] b
  have : b ∈ ([34, 92] : L) ↔ (b.toNat = 34 ∨ b.toNat = 92) := by
    simp only [List.mem_cons, List.not_mem_nil, or_false]
    constructor
    · rintro (rfl | rfl)
      · exact .inl rfl
      · exact .inr rfl
    · rintro (h | h)
      · exact .inl (UInt8.toNat_inj.1 h)
      · exact .inr (UInt8.toNat_inj.1 h)
  rw [← this]
  constructor
  · intro h1
    exact Classical.byContradiction fun hn => by have := h.2 hn; omega
  · intro h1
    exact Classical.byContradiction fun hn => h.1 (by omega) h1

set_option maxHeartbeats 3200000 in
set_option maxRecDepth 100000 in
theorem text_any (g : Nat) (s : ByteArray) (i : Nat) (w : World) (hb : Rdr w g s i) (hi : i < s.size) (hs : s.size ≤ 140737488351232) :
    Calls Tryz.prog 46 #[.pointer (some ⟨g, 0, none⟩)] w (ReadPost w g s (textL [] (sl s (i + 1)))) := by
  obtain ⟨r0, hr0⟩ : ∃ r0, r0 = textL [] (sl s (i + 1)) := ⟨_, rfl⟩
  rw [← hr0]
  have HR0 := Lib.hid hr0; clear hr0
  have hlt := hb.lt
  have hb1 : Rdr (w.alloc (.cells #[.int .i64 0, .int .i64 0, .string ⟨#[]⟩] 44)) g s i := blk_alloc hb _
  have hL1 := Lxm.new w
  have d0 := hb1.c0
  have d1 := hb1.c1
  have e1 := hb1.f1
  have hg1 := gb_alloc (World.grownBy.refl w (some g)) (.cells #[.int .i64 0, .int .i64 0, .string ⟨#[]⟩] 44)
  have hle : (s.size : Int) ≤ 140737488351232 := by omega
  have hi' : (i : Int) < s.size := by omega
  go_enter Tryz.func46, Tryz.ntmps46
  go_upto_block 0 with (fail)
  clear d0 d1 e1
  go_cut [3] (fun v wc => ∃ (m : Nat) (acc : L), m ≤ s.size ∧ acc.length ≤ m ∧ Hid (r0 = textL acc (sl s m)) ∧ Hid (∀ h : m < s.size, s[m].toNat = 34) ∧ Rdr wc g s m ∧ Own wc (w.heap.size + 1) v acc ∧ Lxm wc w.heap.size 0 0 ⟨#[]⟩ ∧ w.grownBy wc (some g) ∧ w.heap.size + 1 ≤ wc.heap.size)
  case first =>
   go_wp2_with fail
   go_loopg [3] (s.size - (i + 1)) (fun gk v wr => ∃ (m : Nat) (acc : L), m ≤ s.size ∧ gk = s.size - m ∧ acc.length ≤ m ∧ Hid (r0 = textL acc (sl s m)) ∧ Rdr wr g s m ∧ Own wr (w.heap.size + 1) v acc ∧ Lxm wr w.heap.size 0 0 ⟨#[]⟩ ∧ w.grownBy wr (some g) ∧ w.heap.size + 1 ≤ wr.heap.size)
   case atStart => exact ⟨i + 1, [], by omega, rfl, by simp, HR0.out, blk_alloc (hb.set_ (i + 1)) _, Own.nil _ _, Lxm.new' w _ _, gb_alloc (gb_set (World.grownBy.refl w (some g)) (.inl rfl) _) _, by simp [World.setCell]⟩
   case round =>
     obtain ⟨m, acc, h1, rfl, h2, he, hr, how, hL, hg, hsz⟩ := hrel
     have d0 := hr.c0
     have d1 := hr.c1
     have e1 := hr.f1
     by_cases hlt2 : m < s.size
     · have hd : decide ((m : Int) < (s.size : Int)) = true := by simp; omega
       by_cases h34 : s[m].toNat = 34
       · have h34b : (((s[m].toNat : Nat) : Int) != 34) = false := by simp; omega
         have H34 := Lib.hid h34; have H34B := Lib.hid h34b; clear h34 h34b
         go_wp2_with fail
         go_quiet (fail)
         clear hd
         have h34b := H34B.out
         simp only [h34b]
         clear h34b
         go_wp2_with fail
         go_meet
         exact ⟨m, acc, h1, h2, he.out, fun _ => H34.out, hr, how, hL, gb_drewN hg _, hsz⟩
       · have h34b : (((s[m].toNat : Nat) : Int) != 34) = true := by simp; omega
         have H34 := Lib.hid h34; have H34B := Lib.hid h34b; clear h34 h34b
         go_wp2_with fail
         go_quiet (fail)
         clear hd
         have h34b := H34B.out
         simp only [h34b]
         clear h34b
         have hd : decide ((m : Int) < (s.size : Int)) = true := by simp; omega
         go_wp2_with fail
         go_quiet (fail)
         clear hd
         go_upto_if 44 with (fail)
         go_cut [4] (fun v4 wc => ∃ (m' : Nat) (c : UInt8), v4 = .int .u8 (c.toNat : Int) ∧ Step s acc m m' c ∧ Rdr wc g s m' ∧ wr.grownBy wc (some g))
         case first =>
           by_cases h92 : s[m].toNat = 92
           · have h92b : (((s[m].toNat : Nat) : Int) == 92) = true := by simp; omega
             simp only [h92b]
             clear h92b
             have H92 := Lib.hid h92; clear h92
             by_cases hm1 : m + 1 < s.size
             · have hd : decide ((m : Int) + 1 < (s.size : Int)) = true := by simp; omega
               have t0 : (0 : Int) ≤ (m : Int) + 1 := by omega
               have t1 : ((m : Int) + 1).toNat = m + 1 := by omega
               have t2 : (m : Int) + 1 < (s.size : Int) := by omega
               go_wp2_with fail
               go_quiet ((go_at_call 74; exact Calls.quiet_of_same (esc_any _ _)))
               clear hd
               by_cases hc : s[m + 1].toNat = 34 ∨ s[m + 1].toNat = 92
               · have hcb := (esc_iff s[m + 1]).2 hc
                 have hcb' : decide (0 ≤ Lib.indexByte [34, 92] s[m + 1]) = true := by simpa using hcb
                 simp only [hcb']
                 have HC := Lib.hid hc; clear hc hcb hcb'
                 go_wp2_with fail
                 go_quiet (fail)
                 go_wp2_with fail
                 go_meet
                 exact ⟨m + 1, s[m + 1], rfl, step_esc s acc m hm1 H92.out HC.out, hr.set_ (m + 1), gb_drewN (gb_drewN (gb_set (gb_drewN (World.grownBy.refl wr _) _) (.inl rfl) _) _) _⟩
               · have hcb := mt (esc_iff s[m + 1]).1 hc
                 have hcb' : decide (0 ≤ Lib.indexByte [34, 92] s[m + 1]) = false := by simpa using hcb
                 simp only [hcb']
                 have HC := Lib.hid hc; clear hc hcb hcb'
                 go_wp2_with fail
                 go_meet
                 exact ⟨m + 1, 0, rfl, step_not s acc m hlt2 H92.out (fun _ => HC.out), hr.set_ (m + 1), gb_drewN (gb_set (gb_drewN (World.grownBy.refl wr _) _) (.inl rfl) _) _⟩
             · have hd : decide ((m : Int) + 1 < (s.size : Int)) = false := by simp; omega
               go_wp2_with fail
               go_quiet (fail)
               clear hd
               go_wp2_with fail
               go_meet
               exact ⟨m + 1, 0, rfl, step_not s acc m hlt2 H92.out (fun h => absurd h hm1), hr.set_ (m + 1), gb_drewN (gb_set (gb_drewN (World.grownBy.refl wr _) _) (.inl rfl) _) _⟩
           · have h92b : (((s[m].toNat : Nat) : Int) == 92) = false := by simp; omega
             simp only [h92b]
             clear h92b
             go_wp2_with fail
             go_meet
             exact ⟨m, s[m], rfl, step_plain s acc m hlt2 H34.out h92, hr, gb_drewN (World.grownBy.refl wr _) _⟩
         case rest =>
           obtain ⟨m', c, rfl, ⟨s1, s2, s3, s4⟩, hr', hg'⟩ := hcut
           have how' := how.grown hg' (by omega)
           have hL' := hL.grown hg' (by omega)
           have hgw := gb_trans hg hg' (.inl rfl)
           have hsz' := Nat.le_trans hsz hg'.size
           have S3 := Lib.hid s3; have S4 := Lib.hid s4
           clear s3 s4 d0 d1 e1
           have d0 := hr'.c0
           have d1 := hr'.c1
           have e1 := hr'.f1
           by_cases hc : 32 ≤ c.toNat ∧ c.toNat ≤ 126
           · obtain ⟨s5, s6⟩ := S3.out hc
             obtain ⟨c1, c2⟩ := hc
             have c1' : (32 : Int) ≤ (c.toNat : Int) := by omega
             have c2' : (c.toNat : Int) ≤ 126 := by omega
             have S6 := Lib.hid s6; clear s6
             go_wp2_with fail
             refine (fail_no _ (by first | rfl | (simp; omega)) _ _).mono ?_
             rintro e w4 ⟨rfl, rfl⟩
             go_wp2_with (at_builtin; refine print_append_num (w0 := w4) (W := w4) (w.heap.size + 1) rfl (.tmp 91) (.tmp 93) 47 5 .u8 1 rfl Tryz.underlying47 infoB (by omega) u3 (ints acc) (c.toNat : Int) rfl rfl how' (Below.refl _ _) (by omega) (by rw [ints_len]; omega) ?_; intro v1 w1 hown hbel hgr hat; have hr1 : Rdr w1 g s m' := (hbel.block g (by omega)).trans hr'; have b0 := hr1.c0; have b1 := hr1.c1; have b2 := hr1.f1)
             go_roundg (s.size - (m' + 1))
             case rel =>
               refine ⟨m' + 1, acc ++ [c], by omega, rfl, by simp; omega, he.out.trans S6.out, hr1.set_ (m' + 1), ?_, ?_, ?_, ?_⟩
               · refine Own.grown (g := g) (w := w1) ?_ (gb_set (World.grownBy.refl w1 _) (.inl rfl) _) (by omega)
                 unfold Own
                 rw [ints_app]
                 exact hown
               · exact Lxm.setFar (p := ⟨g, 1, none⟩) ((hbel.block w.heap.size (by omega)).trans hL') (by simp; omega) _
               · refine gb_set (gb_trans hgw hgr (.inr fun x hx => ?_)) (.inl rfl) _
                 have := own_base how' x hx
                 omega
               · have := hbel.size; simp [World.setCell]; omega
             case measure => omega
           · have hbad := S4.out hc
             have hr0 : r0 = .bad 142 := he.out.trans hbad
             have HB := Lib.hid hr0; clear hbad hr0
             by_cases hc1 : c.toNat < 32
             · have c1' : (c.toNat : Int) < 32 := by omega
               go_wp2_with fail
               refine (fail_yes _ (by first | rfl | (simp; omega)) _ _).mono ?_
               rintro e w4 ⟨rfl, rfl⟩
               exact read_bad hgw HB.out
             · have c1' : (32 : Int) ≤ (c.toNat : Int) := by omega
               have c2' : (126 : Int) < (c.toNat : Int) := by omega
               go_wp2_with fail
               refine (fail_yes _ (by first | rfl | (simp; omega)) _ _).mono ?_
               rintro e w4 ⟨rfl, rfl⟩
               exact read_bad hgw HB.out
     · have hd : decide ((m : Int) < (s.size : Int)) = false := by simp; omega
       go_wp2_with fail
       go_quiet (fail)
       clear hd
       go_wp2_with fail
       go_meet
       exact ⟨m, acc, h1, h2, he.out, fun h => absurd h hlt2, hr, how, hL, gb_drewN hg _, hsz⟩
  case rest =>
    obtain ⟨m, acc, h1, h2, he, h34, hr, how, hL, hg, hsz⟩ := hcut
    have d0 := hr.c0
    have d1 := hr.c1
    have e1 := hr.f1
    by_cases hlt2 : m < s.size
    · have hr1 : r0 = if 200 < acc.length then .bad 142 else .got 4 acc (sl s (m + 1)) := by rw [he.out, text_stop s acc m hlt2 (h34.out hlt2)]
      have HR1 := Lib.hid hr1; clear hr1
      obtain ⟨A, c, hv⟩ := how.slice
      subst hv
      have hd : decide ((s.size : Int) ≤ (m : Int)) = false := by simp; omega
      by_cases h200 : 200 < acc.length
      · have hr0 : r0 = .bad 142 := by rw [HR1.out, if_pos h200]
        have HB := Lib.hid hr0; clear hr0
        go_wp2_with fail
        refine wp_region_still_tail 15 (by kernel_rfl) (by kernel_rfl) ?_
        simp only [List.take_succ_cons, List.take_zero, List.drop_succ_cons, List.drop_zero]
        change wpStill _ _ (World.drew _) _ _ _
        repeat still_step
        refine wpStill_nil ?_
        change wpList _ _ _ _ _ (World.drew _)
        go_wp2_with fail
        refine (fail_yes _ (by simp; omega) _ _).mono ?_
        rintro e w4 ⟨rfl, rfl⟩
        exact read_bad ⟨hg.os, hg.tape, hg.output, hg.size, hg.block⟩ HB.out
      · have hr0 : r0 = .got 4 acc (sl s (m + 1)) := by rw [HR1.out, if_neg h200]
        have HB := Lib.hid hr0; clear hr0
        obtain ⟨⟨q0, q1, q2⟩, f0, f1, f2⟩ := hL.cell
        have hlt3 : (m : Int) < (s.size : Int) := by omega
        go_wp2_with fail
        refine wp_region_still_tail 15 (by kernel_rfl) (by kernel_rfl) ?_
        simp only [List.take_succ_cons, List.take_zero, List.drop_succ_cons, List.drop_zero]
        change wpStill _ _ (World.drew _) _ _ _
        repeat still_step
        refine wpStill_nil ?_
        change wpList _ _ _ _ _ (World.drew _)
        clear hd
        go_wp2_with fail
        refine (fail_no _ (by simp; omega) _ _).mono ?_
        rintro e w4 ⟨rfl, rfl⟩
        have how2 : Own (wc.setCell ⟨g, 1, none⟩ (.int .i64 ((m : Int) + 1))).drew (w.heap.size + 1) (.slice A acc.length c) acc := Own.grown (g := g) how (w' := wc.setCell ⟨g, 1, none⟩ (.int .i64 ((m : Int) + 1))) (gb_set (p := ⟨g, 1, none⟩) (World.grownBy.refl wc _) (.inl rfl) _) (by omega)
        have hcv : (convert 47 9 (.slice A acc.length c)).run Tryz.prog (wc.setCell ⟨g, 1, none⟩ (.int .i64 ((m : Int) + 1))).drew = .ok (.string (⟨acc.toArray⟩ : ByteArray)) (wc.setCell ⟨g, 1, none⟩ (.int .i64 ((m : Int) + 1))).drew := by
          rw [← str_ints]
          exact own_string Tryz.underlying47 Tryz.underlying5 Tryz.underlying9 how2
        obtain ⟨x, hx⟩ : ∃ x : ByteArray, x = ⟨acc.toArray⟩ := ⟨_, rfl⟩
        rw [← hx] at hcv
        have HE := Lib.hid hx; clear hx
        go_wp2_with fail
        exact read_end' (W := (wc.setCell ⟨g, 1, none⟩ (.int .i64 ((m : Int) + 1))).drew) (T := acc) (R := sl s (m + 1)) (j := m + 1) rfl rfl (Lxm.setFar (p := ⟨g, 1, none⟩) hL (by simp; omega) _) (hr.set_ (m + 1)) (gb_drewN (gb_set (p := ⟨g, 1, none⟩) hg (.inl rfl) _) 1) hlt HE.out.symm (by rw [sl_len]; omega) HB.out
    · have hr0 : r0 = .bad 142 := by rw [he.out, sl_nil s m (by omega), textL_bad]
      have HB := Lib.hid hr0; clear hr0
      have hd : decide ((s.size : Int) ≤ (m : Int)) = true := by simp; omega
      go_wp2_with fail
      refine wp_region_still_tail 15 (by kernel_rfl) (by kernel_rfl) ?_
      simp only [List.take_succ_cons, List.take_zero, List.drop_succ_cons, List.drop_zero]
      change wpStill _ _ (World.drew _) _ _ _
      repeat still_step
      refine wpStill_nil ?_
      change wpList _ _ _ _ _ (World.drew _)
      go_wp2_with fail
      refine (fail_yes _ rfl _ _).mono ?_
      rintro e w4 ⟨rfl, rfl⟩
      exact read_bad ⟨hg.os, hg.tape, hg.output, hg.size, hg.block⟩ HB.out

end Go.Proofs.YtafomaiaobfkfaaGreatDoor.Lx
