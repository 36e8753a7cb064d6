/- A function of the program as plain Lean and its contract, or what such texts share: printed by a program of this session (wip/patch_printer.py). Conditions: each theorem's own. -/
import Derived.Test.YtafomaiaobfkfaaGreatDoorPr0
import Derived.Test.YtafomaiaobfkfaaGreatDoorPr21
import Derived.Test.YtafomaiaobfkfaaGreatDoorPr28
import Derived.Test.YtafomaiaobfkfaaGreatDoorPrG
namespace Go.Proofs.YtafomaiaobfkfaaGreatDoor.Pr
open Go.RowKit Go.Proofs.YtafomaiaobfkfaaGreatDoorW.PrintWords Go.Proofs.YtafomaiaobfkfaaGreatDoorW.PrintLast Go.Proofs.YtafomaiaobfkfaaGreatDoorW.PrintMore
attribute [local go_sem] max2_int min2_int max_two min_two max_three min_three max_four min_four   -- for this text's walks alone
set_option linter.unusedVariables false
set_option linter.unusedSimpArgs false

/-! ### antiquaryref14_Possible: function 37 -/
def antiquaryref14_Possible.j0 : Nat → Bool → Option (Bool)
  | 0, _ => none
  | k + 1, x2 => some x2
def antiquaryref14_Possible.f (k : Nat) (a0_0 : Int) (a0_1 : Int) (a0_2 : ByteArray) : Option (Bool) := if (a0_2.size : Int) > 32768 then (some false) else ((antiquaryref14_written.f k a0_0 a0_1 a0_2).bind fun t363 => ((antiquaryref14_Tokens.f k t363).bind fun bt364 => (if bt364.2.2 = 0 then (if (bt364.1.length : Int) = 1 then (if 0 < (bt364.1.length : Int) then (if ((rd_T44 bt364.1 0).f0) = a0_0 then (if ((rd_T44 bt364.1 0).f2).toList = a0_2.toList then (antiquaryref14_Possible.j0 k (((rd_T44 bt364.1 0).f1) == 0)) else (antiquaryref14_Possible.j0 k false)) else (antiquaryref14_Possible.j0 k false)) else (none)) else (antiquaryref14_Possible.j0 k false)) else (antiquaryref14_Possible.j0 k false))))
theorem antiquaryref14_Possible.mono_l : ∀ k, (∀ y0, LeO (antiquaryref14_Possible.j0 k y0) (antiquaryref14_Possible.j0 (k + 1) y0))
  | 0 => fun _ r h => by simp [antiquaryref14_Possible.j0] at h
  | k + 1 => by
    have ih0 := antiquaryref14_Possible.mono_l k
    · intro y0
      unfold antiquaryref14_Possible.j0
      repeat' first
      | (with_reducible exact ih0 _)
      | (with_reducible exact antiquaryref14_Tokens.mono _ _)
      | (with_reducible exact antiquaryref14_written.mono _ _ _ _)
      | (with_reducible exact LeO.refl _)
      | (with_reducible exact LeO.none _)
      | (with_reducible refine LeO.ite ?_ ?_)
      | (with_reducible refine LeO.bind ?_ (fun _ => ?_))
      | exact ih0 _
      | exact antiquaryref14_Tokens.mono _ _
      | exact antiquaryref14_written.mono _ _ _ _
      | exact LeO.none _
      | refine LeO.ite ?_ ?_
      | refine LeO.bind ?_ (fun _ => ?_)
theorem antiquaryref14_Possible.mono : ∀ a0 a1 a2 k, LeO (antiquaryref14_Possible.f k a0 a1 a2) (antiquaryref14_Possible.f (k + 1) a0 a1 a2) := by
  intro a0 a1 a2 k
  have ih0 := antiquaryref14_Possible.mono_l k
  unfold antiquaryref14_Possible.f
  repeat' first
      | (with_reducible exact ih0 _)
      | (with_reducible exact antiquaryref14_Tokens.mono _ _)
      | (with_reducible exact antiquaryref14_written.mono _ _ _ _)
      | (with_reducible exact LeO.refl _)
      | (with_reducible exact LeO.none _)
      | (with_reducible refine LeO.ite ?_ ?_)
      | (with_reducible refine LeO.bind ?_ (fun _ => ?_))
      | exact ih0 _
      | exact antiquaryref14_Tokens.mono _ _
      | exact antiquaryref14_written.mono _ _ _ _
      | exact LeO.none _
      | refine LeO.ite ?_ ?_
      | refine LeO.bind ?_ (fun _ => ?_)
set_option maxHeartbeats 8000000 in
set_option maxRecDepth 100000 in
theorem antiquaryref14_Possible.calls (k : Nat) (a0_0 : Int) (a0_1 : Int) (a0_2 : ByteArray) (r : Bool) (w : World) (h : antiquaryref14_Possible.f k a0_0 a0_1 a0_2 = some r) :
    Calls Tryz.prog 37 #[.agg #[.int .i64 a0_0, .int .i64 a0_1, .string a0_2]] w fun e w' => e = .returned (.bool r) ∧ Below w.heap.size w w' := by
  have hu44 := Tryz.underlying44
  have hu30 := Tryz.underlying30
  have HB := Aside0.mk (Below.refl w.heap.size w)
  have H : (if (a0_2.size : Int) > 32768 then (some false) else ((antiquaryref14_written.f k a0_0 a0_1 a0_2).bind fun t363 => ((antiquaryref14_Tokens.f k t363).bind fun bt364 => (if bt364.2.2 = 0 then (if (bt364.1.length : Int) = 1 then (if 0 < (bt364.1.length : Int) then (if ((rd_T44 bt364.1 0).f0) = a0_0 then (if ((rd_T44 bt364.1 0).f2).toList = a0_2.toList then (antiquaryref14_Possible.j0 k (((rd_T44 bt364.1 0).f1) == 0)) else (antiquaryref14_Possible.j0 k false)) else (antiquaryref14_Possible.j0 k false)) else (none)) else (antiquaryref14_Possible.j0 k false)) else (antiquaryref14_Possible.j0 k false))))) = some r := h
  clear h
  by_cases c2 : (a0_2.size : Int) > 32768
  · rw [if_pos c2] at H
    have c2b0 : decide (32768 < (a0_2.size : Int)) = true := decide_eq_true c2
    have c2b1 : decide (32768 < a0_2.size) = true := decide_eq_true (by omega)
    clear c2
    obtain rfl := Option.some.inj H
    go_enter Tryz.func37, Tryz.ntmps37
    go_wp2_with (first | ((with_reducible refine gate_dst (N := 1) rfl ?_); (try (refine gate_guard (by rfl) ?_; dsimp only)); refine box_event ?hg (N := 1) ?hd (cs := #[.int .i64 a0_0, .int .i64 a0_1, .string a0_2]) (t := 44) ?hr ?_; (case hd => rfl); (case hg => rfl); (case hr => first | (go_simp; done) | (go_simp; rfl)); intro gb362 hg w3 hbox hb; have n0_ := Aside0.mk (below_step (by repeat (first | (with_reducible first | exact HB.out | apply below_alloc | apply pw_below_drewN | apply below_drew1) | exact HB.out)) hb); have n1_ := Aside0.mk (hbox); have n2_ := Aside0.mk ((by rw [hg]; exact (below_size (by repeat (first | (with_reducible first | exact HB.out | apply below_alloc | apply pw_below_drewN | apply below_drew1) | exact HB.out))) : w.heap.size ≤ gb362)); have n3_ := Aside0.mk ((by rw [hg]; exact (below_size (by repeat (first | (with_reducible first | exact HB.out | apply below_alloc | apply pw_below_drewN | apply below_drew1) | exact HB.out))) : w.heap.size ≤ gb362)); clear HB; have HB := n0_; have BK362 := n1_; have GW362 := n2_; have GE362 := n3_; clear n0_ n1_ n2_ n3_; clear hb hbox hg; have hcz4_0 : w3.cell? ⟨gb362, 0, none⟩ = some (.int .i64 a0_0) := (blk_cell BK362.out 0).trans rfl; have hcz4_1 : w3.cell? ⟨gb362, 1, none⟩ = some (.int .i64 a0_1) := (blk_cell BK362.out 1).trans rfl; have hcz4_2 : w3.cell? ⟨gb362, 2, none⟩ = some (.string a0_2) := (blk_cell BK362.out 2).trans rfl; have hfz4_0 := blk_frozen BK362.out 0; have hfz4_1 := blk_frozen BK362.out 1; have hfz4_2 := blk_frozen BK362.out 2))
    repeat (go_quiet (first | ((with_reducible refine gate_dst (N := 1) rfl ?_); (try (refine gate_guard (by rfl) ?_; dsimp only)); refine box_event ?hg (N := 1) ?hd (cs := #[.int .i64 a0_0, .int .i64 a0_1, .string a0_2]) (t := 44) ?hr ?_; (case hd => rfl); (case hg => rfl); (case hr => first | (go_simp; done) | (go_simp; rfl)); intro gb362 hg w3 hbox hb; have n0_ := Aside0.mk (below_step (by repeat (first | (with_reducible first | exact HB.out | apply below_alloc | apply pw_below_drewN | apply below_drew1) | exact HB.out)) hb); have n1_ := Aside0.mk (hbox); have n2_ := Aside0.mk ((by rw [hg]; exact (below_size (by repeat (first | (with_reducible first | exact HB.out | apply below_alloc | apply pw_below_drewN | apply below_drew1) | exact HB.out))) : w.heap.size ≤ gb362)); have n3_ := Aside0.mk ((by rw [hg]; exact (below_size (by repeat (first | (with_reducible first | exact HB.out | apply below_alloc | apply pw_below_drewN | apply below_drew1) | exact HB.out))) : w.heap.size ≤ gb362)); clear HB; have HB := n0_; have BK362 := n1_; have GW362 := n2_; have GE362 := n3_; clear n0_ n1_ n2_ n3_; clear hb hbox hg; have hcz4_0 : w3.cell? ⟨gb362, 0, none⟩ = some (.int .i64 a0_0) := (blk_cell BK362.out 0).trans rfl; have hcz4_1 : w3.cell? ⟨gb362, 1, none⟩ = some (.int .i64 a0_1) := (blk_cell BK362.out 1).trans rfl; have hcz4_2 : w3.cell? ⟨gb362, 2, none⟩ = some (.string a0_2) := (blk_cell BK362.out 2).trans rfl; have hfz4_0 := blk_frozen BK362.out 0; have hfz4_1 := blk_frozen BK362.out 1; have hfz4_2 := blk_frozen BK362.out 2)); try go_wp2_with (first | ((with_reducible refine gate_dst (N := 1) rfl ?_); (try (refine gate_guard (by rfl) ?_; dsimp only)); refine box_event ?hg (N := 1) ?hd (cs := #[.int .i64 a0_0, .int .i64 a0_1, .string a0_2]) (t := 44) ?hr ?_; (case hd => rfl); (case hg => rfl); (case hr => first | (go_simp; done) | (go_simp; rfl)); intro gb362 hg w3 hbox hb; have n0_ := Aside0.mk (below_step (by repeat (first | (with_reducible first | exact HB.out | apply below_alloc | apply pw_below_drewN | apply below_drew1) | exact HB.out)) hb); have n1_ := Aside0.mk (hbox); have n2_ := Aside0.mk ((by rw [hg]; exact (below_size (by repeat (first | (with_reducible first | exact HB.out | apply below_alloc | apply pw_below_drewN | apply below_drew1) | exact HB.out))) : w.heap.size ≤ gb362)); have n3_ := Aside0.mk ((by rw [hg]; exact (below_size (by repeat (first | (with_reducible first | exact HB.out | apply below_alloc | apply pw_below_drewN | apply below_drew1) | exact HB.out))) : w.heap.size ≤ gb362)); clear HB; have HB := n0_; have BK362 := n1_; have GW362 := n2_; have GE362 := n3_; clear n0_ n1_ n2_ n3_; clear hb hbox hg; have hcz4_0 : w3.cell? ⟨gb362, 0, none⟩ = some (.int .i64 a0_0) := (blk_cell BK362.out 0).trans rfl; have hcz4_1 : w3.cell? ⟨gb362, 1, none⟩ = some (.int .i64 a0_1) := (blk_cell BK362.out 1).trans rfl; have hcz4_2 : w3.cell? ⟨gb362, 2, none⟩ = some (.string a0_2) := (blk_cell BK362.out 2).trans rfl; have hfz4_0 := blk_frozen BK362.out 0; have hfz4_1 := blk_frozen BK362.out 1; have hfz4_2 := blk_frozen BK362.out 2)))
    go_ret
    exact ⟨by first | rfl | (simp [errW_none, errW_some] <;> rfl) | (simp [*, errW_none, errW_some] <;> rfl), by repeat (first | (with_reducible first | exact HB.out | apply below_alloc | apply pw_below_drewN | apply below_drew1 | refine below_set ?_ GE362.out) | exact HB.out)⟩
  · rw [if_neg c2] at H
    have c2b0 : decide (32768 < (a0_2.size : Int)) = false := decide_eq_false c2
    have c2b1 : decide (32768 < a0_2.size) = false := decide_eq_false (by omega)
    clear c2
    replace H := Option.bind_eq_some_iff.mp H
    obtain ⟨t363, A50, H⟩ := H
    replace H : ((antiquaryref14_Tokens.f k t363).bind fun bt364 => (if bt364.2.2 = 0 then (if (bt364.1.length : Int) = 1 then (if 0 < (bt364.1.length : Int) then (if ((rd_T44 bt364.1 0).f0) = a0_0 then (if ((rd_T44 bt364.1 0).f2).toList = a0_2.toList then (antiquaryref14_Possible.j0 k (((rd_T44 bt364.1 0).f1) == 0)) else (antiquaryref14_Possible.j0 k false)) else (antiquaryref14_Possible.j0 k false)) else (none)) else (antiquaryref14_Possible.j0 k false)) else (antiquaryref14_Possible.j0 k false))) = some r := H
    have A5 := Aside0.mk A50
    clear A50
    replace H := Option.bind_eq_some_iff.mp H
    obtain ⟨⟨t364, t367, t368⟩, A60, H⟩ := H
    replace H : (if t368 = 0 then (if (t364.length : Int) = 1 then (if 0 < (t364.length : Int) then (if ((rd_T44 t364 0).f0) = a0_0 then (if ((rd_T44 t364 0).f2).toList = a0_2.toList then (antiquaryref14_Possible.j0 k (((rd_T44 t364 0).f1) == 0)) else (antiquaryref14_Possible.j0 k false)) else (antiquaryref14_Possible.j0 k false)) else (none)) else (antiquaryref14_Possible.j0 k false)) else (antiquaryref14_Possible.j0 k false)) = some r := H
    have A6 := Aside0.mk A60
    clear A60
    have HC7 := Aside0.mk H
    clear H
    go_enter Tryz.func37, Tryz.ntmps37
    go_upto_region 4 with (first | ((with_reducible refine gate_dst (N := 1) rfl ?_); (try (refine gate_guard (by rfl) ?_; dsimp only)); refine box_event ?hg (N := 1) ?hd (cs := #[.int .i64 a0_0, .int .i64 a0_1, .string a0_2]) (t := 44) ?hr ?_; (case hd => rfl); (case hg => rfl); (case hr => first | (go_simp; done) | (go_simp; rfl)); intro gb362 hg w8 hbox hb; have n0_ := Aside0.mk (below_step (by repeat (first | (with_reducible first | exact HB.out | apply below_alloc | apply pw_below_drewN | apply below_drew1) | exact HB.out)) hb); have n1_ := Aside0.mk (hbox); have n2_ := Aside0.mk ((by rw [hg]; exact (below_size (by repeat (first | (with_reducible first | exact HB.out | apply below_alloc | apply pw_below_drewN | apply below_drew1) | exact HB.out))) : w.heap.size ≤ gb362)); have n3_ := Aside0.mk ((by rw [hg]; exact (below_size (by repeat (first | (with_reducible first | exact HB.out | apply below_alloc | apply pw_below_drewN | apply below_drew1) | exact HB.out))) : w.heap.size ≤ gb362)); clear HB; have HB := n0_; have BK362 := n1_; have GW362 := n2_; have GE362 := n3_; clear n0_ n1_ n2_ n3_; clear hb hbox hg; have hcz9_0 : w8.cell? ⟨gb362, 0, none⟩ = some (.int .i64 a0_0) := (blk_cell BK362.out 0).trans rfl; have hcz9_1 : w8.cell? ⟨gb362, 1, none⟩ = some (.int .i64 a0_1) := (blk_cell BK362.out 1).trans rfl; have hcz9_2 : w8.cell? ⟨gb362, 2, none⟩ = some (.string a0_2) := (blk_cell BK362.out 2).trans rfl; have hfz9_0 := blk_frozen BK362.out 0; have hfz9_1 := blk_frozen BK362.out 1; have hfz9_2 := blk_frozen BK362.out 2) | (go_at_call 40; (with_reducible refine (antiquaryref14_written.calls k a0_0 a0_1 a0_2 t363 _ A5.out).mono ?_); rintro e w10 ⟨rfl, hb⟩; have n0_ := Aside0.mk (blk_below (g := gb362) (o := .cells #[.int .i64 a0_0, .int .i64 a0_1, .string a0_2] 44 (0, 0)) (by (with_reducible repeat (first | refine blk_drewN ?_ _ | refine blk_drew ?_ | refine blk_alloc ?_ _)); exact BK362.out) hb); have n1_ := Aside0.mk (below_step (by repeat (first | (with_reducible first | exact HB.out | apply below_alloc | apply pw_below_drewN | apply below_drew1 | refine below_set ?_ GE362.out) | exact HB.out)) hb); clear BK362; clear HB; have BK362 := n0_; have HB := n1_; clear n0_ n1_; (try clear hb); (try clear hb2); (try clear hk); (try clear hi)) | (go_at_call 11; (with_reducible refine (antiquaryref14_Tokens.calls k t363 t364 t367 t368 _ A6.out).mono ?_); rintro e w11 ⟨v365, rfl, ho0, hb⟩; have n0_ := Aside0.mk (Kd.R_lower (Kd.R_newB ho0 (g := gb362) (o := .cells #[.int .i64 a0_0, .int .i64 a0_1, .string a0_2] 44 (0, 0)) (by (with_reducible repeat (first | refine blk_drewN ?_ _ | refine blk_drew ?_ | refine blk_alloc ?_ _)); exact BK362.out)) (below_size (by repeat (first | (with_reducible first | exact HB.out | apply below_alloc | apply pw_below_drewN | apply below_drew1 | refine below_set ?_ GE362.out) | exact HB.out)))); have n1_ := Aside0.mk (blk_below (g := gb362) (o := .cells #[.int .i64 a0_0, .int .i64 a0_1, .string a0_2] 44 (0, 0)) (by (with_reducible repeat (first | refine blk_drewN ?_ _ | refine blk_drew ?_ | refine blk_alloc ?_ _)); exact BK362.out) hb); have n2_ := Aside0.mk (below_step (by repeat (first | (with_reducible first | exact HB.out | apply below_alloc | apply pw_below_drewN | apply below_drew1 | refine below_set ?_ GE362.out) | exact HB.out)) hb); clear BK362; clear HB; have HO366 := n0_; have BK362 := n1_; have HB := n2_; clear n0_ n1_ n2_; (try clear hb); (try clear hb2); (try clear hk); (try clear hi); (try clear ho0)) | ((with_reducible refine gate_dst (N := 3) rfl ?_); (try (refine gate_guard (by rfl) ?_; dsimp only)); refine box_event ?hg (N := 3) ?hd (cs := #[.slice none 0 0, .int .i64 0, .int .i64 0]) (t := 30) ?hr ?_; (case hd => rfl); (case hg => rfl); (case hr => first | (go_simp; done) | (go_simp; rfl)); intro gb369 hg w12 hbox hb; have n0_ := Aside0.mk (Kd.R_below (by (with_reducible repeat (first | apply Kd.R_alloc | apply Kd.R_drewN | apply Kd.R_drew)); exact HO366.out) hb); have n1_ := Aside0.mk (blk_below (g := gb362) (o := .cells #[.int .i64 a0_0, .int .i64 a0_1, .string a0_2] 44 (0, 0)) (by (with_reducible repeat (first | refine blk_drewN ?_ _ | refine blk_drew ?_ | refine blk_alloc ?_ _)); exact BK362.out) hb); have n2_ := Aside0.mk (below_step (by repeat (first | (with_reducible first | exact HB.out | apply below_alloc | apply pw_below_drewN | apply below_drew1 | refine below_set ?_ GE362.out) | exact HB.out)) hb); have n3_ := Aside0.mk (hbox); have n4_ := Aside0.mk ((by rw [hg]; exact (below_size (by repeat (first | (with_reducible first | exact HB.out | apply below_alloc | apply pw_below_drewN | apply below_drew1 | refine below_set ?_ GE362.out) | exact HB.out))) : w.heap.size ≤ gb369)); have n5_ := Aside0.mk ((by rw [hg]; exact (below_size (by repeat (first | (with_reducible first | exact HB.out | apply below_alloc | apply pw_below_drewN | apply below_drew1 | refine below_set ?_ GE362.out) | exact HB.out))) : w.heap.size ≤ gb369)); have n6_ := Aside0.mk ((by rw [hg]; exact Nat.ne_of_lt (blk_lt (g := gb362) (o := .cells #[.int .i64 a0_0, .int .i64 a0_1, .string a0_2] 44 (0, 0)) (by (with_reducible repeat (first | refine blk_drewN ?_ _ | refine blk_drew ?_ | refine blk_alloc ?_ _)); exact BK362.out)) : gb362 ≠ gb369)); have n7_ := Aside0.mk ((by rw [hg]; exact Nat.ne_of_gt (blk_lt (g := gb362) (o := .cells #[.int .i64 a0_0, .int .i64 a0_1, .string a0_2] 44 (0, 0)) (by (with_reducible repeat (first | refine blk_drewN ?_ _ | refine blk_drew ?_ | refine blk_alloc ?_ _)); exact BK362.out)) : gb369 ≠ gb362)); clear HO366; clear BK362; clear HB; have HO366 := n0_; have BK362 := n1_; have HB := n2_; have BK369 := n3_; have GW369 := n4_; have GE369 := n5_; have NB362_369 := n6_; have NB369_362 := n7_; clear n0_ n1_ n2_ n3_ n4_ n5_ n6_ n7_; clear hb hbox hg; obtain ⟨Ao13, co13, eo13⟩ := Kd.R_slice HO366.out; subst eo13; have hnb14 := NB369_362.out; have hnc14 := NB362_369.out; have hcz15_0 : w12.cell? ⟨gb369, 0, none⟩ = some (.slice none 0 0) := (blk_cell BK369.out 0).trans rfl; have hcz15_1 : w12.cell? ⟨gb369, 1, none⟩ = some (.int .i64 0) := (blk_cell BK369.out 1).trans rfl; have hcz15_2 : w12.cell? ⟨gb369, 2, none⟩ = some (.int .i64 0) := (blk_cell BK369.out 2).trans rfl; have hfz15_0 := blk_frozen BK369.out 0; have hfz15_1 := blk_frozen BK369.out 1; have hfz15_2 := blk_frozen BK369.out 2))
    repeat (go_quiet (first | ((with_reducible refine gate_dst (N := 1) rfl ?_); (try (refine gate_guard (by rfl) ?_; dsimp only)); refine box_event ?hg (N := 1) ?hd (cs := #[.int .i64 a0_0, .int .i64 a0_1, .string a0_2]) (t := 44) ?hr ?_; (case hd => rfl); (case hg => rfl); (case hr => first | (go_simp; done) | (go_simp; rfl)); intro gb362 hg w8 hbox hb; have n0_ := Aside0.mk (below_step (by repeat (first | (with_reducible first | exact HB.out | apply below_alloc | apply pw_below_drewN | apply below_drew1) | exact HB.out)) hb); have n1_ := Aside0.mk (hbox); have n2_ := Aside0.mk ((by rw [hg]; exact (below_size (by repeat (first | (with_reducible first | exact HB.out | apply below_alloc | apply pw_below_drewN | apply below_drew1) | exact HB.out))) : w.heap.size ≤ gb362)); have n3_ := Aside0.mk ((by rw [hg]; exact (below_size (by repeat (first | (with_reducible first | exact HB.out | apply below_alloc | apply pw_below_drewN | apply below_drew1) | exact HB.out))) : w.heap.size ≤ gb362)); clear HB; have HB := n0_; have BK362 := n1_; have GW362 := n2_; have GE362 := n3_; clear n0_ n1_ n2_ n3_; clear hb hbox hg; have hcz9_0 : w8.cell? ⟨gb362, 0, none⟩ = some (.int .i64 a0_0) := (blk_cell BK362.out 0).trans rfl; have hcz9_1 : w8.cell? ⟨gb362, 1, none⟩ = some (.int .i64 a0_1) := (blk_cell BK362.out 1).trans rfl; have hcz9_2 : w8.cell? ⟨gb362, 2, none⟩ = some (.string a0_2) := (blk_cell BK362.out 2).trans rfl; have hfz9_0 := blk_frozen BK362.out 0; have hfz9_1 := blk_frozen BK362.out 1; have hfz9_2 := blk_frozen BK362.out 2) | (go_at_call 40; (with_reducible refine (antiquaryref14_written.calls k a0_0 a0_1 a0_2 t363 _ A5.out).mono ?_); rintro e w10 ⟨rfl, hb⟩; have n0_ := Aside0.mk (blk_below (g := gb362) (o := .cells #[.int .i64 a0_0, .int .i64 a0_1, .string a0_2] 44 (0, 0)) (by (with_reducible repeat (first | refine blk_drewN ?_ _ | refine blk_drew ?_ | refine blk_alloc ?_ _)); exact BK362.out) hb); have n1_ := Aside0.mk (below_step (by repeat (first | (with_reducible first | exact HB.out | apply below_alloc | apply pw_below_drewN | apply below_drew1 | refine below_set ?_ GE362.out) | exact HB.out)) hb); clear BK362; clear HB; have BK362 := n0_; have HB := n1_; clear n0_ n1_; (try clear hb); (try clear hb2); (try clear hk); (try clear hi)) | (go_at_call 11; (with_reducible refine (antiquaryref14_Tokens.calls k t363 t364 t367 t368 _ A6.out).mono ?_); rintro e w11 ⟨v365, rfl, ho0, hb⟩; have n0_ := Aside0.mk (Kd.R_lower (Kd.R_newB ho0 (g := gb362) (o := .cells #[.int .i64 a0_0, .int .i64 a0_1, .string a0_2] 44 (0, 0)) (by (with_reducible repeat (first | refine blk_drewN ?_ _ | refine blk_drew ?_ | refine blk_alloc ?_ _)); exact BK362.out)) (below_size (by repeat (first | (with_reducible first | exact HB.out | apply below_alloc | apply pw_below_drewN | apply below_drew1 | refine below_set ?_ GE362.out) | exact HB.out)))); have n1_ := Aside0.mk (blk_below (g := gb362) (o := .cells #[.int .i64 a0_0, .int .i64 a0_1, .string a0_2] 44 (0, 0)) (by (with_reducible repeat (first | refine blk_drewN ?_ _ | refine blk_drew ?_ | refine blk_alloc ?_ _)); exact BK362.out) hb); have n2_ := Aside0.mk (below_step (by repeat (first | (with_reducible first | exact HB.out | apply below_alloc | apply pw_below_drewN | apply below_drew1 | refine below_set ?_ GE362.out) | exact HB.out)) hb); clear BK362; clear HB; have HO366 := n0_; have BK362 := n1_; have HB := n2_; clear n0_ n1_ n2_; (try clear hb); (try clear hb2); (try clear hk); (try clear hi); (try clear ho0)) | ((with_reducible refine gate_dst (N := 3) rfl ?_); (try (refine gate_guard (by rfl) ?_; dsimp only)); refine box_event ?hg (N := 3) ?hd (cs := #[.slice none 0 0, .int .i64 0, .int .i64 0]) (t := 30) ?hr ?_; (case hd => rfl); (case hg => rfl); (case hr => first | (go_simp; done) | (go_simp; rfl)); intro gb369 hg w12 hbox hb; have n0_ := Aside0.mk (Kd.R_below (by (with_reducible repeat (first | apply Kd.R_alloc | apply Kd.R_drewN | apply Kd.R_drew)); exact HO366.out) hb); have n1_ := Aside0.mk (blk_below (g := gb362) (o := .cells #[.int .i64 a0_0, .int .i64 a0_1, .string a0_2] 44 (0, 0)) (by (with_reducible repeat (first | refine blk_drewN ?_ _ | refine blk_drew ?_ | refine blk_alloc ?_ _)); exact BK362.out) hb); have n2_ := Aside0.mk (below_step (by repeat (first | (with_reducible first | exact HB.out | apply below_alloc | apply pw_below_drewN | apply below_drew1 | refine below_set ?_ GE362.out) | exact HB.out)) hb); have n3_ := Aside0.mk (hbox); have n4_ := Aside0.mk ((by rw [hg]; exact (below_size (by repeat (first | (with_reducible first | exact HB.out | apply below_alloc | apply pw_below_drewN | apply below_drew1 | refine below_set ?_ GE362.out) | exact HB.out))) : w.heap.size ≤ gb369)); have n5_ := Aside0.mk ((by rw [hg]; exact (below_size (by repeat (first | (with_reducible first | exact HB.out | apply below_alloc | apply pw_below_drewN | apply below_drew1 | refine below_set ?_ GE362.out) | exact HB.out))) : w.heap.size ≤ gb369)); have n6_ := Aside0.mk ((by rw [hg]; exact Nat.ne_of_lt (blk_lt (g := gb362) (o := .cells #[.int .i64 a0_0, .int .i64 a0_1, .string a0_2] 44 (0, 0)) (by (with_reducible repeat (first | refine blk_drewN ?_ _ | refine blk_drew ?_ | refine blk_alloc ?_ _)); exact BK362.out)) : gb362 ≠ gb369)); have n7_ := Aside0.mk ((by rw [hg]; exact Nat.ne_of_gt (blk_lt (g := gb362) (o := .cells #[.int .i64 a0_0, .int .i64 a0_1, .string a0_2] 44 (0, 0)) (by (with_reducible repeat (first | refine blk_drewN ?_ _ | refine blk_drew ?_ | refine blk_alloc ?_ _)); exact BK362.out)) : gb369 ≠ gb362)); clear HO366; clear BK362; clear HB; have HO366 := n0_; have BK362 := n1_; have HB := n2_; have BK369 := n3_; have GW369 := n4_; have GE369 := n5_; have NB362_369 := n6_; have NB369_362 := n7_; clear n0_ n1_ n2_ n3_ n4_ n5_ n6_ n7_; clear hb hbox hg; obtain ⟨Ao13, co13, eo13⟩ := Kd.R_slice HO366.out; subst eo13; have hnb14 := NB369_362.out; have hnc14 := NB362_369.out; have hcz15_0 : w12.cell? ⟨gb369, 0, none⟩ = some (.slice none 0 0) := (blk_cell BK369.out 0).trans rfl; have hcz15_1 : w12.cell? ⟨gb369, 1, none⟩ = some (.int .i64 0) := (blk_cell BK369.out 1).trans rfl; have hcz15_2 : w12.cell? ⟨gb369, 2, none⟩ = some (.int .i64 0) := (blk_cell BK369.out 2).trans rfl; have hfz15_0 := blk_frozen BK369.out 0; have hfz15_1 := blk_frozen BK369.out 1; have hfz15_2 := blk_frozen BK369.out 2)); go_upto_region 4 with (first | ((with_reducible refine gate_dst (N := 1) rfl ?_); (try (refine gate_guard (by rfl) ?_; dsimp only)); refine box_event ?hg (N := 1) ?hd (cs := #[.int .i64 a0_0, .int .i64 a0_1, .string a0_2]) (t := 44) ?hr ?_; (case hd => rfl); (case hg => rfl); (case hr => first | (go_simp; done) | (go_simp; rfl)); intro gb362 hg w8 hbox hb; have n0_ := Aside0.mk (below_step (by repeat (first | (with_reducible first | exact HB.out | apply below_alloc | apply pw_below_drewN | apply below_drew1) | exact HB.out)) hb); have n1_ := Aside0.mk (hbox); have n2_ := Aside0.mk ((by rw [hg]; exact (below_size (by repeat (first | (with_reducible first | exact HB.out | apply below_alloc | apply pw_below_drewN | apply below_drew1) | exact HB.out))) : w.heap.size ≤ gb362)); have n3_ := Aside0.mk ((by rw [hg]; exact (below_size (by repeat (first | (with_reducible first | exact HB.out | apply below_alloc | apply pw_below_drewN | apply below_drew1) | exact HB.out))) : w.heap.size ≤ gb362)); clear HB; have HB := n0_; have BK362 := n1_; have GW362 := n2_; have GE362 := n3_; clear n0_ n1_ n2_ n3_; clear hb hbox hg; have hcz9_0 : w8.cell? ⟨gb362, 0, none⟩ = some (.int .i64 a0_0) := (blk_cell BK362.out 0).trans rfl; have hcz9_1 : w8.cell? ⟨gb362, 1, none⟩ = some (.int .i64 a0_1) := (blk_cell BK362.out 1).trans rfl; have hcz9_2 : w8.cell? ⟨gb362, 2, none⟩ = some (.string a0_2) := (blk_cell BK362.out 2).trans rfl; have hfz9_0 := blk_frozen BK362.out 0; have hfz9_1 := blk_frozen BK362.out 1; have hfz9_2 := blk_frozen BK362.out 2) | (go_at_call 40; (with_reducible refine (antiquaryref14_written.calls k a0_0 a0_1 a0_2 t363 _ A5.out).mono ?_); rintro e w10 ⟨rfl, hb⟩; have n0_ := Aside0.mk (blk_below (g := gb362) (o := .cells #[.int .i64 a0_0, .int .i64 a0_1, .string a0_2] 44 (0, 0)) (by (with_reducible repeat (first | refine blk_drewN ?_ _ | refine blk_drew ?_ | refine blk_alloc ?_ _)); exact BK362.out) hb); have n1_ := Aside0.mk (below_step (by repeat (first | (with_reducible first | exact HB.out | apply below_alloc | apply pw_below_drewN | apply below_drew1 | refine below_set ?_ GE362.out) | exact HB.out)) hb); clear BK362; clear HB; have BK362 := n0_; have HB := n1_; clear n0_ n1_; (try clear hb); (try clear hb2); (try clear hk); (try clear hi)) | (go_at_call 11; (with_reducible refine (antiquaryref14_Tokens.calls k t363 t364 t367 t368 _ A6.out).mono ?_); rintro e w11 ⟨v365, rfl, ho0, hb⟩; have n0_ := Aside0.mk (Kd.R_lower (Kd.R_newB ho0 (g := gb362) (o := .cells #[.int .i64 a0_0, .int .i64 a0_1, .string a0_2] 44 (0, 0)) (by (with_reducible repeat (first | refine blk_drewN ?_ _ | refine blk_drew ?_ | refine blk_alloc ?_ _)); exact BK362.out)) (below_size (by repeat (first | (with_reducible first | exact HB.out | apply below_alloc | apply pw_below_drewN | apply below_drew1 | refine below_set ?_ GE362.out) | exact HB.out)))); have n1_ := Aside0.mk (blk_below (g := gb362) (o := .cells #[.int .i64 a0_0, .int .i64 a0_1, .string a0_2] 44 (0, 0)) (by (with_reducible repeat (first | refine blk_drewN ?_ _ | refine blk_drew ?_ | refine blk_alloc ?_ _)); exact BK362.out) hb); have n2_ := Aside0.mk (below_step (by repeat (first | (with_reducible first | exact HB.out | apply below_alloc | apply pw_below_drewN | apply below_drew1 | refine below_set ?_ GE362.out) | exact HB.out)) hb); clear BK362; clear HB; have HO366 := n0_; have BK362 := n1_; have HB := n2_; clear n0_ n1_ n2_; (try clear hb); (try clear hb2); (try clear hk); (try clear hi); (try clear ho0)) | ((with_reducible refine gate_dst (N := 3) rfl ?_); (try (refine gate_guard (by rfl) ?_; dsimp only)); refine box_event ?hg (N := 3) ?hd (cs := #[.slice none 0 0, .int .i64 0, .int .i64 0]) (t := 30) ?hr ?_; (case hd => rfl); (case hg => rfl); (case hr => first | (go_simp; done) | (go_simp; rfl)); intro gb369 hg w12 hbox hb; have n0_ := Aside0.mk (Kd.R_below (by (with_reducible repeat (first | apply Kd.R_alloc | apply Kd.R_drewN | apply Kd.R_drew)); exact HO366.out) hb); have n1_ := Aside0.mk (blk_below (g := gb362) (o := .cells #[.int .i64 a0_0, .int .i64 a0_1, .string a0_2] 44 (0, 0)) (by (with_reducible repeat (first | refine blk_drewN ?_ _ | refine blk_drew ?_ | refine blk_alloc ?_ _)); exact BK362.out) hb); have n2_ := Aside0.mk (below_step (by repeat (first | (with_reducible first | exact HB.out | apply below_alloc | apply pw_below_drewN | apply below_drew1 | refine below_set ?_ GE362.out) | exact HB.out)) hb); have n3_ := Aside0.mk (hbox); have n4_ := Aside0.mk ((by rw [hg]; exact (below_size (by repeat (first | (with_reducible first | exact HB.out | apply below_alloc | apply pw_below_drewN | apply below_drew1 | refine below_set ?_ GE362.out) | exact HB.out))) : w.heap.size ≤ gb369)); have n5_ := Aside0.mk ((by rw [hg]; exact (below_size (by repeat (first | (with_reducible first | exact HB.out | apply below_alloc | apply pw_below_drewN | apply below_drew1 | refine below_set ?_ GE362.out) | exact HB.out))) : w.heap.size ≤ gb369)); have n6_ := Aside0.mk ((by rw [hg]; exact Nat.ne_of_lt (blk_lt (g := gb362) (o := .cells #[.int .i64 a0_0, .int .i64 a0_1, .string a0_2] 44 (0, 0)) (by (with_reducible repeat (first | refine blk_drewN ?_ _ | refine blk_drew ?_ | refine blk_alloc ?_ _)); exact BK362.out)) : gb362 ≠ gb369)); have n7_ := Aside0.mk ((by rw [hg]; exact Nat.ne_of_gt (blk_lt (g := gb362) (o := .cells #[.int .i64 a0_0, .int .i64 a0_1, .string a0_2] 44 (0, 0)) (by (with_reducible repeat (first | refine blk_drewN ?_ _ | refine blk_drew ?_ | refine blk_alloc ?_ _)); exact BK362.out)) : gb369 ≠ gb362)); clear HO366; clear BK362; clear HB; have HO366 := n0_; have BK362 := n1_; have HB := n2_; have BK369 := n3_; have GW369 := n4_; have GE369 := n5_; have NB362_369 := n6_; have NB369_362 := n7_; clear n0_ n1_ n2_ n3_ n4_ n5_ n6_ n7_; clear hb hbox hg; obtain ⟨Ao13, co13, eo13⟩ := Kd.R_slice HO366.out; subst eo13; have hnb14 := NB369_362.out; have hnc14 := NB362_369.out; have hcz15_0 : w12.cell? ⟨gb369, 0, none⟩ = some (.slice none 0 0) := (blk_cell BK369.out 0).trans rfl; have hcz15_1 : w12.cell? ⟨gb369, 1, none⟩ = some (.int .i64 0) := (blk_cell BK369.out 1).trans rfl; have hcz15_2 : w12.cell? ⟨gb369, 2, none⟩ = some (.int .i64 0) := (blk_cell BK369.out 2).trans rfl; have hfz15_0 := blk_frozen BK369.out 0; have hfz15_1 := blk_frozen BK369.out 1; have hfz15_2 := blk_frozen BK369.out 2)))
    (try simp only [Act.put, List.setIfInBounds_toArray, List.set_cons_zero, List.set_cons_succ])
    go_cut [2] (fun v2 wc => ∃ (kq : Nat) (x2_6 : Bool), v2 = .bool x2_6 ∧ Aside0 (antiquaryref14_Possible.j0 kq x2_6 = some r) ∧ Aside0 (kq ≤ k) ∧ Aside0 (Kd.R k44 44 wc w.heap.size (fun k_ => k_ ≠ gb362) (.slice Ao13 t364.length co13) t364) ∧ Aside0 (wc.heap[gb362]? = some (.cells #[.int .i64 a0_0, .int .i64 a0_1, .string a0_2] 44 (0, 0))) ∧ Aside0 (wc.heap[gb369]? = some (.cells #[(.slice Ao13 t364.length co13), .int .i64 t367, .int .i64 t368] 30 (0, 0))) ∧ Aside0 (Below w.heap.size w wc))
    case first =>
      have H := HC7.out
      clear HC7
      by_cases c16 : t368 = 0
      · rw [if_pos c16] at H
        have c16b0 : (t368 == 0) = true := beq_iff_eq.mpr c16
        have c16b1 : (t368 != 0) = false := bne_eq_false_iff_eq.mpr c16
        clear c16
        (first | rw [c16b0] | (simp only [i64_w, i32_w]; rw [c16b0]) | rw [c16b1] | skip)
        by_cases c17 : (t364.length : Int) = 1
        · rw [if_pos c17] at H
          have c17b0 : ((t364.length : Int) == 1) = true := beq_iff_eq.mpr c17
          have c17b1 : ((t364.length : Int) != 1) = false := bne_eq_false_iff_eq.mpr c17
          clear c17
          by_cases c18 : 0 < (t364.length : Int)
          · rw [if_pos c18] at H
            have c18b0 : decide (0 < (t364.length : Int)) = true := decide_eq_true c18
            have c18b1 : decide (0 < t364.length) = true := decide_eq_true (by omega)
            clear c18
            by_cases c19 : ((rd_T44 t364 0).f0) = a0_0
            · rw [if_pos c19] at H
              have c19b0 : (((rd_T44 t364 0).f0) == a0_0) = true := beq_iff_eq.mpr c19
              have c19b1 : (((rd_T44 t364 0).f0) != a0_0) = false := bne_eq_false_iff_eq.mpr c19
              clear c19
              by_cases c20 : ((rd_T44 t364 0).f2).toList = a0_2.toList
              · rw [if_pos c20] at H
                have c20b0 : (((rd_T44 t364 0).f2).toList == a0_2.toList) = true := beq_iff_eq.mpr c20
                have c20b1 : (((rd_T44 t364 0).f2).toList != a0_2.toList) = false := bne_eq_false_iff_eq.mpr c20
                clear c20
                have H' := Aside0.mk H
                clear H
                have hnb21 := NB369_362.out
                have hnc21 := NB362_369.out
                have hcz22_0 : w12.cell? ⟨gb369, 0, none⟩ = some (.slice none 0 0) := (blk_cell BK369.out 0).trans rfl
                have hcz22_1 : w12.cell? ⟨gb369, 1, none⟩ = some (.int .i64 0) := (blk_cell BK369.out 1).trans rfl
                have hcz22_2 : w12.cell? ⟨gb369, 2, none⟩ = some (.int .i64 0) := (blk_cell BK369.out 2).trans rfl
                have hfz22_0 := blk_frozen BK369.out 0
                have hfz22_1 := blk_frozen BK369.out 1
                have hfz22_2 := blk_frozen BK369.out 2
                have p370 : 0 ≤ (0 : Int) := (by omega)
                have q370 : 0 < (t364.length : Int) := of_decide_eq_true (by first | (with_reducible assumption) | assumption)
                obtain ⟨ad370, e370, hx370_0, hx370_1, hx370_2⟩ := at_T44 (Kd.R_reads' HO366.out).2.2 0 p370 q370
                cases e370
                have qi370 : (0 < t364.length) = True := eq_true (by omega)
                (try rw [show ((0 : Int)).toNat = 0 from rfl] at hx370_0)
                (try rw [show 0 * 3 = 0 from rfl] at hx370_0)
                (try rw [Addr.add_zero'] at hx370_0)
                (try rw [show ((0 : Int)).toNat = 0 from rfl] at hx370_1)
                (try rw [show 0 * 3 = 0 from rfl] at hx370_1)
                (try rw [Addr.add_zero'] at hx370_1)
                (try rw [show ((0 : Int)).toNat = 0 from rfl] at hx370_2)
                (try rw [show 0 * 3 = 0 from rfl] at hx370_2)
                (try rw [Addr.add_zero'] at hx370_2)
                have hn370_0 : ad370.block ≠ gb369 := Kd.own_blk (Kd.R_ne HO366.out BK369.out (by decide))
                have hn370_1 : ad370.block ≠ gb369 := Kd.own_blk (Kd.R_ne HO366.out BK369.out (by decide))
                have hn370_2 : ad370.block ≠ gb369 := Kd.own_blk (Kd.R_ne HO366.out BK369.out (by decide))
                replace hx370_0 := (cell_far (p := ⟨gb369, 0, none⟩) (by first | (rw [add_block]; exact hn370_0) | (show (Addr.add _ _).block ≠ _; rw [add_block]; exact hn370_0) | exact hn370_0) (.slice (some ad370) t364.length co13)).trans hx370_0
                replace hx370_1 := (cell_far (p := ⟨gb369, 0, none⟩) (by first | (rw [add_block]; exact hn370_0) | (show (Addr.add _ _).block ≠ _; rw [add_block]; exact hn370_0) | exact hn370_0) (.slice (some ad370) t364.length co13)).trans hx370_1
                replace hx370_2 := (cell_far (p := ⟨gb369, 0, none⟩) (by first | (rw [add_block]; exact hn370_0) | (show (Addr.add _ _).block ≠ _; rw [add_block]; exact hn370_0) | exact hn370_0) (.slice (some ad370) t364.length co13)).trans hx370_2
                replace hx370_0 := (cell_far (p := ⟨gb369, 1, none⟩) (by first | (rw [add_block]; exact hn370_1) | (show (Addr.add _ _).block ≠ _; rw [add_block]; exact hn370_1) | exact hn370_1) (.int .i64 t367)).trans hx370_0
                replace hx370_1 := (cell_far (p := ⟨gb369, 1, none⟩) (by first | (rw [add_block]; exact hn370_1) | (show (Addr.add _ _).block ≠ _; rw [add_block]; exact hn370_1) | exact hn370_1) (.int .i64 t367)).trans hx370_1
                replace hx370_2 := (cell_far (p := ⟨gb369, 1, none⟩) (by first | (rw [add_block]; exact hn370_1) | (show (Addr.add _ _).block ≠ _; rw [add_block]; exact hn370_1) | exact hn370_1) (.int .i64 t367)).trans hx370_2
                replace hx370_0 := (cell_far (p := ⟨gb369, 2, none⟩) (by first | (rw [add_block]; exact hn370_2) | (show (Addr.add _ _).block ≠ _; rw [add_block]; exact hn370_2) | exact hn370_2) (.int .i64 t368)).trans hx370_0
                replace hx370_1 := (cell_far (p := ⟨gb369, 2, none⟩) (by first | (rw [add_block]; exact hn370_2) | (show (Addr.add _ _).block ≠ _; rw [add_block]; exact hn370_2) | exact hn370_2) (.int .i64 t368)).trans hx370_1
                replace hx370_2 := (cell_far (p := ⟨gb369, 2, none⟩) (by first | (rw [add_block]; exact hn370_2) | (show (Addr.add _ _).block ≠ _; rw [add_block]; exact hn370_2) | exact hn370_2) (.int .i64 t368)).trans hx370_2
                (try have hy370_0 := fun (n_ : Nat) => (show (((((w12.drewN n_).setCell ⟨gb369, 0, none⟩ (.slice (some ad370) t364.length co13)).setCell ⟨gb369, 1, none⟩ (.int .i64 t367)).setCell ⟨gb369, 2, none⟩ (.int .i64 t368))).cell? _ = some _ from hx370_0))
                (try have hy370_1 := fun (n_ : Nat) => (show (((((w12.drewN n_).setCell ⟨gb369, 0, none⟩ (.slice (some ad370) t364.length co13)).setCell ⟨gb369, 1, none⟩ (.int .i64 t367)).setCell ⟨gb369, 2, none⟩ (.int .i64 t368))).cell? _ = some _ from hx370_1))
                (try have hy370_2 := fun (n_ : Nat) => (show (((((w12.drewN n_).setCell ⟨gb369, 0, none⟩ (.slice (some ad370) t364.length co13)).setCell ⟨gb369, 1, none⟩ (.int .i64 t367)).setCell ⟨gb369, 2, none⟩ (.int .i64 t368))).cell? _ = some _ from hx370_2))
                clear hn370_0
                clear hn370_1
                clear hn370_2
                replace p370 := eq_true p370
                replace q370 := eq_true q370
                have hcz23_0 : w12.cell? ⟨gb362, 0, none⟩ = some (.int .i64 a0_0) := (blk_cell BK362.out 0).trans rfl
                have hcz23_1 : w12.cell? ⟨gb362, 1, none⟩ = some (.int .i64 a0_1) := (blk_cell BK362.out 1).trans rfl
                have hcz23_2 : w12.cell? ⟨gb362, 2, none⟩ = some (.string a0_2) := (blk_cell BK362.out 2).trans rfl
                have hfz23_0 := blk_frozen BK362.out 0
                have hfz23_1 := blk_frozen BK362.out 1
                have hfz23_2 := blk_frozen BK362.out 2
                have p371 : 0 ≤ (0 : Int) := (by omega)
                have q371 : 0 < (t364.length : Int) := of_decide_eq_true (by first | (with_reducible assumption) | assumption)
                obtain ⟨ad371, e371, hx371_0, hx371_1, hx371_2⟩ := at_T44 (Kd.R_reads' HO366.out).2.2 0 p371 q371
                obtain rfl : ad370 = ad371 := (by injection e371)
                have qi371 : (0 < t364.length) = True := eq_true (by omega)
                (try rw [show ((0 : Int)).toNat = 0 from rfl] at hx371_0)
                (try rw [show 0 * 3 = 0 from rfl] at hx371_0)
                (try rw [Addr.add_zero'] at hx371_0)
                (try rw [show ((0 : Int)).toNat = 0 from rfl] at hx371_1)
                (try rw [show 0 * 3 = 0 from rfl] at hx371_1)
                (try rw [Addr.add_zero'] at hx371_1)
                (try rw [show ((0 : Int)).toNat = 0 from rfl] at hx371_2)
                (try rw [show 0 * 3 = 0 from rfl] at hx371_2)
                (try rw [Addr.add_zero'] at hx371_2)
                have hn371_0 : ad370.block ≠ gb369 := Kd.own_blk (Kd.R_ne HO366.out BK369.out (by decide))
                have hn371_1 : ad370.block ≠ gb369 := Kd.own_blk (Kd.R_ne HO366.out BK369.out (by decide))
                have hn371_2 : ad370.block ≠ gb369 := Kd.own_blk (Kd.R_ne HO366.out BK369.out (by decide))
                replace hx371_0 := (cell_far (p := ⟨gb369, 0, none⟩) (by first | (rw [add_block]; exact hn371_0) | (show (Addr.add _ _).block ≠ _; rw [add_block]; exact hn371_0) | exact hn371_0) (.slice (some ad370) t364.length co13)).trans hx371_0
                replace hx371_1 := (cell_far (p := ⟨gb369, 0, none⟩) (by first | (rw [add_block]; exact hn371_0) | (show (Addr.add _ _).block ≠ _; rw [add_block]; exact hn371_0) | exact hn371_0) (.slice (some ad370) t364.length co13)).trans hx371_1
                replace hx371_2 := (cell_far (p := ⟨gb369, 0, none⟩) (by first | (rw [add_block]; exact hn371_0) | (show (Addr.add _ _).block ≠ _; rw [add_block]; exact hn371_0) | exact hn371_0) (.slice (some ad370) t364.length co13)).trans hx371_2
                replace hx371_0 := (cell_far (p := ⟨gb369, 1, none⟩) (by first | (rw [add_block]; exact hn371_1) | (show (Addr.add _ _).block ≠ _; rw [add_block]; exact hn371_1) | exact hn371_1) (.int .i64 t367)).trans hx371_0
                replace hx371_1 := (cell_far (p := ⟨gb369, 1, none⟩) (by first | (rw [add_block]; exact hn371_1) | (show (Addr.add _ _).block ≠ _; rw [add_block]; exact hn371_1) | exact hn371_1) (.int .i64 t367)).trans hx371_1
                replace hx371_2 := (cell_far (p := ⟨gb369, 1, none⟩) (by first | (rw [add_block]; exact hn371_1) | (show (Addr.add _ _).block ≠ _; rw [add_block]; exact hn371_1) | exact hn371_1) (.int .i64 t367)).trans hx371_2
                replace hx371_0 := (cell_far (p := ⟨gb369, 2, none⟩) (by first | (rw [add_block]; exact hn371_2) | (show (Addr.add _ _).block ≠ _; rw [add_block]; exact hn371_2) | exact hn371_2) (.int .i64 t368)).trans hx371_0
                replace hx371_1 := (cell_far (p := ⟨gb369, 2, none⟩) (by first | (rw [add_block]; exact hn371_2) | (show (Addr.add _ _).block ≠ _; rw [add_block]; exact hn371_2) | exact hn371_2) (.int .i64 t368)).trans hx371_1
                replace hx371_2 := (cell_far (p := ⟨gb369, 2, none⟩) (by first | (rw [add_block]; exact hn371_2) | (show (Addr.add _ _).block ≠ _; rw [add_block]; exact hn371_2) | exact hn371_2) (.int .i64 t368)).trans hx371_2
                (try have hy371_0 := fun (n_ : Nat) => (show (((((w12.drewN n_).setCell ⟨gb369, 0, none⟩ (.slice (some ad370) t364.length co13)).setCell ⟨gb369, 1, none⟩ (.int .i64 t367)).setCell ⟨gb369, 2, none⟩ (.int .i64 t368))).cell? _ = some _ from hx371_0))
                (try have hy371_1 := fun (n_ : Nat) => (show (((((w12.drewN n_).setCell ⟨gb369, 0, none⟩ (.slice (some ad370) t364.length co13)).setCell ⟨gb369, 1, none⟩ (.int .i64 t367)).setCell ⟨gb369, 2, none⟩ (.int .i64 t368))).cell? _ = some _ from hx371_1))
                (try have hy371_2 := fun (n_ : Nat) => (show (((((w12.drewN n_).setCell ⟨gb369, 0, none⟩ (.slice (some ad370) t364.length co13)).setCell ⟨gb369, 1, none⟩ (.int .i64 t367)).setCell ⟨gb369, 2, none⟩ (.int .i64 t368))).cell? _ = some _ from hx371_2))
                clear hn371_0
                clear hn371_1
                clear hn371_2
                replace p371 := eq_true p371
                replace q371 := eq_true q371
                have p372 : 0 ≤ (0 : Int) := (by omega)
                have q372 : 0 < (t364.length : Int) := of_decide_eq_true (by first | (with_reducible assumption) | assumption)
                obtain ⟨ad372, e372, hx372_0, hx372_1, hx372_2⟩ := at_T44 (Kd.R_reads' HO366.out).2.2 0 p372 q372
                obtain rfl : ad370 = ad372 := (by injection e372)
                have qi372 : (0 < t364.length) = True := eq_true (by omega)
                (try rw [show ((0 : Int)).toNat = 0 from rfl] at hx372_0)
                (try rw [show 0 * 3 = 0 from rfl] at hx372_0)
                (try rw [Addr.add_zero'] at hx372_0)
                (try rw [show ((0 : Int)).toNat = 0 from rfl] at hx372_1)
                (try rw [show 0 * 3 = 0 from rfl] at hx372_1)
                (try rw [Addr.add_zero'] at hx372_1)
                (try rw [show ((0 : Int)).toNat = 0 from rfl] at hx372_2)
                (try rw [show 0 * 3 = 0 from rfl] at hx372_2)
                (try rw [Addr.add_zero'] at hx372_2)
                have hn372_0 : ad370.block ≠ gb369 := Kd.own_blk (Kd.R_ne HO366.out BK369.out (by decide))
                have hn372_1 : ad370.block ≠ gb369 := Kd.own_blk (Kd.R_ne HO366.out BK369.out (by decide))
                have hn372_2 : ad370.block ≠ gb369 := Kd.own_blk (Kd.R_ne HO366.out BK369.out (by decide))
                replace hx372_0 := (cell_far (p := ⟨gb369, 0, none⟩) (by first | (rw [add_block]; exact hn372_0) | (show (Addr.add _ _).block ≠ _; rw [add_block]; exact hn372_0) | exact hn372_0) (.slice (some ad370) t364.length co13)).trans hx372_0
                replace hx372_1 := (cell_far (p := ⟨gb369, 0, none⟩) (by first | (rw [add_block]; exact hn372_0) | (show (Addr.add _ _).block ≠ _; rw [add_block]; exact hn372_0) | exact hn372_0) (.slice (some ad370) t364.length co13)).trans hx372_1
                replace hx372_2 := (cell_far (p := ⟨gb369, 0, none⟩) (by first | (rw [add_block]; exact hn372_0) | (show (Addr.add _ _).block ≠ _; rw [add_block]; exact hn372_0) | exact hn372_0) (.slice (some ad370) t364.length co13)).trans hx372_2
                replace hx372_0 := (cell_far (p := ⟨gb369, 1, none⟩) (by first | (rw [add_block]; exact hn372_1) | (show (Addr.add _ _).block ≠ _; rw [add_block]; exact hn372_1) | exact hn372_1) (.int .i64 t367)).trans hx372_0
                replace hx372_1 := (cell_far (p := ⟨gb369, 1, none⟩) (by first | (rw [add_block]; exact hn372_1) | (show (Addr.add _ _).block ≠ _; rw [add_block]; exact hn372_1) | exact hn372_1) (.int .i64 t367)).trans hx372_1
                replace hx372_2 := (cell_far (p := ⟨gb369, 1, none⟩) (by first | (rw [add_block]; exact hn372_1) | (show (Addr.add _ _).block ≠ _; rw [add_block]; exact hn372_1) | exact hn372_1) (.int .i64 t367)).trans hx372_2
                replace hx372_0 := (cell_far (p := ⟨gb369, 2, none⟩) (by first | (rw [add_block]; exact hn372_2) | (show (Addr.add _ _).block ≠ _; rw [add_block]; exact hn372_2) | exact hn372_2) (.int .i64 t368)).trans hx372_0
                replace hx372_1 := (cell_far (p := ⟨gb369, 2, none⟩) (by first | (rw [add_block]; exact hn372_2) | (show (Addr.add _ _).block ≠ _; rw [add_block]; exact hn372_2) | exact hn372_2) (.int .i64 t368)).trans hx372_1
                replace hx372_2 := (cell_far (p := ⟨gb369, 2, none⟩) (by first | (rw [add_block]; exact hn372_2) | (show (Addr.add _ _).block ≠ _; rw [add_block]; exact hn372_2) | exact hn372_2) (.int .i64 t368)).trans hx372_2
                (try have hy372_0 := fun (n_ : Nat) => (show (((((w12.drewN n_).setCell ⟨gb369, 0, none⟩ (.slice (some ad370) t364.length co13)).setCell ⟨gb369, 1, none⟩ (.int .i64 t367)).setCell ⟨gb369, 2, none⟩ (.int .i64 t368))).cell? _ = some _ from hx372_0))
                (try have hy372_1 := fun (n_ : Nat) => (show (((((w12.drewN n_).setCell ⟨gb369, 0, none⟩ (.slice (some ad370) t364.length co13)).setCell ⟨gb369, 1, none⟩ (.int .i64 t367)).setCell ⟨gb369, 2, none⟩ (.int .i64 t368))).cell? _ = some _ from hx372_1))
                (try have hy372_2 := fun (n_ : Nat) => (show (((((w12.drewN n_).setCell ⟨gb369, 0, none⟩ (.slice (some ad370) t364.length co13)).setCell ⟨gb369, 1, none⟩ (.int .i64 t367)).setCell ⟨gb369, 2, none⟩ (.int .i64 t368))).cell? _ = some _ from hx372_2))
                clear hn372_0
                clear hn372_1
                clear hn372_2
                replace p372 := eq_true p372
                replace q372 := eq_true q372
                go_wp2
                repeat (go_quiet (fail); try go_wp2)
                go_meet
                case rel => exact ⟨_, ((((rd_T44 t364 0).f1) == 0)), (by first | rfl | (simp; done) | (simp [*]; done)), H', ⟨by first | omega | exact Nat.le_refl _⟩, ⟨by (with_reducible repeat (first | apply Kd.R_alloc | apply Kd.R_drewN | apply Kd.R_drew)); exact Kd.R_mono (Kd.R_far (p := ⟨gb369, 2, none⟩) (Kd.R_far (p := ⟨gb369, 1, none⟩) (Kd.R_far (p := ⟨gb369, 0, none⟩) (Kd.R_types HO366.out BK369.out (by decide)) (fun _ hk => hk.2) (.slice (some ad370) t364.length co13)) (fun _ hk => hk.2) (.int .i64 t367)) (fun _ hk => hk.2) (.int .i64 t368)) (fun _ hk => hk.1.2)⟩, ⟨by (with_reducible repeat (first | refine blk_drewN ?_ _ | refine blk_drew ?_ | refine blk_alloc ?_ _)); refine blk_far ?_ NB362_369.out _; (with_reducible repeat (first | refine blk_drewN ?_ _ | refine blk_drew ?_ | refine blk_alloc ?_ _)); refine blk_far ?_ NB362_369.out _; (with_reducible repeat (first | refine blk_drewN ?_ _ | refine blk_drew ?_ | refine blk_alloc ?_ _)); refine blk_far ?_ NB362_369.out _; (with_reducible repeat (first | refine blk_drewN ?_ _ | refine blk_drew ?_ | refine blk_alloc ?_ _)); exact BK362.out⟩, ⟨by (with_reducible repeat (first | refine blk_drewN ?_ _ | refine blk_drew ?_ | refine blk_alloc ?_ _)); refine blk_put (cs := #[.slice (some ad370) t364.length co13, .int .i64 t367, .int .i64 0]) ?_ 2 _ rfl; (with_reducible repeat (first | refine blk_drewN ?_ _ | refine blk_drew ?_ | refine blk_alloc ?_ _)); refine blk_put (cs := #[.slice (some ad370) t364.length co13, .int .i64 0, .int .i64 0]) ?_ 1 _ rfl; (with_reducible repeat (first | refine blk_drewN ?_ _ | refine blk_drew ?_ | refine blk_alloc ?_ _)); refine blk_put (cs := #[.slice none 0 0, .int .i64 0, .int .i64 0]) ?_ 0 _ rfl; (with_reducible repeat (first | refine blk_drewN ?_ _ | refine blk_drew ?_ | refine blk_alloc ?_ _)); exact BK369.out⟩, ⟨by repeat (first | (with_reducible first | exact HB.out | apply below_alloc | apply pw_below_drewN | apply below_drew1 | refine below_set ?_ GE362.out | refine below_set ?_ GE369.out) | exact HB.out)⟩⟩
              · rw [if_neg c20] at H
                have c20b0 : (((rd_T44 t364 0).f2).toList == a0_2.toList) = false := beq_eq_false_iff_ne.mpr c20
                have c20b1 : (((rd_T44 t364 0).f2).toList != a0_2.toList) = true := bne_iff_ne.mpr c20
                have H' := Aside0.mk H
                clear H
                have hnb24 := NB369_362.out
                have hnc24 := NB362_369.out
                have hcz25_0 : w12.cell? ⟨gb369, 0, none⟩ = some (.slice none 0 0) := (blk_cell BK369.out 0).trans rfl
                have hcz25_1 : w12.cell? ⟨gb369, 1, none⟩ = some (.int .i64 0) := (blk_cell BK369.out 1).trans rfl
                have hcz25_2 : w12.cell? ⟨gb369, 2, none⟩ = some (.int .i64 0) := (blk_cell BK369.out 2).trans rfl
                have hfz25_0 := blk_frozen BK369.out 0
                have hfz25_1 := blk_frozen BK369.out 1
                have hfz25_2 := blk_frozen BK369.out 2
                have p370 : 0 ≤ (0 : Int) := (by omega)
                have q370 : 0 < (t364.length : Int) := of_decide_eq_true (by first | (with_reducible assumption) | assumption)
                obtain ⟨ad370, e370, hx370_0, hx370_1, hx370_2⟩ := at_T44 (Kd.R_reads' HO366.out).2.2 0 p370 q370
                cases e370
                have qi370 : (0 < t364.length) = True := eq_true (by omega)
                (try rw [show ((0 : Int)).toNat = 0 from rfl] at hx370_0)
                (try rw [show 0 * 3 = 0 from rfl] at hx370_0)
                (try rw [Addr.add_zero'] at hx370_0)
                (try rw [show ((0 : Int)).toNat = 0 from rfl] at hx370_1)
                (try rw [show 0 * 3 = 0 from rfl] at hx370_1)
                (try rw [Addr.add_zero'] at hx370_1)
                (try rw [show ((0 : Int)).toNat = 0 from rfl] at hx370_2)
                (try rw [show 0 * 3 = 0 from rfl] at hx370_2)
                (try rw [Addr.add_zero'] at hx370_2)
                have hn370_0 : ad370.block ≠ gb369 := Kd.own_blk (Kd.R_ne HO366.out BK369.out (by decide))
                have hn370_1 : ad370.block ≠ gb369 := Kd.own_blk (Kd.R_ne HO366.out BK369.out (by decide))
                have hn370_2 : ad370.block ≠ gb369 := Kd.own_blk (Kd.R_ne HO366.out BK369.out (by decide))
                replace hx370_0 := (cell_far (p := ⟨gb369, 0, none⟩) (by first | (rw [add_block]; exact hn370_0) | (show (Addr.add _ _).block ≠ _; rw [add_block]; exact hn370_0) | exact hn370_0) (.slice (some ad370) t364.length co13)).trans hx370_0
                replace hx370_1 := (cell_far (p := ⟨gb369, 0, none⟩) (by first | (rw [add_block]; exact hn370_0) | (show (Addr.add _ _).block ≠ _; rw [add_block]; exact hn370_0) | exact hn370_0) (.slice (some ad370) t364.length co13)).trans hx370_1
                replace hx370_2 := (cell_far (p := ⟨gb369, 0, none⟩) (by first | (rw [add_block]; exact hn370_0) | (show (Addr.add _ _).block ≠ _; rw [add_block]; exact hn370_0) | exact hn370_0) (.slice (some ad370) t364.length co13)).trans hx370_2
                replace hx370_0 := (cell_far (p := ⟨gb369, 1, none⟩) (by first | (rw [add_block]; exact hn370_1) | (show (Addr.add _ _).block ≠ _; rw [add_block]; exact hn370_1) | exact hn370_1) (.int .i64 t367)).trans hx370_0
                replace hx370_1 := (cell_far (p := ⟨gb369, 1, none⟩) (by first | (rw [add_block]; exact hn370_1) | (show (Addr.add _ _).block ≠ _; rw [add_block]; exact hn370_1) | exact hn370_1) (.int .i64 t367)).trans hx370_1
                replace hx370_2 := (cell_far (p := ⟨gb369, 1, none⟩) (by first | (rw [add_block]; exact hn370_1) | (show (Addr.add _ _).block ≠ _; rw [add_block]; exact hn370_1) | exact hn370_1) (.int .i64 t367)).trans hx370_2
                replace hx370_0 := (cell_far (p := ⟨gb369, 2, none⟩) (by first | (rw [add_block]; exact hn370_2) | (show (Addr.add _ _).block ≠ _; rw [add_block]; exact hn370_2) | exact hn370_2) (.int .i64 t368)).trans hx370_0
                replace hx370_1 := (cell_far (p := ⟨gb369, 2, none⟩) (by first | (rw [add_block]; exact hn370_2) | (show (Addr.add _ _).block ≠ _; rw [add_block]; exact hn370_2) | exact hn370_2) (.int .i64 t368)).trans hx370_1
                replace hx370_2 := (cell_far (p := ⟨gb369, 2, none⟩) (by first | (rw [add_block]; exact hn370_2) | (show (Addr.add _ _).block ≠ _; rw [add_block]; exact hn370_2) | exact hn370_2) (.int .i64 t368)).trans hx370_2
                (try have hy370_0 := fun (n_ : Nat) => (show (((((w12.drewN n_).setCell ⟨gb369, 0, none⟩ (.slice (some ad370) t364.length co13)).setCell ⟨gb369, 1, none⟩ (.int .i64 t367)).setCell ⟨gb369, 2, none⟩ (.int .i64 t368))).cell? _ = some _ from hx370_0))
                (try have hy370_1 := fun (n_ : Nat) => (show (((((w12.drewN n_).setCell ⟨gb369, 0, none⟩ (.slice (some ad370) t364.length co13)).setCell ⟨gb369, 1, none⟩ (.int .i64 t367)).setCell ⟨gb369, 2, none⟩ (.int .i64 t368))).cell? _ = some _ from hx370_1))
                (try have hy370_2 := fun (n_ : Nat) => (show (((((w12.drewN n_).setCell ⟨gb369, 0, none⟩ (.slice (some ad370) t364.length co13)).setCell ⟨gb369, 1, none⟩ (.int .i64 t367)).setCell ⟨gb369, 2, none⟩ (.int .i64 t368))).cell? _ = some _ from hx370_2))
                clear hn370_0
                clear hn370_1
                clear hn370_2
                replace p370 := eq_true p370
                replace q370 := eq_true q370
                have hcz26_0 : w12.cell? ⟨gb362, 0, none⟩ = some (.int .i64 a0_0) := (blk_cell BK362.out 0).trans rfl
                have hcz26_1 : w12.cell? ⟨gb362, 1, none⟩ = some (.int .i64 a0_1) := (blk_cell BK362.out 1).trans rfl
                have hcz26_2 : w12.cell? ⟨gb362, 2, none⟩ = some (.string a0_2) := (blk_cell BK362.out 2).trans rfl
                have hfz26_0 := blk_frozen BK362.out 0
                have hfz26_1 := blk_frozen BK362.out 1
                have hfz26_2 := blk_frozen BK362.out 2
                have p371 : 0 ≤ (0 : Int) := (by omega)
                have q371 : 0 < (t364.length : Int) := of_decide_eq_true (by first | (with_reducible assumption) | assumption)
                obtain ⟨ad371, e371, hx371_0, hx371_1, hx371_2⟩ := at_T44 (Kd.R_reads' HO366.out).2.2 0 p371 q371
                obtain rfl : ad370 = ad371 := (by injection e371)
                have qi371 : (0 < t364.length) = True := eq_true (by omega)
                (try rw [show ((0 : Int)).toNat = 0 from rfl] at hx371_0)
                (try rw [show 0 * 3 = 0 from rfl] at hx371_0)
                (try rw [Addr.add_zero'] at hx371_0)
                (try rw [show ((0 : Int)).toNat = 0 from rfl] at hx371_1)
                (try rw [show 0 * 3 = 0 from rfl] at hx371_1)
                (try rw [Addr.add_zero'] at hx371_1)
                (try rw [show ((0 : Int)).toNat = 0 from rfl] at hx371_2)
                (try rw [show 0 * 3 = 0 from rfl] at hx371_2)
                (try rw [Addr.add_zero'] at hx371_2)
                have hn371_0 : ad370.block ≠ gb369 := Kd.own_blk (Kd.R_ne HO366.out BK369.out (by decide))
                have hn371_1 : ad370.block ≠ gb369 := Kd.own_blk (Kd.R_ne HO366.out BK369.out (by decide))
                have hn371_2 : ad370.block ≠ gb369 := Kd.own_blk (Kd.R_ne HO366.out BK369.out (by decide))
                replace hx371_0 := (cell_far (p := ⟨gb369, 0, none⟩) (by first | (rw [add_block]; exact hn371_0) | (show (Addr.add _ _).block ≠ _; rw [add_block]; exact hn371_0) | exact hn371_0) (.slice (some ad370) t364.length co13)).trans hx371_0
                replace hx371_1 := (cell_far (p := ⟨gb369, 0, none⟩) (by first | (rw [add_block]; exact hn371_0) | (show (Addr.add _ _).block ≠ _; rw [add_block]; exact hn371_0) | exact hn371_0) (.slice (some ad370) t364.length co13)).trans hx371_1
                replace hx371_2 := (cell_far (p := ⟨gb369, 0, none⟩) (by first | (rw [add_block]; exact hn371_0) | (show (Addr.add _ _).block ≠ _; rw [add_block]; exact hn371_0) | exact hn371_0) (.slice (some ad370) t364.length co13)).trans hx371_2
                replace hx371_0 := (cell_far (p := ⟨gb369, 1, none⟩) (by first | (rw [add_block]; exact hn371_1) | (show (Addr.add _ _).block ≠ _; rw [add_block]; exact hn371_1) | exact hn371_1) (.int .i64 t367)).trans hx371_0
                replace hx371_1 := (cell_far (p := ⟨gb369, 1, none⟩) (by first | (rw [add_block]; exact hn371_1) | (show (Addr.add _ _).block ≠ _; rw [add_block]; exact hn371_1) | exact hn371_1) (.int .i64 t367)).trans hx371_1
                replace hx371_2 := (cell_far (p := ⟨gb369, 1, none⟩) (by first | (rw [add_block]; exact hn371_1) | (show (Addr.add _ _).block ≠ _; rw [add_block]; exact hn371_1) | exact hn371_1) (.int .i64 t367)).trans hx371_2
                replace hx371_0 := (cell_far (p := ⟨gb369, 2, none⟩) (by first | (rw [add_block]; exact hn371_2) | (show (Addr.add _ _).block ≠ _; rw [add_block]; exact hn371_2) | exact hn371_2) (.int .i64 t368)).trans hx371_0
                replace hx371_1 := (cell_far (p := ⟨gb369, 2, none⟩) (by first | (rw [add_block]; exact hn371_2) | (show (Addr.add _ _).block ≠ _; rw [add_block]; exact hn371_2) | exact hn371_2) (.int .i64 t368)).trans hx371_1
                replace hx371_2 := (cell_far (p := ⟨gb369, 2, none⟩) (by first | (rw [add_block]; exact hn371_2) | (show (Addr.add _ _).block ≠ _; rw [add_block]; exact hn371_2) | exact hn371_2) (.int .i64 t368)).trans hx371_2
                (try have hy371_0 := fun (n_ : Nat) => (show (((((w12.drewN n_).setCell ⟨gb369, 0, none⟩ (.slice (some ad370) t364.length co13)).setCell ⟨gb369, 1, none⟩ (.int .i64 t367)).setCell ⟨gb369, 2, none⟩ (.int .i64 t368))).cell? _ = some _ from hx371_0))
                (try have hy371_1 := fun (n_ : Nat) => (show (((((w12.drewN n_).setCell ⟨gb369, 0, none⟩ (.slice (some ad370) t364.length co13)).setCell ⟨gb369, 1, none⟩ (.int .i64 t367)).setCell ⟨gb369, 2, none⟩ (.int .i64 t368))).cell? _ = some _ from hx371_1))
                (try have hy371_2 := fun (n_ : Nat) => (show (((((w12.drewN n_).setCell ⟨gb369, 0, none⟩ (.slice (some ad370) t364.length co13)).setCell ⟨gb369, 1, none⟩ (.int .i64 t367)).setCell ⟨gb369, 2, none⟩ (.int .i64 t368))).cell? _ = some _ from hx371_2))
                clear hn371_0
                clear hn371_1
                clear hn371_2
                replace p371 := eq_true p371
                replace q371 := eq_true q371
                go_wp2
                repeat (go_quiet (fail); try go_wp2)
                go_meet
                case rel => exact ⟨_, (false), (by first | rfl | (simp; done) | (simp [*]; done)), H', ⟨by first | omega | exact Nat.le_refl _⟩, ⟨by (with_reducible repeat (first | apply Kd.R_alloc | apply Kd.R_drewN | apply Kd.R_drew)); exact Kd.R_mono (Kd.R_far (p := ⟨gb369, 2, none⟩) (Kd.R_far (p := ⟨gb369, 1, none⟩) (Kd.R_far (p := ⟨gb369, 0, none⟩) (Kd.R_types HO366.out BK369.out (by decide)) (fun _ hk => hk.2) (.slice (some ad370) t364.length co13)) (fun _ hk => hk.2) (.int .i64 t367)) (fun _ hk => hk.2) (.int .i64 t368)) (fun _ hk => hk.1.2)⟩, ⟨by (with_reducible repeat (first | refine blk_drewN ?_ _ | refine blk_drew ?_ | refine blk_alloc ?_ _)); refine blk_far ?_ NB362_369.out _; (with_reducible repeat (first | refine blk_drewN ?_ _ | refine blk_drew ?_ | refine blk_alloc ?_ _)); refine blk_far ?_ NB362_369.out _; (with_reducible repeat (first | refine blk_drewN ?_ _ | refine blk_drew ?_ | refine blk_alloc ?_ _)); refine blk_far ?_ NB362_369.out _; (with_reducible repeat (first | refine blk_drewN ?_ _ | refine blk_drew ?_ | refine blk_alloc ?_ _)); exact BK362.out⟩, ⟨by (with_reducible repeat (first | refine blk_drewN ?_ _ | refine blk_drew ?_ | refine blk_alloc ?_ _)); refine blk_put (cs := #[.slice (some ad370) t364.length co13, .int .i64 t367, .int .i64 0]) ?_ 2 _ rfl; (with_reducible repeat (first | refine blk_drewN ?_ _ | refine blk_drew ?_ | refine blk_alloc ?_ _)); refine blk_put (cs := #[.slice (some ad370) t364.length co13, .int .i64 0, .int .i64 0]) ?_ 1 _ rfl; (with_reducible repeat (first | refine blk_drewN ?_ _ | refine blk_drew ?_ | refine blk_alloc ?_ _)); refine blk_put (cs := #[.slice none 0 0, .int .i64 0, .int .i64 0]) ?_ 0 _ rfl; (with_reducible repeat (first | refine blk_drewN ?_ _ | refine blk_drew ?_ | refine blk_alloc ?_ _)); exact BK369.out⟩, ⟨by repeat (first | (with_reducible first | exact HB.out | apply below_alloc | apply pw_below_drewN | apply below_drew1 | refine below_set ?_ GE362.out | refine below_set ?_ GE369.out) | exact HB.out)⟩⟩
            · rw [if_neg c19] at H
              have c19b0 : (((rd_T44 t364 0).f0) == a0_0) = false := beq_eq_false_iff_ne.mpr c19
              have c19b1 : (((rd_T44 t364 0).f0) != a0_0) = true := bne_iff_ne.mpr c19
              have H' := Aside0.mk H
              clear H
              have hnb27 := NB369_362.out
              have hnc27 := NB362_369.out
              have hcz28_0 : w12.cell? ⟨gb369, 0, none⟩ = some (.slice none 0 0) := (blk_cell BK369.out 0).trans rfl
              have hcz28_1 : w12.cell? ⟨gb369, 1, none⟩ = some (.int .i64 0) := (blk_cell BK369.out 1).trans rfl
              have hcz28_2 : w12.cell? ⟨gb369, 2, none⟩ = some (.int .i64 0) := (blk_cell BK369.out 2).trans rfl
              have hfz28_0 := blk_frozen BK369.out 0
              have hfz28_1 := blk_frozen BK369.out 1
              have hfz28_2 := blk_frozen BK369.out 2
              have p370 : 0 ≤ (0 : Int) := (by omega)
              have q370 : 0 < (t364.length : Int) := of_decide_eq_true (by first | (with_reducible assumption) | assumption)
              obtain ⟨ad370, e370, hx370_0, hx370_1, hx370_2⟩ := at_T44 (Kd.R_reads' HO366.out).2.2 0 p370 q370
              cases e370
              have qi370 : (0 < t364.length) = True := eq_true (by omega)
              (try rw [show ((0 : Int)).toNat = 0 from rfl] at hx370_0)
              (try rw [show 0 * 3 = 0 from rfl] at hx370_0)
              (try rw [Addr.add_zero'] at hx370_0)
              (try rw [show ((0 : Int)).toNat = 0 from rfl] at hx370_1)
              (try rw [show 0 * 3 = 0 from rfl] at hx370_1)
              (try rw [Addr.add_zero'] at hx370_1)
              (try rw [show ((0 : Int)).toNat = 0 from rfl] at hx370_2)
              (try rw [show 0 * 3 = 0 from rfl] at hx370_2)
              (try rw [Addr.add_zero'] at hx370_2)
              have hn370_0 : ad370.block ≠ gb369 := Kd.own_blk (Kd.R_ne HO366.out BK369.out (by decide))
              have hn370_1 : ad370.block ≠ gb369 := Kd.own_blk (Kd.R_ne HO366.out BK369.out (by decide))
              have hn370_2 : ad370.block ≠ gb369 := Kd.own_blk (Kd.R_ne HO366.out BK369.out (by decide))
              replace hx370_0 := (cell_far (p := ⟨gb369, 0, none⟩) (by first | (rw [add_block]; exact hn370_0) | (show (Addr.add _ _).block ≠ _; rw [add_block]; exact hn370_0) | exact hn370_0) (.slice (some ad370) t364.length co13)).trans hx370_0
              replace hx370_1 := (cell_far (p := ⟨gb369, 0, none⟩) (by first | (rw [add_block]; exact hn370_0) | (show (Addr.add _ _).block ≠ _; rw [add_block]; exact hn370_0) | exact hn370_0) (.slice (some ad370) t364.length co13)).trans hx370_1
              replace hx370_2 := (cell_far (p := ⟨gb369, 0, none⟩) (by first | (rw [add_block]; exact hn370_0) | (show (Addr.add _ _).block ≠ _; rw [add_block]; exact hn370_0) | exact hn370_0) (.slice (some ad370) t364.length co13)).trans hx370_2
              replace hx370_0 := (cell_far (p := ⟨gb369, 1, none⟩) (by first | (rw [add_block]; exact hn370_1) | (show (Addr.add _ _).block ≠ _; rw [add_block]; exact hn370_1) | exact hn370_1) (.int .i64 t367)).trans hx370_0
              replace hx370_1 := (cell_far (p := ⟨gb369, 1, none⟩) (by first | (rw [add_block]; exact hn370_1) | (show (Addr.add _ _).block ≠ _; rw [add_block]; exact hn370_1) | exact hn370_1) (.int .i64 t367)).trans hx370_1
              replace hx370_2 := (cell_far (p := ⟨gb369, 1, none⟩) (by first | (rw [add_block]; exact hn370_1) | (show (Addr.add _ _).block ≠ _; rw [add_block]; exact hn370_1) | exact hn370_1) (.int .i64 t367)).trans hx370_2
              replace hx370_0 := (cell_far (p := ⟨gb369, 2, none⟩) (by first | (rw [add_block]; exact hn370_2) | (show (Addr.add _ _).block ≠ _; rw [add_block]; exact hn370_2) | exact hn370_2) (.int .i64 t368)).trans hx370_0
              replace hx370_1 := (cell_far (p := ⟨gb369, 2, none⟩) (by first | (rw [add_block]; exact hn370_2) | (show (Addr.add _ _).block ≠ _; rw [add_block]; exact hn370_2) | exact hn370_2) (.int .i64 t368)).trans hx370_1
              replace hx370_2 := (cell_far (p := ⟨gb369, 2, none⟩) (by first | (rw [add_block]; exact hn370_2) | (show (Addr.add _ _).block ≠ _; rw [add_block]; exact hn370_2) | exact hn370_2) (.int .i64 t368)).trans hx370_2
              (try have hy370_0 := fun (n_ : Nat) => (show (((((w12.drewN n_).setCell ⟨gb369, 0, none⟩ (.slice (some ad370) t364.length co13)).setCell ⟨gb369, 1, none⟩ (.int .i64 t367)).setCell ⟨gb369, 2, none⟩ (.int .i64 t368))).cell? _ = some _ from hx370_0))
              (try have hy370_1 := fun (n_ : Nat) => (show (((((w12.drewN n_).setCell ⟨gb369, 0, none⟩ (.slice (some ad370) t364.length co13)).setCell ⟨gb369, 1, none⟩ (.int .i64 t367)).setCell ⟨gb369, 2, none⟩ (.int .i64 t368))).cell? _ = some _ from hx370_1))
              (try have hy370_2 := fun (n_ : Nat) => (show (((((w12.drewN n_).setCell ⟨gb369, 0, none⟩ (.slice (some ad370) t364.length co13)).setCell ⟨gb369, 1, none⟩ (.int .i64 t367)).setCell ⟨gb369, 2, none⟩ (.int .i64 t368))).cell? _ = some _ from hx370_2))
              clear hn370_0
              clear hn370_1
              clear hn370_2
              replace p370 := eq_true p370
              replace q370 := eq_true q370
              have hcz29_0 : w12.cell? ⟨gb362, 0, none⟩ = some (.int .i64 a0_0) := (blk_cell BK362.out 0).trans rfl
              have hcz29_1 : w12.cell? ⟨gb362, 1, none⟩ = some (.int .i64 a0_1) := (blk_cell BK362.out 1).trans rfl
              have hcz29_2 : w12.cell? ⟨gb362, 2, none⟩ = some (.string a0_2) := (blk_cell BK362.out 2).trans rfl
              have hfz29_0 := blk_frozen BK362.out 0
              have hfz29_1 := blk_frozen BK362.out 1
              have hfz29_2 := blk_frozen BK362.out 2
              go_wp2
              repeat (go_quiet (fail); try go_wp2)
              go_meet
              case rel => exact ⟨_, (false), (by first | rfl | (simp; done) | (simp [*]; done)), H', ⟨by first | omega | exact Nat.le_refl _⟩, ⟨by (with_reducible repeat (first | apply Kd.R_alloc | apply Kd.R_drewN | apply Kd.R_drew)); exact Kd.R_mono (Kd.R_far (p := ⟨gb369, 2, none⟩) (Kd.R_far (p := ⟨gb369, 1, none⟩) (Kd.R_far (p := ⟨gb369, 0, none⟩) (Kd.R_types HO366.out BK369.out (by decide)) (fun _ hk => hk.2) (.slice (some ad370) t364.length co13)) (fun _ hk => hk.2) (.int .i64 t367)) (fun _ hk => hk.2) (.int .i64 t368)) (fun _ hk => hk.1.2)⟩, ⟨by (with_reducible repeat (first | refine blk_drewN ?_ _ | refine blk_drew ?_ | refine blk_alloc ?_ _)); refine blk_far ?_ NB362_369.out _; (with_reducible repeat (first | refine blk_drewN ?_ _ | refine blk_drew ?_ | refine blk_alloc ?_ _)); refine blk_far ?_ NB362_369.out _; (with_reducible repeat (first | refine blk_drewN ?_ _ | refine blk_drew ?_ | refine blk_alloc ?_ _)); refine blk_far ?_ NB362_369.out _; (with_reducible repeat (first | refine blk_drewN ?_ _ | refine blk_drew ?_ | refine blk_alloc ?_ _)); exact BK362.out⟩, ⟨by (with_reducible repeat (first | refine blk_drewN ?_ _ | refine blk_drew ?_ | refine blk_alloc ?_ _)); refine blk_put (cs := #[.slice (some ad370) t364.length co13, .int .i64 t367, .int .i64 0]) ?_ 2 _ rfl; (with_reducible repeat (first | refine blk_drewN ?_ _ | refine blk_drew ?_ | refine blk_alloc ?_ _)); refine blk_put (cs := #[.slice (some ad370) t364.length co13, .int .i64 0, .int .i64 0]) ?_ 1 _ rfl; (with_reducible repeat (first | refine blk_drewN ?_ _ | refine blk_drew ?_ | refine blk_alloc ?_ _)); refine blk_put (cs := #[.slice none 0 0, .int .i64 0, .int .i64 0]) ?_ 0 _ rfl; (with_reducible repeat (first | refine blk_drewN ?_ _ | refine blk_drew ?_ | refine blk_alloc ?_ _)); exact BK369.out⟩, ⟨by repeat (first | (with_reducible first | exact HB.out | apply below_alloc | apply pw_below_drewN | apply below_drew1 | refine below_set ?_ GE362.out | refine below_set ?_ GE369.out) | exact HB.out)⟩⟩
          · rw [if_neg c18] at H
            exact absurd H (by simp)
        · rw [if_neg c17] at H
          have c17b0 : ((t364.length : Int) == 1) = false := beq_eq_false_iff_ne.mpr c17
          have c17b1 : ((t364.length : Int) != 1) = true := bne_iff_ne.mpr c17
          have H' := Aside0.mk H
          clear H
          have hnb30 := NB369_362.out
          have hnc30 := NB362_369.out
          have hcz31_0 : w12.cell? ⟨gb369, 0, none⟩ = some (.slice none 0 0) := (blk_cell BK369.out 0).trans rfl
          have hcz31_1 : w12.cell? ⟨gb369, 1, none⟩ = some (.int .i64 0) := (blk_cell BK369.out 1).trans rfl
          have hcz31_2 : w12.cell? ⟨gb369, 2, none⟩ = some (.int .i64 0) := (blk_cell BK369.out 2).trans rfl
          have hfz31_0 := blk_frozen BK369.out 0
          have hfz31_1 := blk_frozen BK369.out 1
          have hfz31_2 := blk_frozen BK369.out 2
          go_wp2
          repeat (go_quiet (fail); try go_wp2)
          go_meet
          case rel => exact ⟨_, (false), (by first | rfl | (simp; done) | (simp [*]; done)), H', ⟨by first | omega | exact Nat.le_refl _⟩, ⟨by (with_reducible repeat (first | apply Kd.R_alloc | apply Kd.R_drewN | apply Kd.R_drew)); exact Kd.R_mono (Kd.R_far (p := ⟨gb369, 2, none⟩) (Kd.R_far (p := ⟨gb369, 1, none⟩) (Kd.R_far (p := ⟨gb369, 0, none⟩) (Kd.R_types HO366.out BK369.out (by decide)) (fun _ hk => hk.2) (.slice Ao13 t364.length co13)) (fun _ hk => hk.2) (.int .i64 t367)) (fun _ hk => hk.2) (.int .i64 t368)) (fun _ hk => hk.1.2)⟩, ⟨by (with_reducible repeat (first | refine blk_drewN ?_ _ | refine blk_drew ?_ | refine blk_alloc ?_ _)); refine blk_far ?_ NB362_369.out _; (with_reducible repeat (first | refine blk_drewN ?_ _ | refine blk_drew ?_ | refine blk_alloc ?_ _)); refine blk_far ?_ NB362_369.out _; (with_reducible repeat (first | refine blk_drewN ?_ _ | refine blk_drew ?_ | refine blk_alloc ?_ _)); refine blk_far ?_ NB362_369.out _; (with_reducible repeat (first | refine blk_drewN ?_ _ | refine blk_drew ?_ | refine blk_alloc ?_ _)); exact BK362.out⟩, ⟨by (with_reducible repeat (first | refine blk_drewN ?_ _ | refine blk_drew ?_ | refine blk_alloc ?_ _)); refine blk_put (cs := #[.slice Ao13 t364.length co13, .int .i64 t367, .int .i64 0]) ?_ 2 _ rfl; (with_reducible repeat (first | refine blk_drewN ?_ _ | refine blk_drew ?_ | refine blk_alloc ?_ _)); refine blk_put (cs := #[.slice Ao13 t364.length co13, .int .i64 0, .int .i64 0]) ?_ 1 _ rfl; (with_reducible repeat (first | refine blk_drewN ?_ _ | refine blk_drew ?_ | refine blk_alloc ?_ _)); refine blk_put (cs := #[.slice none 0 0, .int .i64 0, .int .i64 0]) ?_ 0 _ rfl; (with_reducible repeat (first | refine blk_drewN ?_ _ | refine blk_drew ?_ | refine blk_alloc ?_ _)); exact BK369.out⟩, ⟨by repeat (first | (with_reducible first | exact HB.out | apply below_alloc | apply pw_below_drewN | apply below_drew1 | refine below_set ?_ GE362.out | refine below_set ?_ GE369.out) | exact HB.out)⟩⟩
      · rw [if_neg c16] at H
        have c16b0 : (t368 == 0) = false := beq_eq_false_iff_ne.mpr c16
        have c16b1 : (t368 != 0) = true := bne_iff_ne.mpr c16
        (first | rw [c16b0] | (simp only [i64_w, i32_w]; rw [c16b0]) | rw [c16b1] | skip)
        have H' := Aside0.mk H
        clear H
        have hnb32 := NB369_362.out
        have hnc32 := NB362_369.out
        have hcz33_0 : w12.cell? ⟨gb369, 0, none⟩ = some (.slice none 0 0) := (blk_cell BK369.out 0).trans rfl
        have hcz33_1 : w12.cell? ⟨gb369, 1, none⟩ = some (.int .i64 0) := (blk_cell BK369.out 1).trans rfl
        have hcz33_2 : w12.cell? ⟨gb369, 2, none⟩ = some (.int .i64 0) := (blk_cell BK369.out 2).trans rfl
        have hfz33_0 := blk_frozen BK369.out 0
        have hfz33_1 := blk_frozen BK369.out 1
        have hfz33_2 := blk_frozen BK369.out 2
        go_wp2
        repeat (go_quiet (fail); try go_wp2)
        go_meet
        case rel => exact ⟨_, (false), (by first | rfl | (simp; done) | (simp [*]; done)), H', ⟨by first | omega | exact Nat.le_refl _⟩, ⟨by (with_reducible repeat (first | apply Kd.R_alloc | apply Kd.R_drewN | apply Kd.R_drew)); exact Kd.R_mono (Kd.R_far (p := ⟨gb369, 2, none⟩) (Kd.R_far (p := ⟨gb369, 1, none⟩) (Kd.R_far (p := ⟨gb369, 0, none⟩) (Kd.R_types HO366.out BK369.out (by decide)) (fun _ hk => hk.2) (.slice Ao13 t364.length co13)) (fun _ hk => hk.2) (.int .i64 t367)) (fun _ hk => hk.2) (.int .i64 t368)) (fun _ hk => hk.1.2)⟩, ⟨by (with_reducible repeat (first | refine blk_drewN ?_ _ | refine blk_drew ?_ | refine blk_alloc ?_ _)); refine blk_far ?_ NB362_369.out _; (with_reducible repeat (first | refine blk_drewN ?_ _ | refine blk_drew ?_ | refine blk_alloc ?_ _)); refine blk_far ?_ NB362_369.out _; (with_reducible repeat (first | refine blk_drewN ?_ _ | refine blk_drew ?_ | refine blk_alloc ?_ _)); refine blk_far ?_ NB362_369.out _; (with_reducible repeat (first | refine blk_drewN ?_ _ | refine blk_drew ?_ | refine blk_alloc ?_ _)); exact BK362.out⟩, ⟨by (with_reducible repeat (first | refine blk_drewN ?_ _ | refine blk_drew ?_ | refine blk_alloc ?_ _)); refine blk_put (cs := #[.slice Ao13 t364.length co13, .int .i64 t367, .int .i64 0]) ?_ 2 _ rfl; (with_reducible repeat (first | refine blk_drewN ?_ _ | refine blk_drew ?_ | refine blk_alloc ?_ _)); refine blk_put (cs := #[.slice Ao13 t364.length co13, .int .i64 0, .int .i64 0]) ?_ 1 _ rfl; (with_reducible repeat (first | refine blk_drewN ?_ _ | refine blk_drew ?_ | refine blk_alloc ?_ _)); refine blk_put (cs := #[.slice none 0 0, .int .i64 0, .int .i64 0]) ?_ 0 _ rfl; (with_reducible repeat (first | refine blk_drewN ?_ _ | refine blk_drew ?_ | refine blk_alloc ?_ _)); exact BK369.out⟩, ⟨by repeat (first | (with_reducible first | exact HB.out | apply below_alloc | apply pw_below_drewN | apply below_drew1 | refine below_set ?_ GE362.out | refine below_set ?_ GE369.out) | exact HB.out)⟩⟩
    case rest =>
      clear HC7
      try clear c1
      try clear c2
      try clear c2b0
      try clear c2b1
      try clear p2
      try clear c3
      try clear p3
      try clear q3
      try clear hx3
      try clear qi3
      try clear c14
      try clear c16
      try clear c16b0
      try clear c16b1
      try clear c17
      try clear c17b0
      try clear c17b1
      try clear c18
      try clear c18b0
      try clear c18b1
      try clear c19
      try clear c19b0
      try clear c19b1
      try clear c20
      try clear c20b0
      try clear c20b1
      try clear c21
      try clear c24
      try clear c27
      try clear c30
      try clear c32
      try clear hcz15_0
      try clear hcz15_1
      try clear hcz15_2
      try clear hcz22_0
      try clear hcz22_1
      try clear hcz22_2
      try clear hcz23_0
      try clear hcz23_1
      try clear hcz23_2
      try clear hcz25_0
      try clear hcz25_1
      try clear hcz25_2
      try clear hcz26_0
      try clear hcz26_1
      try clear hcz26_2
      try clear hcz28_0
      try clear hcz28_1
      try clear hcz28_2
      try clear hcz29_0
      try clear hcz29_1
      try clear hcz29_2
      try clear hcz31_0
      try clear hcz31_1
      try clear hcz31_2
      try clear hcz33_0
      try clear hcz33_1
      try clear hcz33_2
      try clear hcz4_0
      try clear hcz4_1
      try clear hcz4_2
      try clear hcz9_0
      try clear hcz9_1
      try clear hcz9_2
      try clear hfz15_0
      try clear hfz15_1
      try clear hfz15_2
      try clear hfz22_0
      try clear hfz22_1
      try clear hfz22_2
      try clear hfz23_0
      try clear hfz23_1
      try clear hfz23_2
      try clear hfz25_0
      try clear hfz25_1
      try clear hfz25_2
      try clear hfz26_0
      try clear hfz26_1
      try clear hfz26_2
      try clear hfz28_0
      try clear hfz28_1
      try clear hfz28_2
      try clear hfz29_0
      try clear hfz29_1
      try clear hfz29_2
      try clear hfz31_0
      try clear hfz31_1
      try clear hfz31_2
      try clear hfz33_0
      try clear hfz33_1
      try clear hfz33_2
      try clear hfz4_0
      try clear hfz4_1
      try clear hfz4_2
      try clear hfz9_0
      try clear hfz9_1
      try clear hfz9_2
      try clear hx370_0
      try clear hx370_1
      try clear hx370_2
      try clear hx371_0
      try clear hx371_1
      try clear hx371_2
      try clear hx372_0
      try clear hx372_1
      try clear hx372_2
      try clear p370
      try clear p371
      try clear p372
      try clear q370
      try clear q371
      try clear q372
      obtain ⟨kq, x2_6, rfl, HA, HJ6, HO_370000, BK362, BK369, HB⟩ := hcut
      cases kq with
      | zero => exact absurd HA.out (by simp [antiquaryref14_Possible.j0])
      | succ kj6 =>
        have H := HA.out
        clear HA
        simp only [antiquaryref14_Possible.j0] at H
        obtain rfl := Option.some.inj H
        go_wp2
        repeat (go_quiet (fail); try go_wp2)
        go_ret
        exact ⟨by first | rfl | (simp [errW_none, errW_some] <;> rfl) | (simp [*, errW_none, errW_some] <;> rfl), by repeat (first | (with_reducible first | exact HB.out | apply below_alloc | apply pw_below_drewN | apply below_drew1 | refine below_set ?_ GE362.out | refine below_set ?_ GE369.out) | exact HB.out)⟩

end Go.Proofs.YtafomaiaobfkfaaGreatDoor.Pr
