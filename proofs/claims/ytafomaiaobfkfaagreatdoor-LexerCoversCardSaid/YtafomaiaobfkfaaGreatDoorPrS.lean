/-
  antiquarylaw14.sanity: the examples of the documentation, walked. Conditions: each theorem's own.
-/
import Derived.Test.YtafomaiaobfkfaaGreatDoorPrXb
namespace Go.Proofs.YtafomaiaobfkfaaGreatDoor.Pr
open Go.RowKit Go.Proofs.YtafomaiaobfkfaaGreatDoorW.PrintWords Go.Proofs.YtafomaiaobfkfaaGreatDoorW.PrintLast Go.Proofs.YtafomaiaobfkfaaGreatDoorW.PrintMore
set_option linter.unusedVariables false
set_option linter.unusedSimpArgs false

theorem tk1 : lexer_Tokens.f (⟨#[104, 97, 115, 32, 54, 48, 32, 115, 59, 32, 35, 32, 97, 32, 109, 105, 110, 117, 116, 101]⟩ : ByteArray) = some (([(⟨2, 0, (⟨#[104, 97, 115]⟩ : ByteArray)⟩ : S44), (⟨3, 4, (⟨#[54, 48]⟩ : ByteArray)⟩ : S44), (⟨1, 7, (⟨#[115]⟩ : ByteArray)⟩ : S44), (⟨5, 8, (⟨#[59]⟩ : ByteArray)⟩ : S44)] : List S44), 0, 0) := by kernel_rfl
theorem tk2 : lexer_Tokens.f (⟨#[97, 60, 61, 98, 46, 46, 99]⟩ : ByteArray) = some (([(⟨1, 0, (⟨#[97]⟩ : ByteArray)⟩ : S44), (⟨5, 1, (⟨#[60, 61]⟩ : ByteArray)⟩ : S44), (⟨1, 3, (⟨#[98]⟩ : ByteArray)⟩ : S44), (⟨5, 4, (⟨#[46, 46]⟩ : ByteArray)⟩ : S44), (⟨1, 6, (⟨#[99]⟩ : ByteArray)⟩ : S44)] : List S44), 0, 0) := by kernel_rfl
theorem tk3 : lexer_Tokens.f (⟨#[34, 115, 97, 121, 32, 92, 34, 120, 92, 34, 34]⟩ : ByteArray) = some (([(⟨4, 0, (⟨#[115, 97, 121, 32, 34, 120, 34]⟩ : ByteArray)⟩ : S44)] : List S44), 0, 0) := by kernel_rfl
theorem tk4 : lexer_Tokens.f (⟨#[48, 48, 55]⟩ : ByteArray) = some (([] : List S44), 0, 141) := by kernel_rfl
theorem tk5 : lexer_Tokens.f (⟨#[51, 109]⟩ : ByteArray) = some (([] : List S44), 0, 141) := by kernel_rfl
theorem tk6 : lexer_Tokens.f (⟨#[120, 32, 63]⟩ : ByteArray) = some (([] : List S44), 2, 140) := by kernel_rfl
theorem tk7 : lexer_Tokens.f (⟨#[34, 97]⟩ : ByteArray) = some (([] : List S44), 0, 142) := by kernel_rfl
theorem vl : lexer_Value.f 9 3 4 (⟨#[54, 48]⟩ : ByteArray) = some (60, 0) := by kernel_rfl
theorem pl : lexer_Place.f 9 (⟨#[97, 10, 98, 99]⟩ : ByteArray) 3 = some (2, 2) := by kernel_rfl
theorem sm1 : antiquaryref14_Same.f 9 ([(⟨2, 0, (⟨#[104, 97, 115]⟩ : ByteArray)⟩ : S44), (⟨3, 4, (⟨#[54, 48]⟩ : ByteArray)⟩ : S44), (⟨1, 7, (⟨#[115]⟩ : ByteArray)⟩ : S44), (⟨5, 8, (⟨#[59]⟩ : ByteArray)⟩ : S44)] : List S44) ([(⟨2, 0, (⟨#[104, 97, 115]⟩ : ByteArray)⟩ : S44), (⟨3, 0, (⟨#[54, 48]⟩ : ByteArray)⟩ : S44), (⟨1, 0, (⟨#[115]⟩ : ByteArray)⟩ : S44), (⟨5, 0, (⟨#[59]⟩ : ByteArray)⟩ : S44)] : List S44) = some true := by kernel_rfl
theorem sm2 : antiquaryref14_Same.f 9 ([(⟨1, 0, (⟨#[97]⟩ : ByteArray)⟩ : S44), (⟨5, 1, (⟨#[60, 61]⟩ : ByteArray)⟩ : S44), (⟨1, 3, (⟨#[98]⟩ : ByteArray)⟩ : S44), (⟨5, 4, (⟨#[46, 46]⟩ : ByteArray)⟩ : S44), (⟨1, 6, (⟨#[99]⟩ : ByteArray)⟩ : S44)] : List S44) ([(⟨1, 0, (⟨#[97]⟩ : ByteArray)⟩ : S44), (⟨5, 0, (⟨#[60, 61]⟩ : ByteArray)⟩ : S44), (⟨1, 0, (⟨#[98]⟩ : ByteArray)⟩ : S44), (⟨5, 0, (⟨#[46, 46]⟩ : ByteArray)⟩ : S44), (⟨1, 0, (⟨#[99]⟩ : ByteArray)⟩ : S44)] : List S44) = some true := by kernel_rfl
theorem wd1 : lexer_Word.f (⟨#[104, 97, 115]⟩ : ByteArray) = some true := by kernel_rfl
theorem wd2 : lexer_Word.f (⟨#[104, 97, 115, 104]⟩ : ByteArray) = some false := by kernel_rfl

def cells3 (x : S44) : List Value := [.int .i64 x.f0, .int .i64 x.f1, .string x.f2]
theorem reps3 (w : World) : ∀ xs : List S44, Reps (k44.K w) 3 xs (xs.flatMap cells3)
  | [] => Reps.none _ _
  | x :: xs => Reps.c3 (k44_mk w x) (reps3 w xs)
theorem lit_C (W : World) (xs : List S44) (hm : xs.length ≤ 9223372036854775807) : Kd.C k44 (W.alloc (.cells (xs.flatMap cells3).toArray 44)) (some ⟨W.heap.size, 0, none⟩) xs.length xs := by
  obtain ⟨A, c, e, _, h⟩ := (OwnRow.lit (R := k44.K (W.alloc (.cells (xs.flatMap cells3).toArray 44))) (e := 44) (size := 3) W W.heap.size (reps3 _ xs) (Nat.le_refl _) hm).reads
  injection e with e1 _ _
  subst e1
  exact h
theorem tok_at (s : ByteArray) (xs : List S44) (n : Nat) (o e : Int) (h : lexer_Tokens.f s = some (xs, o, e)) (hn : xs.length = n) (w : World) (hG : Aside0 (Gl w)) :
    Calls Tryz.prog 10 #[.string s] w fun x w' => ∃ A c, x = .returned (.tuple #[.slice A n c, .agg #[.int .i64 o, .int .i64 e]]) ∧ n ≤ c ∧ Kd.C k44 w' A n xs ∧ Below w.heap.size w w' := by
  subst hn
  refine (lexer_Tokens.calls s xs o e w hG h).mono ?_
  rintro x w' ⟨v, rfl, hR, hB⟩
  obtain ⟨A, c, rfl, hc, hC⟩ := Kd.R_reads hR
  exact ⟨A, c, rfl, hc, hC, hB⟩
def Bx (w : World) (b : Nat) (o e : Int) : Prop := w.heap[b]? = some (.cells #[.int .i64 o, .int .i64 e] 26 (0, 0))
theorem Bx.new (w : World) (o e : Int) : Bx (w.alloc (.cells #[.int .i64 o, .int .i64 e] 26)) w.heap.size o e := heap_alloc_new w _
theorem Bx.go {w w' : World} {b : Nat} {o e : Int} (h : Bx w b o e) (hb : Below w.heap.size w w') : Bx w' b o e := blk_below h hb
theorem Bx.cells {w : World} {b : Nat} {o e : Int} (h : Bx w b o e) : (w.cell? ⟨b, 0, none⟩ = some (.int .i64 o) ∧ w.cell? ⟨b, 1, none⟩ = some (.int .i64 e)) ∧ b < w.heap.size := ⟨⟨blk_cell h 0, blk_cell h 1⟩, blk_lt h⟩
theorem cell3 {w : World} {A : Option Addr} {n : Nat} {xs : List S44} (h : Kd.C k44 w A n xs) (i : Nat) (x : S44) (hx : xs[i]? = some x) (hi : i < n) : ∃ ad, A = some ad ∧ ad.block < w.heap.size ∧
    w.cell? (ad.add (i * 3)) = some (.int .i64 x.f0) ∧ w.cell? ⟨(ad.add (i * 3)).block, (ad.add (i * 3)).off + 1, none⟩ = some (.int .i64 x.f1) ∧ w.cell? ⟨(ad.add (i * 3)).block, (ad.add (i * 3)).off + 2, none⟩ = some (.string x.f2) := by
  obtain ⟨ad, e, h0, h1, h2⟩ := at_T44 h (i : Int) (by omega) (by omega)
  have e1 : rd_T44 xs (i : Int) = x := by simp [rd_T44, List.getD, hx]
  rw [e1] at h0 h1 h2
  simp only [Int.toNat_natCast] at h0 h1 h2
  refine ⟨ad, e, ?_, h0, h1, h2⟩
  have := World.block_lt_of_cell? w _ h1
  have e2 : (ad.add (i * 3)).block = ad.block := by unfold Addr.add; split <;> rfl
  rw [← e2]
  exact this

def antiquarylaw14_sanity.f (k : Nat) : Option Bool := some true
theorem antiquarylaw14_sanity.mono : ∀ k, LeO (antiquarylaw14_sanity.f k) (antiquarylaw14_sanity.f (k + 1)) := fun k => LeO.refl _
set_option maxHeartbeats 8000000 in
set_option maxRecDepth 100000 in
theorem sanity_any (w : World) (hG : Aside0 (Gl w)) : Calls Tryz.prog 9 #[] w fun e w' => e = .returned (.bool true) ∧ Below w.heap.size w w' := by
  have hu26 := Tryz.underlying26
  have hu44 := Tryz.underlying44
  go_enter Tryz.func9, Tryz.ntmps9
  have HB := Aside0.mk (Below.refl w.heap.size w)
  go_wp2_with fail
  refine (tok_at (⟨#[104, 97, 115, 32, 54, 48, 32, 115, 59, 32, 35, 32, 97, 32, 109, 105, 110, 117, 116, 101]⟩ : ByteArray) ([(⟨2, 0, (⟨#[104, 97, 115]⟩ : ByteArray)⟩ : S44), (⟨3, 4, (⟨#[54, 48]⟩ : ByteArray)⟩ : S44), (⟨1, 7, (⟨#[115]⟩ : ByteArray)⟩ : S44), (⟨5, 8, (⟨#[59]⟩ : ByteArray)⟩ : S44)] : List S44) 4 0 0 tk1 rfl w ⟨Gl.below hG.out HB.out⟩).mono ?_
  rintro e w1 ⟨A1, c1, rfl, hc1, C1, hb⟩
  have n_ := Aside0.mk C1; clear C1; have C1 := n_; clear n_
  have n_ := Aside0.mk (below_step HB.out hb); clear HB; have HB := n_; clear n_ hb
  go_wp2_with fail
  refine (tok_at (⟨#[97, 60, 61, 98, 46, 46, 99]⟩ : ByteArray) ([(⟨1, 0, (⟨#[97]⟩ : ByteArray)⟩ : S44), (⟨5, 1, (⟨#[60, 61]⟩ : ByteArray)⟩ : S44), (⟨1, 3, (⟨#[98]⟩ : ByteArray)⟩ : S44), (⟨5, 4, (⟨#[46, 46]⟩ : ByteArray)⟩ : S44), (⟨1, 6, (⟨#[99]⟩ : ByteArray)⟩ : S44)] : List S44) 5 0 0 tk2 rfl (w1.alloc (Obj.cells #[Value.int IntKind.i64 0, Value.int IntKind.i64 0] 26)) ⟨Gl.below hG.out (below_alloc HB.out _)⟩).mono ?_
  rintro e w2 ⟨A2, c2, rfl, hc2, C2, hb⟩
  have B1 := Aside0.mk ((Bx.new w1 0 0).go hb)
  have n_ := Aside0.mk (Kd.C_below (Kd.C_below C1.out (below_alloc (Below.refl _ _) (Obj.cells #[Value.int IntKind.i64 0, Value.int IntKind.i64 0] 26))) hb); clear C1; have C1 := n_; clear n_
  have n_ := Aside0.mk C2; clear C2; have C2 := n_; clear n_
  have n_ := Aside0.mk (below_step (below_alloc HB.out _) hb); clear HB; have HB := n_; clear n_ hb
  go_wp2_with fail
  refine (tok_at (⟨#[34, 115, 97, 121, 32, 92, 34, 120, 92, 34, 34]⟩ : ByteArray) ([(⟨4, 0, (⟨#[115, 97, 121, 32, 34, 120, 34]⟩ : ByteArray)⟩ : S44)] : List S44) 1 0 0 tk3 rfl (w2.alloc (Obj.cells #[Value.int IntKind.i64 0, Value.int IntKind.i64 0] 26)) ⟨Gl.below hG.out (below_alloc HB.out _)⟩).mono ?_
  rintro e w3 ⟨A3, c3, rfl, hc3, C3, hb⟩
  have B2 := Aside0.mk ((Bx.new w2 0 0).go hb)
  have n_ := Aside0.mk (Bx.go (show Bx (w2.alloc (Obj.cells #[Value.int IntKind.i64 0, Value.int IntKind.i64 0] 26)) _ _ _ from blk_alloc B1.out _) hb); clear B1; have B1 := n_; clear n_
  have n_ := Aside0.mk (Kd.C_below (Kd.C_below C1.out (below_alloc (Below.refl _ _) (Obj.cells #[Value.int IntKind.i64 0, Value.int IntKind.i64 0] 26))) hb); clear C1; have C1 := n_; clear n_
  have n_ := Aside0.mk (Kd.C_below (Kd.C_below C2.out (below_alloc (Below.refl _ _) (Obj.cells #[Value.int IntKind.i64 0, Value.int IntKind.i64 0] 26))) hb); clear C2; have C2 := n_; clear n_
  have n_ := Aside0.mk C3; clear C3; have C3 := n_; clear n_
  have n_ := Aside0.mk (below_step (below_alloc HB.out _) hb); clear HB; have HB := n_; clear n_ hb
  go_wp2_with fail
  refine (tok_at (⟨#[48, 48, 55]⟩ : ByteArray) ([] : List S44) 0 0 141 tk4 rfl (w3.alloc (Obj.cells #[Value.int IntKind.i64 0, Value.int IntKind.i64 0] 26)) ⟨Gl.below hG.out (below_alloc HB.out _)⟩).mono ?_
  rintro e w4 ⟨A4, c4, rfl, hc4, C4, hb⟩
  have B3 := Aside0.mk ((Bx.new w3 0 0).go hb)
  have n_ := Aside0.mk (Bx.go (show Bx (w3.alloc (Obj.cells #[Value.int IntKind.i64 0, Value.int IntKind.i64 0] 26)) _ _ _ from blk_alloc B1.out _) hb); clear B1; have B1 := n_; clear n_
  have n_ := Aside0.mk (Bx.go (show Bx (w3.alloc (Obj.cells #[Value.int IntKind.i64 0, Value.int IntKind.i64 0] 26)) _ _ _ from blk_alloc B2.out _) hb); clear B2; have B2 := n_; clear n_
  have n_ := Aside0.mk (Kd.C_below (Kd.C_below C1.out (below_alloc (Below.refl _ _) (Obj.cells #[Value.int IntKind.i64 0, Value.int IntKind.i64 0] 26))) hb); clear C1; have C1 := n_; clear n_
  have n_ := Aside0.mk (Kd.C_below (Kd.C_below C2.out (below_alloc (Below.refl _ _) (Obj.cells #[Value.int IntKind.i64 0, Value.int IntKind.i64 0] 26))) hb); clear C2; have C2 := n_; clear n_
  have n_ := Aside0.mk (Kd.C_below (Kd.C_below C3.out (below_alloc (Below.refl _ _) (Obj.cells #[Value.int IntKind.i64 0, Value.int IntKind.i64 0] 26))) hb); clear C3; have C3 := n_; clear n_
  clear C4 hc4
  have n_ := Aside0.mk (below_step (below_alloc HB.out _) hb); clear HB; have HB := n_; clear n_ hb
  go_wp2_with fail
  refine (tok_at (⟨#[51, 109]⟩ : ByteArray) ([] : List S44) 0 0 141 tk5 rfl (w4.alloc (Obj.cells #[Value.int IntKind.i64 0, Value.int IntKind.i64 141] 26)) ⟨Gl.below hG.out (below_alloc HB.out _)⟩).mono ?_
  rintro e w5 ⟨A5, c5, rfl, hc5, C5, hb⟩
  have B4 := Aside0.mk ((Bx.new w4 0 141).go hb)
  have n_ := Aside0.mk (Bx.go (show Bx (w4.alloc (Obj.cells #[Value.int IntKind.i64 0, Value.int IntKind.i64 141] 26)) _ _ _ from blk_alloc B1.out _) hb); clear B1; have B1 := n_; clear n_
  have n_ := Aside0.mk (Bx.go (show Bx (w4.alloc (Obj.cells #[Value.int IntKind.i64 0, Value.int IntKind.i64 141] 26)) _ _ _ from blk_alloc B2.out _) hb); clear B2; have B2 := n_; clear n_
  have n_ := Aside0.mk (Bx.go (show Bx (w4.alloc (Obj.cells #[Value.int IntKind.i64 0, Value.int IntKind.i64 141] 26)) _ _ _ from blk_alloc B3.out _) hb); clear B3; have B3 := n_; clear n_
  have n_ := Aside0.mk (Kd.C_below (Kd.C_below C1.out (below_alloc (Below.refl _ _) (Obj.cells #[Value.int IntKind.i64 0, Value.int IntKind.i64 141] 26))) hb); clear C1; have C1 := n_; clear n_
  have n_ := Aside0.mk (Kd.C_below (Kd.C_below C2.out (below_alloc (Below.refl _ _) (Obj.cells #[Value.int IntKind.i64 0, Value.int IntKind.i64 141] 26))) hb); clear C2; have C2 := n_; clear n_
  have n_ := Aside0.mk (Kd.C_below (Kd.C_below C3.out (below_alloc (Below.refl _ _) (Obj.cells #[Value.int IntKind.i64 0, Value.int IntKind.i64 141] 26))) hb); clear C3; have C3 := n_; clear n_
  clear C5 hc5
  have n_ := Aside0.mk (below_step (below_alloc HB.out _) hb); clear HB; have HB := n_; clear n_ hb
  go_wp2_with fail
  refine (tok_at (⟨#[120, 32, 63]⟩ : ByteArray) ([] : List S44) 0 2 140 tk6 rfl (w5.alloc (Obj.cells #[Value.int IntKind.i64 0, Value.int IntKind.i64 141] 26)) ⟨Gl.below hG.out (below_alloc HB.out _)⟩).mono ?_
  rintro e w6 ⟨A6, c6, rfl, hc6, C6, hb⟩
  have B5 := Aside0.mk ((Bx.new w5 0 141).go hb)
  have n_ := Aside0.mk (Bx.go (show Bx (w5.alloc (Obj.cells #[Value.int IntKind.i64 0, Value.int IntKind.i64 141] 26)) _ _ _ from blk_alloc B1.out _) hb); clear B1; have B1 := n_; clear n_
  have n_ := Aside0.mk (Bx.go (show Bx (w5.alloc (Obj.cells #[Value.int IntKind.i64 0, Value.int IntKind.i64 141] 26)) _ _ _ from blk_alloc B2.out _) hb); clear B2; have B2 := n_; clear n_
  have n_ := Aside0.mk (Bx.go (show Bx (w5.alloc (Obj.cells #[Value.int IntKind.i64 0, Value.int IntKind.i64 141] 26)) _ _ _ from blk_alloc B3.out _) hb); clear B3; have B3 := n_; clear n_
  have n_ := Aside0.mk (Bx.go (show Bx (w5.alloc (Obj.cells #[Value.int IntKind.i64 0, Value.int IntKind.i64 141] 26)) _ _ _ from blk_alloc B4.out _) hb); clear B4; have B4 := n_; clear n_
  have n_ := Aside0.mk (Kd.C_below (Kd.C_below C1.out (below_alloc (Below.refl _ _) (Obj.cells #[Value.int IntKind.i64 0, Value.int IntKind.i64 141] 26))) hb); clear C1; have C1 := n_; clear n_
  have n_ := Aside0.mk (Kd.C_below (Kd.C_below C2.out (below_alloc (Below.refl _ _) (Obj.cells #[Value.int IntKind.i64 0, Value.int IntKind.i64 141] 26))) hb); clear C2; have C2 := n_; clear n_
  have n_ := Aside0.mk (Kd.C_below (Kd.C_below C3.out (below_alloc (Below.refl _ _) (Obj.cells #[Value.int IntKind.i64 0, Value.int IntKind.i64 141] 26))) hb); clear C3; have C3 := n_; clear n_
  clear C6 hc6
  have n_ := Aside0.mk (below_step (below_alloc HB.out _) hb); clear HB; have HB := n_; clear n_ hb
  go_wp2_with fail
  refine (tok_at (⟨#[34, 97]⟩ : ByteArray) ([] : List S44) 0 0 142 tk7 rfl (w6.alloc (Obj.cells #[Value.int IntKind.i64 2, Value.int IntKind.i64 140] 26)) ⟨Gl.below hG.out (below_alloc HB.out _)⟩).mono ?_
  rintro e w7 ⟨A7, c7, rfl, hc7, C7, hb⟩
  have B6 := Aside0.mk ((Bx.new w6 2 140).go hb)
  have n_ := Aside0.mk (Bx.go (show Bx (w6.alloc (Obj.cells #[Value.int IntKind.i64 2, Value.int IntKind.i64 140] 26)) _ _ _ from blk_alloc B1.out _) hb); clear B1; have B1 := n_; clear n_
  have n_ := Aside0.mk (Bx.go (show Bx (w6.alloc (Obj.cells #[Value.int IntKind.i64 2, Value.int IntKind.i64 140] 26)) _ _ _ from blk_alloc B2.out _) hb); clear B2; have B2 := n_; clear n_
  have n_ := Aside0.mk (Bx.go (show Bx (w6.alloc (Obj.cells #[Value.int IntKind.i64 2, Value.int IntKind.i64 140] 26)) _ _ _ from blk_alloc B3.out _) hb); clear B3; have B3 := n_; clear n_
  have n_ := Aside0.mk (Bx.go (show Bx (w6.alloc (Obj.cells #[Value.int IntKind.i64 2, Value.int IntKind.i64 140] 26)) _ _ _ from blk_alloc B4.out _) hb); clear B4; have B4 := n_; clear n_
  have n_ := Aside0.mk (Bx.go (show Bx (w6.alloc (Obj.cells #[Value.int IntKind.i64 2, Value.int IntKind.i64 140] 26)) _ _ _ from blk_alloc B5.out _) hb); clear B5; have B5 := n_; clear n_
  have n_ := Aside0.mk (Kd.C_below (Kd.C_below C1.out (below_alloc (Below.refl _ _) (Obj.cells #[Value.int IntKind.i64 2, Value.int IntKind.i64 140] 26))) hb); clear C1; have C1 := n_; clear n_
  have n_ := Aside0.mk (Kd.C_below (Kd.C_below C2.out (below_alloc (Below.refl _ _) (Obj.cells #[Value.int IntKind.i64 2, Value.int IntKind.i64 140] 26))) hb); clear C2; have C2 := n_; clear n_
  have n_ := Aside0.mk (Kd.C_below (Kd.C_below C3.out (below_alloc (Below.refl _ _) (Obj.cells #[Value.int IntKind.i64 2, Value.int IntKind.i64 140] 26))) hb); clear C3; have C3 := n_; clear n_
  clear C7 hc7
  have n_ := Aside0.mk (below_step (below_alloc HB.out _) hb); clear HB; have HB := n_; clear n_ hb
  obtain ⟨⟨x10, x11⟩, x12⟩ := B1.out.cells
  obtain ⟨⟨x20, x21⟩, x22⟩ := B2.out.cells
  obtain ⟨⟨x30, x31⟩, x32⟩ := B3.out.cells
  obtain ⟨ad, rfl, hl, y0, y1, y2⟩ := cell3 C1.out 1 (⟨3, 4, (⟨#[54, 48]⟩ : ByteArray)⟩ : S44) rfl (by decide)
  simp only [Nat.reduceMul, Nat.reduceEqDiff, Go.Addr.add, ↓reduceIte] at y0 y1 y2
  go_wp2_with fail
  clear x10 x11 x12 x20 x21 x22 x30 x31 x32 y0 y1 y2
  refine (lexer_Value.calls 9 3 4 (⟨#[54, 48]⟩ : ByteArray) 60 0 (w7.alloc (Obj.cells #[Value.int IntKind.i64 0, Value.int IntKind.i64 142] 26)) ⟨Gl.below hG.out (below_alloc HB.out _)⟩ vl).mono ?_
  rintro e w8 ⟨rfl, hb⟩
  have B7 := Aside0.mk ((Bx.new w7 0 142).go hb)
  have n_ := Aside0.mk (Bx.go (show Bx (w7.alloc (Obj.cells #[Value.int IntKind.i64 0, Value.int IntKind.i64 142] 26)) _ _ _ from blk_alloc B4.out _) hb); clear B4; have B4 := n_; clear n_
  have n_ := Aside0.mk (Bx.go (show Bx (w7.alloc (Obj.cells #[Value.int IntKind.i64 0, Value.int IntKind.i64 142] 26)) _ _ _ from blk_alloc B5.out _) hb); clear B5; have B5 := n_; clear n_
  have n_ := Aside0.mk (Bx.go (show Bx (w7.alloc (Obj.cells #[Value.int IntKind.i64 0, Value.int IntKind.i64 142] 26)) _ _ _ from blk_alloc B6.out _) hb); clear B6; have B6 := n_; clear n_
  have n_ := Aside0.mk (Kd.C_below (Kd.C_below C1.out (below_alloc (Below.refl _ _) (Obj.cells #[Value.int IntKind.i64 0, Value.int IntKind.i64 142] 26))) hb); clear C1; have C1 := n_; clear n_
  have n_ := Aside0.mk (Kd.C_below (Kd.C_below C2.out (below_alloc (Below.refl _ _) (Obj.cells #[Value.int IntKind.i64 0, Value.int IntKind.i64 142] 26))) hb); clear C2; have C2 := n_; clear n_
  have n_ := Aside0.mk (Kd.C_below (Kd.C_below C3.out (below_alloc (Below.refl _ _) (Obj.cells #[Value.int IntKind.i64 0, Value.int IntKind.i64 142] 26))) hb); clear C3; have C3 := n_; clear n_
  have n_ := Aside0.mk (below_step (below_alloc HB.out _) hb); clear HB; have HB := n_; clear n_ hb B1 B2 B3
  go_wp2_with fail
  refine (lexer_Place.calls 9 (⟨#[97, 10, 98, 99]⟩ : ByteArray) 3 2 2 w8 pl).mono ?_
  rintro e w9 ⟨rfl, hd⟩
  have hb : Below w8.heap.size w8 w9 := hd.below
  clear hd
  have n_ := Aside0.mk (B4.out.go hb); clear B4; have B4 := n_; clear n_
  have n_ := Aside0.mk (B5.out.go hb); clear B5; have B5 := n_; clear n_
  have n_ := Aside0.mk (B6.out.go hb); clear B6; have B6 := n_; clear n_
  have n_ := Aside0.mk (B7.out.go hb); clear B7; have B7 := n_; clear n_
  have n_ := Aside0.mk (Kd.C_below C1.out hb); clear C1; have C1 := n_; clear n_
  have n_ := Aside0.mk (Kd.C_below C2.out hb); clear C2; have C2 := n_; clear n_
  have n_ := Aside0.mk (Kd.C_below C3.out hb); clear C3; have C3 := n_; clear n_
  have n_ := Aside0.mk (below_step HB.out hb); clear HB; have HB := n_; clear n_ hb
  go_wp2_with fail
  refine (antiquaryref14_Same.calls 9 _ _ ([(⟨2, 0, (⟨#[104, 97, 115]⟩ : ByteArray)⟩ : S44), (⟨3, 4, (⟨#[54, 48]⟩ : ByteArray)⟩ : S44), (⟨1, 7, (⟨#[115]⟩ : ByteArray)⟩ : S44), (⟨5, 8, (⟨#[59]⟩ : ByteArray)⟩ : S44)] : List S44) _ _ ([(⟨2, 0, (⟨#[104, 97, 115]⟩ : ByteArray)⟩ : S44), (⟨3, 0, (⟨#[54, 48]⟩ : ByteArray)⟩ : S44), (⟨1, 0, (⟨#[115]⟩ : ByteArray)⟩ : S44), (⟨5, 0, (⟨#[59]⟩ : ByteArray)⟩ : S44)] : List S44) true (w9.alloc (Obj.cells (([(⟨2, 0, (⟨#[104, 97, 115]⟩ : ByteArray)⟩ : S44), (⟨3, 0, (⟨#[54, 48]⟩ : ByteArray)⟩ : S44), (⟨1, 0, (⟨#[115]⟩ : ByteArray)⟩ : S44), (⟨5, 0, (⟨#[59]⟩ : ByteArray)⟩ : S44)] : List S44).flatMap cells3).toArray 44)) (Kd.C_below C1.out (below_alloc (Below.refl _ _) _)) hc1 (lit_C w9 ([(⟨2, 0, (⟨#[104, 97, 115]⟩ : ByteArray)⟩ : S44), (⟨3, 0, (⟨#[54, 48]⟩ : ByteArray)⟩ : S44), (⟨1, 0, (⟨#[115]⟩ : ByteArray)⟩ : S44), (⟨5, 0, (⟨#[59]⟩ : ByteArray)⟩ : S44)] : List S44) (by decide)) (by decide) sm1).mono ?_
  rintro e w10 ⟨rfl, hd⟩
  have hb : Below w9.heap.size w9 w10 := below_step (below_alloc (Below.refl _ _) _) hd.below
  clear hd
  have n_ := Aside0.mk (B4.out.go hb); clear B4; have B4 := n_; clear n_
  have n_ := Aside0.mk (B5.out.go hb); clear B5; have B5 := n_; clear n_
  have n_ := Aside0.mk (B6.out.go hb); clear B6; have B6 := n_; clear n_
  have n_ := Aside0.mk (B7.out.go hb); clear B7; have B7 := n_; clear n_
  have n_ := Aside0.mk (Kd.C_below C1.out hb); clear C1; have C1 := n_; clear n_
  have n_ := Aside0.mk (Kd.C_below C2.out hb); clear C2; have C2 := n_; clear n_
  have n_ := Aside0.mk (Kd.C_below C3.out hb); clear C3; have C3 := n_; clear n_
  have n_ := Aside0.mk (below_step HB.out hb); clear HB; have HB := n_; clear n_ hb
  obtain ⟨ad1, e1_, hl1, y0, y1, y2⟩ := cell3 C1.out 2 (⟨1, 7, (⟨#[115]⟩ : ByteArray)⟩ : S44) rfl (by decide)
  cases e1_
  obtain ⟨ad3, rfl, hl3, z0, z1, z2⟩ := cell3 C3.out 0 (⟨4, 0, (⟨#[115, 97, 121, 32, 34, 120, 34]⟩ : ByteArray)⟩ : S44) rfl (by decide)
  simp only [Nat.reduceMul, Nat.reduceEqDiff, Go.Addr.add, ↓reduceIte, Nat.zero_mul, Nat.add_zero] at y0 y1 y2 z0 z1 z2
  go_wp2_with fail
  clear y0 y1 y2 z0 z1 z2
  refine (antiquaryref14_Same.calls 9 _ _ ([(⟨1, 0, (⟨#[97]⟩ : ByteArray)⟩ : S44), (⟨5, 1, (⟨#[60, 61]⟩ : ByteArray)⟩ : S44), (⟨1, 3, (⟨#[98]⟩ : ByteArray)⟩ : S44), (⟨5, 4, (⟨#[46, 46]⟩ : ByteArray)⟩ : S44), (⟨1, 6, (⟨#[99]⟩ : ByteArray)⟩ : S44)] : List S44) _ _ ([(⟨1, 0, (⟨#[97]⟩ : ByteArray)⟩ : S44), (⟨5, 0, (⟨#[60, 61]⟩ : ByteArray)⟩ : S44), (⟨1, 0, (⟨#[98]⟩ : ByteArray)⟩ : S44), (⟨5, 0, (⟨#[46, 46]⟩ : ByteArray)⟩ : S44), (⟨1, 0, (⟨#[99]⟩ : ByteArray)⟩ : S44)] : List S44) true (w10.alloc (Obj.cells (([(⟨1, 0, (⟨#[97]⟩ : ByteArray)⟩ : S44), (⟨5, 0, (⟨#[60, 61]⟩ : ByteArray)⟩ : S44), (⟨1, 0, (⟨#[98]⟩ : ByteArray)⟩ : S44), (⟨5, 0, (⟨#[46, 46]⟩ : ByteArray)⟩ : S44), (⟨1, 0, (⟨#[99]⟩ : ByteArray)⟩ : S44)] : List S44).flatMap cells3).toArray 44)) (Kd.C_below C2.out (below_alloc (Below.refl _ _) _)) hc2 (lit_C w10 ([(⟨1, 0, (⟨#[97]⟩ : ByteArray)⟩ : S44), (⟨5, 0, (⟨#[60, 61]⟩ : ByteArray)⟩ : S44), (⟨1, 0, (⟨#[98]⟩ : ByteArray)⟩ : S44), (⟨5, 0, (⟨#[46, 46]⟩ : ByteArray)⟩ : S44), (⟨1, 0, (⟨#[99]⟩ : ByteArray)⟩ : S44)] : List S44) (by decide)) (by decide) sm2).mono ?_
  rintro e w11 ⟨rfl, hd⟩
  have hb : Below w10.heap.size w10 w11 := below_step (below_alloc (Below.refl _ _) _) hd.below
  clear hd
  have n_ := Aside0.mk (B4.out.go hb); clear B4; have B4 := n_; clear n_
  have n_ := Aside0.mk (B5.out.go hb); clear B5; have B5 := n_; clear n_
  have n_ := Aside0.mk (B6.out.go hb); clear B6; have B6 := n_; clear n_
  have n_ := Aside0.mk (B7.out.go hb); clear B7; have B7 := n_; clear n_
  have n_ := Aside0.mk (Kd.C_below C1.out hb); clear C1; have C1 := n_; clear n_
  have n_ := Aside0.mk (Kd.C_below C2.out hb); clear C2; have C2 := n_; clear n_
  have n_ := Aside0.mk (Kd.C_below C3.out hb); clear C3; have C3 := n_; clear n_
  have n_ := Aside0.mk (below_step HB.out hb); clear HB; have HB := n_; clear n_ hb
  obtain ⟨⟨x40, x41⟩, x42⟩ := B4.out.cells
  obtain ⟨⟨x50, x51⟩, x52⟩ := B5.out.cells
  obtain ⟨⟨x60, x61⟩, x62⟩ := B6.out.cells
  obtain ⟨⟨x70, x71⟩, x72⟩ := B7.out.cells
  go_wp2_with fail
  clear x40 x41 x42 x50 x51 x52 x60 x61 x62 x70 x71 x72
  refine (lexer_Word.calls (⟨#[104, 97, 115]⟩ : ByteArray) true w11 ⟨Gl.below hG.out HB.out⟩ wd1).mono ?_
  rintro e w12 ⟨rfl, hb⟩
  have n_ := Aside0.mk (below_step HB.out hb); clear HB; have HB := n_; clear n_ hb
  go_wp2_with fail
  refine (lexer_Word.calls (⟨#[104, 97, 115, 104]⟩ : ByteArray) false w12 ⟨Gl.below hG.out HB.out⟩ wd2).mono ?_
  rintro e w13 ⟨rfl, hb⟩
  have n_ := Aside0.mk (below_step HB.out hb); clear HB; have HB := n_; clear n_ hb
  go_wp2
  go_ret
  exact ⟨rfl, HB.out⟩
theorem antiquarylaw14_sanity.calls (k : Nat) (r : Bool) (w : World) (hG : Aside0 (Gl w)) (h : antiquarylaw14_sanity.f k = some r) :
    Calls Tryz.prog 9 #[] w fun e w' => e = .returned (.bool r) ∧ Below w.heap.size w w' := by
  unfold antiquarylaw14_sanity.f at h
  injection h with h
  subst h
  exact sanity_any w hG
end Go.Proofs.YtafomaiaobfkfaaGreatDoor.Pr
