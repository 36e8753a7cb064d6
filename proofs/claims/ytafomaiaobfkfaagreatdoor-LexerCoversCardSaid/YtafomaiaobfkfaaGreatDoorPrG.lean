/-
  The contracts that are proved by hand, in the printed functions' own shape. Conditions: each theorem's own.
-/
import Derived.Test.YtafomaiaobfkfaaGreatDoorPr0
import Derived.Test.YtafomaiaobfkfaaGreatDoorLexXc
namespace Go.Proofs.YtafomaiaobfkfaaGreatDoor.Pr
open Go.RowKit Go.Proofs.YtafomaiaobfkfaaGreatDoorW.PrintWords
set_option linter.unusedVariables false
set_option linter.unusedSimpArgs false

abbrev Gl (w : World) : Prop := Lx.Gl w
theorem Gl.below {w w' : World} (h : Gl w) (hb : Below w.heap.size w w') : Gl w' := Lx.Gl.below h hb

theorem ownRow_map {α β : Type} {R : α → List Value → Prop} {R' : β → List Value → Prop} (f : α → β) (hR : ∀ p c, R p c → R' (f p) c) {e size : Nat} {w : World} {base : Nat} {v : Value} {ps : List α} (h : OwnRow R e size w base v ps) : OwnRow R' e size w base v (ps.map f) := by
  obtain ⟨inner, ho, h1, h2⟩ := h
  refine ⟨inner, by simpa using ho, by simpa using h1, fun j p hj => ?_⟩
  rw [List.getElem?_map] at hj
  obtain ⟨q, hq, rfl⟩ := Option.map_eq_some_iff.1 hj
  exact hR _ _ (h2 j q hq)

/-! ### lexer.Tokens -/
def tS (t : Lx.Tok) : S44 := ⟨t.k, t.off, ⟨t.s.toArray⟩⟩
def outS : Lx.Out → List S44 × Int × Int
  | .bad o e => ([], o, e)
  | .ok ts => (ts.map tS, 0, 0)
def lexer_Tokens.f (a0 : ByteArray) : Option (List S44 × Int × Int) := some (outS (Lx.toksS a0))
theorem lexer_Tokens.calls (a0 : ByteArray) (r1 : List S44) (r2 : Int) (r3 : Int) (w : World) (hG : Aside0 (Gl w)) (h : lexer_Tokens.f a0 = some (r1, r2, r3)) :
    Calls Tryz.prog 10 #[.string a0] w fun e w' => ∃ v0_ : Value, e = .returned (.tuple #[v0_, .agg #[.int .i64 r2, .int .i64 r3]]) ∧ Kd.R k44 44 w' w.heap.size (fun _ => True) v0_ r1 ∧ Below w.heap.size w w' := by
  refine (Lx.tokens_any a0 w hG.out).mono ?_
  intro e w' hp
  unfold lexer_Tokens.f at h
  injection h with h
  cases ho : Lx.toksS a0 with
  | bad o en =>
    rw [ho] at h hp
    simp only [outS, Prod.mk.injEq] at h
    obtain ⟨rfl, rfl, rfl⟩ := h
    obtain ⟨rfl, hb⟩ := hp
    exact ⟨_, rfl, Kd.R_nil _ _ _ _ _, hb⟩
  | ok ts =>
    rw [ho] at h hp
    simp only [outS, Prod.mk.injEq] at h
    obtain ⟨rfl, rfl, rfl⟩ := h
    obtain ⟨v, rfl, hv, hb⟩ := hp
    refine ⟨v, rfl, ⟨fun _ _ => trivial, ownRow_map tS (fun p c hp => ?_) hv⟩, hb⟩
    unfold Lx.RT at hp
    subst hp
    exact k44_mkM _ _ _ (tS p)

/-! ### lexer.Words, lexer.Word -/
def wordsB : List ByteArray := Lx.words.map fun l => ⟨l.toArray⟩
def lexer_Words.f : Option (List ByteArray) := some wordsB
theorem lexer_Words.calls (r : List ByteArray) (w : World) (hG : Aside0 (Gl w)) (h : lexer_Words.f = some r) :
    Calls Tryz.prog 16 #[] w fun e w' => ∃ v0_ : Value, e = .returned (v0_) ∧ Kd.R Kd.string 9 w' w.heap.size (fun _ => True) v0_ r ∧ Below w.heap.size w w' := by
  unfold lexer_Words.f at h
  injection h with h
  subst h
  refine (Lx.words_any w hG.out).mono ?_
  rintro e w' ⟨rfl, rfl⟩
  refine ⟨_, rfl, ⟨fun _ _ => trivial, ?_⟩, Lx.below_of_gb (Lx.gb_alloc (World.grownBy.refl w none) _) (by simp)⟩
  have h := OwnRow.lit (R := fun (x : ByteArray) (cs : List Value) => cs = [Value.string x]) (e := 9) (size := 1) w w.heap.size (Kd.reps_scalar (enc := Value.string) wordsB) (Nat.le_refl _) (by decide)
  exact h.imp_ (fun p c hp => hp)
def lexer_Word.f (a0 : ByteArray) : Option Bool := some (decide (a0.data.toList ∈ Lx.words))
theorem lexer_Word.calls (a0 : ByteArray) (r : Bool) (w : World) (hG : Aside0 (Gl w)) (h : lexer_Word.f a0 = some r) :
    Calls Tryz.prog 18 #[.string a0] w fun e w' => e = .returned (.bool r) ∧ Below w.heap.size w w' := by
  unfold lexer_Word.f at h
  injection h with h
  subst h
  exact Lx.word_any a0 w hG.out

/-! ### lexer.write -/
def quoteS (s : ByteArray) : ByteArray := (⟨#[34]⟩ : ByteArray) ++ ⟨(Lx.escL s.data.toList).toArray⟩ ++ ⟨#[34]⟩
def lexer_write.f (a0_0 a0_1 : Int) (a0_2 : ByteArray) : Option ByteArray := if a0_0 = 4 then (if a0_2.size ≤ 70368744177664 then some (quoteS a0_2) else none) else some a0_2
theorem lexer_write.calls (a0_0 : Int) (a0_1 : Int) (a0_2 : ByteArray) (r : ByteArray) (w : World) (h : lexer_write.f a0_0 a0_1 a0_2 = some r) :
    Calls Tryz.prog 38 #[.agg #[.int .i64 a0_0, .int .i64 a0_1, .string a0_2]] w fun e w' => e = .returned (.string r) ∧ Below w.heap.size w w' := by
  unfold lexer_write.f at h
  split at h
  · rename_i hk
    split at h
    · rename_i hs
      injection h with h
      subst h
      subst hk
      exact Lx.write_text a0_1 a0_2 w hs
    · cases h
  rename_i hk
  injection h with h
  subst h
  go_enter Tryz.func38, Tryz.ntmps38
  go_wp2
  go_ret
  exact ⟨rfl, Lx.below_of_gb (Lx.gb_alloc (World.grownBy.refl w none) _) (by simp)⟩

/-! ### of the library -/
theorem join_nil (A : Option Addr) (c : Nat) (sep : ByteArray) (w : World) :
    Calls Tryz.prog 39 #[.slice A 0 c, .string sep] w fun e w' => e = .returned (.string ⟨#[]⟩) ∧ w' = w := by
  go_enter Tryz.func39, Tryz.ntmps39
  go_wp2
  go_ret
  exact ⟨rfl, rfl⟩
theorem spot_none {w : World} {a : Addr} {v : Value} (h : w.cell? a = some v) : a.spot = none := by
  unfold World.cell? at h
  split at h
  · split at h
    · cases h
    · rename_i h1
      cases hs : a.spot
      · rfl
      · rw [hs] at h1
        exact absurd rfl h1
  · cases h
def joinS (l0 : List ByteArray) (a1 : ByteArray) : List UInt8 := Lib.join (l0.map (·.data.toList)) a1.data.toList
def strings_Join.f (l0 : List ByteArray) (a1 : ByteArray) : Option ByteArray := if l0.length ≤ 140737488355328 ∧ (joinS l0 a1).length ≤ 140737488355328 then some ⟨(joinS l0 a1).toArray⟩ else none
theorem strings_Join.calls (A0 : Option Addr) (c0 : Nat) (l0 : List ByteArray) (a1 : ByteArray) (r : ByteArray) (w : World) (hr0 : Kd.C Kd.string w A0 l0.length l0) (hc0 : l0.length ≤ c0) (h : strings_Join.f l0 a1 = some r) :
    Calls Tryz.prog 39 #[.slice A0 l0.length c0, .string a1] w fun e w' => e = .returned (.string r) ∧ Below w.heap.size w w' := by
  unfold strings_Join.f at h
  split at h
  · rename_i hb
    injection h with h
    subst h
    match l0, hr0, hc0, hb with
    | [], hr0, hc0, hb =>
      refine (join_nil A0 c0 a1 w).mono ?_
      rintro e w' ⟨rfl, rfl⟩
      exact ⟨rfl, Below.refl _ _⟩
    | x :: xs, hr0, hc0, hb =>
      obtain ⟨h1, h2, h3⟩ := hr0
      obtain ⟨ad, rfl, hc⟩ := h3 (by simp)
      have cell : ∀ (j : Nat) y, (x :: xs)[j]? = some y → w.cell? (ad.add j) = some (.string y) := by
        intro j y hj
        obtain ⟨c, hc1, hc2, hc3⟩ := hc j y hj
        have hk : c = [.string y] := hc2
        have := hc3 0 (.string y) (by rw [hk]; rfl)
        simpa [show Kd.string.sz = 1 from rfl] using this
      have c0 := cell 0 x rfl
      have hs : ad.spot = none := by
        have := spot_none c0
        simpa [Addr.add] using this
      obtain ⟨bk, o, sp⟩ := ad
      simp only at hs
      subst hs
      have add : ∀ j, (⟨bk, o, none⟩ : Addr).add j = ⟨bk, o + j, none⟩ := by
        intro j
        unfold Addr.add
        split
        · rename_i hj; subst hj; rfl
        · rfl
      refine (Tryz.strings_Join bk o _ (x :: xs) a1 w (fun j y hj => by rw [← add]; exact cell j y hj) ?_ hb.1 hc0 hb.2).mono ?_
      · have := World.block_lt_of_cell? w _ c0
        rw [add] at this
        exact this
      · rintro e w' ⟨rfl, hB⟩
        exact ⟨rfl, hB⟩
  · cases h
def strconv_Atoi.f (a0 : ByteArray) : Option (Int × Option Int) := if a0.size ≤ 18 then (Lib.atoi a0.data.toList).map (fun n => (n, none)) else none
theorem below_bytes (w : World) (e : TypeId) (t : ByteArray) : Below w.heap.size w (Lib.bytesWorld w e t) := bytes_below (Below.refl _ _) (Nat.le_refl _) e t
theorem strconv_Atoi.calls (a0 : ByteArray) (r1 : Int) (r2 : Option Int) (w : World) (h : strconv_Atoi.f a0 = some (r1, r2)) :
    Calls Tryz.prog 36 #[.string a0] w fun e w' => e = .returned (.tuple #[.int .i64 r1, errW r2]) ∧ Below w.heap.size w w' := by
  unfold strconv_Atoi.f at h
  split at h
  · rename_i hl
    obtain ⟨n, hn, he⟩ := Option.map_eq_some_iff.1 h
    injection he with h1 h2
    subst h1 h2
    refine (Tryz.strconv_Atoi a0 n hl hn w).mono ?_
    rintro e w' ⟨rfl, t, rfl⟩
    exact ⟨rfl, below_bytes _ _ _⟩
  · cases h
def strings_Count.f (a0 a1 : ByteArray) : Option Int := match a1.data.toList with
  | [c] => some (Lib.countByte a0.data.toList c)
  | _ => none
theorem strings_Count.calls (a0 : ByteArray) (a1 : ByteArray) (r : Int) (w : World) (h : strings_Count.f a0 a1 = some r) :
    Calls Tryz.prog 31 #[.string a0, .string a1] w fun e w' => e = .returned (.int .i64 r) ∧ Drawn0 w w' := by
  unfold strings_Count.f at h
  split at h
  · rename_i c hc
    injection h with h
    subst h
    have e1 : a1 = ⟨#[c]⟩ := by rw [← Lx.mk_data a1, hc]
    subst e1
    refine (Tryz.strings_Count_one a0 c w).mono ?_
    rintro e w' ⟨rfl, rfl⟩
    exact ⟨rfl, 0, rfl⟩
  · cases h
def strings_LastIndexByte.f (a0 : ByteArray) (a1 : Int) : Option Int := if a0.size < 4611686018427387904 then some (Lib.lastIndexByte a0 a1) else none
theorem strings_LastIndexByte.calls (a0 : ByteArray) (a1 : Int) (r : Int) (w : World) (h : strings_LastIndexByte.f a0 a1 = some r) :
    Calls Tryz.prog 32 #[.string a0, .int .u8 a1] w fun e w' => e = .returned (.int .i64 r) ∧ Drawn0 w w' := by
  unfold strings_LastIndexByte.f at h
  split at h
  · rename_i hl
    injection h with h
    subst h
    refine (Tryz.strings_LastIndexByte a0 a1 hl w).mono ?_
    rintro e w' ⟨rfl, rfl⟩
    exact ⟨rfl, 0, rfl⟩
  · cases h
end Go.Proofs.YtafomaiaobfkfaaGreatDoor.Pr
