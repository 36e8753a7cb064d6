/-
  Arguments that are read, opened: of a value's reading, the rows that the printed contracts ask for. Conditions: none.
-/
import Derived.Test.YtafomaiaobfkfaaGreatDoorProg
import Derived.Test.YtafomaiaobfkfaaGreatDoorWWords
import Derived.Deep.Slices
import Derived.Deep.Strs
import Derived.WalkKit
import Derived.ProofKit
import Derived.OpenShut
namespace Go.Proofs.YtafomaiaobfkfaaGreatDoor.Ky
open Go.RowKit Go.Proofs.YtafomaiaobfkfaaGreatDoorW.PrintWords Go.ChangeShapes Go.WideShapes
set_option linter.unusedVariables false
set_option linter.unusedSimpArgs false

/-- A value of type t that is read is one of kind d, of which Q holds. -/
def Opn {α : Type} (d : Kd α) (Q : α → Prop) (t : TypeId) : Prop := ∀ {H : Type} (enc : TypeId × Value → H) (W : World) (fuel : Nat) (cs : List Value) (x : DataW H × List MemPlace),
  DataW.trod enc Tryz.prog W 0 (fun _ => true) true fuel t cs = some x → ∃ p : α, d.K W p cs ∧ Q p
theorem opn_str {t : TypeId} (hu : Tryz.prog.underlying t = some .string) : Opn Kd.string (fun s => s.size ≤ maxLen) t := by
  intro H enc W fuel cs x h
  obtain ⟨s, rfl, _, h3⟩ := DataW.trod_string hu h
  exact ⟨s, rfl, h3⟩
theorem opn_int {t : TypeId} (k : IntKind) (hu : Tryz.prog.underlying t = some (.int k)) : Opn (Kd.int k) (fun n => (Lit.int k n).wf = true) t := by
  intro H enc W fuel cs x h
  obtain ⟨n, rfl, _, h3⟩ := DataW.trod_int hu h
  exact ⟨n, rfl, h3⟩
theorem listed {α : Type} {S : Nat → α → Prop} : ∀ n, (∀ i, i < n → ∃ p, S i p) → ∃ ps : List α, ps.length = n ∧ ∀ i p, ps[i]? = some p → S i p
  | 0, _ => ⟨[], rfl, fun i p h => by simp at h⟩
  | n + 1, h => by
    obtain ⟨ps, hl, hp⟩ := listed n (fun i hi => h i (by omega))
    obtain ⟨p, hpn⟩ := h n (by omega)
    refine ⟨ps ++ [p], by simp [hl], fun i q hq => ?_⟩
    by_cases hi : i < n
    · rw [List.getElem?_append_left (by omega)] at hq
      exact hp i q hq
    · rw [List.getElem?_append_right (by omega), hl] at hq
      have hlt := (List.getElem?_eq_some_iff.1 hq).1
      simp at hlt
      obtain rfl : i = n := by omega
      simp at hq
      subst hq
      exact hpn
theorem opn_slice {α : Type} {d : Kd α} {Q : α → Prop} {t e : TypeId} (hu : Tryz.prog.underlying t = some (.slice e)) (hc : Tryz.prog.cellsOf e = d.sz) (h : Opn d Q e) : Opn (Kd.slice e d) (fun xs => ∀ x ∈ xs, Q x) t := by
  intro H enc W fuel cs x hx
  rcases Deep.open_slice hu hx with ⟨rfl, _⟩ | ⟨a, len, cap, m, n, D, Pl, rfl, _, hl, hm, hmm, _, hel⟩
  · exact ⟨[], ⟨none, 0, rfl, Nat.le_refl _, rfl, Nat.zero_le _, fun h => absurd h (by simp)⟩, fun x hx => by cases hx⟩
  · obtain ⟨ps, hps, hp⟩ := listed (S := fun i p => ∃ cs', cs'.length = d.sz ∧ d.K W p cs' ∧ Q p ∧ ∀ j u, cs'[j]? = some u → W.cell? (a.add (i * d.sz + j)) = some u) len (fun i hi => by
      obtain ⟨cs', h1, h2⟩ := hel i (by rw [hmm]; split <;> omega)
      obtain ⟨p, h3, h4⟩ := h enc W n cs' _ h2
      obtain ⟨_, h5, h6⟩ := World.cells?_some h1
      refine ⟨p, cs', d.K_len h3, h3, h4, fun j u hj => ?_⟩
      have hlt := (List.getElem?_eq_some_iff.1 hj).1
      have h7 := h6 j (by omega)
      rw [Deep.add_add, hc] at h7
      rw [h7, hj])
    have h63 : cap ≤ 9223372036854775807 := by simpa [maxLen] using hm
    refine ⟨ps, ⟨some a, cap, by rw [hps], by omega, rfl, by omega, fun _ => ⟨a, rfl, fun j p hj => ?_⟩⟩, fun x hx => ?_⟩
    · obtain ⟨cs', h1, h2, _, h4⟩ := hp j p hj
      exact ⟨cs', h1, h2, h4⟩
    · obtain ⟨i, hi, rfl⟩ := List.getElem_of_mem hx
      obtain ⟨_, _, _, h3, _⟩ := hp i _ (List.getElem?_eq_getElem hi)
      exact h3
/-- An argument: its value's reading laid open. -/
theorem opn_arg {α : Type} {d : Kd α} {Q : List α → Prop} {t e : TypeId} {H : Type} {enc : TypeId × Value → H} {W : World} {a : Option Addr} {len cap : Nat} {x : DataW H} {ps : List MemPlace} (h : Opn (Kd.slice e d) Q t)
    (hx : DataW.Trod enc Tryz.prog W 0 (fun _ => true) true t (.slice a len cap) x ps) : ∃ xs, len = xs.length ∧ xs.length ≤ cap ∧ Kd.C d W a xs.length xs ∧ Q xs := by
  obtain ⟨fuel, hf⟩ := hx
  obtain ⟨xs, ⟨A, c, h1, h2, h3⟩, hq⟩ := h enc W fuel _ _ hf
  simp [Value.cells] at h1
  obtain ⟨rfl, rfl, rfl⟩ := h1
  exact ⟨xs, rfl, h2, h3, hq⟩
theorem laidOut : laidOutB Tryz.prog = true := by kernel_rfl
end Go.Proofs.YtafomaiaobfkfaaGreatDoor.Ky
