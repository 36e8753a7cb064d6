/-
  The printed functions of the specification Word, name, number: what they compute, by the pure model. Conditions: each theorem's own.
-/
import Derived.Test.YtafomaiaobfkfaaGreatDoorLawR0
namespace Go.Proofs.YtafomaiaobfkfaaGreatDoor.Pr
open Go.RowKit Lx Go.Proofs.YtafomaiaobfkfaaGreatDoorW.PrintWords
set_option linter.unusedVariables false
set_option linter.unusedSimpArgs false

/-- What a reading comes to, as the printed functions tell it. -/
def resT (s : ByteArray) (i : Nat) : Res → Int × Int × ByteArray × Int × Int
  | .bad e => (0, 0, ⟨#[]⟩, 0, e)
  | .got k t rest => (k, (i : Int), ⟨t.toArray⟩, ((s.size - rest.length : Nat) : Int), 0)

theorem word_l0 (a : ByteArray) (xs : List ByteArray) (hx : xs.length ≤ 100) (d : Nat) : ∀ (i k : Nat), xs.length - i = d → i ≤ xs.length → d < k →
    antiquaryref14_Word.l0 k a xs (i : Int) = some ((xs.drop i).any fun x => decide (x.toList = a.toList)) := by
  induction d with
  | zero =>
    intro i k hd hi hk
    obtain ⟨k, rfl⟩ : ∃ k', k = k' + 1 := ⟨k - 1, by omega⟩
    rw [antiquaryref14_Word.l0]
    rw [if_neg (by omega), List.drop_eq_nil_of_le (by omega)]
    rfl
  | succ d ih =>
    intro i k hd hi hk
    obtain ⟨k, rfl⟩ : ∃ k', k = k' + 1 := ⟨k - 1, by omega⟩
    have h : i < xs.length := by omega
    rw [antiquaryref14_Word.l0]
    rw [if_pos (by omega), if_pos (by omega), wrS i (by omega), ih (i + 1) k (by omega) (by omega) (by omega), List.drop_eq_getElem_cons h, List.any_cons]
    have e : rdOf ByteArray.empty xs (i : Int) = xs[i] := by simp [rdOf, List.getD, h]
    rw [e]
    by_cases q : xs[i].toList = a.toList
    · rw [if_pos q]; simp [q]
    · rw [if_neg q]; simp [q]
theorem word_f (a : ByteArray) (k : Nat) (hk : 7 ≤ k) : antiquaryref14_Word.f k a = some (decide (a.data.toList ∈ Lx.words)) := by
  unfold antiquaryref14_Word.f antiquaryref14_Words.f
  simp only [Option.bind_some]
  have h := word_l0 a [(⟨#[97, 108, 108]⟩ : ByteArray), (⟨#[97, 110, 100]⟩ : ByteArray), (⟨#[104, 97, 115]⟩ : ByteArray), (⟨#[105, 110]⟩ : ByteArray), (⟨#[110, 111, 116]⟩ : ByteArray), (⟨#[111, 114]⟩ : ByteArray)] (by decide) 6 0 k rfl (by simp) (by omega)
  rw [show (0 : Int) = ((0 : Nat) : Int) from rfl, h]
  congr 1
  rw [Bool.eq_iff_iff]
  simp only [List.drop_zero, List.any_cons, List.any_nil, Bool.or_false, ByteArray.toList_eq, Bool.or_eq_true, decide_eq_true_eq, Lx.words, List.mem_cons, List.not_mem_nil, or_false]
  constructor
  · rintro (h | h | h | h | h | h) <;> simp [← h]
  · rintro (h | h | h | h | h | h) <;> simp [h]

theorem extract_eq (s : ByteArray) (i j : Nat) (l : L) (h : l = (s.extract i j).data.toList) : s.extract i j = ⟨l.toArray⟩ := by rw [h, mk_data]

theorem name_l0 (s : ByteArray) (hs : s.size ≤ 66000) (x : Int) (i j : Nat) (hw : Whl restB s i j) (K : Nat) (d : Nat) : ∀ (m k : Nat), j - m = d → i ≤ m → m ≤ j → d + 2 + K ≤ k →
    ∃ k', K ≤ k' ∧ antiquaryref14_name.l0 k s x (m : Int) = antiquaryref14_name.j1 k' s x (j : Int) := by
  obtain ⟨w1, w2, w3, w4⟩ := hw
  induction d with
  | zero =>
    intro m k hd h1 h2 hk
    obtain ⟨k, rfl⟩ : ∃ k', k = k' + 2 := ⟨k - 2, by omega⟩
    obtain rfl : m = j := by omega
    refine ⟨k + 1, by omega, ?_⟩
    rw [antiquaryref14_name.l0]
    by_cases h : m < s.size
    · rw [if_pos (by omega), if_pos (by omega), btR s m h, rest_f, w4 h]
      simp
    · rw [if_neg (by omega)]
  | succ d ih =>
    intro m k hd h1 h2 hk
    obtain ⟨k, rfl⟩ : ∃ k', k = k' + 2 := ⟨k - 2, by omega⟩
    have h : m < s.size := by omega
    obtain ⟨k', g1, g2⟩ := ih (m + 1) (k + 1) (by omega) (by omega) (by omega) (by omega)
    refine ⟨k', g1, ?_⟩
    rw [← g2]
    rw [antiquaryref14_name.l0]
    rw [if_pos (by omega), if_pos (by omega), btR s m h, rest_f, w3 m h h1 (by omega), wrS m (by omega)]
    simp
theorem name_f (s : ByteArray) (hs : s.size ≤ 66000) (i : Nat) (hi : i ≤ s.size) (k : Nat) (hk : s.size + 20 ≤ k) : antiquaryref14_name.f k s (i : Int) = some (resT s i (nameL (sl s i))) := by
  obtain ⟨hw, ht, hr⟩ := whl_ex restB s _ i rfl hi
  obtain ⟨j, hj⟩ : ∃ j, j = i + ((sl s i).takeWhile restB).length := ⟨_, rfl⟩
  rw [← hj] at hw ht hr
  have hij := hw.1
  have hjs := hw.2.1
  obtain ⟨k', g1, g2⟩ := name_l0 s hs (i : Int) i j hw 10 (j - i) i k rfl (Nat.le_refl _) hij (by omega)
  obtain ⟨k', rfl⟩ : ∃ k'', k' = k'' + 1 := ⟨k' - 1, by omega⟩
  unfold antiquaryref14_name.f
  rw [g2]
  rw [antiquaryref14_name.j1]
  rw [if_pos (by omega), if_pos (by omega), if_pos (by omega)]
  simp only [Int.toNat_natCast]
  have he := extract_eq s i j _ ht
  have hlen : ((sl s i).takeWhile restB).length = j - i := by omega
  have hsz : (s.extract i j).size = j - i := by rw [he]; simp [ByteArray.size, hlen]
  rw [word_f _ _ (by omega)]
  simp only [Option.bind_some, decide_eq_true_eq, ← ht]
  have hrest : s.size - (sl s j).length = j := by rw [sl_len]; omega
  unfold nameL
  rw [hr]
  by_cases q : (sl s i).takeWhile restB ∈ Lx.words
  · rw [if_pos q, if_pos q, he]
    simp only [resT, hrest]
  · rw [if_neg q, if_neg q, hsz, hlen]
    by_cases q2 : 40 < j - i
    · rw [if_pos (by omega), if_pos q2]
      rfl
    · rw [if_neg (by omega), if_neg q2, he]
      simp only [resT, hrest]

theorem number_l0 (s : ByteArray) (hs : s.size ≤ 66000) (x : Int) (i j : Nat) (hw : Whl digitB s i j) (K : Nat) (d : Nat) : ∀ (m k : Nat), j - m = d → i ≤ m → m ≤ j → d + 2 + K ≤ k →
    ∃ k', K ≤ k' ∧ antiquaryref14_number.l0 k s x (m : Int) = antiquaryref14_number.j1 k' s x (j : Int) := by
  obtain ⟨w1, w2, w3, w4⟩ := hw
  induction d with
  | zero =>
    intro m k hd h1 h2 hk
    obtain ⟨k, rfl⟩ : ∃ k', k = k' + 2 := ⟨k - 2, by omega⟩
    obtain rfl : m = j := by omega
    refine ⟨k + 1, by omega, ?_⟩
    rw [antiquaryref14_number.l0]
    by_cases h : m < s.size
    · rw [if_pos (by omega), if_pos (by omega), btR s m h, digit_f, w4 h]
      simp
    · rw [if_neg (by omega)]
  | succ d ih =>
    intro m k hd h1 h2 hk
    obtain ⟨k, rfl⟩ : ∃ k', k = k' + 2 := ⟨k - 2, by omega⟩
    have h : m < s.size := by omega
    obtain ⟨k', g1, g2⟩ := ih (m + 1) (k + 1) (by omega) (by omega) (by omega) (by omega)
    refine ⟨k', g1, ?_⟩
    rw [← g2]
    rw [antiquaryref14_number.l0]
    rw [if_pos (by omega), if_pos (by omega), btR s m h, digit_f, w3 m h h1 (by omega), wrS m (by omega)]
    simp
theorem number_f (s : ByteArray) (hs : s.size ≤ 66000) (i : Nat) (hi : i < s.size) (k : Nat) (hk : s.size + 20 ≤ k) : antiquaryref14_number.f k s (i : Int) = some (resT s i (numberL (sl s i))) := by
  obtain ⟨hw, ht, hr⟩ := whl_ex digitB s _ i rfl (Nat.le_of_lt hi)
  obtain ⟨j, hj⟩ : ∃ j, j = i + ((sl s i).takeWhile digitB).length := ⟨_, rfl⟩
  rw [← hj] at hw ht hr
  have hij := hw.1
  have hjs := hw.2.1
  obtain ⟨k', g1, g2⟩ := number_l0 s hs (i : Int) i j hw 10 (j - i) i k rfl (Nat.le_refl _) hij (by omega)
  obtain ⟨k', rfl⟩ : ∃ k'', k' = k'' + 2 := ⟨k' - 2, by omega⟩
  unfold antiquaryref14_number.f
  rw [g2]
  have he := extract_eq s i j _ ht
  have hlen : ((sl s i).takeWhile digitB).length = j - i := by omega
  have hrest : s.size - (sl s j).length = j := by rw [sl_len]; omega
  have hd : wrap64 ((j : Int) - (i : Int)) = ((j - i : Nat) : Int) := by rw [wrR _ (by omega) (by omega)]; omega
  have hb := btR s i hi
  have hhead : (sl s i).head? = some s[i] := by rw [sl_cons s i hi]; rfl
  have bad : antiquaryref14_number.j2 (k' + 1) s (i : Int) (j : Int) true = some (resT s i (.bad 141)) := by
    simp only [antiquaryref14_number.j2, if_true]
    rfl
  have good : antiquaryref14_number.j2 (k' + 1) s (i : Int) (j : Int) false = some (resT s i (.got 3 ((sl s i).takeWhile digitB) (sl s j))) := by
    simp only [antiquaryref14_number.j2]
    rw [if_neg (by simp), if_pos (by omega), if_pos (by omega), if_pos (by omega)]
    simp only [Int.toNat_natCast, resT, hrest, he]
  have goodL : ¬ (18 < j - i) → ¬ (s[i] = 48 ∧ 1 < j - i) → headIs letB (sl s j) = false → numberL (sl s i) = .got 3 ((sl s i).takeWhile digitB) (sl s j) := by
    intro n1 n2 n3
    unfold numberL
    rw [hr, hlen, hhead, if_neg]
    simp only [Option.some.injEq, n3, Bool.false_eq_true, or_false, not_or]
    exact ⟨n1, n2⟩
  have badL2 : headIs letB (sl s j) = true → numberL (sl s i) = .bad 141 := by
    intro h
    unfold numberL
    rw [hr, hlen, hhead, if_pos]
    exact .inr (.inr h)
  have tail : (¬ (18 < j - i) ∧ ¬ (s[i] = 48 ∧ 1 < j - i)) → (if (j : Int) < (s.size : Int) then (if 0 ≤ (j : Int) then ((antiquaryref14_letter.f (k' + 1) (bt s (j : Int))).bind fun t195 => (antiquaryref14_number.j2 (k' + 1) s (i : Int) (j : Int) t195)) else (none)) else (antiquaryref14_number.j2 (k' + 1) s (i : Int) (j : Int) false)) = some (resT s i (numberL (sl s i))) := by
    rintro ⟨n1, n2⟩
    by_cases h : j < s.size
    · rw [if_pos (by omega), if_pos (by omega), btR s j h, letter_f]
      have hnd := hw.2.2.2 h
      have e : (smallB s[j] || capB s[j] || decide (s[j].toNat = 95)) = letB s[j] := by
        unfold letB restB
        rw [hnd]
        cases smallB s[j] <;> cases capB s[j] <;> simp
      have hh : headIs letB (sl s j) = letB s[j] := by
        rw [sl_cons s j h]
        rfl
      simp only [Option.bind_some]
      rw [e]
      by_cases hq : letB s[j] = true
      · rw [badL2 (hh.trans hq), hq, bad]
      · have hq' : letB s[j] = false := by simpa using hq
        rw [goodL n1 n2 (hh.trans hq'), hq', good]
    · have hh : headIs letB (sl s j) = false := by
        rw [sl_nil s j (by omega)]
        rfl
      rw [if_neg (by omega), goodL n1 n2 hh, good]
  have badL : (18 < j - i ∨ (s[i] = 48 ∧ 1 < j - i)) → numberL (sl s i) = .bad 141 := by
    intro h
    unfold numberL
    rw [hlen, hhead, if_pos]
    rcases h with h | h
    · exact .inl h
    · exact .inr (.inl ⟨by rw [h.1], h.2⟩)
  rw [antiquaryref14_number.j1]
  rw [hd, hb]
  have h48 : ((s[i].toNat : Int) = 48) ↔ s[i] = 48 := by
    constructor
    · intro h
      apply UInt8.toNat_inj.1
      rw [show (48 : UInt8).toNat = 48 from rfl]
      omega
    · intro h
      rw [h]
      rfl
  by_cases q1 : 18 < j - i
  · rw [if_pos (by omega), bad, badL (.inl q1)]
  · rw [if_neg (by omega), if_pos (by omega), if_pos (by omega)]
    by_cases q2 : s[i] = 48
    · rw [if_pos (h48.2 q2)]
      by_cases q3 : 1 < j - i
      · rw [if_pos (by omega), bad, badL (.inr ⟨q2, q3⟩)]
      · rw [if_neg (by omega)]
        exact tail ⟨q1, fun h => q3 h.2⟩
    · rw [if_neg (fun h => q2 (h48.1 h))]
      exact tail ⟨q1, fun h => q2 h.1⟩
end Go.Proofs.YtafomaiaobfkfaaGreatDoor.Pr
