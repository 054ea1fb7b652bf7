/- The search for an order finds one where there is one, and what it finds is one: plain law. No conditions. -/
import Derived.Test.YtonnlgpjobfnmaaDoorJudgeT
namespace Go.Proofs.YtonnlgpjobfnmaaDoor
open Go.RowKit
/-- An order of calls, each of which may be done next, behind which all is done. -/
def Way (k : Int) (H : List Cal) (must : Nat) : Nat → List Int → List Nat → Prop
  | d, _, [] => d &&& must = must
  | d, hs, i :: l => d &&& must ≠ must ∧ ∃ c, H[i]? = some c ∧ okStep k H d hs i c = true ∧ Way k H must (bitSet d i) (doesF k hs c).1 l
/-- What is found is such an order. -/
theorem Way.of_lin {k : Int} {H : List Cal} {must : Nat} : ∀ (n d : Nat) (hs : List Int) (l : List Nat), lin k H must n d hs = some l → Way k H must d hs l := by
  intro n
  induction n with
  | zero =>
    intro d hs l h
    rw [lin] at h
    split at h
    · rename_i hd
      injection h with h
      subst h
      exact hd
    · cases h
  | succ n ih =>
    intro d hs l h
    rw [lin] at h
    split at h
    · rename_i hd
      injection h with h
      subst h
      exact hd
    · rename_i hd
      obtain ⟨i, _, hi⟩ := List.exists_of_findSome?_eq_some h
      split at hi
      · cases hi
      · rename_i c hc
        split at hi
        · rename_i ho
          simp only [Option.map_eq_some_iff] at hi
          obtain ⟨l', h1, rfl⟩ := hi
          exact ⟨hd, c, hc, ho, ih _ _ _ h1⟩
        · cases hi
/-- Where there is such an order one is found. -/
theorem Way.lin_some {k : Int} {H : List Cal} {must : Nat} : ∀ (l : List Nat) (n d : Nat) (hs : List Int), l.length ≤ n → Way k H must d hs l → ∃ r, lin k H must n d hs = some r := by
  intro l
  induction l with
  | nil =>
    intro n d hs _ h
    refine ⟨[], ?_⟩
    rw [lin.eq_def]
    have h' : d &&& must = must := h
    simp [h']
  | cons i l ih =>
    intro n d hs hn h
    obtain ⟨hd, c, hc, ho, hw⟩ := h
    obtain ⟨n, rfl⟩ : ∃ m, n = m + 1 := ⟨n - 1, by simp at hn; omega⟩
    rw [lin, if_neg hd]
    obtain ⟨r, hr⟩ := ih n _ _ (by simpa using hn) hw
    have hi : i < H.length := (List.getElem?_eq_some_iff.1 hc).1
    cases hf : (List.range H.length).findSome? (fun i => match H[i]? with
      | none => none
      | some c => if okStep k H d hs i c then (lin k H must n (bitSet d i) (doesF k hs c).1).map (i :: ·) else none) with
    | some r' => exact ⟨r', rfl⟩
    | none =>
      rw [List.findSome?_eq_none_iff] at hf
      have := hf i (by simpa using hi)
      rw [hc] at this
      simp only [ho, if_true, hr, Option.map_some] at this
      cases this
/-- Where it stands behind i calls. -/
def stAt (k : Int) (H : List Cal) : Nat → List Int
  | 0 => begins k
  | i + 1 => match H[i]? with
    | some c => (doesF k (stAt k H i) c).1
    | none => stAt k H i
theorem pow_bits (i j : Nat) : (2 ^ i - 1).testBit j = decide (j < i) := by rw [Nat.testBit_two_pow_sub_one]
theorem bitSet_pow (i : Nat) : bitSet (2 ^ i - 1) i = 2 ^ (i + 1) - 1 := by
  apply Nat.eq_of_testBit_eq
  intro j
  unfold bitSet
  rw [Nat.testBit_or, pow_bits, pow_bits, Nat.testBit_two_pow, ← Bool.decide_or]
  apply decide_eq_decide.2
  omega
/-- The bits of the calls that must be done. -/
theorem mustTo_bit (H : List Cal) : ∀ n j, (mustTo H n).testBit j = true ↔ j < n ∧ ∃ c, H[j]? = some c ∧ ¬ c.fin = -1
  | 0, j => by simp [mustTo]
  | n + 1, j => by
    have ih := mustTo_bit H n j
    unfold mustTo
    split
    · rename_i c hc
      split
      · rename_i hf
        rw [ih]
        constructor
        · rintro ⟨h1, h2⟩
          exact ⟨by omega, h2⟩
        · rintro ⟨h1, c', h2, h3⟩
          by_cases e : j = n
          · subst e
            rw [hc] at h2
            injection h2 with h2
            subst h2
            exact absurd hf h3
          · exact ⟨by omega, c', h2, h3⟩
      · rename_i hf
        rw [Nat.testBit_or, Nat.testBit_two_pow, Bool.or_eq_true, ih, decide_eq_true_eq]
        constructor
        · rintro (⟨h1, h2⟩ | e)
          · exact ⟨by omega, h2⟩
          · subst e
            exact ⟨by omega, c, hc, hf⟩
        · rintro ⟨h1, h2⟩
          by_cases e : n = j
          · exact .inr e
          · exact .inl ⟨by omega, h2⟩
    · rename_i hc
      rw [ih]
      constructor
      · rintro ⟨h1, h2⟩
        exact ⟨by omega, h2⟩
      · rintro ⟨h1, c', h2, h3⟩
        by_cases e : j = n
        · subst e
          rw [hc] at h2
          cases h2
        · exact ⟨by omega, c', h2, h3⟩
/-- All calls end: all must be done. -/
theorem must_all {H : List Cal} (hf : ∀ c, c ∈ H → ¬ c.fin = -1) (d : Nat) : d &&& mustOf H = mustOf H ↔ ∀ j, j < H.length → d.testBit j = true := by
  constructor
  · intro h j hj
    have hb : (mustOf H).testBit j = true := (mustTo_bit H H.length j).2 ⟨hj, H[j], List.getElem?_eq_getElem hj, hf _ (List.getElem_mem hj)⟩
    have := congrArg (fun x => x.testBit j) h
    simp only [Nat.testBit_and, hb, Bool.and_true] at this
    exact this
  · intro h
    apply Nat.eq_of_testBit_eq
    intro j
    rw [Nat.testBit_and]
    cases hb : (mustOf H).testBit j with
    | false => simp
    | true =>
      have := h j ((mustTo_bit H H.length j).1 hb).1
      simp [this]
/-- Calls that were done one behind the other, each at its turn. -/
structure Done1 (k : Int) (H : List Cal) : Prop where
  ends : ∀ c, c ∈ H → ¬ c.fin = -1
  ans : ∀ (i : Nat) (c : Cal), H[i]? = some c → (doesF k (stAt k H i) c).2 = c
  time : ∀ (i j : Nat) (c e : Cal), H[i]? = some c → H[j]? = some e → i ≤ j → ¬ e.fin < c.beg
theorem Done1.way {k : Int} {H : List Cal} (D : Done1 k H) : ∀ (n i : Nat), i + n = H.length → Way k H (mustOf H) (2 ^ i - 1) (stAt k H i) ((List.range n).map (i + ·)) := by
  intro n
  induction n with
  | zero =>
    intro i hi
    show (2 ^ i - 1) &&& mustOf H = mustOf H
    rw [must_all D.ends]
    intro j hj
    rw [pow_bits, decide_eq_true_eq]
    omega
  | succ n ih =>
    intro i hi
    obtain ⟨c, hc⟩ : ∃ c, H[i]? = some c := ⟨H[i]'(by omega), List.getElem?_eq_getElem (by omega)⟩
    have h1 := ih (i + 1) (by omega)
    have e : (List.range (n + 1)).map (i + ·) = i :: (List.range n).map (i + 1 + ·) := by
      rw [List.range_succ_eq_map, List.map_cons, List.map_map]
      congr 1
      apply List.map_congr_left
      intro x _
      simp only [Function.comp]
      omega
    rw [e]
    refine ⟨?_, c, hc, ?_, ?_⟩
    · intro h
      have := (must_all D.ends _).1 h i (by omega)
      rw [pow_bits] at this
      simp at this
    · have hl : lateB H (2 ^ i - 1) c = false := by
        unfold lateB
        rw [List.any_eq_false]
        intro j hj
        have hj : j < H.length := by simpa using hj
        rw [List.getElem?_eq_getElem hj]
        simp only [ahd, pow_bits, Bool.and_eq_true, Bool.not_eq_true', decide_eq_false_iff_not, decide_eq_true_eq, not_and]
        intro h2
        exact D.time i j c _ hc (List.getElem?_eq_getElem hj) (by omega)
      simp [okStep, hl, D.ans i c hc]
    · rw [bitSet_pow]
      have e2 : (doesF k (stAt k H i) c).1 = stAt k H (i + 1) := by
        rw [stAt, hc]
      rw [e2]
      exact h1
theorem Done1.lin {k : Int} {H : List Cal} (D : Done1 k H) (hH : H.length ≤ 12) : ∃ r, Lin k H (mustOf H) 0 (begins k) = some r := by
  have h := D.way H.length 0 (by omega)
  exact Way.lin_some _ 4096 0 (begins k) (by simp; omega) h
/-- What is told of an order that was found. -/
theorem Way.facts {k : Int} {H : List Cal} {must : Nat} : ∀ (l : List Nat) (d : Nat) (hs : List Int), Way k H must d hs l → (∀ i, i ∈ l → i < H.length ∧ d.testBit i = false) ∧ l.Nodup ∧ (l.foldl bitSet d) &&& must = must
  | [], d, hs, h => ⟨by simp, List.nodup_nil, h⟩
  | i :: l, d, hs, h => by
    obtain ⟨hd, c, hc, ho, hw⟩ := h
    obtain ⟨h1, h2, h3⟩ := Way.facts l _ _ hw
    have hi : i < H.length := (List.getElem?_eq_some_iff.1 hc).1
    have hb := okStep_bit ho
    have key : ∀ j, j ∈ l → j ≠ i ∧ d.testBit j = false := fun j hj => by
      have := (h1 j hj).2
      unfold bitSet at this
      rw [Nat.testBit_or, Nat.testBit_two_pow, Bool.or_eq_false_iff] at this
      exact ⟨fun e => by rw [e] at this; simp at this, this.1⟩
    refine ⟨fun j hj => ?_, List.nodup_cons.2 ⟨fun hj => (key i hj).1 rfl, h2⟩, h3⟩
    rcases List.mem_cons.1 hj with rfl | hj
    · exact ⟨hi, hb⟩
    · exact ⟨(h1 j hj).1, (key j hj).2⟩
theorem foldl_bit (l : List Nat) (d j : Nat) : (l.foldl bitSet d).testBit j = (d.testBit j || decide (j ∈ l)) := by
  induction l generalizing d with
  | nil => simp
  | cons i l ih =>
    rw [List.foldl_cons, ih]
    unfold bitSet
    rw [Nat.testBit_or, Nat.testBit_two_pow]
    by_cases e : i = j
    · subst e
      simp
    · have e2 : ¬ j = i := fun h => e h.symm
      simp [e, e2]
theorem nodup_len {n : Nat} {l : List Nat} (h1 : l.Nodup) (h2 : ∀ i, i ∈ l ↔ i < n) : l.length = n := by
  have hp : l.Perm (List.range n) := by
    rw [List.perm_ext_iff_of_nodup h1 List.nodup_range]
    intro a
    rw [h2]
    simp
  rw [hp.length_eq, List.length_range]
/-- All calls end: each stands once in an order that was found. -/
theorem Way.whole {k : Int} {H : List Cal} {hs : List Int} {l : List Nat} (hf : ∀ c, c ∈ H → ¬ c.fin = -1) (h : Way k H (mustOf H) 0 hs l) : l.length = H.length := by
  obtain ⟨h1, h2, h3⟩ := Way.facts l 0 hs h
  refine nodup_len h2 fun i => ⟨fun hi => (h1 i hi).1, fun hi => ?_⟩
  have := (must_all hf _).1 h3 i hi
  rw [foldl_bit] at this
  simpa using this
end Go.Proofs.YtonnlgpjobfnmaaDoor
