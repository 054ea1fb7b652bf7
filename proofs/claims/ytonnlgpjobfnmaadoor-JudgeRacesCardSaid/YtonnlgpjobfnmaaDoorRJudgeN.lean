/- What judge.Linear seeks: the least order, by plain recursion. No conditions. -/
import Derived.Test.YtonnlgpjobfnmaaDoorRJudgeK
import Derived.Test.YtonnlgpjobfnmaaDoorRJudgeM
namespace Go.Proofs.YtonnlgpjobfnmaaDoor
open Go.RowKit

/-- May the call number i, which is c, be done next? -/
def okStep (k : Int) (H : List Cal) (d : Nat) (hs : List Int) (i : Nat) (c : Cal) : Bool :=
  !d.testBit i && !lateB H d c && (decide (c.fin = -1) || decide ((doesF k hs c).2 = c))
/-- The set with the call number i. -/
def bitSet (d i : Nat) : Nat := d ||| 2 ^ i
/-- The least order of the calls that are left, by fuel n. -/
def lin (k : Int) (H : List Cal) (must : Nat) : Nat → Nat → List Int → Option (List Nat)
  | n, d, hs => if d &&& must = must then some [] else match n with
    | 0 => none
    | n + 1 => (List.range H.length).findSome? fun i => match H[i]? with
      | none => none
      | some c => if okStep k H d hs i c then (lin k H must n (bitSet d i) (doesF k hs c).1).map (i :: ·) else none
theorem bitSet_gt {d i : Nat} (h : d.testBit i = false) : d < bitSet d i := by
  have h1 : d ≤ d ||| 2 ^ i := Nat.left_le_or
  have h2 : d ≠ d ||| 2 ^ i := fun e => by
    have := congrArg (fun x => x.testBit i) e
    simp [Nat.testBit_or, Nat.testBit_two_pow_self] at this
    rw [h] at this
    cases this
  unfold bitSet
  omega
theorem bitSet_lt {d i : Nat} (h : d < 4096) (hi : i < 12) : bitSet d i < 4096 := by
  have h2 : 2 ^ i < 2 ^ 12 := Nat.pow_lt_pow_right (by decide) hi
  exact Nat.or_lt_two_pow (n := 12) h h2
theorem okStep_bit {k : Int} {H : List Cal} {d : Nat} {hs : List Int} {i : Nat} {c : Cal} (h : okStep k H d hs i c = true) : d.testBit i = false := by
  unfold okStep at h
  simp only [Bool.and_eq_true, Bool.not_eq_true'] at h
  exact h.1.1
theorem findSome_congr {α β : Type} {f g : α → Option β} : ∀ (l : List α), (∀ x, x ∈ l → f x = g x) → l.findSome? f = l.findSome? g
  | [], _ => rfl
  | x :: l, h => by rw [List.findSome?_cons, List.findSome?_cons, h x (by simp), findSome_congr l fun y hy => h y (by simp [hy])]
theorem lin_fuel (k : Int) (H : List Cal) (must : Nat) (hH : H.length ≤ 12) : ∀ (n m d : Nat) (hs : List Int), d < 4096 → 4096 ≤ n + d → 4096 ≤ m + d → lin k H must n d hs = lin k H must m d hs := by
  intro n
  induction n with
  | zero => intro m d hs hd hn; omega
  | succ n ih =>
    intro m d hs hd hn hm
    obtain ⟨m, rfl⟩ : ∃ m', m = m' + 1 := ⟨m - 1, by omega⟩
    rw [lin, lin]
    by_cases hdone : d &&& must = must
    · rw [if_pos hdone, if_pos hdone]
    · rw [if_neg hdone, if_neg hdone]
      refine findSome_congr _ fun i hi => ?_
      have hi : i < H.length := by simpa using hi
      cases hc : H[i]? with
      | none => rfl
      | some c =>
        simp only
        by_cases ho : okStep k H d hs i c = true
        · rw [if_pos ho, if_pos ho]
          have hg := bitSet_gt (okStep_bit ho)
          rw [ih m (bitSet d i) _ (bitSet_lt hd (by omega)) (by omega) (by omega)]
        · rw [if_neg ho, if_neg ho]
/-- The least order of the calls that are left, or none. -/
def Lin (k : Int) (H : List Cal) (must d : Nat) (hs : List Int) : Option (List Nat) := lin k H must (4096 - d) d hs
theorem Lin_done {k : Int} {H : List Cal} {must d : Nat} {hs : List Int} (h : d &&& must = must) : Lin k H must d hs = some [] := by
  unfold Lin
  rw [lin.eq_def]
  simp [h]
theorem Lin_step {k : Int} {H : List Cal} {must d : Nat} {hs : List Int} (hH : H.length ≤ 12) (hd : d < 4096) (h : d &&& must ≠ must) :
    Lin k H must d hs = (List.range H.length).findSome? fun i => match H[i]? with
      | none => none
      | some c => if okStep k H d hs i c then (Lin k H must (bitSet d i) (doesF k hs c).1).map (i :: ·) else none := by
  unfold Lin
  obtain ⟨n, hn⟩ : ∃ n, 4096 - d = n + 1 := ⟨4096 - d - 1, by omega⟩
  rw [hn, lin, if_neg h]
  refine findSome_congr _ fun i hi => ?_
  have hi : i < H.length := by simpa using hi
  cases hc : H[i]? with
  | none => rfl
  | some c =>
    simp only
    by_cases ho : okStep k H d hs i c = true
    · rw [if_pos ho, if_pos ho]
      have hg := bitSet_gt (okStep_bit ho)
      have hl := bitSet_lt hd (i := i) (by omega)
      rw [lin_fuel k H must hH n (4096 - bitSet d i) (bitSet d i) _ hl (by omega) (by omega)]
    · rw [if_neg ho, if_neg ho]
/-- What the place i gives. -/
def linAt (k : Int) (H : List Cal) (must d : Nat) (hs : List Int) (i : Nat) : Option (List Nat) :=
  match H[i]? with
  | none => none
  | some c => if okStep k H d hs i c then (Lin k H must (bitSet d i) (doesF k hs c).1).map (i :: ·) else none
theorem range_none {f : Nat → Option (List Nat)} : ∀ (n : Nat), (∀ i, i < n → f i = none) → (List.range n).findSome? f = none := by
  intro n h
  rw [List.findSome?_eq_none_iff]
  intro i hi
  exact h i (by simpa using hi)
theorem range_some {f : Nat → Option (List Nat)} {r : List Nat} : ∀ (n i : Nat), i < n → (∀ j, j < i → f j = none) → f i = some r → (List.range n).findSome? f = some r := by
  intro n i hi hn hr
  obtain ⟨m, rfl⟩ : ∃ m, n = i + (m + 1) := ⟨n - i - 1, by omega⟩
  rw [List.range_add, List.findSome?_append, range_none i hn]
  simp [List.range_succ_eq_map, hr]
theorem Lin_none {k : Int} {H : List Cal} {must d : Nat} {hs : List Int} (hH : H.length ≤ 12) (hd : d < 4096) (h : d &&& must ≠ must) (hn : ∀ i, i < H.length → linAt k H must d hs i = none) : Lin k H must d hs = none := by
  rw [Lin_step hH hd h]
  exact range_none _ hn
theorem Lin_some {k : Int} {H : List Cal} {must d : Nat} {hs : List Int} {i : Nat} {r : List Nat} (hH : H.length ≤ 12) (hd : d < 4096) (h : d &&& must ≠ must) (hi : i < H.length) (hn : ∀ j, j < i → linAt k H must d hs j = none) (hr : linAt k H must d hs i = some r) : Lin k H must d hs = some r := by
  rw [Lin_step hH hd h]
  exact range_some _ i hi hn hr
end Go.Proofs.YtonnlgpjobfnmaaDoor
