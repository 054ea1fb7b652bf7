/- JudgeFinds: the log that the law makes, and that an order of it is found: plain law. No conditions. -/
import Derived.Test.YtonnlgpjobfnmaaDoorGFindA
import Derived.Test.YtonnlgpjobfnmaaDoorGFindF
namespace Go.Proofs.YtonnlgpjobfnmaaDoor
open Go.RowKit
/-- A call with the time of the i-th one. -/
def stamp (i : Nat) (e l : Int) (c : Cal) : Cal := { c with beg := 10 * (i : Int) + 5 - min e (10 * (i : Int) + 5), fin := 10 * (i : Int) + 5 + l }
theorem doesF_stamp (k : Int) (hs : List Int) (c : Cal) (i : Nat) (e l : Int) : doesF k hs (stamp i e l (doesF k hs c).2) = ((doesF k hs c).1, stamp i e l (doesF k hs c).2) := by
  obtain ⟨op, arg, new, ans, ok, beg, fin⟩ := c
  unfold doesF stamp
  by_cases hk : k ≤ 2
  · by_cases h1 : op = 1
    · simp [hk, h1]
    · cases hs with
      | nil => simp [hk, h1]
      | cons x r =>
        by_cases k1 : k = 1
        · simp [k1, h1]
        · simp [hk, k1, h1]
  · by_cases h3 : op = 3
    · simp [hk, h3]
    by_cases h4 : op = 4
    · simp [hk, h4]
    by_cases h1 : op = 1
    · simp [hk, h1]
    by_cases h5 : op = 5
    · by_cases hx : hs.head?.getD 0 = arg
      · simp [hk, h5, hx]
      · simp [hk, h5, hx]
    · simp [hk, h3, h4, h1, h5]
/-- What the thing holds ahead of the i-th call. -/
def stB (k : Int) (cs : List Cal) : Nat → List Int
  | 0 => begins k
  | i + 1 => (doesF k (stB k cs i) (tidyF k (cs[i]?.getD ⟨0, 0, 0, 0, false, 0, 0⟩))).1
/-- The i-th call. -/
def calB (k : Int) (cs : List Cal) (E L : List Int) (i : Nat) : Cal := stamp i (E[i]?.getD 0) (L[i]?.getD 0) (doesF k (stB k cs i) (tidyF k (cs[i]?.getD ⟨0, 0, 0, 0, false, 0, 0⟩))).2
/-- The first n calls. -/
def planH (k : Int) (cs : List Cal) (E L : List Int) (n : Nat) : List Cal := (List.range n).map (calB k cs E L)
theorem planH_len (k : Int) (cs : List Cal) (E L : List Int) (n : Nat) : (planH k cs E L n).length = n := by simp [planH]
theorem planH_at (k : Int) (cs : List Cal) (E L : List Int) {n i : Nat} (h : i < n) : (planH k cs E L n)[i]? = some (calB k cs E L i) := by simp [planH, h]
theorem planH_more (k : Int) (cs : List Cal) (E L : List Int) (n : Nat) : planH k cs E L (n + 1) = planH k cs E L n ++ [calB k cs E L n] := by simp [planH, List.range_succ]
theorem calB_does (k : Int) (cs : List Cal) (E L : List Int) (i : Nat) : doesF k (stB k cs i) (calB k cs E L i) = (stB k cs (i + 1), calB k cs E L i) := by
  unfold calB
  rw [doesF_stamp, stB]
theorem stAt_plan (k : Int) (cs : List Cal) (E L : List Int) (n : Nat) : ∀ i, i ≤ n → stAt k (planH k cs E L n) i = stB k cs i
  | 0, _ => rfl
  | i + 1, h => by
    rw [stAt, planH_at k cs E L (by omega : i < n)]
    simp only []
    rw [stAt_plan k cs E L n i (by omega), calB_does]
def byteL (E : List Int) : Prop := ∀ x, x ∈ E → 0 ≤ x ∧ x ≤ 255
theorem byteL.get {E : List Int} (h : byteL E) (i : Nat) : 0 ≤ E[i]?.getD 0 ∧ E[i]?.getD 0 ≤ 255 := by
  cases he : E[i]? with
  | none => simp
  | some x => exact h x (List.mem_of_getElem? he)
theorem calB_time (k : Int) (cs : List Cal) {E L : List Int} (hE : byteL E) (hL : byteL L) (i : Nat) : 0 ≤ (calB k cs E L i).beg ∧ (calB k cs E L i).beg ≤ 10 * (i : Int) + 5 ∧ 10 * (i : Int) + 5 ≤ (calB k cs E L i).fin ∧ (calB k cs E L i).fin ≤ 10 * (i : Int) + 260 := by
  have h1 := hE.get i
  have h2 := hL.get i
  unfold calB stamp
  simp only []
  omega
theorem plan_done (k : Int) (cs : List Cal) {E L : List Int} (hE : byteL E) (hL : byteL L) (n : Nat) : Done1 k (planH k cs E L n) := by
  have hget : ∀ i c, (planH k cs E L n)[i]? = some c → i < n ∧ c = calB k cs E L i := fun i c hc => by
    have hi : i < n := by have := (List.getElem?_eq_some_iff.1 hc).1; rwa [planH_len] at this
    rw [planH_at k cs E L hi] at hc
    injection hc with hc
    exact ⟨hi, hc.symm⟩
  refine ⟨fun c hc => ?_, fun i c hc => ?_, fun i j c e hc he hij => ?_⟩
  · obtain ⟨i, hi⟩ := List.getElem?_of_mem hc
    obtain ⟨_, rfl⟩ := hget i c hi
    have := calB_time k cs hE hL i
    omega
  · obtain ⟨hi, rfl⟩ := hget i c hc
    rw [stAt_plan k cs E L n i (by omega), calB_does]
  · obtain ⟨_, rfl⟩ := hget i c hc
    obtain ⟨_, rfl⟩ := hget j e he
    have h1 := calB_time k cs hE hL i
    have h2 := calB_time k cs hE hL j
    omega
theorem right_stamp {k : Int} (hk : 1 ≤ k ∧ k ≤ 4) (hs : List Int) (c : Cal) (i : Nat) {e l : Int} (he : 0 ≤ e) (hl : 0 ≤ l) : rightF k (stamp i e l (doesF k hs (tidyF k c)).2) = true := by
  have ht : badTime (stamp i e l (doesF k hs (tidyF k c)).2) = false := by
    unfold badTime stamp
    simp only [Bool.or_eq_false_iff, Bool.and_eq_false_iff, decide_eq_false_iff_not, Classical.not_not]
    omega
  obtain ⟨op, arg, new, ans, ok, beg, fin⟩ := c
  unfold rightF
  rw [ht]
  have hk' : k = 1 ∨ k = 2 ∨ k = 3 ∨ k = 4 := by omega
  clear hk ht
  unfold tidyF
  rcases hk' with rfl | rfl | rfl | rfl
  · by_cases h1 : op = 1
    · simp [h1, doesF, stamp]
    · cases hs <;> simp [h1, doesF, stamp]
  · by_cases h1 : op = 1
    · simp [h1, doesF, stamp]
    · cases hs <;> simp [h1, doesF, stamp]
  · by_cases h3 : op = 3
    · simp [h3, doesF, stamp]
    · simp [h3, doesF, stamp]
  · by_cases h5 : op = 5
    · by_cases hx : hs.head?.getD 0 = arg <;> simp [h5, hx, doesF, stamp]
    · by_cases h1 : op = 1
      · simp [h1, doesF, stamp]
      · simp [h1, h5, doesF, stamp]
theorem plan_right {k : Int} (hk : 1 ≤ k ∧ k ≤ 4) (cs : List Cal) {E L : List Int} (hE : byteL E) (hL : byteL L) (n : Nat) : ∀ c, c ∈ planH k cs E L n → rightF k c = true := by
  intro c hc
  unfold planH at hc
  obtain ⟨i, _, rfl⟩ := List.mem_map.1 hc
  exact right_stamp hk _ _ _ (hE.get i).1 (hL.get i).1
/-- An order of the law's log is found, and each call stands once in it. -/
theorem plan_lin {k : Int} (hk : 1 ≤ k ∧ k ≤ 4) (cs : List Cal) {E L : List Int} (hE : byteL E) (hL : byteL L) {n : Nat} (hn : n ≤ 12) :
    ∃ l, linOf k (planH k cs E L n) = (some l, 0) ∧ l.length = n ∧ Way k (planH k cs E L n) (mustOf (planH k cs E L n)) 0 (begins k) l := by
  have D := plan_done k cs hE hL n
  obtain ⟨l, hl⟩ := D.lin (by rw [planH_len]; exact hn)
  have hw : Way k (planH k cs E L n) (mustOf (planH k cs E L n)) 0 (begins k) l := Way.of_lin _ _ _ _ hl
  refine ⟨l, ?_, ?_, hw⟩
  · rw [linOf_good hk (by rw [planH_len]; omega) (plan_right hk cs hE hL n) hl.symm]
  · rw [hw.whole D.ends, planH_len]
theorem stB_len (k : Int) (cs : List Cal) : ∀ i, (stB k cs i).length ≤ i + 1
  | 0 => by unfold stB begins; split <;> simp
  | i + 1 => by
    have h1 := stB_len k cs i
    have h2 := doesF_len k (stB k cs i) (tidyF k (cs[i]?.getD ⟨0, 0, 0, 0, false, 0, 0⟩))
    rw [stB]
    omega
theorem stB_one {k : Int} (hk : 2 < k) (cs : List Cal) : ∀ i, (stB k cs i).length = 1
  | 0 => by unfold stB begins; rw [if_neg (by omega)]; rfl
  | i + 1 => by rw [stB]; exact doesF_one hk (stB_one hk cs i)
theorem tidyF_wf {k : Int} {c : Cal} (h : c.wf) : (tidyF k c).wf := by
  obtain ⟨h1, h2, h3, _⟩ := h
  have hz : i64of 0 := by unfold i64of; omega
  unfold tidyF
  repeat' split
  all_goals exact ⟨by simp only []; omega, by first | exact h2 | exact hz, by first | exact h3 | exact hz, hz, hz, hz⟩
theorem doesF_wf {k : Int} {hs : List Int} {c : Cal} (h : c.wf) (hh : ∀ x, x ∈ hs → i64of x) (hw : ∀ x, x ∈ (doesF k hs c).1 → i64of x) : (doesF k hs c).2.wf := by
  have hz : i64of 0 := by unfold i64of; omega
  obtain ⟨h1, h2, h3, _, h5, h6⟩ := h
  have key : (doesF k hs c).2.op = c.op ∧ (doesF k hs c).2.arg = c.arg ∧ (doesF k hs c).2.new = c.new ∧ (doesF k hs c).2.beg = c.beg ∧ (doesF k hs c).2.fin = c.fin ∧ i64of (doesF k hs c).2.ans := by
    have hhd : i64of (hs.headD 0) := by
      cases hs with
      | nil => exact hz
      | cons x r => exact hh x (by simp)
    unfold doesF
    by_cases hk : k ≤ 2
    · rw [if_pos hk]
      by_cases o1 : c.op = 1
      · rw [if_pos o1]; exact ⟨rfl, rfl, rfl, rfl, rfl, hz⟩
      · rw [if_neg o1]
        cases hs with
        | nil => exact ⟨rfl, rfl, rfl, rfl, rfl, hz⟩
        | cons x r =>
          simp only []
          split
          · exact ⟨rfl, rfl, rfl, rfl, rfl, hh x (by simp)⟩
          · exact ⟨rfl, rfl, rfl, rfl, rfl, hh _ (List.getLast_mem _)⟩
    · rw [if_neg hk]
      simp only []
      repeat' split
      all_goals first
        | exact ⟨rfl, rfl, rfl, rfl, rfl, hz⟩
        | exact ⟨rfl, rfl, rfl, rfl, rfl, hhd⟩
        | exact ⟨rfl, rfl, rfl, rfl, rfl, wrap64_of _⟩
  obtain ⟨e1, e2, e3, e4, e5, e6⟩ := key
  exact ⟨by rw [e1]; exact h1, by rw [e2]; exact h2, by rw [e3]; exact h3, e6, by rw [e4]; exact h5, by rw [e5]; exact h6⟩
theorem stamp_wf {c : Cal} (h : c.wf) {i : Nat} (hi : i ≤ 12) {e l : Int} (he : 0 ≤ e ∧ e ≤ 255) (hl : 0 ≤ l ∧ l ≤ 255) : (stamp i e l c).wf := by
  obtain ⟨h1, h2, h3, h4, _, _⟩ := h
  refine ⟨h1, h2, h3, h4, ?_, ?_⟩
  all_goals
    unfold stamp i64of
    simp only []
    omega
end Go.Proofs.YtonnlgpjobfnmaaDoor
