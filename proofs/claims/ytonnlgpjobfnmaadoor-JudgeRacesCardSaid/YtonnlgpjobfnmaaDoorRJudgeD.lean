/- judge's clocks: the plain law of a log's clocks; the cells' map. No conditions. -/
import Derived.Test.YtonnlgpjobfnmaaDoorRJudgeC
import Derived.Maps.Own
import Derived.Maps.OwnOps
import Derived.Maps.Views
import Derived.Deep.AppendLies
namespace Go.Proofs.YtonnlgpjobfnmaaDoor
open Go.RowKit
set_option maxRecDepth 100000

/-- What has become of the clocks: of each thread, of each cell. -/
structure Cks where
  th : Nat → Clk
  cell : Int → Clk
def czero : Clk := fun _ => 0
def cks0 : Cks := ⟨fun _ => czero, fun _ => czero⟩
def Acc.takes (a : Acc) : Bool := a.op != 2 && a.op != 7 && a.op != 8
def Acc.gives (a : Acc) : Bool := a.op == 2 || a.op == 4 || a.op == 5 || (a.op == 3 && a.ok)
def Cks.own0 (s : Cks) (a : Acc) : Clk := if a.takes then cmax (s.th a.th.toNat) (s.cell a.cell) else s.th a.th.toNat
/-- The entry's clock. -/
def Cks.own (s : Cks) (a : Acc) : Clk := fun j => if j = a.th.toNat then s.own0 a j + 1 else s.own0 a j
def Cks.next (s : Cks) (a : Acc) : Cks where
  th := fun i => if a.op = 7 ∧ 0 ≤ a.now ∧ i = a.now.toNat then cmax (if i = a.th.toNat then s.own a else s.th i) (s.own a) else if i = a.th.toNat then s.own a else s.th i
  cell := fun x => if a.gives = true ∧ x = a.cell then s.own a else s.cell x
def cksAll (s : Cks) : List Acc → List Clk
  | [] => []
  | a :: l => s.own a :: cksAll (s.next a) l
/-- Behind a log. -/
def cksAt (L : List Acc) : Cks := L.foldl Cks.next cks0
def clocksOf (L : List Acc) : List Clk := cksAll cks0 L
theorem cksAll_append (s : Cks) (l : List Acc) (a : Acc) : cksAll s (l ++ [a]) = cksAll s l ++ [(l.foldl Cks.next s).own a] := by
  induction l generalizing s with
  | nil => rfl
  | cons b l ih => simp [cksAll, ih]
theorem cksAll_length (s : Cks) (l : List Acc) : (cksAll s l).length = l.length := by
  induction l generalizing s with
  | nil => rfl
  | cons b l ih => simp [cksAll, ih]
theorem clocksOf_take {L : List Acc} {k : Nat} {a : Acc} (h : L[k]? = some a) : clocksOf (L.take (k + 1)) = clocksOf (L.take k) ++ [(cksAt (L.take k)).own a] := by
  rw [getElem_take h]; exact cksAll_append _ _ _
theorem cksAt_take {L : List Acc} {k : Nat} {a : Acc} (h : L[k]? = some a) : cksAt (L.take (k + 1)) = (cksAt (L.take k)).next a := by
  rw [getElem_take h]; simp [cksAt]
/-- All numbers lie from nought to n. -/
def Cks.bd (s : Cks) (n : Int) : Prop := (∀ i j, 0 ≤ s.th i j ∧ s.th i j ≤ n) ∧ ∀ x j, 0 ≤ s.cell x j ∧ s.cell x j ≤ n
theorem Cks.bd_own0 {s : Cks} {n : Int} (h : s.bd n) (a : Acc) (j : Nat) : 0 ≤ s.own0 a j ∧ s.own0 a j ≤ n := by
  have h1 := h.1 a.th.toNat j
  have h2 := h.2 a.cell j
  unfold Cks.own0 cmax
  split
  · show 0 ≤ max (s.th a.th.toNat j) (s.cell a.cell j) ∧ max (s.th a.th.toNat j) (s.cell a.cell j) ≤ n
    omega
  · exact h1
theorem Cks.bd_own {s : Cks} {n : Int} (h : s.bd n) (a : Acc) (j : Nat) : 0 ≤ s.own a j ∧ s.own a j ≤ n + 1 := by
  have h1 := Cks.bd_own0 h a j
  unfold Cks.own
  split <;> omega
theorem Cks.bd_next {s : Cks} {n : Int} (h : s.bd n) (a : Acc) : (s.next a).bd (n + 1) := by
  refine ⟨fun i j => ?_, fun x j => ?_⟩
  · have h1 := h.1 i j
    have h2 := Cks.bd_own h a j
    simp only [Cks.next]
    split
    · unfold cmax
      split <;> omega
    · split <;> omega
  · have h1 := h.2 x j
    have h2 := Cks.bd_own h a j
    simp only [Cks.next]
    split <;> omega
theorem cksAt_bd (L : List Acc) : (cksAt L).bd L.length := by
  have : ∀ (L : List Acc) (s : Cks) (n : Int), s.bd n → (L.foldl Cks.next s).bd (n + L.length) := by
    intro L
    induction L with
    | nil => intro s n h; simpa using h
    | cons a L ih =>
      intro s n h
      have := ih _ _ (Cks.bd_next h a)
      simp only [List.foldl_cons, List.length_cons]
      rw [show n + ((L.length + 1 : Nat) : Int) = n + 1 + (L.length : Int) by omega]
      exact this
  have h := this L cks0 0 ⟨fun _ _ => by simp [cks0, czero], fun _ _ => by simp [cks0, czero]⟩
  rw [Int.zero_add] at h
  exact h

/-! The map of the cells' clocks. -/
def valD : Value → DataW Unit
  | .int k n => .lit (.int k n)
  | _ => .nil
def clkD (c : Clk) : DataW Unit := .agg ((List.range 64).map fun j => .lit (.int .i64 (c j)))
def clkR : Value → Option (DataW Unit × List MemPlace)
  | .agg xs => some (.agg (xs.toList.map valD), [])
  | _ => none
theorem clkR_mk (c : Clk) : clkR (.agg (clkL c).toArray) = some (clkD c, []) := by simp [clkR, clkL, clkD, valD]
theorem valD_inv {v : Value} {n : Int} (h : valD v = .lit (.int .i64 n)) : v = .int .i64 n := by
  cases v <;> simp [valD] at h
  obtain ⟨rfl, rfl⟩ := h
  rfl
theorem clkR_inv {v : Value} {c : Clk} {ps : List MemPlace} (h : clkR v = some (clkD c, ps)) : v = .agg (clkL c).toArray := by
  cases v <;> simp [clkR] at h
  rename_i xs
  obtain ⟨h, _⟩ := h
  unfold clkD at h
  injection h with h
  congr 1
  apply Array.toList_inj.1
  show xs.toList = clkL c
  have hl : xs.toList.length = 64 := by have := congrArg List.length h; simpa using this
  apply List.ext_getElem?
  intro i
  have hi := congrArg (·[i]?) h
  simp only [List.getElem?_map] at hi
  by_cases hlt : i < 64
  · rw [clkL_at c i hlt]
    have hr : (List.range 64)[i]? = some i := by simp [hlt]
    rw [hr] at hi
    cases hx : xs.toList[i]? with
    | none => rw [hx] at hi; cases hi
    | some x =>
      rw [hx] at hi
      injection hi with hi
      rw [valD_inv hi]
  · rw [List.getElem?_eq_none (by omega), List.getElem?_eq_none (by rw [clkL_len]; omega)]
/-- Block M is the map of the cells' clocks: so many entries at most. -/
def CellsIn (w : World) (M n : Nat) (f : Int → Clk) : Prop :=
  ∃ D, w.ownsMap Tryd.prog 3 clkR M n D ∧ Maps.IsMap D ∧ ∀ x, D.atKey (.int .i64 x) (clkD czero) = clkD (f x)
theorem zero109 (w : World) : (zeroValue 109).run Tryd.prog w = .ok (.agg (clkL czero).toArray) w := by kernel_rfl
theorem wf_i64 {x : Int} (hx : i64in x) : (Lit.int .i64 x).wf = true := by
  unfold i64in at hx
  have h1 : IntKind.i64.min = -9223372036854775808 := by decide
  have h2 : IntKind.i64.max = 9223372036854775807 := by decide
  simp only [Lit.wf, h1, h2, Bool.and_eq_true, decide_eq_true_eq]
  exact hx
theorem CellsIn.look {w : World} {M n : Nat} {f : Int → Clk} (h : CellsIn w M n f) (x : Int) (hx : i64in x) : (Instr.lookup 148 (.map (some M)) (.int .i64 x) false).run Tryd.prog w = .ok (.agg (clkL (f x)).toArray) w := by
  obtain ⟨D, h1, h2, h3⟩ := h
  obtain ⟨v, ps, hr, hR⟩ := h1.lookup (Maps.int_keyed Tryd.underlying3) Tryd.underlying148 (zero109 w) (clkR_mk czero) (Maps.keyOf_int_mk Tryd.underlying3 (a := x) (wf_i64 hx))
  rw [h3 x] at hR
  rw [hr, clkR_inv hR]
theorem CellsIn.kept {w w' : World} {M n : Nat} {f : Int → Clk} {S : Nat → Prop} (h : CellsIn w M n f) (k : Kept S w w') (hs : ¬ S M) : CellsIn w' M n f := by
  obtain ⟨D, h1, h2, h3⟩ := h
  refine ⟨D, ?_, h2, h3⟩
  obtain ⟨es, clock, hb, rest⟩ := h1
  exact ⟨es, clock, (k.block M (Array.getElem?_eq_some_iff.1 hb).1 hs).trans hb, rest⟩
theorem CellsIn.made (w : World) : CellsIn (w.alloc (.map #[] 0)) w.heap.size 0 (fun _ => czero) := ⟨_, World.ownsMap_made _ _ _ _, Maps.isMap_empty, fun _ => rfl⟩
theorem CellsIn.put {w' : World} {M n : Nat} {f : Int → Clk} {x : Int} {c : Clk} {D : DataW Unit} (h2 : Maps.IsMap D) (h3 : ∀ x, D.atKey (.int .i64 x) (clkD czero) = clkD (f x)) (h : w'.ownsMap Tryd.prog 3 clkR M n (D.put (.int .i64 x) (clkD c))) :
    CellsIn w' M n (fun y => if y = x then c else f y) := by
  refine ⟨_, h, ?_, fun y => ?_⟩
  · obtain ⟨es, rfl⟩ := h2; exact ⟨_, rfl⟩
  · by_cases e : y = x
    · subst e
      show _ = clkD (if y = y then c else f y)
      rw [if_pos rfl, Maps.atKey_put_same h2 (show WideAt.IsKeyLit (.int .i64 y) from trivial)]
    · show _ = clkD (if y = x then c else f y)
      rw [if_neg e, Maps.atKey_put_other (by intro h; injection h with _ h; exact e h), h3]
end Go.Proofs.YtonnlgpjobfnmaaDoor
