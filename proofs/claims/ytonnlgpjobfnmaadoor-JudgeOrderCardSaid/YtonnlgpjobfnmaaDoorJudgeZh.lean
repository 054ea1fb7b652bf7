/- The law JudgeOrder's walk. Conditions: what the slice's cells hold; Go's table of the powers of ten. -/
import Derived.Test.YtonnlgpjobfnmaaDoorJudgeY
import Derived.Deep.QuietTactic
import Derived.BigQuiet
namespace Go.Proofs.YtonnlgpjobfnmaaDoor
open Go.RowKit
set_option maxRecDepth 100000
theorem zeroIs : Tryd.zeroCells66 = Array.replicate 1600 (.bool false) := by kernel_rfl
/-- Block I holds the answers so far. -/
def IsAt (w : World) (I : Nat) (L : List Acc) (P : Nat → Nat → Prop) : Prop := ∃ cs, Blk w I 66 cs ∧ ∀ i j, i < 40 → j < 40 → ∃ v : Bool, cs[i * 40 + j]? = some (.bool v) ∧ (P i j → v = aheadB L i j)
theorem IsAt.below {w w' : World} {I : Nat} {L : List Acc} {P : Nat → Nat → Prop} (h : IsAt w I L P) (hb : Below w.heap.size w w') : IsAt w' I L P := by
  obtain ⟨cs, h1, h2⟩ := h
  exact ⟨cs, h1.below hb h1.lt, h2⟩
theorem IsAt.lt {w : World} {I : Nat} {L : List Acc} {P : Nat → Nat → Prop} (h : IsAt w I L P) : I < w.heap.size := by
  obtain ⟨cs, h1, _⟩ := h
  exact h1.lt
theorem IsAt.mono {w : World} {I : Nat} {L : List Acc} {P Q : Nat → Nat → Prop} (h : IsAt w I L P) (hq : ∀ i j, i < 40 → j < 40 → Q i j → P i j) : IsAt w I L Q := by
  obtain ⟨cs, h1, h2⟩ := h
  refine ⟨cs, h1, fun i j hi hj => ?_⟩
  obtain ⟨v, h3, h4⟩ := h2 i j hi hj
  exact ⟨v, h3, fun h => h4 (hq i j hi hj h)⟩
theorem IsAt.set {w : World} {I : Nat} {L : List Acc} {P Q : Nat → Nat → Prop} (h : IsAt w I L P) {a b : Nat} (ha : a < 40) (hb : b < 40) (hq : ∀ i j, i < 40 → j < 40 → Q i j → P i j ∨ (i = a ∧ j = b)) : IsAt (w.setCell ⟨I, a * 40 + b, none⟩ (.bool (aheadB L a b))) I L Q := by
  obtain ⟨cs, h1, h2⟩ := h
  have hlt : a * 40 + b < cs.size := by
    obtain ⟨v, h3, _⟩ := h2 a b ha hb
    exact (Array.getElem?_eq_some_iff.1 h3).1
  refine ⟨_, h1.set_ (a * 40 + b) _, fun i j hi hj => ?_⟩
  by_cases e : i * 40 + j = a * 40 + b
  · have e1 : i = a := by omega
    have e2 : j = b := by omega
    subst e1 e2
    exact ⟨_, by rw [Array.getElem?_setIfInBounds_self_of_lt hlt], fun _ => rfl⟩
  · rw [Array.getElem?_setIfInBounds_ne (fun h => e h.symm)]
    obtain ⟨v, h3, h4⟩ := h2 i j hi hj
    refine ⟨v, h3, fun h => h4 ?_⟩
    rcases hq i j hi hj h with h | ⟨h5, h6⟩
    · exact h
    · subst h5 h6
      exact absurd rfl e
def ORel (L : List Acc) (I N : Nat) (w0 : World) (i : Value) (wr : World) : Prop := ∃ a : Nat, a ≤ N ∧ i = .int .i64 a ∧ Below w0.heap.size w0 wr ∧ IsAt wr I L (fun i j => i < a ∧ j < N) ∧ (0 < a → 0 < N → mayLog L = true)
def PRel (L : List Acc) (I N a : Nat) (w0 : World) (i : Value) (wr : World) : Prop := ∃ b : Nat, b ≤ N ∧ i = .int .i64 b ∧ Below w0.heap.size w0 wr ∧ IsAt wr I L (fun i j => (i < a ∧ j < N) ∨ (i = a ∧ j < b)) ∧ (0 < b → mayLog L = true)
theorem LogAt.take {w : World} {B : Nat} {b : Option Addr} {L : List Acc} (h : LogAt w B b L) (n : Nat) : LogAt w B b (L.take n) := by
  refine ⟨by have := h.small; rw [List.length_take]; omega, fun a ha => h.wf a (List.mem_of_mem_take ha), fun i a ha => ?_⟩
  rw [List.getElem?_take] at ha
  split at ha
  · exact h.at_ i a ha
  · cases ha
def CRel (N : Nat) (i : Value) : Prop := ∃ p : Nat, p ≤ N ∧ i = .int .i64 p
def OrderPost (w : World) (e : Ending) (w' : World) : Prop := e = .returned (.bool true) ∧ Below w.heap.size w w'
theorem thAt_op {L : List Acc} {i : Nat} {a : Acc} (h : L[i]? = some a) (hm : mayLog L = true) : a.th = (thAt L i : Nat) := by
  obtain ⟨t, h1, _, h3⟩ := th_lt hm h
  rw [h1, h3]
theorem same_below {B : Nat} {w w4 w5 : World} (h : Below B w w4) (h1 : w5.heap = w4.heap) (h2 : w5.os = w4.os) (h3 : w5.tape = w4.tape) (h4 : w5.output = w4.output) : Below B w w5 :=
  ⟨h2.trans h.os, h3.trans h.tape, h4.trans h.output, by rw [h1]; exact h.size, fun q hq => by rw [h1]; exact h.block q hq⟩
theorem same_isAt {w4 w5 : World} {I : Nat} {L : List Acc} {P : Nat → Nat → Prop} (h : IsAt w4 I L P) (h1 : w5.heap = w4.heap) : IsAt w5 I L P := by
  obtain ⟨cs, h2, h3⟩ := h
  exact ⟨cs, by unfold Blk at *; rw [h1]; exact h2, h3⟩
def LenIs (L : List Acc) (n : Nat) : Prop := L.length = n
theorem LenIs.eq {L : List Acc} {n : Nat} (h : LenIs L n) : L.length = n := h
theorem isAt_new (w : World) (L : List Acc) (P : Nat → Nat → Prop) (hP : ∀ i j, ¬ P i j) : IsAt (w.alloc (.cells Tryd.zeroCells66 66)) w.heap.size L P := by
  rw [zeroIs]
  refine ⟨_, Blk.new _ _ _, fun i j hi hj => ⟨false, ?_, fun h => absurd h (hP i j)⟩⟩
  rw [Array.getElem?_replicate, if_pos (by omega)]
theorem copy_n {n : Nat} {L : List Acc} (hn : L.length = n) (h40 : n ≤ 40) (b : Option Addr) (cap : Nat) (w : World) (h : LogAt w w.heap.size b L) : Calls Tryd.prog 24 #[.slice b n cap] w (fun e w' => ∃ b' cap', e = .returned (.slice b' n cap') ∧ n ≤ cap' ∧ LogAt w' w'.heap.size b' L ∧ Below w.heap.size w w') := by
  subst hn
  exact copy_any b cap L (by omega) w h
theorem ahead_n {n : Nat} {L : List Acc} (hn : L.length = n) (h40 : n ≤ 40) (b : Option Addr) (cap : Nat) (i j : Nat) (w : World) (h : LogAt w w.heap.size b L) : Calls Tryd.prog 23 #[.slice b n cap, .int .i64 i, .int .i64 j] w (AheadPost L i j w) := by
  subst hn
  exact ahead2 b cap L i j w h (by omega)
theorem aheadAns_in {L : List Acc} {i j : Nat} (h : mayLog L = true) (h1 : i < L.length) (h2 : j < L.length) : aheadAns L i j = .tuple #[.bool (aheadB L i j), .int .i64 0] := by
  unfold aheadAns
  rw [if_neg (by rw [h]; simp), if_pos (by omega)]
  rfl
theorem aheadAns_no {L : List Acc} {i j : Int} (h : mayLog L = false) : aheadAns L i j = .tuple #[.bool false, .int .i64 31] := by
  unfold aheadAns
  rw [if_pos h]
end Go.Proofs.YtonnlgpjobfnmaaDoor
