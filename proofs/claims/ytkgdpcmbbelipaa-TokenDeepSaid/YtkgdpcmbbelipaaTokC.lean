/- slices.Reverse and row at token's entry, for at most two entries. Conditions: what the blocks hold. -/
import Derived.Test.YtkgdpcmbbelipaaTokB
import Derived.Test.YtkgdpcmbbelipaaListC
namespace Go.Proofs.Ytkgdpcmbbelipaa
open Go.RowKit Go.MuLone
set_option maxRecDepth 100000

abbrev Ent := Option Addr × Value
def entVals (es : List Ent) : List Value := es.flatMap fun e => [.pointer e.1, e.2]
theorem entVals_len (es : List Ent) : (entVals es).length = es.length * 2 := by
  induction es with
  | nil => rfl
  | cons e es ih => simp [entVals] at ih ⊢; omega
theorem infoEntry : (Try.prog.info? 78).map (fun i => (i.zero, i.size, i.bytes)) = some (some (.agg #[.pointer none, .nilFunc]), 2, 16) := by kernel_rfl

theorem reverseE_less (a : Option Addr) (n c : Nat) (hn : n ≤ 1) (w : World) :
    Calls Try.prog 67 #[.slice a n c] w fun e w' => e = .returned (.tuple #[]) ∧ w = w' := by
  rcases (show n = 0 ∨ n = 1 by omega) with rfl | rfl
  all_goals
    go_enter Try.func67, Try.ntmps67
    go_wp2
    refine wp_loop_rounds 1 ?_
    rw [rounds_succ]
    go_wp2
    go_end0
    exact ⟨rfl, rfl⟩
set_option maxHeartbeats 2000000 in
theorem reverseE_two (g c : Nat) (cs : Array Value) (a b : Option Addr) (f h : Value) (hf : FnVal f) (hh : FnVal h) (w : World) (hb : Blk w g 78 cs) (q0 : cs[0]? = some (.pointer a)) (q1 : cs[1]? = some f) (q2 : cs[2]? = some (.pointer b)) (q3 : cs[3]? = some h) :
    Calls Try.prog 67 #[.slice (some ⟨g, 0, none⟩) 2 c] w fun e w' => e = .returned (.tuple #[]) ∧ SameHeap ((((w.setCell ⟨g, 0, none⟩ (.pointer b)).setCell ⟨g, 1, none⟩ h).setCell ⟨g, 2, none⟩ (.pointer a)).setCell ⟨g, 3, none⟩ f) w' := by
  have x0 := (hb.cell 0).trans q0
  have x1 := (hb.cell 1).trans q1
  have x2 := (hb.cell 2).trans q2
  have x3 := (hb.cell 3).trans q3
  have fz := fun i => hb.frozen i
  have y0 : w.drew.cell? ⟨g, 0, none⟩ = some (.pointer a) := x0
  have y1 : w.drew.cell? ⟨g, 1, none⟩ = some f := x1
  have y2 : w.drew.cell? ⟨g, 2, none⟩ = some (.pointer b) := x2
  have y3 : w.drew.cell? ⟨g, 3, none⟩ = some h := x3
  have yz : ∀ i, w.drew.frozen? ⟨g, i, none⟩ = false := fz
  clear hb q0 q1 q2 q3
  rcases hf with rfl | ⟨fn, cap, rfl⟩ <;> rcases hh with rfl | ⟨fn2, cap2, rfl⟩
  all_goals
    go_enter Try.func67, Try.ntmps67
    go_wp2
    refine wp_loop_rounds 2 ?_
    rw [rounds_succ]
    go_wp2
    go_region
    all_goals
      go_wp2
      rw [rounds_succ]
      go_wp2
      go_end0
      refine ⟨rfl, ?_⟩
      first | exact SameHeap.refl _ | exact SameHeap.drew _ | exact SameHeap.drewN _ _
end Go.Proofs.Ytkgdpcmbbelipaa
