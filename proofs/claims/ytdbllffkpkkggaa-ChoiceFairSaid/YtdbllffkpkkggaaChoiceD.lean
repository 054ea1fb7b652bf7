/- look, free, over two cases that receive, neither of which is ready. Conditions: what the blocks hold. -/
import Derived.Test.YtdbllffkpkkggaaChoiceC
namespace Go.Proofs.Ytdbllffkpkkggaa
open Go.RowKit Go.MuLone
set_option maxRecDepth 100000

/-- A pipe of two places with nothing in it: one value came and went. -/
def Quiet (w : World) (p : Nat) : Prop := ∃ i o b g c t0 s0 t1 s1, PipeAt w p i o b g c t0 s0 t1 s1 ∧ IsCell w o 1 ∧ IsCell w t1 1 ∧ IsCell w i 2 ∧ g < w.heap.size
theorem Quiet.below {w w' : World} {p : Nat} (h : Quiet w p) (hb : Below w.heap.size w w') : Quiet w' p := by
  obtain ⟨i, o, b, g, c, t0, s0, t1, s1, h1, h2, h3, h4, h5⟩ := h
  exact ⟨i, o, b, g, c, t0, s0, t1, s1, h1.below hb h1.1.lt h5, Blk.below h2 hb (Blk.lt h2), Blk.below h3 hb (Blk.lt h3), Blk.below h4 hb (Blk.lt h4), Nat.lt_of_lt_of_le h5 hb.size⟩
theorem Quiet.recv {w : World} {p : Nat} (h : Quiet w p) :
    Calls Try.prog 31 #[.pointer (some ⟨p, 0, none⟩), .pointer none] w fun e w' => e = .returned (.tuple #[.int .i64 0, .int .i8 2]) ∧ SameHeap w w' := by
  obtain ⟨i, o, b, g, c, t0, s0, t1, s1, h1, h2, h3, h4, h5⟩ := h
  exact recv_none p i o b g c t0 s0 t1 s1 w h1 h2 h3 h4

set_option maxHeartbeats 4000000 in
theorem look_miss (gs cap pa pb : Nat) (u v : Int) (w : World) (ha : Quiet w pa) (hb : Quiet w pb)
    (q0 : w.cell? ⟨gs, 0, none⟩ = some (.pointer (some ⟨pa, 0, none⟩))) (q1 : w.cell? ⟨gs, 1, none⟩ = some (.bool false)) (q2 : w.cell? ⟨gs, 2, none⟩ = some (.int .i64 u))
    (q3 : w.cell? ⟨gs, 3, none⟩ = some (.pointer (some ⟨pb, 0, none⟩))) (q4 : w.cell? ⟨gs, 4, none⟩ = some (.bool false)) (q5 : w.cell? ⟨gs, 5, none⟩ = some (.int .i64 v)) :
    Calls Try.prog 20 #[.pointer none, .slice (some ⟨gs, 0, none⟩) 2 cap, .int .i64 3] w fun e w' => e = .returned (.tuple #[.agg #[.int .i64 (-1), .int .i64 0, .bool false, .int .i64 0], .bool false]) ∧ Below w.heap.size w w' := by
  have HA := Lib.hid ha
  have HBP := Lib.hid hb
  have hgs := World.block_lt_of_cell? w _ q0
  clear ha hb
  go_enter Try.func20, Try.ntmps20
  go_wp2_with fail
  go_step3
  go_wp2_with fail
  go_step3
  go_wp2_with fail
  refine wp_loop_rounds 3 ?_
  rw [rounds_succ]
  go_wp2_with fail
  refine ((HA.out.below (thrice _ _ _ _)).recv).mono ?_
  rintro e w2 ⟨rfl, hS⟩
  have HS := Lib.hid hS
  clear hS
  have HBB := Lib.hid ((thrice w _ _ _).trans ((HS.out.below).mono (by simp; omega)))
  have HSZ : Hid (w2.heap.size = w.heap.size + 3) := Lib.hid (by rw [HS.out.1]; simp)
  have BR : Hid (Blk w2 w.heap.size 74 _) := Lib.hid (HS.out.blk (((Blk.new w _ _).alloc _).alloc _))
  have BX : Hid (Blk w2 (w.heap.size + 1) 74 _) := Lib.hid (HS.out.blk ((Blk.new' _ _ _ _ (by simp)).alloc _))
  have BC : Hid (Blk w2 (w.heap.size + 1 + 1) 36 _) := Lib.hid (HS.out.blk (Blk.new' _ _ _ _ (by simp)))
  have x0 := BX.out.cell 0
  have x1 := BX.out.cell 1
  have x2 := BX.out.cell 2
  have x3 := BX.out.cell 3
  have r0 := BR.out.cell 0
  have r1 := BR.out.cell 1
  have r2 := BR.out.cell 2
  have r3 := BR.out.cell 3
  have c1 := BC.out.cell 1
  have fx := fun i => BX.out.frozen i
  have fr := fun i => BR.out.frozen i
  simp at x0 x1 x2 x3 c1 r0 r1 r2 r3
  go_wp2_with fail
  have y3 := (HBB.out.cell (p := ⟨gs, 3, none⟩) hgs).trans q3
  have y4 := (HBB.out.cell (p := ⟨gs, 4, none⟩) hgs).trans q4
  have y5 := (HBB.out.cell (p := ⟨gs, 5, none⟩) hgs).trans q5
  have hg1 : gs ≠ w.heap.size + 1 := by omega
  clear q0 q1 q2 q3 q4 q5
  rw [rounds_succ]
  go_wp2_with fail
  have HB5 : Hid (Below w.heap.size w (((((((w2.setCell ⟨w.heap.size + 1, 1, none⟩ (.int .i64 0)).setCell ⟨w.heap.size + 1, 0, none⟩ (.int .i64 1)).setCell ⟨w.heap.size + 1, 1, none⟩ (.int .i64 0)).setCell ⟨w.heap.size + 1, 2, none⟩ (.bool true)).setCell ⟨w.heap.size + 1, 3, none⟩ (.int .i64 0)).alloc (.cells #[.pointer (some ⟨pb, 0, none⟩), .bool false, .int .i64 v] 36)))) := Lib.hid ((((((HBB.out.setCell (by simp) _).setCell (by simp) _).setCell (by simp) _).setCell (by simp) _).setCell (by simp) _).alloc (by simp; have := HSZ.out; omega) _)
  refine ((HBP.out.below HB5.out).recv).mono ?_
  rintro e w4 ⟨rfl, hS⟩
  have HS2 := Lib.hid hS
  clear hS
  have HB4 := Lib.hid (HB5.out.trans ((HS2.out.below).mono (by simp; have := HSZ.out; omega)))
  have BR2 : Hid (Blk w4 w.heap.size 74 _) := Lib.hid (HS2.out.blk ((((((BR.out.far (p := ⟨_, _, none⟩) (by simp) _).far (p := ⟨_, _, none⟩) (by simp) _).far (p := ⟨_, _, none⟩) (by simp) _).far (p := ⟨_, _, none⟩) (by simp) _).far (p := ⟨_, _, none⟩) (by simp) _).alloc _))
  have BX2 : Hid (Blk w4 (w.heap.size + 1) 74 _) := Lib.hid (HS2.out.blk ((((((BX.out.set_ _ _).set_ _ _).set_ _ _).set_ _ _).set_ _ _).alloc _))
  clear x0 x1 x2 x3 c1 r0 r1 r2 r3 fx fr y3 y4 y5
  have x1 := BX2.out.cell 1
  have r0 := BR2.out.cell 0
  have r1 := BR2.out.cell 1
  have r2 := BR2.out.cell 2
  have r3 := BR2.out.cell 3
  have fx := fun i => BX2.out.frozen i
  have fr := fun i => BR2.out.frozen i
  simp at x1 r0 r1 r2 r3
  go_wp2_with fail
  rw [rounds_succ]
  go_wp2_with fail
  try rw [Exit.noGoto_ret]
  refine bodyPost_ret (v := .tuple #[.agg #[.int .i64 (-1), .int .i64 0, .bool false, .int .i64 0], .bool false]) (by simp [results, Try.results20, go_sem, r0, r1, r2, r3]) rfl ⟨rfl, ?_⟩
  exact ((((HB4.out.setCell (by simp) _).setCell (by simp) _).setCell (by simp) _).setCell (by simp) _).setCell (by simp) _
end Go.Proofs.Ytdbllffkpkkggaa
