/- The law JudgeFinds' plain: puts, and all kinds together. Conditions: what the slice's cells hold. -/
import Derived.Test.YtonnlgpjobfnmaaDoorGFindD
namespace Go.Proofs.YtonnlgpjobfnmaaDoor
open Go.RowKit
set_option maxRecDepth 100000
theorem plain_put_end {w w' : World} {base : Nat} {v v' : Value} {A C : Obj} {z0 z1 z2 z3 z4 z5 z6 : Value} {hs : List Int} (h : OwnTh w base v hs)
    (hk : Kept (Own1 v) (((w.alloc A).alloc (.cells #[z0, z1, z2, z3, z4, z5, z6] 58)).alloc C).drew w') {hs' : List Int} (ho : OwnTh w' base v' hs') (b0 b1 b2 b3 b4 b5 b6 : Value) :
    (put7 w' (w.heap.size + 1) b0 b1 b2 b3 b4 b5 b6).heap[w.heap.size + 1]? = some (.cells #[b0, b1, b2, b3, b4, b5, b6] 58 (0, 0)) ∧
    OwnTh (put7 w' (w.heap.size + 1) b0 b1 b2 b3 b4 b5 b6) base v' hs' ∧ Kept (Own1 v) w (put7 w' (w.heap.size + 1) b0 b1 b2 b3 b4 b5 b6) := by
  have hB : Blk w' (w.heap.size + 1) 58 #[z0, z1, z2, z3, z4, z5, z6] := (hk.block _ (by show _ < (((w.alloc A).alloc _).alloc C).heap.size; simp) (h.new (by omega))).trans (one_mid w _ _ _)
  have hput : Kept (· = w.heap.size + 1) w' (put7 w' (w.heap.size + 1) b0 b1 b2 b3 b4 b5 b6) := by
    unfold put7
    exact (((((((Kept.refl (fun q => q = w.heap.size + 1) w').set (p := ⟨w.heap.size + 1, 0, none⟩) rfl _).set (p := ⟨w.heap.size + 1, 1, none⟩) rfl _).set (p := ⟨w.heap.size + 1, 2, none⟩) rfl _).set (p := ⟨w.heap.size + 1, 3, none⟩) rfl _).set (p := ⟨w.heap.size + 1, 4, none⟩) rfl _).set (p := ⟨w.heap.size + 1, 5, none⟩) rfl _).set (p := ⟨w.heap.size + 1, 6, none⟩) rfl _
  refine ⟨put7_blk hB _ _ _ _ _ _ _, ho.kept hput fun g cs hg _ e => ?_, ?_⟩
  · subst e
    exact Blk.ne_ hg hB (by decide) rfl
  · have hw' : Kept (Own1 v) w w' := (kept3 w _ _ _).trans hk
    refine ⟨hput.os.trans hw'.os, hput.tape.trans hw'.tape, hput.output.trans hw'.output, Nat.le_trans hw'.size hput.size, fun q hq hS => (hput.block q (Nat.lt_of_lt_of_le hq hw'.size) (by omega)).trans (hw'.block q hq hS)⟩
set_option maxHeartbeats 4000000 in
theorem plain_put (base : Nat) (k : Int) (hk : k = 1 ∨ k = 2) (v : Value) (hs : List Int) (c : Cal) (ho : c.op = 1) (hwf : i64of c.arg) (w : World) (hl : hs.length ≤ 1000000) (hbase : base ≤ w.heap.size) (h : OwnTh w base v hs) :
    Calls Tryd.prog 21 #[.int .i64 k, v, .agg (calA c)] w (PlainPost base k hs c v w) := by
  have hv : ∃ a cap, v = .slice a hs.length cap := by
    obtain ⟨_, ⟨h2, h3⟩ | ⟨g, off, cap, cs, hv, _⟩⟩ := h
    · subst h3
      exact ⟨_, _, h2⟩
    · exact ⟨_, _, hv⟩
  obtain ⟨a, cap, rfl⟩ := hv
  have H := Lib.hid h
  clear h
  obtain ⟨op, arg, new, ans, ok, beg, fin⟩ := c
  simp only at ho
  subst ho
  unfold calA
  rcases hk with rfl | rfl
  all_goals
    go_enter Tryd.func21, Tryd.ntmps21
    go_wp2_with fail
  all_goals go_region_law (first
    | (refine step_own_put rfl (.tmp 23) (.tmp 26) rfl (H.out.same (kept3 _ _ _ _)) (by show base ≤ (((w.alloc _).alloc _).alloc _).heap.size; simp; omega) hl (by simp [Act.eval]) ⟨w.heap.size + 2, 0, none⟩ 1 arg (by simp [Act.eval]) (by rw [Lib.cell_of_heap (heap_alloc3_new _ _ _ _)]; rfl) hwf ?_
       intro g' off' cap' w' hown hgrow
       have q0 : w'.heap[w.heap.size]? = _ := (hgrow.block w.heap.size (by show _ < (((w.alloc _).alloc _).alloc _).heap.size; simp; omega) (H.out.new (Nat.le_refl _))).trans (by show (((w.alloc _).alloc _).alloc _).heap[w.heap.size]? = _; rw [heap_alloc_old _ _ (by simp; omega), heap_alloc_old _ _ (by simp), heap_alloc_new])
       have q1 : w'.heap[w.heap.size + 1]? = _ := (hgrow.block (w.heap.size + 1) (by show _ < (((w.alloc _).alloc _).alloc _).heap.size; simp) (H.out.new (by omega))).trans (one_mid _ _ _ _)
       have r00 : w'.cell? ⟨w.heap.size, 0, none⟩ = some (.int .i8 1) := by rw [Lib.cell_of_heap q0]; rfl
       have r01 : w'.cell? ⟨w.heap.size, 1, none⟩ = some (.int .i64 arg) := by rw [Lib.cell_of_heap q0]; rfl
       have r02 : w'.cell? ⟨w.heap.size, 2, none⟩ = some (.int .i64 new) := by rw [Lib.cell_of_heap q0]; rfl
       have r03 : w'.cell? ⟨w.heap.size, 3, none⟩ = some (.int .i64 0) := by rw [Lib.cell_of_heap q0]; rfl
       have r04 : w'.cell? ⟨w.heap.size, 4, none⟩ = some (.bool false) := by rw [Lib.cell_of_heap q0]; rfl
       have r05 : w'.cell? ⟨w.heap.size, 5, none⟩ = some (.int .i64 beg) := by rw [Lib.cell_of_heap q0]; rfl
       have r06 : w'.cell? ⟨w.heap.size, 6, none⟩ = some (.int .i64 fin) := by rw [Lib.cell_of_heap q0]; rfl
       have r10 : w'.cell? ⟨w.heap.size + 1, 0, none⟩ = some (.int .i8 0) := by rw [Lib.cell_of_heap q1]; rfl
       have r11 : w'.cell? ⟨w.heap.size + 1, 1, none⟩ = some (.int .i64 0) := by rw [Lib.cell_of_heap q1]; rfl
       have r12 : w'.cell? ⟨w.heap.size + 1, 2, none⟩ = some (.int .i64 0) := by rw [Lib.cell_of_heap q1]; rfl
       have r13 : w'.cell? ⟨w.heap.size + 1, 3, none⟩ = some (.int .i64 0) := by rw [Lib.cell_of_heap q1]; rfl
       have r14 : w'.cell? ⟨w.heap.size + 1, 4, none⟩ = some (.bool false) := by rw [Lib.cell_of_heap q1]; rfl
       have r15 : w'.cell? ⟨w.heap.size + 1, 5, none⟩ = some (.int .i64 0) := by rw [Lib.cell_of_heap q1]; rfl
       have r16 : w'.cell? ⟨w.heap.size + 1, 6, none⟩ = some (.int .i64 0) := by rw [Lib.cell_of_heap q1]; rfl
       have f1 : ∀ j, w'.frozen? ⟨w.heap.size + 1, j, none⟩ = false := fun j => Lib.frozen_of_heap q1 j
       have f10 := f1 0; have f11 := f1 1; have f12 := f1 2; have f13 := f1 3; have f14 := f1 4; have f15 := f1 5; have f16 := f1 6))
  all_goals go_wp2_with fail
  all_goals (try simp only [Exit.inBlock, Exit.then])
  all_goals
    have HE := plain_put_end H.out hgrow hown (.int .i8 1) (.int .i64 arg) (.int .i64 new) (.int .i64 0) (.bool false) (.int .i64 beg) (.int .i64 fin)
    refine plain_end _ (hs ++ [arg]) ⟨1, arg, new, 0, false, beg, fin⟩ _ rfl rfl rfl HE.1 ?_ HE.2.1 HE.2.2
    simp [doesF]
end Go.Proofs.YtonnlgpjobfnmaaDoor
