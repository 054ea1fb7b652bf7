/- A free cell: wakes, and what it does without a gate. -/
import Derived.Test.YtecmobjiepgfjaaPGtL
namespace Go.Proofs.Ytecmobjiepgfjaa
open Go.Conc Go.RowKit
open Go.ConcN (upd upd_same upd_ne)
set_option linter.unusedSimpArgs false
set_option linter.unusedVariables false
set_option maxRecDepth 100000
theorem frozen_set (x : World) (a b : Addr) (v : Value) : (x.setCell a v).frozen? b = x.frozen? b := by
  unfold World.frozen?
  rw [heap_setCell]
  by_cases hb : b.block = a.block
  · cases h : x.heap[b.block]? with
    | none => rfl
    | some o => rw [Option.map_some, if_pos hb]; cases o <;> rfl
  · simp only [hb, if_false]
    cases h : x.heap[b.block]? <;> rfl
set_option maxHeartbeats 4000000 in
theorem wakes_J {Post : Value → World → Prop} {C : Ctx} {x : World} {c : Frame} {cs : List Frame} {b : Nat} (h0 : x.cell? (th b 2) = some (.int .i32 0)) (f0 : x.frozen? (th b 2) = false) (h4 : x.cell? (th b 4) = some (.chan none))
    (h : JG Try.prog Post C (G (c.finish (.tuple #[])) cs) x) : JG Try.prog Post C (G (Frame.enter Try.prog 125 #[P0 b] .normal) (c :: cs)) x := by
  refine enterN Try.func125 (by rfl) (by rfl) ?_
  simp only [Try.f125, Option.getD_some]
  walk_nrm
  repeat first
    | refine JG.seq ?_
    | refine JG.skip ?_
    | refine JG.inBlock ?_
    | refine JG.block ?_
    | refine JG.done ?_
    | refine JG.label ?_
    | refine JG.condT rfl ?_
    | refine JG.condF rfl ?_
    | (refine JG.region ?_; simp only [List.size_toArray, List.length_cons, List.length_nil, Nat.reduceAdd, Nat.zero_add, List.range, List.range.loop])
    | (refine JG.unwanted rfl (by rfl) ?_; try walk_nrm)
    | (refine JG.op (F := F0) stands0 (fun h => by cases h) rfl rfl (by rfl) (by decide) (fun K E hK hE τ d => ?_); go_simp; refine hK _ _ (JG.tap ?_); clear hK hE K E τ d; try walk_nrm)
    | (refine JG.op (F := F0) stands0 (fun h => by cases h) rfl rfl (by rfl) (by decide) (fun K E hK hE τ d => ?_); have hfact := (under_cell _ τ d _).trans (h4); go_simp; refine hK _ _ (JG.tap ?_); clear hfact hK hE K E τ d; try walk_nrm)
  refine JG.call (f := 147) (args := #[.pointer (some ⟨b, 2, none⟩)]) rfl (by rfl) (by decide) (fun w => ?_) (fun w => ?_) ?_
  · obtain ⟨fn, h1, h2, h3⟩ : HasBody 147 := ⟨_, Try.func147, by kernel_rfl, by kernel_rfl⟩
    have h4 : ¬ fn.name = "runtime.NumGoroutine" := by simpa using h2
    have h5 : ¬ fn.body = none := by intro e; rw [e] at h3; cases h3
    simp [go_sem, execOp, Act.eval, resolve, Deferred.ofValue, invoke, callFunc, h1, h4, h5]
  · obtain ⟨fn, h1, h2, h3⟩ : HasBody 147 := ⟨_, Try.func147, by kernel_rfl, by kernel_rfl⟩
    have h4 : ¬ fn.name = "runtime.NumGoroutine" := by simpa using h2
    have h5 : ¬ fn.body = none := by intro e; rw [e] at h3; cases h3
    simp [go_sem, execOp, Act.eval, resolve, Deferred.ofValue, invoke, callFunc, h1, h4, h5]
  refine lock_J h0 f0 ?_
  rw [Frame.finish_at]
  walk_nrm
  have k4 := cell_setCell_ne (v := .int .i32 1) (show (th b 4) ≠ (th b 2) by simp [th]) h4
  repeat first
    | refine JG.seq ?_
    | refine JG.skip ?_
    | refine JG.inBlock ?_
    | refine JG.block ?_
    | refine JG.done ?_
    | refine JG.label ?_
    | refine JG.condT rfl ?_
    | refine JG.condF rfl ?_
    | (refine JG.region ?_; simp only [List.size_toArray, List.length_cons, List.length_nil, Nat.reduceAdd, Nat.zero_add, List.range, List.range.loop])
    | (refine JG.unwanted rfl (by rfl) ?_; try walk_nrm)
    | (refine JG.op (F := F0) stands0 (fun h => by cases h) rfl rfl (by rfl) (by decide) (fun K E hK hE τ d => ?_); go_simp; refine hK _ _ (JG.tap ?_); clear hK hE K E τ d; try walk_nrm)
    | (refine JG.op (F := F0) stands0 (fun h => by cases h) rfl rfl (by rfl) (by decide) (fun K E hK hE τ d => ?_); have hfact := (under_cell _ τ d _).trans (k4); go_simp; refine hK _ _ (JG.tap ?_); clear hfact hK hE K E τ d; try walk_nrm)
  refine JG.defer (d := { target := .fn (.func 148) #[], args := #[.pointer (some ⟨b, 2, none⟩)] }) rfl (by rfl) (by decide) (fun w => by simp [go_sem, execOp, Act.eval, resolve, Deferred.ofValue]) (fun w => by simp [go_sem, execOp, Act.eval, resolve, Deferred.ofValue]) ?_
  try walk_nrm
  repeat first
    | refine JG.seq ?_
    | refine JG.skip ?_
    | refine JG.inBlock ?_
    | refine JG.block ?_
    | refine JG.done ?_
    | refine JG.label ?_
    | refine JG.condT rfl ?_
    | refine JG.condF rfl ?_
    | (refine JG.region ?_; simp only [List.size_toArray, List.length_cons, List.length_nil, Nat.reduceAdd, Nat.zero_add, List.range, List.range.loop])
    | (refine JG.unwanted rfl (by rfl) ?_; try walk_nrm)
    | (refine JG.op (F := F0) stands0 (fun h => by cases h) rfl rfl (by rfl) (by decide) (fun K E hK hE τ d => ?_); go_simp; refine hK _ _ (JG.tap ?_); clear hK hE K E τ d; try walk_nrm)
    | (refine JG.op (F := F0) stands0 (fun h => by cases h) rfl rfl (by rfl) (by decide) (fun K E hK hE τ d => ?_); have hfact := (under_cell _ τ d _).trans (k4); go_simp; refine hK _ _ (JG.tap ?_); clear hfact hK hE K E τ d; try walk_nrm)
  refine JG.fin ?_
  refine JG.unwind (m := .returning) (by simp) rfl rfl Try.func148 (by rfl) (by rfl) ?_
  refine unlockD_J (World.cell?_setCell_same (w := x) (a := th b 2) (v := .int .i32 1) h0) (by rw [frozen_set]; exact f0) ?_
  rw [set_twice h0]
  exact JG.leave0 rfl rfl Try.func125 (by rfl) h
end Go.Proofs.Ytecmobjiepgfjaa
