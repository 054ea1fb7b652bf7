/- Pipes that are none, under J; PipeNew's thread. -/
import Derived.Test.YtecmobjiepgfjaaPPpA
namespace Go.Proofs.Ytecmobjiepgfjaa
open Go.Conc Go.RowKit
open Go.ConcN (upd upd_same upd_ne)
set_option linter.unusedSimpArgs false
set_option linter.unusedVariables false
set_option maxRecDepth 100000
section
variable {Post : Value → World → Prop} {C : Ctx} {x : World} {c : Frame} {cs : List Frame} {l gb vb tb : Nat} {v : Int} {vt vk : Value}
/-- A pipe that is none, as the program's none says. -/
def IsNoPipe (Post : Value → World → Prop) (C : Ctx) (x : World) (q : Value) : Prop := ∀ (c : Frame) (cs : List Frame), JG Try.prog Post C (G (c.finish (.bool true)) cs) x → JG Try.prog Post C (G (Frame.enter Try.prog 115 #[q] .normal) (c :: cs)) x
theorem noPipe_nil : IsNoPipe Post C x (.pointer none) := fun c cs h => by
  refine enterN Try.func115 (by rfl) (by rfl) ?_
  simp only [Try.f115, Option.getD_some]
  walk_nrm
  repeat first
    | refine JG.seq ?_
    | refine JG.skip ?_
    | refine JG.inBlock ?_
    | refine JG.block ?_
    | refine JG.done ?_
    | refine JG.label ?_
    | refine JG.condT rfl ?_
    | refine JG.condF rfl ?_
    | (refine JG.region ?_; simp only [List.size_toArray, List.length_cons, List.length_nil, Nat.reduceAdd, Nat.zero_add, List.range, List.range.loop])
    | (refine JG.unwanted rfl (by rfl) ?_; try walk_nrm)
    | (refine JG.op (F := F0) stands0 (fun h => by cases h) rfl rfl (by rfl) (by decide) (fun K E hK hE τ d => ?_); go_simp; refine hK _ _ (JG.tap ?_); clear hK hE K E τ d; try walk_nrm)
  refine JG.ret ?_
  exact JG.leave rfl rfl Try.func115 (fun τ d => results_tmp (t := 2) rfl _ _ _) h
theorem noPipe_bare (h0 : x.cell? (th l 0) = some (.pointer none)) : IsNoPipe Post C x (P0 l) := fun c cs h => by
  refine enterN Try.func115 (by rfl) (by rfl) ?_
  simp only [Try.f115, Option.getD_some]
  walk_nrm
  repeat first
    | refine JG.seq ?_
    | refine JG.skip ?_
    | refine JG.inBlock ?_
    | refine JG.block ?_
    | refine JG.done ?_
    | refine JG.label ?_
    | refine JG.condT rfl ?_
    | refine JG.condF rfl ?_
    | (refine JG.region ?_; simp only [List.size_toArray, List.length_cons, List.length_nil, Nat.reduceAdd, Nat.zero_add, List.range, List.range.loop])
    | (refine JG.unwanted rfl (by rfl) ?_; try walk_nrm)
    | (refine JG.op (F := F0) stands0 (fun h => by cases h) rfl rfl (by rfl) (by decide) (fun K E hK hE τ d => ?_); go_simp; refine hK _ _ (JG.tap ?_); clear hK hE K E τ d; try walk_nrm)
    | (refine JG.op (F := F0) stands0 (fun h => by cases h) rfl rfl (by rfl) (by decide) (fun K E hK hE τ d => ?_); have hfact := (under_cell _ τ d _).trans (h0); go_simp; refine hK _ _ (JG.tap ?_); clear hfact hK hE K E τ d; try walk_nrm)
  refine JG.ret ?_
  exact JG.leave rfl rfl Try.func115 (fun τ d => results_tmp (t := 2) rfl _ _ _) h
theorem recvN_J {q : Value} (hq : IsNoPipe Post C x q) (h : JG Try.prog Post C (G (c.finish (.tuple #[.int .i64 0, .int .i64 2])) cs) x) : JG Try.prog Post C (G (Frame.enter Try.prog 60 #[q, vt] .normal) (c :: cs)) x := by
  refine enterN Try.func60 (by rfl) (by rfl) ?_
  simp only [Try.f60, Option.getD_some]
  walk_nrm
  repeat first
    | refine JG.seq ?_
    | refine JG.skip ?_
    | refine JG.inBlock ?_
    | refine JG.block ?_
    | refine JG.done ?_
    | refine JG.label ?_
    | refine JG.condT rfl ?_
    | refine JG.condF rfl ?_
    | (refine JG.region ?_; simp only [List.size_toArray, List.length_cons, List.length_nil, Nat.reduceAdd, Nat.zero_add, List.range, List.range.loop])
    | (refine JG.unwanted rfl (by rfl) ?_; try walk_nrm)
    | (refine JG.op (F := F0) stands0 (fun h => by cases h) rfl rfl (by rfl) (by decide) (fun K E hK hE τ d => ?_); go_simp; refine hK _ _ (JG.tap ?_); clear hK hE K E τ d; try walk_nrm)
  refine JG.scope ?_
  repeat first
    | refine JG.seq ?_
    | refine JG.skip ?_
    | refine JG.inBlock ?_
    | refine JG.block ?_
    | refine JG.done ?_
    | refine JG.label ?_
    | refine JG.condT rfl ?_
    | refine JG.condF rfl ?_
    | (refine JG.region ?_; simp only [List.size_toArray, List.length_cons, List.length_nil, Nat.reduceAdd, Nat.zero_add, List.range, List.range.loop])
    | (refine JG.unwanted rfl (by rfl) ?_; try walk_nrm)
    | (refine JG.op (F := F0) stands0 (fun h => by cases h) rfl rfl (by rfl) (by decide) (fun K E hK hE τ d => ?_); go_simp; refine hK _ _ (JG.tap ?_); clear hK hE K E τ d; try walk_nrm)
  refine JG.call (f := 115) (args := #[q]) rfl (by rfl) (by decide) (fun w => ?_) (fun w => ?_) ?_
  · obtain ⟨fn, h1, h2, h3⟩ : HasBody 115 := ⟨_, Try.func115, by kernel_rfl, by kernel_rfl⟩
    have h4 : ¬ fn.name = "runtime.NumGoroutine" := by simpa using h2
    have h5 : ¬ fn.body = none := by intro e; rw [e] at h3; cases h3
    simp [go_sem, execOp, Act.eval, resolve, Deferred.ofValue, invoke, callFunc, h1, h4, h5]
  · obtain ⟨fn, h1, h2, h3⟩ : HasBody 115 := ⟨_, Try.func115, by kernel_rfl, by kernel_rfl⟩
    have h4 : ¬ fn.name = "runtime.NumGoroutine" := by simpa using h2
    have h5 : ¬ fn.body = none := by intro e; rw [e] at h3; cases h3
    simp [go_sem, execOp, Act.eval, resolve, Deferred.ofValue, invoke, callFunc, h1, h4, h5]
  refine hq _ _ ?_
  rw [Frame.finish_at]
  walk_nrm
  repeat first
    | refine JG.seq ?_
    | refine JG.skip ?_
    | refine JG.inBlock ?_
    | refine JG.block ?_
    | refine JG.done ?_
    | refine JG.label ?_
    | refine JG.condT rfl ?_
    | refine JG.condF rfl ?_
    | (refine JG.region ?_; simp only [List.size_toArray, List.length_cons, List.length_nil, Nat.reduceAdd, Nat.zero_add, List.range, List.range.loop])
    | (refine JG.unwanted rfl (by rfl) ?_; try walk_nrm)
    | (refine JG.op (F := F0) stands0 (fun h => by cases h) rfl rfl (by rfl) (by decide) (fun K E hK hE τ d => ?_); go_simp; refine hK _ _ (JG.tap ?_); clear hK hE K E τ d; try walk_nrm)
  refine JG.ret ?_
  exact JG.leave rfl rfl Try.func60 (fun τ d => results_tmp2 (t := 4) (u := 5) rfl _ _ _) h
theorem tryRecvN_J {q : Value} (hq : IsNoPipe Post C x q) (h : JG Try.prog Post C (G (c.finish (.tuple #[.int .i64 0, .int .i8 3])) cs) x) : JG Try.prog Post C (G (Frame.enter Try.prog 63 #[q, vt] .normal) (c :: cs)) x := by
  refine enterN Try.func63 (by rfl) (by rfl) ?_
  simp only [Try.f63, Option.getD_some]
  walk_nrm
  repeat first
    | refine JG.seq ?_
    | refine JG.skip ?_
    | refine JG.inBlock ?_
    | refine JG.block ?_
    | refine JG.done ?_
    | refine JG.label ?_
    | refine JG.condT rfl ?_
    | refine JG.condF rfl ?_
    | (refine JG.region ?_; simp only [List.size_toArray, List.length_cons, List.length_nil, Nat.reduceAdd, Nat.zero_add, List.range, List.range.loop])
    | (refine JG.unwanted rfl (by rfl) ?_; try walk_nrm)
    | (refine JG.op (F := F0) stands0 (fun h => by cases h) rfl rfl (by rfl) (by decide) (fun K E hK hE τ d => ?_); go_simp; refine hK _ _ (JG.tap ?_); clear hK hE K E τ d; try walk_nrm)
  refine JG.call (f := 115) (args := #[q]) rfl (by rfl) (by decide) (fun w => ?_) (fun w => ?_) ?_
  · obtain ⟨fn, h1, h2, h3⟩ : HasBody 115 := ⟨_, Try.func115, by kernel_rfl, by kernel_rfl⟩
    have h4 : ¬ fn.name = "runtime.NumGoroutine" := by simpa using h2
    have h5 : ¬ fn.body = none := by intro e; rw [e] at h3; cases h3
    simp [go_sem, execOp, Act.eval, resolve, Deferred.ofValue, invoke, callFunc, h1, h4, h5]
  · obtain ⟨fn, h1, h2, h3⟩ : HasBody 115 := ⟨_, Try.func115, by kernel_rfl, by kernel_rfl⟩
    have h4 : ¬ fn.name = "runtime.NumGoroutine" := by simpa using h2
    have h5 : ¬ fn.body = none := by intro e; rw [e] at h3; cases h3
    simp [go_sem, execOp, Act.eval, resolve, Deferred.ofValue, invoke, callFunc, h1, h4, h5]
  refine hq _ _ ?_
  rw [Frame.finish_at]
  walk_nrm
  repeat first
    | refine JG.seq ?_
    | refine JG.skip ?_
    | refine JG.inBlock ?_
    | refine JG.block ?_
    | refine JG.done ?_
    | refine JG.label ?_
    | refine JG.condT rfl ?_
    | refine JG.condF rfl ?_
    | (refine JG.region ?_; simp only [List.size_toArray, List.length_cons, List.length_nil, Nat.reduceAdd, Nat.zero_add, List.range, List.range.loop])
    | (refine JG.unwanted rfl (by rfl) ?_; try walk_nrm)
    | (refine JG.op (F := F0) stands0 (fun h => by cases h) rfl rfl (by rfl) (by decide) (fun K E hK hE τ d => ?_); go_simp; refine hK _ _ (JG.tap ?_); clear hK hE K E τ d; try walk_nrm)
  refine JG.ret ?_
  exact JG.leave rfl rfl Try.func63 (fun τ d => results_tmp2 (t := 4) (u := 5) rfl _ _ _) h
theorem sendN_J {q : Value} (hq : IsNoPipe Post C x q) (h : JG Try.prog Post C (G (c.finish (.int .i64 2)) cs) x) : JG Try.prog Post C (G (Frame.enter Try.prog 64 #[q, vt, vk] .normal) (c :: cs)) x := by
  refine enterN Try.func64 (by rfl) (by rfl) ?_
  simp only [Try.f64, Option.getD_some]
  walk_nrm
  repeat first
    | refine JG.seq ?_
    | refine JG.skip ?_
    | refine JG.inBlock ?_
    | refine JG.block ?_
    | refine JG.done ?_
    | refine JG.label ?_
    | refine JG.condT rfl ?_
    | refine JG.condF rfl ?_
    | (refine JG.region ?_; simp only [List.size_toArray, List.length_cons, List.length_nil, Nat.reduceAdd, Nat.zero_add, List.range, List.range.loop])
    | (refine JG.unwanted rfl (by rfl) ?_; try walk_nrm)
    | (refine JG.op (F := F0) stands0 (fun h => by cases h) rfl rfl (by rfl) (by decide) (fun K E hK hE τ d => ?_); go_simp; refine hK _ _ (JG.tap ?_); clear hK hE K E τ d; try walk_nrm)
  refine JG.scope ?_
  repeat first
    | refine JG.seq ?_
    | refine JG.skip ?_
    | refine JG.inBlock ?_
    | refine JG.block ?_
    | refine JG.done ?_
    | refine JG.label ?_
    | refine JG.condT rfl ?_
    | refine JG.condF rfl ?_
    | (refine JG.region ?_; simp only [List.size_toArray, List.length_cons, List.length_nil, Nat.reduceAdd, Nat.zero_add, List.range, List.range.loop])
    | (refine JG.unwanted rfl (by rfl) ?_; try walk_nrm)
    | (refine JG.op (F := F0) stands0 (fun h => by cases h) rfl rfl (by rfl) (by decide) (fun K E hK hE τ d => ?_); go_simp; refine hK _ _ (JG.tap ?_); clear hK hE K E τ d; try walk_nrm)
  refine JG.call (f := 115) (args := #[q]) rfl (by rfl) (by decide) (fun w => ?_) (fun w => ?_) ?_
  · obtain ⟨fn, h1, h2, h3⟩ : HasBody 115 := ⟨_, Try.func115, by kernel_rfl, by kernel_rfl⟩
    have h4 : ¬ fn.name = "runtime.NumGoroutine" := by simpa using h2
    have h5 : ¬ fn.body = none := by intro e; rw [e] at h3; cases h3
    simp [go_sem, execOp, Act.eval, resolve, Deferred.ofValue, invoke, callFunc, h1, h4, h5]
  · obtain ⟨fn, h1, h2, h3⟩ : HasBody 115 := ⟨_, Try.func115, by kernel_rfl, by kernel_rfl⟩
    have h4 : ¬ fn.name = "runtime.NumGoroutine" := by simpa using h2
    have h5 : ¬ fn.body = none := by intro e; rw [e] at h3; cases h3
    simp [go_sem, execOp, Act.eval, resolve, Deferred.ofValue, invoke, callFunc, h1, h4, h5]
  refine hq _ _ ?_
  rw [Frame.finish_at]
  walk_nrm
  repeat first
    | refine JG.seq ?_
    | refine JG.skip ?_
    | refine JG.inBlock ?_
    | refine JG.block ?_
    | refine JG.done ?_
    | refine JG.label ?_
    | refine JG.condT rfl ?_
    | refine JG.condF rfl ?_
    | (refine JG.region ?_; simp only [List.size_toArray, List.length_cons, List.length_nil, Nat.reduceAdd, Nat.zero_add, List.range, List.range.loop])
    | (refine JG.unwanted rfl (by rfl) ?_; try walk_nrm)
    | (refine JG.op (F := F0) stands0 (fun h => by cases h) rfl rfl (by rfl) (by decide) (fun K E hK hE τ d => ?_); go_simp; refine hK _ _ (JG.tap ?_); clear hK hE K E τ d; try walk_nrm)
  refine JG.ret ?_
  exact JG.leave rfl rfl Try.func64 (fun τ d => results_tmp (t := 6) rfl _ _ _) h
theorem trySendN_J {q : Value} (hq : IsNoPipe Post C x q) (h : JG Try.prog Post C (G (c.finish (.int .i8 3)) cs) x) : JG Try.prog Post C (G (Frame.enter Try.prog 59 #[q, vt, vk] .normal) (c :: cs)) x := by
  refine enterN Try.func59 (by rfl) (by rfl) ?_
  simp only [Try.f59, Option.getD_some]
  walk_nrm
  repeat first
    | refine JG.seq ?_
    | refine JG.skip ?_
    | refine JG.inBlock ?_
    | refine JG.block ?_
    | refine JG.done ?_
    | refine JG.label ?_
    | refine JG.condT rfl ?_
    | refine JG.condF rfl ?_
    | (refine JG.region ?_; simp only [List.size_toArray, List.length_cons, List.length_nil, Nat.reduceAdd, Nat.zero_add, List.range, List.range.loop])
    | (refine JG.unwanted rfl (by rfl) ?_; try walk_nrm)
    | (refine JG.op (F := F0) stands0 (fun h => by cases h) rfl rfl (by rfl) (by decide) (fun K E hK hE τ d => ?_); go_simp; refine hK _ _ (JG.tap ?_); clear hK hE K E τ d; try walk_nrm)
  refine JG.call (f := 115) (args := #[q]) rfl (by rfl) (by decide) (fun w => ?_) (fun w => ?_) ?_
  · obtain ⟨fn, h1, h2, h3⟩ : HasBody 115 := ⟨_, Try.func115, by kernel_rfl, by kernel_rfl⟩
    have h4 : ¬ fn.name = "runtime.NumGoroutine" := by simpa using h2
    have h5 : ¬ fn.body = none := by intro e; rw [e] at h3; cases h3
    simp [go_sem, execOp, Act.eval, resolve, Deferred.ofValue, invoke, callFunc, h1, h4, h5]
  · obtain ⟨fn, h1, h2, h3⟩ : HasBody 115 := ⟨_, Try.func115, by kernel_rfl, by kernel_rfl⟩
    have h4 : ¬ fn.name = "runtime.NumGoroutine" := by simpa using h2
    have h5 : ¬ fn.body = none := by intro e; rw [e] at h3; cases h3
    simp [go_sem, execOp, Act.eval, resolve, Deferred.ofValue, invoke, callFunc, h1, h4, h5]
  refine hq _ _ ?_
  rw [Frame.finish_at]
  walk_nrm
  repeat first
    | refine JG.seq ?_
    | refine JG.skip ?_
    | refine JG.inBlock ?_
    | refine JG.block ?_
    | refine JG.done ?_
    | refine JG.label ?_
    | refine JG.condT rfl ?_
    | refine JG.condF rfl ?_
    | (refine JG.region ?_; simp only [List.size_toArray, List.length_cons, List.length_nil, Nat.reduceAdd, Nat.zero_add, List.range, List.range.loop])
    | (refine JG.unwanted rfl (by rfl) ?_; try walk_nrm)
    | (refine JG.op (F := F0) stands0 (fun h => by cases h) rfl rfl (by rfl) (by decide) (fun K E hK hE τ d => ?_); go_simp; refine hK _ _ (JG.tap ?_); clear hK hE K E τ d; try walk_nrm)
  refine JG.ret ?_
  exact JG.leave rfl rfl Try.func59 (fun τ d => results_tmp (t := 6) rfl _ _ _) h
theorem closeN_J {q : Value} (hq : IsNoPipe Post C x q) (h : JG Try.prog Post C (G (c.finish (.int .i64 2)) cs) x) : JG Try.prog Post C (G (Frame.enter Try.prog 61 #[q, vt] .normal) (c :: cs)) x := by
  refine enterN Try.func61 (by rfl) (by rfl) ?_
  simp only [Try.f61, Option.getD_some]
  walk_nrm
  repeat first
    | refine JG.seq ?_
    | refine JG.skip ?_
    | refine JG.inBlock ?_
    | refine JG.block ?_
    | refine JG.done ?_
    | refine JG.label ?_
    | refine JG.condT rfl ?_
    | refine JG.condF rfl ?_
    | (refine JG.region ?_; simp only [List.size_toArray, List.length_cons, List.length_nil, Nat.reduceAdd, Nat.zero_add, List.range, List.range.loop])
    | (refine JG.unwanted rfl (by rfl) ?_; try walk_nrm)
    | (refine JG.op (F := F0) stands0 (fun h => by cases h) rfl rfl (by rfl) (by decide) (fun K E hK hE τ d => ?_); go_simp; refine hK _ _ (JG.tap ?_); clear hK hE K E τ d; try walk_nrm)
  refine JG.call (f := 115) (args := #[q]) rfl (by rfl) (by decide) (fun w => ?_) (fun w => ?_) ?_
  · obtain ⟨fn, h1, h2, h3⟩ : HasBody 115 := ⟨_, Try.func115, by kernel_rfl, by kernel_rfl⟩
    have h4 : ¬ fn.name = "runtime.NumGoroutine" := by simpa using h2
    have h5 : ¬ fn.body = none := by intro e; rw [e] at h3; cases h3
    simp [go_sem, execOp, Act.eval, resolve, Deferred.ofValue, invoke, callFunc, h1, h4, h5]
  · obtain ⟨fn, h1, h2, h3⟩ : HasBody 115 := ⟨_, Try.func115, by kernel_rfl, by kernel_rfl⟩
    have h4 : ¬ fn.name = "runtime.NumGoroutine" := by simpa using h2
    have h5 : ¬ fn.body = none := by intro e; rw [e] at h3; cases h3
    simp [go_sem, execOp, Act.eval, resolve, Deferred.ofValue, invoke, callFunc, h1, h4, h5]
  refine hq _ _ ?_
  rw [Frame.finish_at]
  walk_nrm
  repeat first
    | refine JG.seq ?_
    | refine JG.skip ?_
    | refine JG.inBlock ?_
    | refine JG.block ?_
    | refine JG.done ?_
    | refine JG.label ?_
    | refine JG.condT rfl ?_
    | refine JG.condF rfl ?_
    | (refine JG.region ?_; simp only [List.size_toArray, List.length_cons, List.length_nil, Nat.reduceAdd, Nat.zero_add, List.range, List.range.loop])
    | (refine JG.unwanted rfl (by rfl) ?_; try walk_nrm)
    | (refine JG.op (F := F0) stands0 (fun h => by cases h) rfl rfl (by rfl) (by decide) (fun K E hK hE τ d => ?_); go_simp; refine hK _ _ (JG.tap ?_); clear hK hE K E τ d; try walk_nrm)
  refine JG.ret ?_
  exact JG.leave rfl rfl Try.func61 (fun τ d => results_tmp (t := 4) rfl _ _ _) h
theorem bellN_J {q : Value} (hq : IsNoPipe Post C x q) (h : JG Try.prog Post C (G (c.finish (.pointer none)) cs) x) : JG Try.prog Post C (G (Frame.enter Try.prog 58 #[q] .normal) (c :: cs)) x := by
  refine enterN Try.func58 (by rfl) (by rfl) ?_
  simp only [Try.f58, Option.getD_some]
  walk_nrm
  repeat first
    | refine JG.seq ?_
    | refine JG.skip ?_
    | refine JG.inBlock ?_
    | refine JG.block ?_
    | refine JG.done ?_
    | refine JG.label ?_
    | refine JG.condT rfl ?_
    | refine JG.condF rfl ?_
    | (refine JG.region ?_; simp only [List.size_toArray, List.length_cons, List.length_nil, Nat.reduceAdd, Nat.zero_add, List.range, List.range.loop])
    | (refine JG.unwanted rfl (by rfl) ?_; try walk_nrm)
    | (refine JG.op (F := F0) stands0 (fun h => by cases h) rfl rfl (by rfl) (by decide) (fun K E hK hE τ d => ?_); go_simp; refine hK _ _ (JG.tap ?_); clear hK hE K E τ d; try walk_nrm)
  refine JG.call (f := 115) (args := #[q]) rfl (by rfl) (by decide) (fun w => ?_) (fun w => ?_) ?_
  · obtain ⟨fn, h1, h2, h3⟩ : HasBody 115 := ⟨_, Try.func115, by kernel_rfl, by kernel_rfl⟩
    have h4 : ¬ fn.name = "runtime.NumGoroutine" := by simpa using h2
    have h5 : ¬ fn.body = none := by intro e; rw [e] at h3; cases h3
    simp [go_sem, execOp, Act.eval, resolve, Deferred.ofValue, invoke, callFunc, h1, h4, h5]
  · obtain ⟨fn, h1, h2, h3⟩ : HasBody 115 := ⟨_, Try.func115, by kernel_rfl, by kernel_rfl⟩
    have h4 : ¬ fn.name = "runtime.NumGoroutine" := by simpa using h2
    have h5 : ¬ fn.body = none := by intro e; rw [e] at h3; cases h3
    simp [go_sem, execOp, Act.eval, resolve, Deferred.ofValue, invoke, callFunc, h1, h4, h5]
  refine hq _ _ ?_
  rw [Frame.finish_at]
  walk_nrm
  repeat first
    | refine JG.seq ?_
    | refine JG.skip ?_
    | refine JG.inBlock ?_
    | refine JG.block ?_
    | refine JG.done ?_
    | refine JG.label ?_
    | refine JG.condT rfl ?_
    | refine JG.condF rfl ?_
    | (refine JG.region ?_; simp only [List.size_toArray, List.length_cons, List.length_nil, Nat.reduceAdd, Nat.zero_add, List.range, List.range.loop])
    | (refine JG.unwanted rfl (by rfl) ?_; try walk_nrm)
    | (refine JG.op (F := F0) stands0 (fun h => by cases h) rfl rfl (by rfl) (by decide) (fun K E hK hE τ d => ?_); go_simp; refine hK _ _ (JG.tap ?_); clear hK hE K E τ d; try walk_nrm)
  refine JG.ret ?_
  exact JG.leave rfl rfl Try.func58 (fun τ d => results_tmp (t := 2) rfl _ _ _) h
set_option maxHeartbeats 4000000 in
theorem pipeBody_J (hg : x.cell? (th gb 0) = some (.bool true)) (hf : x.frozen? (th gb 0) = false) (hv : x.cell? (th vb 0) = some (.int .i64 v)) (h : ∀ u z, OldStand x z → JG Try.prog Post C (G (c.finish u) cs) z) :
    JG Try.prog Post C (G (Frame.enter Try.prog 62 #[P0 tb, P0 gb, P0 vb] .normal) (c :: cs)) x := by
  refine enterN Try.func62 (by rfl) (by rfl) ?_
  simp only [Try.f62, Option.getD_some]
  walk_nrm
  repeat first
    | refine JG.seq ?_
    | refine JG.skip ?_
    | refine JG.inBlock ?_
    | refine JG.block ?_
    | refine JG.done ?_
    | refine JG.label ?_
    | refine JG.condT rfl ?_
    | refine JG.condF rfl ?_
    | (refine JG.region ?_; simp only [List.size_toArray, List.length_cons, List.length_nil, Nat.reduceAdd, Nat.zero_add, List.range, List.range.loop])
    | (refine JG.unwanted rfl (by rfl) ?_; try walk_nrm)
    | (refine JG.op (F := F0) stands0 (fun h => by cases h) rfl rfl (by rfl) (by decide) (fun K E hK hE τ d => ?_); go_simp; refine hK _ _ (JG.tap ?_); clear hK hE K E τ d; try walk_nrm)
  refine JG.loop ?_
  repeat first
    | refine JG.seq ?_
    | refine JG.skip ?_
    | refine JG.inBlock ?_
    | refine JG.block ?_
    | refine JG.done ?_
    | refine JG.label ?_
    | refine JG.condT rfl ?_
    | refine JG.condF rfl ?_
    | (refine JG.region ?_; simp only [List.size_toArray, List.length_cons, List.length_nil, Nat.reduceAdd, Nat.zero_add, List.range, List.range.loop])
    | (refine JG.unwanted rfl (by rfl) ?_; try walk_nrm)
    | (refine JG.op (F := F0) stands0 (fun h => by cases h) rfl rfl (by rfl) (by decide) (fun K E hK hE τ d => ?_); go_simp; refine hK _ _ (JG.tap ?_); clear hK hE K E τ d; try walk_nrm)
  refine JG.call (f := 60) (args := #[.pointer none, P0 tb]) rfl (by rfl) (by decide) (fun w => ?_) (fun w => ?_) ?_
  · obtain ⟨fn, h1, h2, h3⟩ : HasBody 60 := ⟨_, Try.func60, by kernel_rfl, by kernel_rfl⟩
    have h4 : ¬ fn.name = "runtime.NumGoroutine" := by simpa using h2
    have h5 : ¬ fn.body = none := by intro e; rw [e] at h3; cases h3
    simp [go_sem, execOp, Act.eval, resolve, Deferred.ofValue, invoke, callFunc, h1, h4, h5]
  · obtain ⟨fn, h1, h2, h3⟩ : HasBody 60 := ⟨_, Try.func60, by kernel_rfl, by kernel_rfl⟩
    have h4 : ¬ fn.name = "runtime.NumGoroutine" := by simpa using h2
    have h5 : ¬ fn.body = none := by intro e; rw [e] at h3; cases h3
    simp [go_sem, execOp, Act.eval, resolve, Deferred.ofValue, invoke, callFunc, h1, h4, h5]
  refine recvN_J noPipe_nil ?_
  rw [Frame.finish_at]
  walk_nrm
  repeat first
    | refine JG.seq ?_
    | refine JG.skip ?_
    | refine JG.inBlock ?_
    | refine JG.block ?_
    | refine JG.done ?_
    | refine JG.label ?_
    | refine JG.condT rfl ?_
    | refine JG.condF rfl ?_
    | (refine JG.region ?_; simp only [List.size_toArray, List.length_cons, List.length_nil, Nat.reduceAdd, Nat.zero_add, List.range, List.range.loop])
    | (refine JG.unwanted rfl (by rfl) ?_; try walk_nrm)
    | (refine JG.op (F := F0) stands0 (fun h => by cases h) rfl rfl (by rfl) (by decide) (fun K E hK hE τ d => ?_); go_simp; refine hK _ _ (JG.tap ?_); clear hK hE K E τ d; try walk_nrm)
    | (refine JG.op (F := F0) stands0 (fun h => by cases h) rfl rfl (by rfl) (by decide) (fun K E hK hE τ d => ?_); have hfact := (under_cell _ τ d _).trans (hg); go_simp; refine hK _ _ (JG.tap ?_); clear hfact hK hE K E τ d; try walk_nrm)
    | (refine JG.op (F := F0) stands0 (fun h => by cases h) rfl rfl (by rfl) (by decide) (fun K E hK hE τ d => ?_); have hfact := (under_cell _ τ d _).trans (hv); go_simp; refine hK _ _ (JG.tap ?_); clear hfact hK hE K E τ d; try walk_nrm)
  refine JG.call (f := 63) (args := #[.pointer none, P0 tb]) rfl (by rfl) (by decide) (fun w => ?_) (fun w => ?_) ?_
  · obtain ⟨fn, h1, h2, h3⟩ : HasBody 63 := ⟨_, Try.func63, by kernel_rfl, by kernel_rfl⟩
    have h4 : ¬ fn.name = "runtime.NumGoroutine" := by simpa using h2
    have h5 : ¬ fn.body = none := by intro e; rw [e] at h3; cases h3
    simp [go_sem, execOp, Act.eval, resolve, Deferred.ofValue, invoke, callFunc, h1, h4, h5]
  · obtain ⟨fn, h1, h2, h3⟩ : HasBody 63 := ⟨_, Try.func63, by kernel_rfl, by kernel_rfl⟩
    have h4 : ¬ fn.name = "runtime.NumGoroutine" := by simpa using h2
    have h5 : ¬ fn.body = none := by intro e; rw [e] at h3; cases h3
    simp [go_sem, execOp, Act.eval, resolve, Deferred.ofValue, invoke, callFunc, h1, h4, h5]
  refine tryRecvN_J noPipe_nil ?_
  rw [Frame.finish_at]
  walk_nrm
  repeat first
    | refine JG.seq ?_
    | refine JG.skip ?_
    | refine JG.inBlock ?_
    | refine JG.block ?_
    | refine JG.done ?_
    | refine JG.label ?_
    | refine JG.condT rfl ?_
    | refine JG.condF rfl ?_
    | (refine JG.region ?_; simp only [List.size_toArray, List.length_cons, List.length_nil, Nat.reduceAdd, Nat.zero_add, List.range, List.range.loop])
    | (refine JG.unwanted rfl (by rfl) ?_; try walk_nrm)
    | (refine JG.op (F := F0) stands0 (fun h => by cases h) rfl rfl (by rfl) (by decide) (fun K E hK hE τ d => ?_); go_simp; refine hK _ _ (JG.tap ?_); clear hK hE K E τ d; try walk_nrm)
    | (refine JG.op (F := F0) stands0 (fun h => by cases h) rfl rfl (by rfl) (by decide) (fun K E hK hE τ d => ?_); have hfact := (under_cell _ τ d _).trans (hg); go_simp; refine hK _ _ (JG.tap ?_); clear hfact hK hE K E τ d; try walk_nrm)
    | (refine JG.op (F := F0) stands0 (fun h => by cases h) rfl rfl (by rfl) (by decide) (fun K E hK hE τ d => ?_); have hfact := (under_cell _ τ d _).trans (hv); go_simp; refine hK _ _ (JG.tap ?_); clear hfact hK hE K E τ d; try walk_nrm)
  refine JG.call (f := 64) (args := #[.pointer none, P0 tb, .int .i64 v]) rfl (by rfl) (by decide) (fun w => ?_) (fun w => ?_) ?_
  · obtain ⟨fn, h1, h2, h3⟩ : HasBody 64 := ⟨_, Try.func64, by kernel_rfl, by kernel_rfl⟩
    have h4 : ¬ fn.name = "runtime.NumGoroutine" := by simpa using h2
    have h5 : ¬ fn.body = none := by intro e; rw [e] at h3; cases h3
    simp [go_sem, execOp, Act.eval, resolve, Deferred.ofValue, invoke, callFunc, h1, h4, h5]
  · obtain ⟨fn, h1, h2, h3⟩ : HasBody 64 := ⟨_, Try.func64, by kernel_rfl, by kernel_rfl⟩
    have h4 : ¬ fn.name = "runtime.NumGoroutine" := by simpa using h2
    have h5 : ¬ fn.body = none := by intro e; rw [e] at h3; cases h3
    simp [go_sem, execOp, Act.eval, resolve, Deferred.ofValue, invoke, callFunc, h1, h4, h5]
  refine sendN_J noPipe_nil ?_
  rw [Frame.finish_at]
  walk_nrm
  repeat first
    | refine JG.seq ?_
    | refine JG.skip ?_
    | refine JG.inBlock ?_
    | refine JG.block ?_
    | refine JG.done ?_
    | refine JG.label ?_
    | refine JG.condT rfl ?_
    | refine JG.condF rfl ?_
    | (refine JG.region ?_; simp only [List.size_toArray, List.length_cons, List.length_nil, Nat.reduceAdd, Nat.zero_add, List.range, List.range.loop])
    | (refine JG.unwanted rfl (by rfl) ?_; try walk_nrm)
    | (refine JG.op (F := F0) stands0 (fun h => by cases h) rfl rfl (by rfl) (by decide) (fun K E hK hE τ d => ?_); go_simp; refine hK _ _ (JG.tap ?_); clear hK hE K E τ d; try walk_nrm)
    | (refine JG.op (F := F0) stands0 (fun h => by cases h) rfl rfl (by rfl) (by decide) (fun K E hK hE τ d => ?_); have hfact := (under_cell _ τ d _).trans (hg); go_simp; refine hK _ _ (JG.tap ?_); clear hfact hK hE K E τ d; try walk_nrm)
    | (refine JG.op (F := F0) stands0 (fun h => by cases h) rfl rfl (by rfl) (by decide) (fun K E hK hE τ d => ?_); have hfact := (under_cell _ τ d _).trans (hv); go_simp; refine hK _ _ (JG.tap ?_); clear hfact hK hE K E τ d; try walk_nrm)
  refine JG.call (f := 59) (args := #[.pointer none, P0 tb, .int .i64 v]) rfl (by rfl) (by decide) (fun w => ?_) (fun w => ?_) ?_
  · obtain ⟨fn, h1, h2, h3⟩ : HasBody 59 := ⟨_, Try.func59, by kernel_rfl, by kernel_rfl⟩
    have h4 : ¬ fn.name = "runtime.NumGoroutine" := by simpa using h2
    have h5 : ¬ fn.body = none := by intro e; rw [e] at h3; cases h3
    simp [go_sem, execOp, Act.eval, resolve, Deferred.ofValue, invoke, callFunc, h1, h4, h5]
  · obtain ⟨fn, h1, h2, h3⟩ : HasBody 59 := ⟨_, Try.func59, by kernel_rfl, by kernel_rfl⟩
    have h4 : ¬ fn.name = "runtime.NumGoroutine" := by simpa using h2
    have h5 : ¬ fn.body = none := by intro e; rw [e] at h3; cases h3
    simp [go_sem, execOp, Act.eval, resolve, Deferred.ofValue, invoke, callFunc, h1, h4, h5]
  refine trySendN_J noPipe_nil ?_
  rw [Frame.finish_at]
  walk_nrm
  repeat first
    | refine JG.seq ?_
    | refine JG.skip ?_
    | refine JG.inBlock ?_
    | refine JG.block ?_
    | refine JG.done ?_
    | refine JG.label ?_
    | refine JG.condT rfl ?_
    | refine JG.condF rfl ?_
    | (refine JG.region ?_; simp only [List.size_toArray, List.length_cons, List.length_nil, Nat.reduceAdd, Nat.zero_add, List.range, List.range.loop])
    | (refine JG.unwanted rfl (by rfl) ?_; try walk_nrm)
    | (refine JG.op (F := F0) stands0 (fun h => by cases h) rfl rfl (by rfl) (by decide) (fun K E hK hE τ d => ?_); go_simp; refine hK _ _ (JG.tap ?_); clear hK hE K E τ d; try walk_nrm)
    | (refine JG.op (F := F0) stands0 (fun h => by cases h) rfl rfl (by rfl) (by decide) (fun K E hK hE τ d => ?_); have hfact := (under_cell _ τ d _).trans (hg); go_simp; refine hK _ _ (JG.tap ?_); clear hfact hK hE K E τ d; try walk_nrm)
    | (refine JG.op (F := F0) stands0 (fun h => by cases h) rfl rfl (by rfl) (by decide) (fun K E hK hE τ d => ?_); have hfact := (under_cell _ τ d _).trans (hv); go_simp; refine hK _ _ (JG.tap ?_); clear hfact hK hE K E τ d; try walk_nrm)
  refine JG.call (f := 61) (args := #[.pointer none, P0 tb]) rfl (by rfl) (by decide) (fun w => ?_) (fun w => ?_) ?_
  · obtain ⟨fn, h1, h2, h3⟩ : HasBody 61 := ⟨_, Try.func61, by kernel_rfl, by kernel_rfl⟩
    have h4 : ¬ fn.name = "runtime.NumGoroutine" := by simpa using h2
    have h5 : ¬ fn.body = none := by intro e; rw [e] at h3; cases h3
    simp [go_sem, execOp, Act.eval, resolve, Deferred.ofValue, invoke, callFunc, h1, h4, h5]
  · obtain ⟨fn, h1, h2, h3⟩ : HasBody 61 := ⟨_, Try.func61, by kernel_rfl, by kernel_rfl⟩
    have h4 : ¬ fn.name = "runtime.NumGoroutine" := by simpa using h2
    have h5 : ¬ fn.body = none := by intro e; rw [e] at h3; cases h3
    simp [go_sem, execOp, Act.eval, resolve, Deferred.ofValue, invoke, callFunc, h1, h4, h5]
  refine closeN_J noPipe_nil ?_
  rw [Frame.finish_at]
  walk_nrm
  repeat first
    | refine JG.seq ?_
    | refine JG.skip ?_
    | refine JG.inBlock ?_
    | refine JG.block ?_
    | refine JG.done ?_
    | refine JG.label ?_
    | refine JG.condT rfl ?_
    | refine JG.condF rfl ?_
    | (refine JG.region ?_; simp only [List.size_toArray, List.length_cons, List.length_nil, Nat.reduceAdd, Nat.zero_add, List.range, List.range.loop])
    | (refine JG.unwanted rfl (by rfl) ?_; try walk_nrm)
    | (refine JG.op (F := F0) stands0 (fun h => by cases h) rfl rfl (by rfl) (by decide) (fun K E hK hE τ d => ?_); go_simp; refine hK _ _ (JG.tap ?_); clear hK hE K E τ d; try walk_nrm)
    | (refine JG.op (F := F0) stands0 (fun h => by cases h) rfl rfl (by rfl) (by decide) (fun K E hK hE τ d => ?_); have hfact := (under_cell _ τ d _).trans (hg); go_simp; refine hK _ _ (JG.tap ?_); clear hfact hK hE K E τ d; try walk_nrm)
    | (refine JG.op (F := F0) stands0 (fun h => by cases h) rfl rfl (by rfl) (by decide) (fun K E hK hE τ d => ?_); have hfact := (under_cell _ τ d _).trans (hv); go_simp; refine hK _ _ (JG.tap ?_); clear hfact hK hE K E τ d; try walk_nrm)
  refine JG.call (f := 58) (args := #[.pointer none]) rfl (by rfl) (by decide) (fun w => ?_) (fun w => ?_) ?_
  · obtain ⟨fn, h1, h2, h3⟩ : HasBody 58 := ⟨_, Try.func58, by kernel_rfl, by kernel_rfl⟩
    have h4 : ¬ fn.name = "runtime.NumGoroutine" := by simpa using h2
    have h5 : ¬ fn.body = none := by intro e; rw [e] at h3; cases h3
    simp [go_sem, execOp, Act.eval, resolve, Deferred.ofValue, invoke, callFunc, h1, h4, h5]
  · obtain ⟨fn, h1, h2, h3⟩ : HasBody 58 := ⟨_, Try.func58, by kernel_rfl, by kernel_rfl⟩
    have h4 : ¬ fn.name = "runtime.NumGoroutine" := by simpa using h2
    have h5 : ¬ fn.body = none := by intro e; rw [e] at h3; cases h3
    simp [go_sem, execOp, Act.eval, resolve, Deferred.ofValue, invoke, callFunc, h1, h4, h5]
  refine bellN_J noPipe_nil ?_
  rw [Frame.finish_at]
  walk_nrm
  repeat first
    | refine JG.seq ?_
    | refine JG.skip ?_
    | refine JG.inBlock ?_
    | refine JG.block ?_
    | refine JG.done ?_
    | refine JG.label ?_
    | refine JG.condT rfl ?_
    | refine JG.condF rfl ?_
    | (refine JG.region ?_; simp only [List.size_toArray, List.length_cons, List.length_nil, Nat.reduceAdd, Nat.zero_add, List.range, List.range.loop])
    | (refine JG.unwanted rfl (by rfl) ?_; try walk_nrm)
    | (refine JG.op (F := F0) stands0 (fun h => by cases h) rfl rfl (by rfl) (by decide) (fun K E hK hE τ d => ?_); go_simp; refine hK _ _ (JG.tap ?_); clear hK hE K E τ d; try walk_nrm)
    | (refine JG.op (F := F0) stands0 (fun h => by cases h) rfl rfl (by rfl) (by decide) (fun K E hK hE τ d => ?_); have hfact := (under_cell _ τ d _).trans (hg); go_simp; refine hK _ _ (JG.tap ?_); clear hfact hK hE K E τ d; try walk_nrm)
    | (refine JG.op (F := F0) stands0 (fun h => by cases h) rfl rfl (by rfl) (by decide) (fun K E hK hE τ d => ?_); have hfact := (under_cell _ τ d _).trans (hv); go_simp; refine hK _ _ (JG.tap ?_); clear hfact hK hE K E τ d; try walk_nrm)
  refine JG.op (F := F0) stands0 (fun h => by cases h) rfl rfl (by rfl) (by decide) (fun K E hK hE τ d => ?_)
  obtain ⟨hfact, hfact2⟩ := And.intro hg hf
  replace hfact := (under_cell _ τ d _).trans hfact
  replace hfact2 := (under_frozen _ τ d _).trans hfact2
  go_simp
  refine hK _ _ ?_
  rw [under_setCell]
  refine JG.tap ?_
  clear hfact hfact2 hK hE K E τ d
  try walk_nrm
  rw [setCell_self hg]
  repeat first
    | refine JG.seq ?_
    | refine JG.skip ?_
    | refine JG.inBlock ?_
    | refine JG.block ?_
    | refine JG.done ?_
    | refine JG.label ?_
    | refine JG.condT rfl ?_
    | refine JG.condF rfl ?_
    | (refine JG.region ?_; simp only [List.size_toArray, List.length_cons, List.length_nil, Nat.reduceAdd, Nat.zero_add, List.range, List.range.loop])
    | (refine JG.unwanted rfl (by rfl) ?_; try walk_nrm)
    | (refine JG.op (F := F0) stands0 (fun h => by cases h) rfl rfl (by rfl) (by decide) (fun K E hK hE τ d => ?_); go_simp; refine hK _ _ (JG.tap ?_); clear hK hE K E τ d; try walk_nrm)
  refine JG.op (F := F0) stands0 (fun h => by cases h) rfl rfl (by rfl) (by decide) (fun K E hK hE τ d => ?_)
  go_simp
  refine hK _ _ (JG.tap (x := x.alloc (.cells #[.pointer none, .pointer none, .pointer none, .slice none 0 0] 147)) ?_)
  simp only [under_size]
  clear hK hE K E τ d
  have s1 : OldStand x (x.alloc (.cells #[.pointer none, .pointer none, .pointer none, .slice none 0 0] 147)) := (OldStand.refl x).alloc _
  have r0 : (x.alloc (.cells #[.pointer none, .pointer none, .pointer none, .slice none 0 0] 147)).cell? (th x.heap.size 0) = some (.pointer none) := cell_obj (heap_alloc_new x _) 0
  generalize x.alloc (.cells #[.pointer none, .pointer none, .pointer none, .slice none 0 0] 147) = y at s1 r0 ⊢
  have hg1 := s1.cell hg
  have hf1 := (s1.frozen (p := th gb 0) (cell_lt hg)).trans hf
  have hv1 := s1.cell hv
  generalize hq : x.heap.size = q at r0 ⊢
  clear hq
  repeat first
    | refine JG.seq ?_
    | refine JG.skip ?_
    | refine JG.inBlock ?_
    | refine JG.block ?_
    | refine JG.done ?_
    | refine JG.label ?_
    | refine JG.condT rfl ?_
    | refine JG.condF rfl ?_
    | (refine JG.region ?_; simp only [List.size_toArray, List.length_cons, List.length_nil, Nat.reduceAdd, Nat.zero_add, List.range, List.range.loop])
    | (refine JG.unwanted rfl (by rfl) ?_; try walk_nrm)
    | (refine JG.op (F := F0) stands0 (fun h => by cases h) rfl rfl (by rfl) (by decide) (fun K E hK hE τ d => ?_); go_simp; refine hK _ _ (JG.tap ?_); clear hK hE K E τ d; try walk_nrm)
  refine JG.inLoop ?_
  repeat first
    | refine JG.seq ?_
    | refine JG.skip ?_
    | refine JG.inBlock ?_
    | refine JG.block ?_
    | refine JG.done ?_
    | refine JG.label ?_
    | refine JG.condT rfl ?_
    | refine JG.condF rfl ?_
    | (refine JG.region ?_; simp only [List.size_toArray, List.length_cons, List.length_nil, Nat.reduceAdd, Nat.zero_add, List.range, List.range.loop])
    | (refine JG.unwanted rfl (by rfl) ?_; try walk_nrm)
    | (refine JG.op (F := F0) stands0 (fun h => by cases h) rfl rfl (by rfl) (by decide) (fun K E hK hE τ d => ?_); go_simp; refine hK _ _ (JG.tap ?_); clear hK hE K E τ d; try walk_nrm)
  refine JG.call (f := 60) (args := #[P0 q, P0 tb]) rfl (by rfl) (by decide) (fun w => ?_) (fun w => ?_) ?_
  · obtain ⟨fn, h1, h2, h3⟩ : HasBody 60 := ⟨_, Try.func60, by kernel_rfl, by kernel_rfl⟩
    have h4 : ¬ fn.name = "runtime.NumGoroutine" := by simpa using h2
    have h5 : ¬ fn.body = none := by intro e; rw [e] at h3; cases h3
    simp [go_sem, execOp, Act.eval, resolve, Deferred.ofValue, invoke, callFunc, h1, h4, h5]
  · obtain ⟨fn, h1, h2, h3⟩ : HasBody 60 := ⟨_, Try.func60, by kernel_rfl, by kernel_rfl⟩
    have h4 : ¬ fn.name = "runtime.NumGoroutine" := by simpa using h2
    have h5 : ¬ fn.body = none := by intro e; rw [e] at h3; cases h3
    simp [go_sem, execOp, Act.eval, resolve, Deferred.ofValue, invoke, callFunc, h1, h4, h5]
  refine recvN_J (noPipe_bare r0) ?_
  rw [Frame.finish_at]
  walk_nrm
  repeat first
    | refine JG.seq ?_
    | refine JG.skip ?_
    | refine JG.inBlock ?_
    | refine JG.block ?_
    | refine JG.done ?_
    | refine JG.label ?_
    | refine JG.condT rfl ?_
    | refine JG.condF rfl ?_
    | (refine JG.region ?_; simp only [List.size_toArray, List.length_cons, List.length_nil, Nat.reduceAdd, Nat.zero_add, List.range, List.range.loop])
    | (refine JG.unwanted rfl (by rfl) ?_; try walk_nrm)
    | (refine JG.op (F := F0) stands0 (fun h => by cases h) rfl rfl (by rfl) (by decide) (fun K E hK hE τ d => ?_); go_simp; refine hK _ _ (JG.tap ?_); clear hK hE K E τ d; try walk_nrm)
    | (refine JG.op (F := F0) stands0 (fun h => by cases h) rfl rfl (by rfl) (by decide) (fun K E hK hE τ d => ?_); have hfact := (under_cell _ τ d _).trans (hg1); go_simp; refine hK _ _ (JG.tap ?_); clear hfact hK hE K E τ d; try walk_nrm)
    | (refine JG.op (F := F0) stands0 (fun h => by cases h) rfl rfl (by rfl) (by decide) (fun K E hK hE τ d => ?_); have hfact := (under_cell _ τ d _).trans (hv1); go_simp; refine hK _ _ (JG.tap ?_); clear hfact hK hE K E τ d; try walk_nrm)
  refine JG.call (f := 63) (args := #[P0 q, P0 tb]) rfl (by rfl) (by decide) (fun w => ?_) (fun w => ?_) ?_
  · obtain ⟨fn, h1, h2, h3⟩ : HasBody 63 := ⟨_, Try.func63, by kernel_rfl, by kernel_rfl⟩
    have h4 : ¬ fn.name = "runtime.NumGoroutine" := by simpa using h2
    have h5 : ¬ fn.body = none := by intro e; rw [e] at h3; cases h3
    simp [go_sem, execOp, Act.eval, resolve, Deferred.ofValue, invoke, callFunc, h1, h4, h5]
  · obtain ⟨fn, h1, h2, h3⟩ : HasBody 63 := ⟨_, Try.func63, by kernel_rfl, by kernel_rfl⟩
    have h4 : ¬ fn.name = "runtime.NumGoroutine" := by simpa using h2
    have h5 : ¬ fn.body = none := by intro e; rw [e] at h3; cases h3
    simp [go_sem, execOp, Act.eval, resolve, Deferred.ofValue, invoke, callFunc, h1, h4, h5]
  refine tryRecvN_J (noPipe_bare r0) ?_
  rw [Frame.finish_at]
  walk_nrm
  repeat first
    | refine JG.seq ?_
    | refine JG.skip ?_
    | refine JG.inBlock ?_
    | refine JG.block ?_
    | refine JG.done ?_
    | refine JG.label ?_
    | refine JG.condT rfl ?_
    | refine JG.condF rfl ?_
    | (refine JG.region ?_; simp only [List.size_toArray, List.length_cons, List.length_nil, Nat.reduceAdd, Nat.zero_add, List.range, List.range.loop])
    | (refine JG.unwanted rfl (by rfl) ?_; try walk_nrm)
    | (refine JG.op (F := F0) stands0 (fun h => by cases h) rfl rfl (by rfl) (by decide) (fun K E hK hE τ d => ?_); go_simp; refine hK _ _ (JG.tap ?_); clear hK hE K E τ d; try walk_nrm)
    | (refine JG.op (F := F0) stands0 (fun h => by cases h) rfl rfl (by rfl) (by decide) (fun K E hK hE τ d => ?_); have hfact := (under_cell _ τ d _).trans (hg1); go_simp; refine hK _ _ (JG.tap ?_); clear hfact hK hE K E τ d; try walk_nrm)
    | (refine JG.op (F := F0) stands0 (fun h => by cases h) rfl rfl (by rfl) (by decide) (fun K E hK hE τ d => ?_); have hfact := (under_cell _ τ d _).trans (hv1); go_simp; refine hK _ _ (JG.tap ?_); clear hfact hK hE K E τ d; try walk_nrm)
  refine JG.call (f := 64) (args := #[P0 q, P0 tb, .int .i64 v]) rfl (by rfl) (by decide) (fun w => ?_) (fun w => ?_) ?_
  · obtain ⟨fn, h1, h2, h3⟩ : HasBody 64 := ⟨_, Try.func64, by kernel_rfl, by kernel_rfl⟩
    have h4 : ¬ fn.name = "runtime.NumGoroutine" := by simpa using h2
    have h5 : ¬ fn.body = none := by intro e; rw [e] at h3; cases h3
    simp [go_sem, execOp, Act.eval, resolve, Deferred.ofValue, invoke, callFunc, h1, h4, h5]
  · obtain ⟨fn, h1, h2, h3⟩ : HasBody 64 := ⟨_, Try.func64, by kernel_rfl, by kernel_rfl⟩
    have h4 : ¬ fn.name = "runtime.NumGoroutine" := by simpa using h2
    have h5 : ¬ fn.body = none := by intro e; rw [e] at h3; cases h3
    simp [go_sem, execOp, Act.eval, resolve, Deferred.ofValue, invoke, callFunc, h1, h4, h5]
  refine sendN_J (noPipe_bare r0) ?_
  rw [Frame.finish_at]
  walk_nrm
  repeat first
    | refine JG.seq ?_
    | refine JG.skip ?_
    | refine JG.inBlock ?_
    | refine JG.block ?_
    | refine JG.done ?_
    | refine JG.label ?_
    | refine JG.condT rfl ?_
    | refine JG.condF rfl ?_
    | (refine JG.region ?_; simp only [List.size_toArray, List.length_cons, List.length_nil, Nat.reduceAdd, Nat.zero_add, List.range, List.range.loop])
    | (refine JG.unwanted rfl (by rfl) ?_; try walk_nrm)
    | (refine JG.op (F := F0) stands0 (fun h => by cases h) rfl rfl (by rfl) (by decide) (fun K E hK hE τ d => ?_); go_simp; refine hK _ _ (JG.tap ?_); clear hK hE K E τ d; try walk_nrm)
    | (refine JG.op (F := F0) stands0 (fun h => by cases h) rfl rfl (by rfl) (by decide) (fun K E hK hE τ d => ?_); have hfact := (under_cell _ τ d _).trans (hg1); go_simp; refine hK _ _ (JG.tap ?_); clear hfact hK hE K E τ d; try walk_nrm)
    | (refine JG.op (F := F0) stands0 (fun h => by cases h) rfl rfl (by rfl) (by decide) (fun K E hK hE τ d => ?_); have hfact := (under_cell _ τ d _).trans (hv1); go_simp; refine hK _ _ (JG.tap ?_); clear hfact hK hE K E τ d; try walk_nrm)
  refine JG.call (f := 59) (args := #[P0 q, P0 tb, .int .i64 v]) rfl (by rfl) (by decide) (fun w => ?_) (fun w => ?_) ?_
  · obtain ⟨fn, h1, h2, h3⟩ : HasBody 59 := ⟨_, Try.func59, by kernel_rfl, by kernel_rfl⟩
    have h4 : ¬ fn.name = "runtime.NumGoroutine" := by simpa using h2
    have h5 : ¬ fn.body = none := by intro e; rw [e] at h3; cases h3
    simp [go_sem, execOp, Act.eval, resolve, Deferred.ofValue, invoke, callFunc, h1, h4, h5]
  · obtain ⟨fn, h1, h2, h3⟩ : HasBody 59 := ⟨_, Try.func59, by kernel_rfl, by kernel_rfl⟩
    have h4 : ¬ fn.name = "runtime.NumGoroutine" := by simpa using h2
    have h5 : ¬ fn.body = none := by intro e; rw [e] at h3; cases h3
    simp [go_sem, execOp, Act.eval, resolve, Deferred.ofValue, invoke, callFunc, h1, h4, h5]
  refine trySendN_J (noPipe_bare r0) ?_
  rw [Frame.finish_at]
  walk_nrm
  repeat first
    | refine JG.seq ?_
    | refine JG.skip ?_
    | refine JG.inBlock ?_
    | refine JG.block ?_
    | refine JG.done ?_
    | refine JG.label ?_
    | refine JG.condT rfl ?_
    | refine JG.condF rfl ?_
    | (refine JG.region ?_; simp only [List.size_toArray, List.length_cons, List.length_nil, Nat.reduceAdd, Nat.zero_add, List.range, List.range.loop])
    | (refine JG.unwanted rfl (by rfl) ?_; try walk_nrm)
    | (refine JG.op (F := F0) stands0 (fun h => by cases h) rfl rfl (by rfl) (by decide) (fun K E hK hE τ d => ?_); go_simp; refine hK _ _ (JG.tap ?_); clear hK hE K E τ d; try walk_nrm)
    | (refine JG.op (F := F0) stands0 (fun h => by cases h) rfl rfl (by rfl) (by decide) (fun K E hK hE τ d => ?_); have hfact := (under_cell _ τ d _).trans (hg1); go_simp; refine hK _ _ (JG.tap ?_); clear hfact hK hE K E τ d; try walk_nrm)
    | (refine JG.op (F := F0) stands0 (fun h => by cases h) rfl rfl (by rfl) (by decide) (fun K E hK hE τ d => ?_); have hfact := (under_cell _ τ d _).trans (hv1); go_simp; refine hK _ _ (JG.tap ?_); clear hfact hK hE K E τ d; try walk_nrm)
  refine JG.call (f := 61) (args := #[P0 q, P0 tb]) rfl (by rfl) (by decide) (fun w => ?_) (fun w => ?_) ?_
  · obtain ⟨fn, h1, h2, h3⟩ : HasBody 61 := ⟨_, Try.func61, by kernel_rfl, by kernel_rfl⟩
    have h4 : ¬ fn.name = "runtime.NumGoroutine" := by simpa using h2
    have h5 : ¬ fn.body = none := by intro e; rw [e] at h3; cases h3
    simp [go_sem, execOp, Act.eval, resolve, Deferred.ofValue, invoke, callFunc, h1, h4, h5]
  · obtain ⟨fn, h1, h2, h3⟩ : HasBody 61 := ⟨_, Try.func61, by kernel_rfl, by kernel_rfl⟩
    have h4 : ¬ fn.name = "runtime.NumGoroutine" := by simpa using h2
    have h5 : ¬ fn.body = none := by intro e; rw [e] at h3; cases h3
    simp [go_sem, execOp, Act.eval, resolve, Deferred.ofValue, invoke, callFunc, h1, h4, h5]
  refine closeN_J (noPipe_bare r0) ?_
  rw [Frame.finish_at]
  walk_nrm
  repeat first
    | refine JG.seq ?_
    | refine JG.skip ?_
    | refine JG.inBlock ?_
    | refine JG.block ?_
    | refine JG.done ?_
    | refine JG.label ?_
    | refine JG.condT rfl ?_
    | refine JG.condF rfl ?_
    | (refine JG.region ?_; simp only [List.size_toArray, List.length_cons, List.length_nil, Nat.reduceAdd, Nat.zero_add, List.range, List.range.loop])
    | (refine JG.unwanted rfl (by rfl) ?_; try walk_nrm)
    | (refine JG.op (F := F0) stands0 (fun h => by cases h) rfl rfl (by rfl) (by decide) (fun K E hK hE τ d => ?_); go_simp; refine hK _ _ (JG.tap ?_); clear hK hE K E τ d; try walk_nrm)
    | (refine JG.op (F := F0) stands0 (fun h => by cases h) rfl rfl (by rfl) (by decide) (fun K E hK hE τ d => ?_); have hfact := (under_cell _ τ d _).trans (hg1); go_simp; refine hK _ _ (JG.tap ?_); clear hfact hK hE K E τ d; try walk_nrm)
    | (refine JG.op (F := F0) stands0 (fun h => by cases h) rfl rfl (by rfl) (by decide) (fun K E hK hE τ d => ?_); have hfact := (under_cell _ τ d _).trans (hv1); go_simp; refine hK _ _ (JG.tap ?_); clear hfact hK hE K E τ d; try walk_nrm)
  refine JG.call (f := 58) (args := #[P0 q]) rfl (by rfl) (by decide) (fun w => ?_) (fun w => ?_) ?_
  · obtain ⟨fn, h1, h2, h3⟩ : HasBody 58 := ⟨_, Try.func58, by kernel_rfl, by kernel_rfl⟩
    have h4 : ¬ fn.name = "runtime.NumGoroutine" := by simpa using h2
    have h5 : ¬ fn.body = none := by intro e; rw [e] at h3; cases h3
    simp [go_sem, execOp, Act.eval, resolve, Deferred.ofValue, invoke, callFunc, h1, h4, h5]
  · obtain ⟨fn, h1, h2, h3⟩ : HasBody 58 := ⟨_, Try.func58, by kernel_rfl, by kernel_rfl⟩
    have h4 : ¬ fn.name = "runtime.NumGoroutine" := by simpa using h2
    have h5 : ¬ fn.body = none := by intro e; rw [e] at h3; cases h3
    simp [go_sem, execOp, Act.eval, resolve, Deferred.ofValue, invoke, callFunc, h1, h4, h5]
  refine bellN_J (noPipe_bare r0) ?_
  rw [Frame.finish_at]
  walk_nrm
  repeat first
    | refine JG.seq ?_
    | refine JG.skip ?_
    | refine JG.inBlock ?_
    | refine JG.block ?_
    | refine JG.done ?_
    | refine JG.label ?_
    | refine JG.condT rfl ?_
    | refine JG.condF rfl ?_
    | (refine JG.region ?_; simp only [List.size_toArray, List.length_cons, List.length_nil, Nat.reduceAdd, Nat.zero_add, List.range, List.range.loop])
    | (refine JG.unwanted rfl (by rfl) ?_; try walk_nrm)
    | (refine JG.op (F := F0) stands0 (fun h => by cases h) rfl rfl (by rfl) (by decide) (fun K E hK hE τ d => ?_); go_simp; refine hK _ _ (JG.tap ?_); clear hK hE K E τ d; try walk_nrm)
    | (refine JG.op (F := F0) stands0 (fun h => by cases h) rfl rfl (by rfl) (by decide) (fun K E hK hE τ d => ?_); have hfact := (under_cell _ τ d _).trans (hg1); go_simp; refine hK _ _ (JG.tap ?_); clear hfact hK hE K E τ d; try walk_nrm)
    | (refine JG.op (F := F0) stands0 (fun h => by cases h) rfl rfl (by rfl) (by decide) (fun K E hK hE τ d => ?_); have hfact := (under_cell _ τ d _).trans (hv1); go_simp; refine hK _ _ (JG.tap ?_); clear hfact hK hE K E τ d; try walk_nrm)
  refine JG.op (F := F0) stands0 (fun h => by cases h) rfl rfl (by rfl) (by decide) (fun K E hK hE τ d => ?_)
  obtain ⟨hfact, hfact2⟩ := And.intro hg1 hf1
  replace hfact := (under_cell _ τ d _).trans hfact
  replace hfact2 := (under_frozen _ τ d _).trans hfact2
  go_simp
  refine hK _ _ ?_
  rw [under_setCell]
  refine JG.tap ?_
  clear hfact hfact2 hK hE K E τ d
  try walk_nrm
  rw [setCell_self hg1]
  repeat first
    | refine JG.seq ?_
    | refine JG.skip ?_
    | refine JG.inBlock ?_
    | refine JG.block ?_
    | refine JG.done ?_
    | refine JG.label ?_
    | refine JG.condT rfl ?_
    | refine JG.condF rfl ?_
    | (refine JG.region ?_; simp only [List.size_toArray, List.length_cons, List.length_nil, Nat.reduceAdd, Nat.zero_add, List.range, List.range.loop])
    | (refine JG.unwanted rfl (by rfl) ?_; try walk_nrm)
    | (refine JG.op (F := F0) stands0 (fun h => by cases h) rfl rfl (by rfl) (by decide) (fun K E hK hE τ d => ?_); go_simp; refine hK _ _ (JG.tap ?_); clear hK hE K E τ d; try walk_nrm)
  refine JG.op (F := F0) stands0 (fun h => by cases h) rfl rfl (by rfl) (by decide) (fun K E hK hE τ d => ?_)
  go_simp
  refine hK _ _ (JG.tap (x := y.alloc (.cells #[.pointer none, .pointer none, .pointer none, .slice none 0 0] 147)) ?_)
  simp only [under_size]
  clear hK hE K E τ d
  have s2 := s1.alloc (.cells #[.pointer none, .pointer none, .pointer none, .slice none 0 0] 147)
  generalize y.alloc (.cells #[.pointer none, .pointer none, .pointer none, .slice none 0 0] 147) = z at s2 ⊢
  repeat first
    | refine JG.seq ?_
    | refine JG.skip ?_
    | refine JG.inBlock ?_
    | refine JG.block ?_
    | refine JG.done ?_
    | refine JG.label ?_
    | refine JG.condT rfl ?_
    | refine JG.condF rfl ?_
    | (refine JG.region ?_; simp only [List.size_toArray, List.length_cons, List.length_nil, Nat.reduceAdd, Nat.zero_add, List.range, List.range.loop])
    | (refine JG.unwanted rfl (by rfl) ?_; try walk_nrm)
    | (refine JG.op (F := F0) stands0 (fun h => by cases h) rfl rfl (by rfl) (by decide) (fun K E hK hE τ d => ?_); go_simp; refine hK _ _ (JG.tap ?_); clear hK hE K E τ d; try walk_nrm)
  refine JG.inLoop ?_
  repeat first
    | refine JG.seq ?_
    | refine JG.skip ?_
    | refine JG.inBlock ?_
    | refine JG.block ?_
    | refine JG.done ?_
    | refine JG.label ?_
    | refine JG.condT rfl ?_
    | refine JG.condF rfl ?_
    | (refine JG.region ?_; simp only [List.size_toArray, List.length_cons, List.length_nil, Nat.reduceAdd, Nat.zero_add, List.range, List.range.loop])
    | (refine JG.unwanted rfl (by rfl) ?_; try walk_nrm)
    | (refine JG.op (F := F0) stands0 (fun h => by cases h) rfl rfl (by rfl) (by decide) (fun K E hK hE τ d => ?_); go_simp; refine hK _ _ (JG.tap ?_); clear hK hE K E τ d; try walk_nrm)
  refine JG.exit (by rfl) ?_
  repeat first
    | refine JG.seq ?_
    | refine JG.skip ?_
    | refine JG.inBlock ?_
    | refine JG.block ?_
    | refine JG.done ?_
    | refine JG.label ?_
    | refine JG.condT rfl ?_
    | refine JG.condF rfl ?_
    | (refine JG.region ?_; simp only [List.size_toArray, List.length_cons, List.length_nil, Nat.reduceAdd, Nat.zero_add, List.range, List.range.loop])
    | (refine JG.unwanted rfl (by rfl) ?_; try walk_nrm)
    | (refine JG.op (F := F0) stands0 (fun h => by cases h) rfl rfl (by rfl) (by decide) (fun K E hK hE τ d => ?_); go_simp; refine hK _ _ (JG.tap ?_); clear hK hE K E τ d; try walk_nrm)
  refine JG.fin ?_
  exact JG.leave0 rfl rfl Try.func62 (by rfl) (h _ z s2)
theorem pipeMild {N : Nat} {x0 : World} (hN : N ≤ x0.heap.size) (hg : x0.heap[gb]? = some (.cells #[.bool true] 4 (0, 0))) (hv : x0.heap[vb]? = some (.cells #[.int .i64 v] 2 (0, 0))) (gN : gb < N) (vN : vb < N) :
    Mild1 Post N x0 62 #[P0 gb, P0 vb] OldStand where
  body := ⟨_, Try.func62, by kernel_rfl, by kernel_rfl⟩
  keeps := fun y z h => ⟨h.1, fun r _ hr => h.2 r hr⟩
  spec := fun C y cf cs tb rb hy hag htb h1 h2 h => by
    have kg := (hag gb gN).trans hg
    have kv := (hag vb vN).trans hv
    exact pipeBody_J (tb := tb) (cell_obj kg 0) (frozen_obj kg 0) (cell_obj kv 0) h
end
end Go.Proofs.Ytecmobjiepgfjaa
