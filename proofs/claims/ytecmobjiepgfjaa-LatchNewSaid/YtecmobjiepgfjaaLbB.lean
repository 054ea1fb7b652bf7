/- Latches, locks, barriers under J, called by a thread that is nil; and those that are none. -/
import Derived.Test.YtecmobjiepgfjaaLbA
namespace Go.Proofs.Ytecmobjiepgfjaa
open Go.Conc Go.RowKit
open Go.ConcN (upd upd_same upd_ne)
set_option linter.unusedSimpArgs false
set_option linter.unusedVariables false
set_option maxRecDepth 100000
theorem JG.scope {P : Program} {Post : Value → World → Prop} {C : Ctx} {x : World} {b : Frame} {a : Act} {k : List Item} {cs : List Frame} {c : Code} (h : JG P Post C (G (b.at a (.code c :: .inScope c :: k)) cs) x) : JG P Post C (G (b.at a (.code (.scope c) :: k)) cs) x := .ctl rfl (fun _ _ => by simp [G, stepG, stepG.exec, Frame.at]) h
theorem JG.inScope {P : Program} {Post : Value → World → Prop} {C : Ctx} {x : World} {b : Frame} {a : Act} {k : List Item} {cs : List Frame} {c : Code} (h : JG P Post C (G (b.at a k) cs) x) : JG P Post C (G (b.at a (.inScope c :: k)) cs) x := .ctl rfl (fun _ _ => by simp [G, stepG, stepG.exec, Frame.at]) h
section
variable {Post : Value → World → Prop} {C : Ctx} {x : World} {c : Frame} {cs : List Frame} {l s : Nat} {v n k : Int}
theorem latchNew_J (hn : decide (n < 0) = false) (h : ∀ y, OldStand x y → FreeCell y x.heap.size n → y.cell? (th (x.heap.size + 1) 0) = some (P0 x.heap.size) → JG Try.prog Post C (G (c.finish (.tuple #[P0 (x.heap.size + 1), .int .i64 0])) cs) y) :
    JG Try.prog Post C (G (Frame.enter Try.prog 46 #[.int .i64 n] .normal) (c :: cs)) x := by
  refine enterN Try.func46 (by rfl) (by rfl) ?_
  simp only [Try.f46, Option.getD_some]
  walk_nrm
  repeat first
    | refine JG.seq ?_
    | refine JG.skip ?_
    | refine JG.inBlock ?_
    | refine JG.block ?_
    | refine JG.done ?_
    | refine JG.label ?_
    | refine JG.condT rfl ?_
    | refine JG.condF rfl ?_
    | (refine JG.region ?_; simp only [List.size_toArray, List.length_cons, List.length_nil, Nat.reduceAdd, Nat.zero_add, List.range, List.range.loop])
    | (refine JG.unwanted rfl (by rfl) ?_; try walk_nrm)
    | (refine JG.op (F := F0) stands0 (fun h => by cases h) rfl rfl (by rfl) (by decide) (fun K E hK hE τ d => ?_); go_simp; refine hK _ _ (JG.tap ?_); clear hK hE K E τ d; try walk_nrm)
  refine JG.call (f := 14) (args := #[.int .i64 n]) rfl (by rfl) (by decide) (fun w => ?_) (fun w => ?_) ?_
  · obtain ⟨fn, h1, h2, h3⟩ : HasBody 14 := ⟨_, Try.func14, by kernel_rfl, by kernel_rfl⟩
    have h4 : ¬ fn.name = "runtime.NumGoroutine" := by simpa using h2
    have h5 : ¬ fn.body = none := by intro e; rw [e] at h3; cases h3
    simp [go_sem, execOp, Act.eval, resolve, Deferred.ofValue, invoke, callFunc, h1, h4, h5]
  · obtain ⟨fn, h1, h2, h3⟩ : HasBody 14 := ⟨_, Try.func14, by kernel_rfl, by kernel_rfl⟩
    have h4 : ¬ fn.name = "runtime.NumGoroutine" := by simpa using h2
    have h5 : ¬ fn.body = none := by intro e; rw [e] at h3; cases h3
    simp [go_sem, execOp, Act.eval, resolve, Deferred.ofValue, invoke, callFunc, h1, h4, h5]
  refine cellNew_J fun y s1 fc hy => ?_
  rw [Frame.finish_at]
  walk_nrm
  repeat first
    | refine JG.seq ?_
    | refine JG.skip ?_
    | refine JG.inBlock ?_
    | refine JG.block ?_
    | refine JG.done ?_
    | refine JG.label ?_
    | refine JG.condT rfl ?_
    | refine JG.condF rfl ?_
    | (refine JG.region ?_; simp only [List.size_toArray, List.length_cons, List.length_nil, Nat.reduceAdd, Nat.zero_add, List.range, List.range.loop])
    | (refine JG.unwanted rfl (by rfl) ?_; try walk_nrm)
    | (refine JG.op (F := F0) stands0 (fun h => by cases h) rfl rfl (by rfl) (by decide) (fun K E hK hE τ d => ?_); go_simp; refine hK _ _ (JG.tap ?_); clear hK hE K E τ d; try walk_nrm)
  refine JG.op (F := F0) stands0 (fun h => by cases h) rfl rfl (by rfl) (by decide) (fun K E hK hE τ d => ?_)
  go_simp
  refine hK _ _ (JG.tap (x := y.alloc (.cells #[P0 x.heap.size] 129)) ?_)
  simp only [under_size]
  clear hK hE K E τ d
  have s2 := (OldStand.refl y).alloc (.cells #[P0 x.heap.size] 129)
  have l0 : (y.alloc (.cells #[P0 x.heap.size] 129)).cell? (th y.heap.size 0) = some (P0 x.heap.size) := cell_obj (heap_alloc_new y _) 0
  have fc2 := s2.free fc
  generalize y.alloc (.cells #[P0 x.heap.size] 129) = z at s2 l0 fc2 ⊢
  rw [hy] at l0 ⊢
  repeat first
    | refine JG.seq ?_
    | refine JG.skip ?_
    | refine JG.inBlock ?_
    | refine JG.block ?_
    | refine JG.done ?_
    | refine JG.label ?_
    | refine JG.condT rfl ?_
    | refine JG.condF rfl ?_
    | (refine JG.region ?_; simp only [List.size_toArray, List.length_cons, List.length_nil, Nat.reduceAdd, Nat.zero_add, List.range, List.range.loop])
    | (refine JG.unwanted rfl (by rfl) ?_; try walk_nrm)
    | (refine JG.op (F := F0) stands0 (fun h => by cases h) rfl rfl (by rfl) (by decide) (fun K E hK hE τ d => ?_); go_simp; refine hK _ _ (JG.tap ?_); clear hK hE K E τ d; try walk_nrm)
  refine JG.ret ?_
  exact JG.leave rfl rfl Try.func46 (fun τ d => results_tmp2 (t := 2) (u := 3) rfl _ _ _) (h z (s1.trans s2) fc2 l0)
theorem latchNewB_J (hn : decide (n < 0) = true) (h : JG Try.prog Post C (G (c.finish (.tuple #[.pointer none, .int .i64 1])) cs) x) :
    JG Try.prog Post C (G (Frame.enter Try.prog 46 #[.int .i64 n] .normal) (c :: cs)) x := by
  refine enterN Try.func46 (by rfl) (by rfl) ?_
  simp only [Try.f46, Option.getD_some]
  walk_nrm
  repeat first
    | refine JG.seq ?_
    | refine JG.skip ?_
    | refine JG.inBlock ?_
    | refine JG.block ?_
    | refine JG.done ?_
    | refine JG.label ?_
    | refine JG.condT rfl ?_
    | refine JG.condF rfl ?_
    | (refine JG.region ?_; simp only [List.size_toArray, List.length_cons, List.length_nil, Nat.reduceAdd, Nat.zero_add, List.range, List.range.loop])
    | (refine JG.unwanted rfl (by rfl) ?_; try walk_nrm)
    | (refine JG.op (F := F0) stands0 (fun h => by cases h) rfl rfl (by rfl) (by decide) (fun K E hK hE τ d => ?_); go_simp; refine hK _ _ (JG.tap ?_); clear hK hE K E τ d; try walk_nrm)
  refine JG.ret ?_
  exact JG.leave rfl rfl Try.func46 (fun τ d => results_tmp2 (t := 2) (u := 3) rfl _ _ _) h
theorem newLock_J (h : ∀ y, OldStand x y → FreeCell y x.heap.size 0 → y.cell? (th (x.heap.size + 1) 0) = some (P0 x.heap.size) → JG Try.prog Post C (G (c.finish (P0 (x.heap.size + 1))) cs) y) :
    JG Try.prog Post C (G (Frame.enter Try.prog 114 #[] .normal) (c :: cs)) x := by
  refine enterN Try.func114 (by rfl) (by rfl) ?_
  simp only [Try.f114, Option.getD_some]
  walk_nrm
  repeat first
    | refine JG.seq ?_
    | refine JG.skip ?_
    | refine JG.inBlock ?_
    | refine JG.block ?_
    | refine JG.done ?_
    | refine JG.label ?_
    | refine JG.condT rfl ?_
    | refine JG.condF rfl ?_
    | (refine JG.region ?_; simp only [List.size_toArray, List.length_cons, List.length_nil, Nat.reduceAdd, Nat.zero_add, List.range, List.range.loop])
    | (refine JG.unwanted rfl (by rfl) ?_; try walk_nrm)
    | (refine JG.op (F := F0) stands0 (fun h => by cases h) rfl rfl (by rfl) (by decide) (fun K E hK hE τ d => ?_); go_simp; refine hK _ _ (JG.tap ?_); clear hK hE K E τ d; try walk_nrm)
  refine JG.call (f := 14) (args := #[.int .i64 0]) rfl (by rfl) (by decide) (fun w => ?_) (fun w => ?_) ?_
  · obtain ⟨fn, h1, h2, h3⟩ : HasBody 14 := ⟨_, Try.func14, by kernel_rfl, by kernel_rfl⟩
    have h4 : ¬ fn.name = "runtime.NumGoroutine" := by simpa using h2
    have h5 : ¬ fn.body = none := by intro e; rw [e] at h3; cases h3
    simp [go_sem, execOp, Act.eval, resolve, Deferred.ofValue, invoke, callFunc, h1, h4, h5]
  · obtain ⟨fn, h1, h2, h3⟩ : HasBody 14 := ⟨_, Try.func14, by kernel_rfl, by kernel_rfl⟩
    have h4 : ¬ fn.name = "runtime.NumGoroutine" := by simpa using h2
    have h5 : ¬ fn.body = none := by intro e; rw [e] at h3; cases h3
    simp [go_sem, execOp, Act.eval, resolve, Deferred.ofValue, invoke, callFunc, h1, h4, h5]
  refine cellNew_J fun y s1 fc hy => ?_
  rw [Frame.finish_at]
  walk_nrm
  repeat first
    | refine JG.seq ?_
    | refine JG.skip ?_
    | refine JG.inBlock ?_
    | refine JG.block ?_
    | refine JG.done ?_
    | refine JG.label ?_
    | refine JG.condT rfl ?_
    | refine JG.condF rfl ?_
    | (refine JG.region ?_; simp only [List.size_toArray, List.length_cons, List.length_nil, Nat.reduceAdd, Nat.zero_add, List.range, List.range.loop])
    | (refine JG.unwanted rfl (by rfl) ?_; try walk_nrm)
    | (refine JG.op (F := F0) stands0 (fun h => by cases h) rfl rfl (by rfl) (by decide) (fun K E hK hE τ d => ?_); go_simp; refine hK _ _ (JG.tap ?_); clear hK hE K E τ d; try walk_nrm)
  refine JG.op (F := F0) stands0 (fun h => by cases h) rfl rfl (by rfl) (by decide) (fun K E hK hE τ d => ?_)
  go_simp
  refine hK _ _ (JG.tap (x := y.alloc (.cells #[P0 x.heap.size] 131)) ?_)
  simp only [under_size]
  clear hK hE K E τ d
  have s2 := (OldStand.refl y).alloc (.cells #[P0 x.heap.size] 131)
  have l0 : (y.alloc (.cells #[P0 x.heap.size] 131)).cell? (th y.heap.size 0) = some (P0 x.heap.size) := cell_obj (heap_alloc_new y _) 0
  have fc2 := s2.free fc
  generalize y.alloc (.cells #[P0 x.heap.size] 131) = z at s2 l0 fc2 ⊢
  rw [hy] at l0 ⊢
  repeat first
    | refine JG.seq ?_
    | refine JG.skip ?_
    | refine JG.inBlock ?_
    | refine JG.block ?_
    | refine JG.done ?_
    | refine JG.label ?_
    | refine JG.condT rfl ?_
    | refine JG.condF rfl ?_
    | (refine JG.region ?_; simp only [List.size_toArray, List.length_cons, List.length_nil, Nat.reduceAdd, Nat.zero_add, List.range, List.range.loop])
    | (refine JG.unwanted rfl (by rfl) ?_; try walk_nrm)
    | (refine JG.op (F := F0) stands0 (fun h => by cases h) rfl rfl (by rfl) (by decide) (fun K E hK hE τ d => ?_); go_simp; refine hK _ _ (JG.tap ?_); clear hK hE K E τ d; try walk_nrm)
  refine JG.ret ?_
  exact JG.leave rfl rfl Try.func114 (fun τ d => results_tmp (t := 0) rfl _ _ _) (h z (s1.trans s2) fc2 l0)
theorem barrierNew_J (hn : decide (n < 1) = false) (h : ∀ y, OldStand x y → FreeCell y x.heap.size 0 → FreeCell y (x.heap.size + 1) 0 → y.heap[x.heap.size + 2]? = some (.cells #[.int .i64 n, P0 x.heap.size, P0 (x.heap.size + 1)] 134 (0, 0)) → JG Try.prog Post C (G (c.finish (.tuple #[P0 (x.heap.size + 2), .int .i64 0])) cs) y) :
    JG Try.prog Post C (G (Frame.enter Try.prog 47 #[.int .i64 n] .normal) (c :: cs)) x := by
  refine enterN Try.func47 (by rfl) (by rfl) ?_
  simp only [Try.f47, Option.getD_some]
  walk_nrm
  repeat first
    | refine JG.seq ?_
    | refine JG.skip ?_
    | refine JG.inBlock ?_
    | refine JG.block ?_
    | refine JG.done ?_
    | refine JG.label ?_
    | refine JG.condT rfl ?_
    | refine JG.condF rfl ?_
    | (refine JG.region ?_; simp only [List.size_toArray, List.length_cons, List.length_nil, Nat.reduceAdd, Nat.zero_add, List.range, List.range.loop])
    | (refine JG.unwanted rfl (by rfl) ?_; try walk_nrm)
    | (refine JG.op (F := F0) stands0 (fun h => by cases h) rfl rfl (by rfl) (by decide) (fun K E hK hE τ d => ?_); go_simp; refine hK _ _ (JG.tap ?_); clear hK hE K E τ d; try walk_nrm)
  refine JG.call (f := 14) (args := #[.int .i64 0]) rfl (by rfl) (by decide) (fun w => ?_) (fun w => ?_) ?_
  · obtain ⟨fn, h1, h2, h3⟩ : HasBody 14 := ⟨_, Try.func14, by kernel_rfl, by kernel_rfl⟩
    have h4 : ¬ fn.name = "runtime.NumGoroutine" := by simpa using h2
    have h5 : ¬ fn.body = none := by intro e; rw [e] at h3; cases h3
    simp [go_sem, execOp, Act.eval, resolve, Deferred.ofValue, invoke, callFunc, h1, h4, h5]
  · obtain ⟨fn, h1, h2, h3⟩ : HasBody 14 := ⟨_, Try.func14, by kernel_rfl, by kernel_rfl⟩
    have h4 : ¬ fn.name = "runtime.NumGoroutine" := by simpa using h2
    have h5 : ¬ fn.body = none := by intro e; rw [e] at h3; cases h3
    simp [go_sem, execOp, Act.eval, resolve, Deferred.ofValue, invoke, callFunc, h1, h4, h5]
  refine cellNew_J fun y s1 fc hy => ?_
  rw [Frame.finish_at]
  walk_nrm
  repeat first
    | refine JG.seq ?_
    | refine JG.skip ?_
    | refine JG.inBlock ?_
    | refine JG.block ?_
    | refine JG.done ?_
    | refine JG.label ?_
    | refine JG.condT rfl ?_
    | refine JG.condF rfl ?_
    | (refine JG.region ?_; simp only [List.size_toArray, List.length_cons, List.length_nil, Nat.reduceAdd, Nat.zero_add, List.range, List.range.loop])
    | (refine JG.unwanted rfl (by rfl) ?_; try walk_nrm)
    | (refine JG.op (F := F0) stands0 (fun h => by cases h) rfl rfl (by rfl) (by decide) (fun K E hK hE τ d => ?_); go_simp; refine hK _ _ (JG.tap ?_); clear hK hE K E τ d; try walk_nrm)
  refine JG.call (f := 14) (args := #[.int .i64 0]) rfl (by rfl) (by decide) (fun w => ?_) (fun w => ?_) ?_
  · obtain ⟨fn, h1, h2, h3⟩ : HasBody 14 := ⟨_, Try.func14, by kernel_rfl, by kernel_rfl⟩
    have h4 : ¬ fn.name = "runtime.NumGoroutine" := by simpa using h2
    have h5 : ¬ fn.body = none := by intro e; rw [e] at h3; cases h3
    simp [go_sem, execOp, Act.eval, resolve, Deferred.ofValue, invoke, callFunc, h1, h4, h5]
  · obtain ⟨fn, h1, h2, h3⟩ : HasBody 14 := ⟨_, Try.func14, by kernel_rfl, by kernel_rfl⟩
    have h4 : ¬ fn.name = "runtime.NumGoroutine" := by simpa using h2
    have h5 : ¬ fn.body = none := by intro e; rw [e] at h3; cases h3
    simp [go_sem, execOp, Act.eval, resolve, Deferred.ofValue, invoke, callFunc, h1, h4, h5]
  refine cellNew_J fun y1 s2 fd hy1 => ?_
  rw [Frame.finish_at]
  walk_nrm
  have fc1 := s2.free fc
  rw [hy] at fd hy1 ⊢
  repeat first
    | refine JG.seq ?_
    | refine JG.skip ?_
    | refine JG.inBlock ?_
    | refine JG.block ?_
    | refine JG.done ?_
    | refine JG.label ?_
    | refine JG.condT rfl ?_
    | refine JG.condF rfl ?_
    | (refine JG.region ?_; simp only [List.size_toArray, List.length_cons, List.length_nil, Nat.reduceAdd, Nat.zero_add, List.range, List.range.loop])
    | (refine JG.unwanted rfl (by rfl) ?_; try walk_nrm)
    | (refine JG.op (F := F0) stands0 (fun h => by cases h) rfl rfl (by rfl) (by decide) (fun K E hK hE τ d => ?_); go_simp; refine hK _ _ (JG.tap ?_); clear hK hE K E τ d; try walk_nrm)
  refine JG.op (F := F0) stands0 (fun h => by cases h) rfl rfl (by rfl) (by decide) (fun K E hK hE τ d => ?_)
  go_simp
  refine hK _ _ (JG.tap (x := y1.alloc (.cells #[.int .i64 n, P0 x.heap.size, P0 (x.heap.size + 1)] 134)) ?_)
  simp only [under_size]
  clear hK hE K E τ d
  have s3 := (OldStand.refl y1).alloc (.cells #[.int .i64 n, P0 x.heap.size, P0 (x.heap.size + 1)] 134)
  have l0 : (y1.alloc (.cells #[.int .i64 n, P0 x.heap.size, P0 (x.heap.size + 1)] 134)).heap[y1.heap.size]? = some (.cells #[.int .i64 n, P0 x.heap.size, P0 (x.heap.size + 1)] 134 (0, 0)) := heap_alloc_new y1 _
  have fc2 := s3.free fc1
  have fd2 := s3.free fd
  generalize y1.alloc (.cells #[.int .i64 n, P0 x.heap.size, P0 (x.heap.size + 1)] 134) = z at s3 l0 fc2 fd2 ⊢
  rw [hy1] at l0 ⊢
  repeat first
    | refine JG.seq ?_
    | refine JG.skip ?_
    | refine JG.inBlock ?_
    | refine JG.block ?_
    | refine JG.done ?_
    | refine JG.label ?_
    | refine JG.condT rfl ?_
    | refine JG.condF rfl ?_
    | (refine JG.region ?_; simp only [List.size_toArray, List.length_cons, List.length_nil, Nat.reduceAdd, Nat.zero_add, List.range, List.range.loop])
    | (refine JG.unwanted rfl (by rfl) ?_; try walk_nrm)
    | (refine JG.op (F := F0) stands0 (fun h => by cases h) rfl rfl (by rfl) (by decide) (fun K E hK hE τ d => ?_); go_simp; refine hK _ _ (JG.tap ?_); clear hK hE K E τ d; try walk_nrm)
  refine JG.ret ?_
  exact JG.leave rfl rfl Try.func47 (fun τ d => results_tmp2 (t := 2) (u := 3) rfl _ _ _) (h z ((s1.trans s2).trans s3) fc2 fd2 l0)
theorem barrierNewB_J (hn : decide (n < 1) = true) (h : JG Try.prog Post C (G (c.finish (.tuple #[.pointer none, .int .i64 1])) cs) x) :
    JG Try.prog Post C (G (Frame.enter Try.prog 47 #[.int .i64 n] .normal) (c :: cs)) x := by
  refine enterN Try.func47 (by rfl) (by rfl) ?_
  simp only [Try.f47, Option.getD_some]
  walk_nrm
  repeat first
    | refine JG.seq ?_
    | refine JG.skip ?_
    | refine JG.inBlock ?_
    | refine JG.block ?_
    | refine JG.done ?_
    | refine JG.label ?_
    | refine JG.condT rfl ?_
    | refine JG.condF rfl ?_
    | (refine JG.region ?_; simp only [List.size_toArray, List.length_cons, List.length_nil, Nat.reduceAdd, Nat.zero_add, List.range, List.range.loop])
    | (refine JG.unwanted rfl (by rfl) ?_; try walk_nrm)
    | (refine JG.op (F := F0) stands0 (fun h => by cases h) rfl rfl (by rfl) (by decide) (fun K E hK hE τ d => ?_); go_simp; refine hK _ _ (JG.tap ?_); clear hK hE K E τ d; try walk_nrm)
  refine JG.ret ?_
  exact JG.leave rfl rfl Try.func47 (fun τ d => results_tmp2 (t := 2) (u := 3) rfl _ _ _) h
end
end Go.Proofs.Ytecmobjiepgfjaa
