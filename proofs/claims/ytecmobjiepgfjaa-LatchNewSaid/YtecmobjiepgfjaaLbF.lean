/- The latch's works under J. -/
import Derived.Test.YtecmobjiepgfjaaLbC
import Derived.Test.YtecmobjiepgfjaaLbD
namespace Go.Proofs.Ytecmobjiepgfjaa
open Go.Conc Go.RowKit
open Go.ConcN (upd upd_same upd_ne)
set_option linter.unusedSimpArgs false
set_option linter.unusedVariables false
set_option maxRecDepth 100000
theorem free_lt {x : World} {b : Nat} {v : Int} (h : FreeCell x b v) : b < x.heap.size := cell_lt (a := th b 0) h.v
section
variable {Post : Value → World → Prop} {C : Ctx} {x : World} {c : Frame} {cs : List Frame} {n : Int}
theorem latchNew_R (hn : decide (n < 0) = false) (h : ∀ y l s, OldStand x y → x.heap.size ≤ s → x.heap.size ≤ l → l ≠ s → FreeCell y s n → y.cell? (th l 0) = some (P0 s) → JG Try.prog Post C (G (c.finish (.tuple #[P0 l, .int .i64 0])) cs) y) :
    JG Try.prog Post C (G (Frame.enter Try.prog 46 #[.int .i64 n] .normal) (c :: cs)) x :=
  latchNew_J hn fun y o f hl => h y _ _ o (Nat.le_refl _) (Nat.le_succ _) (by omega) f hl
theorem newLock_R (h : ∀ y l s, OldStand x y → x.heap.size ≤ s → x.heap.size ≤ l → l ≠ s → FreeCell y s 0 → y.cell? (th l 0) = some (P0 s) → JG Try.prog Post C (G (c.finish (P0 l)) cs) y) :
    JG Try.prog Post C (G (Frame.enter Try.prog 114 #[] .normal) (c :: cs)) x :=
  newLock_J fun y o f hl => h y _ _ o (Nat.le_refl _) (Nat.le_succ _) (by omega) f hl
theorem barrierNew_R (hn : decide (n < 1) = false) (h : ∀ y b s t, OldStand x y → x.heap.size ≤ s → x.heap.size ≤ t → x.heap.size ≤ b → b ≠ s → b ≠ t → s ≠ t → FreeCell y s 0 → FreeCell y t 0 → y.heap[b]? = some (.cells #[.int .i64 n, P0 s, P0 t] 134 (0, 0)) → JG Try.prog Post C (G (c.finish (.tuple #[P0 b, .int .i64 0])) cs) y) :
    JG Try.prog Post C (G (Frame.enter Try.prog 47 #[.int .i64 n] .normal) (c :: cs)) x :=
  barrierNew_J hn fun y o f g hb => h y _ _ _ o (Nat.le_refl _) (by omega) (by omega) (by omega) (by omega) (by omega) f g hb
set_option maxHeartbeats 4000000 in
theorem works5_J (h : ∀ y, OldStand x y → JG Try.prog Post C (G (c.finish (.bool true)) cs) y) :
    JG Try.prog Post C (G (Frame.enter Try.prog 45 #[] .normal) (c :: cs)) x := by
  refine enterN Try.func45 (by rfl) (by rfl) ?_
  simp only [Try.f45, Option.getD_some]
  walk_nrm
  repeat first
    | refine JG.seq ?_
    | refine JG.skip ?_
    | refine JG.inBlock ?_
    | refine JG.block ?_
    | refine JG.done ?_
    | refine JG.label ?_
    | refine JG.condT rfl ?_
    | refine JG.condF rfl ?_
    | (refine JG.region ?_; simp only [List.size_toArray, List.length_cons, List.length_nil, Nat.reduceAdd, Nat.zero_add, List.range, List.range.loop])
    | (refine JG.unwanted rfl (by rfl) ?_; try walk_nrm)
    | (refine JG.op (F := F0) stands0 (fun h => by cases h) rfl rfl (by rfl) (by decide) (fun K E hK hE τ d => ?_); go_simp; refine hK _ _ (JG.tap ?_); clear hK hE K E τ d; try walk_nrm)
  refine JG.call (f := 46) (args := #[.int .i64 2]) rfl (by rfl) (by decide) (fun w => ?_) (fun w => ?_) ?_
  · obtain ⟨fn, h1, h2, h3⟩ : HasBody 46 := ⟨_, Try.func46, by kernel_rfl, by kernel_rfl⟩
    have h4 : ¬ fn.name = "runtime.NumGoroutine" := by simpa using h2
    have h5 : ¬ fn.body = none := by intro e; rw [e] at h3; cases h3
    simp [go_sem, execOp, Act.eval, resolve, Deferred.ofValue, invoke, callFunc, h1, h4, h5]
  · obtain ⟨fn, h1, h2, h3⟩ : HasBody 46 := ⟨_, Try.func46, by kernel_rfl, by kernel_rfl⟩
    have h4 : ¬ fn.name = "runtime.NumGoroutine" := by simpa using h2
    have h5 : ¬ fn.body = none := by intro e; rw [e] at h3; cases h3
    simp [go_sem, execOp, Act.eval, resolve, Deferred.ofValue, invoke, callFunc, h1, h4, h5]
  refine latchNew_R (by decide) fun y1 l s o1 a1 a2 a3 fs hl => ?_
  rw [Frame.finish_at]
  walk_nrm
  repeat first
    | refine JG.seq ?_
    | refine JG.skip ?_
    | refine JG.inBlock ?_
    | refine JG.block ?_
    | refine JG.done ?_
    | refine JG.label ?_
    | refine JG.condT rfl ?_
    | refine JG.condF rfl ?_
    | (refine JG.region ?_; simp only [List.size_toArray, List.length_cons, List.length_nil, Nat.reduceAdd, Nat.zero_add, List.range, List.range.loop])
    | (refine JG.unwanted rfl (by rfl) ?_; try walk_nrm)
    | (refine JG.op (F := F0) stands0 (fun h => by cases h) rfl rfl (by rfl) (by decide) (fun K E hK hE τ d => ?_); go_simp; refine hK _ _ (JG.tap ?_); clear hK hE K E τ d; try walk_nrm)
  refine JG.call (f := 114) (args := #[]) rfl (by rfl) (by decide) (fun w => ?_) (fun w => ?_) ?_
  · obtain ⟨fn, h1, h2, h3⟩ : HasBody 114 := ⟨_, Try.func114, by kernel_rfl, by kernel_rfl⟩
    have h4 : ¬ fn.name = "runtime.NumGoroutine" := by simpa using h2
    have h5 : ¬ fn.body = none := by intro e; rw [e] at h3; cases h3
    simp [go_sem, execOp, Act.eval, resolve, Deferred.ofValue, invoke, callFunc, h1, h4, h5]
  · obtain ⟨fn, h1, h2, h3⟩ : HasBody 114 := ⟨_, Try.func114, by kernel_rfl, by kernel_rfl⟩
    have h4 : ¬ fn.name = "runtime.NumGoroutine" := by simpa using h2
    have h5 : ¬ fn.body = none := by intro e; rw [e] at h3; cases h3
    simp [go_sem, execOp, Act.eval, resolve, Deferred.ofValue, invoke, callFunc, h1, h4, h5]
  refine newLock_R fun y2 k t o2 b1 b2 b3 ft hk => ?_
  rw [Frame.finish_at]
  walk_nrm
  have c1 := free_lt fs
  have c2 : l < y1.heap.size := cell_lt hl
  replace fs := o2.free fs
  replace hl := o2.cell hl
  replace o1 := o1.trans o2
  have c3 := o2.1
  clear o2
  repeat first
    | refine JG.seq ?_
    | refine JG.skip ?_
    | refine JG.inBlock ?_
    | refine JG.block ?_
    | refine JG.done ?_
    | refine JG.label ?_
    | refine JG.condT rfl ?_
    | refine JG.condF rfl ?_
    | (refine JG.region ?_; simp only [List.size_toArray, List.length_cons, List.length_nil, Nat.reduceAdd, Nat.zero_add, List.range, List.range.loop])
    | (refine JG.unwanted rfl (by rfl) ?_; try walk_nrm)
    | (refine JG.op (F := F0) stands0 (fun h => by cases h) rfl rfl (by rfl) (by decide) (fun K E hK hE τ d => ?_); go_simp; refine hK _ _ (JG.tap ?_); clear hK hE K E τ d; try walk_nrm)
  refine JG.call (f := 47) (args := #[.int .i64 1]) rfl (by rfl) (by decide) (fun w => ?_) (fun w => ?_) ?_
  · obtain ⟨fn, h1, h2, h3⟩ : HasBody 47 := ⟨_, Try.func47, by kernel_rfl, by kernel_rfl⟩
    have h4 : ¬ fn.name = "runtime.NumGoroutine" := by simpa using h2
    have h5 : ¬ fn.body = none := by intro e; rw [e] at h3; cases h3
    simp [go_sem, execOp, Act.eval, resolve, Deferred.ofValue, invoke, callFunc, h1, h4, h5]
  · obtain ⟨fn, h1, h2, h3⟩ : HasBody 47 := ⟨_, Try.func47, by kernel_rfl, by kernel_rfl⟩
    have h4 : ¬ fn.name = "runtime.NumGoroutine" := by simpa using h2
    have h5 : ¬ fn.body = none := by intro e; rw [e] at h3; cases h3
    simp [go_sem, execOp, Act.eval, resolve, Deferred.ofValue, invoke, callFunc, h1, h4, h5]
  refine barrierNew_R (by decide) fun y3 b p q o3 d1 d2 d3 d4 d5 d6 fp fq hb => ?_
  rw [Frame.finish_at]
  walk_nrm
  have c4 := free_lt ft
  have c5 : k < y2.heap.size := cell_lt hk
  have c6 := o1.1
  replace fs := o3.free fs
  replace hl := o3.cell hl
  replace ft := o3.free ft
  replace hk := o3.cell hk
  replace o1 := o1.trans o3
  clear o3
  repeat first
    | refine JG.seq ?_
    | refine JG.skip ?_
    | refine JG.inBlock ?_
    | refine JG.block ?_
    | refine JG.done ?_
    | refine JG.label ?_
    | refine JG.condT rfl ?_
    | refine JG.condF rfl ?_
    | (refine JG.region ?_; simp only [List.size_toArray, List.length_cons, List.length_nil, Nat.reduceAdd, Nat.zero_add, List.range, List.range.loop])
    | (refine JG.unwanted rfl (by rfl) ?_; try walk_nrm)
    | (refine JG.op (F := F0) stands0 (fun h => by cases h) rfl rfl (by rfl) (by decide) (fun K E hK hE τ d => ?_); go_simp; refine hK _ _ (JG.tap ?_); clear hK hE K E τ d; try walk_nrm)
  refine JG.call (f := 51) (args := #[P0 b, .pointer none]) rfl (by rfl) (by decide) (fun w => ?_) (fun w => ?_) ?_
  · obtain ⟨fn, h1, h2, h3⟩ : HasBody 51 := ⟨_, Try.func51, by kernel_rfl, by kernel_rfl⟩
    have h4 : ¬ fn.name = "runtime.NumGoroutine" := by simpa using h2
    have h5 : ¬ fn.body = none := by intro e; rw [e] at h3; cases h3
    simp [go_sem, execOp, Act.eval, resolve, Deferred.ofValue, invoke, callFunc, h1, h4, h5]
  · obtain ⟨fn, h1, h2, h3⟩ : HasBody 51 := ⟨_, Try.func51, by kernel_rfl, by kernel_rfl⟩
    have h4 : ¬ fn.name = "runtime.NumGoroutine" := by simpa using h2
    have h5 : ¬ fn.body = none := by intro e; rw [e] at h3; cases h3
    simp [go_sem, execOp, Act.eval, resolve, Deferred.ofValue, invoke, callFunc, h1, h4, h5]
  refine arrive_J hb fp fq d4 d5 d6 fun y4 e1 e2 fp1 fq1 => ?_
  rw [Frame.finish_at]
  walk_nrm
  rw [show wrap64 (0 + 1) = 1 from by decide +kernel] at fp1
  have hb1 := (e2 b d4 d5).trans hb
  have old : OldStand y3 y4 → True := fun _ => trivial
  have k1 : ∀ r v, r ≠ p → r ≠ q → FreeCell y3 r v → FreeCell y4 r v := fun r v h1 h2 hf => ⟨(World.cell?_of_block (e2 r h1 h2)).trans hf.v, (World.cell?_of_block (e2 r h1 h2)).trans hf.made, (World.cell?_of_block (e2 r h1 h2)).trans hf.mu, (World.cell?_of_block (e2 r h1 h2)).trans hf.ch, fun j => by have := hf.fr j; unfold World.frozen? at this ⊢; rw [show y4.heap[(th r j).block]? = y3.heap[(th r j).block]? from e2 r h1 h2]; exact this⟩
  replace fs := k1 s _ (by omega) (by omega) fs
  replace ft := k1 t _ (by omega) (by omega) ft
  replace hl := (World.cell?_of_block (a := th l 0) (e2 l (by omega) (by omega))).trans hl
  replace hk := (World.cell?_of_block (a := th k 0) (e2 k (by omega) (by omega))).trans hk
  replace o1 : OldStand x y4 := ⟨by rw [e1]; exact o1.1, fun r hr => (e2 r (by omega) (by omega)).trans (o1.2 r hr)⟩
  clear k1 old e1 e2 hb fp fq
  repeat first
    | refine JG.seq ?_
    | refine JG.skip ?_
    | refine JG.inBlock ?_
    | refine JG.block ?_
    | refine JG.done ?_
    | refine JG.label ?_
    | refine JG.condT rfl ?_
    | refine JG.condF rfl ?_
    | (refine JG.region ?_; simp only [List.size_toArray, List.length_cons, List.length_nil, Nat.reduceAdd, Nat.zero_add, List.range, List.range.loop])
    | (refine JG.unwanted rfl (by rfl) ?_; try walk_nrm)
    | (refine JG.op (F := F0) stands0 (fun h => by cases h) rfl rfl (by rfl) (by decide) (fun K E hK hE τ d => ?_); go_simp; refine hK _ _ (JG.tap ?_); clear hK hE K E τ d; try walk_nrm)
  refine JG.call (f := 51) (args := #[P0 b, .pointer none]) rfl (by rfl) (by decide) (fun w => ?_) (fun w => ?_) ?_
  · obtain ⟨fn, h1, h2, h3⟩ : HasBody 51 := ⟨_, Try.func51, by kernel_rfl, by kernel_rfl⟩
    have h4 : ¬ fn.name = "runtime.NumGoroutine" := by simpa using h2
    have h5 : ¬ fn.body = none := by intro e; rw [e] at h3; cases h3
    simp [go_sem, execOp, Act.eval, resolve, Deferred.ofValue, invoke, callFunc, h1, h4, h5]
  · obtain ⟨fn, h1, h2, h3⟩ : HasBody 51 := ⟨_, Try.func51, by kernel_rfl, by kernel_rfl⟩
    have h4 : ¬ fn.name = "runtime.NumGoroutine" := by simpa using h2
    have h5 : ¬ fn.body = none := by intro e; rw [e] at h3; cases h3
    simp [go_sem, execOp, Act.eval, resolve, Deferred.ofValue, invoke, callFunc, h1, h4, h5]
  refine arrive_J hb1 fp1 fq1 d4 d5 d6 fun y5 e1 e2 fp2 fq2 => ?_
  rw [Frame.finish_at]
  walk_nrm
  have k1 : ∀ r v, r ≠ p → r ≠ q → FreeCell y4 r v → FreeCell y5 r v := fun r v h1 h2 hf => ⟨(World.cell?_of_block (e2 r h1 h2)).trans hf.v, (World.cell?_of_block (e2 r h1 h2)).trans hf.made, (World.cell?_of_block (e2 r h1 h2)).trans hf.mu, (World.cell?_of_block (e2 r h1 h2)).trans hf.ch, fun j => by have := hf.fr j; unfold World.frozen? at this ⊢; rw [show y5.heap[(th r j).block]? = y4.heap[(th r j).block]? from e2 r h1 h2]; exact this⟩
  replace fs := k1 s _ (by omega) (by omega) fs
  replace ft := k1 t _ (by omega) (by omega) ft
  replace hl := (World.cell?_of_block (a := th l 0) (e2 l (by omega) (by omega))).trans hl
  replace hk := (World.cell?_of_block (a := th k 0) (e2 k (by omega) (by omega))).trans hk
  replace o1 : OldStand x y5 := ⟨by rw [e1]; exact o1.1, fun r hr => (e2 r (by omega) (by omega)).trans (o1.2 r hr)⟩
  clear k1 e1 e2 hb1 fp1 fq1 fp2 fq2
  repeat first
    | refine JG.seq ?_
    | refine JG.skip ?_
    | refine JG.inBlock ?_
    | refine JG.block ?_
    | refine JG.done ?_
    | refine JG.label ?_
    | refine JG.condT rfl ?_
    | refine JG.condF rfl ?_
    | (refine JG.region ?_; simp only [List.size_toArray, List.length_cons, List.length_nil, Nat.reduceAdd, Nat.zero_add, List.range, List.range.loop])
    | (refine JG.unwanted rfl (by rfl) ?_; try walk_nrm)
    | (refine JG.op (F := F0) stands0 (fun h => by cases h) rfl rfl (by rfl) (by decide) (fun K E hK hE τ d => ?_); go_simp; refine hK _ _ (JG.tap ?_); clear hK hE K E τ d; try walk_nrm)
  refine JG.call (f := 49) (args := #[P0 l, .pointer none, .int .i64 2]) rfl (by rfl) (by decide) (fun w => ?_) (fun w => ?_) ?_
  · obtain ⟨fn, h1, h2, h3⟩ : HasBody 49 := ⟨_, Try.func49, by kernel_rfl, by kernel_rfl⟩
    have h4 : ¬ fn.name = "runtime.NumGoroutine" := by simpa using h2
    have h5 : ¬ fn.body = none := by intro e; rw [e] at h3; cases h3
    simp [go_sem, execOp, Act.eval, resolve, Deferred.ofValue, invoke, callFunc, h1, h4, h5]
  · obtain ⟨fn, h1, h2, h3⟩ : HasBody 49 := ⟨_, Try.func49, by kernel_rfl, by kernel_rfl⟩
    have h4 : ¬ fn.name = "runtime.NumGoroutine" := by simpa using h2
    have h5 : ¬ fn.body = none := by intro e; rw [e] at h3; cases h3
    simp [go_sem, execOp, Act.eval, resolve, Deferred.ofValue, invoke, callFunc, h1, h4, h5]
  refine down_J hl fs (by decide) (by decide) a3 fun y6 q1 fs1 => ?_
  rw [Frame.finish_at]
  walk_nrm
  rw [show IntKind.i64.wrap (2 - 2) = 0 from by decide +kernel] at fs1
  replace hl := (q1.cell (p := th l 0) a3).trans hl
  replace hk := (q1.cell (p := th k 0) (show k ≠ s by omega)).trans hk
  replace ft := q1.free (show t ≠ s by omega) ft
  replace o1 := o1.but q1 a1
  clear q1 fs
  repeat first
    | refine JG.seq ?_
    | refine JG.skip ?_
    | refine JG.inBlock ?_
    | refine JG.block ?_
    | refine JG.done ?_
    | refine JG.label ?_
    | refine JG.condT rfl ?_
    | refine JG.condF rfl ?_
    | (refine JG.region ?_; simp only [List.size_toArray, List.length_cons, List.length_nil, Nat.reduceAdd, Nat.zero_add, List.range, List.range.loop])
    | (refine JG.unwanted rfl (by rfl) ?_; try walk_nrm)
    | (refine JG.op (F := F0) stands0 (fun h => by cases h) rfl rfl (by rfl) (by decide) (fun K E hK hE τ d => ?_); go_simp; refine hK _ _ (JG.tap ?_); clear hK hE K E τ d; try walk_nrm)
  refine JG.call (f := 52) (args := #[P0 l, .pointer none]) rfl (by rfl) (by decide) (fun w => ?_) (fun w => ?_) ?_
  · obtain ⟨fn, h1, h2, h3⟩ : HasBody 52 := ⟨_, Try.func52, by kernel_rfl, by kernel_rfl⟩
    have h4 : ¬ fn.name = "runtime.NumGoroutine" := by simpa using h2
    have h5 : ¬ fn.body = none := by intro e; rw [e] at h3; cases h3
    simp [go_sem, execOp, Act.eval, resolve, Deferred.ofValue, invoke, callFunc, h1, h4, h5]
  · obtain ⟨fn, h1, h2, h3⟩ : HasBody 52 := ⟨_, Try.func52, by kernel_rfl, by kernel_rfl⟩
    have h4 : ¬ fn.name = "runtime.NumGoroutine" := by simpa using h2
    have h5 : ¬ fn.body = none := by intro e; rw [e] at h3; cases h3
    simp [go_sem, execOp, Act.eval, resolve, Deferred.ofValue, invoke, callFunc, h1, h4, h5]
  refine wait_J hl fs1 ?_
  rw [Frame.finish_at]
  walk_nrm
  repeat first
    | refine JG.seq ?_
    | refine JG.skip ?_
    | refine JG.inBlock ?_
    | refine JG.block ?_
    | refine JG.done ?_
    | refine JG.label ?_
    | refine JG.condT rfl ?_
    | refine JG.condF rfl ?_
    | (refine JG.region ?_; simp only [List.size_toArray, List.length_cons, List.length_nil, Nat.reduceAdd, Nat.zero_add, List.range, List.range.loop])
    | (refine JG.unwanted rfl (by rfl) ?_; try walk_nrm)
    | (refine JG.op (F := F0) stands0 (fun h => by cases h) rfl rfl (by rfl) (by decide) (fun K E hK hE τ d => ?_); go_simp; refine hK _ _ (JG.tap ?_); clear hK hE K E τ d; try walk_nrm)
  refine JG.call (f := 53) (args := #[P0 k, .pointer none]) rfl (by rfl) (by decide) (fun w => ?_) (fun w => ?_) ?_
  · obtain ⟨fn, h1, h2, h3⟩ : HasBody 53 := ⟨_, Try.func53, by kernel_rfl, by kernel_rfl⟩
    have h4 : ¬ fn.name = "runtime.NumGoroutine" := by simpa using h2
    have h5 : ¬ fn.body = none := by intro e; rw [e] at h3; cases h3
    simp [go_sem, execOp, Act.eval, resolve, Deferred.ofValue, invoke, callFunc, h1, h4, h5]
  · obtain ⟨fn, h1, h2, h3⟩ : HasBody 53 := ⟨_, Try.func53, by kernel_rfl, by kernel_rfl⟩
    have h4 : ¬ fn.name = "runtime.NumGoroutine" := by simpa using h2
    have h5 : ¬ fn.body = none := by intro e; rw [e] at h3; cases h3
    simp [go_sem, execOp, Act.eval, resolve, Deferred.ofValue, invoke, callFunc, h1, h4, h5]
  refine lkLock_J hk ft fun y7 q1 ft1 => ?_
  rw [Frame.finish_at]
  walk_nrm
  replace hk := (q1.cell (p := th k 0) b3).trans hk
  replace o1 := o1.but q1 (by omega)
  clear q1 ft fs1 hl
  repeat first
    | refine JG.seq ?_
    | refine JG.skip ?_
    | refine JG.inBlock ?_
    | refine JG.block ?_
    | refine JG.done ?_
    | refine JG.label ?_
    | refine JG.condT rfl ?_
    | refine JG.condF rfl ?_
    | (refine JG.region ?_; simp only [List.size_toArray, List.length_cons, List.length_nil, Nat.reduceAdd, Nat.zero_add, List.range, List.range.loop])
    | (refine JG.unwanted rfl (by rfl) ?_; try walk_nrm)
    | (refine JG.op (F := F0) stands0 (fun h => by cases h) rfl rfl (by rfl) (by decide) (fun K E hK hE τ d => ?_); go_simp; refine hK _ _ (JG.tap ?_); clear hK hE K E τ d; try walk_nrm)
  refine JG.call (f := 54) (args := #[P0 k, .pointer none]) rfl (by rfl) (by decide) (fun w => ?_) (fun w => ?_) ?_
  · obtain ⟨fn, h1, h2, h3⟩ : HasBody 54 := ⟨_, Try.func54, by kernel_rfl, by kernel_rfl⟩
    have h4 : ¬ fn.name = "runtime.NumGoroutine" := by simpa using h2
    have h5 : ¬ fn.body = none := by intro e; rw [e] at h3; cases h3
    simp [go_sem, execOp, Act.eval, resolve, Deferred.ofValue, invoke, callFunc, h1, h4, h5]
  · obtain ⟨fn, h1, h2, h3⟩ : HasBody 54 := ⟨_, Try.func54, by kernel_rfl, by kernel_rfl⟩
    have h4 : ¬ fn.name = "runtime.NumGoroutine" := by simpa using h2
    have h5 : ¬ fn.body = none := by intro e; rw [e] at h3; cases h3
    simp [go_sem, execOp, Act.eval, resolve, Deferred.ofValue, invoke, callFunc, h1, h4, h5]
  refine lkTryF_J hk ft1 ?_
  rw [Frame.finish_at]
  walk_nrm
  repeat first
    | refine JG.seq ?_
    | refine JG.skip ?_
    | refine JG.inBlock ?_
    | refine JG.block ?_
    | refine JG.done ?_
    | refine JG.label ?_
    | refine JG.condT rfl ?_
    | refine JG.condF rfl ?_
    | (refine JG.region ?_; simp only [List.size_toArray, List.length_cons, List.length_nil, Nat.reduceAdd, Nat.zero_add, List.range, List.range.loop])
    | (refine JG.unwanted rfl (by rfl) ?_; try walk_nrm)
    | (refine JG.op (F := F0) stands0 (fun h => by cases h) rfl rfl (by rfl) (by decide) (fun K E hK hE τ d => ?_); go_simp; refine hK _ _ (JG.tap ?_); clear hK hE K E τ d; try walk_nrm)
  refine JG.call (f := 55) (args := #[P0 k, .pointer none]) rfl (by rfl) (by decide) (fun w => ?_) (fun w => ?_) ?_
  · obtain ⟨fn, h1, h2, h3⟩ : HasBody 55 := ⟨_, Try.func55, by kernel_rfl, by kernel_rfl⟩
    have h4 : ¬ fn.name = "runtime.NumGoroutine" := by simpa using h2
    have h5 : ¬ fn.body = none := by intro e; rw [e] at h3; cases h3
    simp [go_sem, execOp, Act.eval, resolve, Deferred.ofValue, invoke, callFunc, h1, h4, h5]
  · obtain ⟨fn, h1, h2, h3⟩ : HasBody 55 := ⟨_, Try.func55, by kernel_rfl, by kernel_rfl⟩
    have h4 : ¬ fn.name = "runtime.NumGoroutine" := by simpa using h2
    have h5 : ¬ fn.body = none := by intro e; rw [e] at h3; cases h3
    simp [go_sem, execOp, Act.eval, resolve, Deferred.ofValue, invoke, callFunc, h1, h4, h5]
  refine lkUnlock_J hk ft1 fun y8 q1 ft => ?_
  rw [Frame.finish_at]
  walk_nrm
  replace hk := (q1.cell (p := th k 0) b3).trans hk
  replace o1 := o1.but q1 (by omega)
  clear q1 ft1
  repeat first
    | refine JG.seq ?_
    | refine JG.skip ?_
    | refine JG.inBlock ?_
    | refine JG.block ?_
    | refine JG.done ?_
    | refine JG.label ?_
    | refine JG.condT rfl ?_
    | refine JG.condF rfl ?_
    | (refine JG.region ?_; simp only [List.size_toArray, List.length_cons, List.length_nil, Nat.reduceAdd, Nat.zero_add, List.range, List.range.loop])
    | (refine JG.unwanted rfl (by rfl) ?_; try walk_nrm)
    | (refine JG.op (F := F0) stands0 (fun h => by cases h) rfl rfl (by rfl) (by decide) (fun K E hK hE τ d => ?_); go_simp; refine hK _ _ (JG.tap ?_); clear hK hE K E τ d; try walk_nrm)
  refine JG.call (f := 54) (args := #[P0 k, .pointer none]) rfl (by rfl) (by decide) (fun w => ?_) (fun w => ?_) ?_
  · obtain ⟨fn, h1, h2, h3⟩ : HasBody 54 := ⟨_, Try.func54, by kernel_rfl, by kernel_rfl⟩
    have h4 : ¬ fn.name = "runtime.NumGoroutine" := by simpa using h2
    have h5 : ¬ fn.body = none := by intro e; rw [e] at h3; cases h3
    simp [go_sem, execOp, Act.eval, resolve, Deferred.ofValue, invoke, callFunc, h1, h4, h5]
  · obtain ⟨fn, h1, h2, h3⟩ : HasBody 54 := ⟨_, Try.func54, by kernel_rfl, by kernel_rfl⟩
    have h4 : ¬ fn.name = "runtime.NumGoroutine" := by simpa using h2
    have h5 : ¬ fn.body = none := by intro e; rw [e] at h3; cases h3
    simp [go_sem, execOp, Act.eval, resolve, Deferred.ofValue, invoke, callFunc, h1, h4, h5]
  refine lkTry_J hk ft fun y9 q1 ft1 => ?_
  rw [Frame.finish_at]
  walk_nrm
  replace o1 := o1.but q1 (by omega)
  repeat first
    | refine JG.seq ?_
    | refine JG.skip ?_
    | refine JG.inBlock ?_
    | refine JG.block ?_
    | refine JG.done ?_
    | refine JG.label ?_
    | refine JG.condT rfl ?_
    | refine JG.condF rfl ?_
    | (refine JG.region ?_; simp only [List.size_toArray, List.length_cons, List.length_nil, Nat.reduceAdd, Nat.zero_add, List.range, List.range.loop])
    | (refine JG.unwanted rfl (by rfl) ?_; try walk_nrm)
    | (refine JG.op (F := F0) stands0 (fun h => by cases h) rfl rfl (by rfl) (by decide) (fun K E hK hE τ d => ?_); go_simp; refine hK _ _ (JG.tap ?_); clear hK hE K E τ d; try walk_nrm)
  refine JG.ret ?_
  exact JG.leave rfl rfl Try.func45 (fun τ d => results_tmp (t := 0) rfl _ _ _) (h _ o1)
end
end Go.Proofs.Ytecmobjiepgfjaa
