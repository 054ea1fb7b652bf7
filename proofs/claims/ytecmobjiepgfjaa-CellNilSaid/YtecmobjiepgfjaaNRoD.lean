/- A cell's functions, called by a thread that lives: each is one Step. -/
import Derived.Test.YtecmobjiepgfjaaNRnU
import Derived.Test.YtecmobjiepgfjaaNGtN
namespace Go.Proofs.Ytecmobjiepgfjaa
open Go.Conc Go.RowKit
open Go.ConcN (upd upd_same upd_ne)
set_option linter.unusedSimpArgs false
set_option linter.unusedVariables false
set_option maxRecDepth 100000
section
variable {Sh : Type} {Post : Value → World → Prop} {S : Side Sh} {tb rb m : Nat} {cb : Frame} {C : Ctx} {x : World} {k : Told → Prog Sh Unit} {c : Frame} {cs : List Frame} {i : Nat}
/-- From a caller's frame to the frame that it has called. -/
theorem AfterV.up {f f' : Told → Value} {pf : Frame} (h1 : ∀ (a : Told) (C : Ctx) (x : World), JG Try.prog Post C (G (c.finish (f' a)) cs) x → JG Try.prog Post C (G (pf.finish (f a)) (c :: cs)) x)
    (h2 : ∀ (C : Ctx) (x : World), JG Try.prog Post C (G (c.raise [{ v := stopV, recovered := false }]) cs) x → JG Try.prog Post C (G (pf.raise [{ v := stopV, recovered := false }]) (c :: cs)) x) :
    AfterV Post S tb rb cb m f' k c cs → AfterV Post S tb rb cb m f k pf (c :: cs) := by
  cases m with
  | zero => exact fun h C x hb => h2 C x (h C x hb)
  | succ m => exact fun h => ⟨fun C x hb => h2 C x (h.1 C x hb), fun C x col sh cells a e1 e2 e3 e4 e5 e6 => h1 a C x (h.2 C x col sh cells a e1 e2 e3 e4 e5 e6)⟩
/-- The thread may do its next Step here. -/
def StepAt (Post : Value → World → Prop) (S : Side Sh) (tb rb : Nat) (cb : Frame) (m : Nat) (C : Ctx) (x : World) (r : Ask) (k : Told → Prog Sh Unit) : Prop :=
  ∀ (c : Frame) (cs : List Frame), r.Good → r.cell < S.nc → AfterV Post S tb rb cb m stepV k c cs → JG Try.prog Post C (G (Frame.enter Try.prog 101 #[P0 tb, P0 (S.A r.cell), .int .i8 r.op, .int .i64 r.arg, .int .i64 r.new] .normal) (c :: cs)) x
theorem Reach.step {col : Nat → Prop} {cells : Nat → Int} {sh : Sh} {r : Ask} {x0 : World} (R : Reach Post S tb cb (AfterV Post S tb rb cb m stepV) C col cells x0 sh (.acc r k)) (h1 : x0.heap.size ≤ x.heap.size) (h2 : ∀ r, col r → x.heap[r]? = x0.heap[r]?) (h3 : S.I sh cells col x) : StepAt Post S tb rb cb m C x r k := R x h1 h2 h3
set_option maxHeartbeats 4000000 in
theorem cellLoad_R (hm : x.cell? (th (S.A i) 1) = some (.bool true)) (hL : Lives x tb rb) (hi : i < S.nc) (R : StepAt Post S tb rb cb m C x ⟨1, i, 0, 0⟩ k) (ha : AfterV Post S tb rb cb m (fun a => .int .i64 a.was) k c cs) :
    JG Try.prog Post C (G (Frame.enter Try.prog 29 #[P0 (S.A i), P0 tb] .normal) (c :: cs)) x := by
  obtain ⟨h0, h13, _⟩ := hL
  have R' := R
  unfold StepAt at R'
  replace R' := Lib.hid R'
  clear R
  refine enterN Try.func29 (by rfl) (by rfl) ?_
  simp only [Try.f29, Option.getD_some]
  walk_nrm
  repeat first | refine JG.seq ?_ | refine JG.skip ?_ | refine JG.inBlock ?_ | refine JG.block ?_ | refine JG.done ?_ | refine JG.label ?_ | refine JG.condT rfl ?_ | refine JG.condF rfl ?_ | (refine JG.region ?_; simp only [List.size_toArray, List.length_cons, List.length_nil, Nat.reduceAdd, Nat.zero_add, List.range, List.range.loop]) | (refine JG.unwanted rfl (by rfl) ?_; try walk_nrm) | (refine jgo rfl rfl (by rfl) (by decide) (fun K E hK hE τ d => ?_); go_simp; refine hK _ _ (JG.tap ?_); clear hK hE K E τ d; try walk_nrm)
  refine JG.call (f := 99) (args := #[P0 (S.A i)]) rfl (by rfl) (by decide) (fun w => ?_) (fun w => ?_) ?_
  iterate 2 (focus obtain ⟨fn, h1, h2, h3⟩ : HasBody 99 := ⟨_, Try.func99, by kernel_rfl, by kernel_rfl⟩; have h4 : ¬ fn.name = "runtime.NumGoroutine" := (by simpa using h2); have h5 : ¬ fn.body = none := (by intro e; rw [e] at h3; cases h3); simp [go_sem, execOp, Act.eval, resolve, Deferred.ofValue, invoke, callFunc, h1, h4, h5])
  refine none_J hm ?_
  rw [Frame.finish_at]
  walk_nrm
  repeat first | refine JG.seq ?_ | refine JG.skip ?_ | refine JG.inBlock ?_ | refine JG.block ?_ | refine JG.done ?_ | refine JG.label ?_ | refine JG.condT rfl ?_ | refine JG.condF rfl ?_ | (refine JG.region ?_; simp only [List.size_toArray, List.length_cons, List.length_nil, Nat.reduceAdd, Nat.zero_add, List.range, List.range.loop]) | (refine JG.unwanted rfl (by rfl) ?_; try walk_nrm) | (refine jgo rfl rfl (by rfl) (by decide) (fun K E hK hE τ d => ?_); go_simp; refine hK _ _ (JG.tap ?_); clear hK hE K E τ d; try walk_nrm)
  refine JG.call (f := 100) (args := #[P0 tb]) rfl (by rfl) (by decide) (fun w => ?_) (fun w => ?_) ?_
  iterate 2 (focus obtain ⟨fn, h1, h2, h3⟩ : HasBody 100 := ⟨_, Try.func100, by kernel_rfl, by kernel_rfl⟩; have h4 : ¬ fn.name = "runtime.NumGoroutine" := (by simpa using h2); have h5 : ¬ fn.body = none := (by intro e; rw [e] at h3; cases h3); simp [go_sem, execOp, Act.eval, resolve, Deferred.ofValue, invoke, callFunc, h1, h4, h5])
  refine liveT_J h0 h13 ?_
  rw [Frame.finish_at]
  walk_nrm
  repeat first | refine JG.seq ?_ | refine JG.skip ?_ | refine JG.inBlock ?_ | refine JG.block ?_ | refine JG.done ?_ | refine JG.label ?_ | refine JG.condT rfl ?_ | refine JG.condF rfl ?_ | (refine JG.region ?_; simp only [List.size_toArray, List.length_cons, List.length_nil, Nat.reduceAdd, Nat.zero_add, List.range, List.range.loop]) | (refine JG.unwanted rfl (by rfl) ?_; try walk_nrm) | (refine jgo rfl rfl (by rfl) (by decide) (fun K E hK hE τ d => ?_); go_simp; refine hK _ _ (JG.tap ?_); clear hK hE K E τ d; try walk_nrm)
  refine JG.call (f := 101) (args := #[P0 tb, P0 (S.A i), .int .i8 1, .int .i64 (0), .int .i64 (0)]) rfl (by rfl) (by decide) (fun w => ?_) (fun w => ?_) ?_
  iterate 2 (focus obtain ⟨fn, h1, h2, h3⟩ : HasBody 101 := ⟨_, Try.func101, by kernel_rfl, by kernel_rfl⟩; have h4 : ¬ fn.name = "runtime.NumGoroutine" := (by simpa using h2); have h5 : ¬ fn.body = none := (by intro e; rw [e] at h3; cases h3); simp [go_sem, execOp, Act.eval, resolve, Deferred.ofValue, invoke, callFunc, h1, h4, h5])
  refine R'.out _ _ ⟨(by decide : (1 : Int) ≤ 1), (by decide : (1 : Int) ≤ 6), fun _ => rfl, fun _ => rfl⟩ hi (AfterV.up (fun a C x h => ?_) (fun C x h => JG.raise rfl Try.func29 h) ha)
  rw [Frame.finish_at]
  simp only [stepV]
  walk_nrm
  repeat first | refine JG.seq ?_ | refine JG.skip ?_ | refine JG.inBlock ?_ | refine JG.block ?_ | refine JG.done ?_ | refine JG.label ?_ | refine JG.condT rfl ?_ | refine JG.condF rfl ?_ | (refine JG.region ?_; simp only [List.size_toArray, List.length_cons, List.length_nil, Nat.reduceAdd, Nat.zero_add, List.range, List.range.loop]) | (refine JG.unwanted rfl (by rfl) ?_; try walk_nrm) | (refine jgo rfl rfl (by rfl) (by decide) (fun K E hK hE τ d => ?_); go_simp; refine hK _ _ (JG.tap ?_); clear hK hE K E τ d; try walk_nrm)
  refine JG.ret ?_
  exact JG.leave rfl rfl Try.func29 (fun τ d => results_tmp (t := 4) rfl _ _ _) h
set_option maxHeartbeats 4000000 in
theorem cellStore_R {v : Int} (hm : x.cell? (th (S.A i) 1) = some (.bool true)) (hL : Lives x tb rb) (hi : i < S.nc) (R : StepAt Post S tb rb cb m C x ⟨2, i, v, 0⟩ k) (ha : AfterV Post S tb rb cb m (fun a => .tuple #[]) k c cs) :
    JG Try.prog Post C (G (Frame.enter Try.prog 79 #[P0 (S.A i), P0 tb, .int .i64 v] .normal) (c :: cs)) x := by
  obtain ⟨h0, h13, _⟩ := hL
  have R' := R
  unfold StepAt at R'
  replace R' := Lib.hid R'
  clear R
  refine enterN Try.func79 (by rfl) (by rfl) ?_
  simp only [Try.f79, Option.getD_some]
  walk_nrm
  repeat first | refine JG.seq ?_ | refine JG.skip ?_ | refine JG.inBlock ?_ | refine JG.block ?_ | refine JG.done ?_ | refine JG.label ?_ | refine JG.condT rfl ?_ | refine JG.condF rfl ?_ | (refine JG.region ?_; simp only [List.size_toArray, List.length_cons, List.length_nil, Nat.reduceAdd, Nat.zero_add, List.range, List.range.loop]) | (refine JG.unwanted rfl (by rfl) ?_; try walk_nrm) | (refine jgo rfl rfl (by rfl) (by decide) (fun K E hK hE τ d => ?_); go_simp; refine hK _ _ (JG.tap ?_); clear hK hE K E τ d; try walk_nrm)
  refine JG.call (f := 99) (args := #[P0 (S.A i)]) rfl (by rfl) (by decide) (fun w => ?_) (fun w => ?_) ?_
  iterate 2 (focus obtain ⟨fn, h1, h2, h3⟩ : HasBody 99 := ⟨_, Try.func99, by kernel_rfl, by kernel_rfl⟩; have h4 : ¬ fn.name = "runtime.NumGoroutine" := (by simpa using h2); have h5 : ¬ fn.body = none := (by intro e; rw [e] at h3; cases h3); simp [go_sem, execOp, Act.eval, resolve, Deferred.ofValue, invoke, callFunc, h1, h4, h5])
  refine none_J hm ?_
  rw [Frame.finish_at]
  walk_nrm
  repeat first | refine JG.seq ?_ | refine JG.skip ?_ | refine JG.inBlock ?_ | refine JG.block ?_ | refine JG.done ?_ | refine JG.label ?_ | refine JG.condT rfl ?_ | refine JG.condF rfl ?_ | (refine JG.region ?_; simp only [List.size_toArray, List.length_cons, List.length_nil, Nat.reduceAdd, Nat.zero_add, List.range, List.range.loop]) | (refine JG.unwanted rfl (by rfl) ?_; try walk_nrm) | (refine jgo rfl rfl (by rfl) (by decide) (fun K E hK hE τ d => ?_); go_simp; refine hK _ _ (JG.tap ?_); clear hK hE K E τ d; try walk_nrm)
  refine JG.call (f := 100) (args := #[P0 tb]) rfl (by rfl) (by decide) (fun w => ?_) (fun w => ?_) ?_
  iterate 2 (focus obtain ⟨fn, h1, h2, h3⟩ : HasBody 100 := ⟨_, Try.func100, by kernel_rfl, by kernel_rfl⟩; have h4 : ¬ fn.name = "runtime.NumGoroutine" := (by simpa using h2); have h5 : ¬ fn.body = none := (by intro e; rw [e] at h3; cases h3); simp [go_sem, execOp, Act.eval, resolve, Deferred.ofValue, invoke, callFunc, h1, h4, h5])
  refine liveT_J h0 h13 ?_
  rw [Frame.finish_at]
  walk_nrm
  repeat first | refine JG.seq ?_ | refine JG.skip ?_ | refine JG.inBlock ?_ | refine JG.block ?_ | refine JG.done ?_ | refine JG.label ?_ | refine JG.condT rfl ?_ | refine JG.condF rfl ?_ | (refine JG.region ?_; simp only [List.size_toArray, List.length_cons, List.length_nil, Nat.reduceAdd, Nat.zero_add, List.range, List.range.loop]) | (refine JG.unwanted rfl (by rfl) ?_; try walk_nrm) | (refine jgo rfl rfl (by rfl) (by decide) (fun K E hK hE τ d => ?_); go_simp; refine hK _ _ (JG.tap ?_); clear hK hE K E τ d; try walk_nrm)
  refine JG.call (f := 101) (args := #[P0 tb, P0 (S.A i), .int .i8 2, .int .i64 (v), .int .i64 (0)]) rfl (by rfl) (by decide) (fun w => ?_) (fun w => ?_) ?_
  iterate 2 (focus obtain ⟨fn, h1, h2, h3⟩ : HasBody 101 := ⟨_, Try.func101, by kernel_rfl, by kernel_rfl⟩; have h4 : ¬ fn.name = "runtime.NumGoroutine" := (by simpa using h2); have h5 : ¬ fn.body = none := (by intro e; rw [e] at h3; cases h3); simp [go_sem, execOp, Act.eval, resolve, Deferred.ofValue, invoke, callFunc, h1, h4, h5])
  refine R'.out _ _ ⟨(by decide : (1 : Int) ≤ 2), (by decide : (2 : Int) ≤ 6), fun e => absurd e (by decide : (2 : Int) ≠ 1), fun _ => rfl⟩ hi (AfterV.up (fun a C x h => ?_) (fun C x h => JG.raise rfl Try.func79 h) ha)
  rw [Frame.finish_at]
  simp only [stepV]
  walk_nrm
  repeat first | refine JG.seq ?_ | refine JG.skip ?_ | refine JG.inBlock ?_ | refine JG.block ?_ | refine JG.done ?_ | refine JG.label ?_ | refine JG.condT rfl ?_ | refine JG.condF rfl ?_ | (refine JG.region ?_; simp only [List.size_toArray, List.length_cons, List.length_nil, Nat.reduceAdd, Nat.zero_add, List.range, List.range.loop]) | (refine JG.unwanted rfl (by rfl) ?_; try walk_nrm) | (refine jgo rfl rfl (by rfl) (by decide) (fun K E hK hE τ d => ?_); go_simp; refine hK _ _ (JG.tap ?_); clear hK hE K E τ d; try walk_nrm)
  refine JG.ret ?_
  exact JG.leave rfl rfl Try.func79 (fun τ d => results_none rfl _ _ _) h
set_option maxHeartbeats 4000000 in
theorem cellCas_R {o n : Int} (hm : x.cell? (th (S.A i) 1) = some (.bool true)) (hL : Lives x tb rb) (hi : i < S.nc) (R : StepAt Post S tb rb cb m C x ⟨3, i, o, n⟩ k) (ha : AfterV Post S tb rb cb m (fun a => .bool a.ok) k c cs) :
    JG Try.prog Post C (G (Frame.enter Try.prog 74 #[P0 (S.A i), P0 tb, .int .i64 o, .int .i64 n] .normal) (c :: cs)) x := by
  obtain ⟨h0, h13, _⟩ := hL
  have R' := R
  unfold StepAt at R'
  replace R' := Lib.hid R'
  clear R
  refine enterN Try.func74 (by rfl) (by rfl) ?_
  simp only [Try.f74, Option.getD_some]
  walk_nrm
  repeat first | refine JG.seq ?_ | refine JG.skip ?_ | refine JG.inBlock ?_ | refine JG.block ?_ | refine JG.done ?_ | refine JG.label ?_ | refine JG.condT rfl ?_ | refine JG.condF rfl ?_ | (refine JG.region ?_; simp only [List.size_toArray, List.length_cons, List.length_nil, Nat.reduceAdd, Nat.zero_add, List.range, List.range.loop]) | (refine JG.unwanted rfl (by rfl) ?_; try walk_nrm) | (refine jgo rfl rfl (by rfl) (by decide) (fun K E hK hE τ d => ?_); go_simp; refine hK _ _ (JG.tap ?_); clear hK hE K E τ d; try walk_nrm)
  refine JG.call (f := 99) (args := #[P0 (S.A i)]) rfl (by rfl) (by decide) (fun w => ?_) (fun w => ?_) ?_
  iterate 2 (focus obtain ⟨fn, h1, h2, h3⟩ : HasBody 99 := ⟨_, Try.func99, by kernel_rfl, by kernel_rfl⟩; have h4 : ¬ fn.name = "runtime.NumGoroutine" := (by simpa using h2); have h5 : ¬ fn.body = none := (by intro e; rw [e] at h3; cases h3); simp [go_sem, execOp, Act.eval, resolve, Deferred.ofValue, invoke, callFunc, h1, h4, h5])
  refine none_J hm ?_
  rw [Frame.finish_at]
  walk_nrm
  repeat first | refine JG.seq ?_ | refine JG.skip ?_ | refine JG.inBlock ?_ | refine JG.block ?_ | refine JG.done ?_ | refine JG.label ?_ | refine JG.condT rfl ?_ | refine JG.condF rfl ?_ | (refine JG.region ?_; simp only [List.size_toArray, List.length_cons, List.length_nil, Nat.reduceAdd, Nat.zero_add, List.range, List.range.loop]) | (refine JG.unwanted rfl (by rfl) ?_; try walk_nrm) | (refine jgo rfl rfl (by rfl) (by decide) (fun K E hK hE τ d => ?_); go_simp; refine hK _ _ (JG.tap ?_); clear hK hE K E τ d; try walk_nrm)
  refine JG.call (f := 100) (args := #[P0 tb]) rfl (by rfl) (by decide) (fun w => ?_) (fun w => ?_) ?_
  iterate 2 (focus obtain ⟨fn, h1, h2, h3⟩ : HasBody 100 := ⟨_, Try.func100, by kernel_rfl, by kernel_rfl⟩; have h4 : ¬ fn.name = "runtime.NumGoroutine" := (by simpa using h2); have h5 : ¬ fn.body = none := (by intro e; rw [e] at h3; cases h3); simp [go_sem, execOp, Act.eval, resolve, Deferred.ofValue, invoke, callFunc, h1, h4, h5])
  refine liveT_J h0 h13 ?_
  rw [Frame.finish_at]
  walk_nrm
  repeat first | refine JG.seq ?_ | refine JG.skip ?_ | refine JG.inBlock ?_ | refine JG.block ?_ | refine JG.done ?_ | refine JG.label ?_ | refine JG.condT rfl ?_ | refine JG.condF rfl ?_ | (refine JG.region ?_; simp only [List.size_toArray, List.length_cons, List.length_nil, Nat.reduceAdd, Nat.zero_add, List.range, List.range.loop]) | (refine JG.unwanted rfl (by rfl) ?_; try walk_nrm) | (refine jgo rfl rfl (by rfl) (by decide) (fun K E hK hE τ d => ?_); go_simp; refine hK _ _ (JG.tap ?_); clear hK hE K E τ d; try walk_nrm)
  refine JG.call (f := 101) (args := #[P0 tb, P0 (S.A i), .int .i8 3, .int .i64 (o), .int .i64 (n)]) rfl (by rfl) (by decide) (fun w => ?_) (fun w => ?_) ?_
  iterate 2 (focus obtain ⟨fn, h1, h2, h3⟩ : HasBody 101 := ⟨_, Try.func101, by kernel_rfl, by kernel_rfl⟩; have h4 : ¬ fn.name = "runtime.NumGoroutine" := (by simpa using h2); have h5 : ¬ fn.body = none := (by intro e; rw [e] at h3; cases h3); simp [go_sem, execOp, Act.eval, resolve, Deferred.ofValue, invoke, callFunc, h1, h4, h5])
  refine R'.out _ _ ⟨(by decide : (1 : Int) ≤ 3), (by decide : (3 : Int) ≤ 6), fun e => absurd e (by decide : (3 : Int) ≠ 1), fun e => absurd rfl e⟩ hi (AfterV.up (fun a C x h => ?_) (fun C x h => JG.raise rfl Try.func74 h) ha)
  rw [Frame.finish_at]
  simp only [stepV]
  walk_nrm
  repeat first | refine JG.seq ?_ | refine JG.skip ?_ | refine JG.inBlock ?_ | refine JG.block ?_ | refine JG.done ?_ | refine JG.label ?_ | refine JG.condT rfl ?_ | refine JG.condF rfl ?_ | (refine JG.region ?_; simp only [List.size_toArray, List.length_cons, List.length_nil, Nat.reduceAdd, Nat.zero_add, List.range, List.range.loop]) | (refine JG.unwanted rfl (by rfl) ?_; try walk_nrm) | (refine jgo rfl rfl (by rfl) (by decide) (fun K E hK hE τ d => ?_); go_simp; refine hK _ _ (JG.tap ?_); clear hK hE K E τ d; try walk_nrm)
  refine JG.ret ?_
  exact JG.leave rfl rfl Try.func74 (fun τ d => results_tmp (t := 8) rfl _ _ _) h
set_option maxHeartbeats 4000000 in
theorem cellAdd_R {v : Int} (hm : x.cell? (th (S.A i) 1) = some (.bool true)) (hL : Lives x tb rb) (hi : i < S.nc) (R : StepAt Post S tb rb cb m C x ⟨4, i, v, 0⟩ k) (ha : AfterV Post S tb rb cb m (fun a => .int .i64 a.now) k c cs) :
    JG Try.prog Post C (G (Frame.enter Try.prog 73 #[P0 (S.A i), P0 tb, .int .i64 v] .normal) (c :: cs)) x := by
  obtain ⟨h0, h13, _⟩ := hL
  have R' := R
  unfold StepAt at R'
  replace R' := Lib.hid R'
  clear R
  refine enterN Try.func73 (by rfl) (by rfl) ?_
  simp only [Try.f73, Option.getD_some]
  walk_nrm
  repeat first | refine JG.seq ?_ | refine JG.skip ?_ | refine JG.inBlock ?_ | refine JG.block ?_ | refine JG.done ?_ | refine JG.label ?_ | refine JG.condT rfl ?_ | refine JG.condF rfl ?_ | (refine JG.region ?_; simp only [List.size_toArray, List.length_cons, List.length_nil, Nat.reduceAdd, Nat.zero_add, List.range, List.range.loop]) | (refine JG.unwanted rfl (by rfl) ?_; try walk_nrm) | (refine jgo rfl rfl (by rfl) (by decide) (fun K E hK hE τ d => ?_); go_simp; refine hK _ _ (JG.tap ?_); clear hK hE K E τ d; try walk_nrm)
  refine JG.call (f := 99) (args := #[P0 (S.A i)]) rfl (by rfl) (by decide) (fun w => ?_) (fun w => ?_) ?_
  iterate 2 (focus obtain ⟨fn, h1, h2, h3⟩ : HasBody 99 := ⟨_, Try.func99, by kernel_rfl, by kernel_rfl⟩; have h4 : ¬ fn.name = "runtime.NumGoroutine" := (by simpa using h2); have h5 : ¬ fn.body = none := (by intro e; rw [e] at h3; cases h3); simp [go_sem, execOp, Act.eval, resolve, Deferred.ofValue, invoke, callFunc, h1, h4, h5])
  refine none_J hm ?_
  rw [Frame.finish_at]
  walk_nrm
  repeat first | refine JG.seq ?_ | refine JG.skip ?_ | refine JG.inBlock ?_ | refine JG.block ?_ | refine JG.done ?_ | refine JG.label ?_ | refine JG.condT rfl ?_ | refine JG.condF rfl ?_ | (refine JG.region ?_; simp only [List.size_toArray, List.length_cons, List.length_nil, Nat.reduceAdd, Nat.zero_add, List.range, List.range.loop]) | (refine JG.unwanted rfl (by rfl) ?_; try walk_nrm) | (refine jgo rfl rfl (by rfl) (by decide) (fun K E hK hE τ d => ?_); go_simp; refine hK _ _ (JG.tap ?_); clear hK hE K E τ d; try walk_nrm)
  refine JG.call (f := 100) (args := #[P0 tb]) rfl (by rfl) (by decide) (fun w => ?_) (fun w => ?_) ?_
  iterate 2 (focus obtain ⟨fn, h1, h2, h3⟩ : HasBody 100 := ⟨_, Try.func100, by kernel_rfl, by kernel_rfl⟩; have h4 : ¬ fn.name = "runtime.NumGoroutine" := (by simpa using h2); have h5 : ¬ fn.body = none := (by intro e; rw [e] at h3; cases h3); simp [go_sem, execOp, Act.eval, resolve, Deferred.ofValue, invoke, callFunc, h1, h4, h5])
  refine liveT_J h0 h13 ?_
  rw [Frame.finish_at]
  walk_nrm
  repeat first | refine JG.seq ?_ | refine JG.skip ?_ | refine JG.inBlock ?_ | refine JG.block ?_ | refine JG.done ?_ | refine JG.label ?_ | refine JG.condT rfl ?_ | refine JG.condF rfl ?_ | (refine JG.region ?_; simp only [List.size_toArray, List.length_cons, List.length_nil, Nat.reduceAdd, Nat.zero_add, List.range, List.range.loop]) | (refine JG.unwanted rfl (by rfl) ?_; try walk_nrm) | (refine jgo rfl rfl (by rfl) (by decide) (fun K E hK hE τ d => ?_); go_simp; refine hK _ _ (JG.tap ?_); clear hK hE K E τ d; try walk_nrm)
  refine JG.call (f := 101) (args := #[P0 tb, P0 (S.A i), .int .i8 4, .int .i64 (v), .int .i64 (0)]) rfl (by rfl) (by decide) (fun w => ?_) (fun w => ?_) ?_
  iterate 2 (focus obtain ⟨fn, h1, h2, h3⟩ : HasBody 101 := ⟨_, Try.func101, by kernel_rfl, by kernel_rfl⟩; have h4 : ¬ fn.name = "runtime.NumGoroutine" := (by simpa using h2); have h5 : ¬ fn.body = none := (by intro e; rw [e] at h3; cases h3); simp [go_sem, execOp, Act.eval, resolve, Deferred.ofValue, invoke, callFunc, h1, h4, h5])
  refine R'.out _ _ ⟨(by decide : (1 : Int) ≤ 4), (by decide : (4 : Int) ≤ 6), fun e => absurd e (by decide : (4 : Int) ≠ 1), fun _ => rfl⟩ hi (AfterV.up (fun a C x h => ?_) (fun C x h => JG.raise rfl Try.func73 h) ha)
  rw [Frame.finish_at]
  simp only [stepV]
  walk_nrm
  repeat first | refine JG.seq ?_ | refine JG.skip ?_ | refine JG.inBlock ?_ | refine JG.block ?_ | refine JG.done ?_ | refine JG.label ?_ | refine JG.condT rfl ?_ | refine JG.condF rfl ?_ | (refine JG.region ?_; simp only [List.size_toArray, List.length_cons, List.length_nil, Nat.reduceAdd, Nat.zero_add, List.range, List.range.loop]) | (refine JG.unwanted rfl (by rfl) ?_; try walk_nrm) | (refine jgo rfl rfl (by rfl) (by decide) (fun K E hK hE τ d => ?_); go_simp; refine hK _ _ (JG.tap ?_); clear hK hE K E τ d; try walk_nrm)
  refine JG.ret ?_
  exact JG.leave rfl rfl Try.func73 (fun τ d => results_tmp (t := 6) rfl _ _ _) h
set_option maxHeartbeats 4000000 in
theorem cellSwap_R {v : Int} (hm : x.cell? (th (S.A i) 1) = some (.bool true)) (hL : Lives x tb rb) (hi : i < S.nc) (R : StepAt Post S tb rb cb m C x ⟨5, i, v, 0⟩ k) (ha : AfterV Post S tb rb cb m (fun a => .int .i64 a.was) k c cs) :
    JG Try.prog Post C (G (Frame.enter Try.prog 75 #[P0 (S.A i), P0 tb, .int .i64 v] .normal) (c :: cs)) x := by
  obtain ⟨h0, h13, _⟩ := hL
  have R' := R
  unfold StepAt at R'
  replace R' := Lib.hid R'
  clear R
  refine enterN Try.func75 (by rfl) (by rfl) ?_
  simp only [Try.f75, Option.getD_some]
  walk_nrm
  repeat first | refine JG.seq ?_ | refine JG.skip ?_ | refine JG.inBlock ?_ | refine JG.block ?_ | refine JG.done ?_ | refine JG.label ?_ | refine JG.condT rfl ?_ | refine JG.condF rfl ?_ | (refine JG.region ?_; simp only [List.size_toArray, List.length_cons, List.length_nil, Nat.reduceAdd, Nat.zero_add, List.range, List.range.loop]) | (refine JG.unwanted rfl (by rfl) ?_; try walk_nrm) | (refine jgo rfl rfl (by rfl) (by decide) (fun K E hK hE τ d => ?_); go_simp; refine hK _ _ (JG.tap ?_); clear hK hE K E τ d; try walk_nrm)
  refine JG.call (f := 99) (args := #[P0 (S.A i)]) rfl (by rfl) (by decide) (fun w => ?_) (fun w => ?_) ?_
  iterate 2 (focus obtain ⟨fn, h1, h2, h3⟩ : HasBody 99 := ⟨_, Try.func99, by kernel_rfl, by kernel_rfl⟩; have h4 : ¬ fn.name = "runtime.NumGoroutine" := (by simpa using h2); have h5 : ¬ fn.body = none := (by intro e; rw [e] at h3; cases h3); simp [go_sem, execOp, Act.eval, resolve, Deferred.ofValue, invoke, callFunc, h1, h4, h5])
  refine none_J hm ?_
  rw [Frame.finish_at]
  walk_nrm
  repeat first | refine JG.seq ?_ | refine JG.skip ?_ | refine JG.inBlock ?_ | refine JG.block ?_ | refine JG.done ?_ | refine JG.label ?_ | refine JG.condT rfl ?_ | refine JG.condF rfl ?_ | (refine JG.region ?_; simp only [List.size_toArray, List.length_cons, List.length_nil, Nat.reduceAdd, Nat.zero_add, List.range, List.range.loop]) | (refine JG.unwanted rfl (by rfl) ?_; try walk_nrm) | (refine jgo rfl rfl (by rfl) (by decide) (fun K E hK hE τ d => ?_); go_simp; refine hK _ _ (JG.tap ?_); clear hK hE K E τ d; try walk_nrm)
  refine JG.call (f := 100) (args := #[P0 tb]) rfl (by rfl) (by decide) (fun w => ?_) (fun w => ?_) ?_
  iterate 2 (focus obtain ⟨fn, h1, h2, h3⟩ : HasBody 100 := ⟨_, Try.func100, by kernel_rfl, by kernel_rfl⟩; have h4 : ¬ fn.name = "runtime.NumGoroutine" := (by simpa using h2); have h5 : ¬ fn.body = none := (by intro e; rw [e] at h3; cases h3); simp [go_sem, execOp, Act.eval, resolve, Deferred.ofValue, invoke, callFunc, h1, h4, h5])
  refine liveT_J h0 h13 ?_
  rw [Frame.finish_at]
  walk_nrm
  repeat first | refine JG.seq ?_ | refine JG.skip ?_ | refine JG.inBlock ?_ | refine JG.block ?_ | refine JG.done ?_ | refine JG.label ?_ | refine JG.condT rfl ?_ | refine JG.condF rfl ?_ | (refine JG.region ?_; simp only [List.size_toArray, List.length_cons, List.length_nil, Nat.reduceAdd, Nat.zero_add, List.range, List.range.loop]) | (refine JG.unwanted rfl (by rfl) ?_; try walk_nrm) | (refine jgo rfl rfl (by rfl) (by decide) (fun K E hK hE τ d => ?_); go_simp; refine hK _ _ (JG.tap ?_); clear hK hE K E τ d; try walk_nrm)
  refine JG.call (f := 101) (args := #[P0 tb, P0 (S.A i), .int .i8 5, .int .i64 (v), .int .i64 (0)]) rfl (by rfl) (by decide) (fun w => ?_) (fun w => ?_) ?_
  iterate 2 (focus obtain ⟨fn, h1, h2, h3⟩ : HasBody 101 := ⟨_, Try.func101, by kernel_rfl, by kernel_rfl⟩; have h4 : ¬ fn.name = "runtime.NumGoroutine" := (by simpa using h2); have h5 : ¬ fn.body = none := (by intro e; rw [e] at h3; cases h3); simp [go_sem, execOp, Act.eval, resolve, Deferred.ofValue, invoke, callFunc, h1, h4, h5])
  refine R'.out _ _ ⟨(by decide : (1 : Int) ≤ 5), (by decide : (5 : Int) ≤ 6), fun e => absurd e (by decide : (5 : Int) ≠ 1), fun _ => rfl⟩ hi (AfterV.up (fun a C x h => ?_) (fun C x h => JG.raise rfl Try.func75 h) ha)
  rw [Frame.finish_at]
  simp only [stepV]
  walk_nrm
  repeat first | refine JG.seq ?_ | refine JG.skip ?_ | refine JG.inBlock ?_ | refine JG.block ?_ | refine JG.done ?_ | refine JG.label ?_ | refine JG.condT rfl ?_ | refine JG.condF rfl ?_ | (refine JG.region ?_; simp only [List.size_toArray, List.length_cons, List.length_nil, Nat.reduceAdd, Nat.zero_add, List.range, List.range.loop]) | (refine JG.unwanted rfl (by rfl) ?_; try walk_nrm) | (refine jgo rfl rfl (by rfl) (by decide) (fun K E hK hE τ d => ?_); go_simp; refine hK _ _ (JG.tap ?_); clear hK hE K E τ d; try walk_nrm)
  refine JG.ret ?_
  exact JG.leave rfl rfl Try.func75 (fun τ d => results_tmp (t := 6) rfl _ _ _) h
set_option maxHeartbeats 4000000 in
theorem cellPark_R {v : Int} (hm : x.cell? (th (S.A i) 1) = some (.bool true)) (hL : Lives x tb rb) (hi : i < S.nc) (R : StepAt Post S tb rb cb m C x ⟨6, i, v, 0⟩ k) (ha : AfterV Post S tb rb cb m (fun a => .int .i64 a.was) k c cs) :
    JG Try.prog Post C (G (Frame.enter Try.prog 77 #[P0 (S.A i), P0 tb, .int .i64 v] .normal) (c :: cs)) x := by
  obtain ⟨h0, h13, _⟩ := hL
  have R' := R
  unfold StepAt at R'
  replace R' := Lib.hid R'
  clear R
  refine enterN Try.func77 (by rfl) (by rfl) ?_
  simp only [Try.f77, Option.getD_some]
  walk_nrm
  repeat first | refine JG.seq ?_ | refine JG.skip ?_ | refine JG.inBlock ?_ | refine JG.block ?_ | refine JG.done ?_ | refine JG.label ?_ | refine JG.condT rfl ?_ | refine JG.condF rfl ?_ | (refine JG.region ?_; simp only [List.size_toArray, List.length_cons, List.length_nil, Nat.reduceAdd, Nat.zero_add, List.range, List.range.loop]) | (refine JG.unwanted rfl (by rfl) ?_; try walk_nrm) | (refine jgo rfl rfl (by rfl) (by decide) (fun K E hK hE τ d => ?_); go_simp; refine hK _ _ (JG.tap ?_); clear hK hE K E τ d; try walk_nrm)
  refine JG.call (f := 99) (args := #[P0 (S.A i)]) rfl (by rfl) (by decide) (fun w => ?_) (fun w => ?_) ?_
  iterate 2 (focus obtain ⟨fn, h1, h2, h3⟩ : HasBody 99 := ⟨_, Try.func99, by kernel_rfl, by kernel_rfl⟩; have h4 : ¬ fn.name = "runtime.NumGoroutine" := (by simpa using h2); have h5 : ¬ fn.body = none := (by intro e; rw [e] at h3; cases h3); simp [go_sem, execOp, Act.eval, resolve, Deferred.ofValue, invoke, callFunc, h1, h4, h5])
  refine none_J hm ?_
  rw [Frame.finish_at]
  walk_nrm
  repeat first | refine JG.seq ?_ | refine JG.skip ?_ | refine JG.inBlock ?_ | refine JG.block ?_ | refine JG.done ?_ | refine JG.label ?_ | refine JG.condT rfl ?_ | refine JG.condF rfl ?_ | (refine JG.region ?_; simp only [List.size_toArray, List.length_cons, List.length_nil, Nat.reduceAdd, Nat.zero_add, List.range, List.range.loop]) | (refine JG.unwanted rfl (by rfl) ?_; try walk_nrm) | (refine jgo rfl rfl (by rfl) (by decide) (fun K E hK hE τ d => ?_); go_simp; refine hK _ _ (JG.tap ?_); clear hK hE K E τ d; try walk_nrm)
  refine JG.call (f := 100) (args := #[P0 tb]) rfl (by rfl) (by decide) (fun w => ?_) (fun w => ?_) ?_
  iterate 2 (focus obtain ⟨fn, h1, h2, h3⟩ : HasBody 100 := ⟨_, Try.func100, by kernel_rfl, by kernel_rfl⟩; have h4 : ¬ fn.name = "runtime.NumGoroutine" := (by simpa using h2); have h5 : ¬ fn.body = none := (by intro e; rw [e] at h3; cases h3); simp [go_sem, execOp, Act.eval, resolve, Deferred.ofValue, invoke, callFunc, h1, h4, h5])
  refine liveT_J h0 h13 ?_
  rw [Frame.finish_at]
  walk_nrm
  repeat first | refine JG.seq ?_ | refine JG.skip ?_ | refine JG.inBlock ?_ | refine JG.block ?_ | refine JG.done ?_ | refine JG.label ?_ | refine JG.condT rfl ?_ | refine JG.condF rfl ?_ | (refine JG.region ?_; simp only [List.size_toArray, List.length_cons, List.length_nil, Nat.reduceAdd, Nat.zero_add, List.range, List.range.loop]) | (refine JG.unwanted rfl (by rfl) ?_; try walk_nrm) | (refine jgo rfl rfl (by rfl) (by decide) (fun K E hK hE τ d => ?_); go_simp; refine hK _ _ (JG.tap ?_); clear hK hE K E τ d; try walk_nrm)
  refine JG.call (f := 101) (args := #[P0 tb, P0 (S.A i), .int .i8 6, .int .i64 (v), .int .i64 (0)]) rfl (by rfl) (by decide) (fun w => ?_) (fun w => ?_) ?_
  iterate 2 (focus obtain ⟨fn, h1, h2, h3⟩ : HasBody 101 := ⟨_, Try.func101, by kernel_rfl, by kernel_rfl⟩; have h4 : ¬ fn.name = "runtime.NumGoroutine" := (by simpa using h2); have h5 : ¬ fn.body = none := (by intro e; rw [e] at h3; cases h3); simp [go_sem, execOp, Act.eval, resolve, Deferred.ofValue, invoke, callFunc, h1, h4, h5])
  refine R'.out _ _ ⟨(by decide : (1 : Int) ≤ 6), (by decide : (6 : Int) ≤ 6), fun e => absurd e (by decide : (6 : Int) ≠ 1), fun _ => rfl⟩ hi (AfterV.up (fun a C x h => ?_) (fun C x h => JG.raise rfl Try.func77 h) ha)
  rw [Frame.finish_at]
  simp only [stepV]
  walk_nrm
  repeat first | refine JG.seq ?_ | refine JG.skip ?_ | refine JG.inBlock ?_ | refine JG.block ?_ | refine JG.done ?_ | refine JG.label ?_ | refine JG.condT rfl ?_ | refine JG.condF rfl ?_ | (refine JG.region ?_; simp only [List.size_toArray, List.length_cons, List.length_nil, Nat.reduceAdd, Nat.zero_add, List.range, List.range.loop]) | (refine JG.unwanted rfl (by rfl) ?_; try walk_nrm) | (refine jgo rfl rfl (by rfl) (by decide) (fun K E hK hE τ d => ?_); go_simp; refine hK _ _ (JG.tap ?_); clear hK hE K E τ d; try walk_nrm)
  refine JG.ret ?_
  exact JG.leave rfl rfl Try.func77 (fun τ d => results_tmp (t := 6) rfl _ _ _) h
end
end Go.Proofs.Ytecmobjiepgfjaa
