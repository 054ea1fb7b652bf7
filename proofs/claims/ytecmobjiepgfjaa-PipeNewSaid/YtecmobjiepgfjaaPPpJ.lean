/- PipeNew: the walk, a refused size. -/
import Derived.Test.YtecmobjiepgfjaaPPpH
namespace Go.Proofs.Ytecmobjiepgfjaa
open Go.Conc Go.RowKit
open Go.ConcN (upd upd_same upd_ne)
set_option linter.unusedSimpArgs false
set_option linter.unusedVariables false
set_option maxRecDepth 100000
section
variable {Post : Value → World → Prop} {C : Ctx} {x : World} {c : Frame} {cs : List Frame} {v : Int}
set_option maxHeartbeats 8000000 in
theorem pipeNewF_J {n : Int} {own d1 d2 d3 : Bool} (h1 : decide (n < 2) = d1) (h2 : decide (4096 < n) = d2) (h3 : (bits .and .i64 n (wrap64 (n - 1)) != 0) = d3) (hd : (d1 || d2 || d3) = true) (hC : First C x) (h : Fine Post C x) :
    JG Try.prog Post C (G (Frame.enter Try.prog 10 #[.int .i64 n, .int .i64 v, .bool own] .normal) []) x := by
  refine enterN Try.func10 (by rfl) (by rfl) ?_
  simp only [Try.f10, Option.getD_some]
  walk_nrm
  repeat first
    | refine JG.seq ?_
    | refine JG.skip ?_
    | refine JG.inBlock ?_
    | refine JG.block ?_
    | refine JG.done ?_
    | refine JG.label ?_
    | refine JG.condT rfl ?_
    | refine JG.condF rfl ?_
    | (refine JG.region ?_; simp only [List.size_toArray, List.length_cons, List.length_nil, Nat.reduceAdd, Nat.zero_add, List.range, List.range.loop])
    | (refine JG.unwanted rfl (by rfl) ?_; try walk_nrm)
    | (refine JG.op (F := F0) stands0 (fun h => by cases h) rfl rfl (by rfl) (by decide) (fun K E hK hE τ d => ?_); go_simp; refine hK _ _ (JG.tap ?_); clear hK hE K E τ d; try walk_nrm)
  refine JG.op (F := F0) stands0 (fun h => by cases h) rfl rfl (by rfl) (by decide) (fun K E hK hE τ d => ?_)
  go_simp
  refine hK _ _ (JG.tap (x := x.alloc (.cells #[.int .i64 v] 2)) ?_)
  simp only [under_size]
  clear hK hE K E τ d
  have s0 : OldStand x (x.alloc (.cells #[.int .i64 v] 2)) := (OldStand.refl x).alloc _
  have v0 : (x.alloc (.cells #[.int .i64 v] 2)).heap[x.heap.size]? = some (.cells #[.int .i64 v] 2 (0, 0)) := heap_alloc_new x _
  generalize x.alloc (.cells #[.int .i64 v] 2) = y0 at s0 v0 ⊢
  generalize hvb : x.heap.size = vb at v0 ⊢
  repeat first
    | refine JG.seq ?_
    | refine JG.skip ?_
    | refine JG.inBlock ?_
    | refine JG.block ?_
    | refine JG.done ?_
    | refine JG.label ?_
    | refine JG.condT rfl ?_
    | refine JG.condF rfl ?_
    | (refine JG.region ?_; simp only [List.size_toArray, List.length_cons, List.length_nil, Nat.reduceAdd, Nat.zero_add, List.range, List.range.loop])
    | (refine JG.unwanted rfl (by rfl) ?_; try walk_nrm)
    | (refine JG.op (F := F0) stands0 (fun h => by cases h) rfl rfl (by rfl) (by decide) (fun K E hK hE τ d => ?_); go_simp; refine hK _ _ (JG.tap ?_); clear hK hE K E τ d; try walk_nrm)
  refine JG.call (f := 56) (args := #[]) rfl (by rfl) (by decide) (fun w => ?_) (fun w => ?_) ?_
  · obtain ⟨fn, h1, h2, h3⟩ : HasBody 56 := ⟨_, Try.func56, by kernel_rfl, by kernel_rfl⟩
    have h4 : ¬ fn.name = "runtime.NumGoroutine" := by simpa using h2
    have h5 : ¬ fn.body = none := by intro e; rw [e] at h3; cases h3
    simp [go_sem, execOp, Act.eval, resolve, Deferred.ofValue, invoke, callFunc, h1, h4, h5]
  · obtain ⟨fn, h1, h2, h3⟩ : HasBody 56 := ⟨_, Try.func56, by kernel_rfl, by kernel_rfl⟩
    have h4 : ¬ fn.name = "runtime.NumGoroutine" := by simpa using h2
    have h5 : ¬ fn.body = none := by intro e; rw [e] at h3; cases h3
    simp [go_sem, execOp, Act.eval, resolve, Deferred.ofValue, invoke, callFunc, h1, h4, h5]
  refine works20_J fun y1 o1 => ?_
  rw [Frame.finish_at]
  walk_nrm
  have v1 := (o1.2 vb (Array.getElem?_eq_some_iff.1 v0).1).trans v0
  have s1 : OldStand x y1 := s0.trans o1
  clear o1 s0 v0
  have q1 : decide (2 ≤ n) = !d1 := by rw [← h1]; by_cases h : n < 2 <;> simp [h] <;> omega
  have q2 : decide (n ≤ 4096) = !d2 := by rw [← h2]; by_cases h : 4096 < n <;> simp [h] <;> omega
  have q3 : (bits .and .i64 n (IntKind.i64.wrap (n - 1)) == 0) = !d3 := by rw [← h3, wrap_eq64]; cases hb : bits .and .i64 n (wrap64 (n - 1)) == 0 <;> simp [bne, hb]
  have vl := (Array.getElem?_eq_some_iff.1 v1).1
  cases own with
  | true =>
    repeat first
      | refine JG.seq ?_
      | refine JG.skip ?_
      | refine JG.inBlock ?_
      | refine JG.block ?_
      | refine JG.done ?_
      | refine JG.label ?_
      | refine JG.condT rfl ?_
      | refine JG.condF rfl ?_
      | (refine JG.region ?_; simp only [List.size_toArray, List.length_cons, List.length_nil, Nat.reduceAdd, Nat.zero_add, List.range, List.range.loop])
      | (refine JG.unwanted rfl (by rfl) ?_; try walk_nrm)
      | (refine JG.op (F := F0) stands0 (fun h => by cases h) rfl rfl (by rfl) (by decide) (fun K E hK hE τ d => ?_); go_simp; refine hK _ _ (JG.tap ?_); clear hK hE K E τ d; try walk_nrm)
      | (refine JG.op (F := F0) stands0 (fun h => by cases h) rfl rfl (by rfl) (by decide) (fun K E hK hE τ d => ?_); have hfact := (under_cell _ τ d _).trans ((cell_obj v1 0)); go_simp; refine hK _ _ (JG.tap ?_); clear hfact hK hE K E τ d; try walk_nrm)
    refine JG.call (f := 14) (args := #[.int .i64 v]) rfl (by rfl) (by decide) (fun w => ?_) (fun w => ?_) ?_
    · obtain ⟨fn, h1, h2, h3⟩ : HasBody 14 := ⟨_, Try.func14, by kernel_rfl, by kernel_rfl⟩
      have h4 : ¬ fn.name = "runtime.NumGoroutine" := by simpa using h2
      have h5 : ¬ fn.body = none := by intro e; rw [e] at h3; cases h3
      simp [go_sem, execOp, Act.eval, resolve, Deferred.ofValue, invoke, callFunc, h1, h4, h5]
    · obtain ⟨fn, h1, h2, h3⟩ : HasBody 14 := ⟨_, Try.func14, by kernel_rfl, by kernel_rfl⟩
      have h4 : ¬ fn.name = "runtime.NumGoroutine" := by simpa using h2
      have h5 : ¬ fn.body = none := by intro e; rw [e] at h3; cases h3
      simp [go_sem, execOp, Act.eval, resolve, Deferred.ofValue, invoke, callFunc, h1, h4, h5]
    refine cellNew_J fun y2 o2 f2 z2 => ?_
    rw [Frame.finish_at]
    walk_nrm
    have v2 := (o2.2 vb vl).trans v1
    replace s1 := s1.trans o2
    clear o2 f2 z2
    generalize y1.heap.size = bc
    repeat first
      | refine JG.seq ?_
      | refine JG.skip ?_
      | refine JG.inBlock ?_
      | refine JG.block ?_
      | refine JG.done ?_
      | refine JG.label ?_
      | refine JG.condT rfl ?_
      | refine JG.condF rfl ?_
      | (refine JG.region ?_; simp only [List.size_toArray, List.length_cons, List.length_nil, Nat.reduceAdd, Nat.zero_add, List.range, List.range.loop])
      | (refine JG.unwanted rfl (by rfl) ?_; try walk_nrm)
      | (refine JG.op (F := F0) stands0 (fun h => by cases h) rfl rfl (by rfl) (by decide) (fun K E hK hE τ d => ?_); go_simp; refine hK _ _ (JG.tap ?_); clear hK hE K E τ d; try walk_nrm)
    refine JG.call (f := 57) (args := #[.int .i64 n, P0 bc]) rfl (by rfl) (by decide) (fun w => ?_) (fun w => ?_) ?_
    · obtain ⟨fn, h1, h2, h3⟩ : HasBody 57 := ⟨_, Try.func57, by kernel_rfl, by kernel_rfl⟩
      have h4 : ¬ fn.name = "runtime.NumGoroutine" := by simpa using h2
      have h5 : ¬ fn.body = none := by intro e; rw [e] at h3; cases h3
      simp [go_sem, execOp, Act.eval, resolve, Deferred.ofValue, invoke, callFunc, h1, h4, h5]
    · obtain ⟨fn, h1, h2, h3⟩ : HasBody 57 := ⟨_, Try.func57, by kernel_rfl, by kernel_rfl⟩
      have h4 : ¬ fn.name = "runtime.NumGoroutine" := by simpa using h2
      have h5 : ¬ fn.body = none := by intro e; rw [e] at h3; cases h3
      simp [go_sem, execOp, Act.eval, resolve, Deferred.ofValue, invoke, callFunc, h1, h4, h5]
    refine pipeNewR_J h1 h2 h3 hd ?_
    rw [Frame.finish_at]
    walk_nrm
    repeat first
      | refine JG.seq ?_
      | refine JG.skip ?_
      | refine JG.inBlock ?_
      | refine JG.block ?_
      | refine JG.done ?_
      | refine JG.label ?_
      | refine JG.condT rfl ?_
      | refine JG.condF rfl ?_
      | (refine JG.region ?_; simp only [List.size_toArray, List.length_cons, List.length_nil, Nat.reduceAdd, Nat.zero_add, List.range, List.range.loop])
      | (refine JG.unwanted rfl (by rfl) ?_; try walk_nrm)
      | (refine JG.op (F := F0) stands0 (fun h => by cases h) rfl rfl (by rfl) (by decide) (fun K E hK hE τ d => ?_); go_simp; refine hK _ _ (JG.tap ?_); clear hK hE K E τ d; try walk_nrm)
    try rw [q1]
    clear h1 h2 h3 q1
    cases d1 with
    | true =>
      repeat first
        | refine JG.seq ?_
        | refine JG.skip ?_
        | refine JG.inBlock ?_
        | refine JG.block ?_
        | refine JG.done ?_
        | refine JG.label ?_
        | refine JG.condT rfl ?_
        | refine JG.condF rfl ?_
        | (refine JG.region ?_; simp only [List.size_toArray, List.length_cons, List.length_nil, Nat.reduceAdd, Nat.zero_add, List.range, List.range.loop])
        | (refine JG.unwanted rfl (by rfl) ?_; try walk_nrm)
        | (refine JG.op (F := F0) stands0 (fun h => by cases h) rfl rfl (by rfl) (by decide) (fun K E hK hE τ d => ?_); go_simp; refine hK _ _ (JG.tap ?_); clear hK hE K E τ d; try walk_nrm)
      exact pipeTail_J (x := x) v2 hC s1 h
    | false =>
      repeat first
        | refine JG.seq ?_
        | refine JG.skip ?_
        | refine JG.inBlock ?_
        | refine JG.block ?_
        | refine JG.done ?_
        | refine JG.label ?_
        | refine JG.condT rfl ?_
        | refine JG.condF rfl ?_
        | (refine JG.region ?_; simp only [List.size_toArray, List.length_cons, List.length_nil, Nat.reduceAdd, Nat.zero_add, List.range, List.range.loop])
        | (refine JG.unwanted rfl (by rfl) ?_; try walk_nrm)
        | (refine JG.op (F := F0) stands0 (fun h => by cases h) rfl rfl (by rfl) (by decide) (fun K E hK hE τ d => ?_); go_simp; refine hK _ _ (JG.tap ?_); clear hK hE K E τ d; try walk_nrm)
      try rw [q2]
      clear q2
      cases d2 with
      | true =>
        repeat first
          | refine JG.seq ?_
          | refine JG.skip ?_
          | refine JG.inBlock ?_
          | refine JG.block ?_
          | refine JG.done ?_
          | refine JG.label ?_
          | refine JG.condT rfl ?_
          | refine JG.condF rfl ?_
          | (refine JG.region ?_; simp only [List.size_toArray, List.length_cons, List.length_nil, Nat.reduceAdd, Nat.zero_add, List.range, List.range.loop])
          | (refine JG.unwanted rfl (by rfl) ?_; try walk_nrm)
          | (refine JG.op (F := F0) stands0 (fun h => by cases h) rfl rfl (by rfl) (by decide) (fun K E hK hE τ d => ?_); go_simp; refine hK _ _ (JG.tap ?_); clear hK hE K E τ d; try walk_nrm)
        exact pipeTail_J (x := x) v2 hC s1 h
      | false =>
        obtain rfl : d3 = true := by simpa using hd
        repeat first
          | refine JG.seq ?_
          | refine JG.skip ?_
          | refine JG.inBlock ?_
          | refine JG.block ?_
          | refine JG.done ?_
          | refine JG.label ?_
          | refine JG.condT rfl ?_
          | refine JG.condF rfl ?_
          | (refine JG.region ?_; simp only [List.size_toArray, List.length_cons, List.length_nil, Nat.reduceAdd, Nat.zero_add, List.range, List.range.loop])
          | (refine JG.unwanted rfl (by rfl) ?_; try walk_nrm)
          | (refine JG.op (F := F0) stands0 (fun h => by cases h) rfl rfl (by rfl) (by decide) (fun K E hK hE τ d => ?_); go_simp; refine hK _ _ (JG.tap ?_); clear hK hE K E τ d; try walk_nrm)
        try rw [q3]
        clear q3
        repeat first
          | refine JG.seq ?_
          | refine JG.skip ?_
          | refine JG.inBlock ?_
          | refine JG.block ?_
          | refine JG.done ?_
          | refine JG.label ?_
          | refine JG.condT rfl ?_
          | refine JG.condF rfl ?_
          | (refine JG.region ?_; simp only [List.size_toArray, List.length_cons, List.length_nil, Nat.reduceAdd, Nat.zero_add, List.range, List.range.loop])
          | (refine JG.unwanted rfl (by rfl) ?_; try walk_nrm)
          | (refine JG.op (F := F0) stands0 (fun h => by cases h) rfl rfl (by rfl) (by decide) (fun K E hK hE τ d => ?_); go_simp; refine hK _ _ (JG.tap ?_); clear hK hE K E τ d; try walk_nrm)
        exact pipeTail_J (x := x) v2 hC s1 h
  | false =>
    repeat first
      | refine JG.seq ?_
      | refine JG.skip ?_
      | refine JG.inBlock ?_
      | refine JG.block ?_
      | refine JG.done ?_
      | refine JG.label ?_
      | refine JG.condT rfl ?_
      | refine JG.condF rfl ?_
      | (refine JG.region ?_; simp only [List.size_toArray, List.length_cons, List.length_nil, Nat.reduceAdd, Nat.zero_add, List.range, List.range.loop])
      | (refine JG.unwanted rfl (by rfl) ?_; try walk_nrm)
      | (refine JG.op (F := F0) stands0 (fun h => by cases h) rfl rfl (by rfl) (by decide) (fun K E hK hE τ d => ?_); go_simp; refine hK _ _ (JG.tap ?_); clear hK hE K E τ d; try walk_nrm)
      | (refine JG.op (F := F0) stands0 (fun h => by cases h) rfl rfl (by rfl) (by decide) (fun K E hK hE τ d => ?_); have hfact := (under_cell _ τ d _).trans ((cell_obj v1 0)); go_simp; refine hK _ _ (JG.tap ?_); clear hfact hK hE K E τ d; try walk_nrm)
    refine JG.call (f := 57) (args := #[.int .i64 n, .pointer none]) rfl (by rfl) (by decide) (fun w => ?_) (fun w => ?_) ?_
    · obtain ⟨fn, h1, h2, h3⟩ : HasBody 57 := ⟨_, Try.func57, by kernel_rfl, by kernel_rfl⟩
      have h4 : ¬ fn.name = "runtime.NumGoroutine" := by simpa using h2
      have h5 : ¬ fn.body = none := by intro e; rw [e] at h3; cases h3
      simp [go_sem, execOp, Act.eval, resolve, Deferred.ofValue, invoke, callFunc, h1, h4, h5]
    · obtain ⟨fn, h1, h2, h3⟩ : HasBody 57 := ⟨_, Try.func57, by kernel_rfl, by kernel_rfl⟩
      have h4 : ¬ fn.name = "runtime.NumGoroutine" := by simpa using h2
      have h5 : ¬ fn.body = none := by intro e; rw [e] at h3; cases h3
      simp [go_sem, execOp, Act.eval, resolve, Deferred.ofValue, invoke, callFunc, h1, h4, h5]
    refine pipeNewR_J h1 h2 h3 hd ?_
    rw [Frame.finish_at]
    walk_nrm
    repeat first
      | refine JG.seq ?_
      | refine JG.skip ?_
      | refine JG.inBlock ?_
      | refine JG.block ?_
      | refine JG.done ?_
      | refine JG.label ?_
      | refine JG.condT rfl ?_
      | refine JG.condF rfl ?_
      | (refine JG.region ?_; simp only [List.size_toArray, List.length_cons, List.length_nil, Nat.reduceAdd, Nat.zero_add, List.range, List.range.loop])
      | (refine JG.unwanted rfl (by rfl) ?_; try walk_nrm)
      | (refine JG.op (F := F0) stands0 (fun h => by cases h) rfl rfl (by rfl) (by decide) (fun K E hK hE τ d => ?_); go_simp; refine hK _ _ (JG.tap ?_); clear hK hE K E τ d; try walk_nrm)
    try rw [q1]
    clear h1 h2 h3 q1
    cases d1 with
    | true =>
      repeat first
        | refine JG.seq ?_
        | refine JG.skip ?_
        | refine JG.inBlock ?_
        | refine JG.block ?_
        | refine JG.done ?_
        | refine JG.label ?_
        | refine JG.condT rfl ?_
        | refine JG.condF rfl ?_
        | (refine JG.region ?_; simp only [List.size_toArray, List.length_cons, List.length_nil, Nat.reduceAdd, Nat.zero_add, List.range, List.range.loop])
        | (refine JG.unwanted rfl (by rfl) ?_; try walk_nrm)
        | (refine JG.op (F := F0) stands0 (fun h => by cases h) rfl rfl (by rfl) (by decide) (fun K E hK hE τ d => ?_); go_simp; refine hK _ _ (JG.tap ?_); clear hK hE K E τ d; try walk_nrm)
      exact pipeTail_J (x := x) v1 hC s1 h
    | false =>
      repeat first
        | refine JG.seq ?_
        | refine JG.skip ?_
        | refine JG.inBlock ?_
        | refine JG.block ?_
        | refine JG.done ?_
        | refine JG.label ?_
        | refine JG.condT rfl ?_
        | refine JG.condF rfl ?_
        | (refine JG.region ?_; simp only [List.size_toArray, List.length_cons, List.length_nil, Nat.reduceAdd, Nat.zero_add, List.range, List.range.loop])
        | (refine JG.unwanted rfl (by rfl) ?_; try walk_nrm)
        | (refine JG.op (F := F0) stands0 (fun h => by cases h) rfl rfl (by rfl) (by decide) (fun K E hK hE τ d => ?_); go_simp; refine hK _ _ (JG.tap ?_); clear hK hE K E τ d; try walk_nrm)
      try rw [q2]
      clear q2
      cases d2 with
      | true =>
        repeat first
          | refine JG.seq ?_
          | refine JG.skip ?_
          | refine JG.inBlock ?_
          | refine JG.block ?_
          | refine JG.done ?_
          | refine JG.label ?_
          | refine JG.condT rfl ?_
          | refine JG.condF rfl ?_
          | (refine JG.region ?_; simp only [List.size_toArray, List.length_cons, List.length_nil, Nat.reduceAdd, Nat.zero_add, List.range, List.range.loop])
          | (refine JG.unwanted rfl (by rfl) ?_; try walk_nrm)
          | (refine JG.op (F := F0) stands0 (fun h => by cases h) rfl rfl (by rfl) (by decide) (fun K E hK hE τ d => ?_); go_simp; refine hK _ _ (JG.tap ?_); clear hK hE K E τ d; try walk_nrm)
        exact pipeTail_J (x := x) v1 hC s1 h
      | false =>
        obtain rfl : d3 = true := by simpa using hd
        repeat first
          | refine JG.seq ?_
          | refine JG.skip ?_
          | refine JG.inBlock ?_
          | refine JG.block ?_
          | refine JG.done ?_
          | refine JG.label ?_
          | refine JG.condT rfl ?_
          | refine JG.condF rfl ?_
          | (refine JG.region ?_; simp only [List.size_toArray, List.length_cons, List.length_nil, Nat.reduceAdd, Nat.zero_add, List.range, List.range.loop])
          | (refine JG.unwanted rfl (by rfl) ?_; try walk_nrm)
          | (refine JG.op (F := F0) stands0 (fun h => by cases h) rfl rfl (by rfl) (by decide) (fun K E hK hE τ d => ?_); go_simp; refine hK _ _ (JG.tap ?_); clear hK hE K E τ d; try walk_nrm)
        try rw [q3]
        clear q3
        repeat first
          | refine JG.seq ?_
          | refine JG.skip ?_
          | refine JG.inBlock ?_
          | refine JG.block ?_
          | refine JG.done ?_
          | refine JG.label ?_
          | refine JG.condT rfl ?_
          | refine JG.condF rfl ?_
          | (refine JG.region ?_; simp only [List.size_toArray, List.length_cons, List.length_nil, Nat.reduceAdd, Nat.zero_add, List.range, List.range.loop])
          | (refine JG.unwanted rfl (by rfl) ?_; try walk_nrm)
          | (refine JG.op (F := F0) stands0 (fun h => by cases h) rfl rfl (by rfl) (by decide) (fun K E hK hE τ d => ?_); go_simp; refine hK _ _ (JG.tap ?_); clear hK hE K E τ d; try walk_nrm)
        exact pipeTail_J (x := x) v1 hC s1 h
end
end Go.Proofs.Ytecmobjiepgfjaa
