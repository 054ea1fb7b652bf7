/- PipeNew: the walk, an allowed size, no bell given. -/
import Derived.Test.YtecmobjiepgfjaaPPpH
namespace Go.Proofs.Ytecmobjiepgfjaa
open Go.Conc Go.RowKit
open Go.ConcN (upd upd_same upd_ne)
set_option linter.unusedSimpArgs false
set_option linter.unusedVariables false
set_option maxRecDepth 100000
section
variable {Post : Value → World → Prop} {C : Ctx} {x : World} {c : Frame} {cs : List Frame} {v : Int}
set_option maxHeartbeats 8000000 in
theorem pipeNewN_J {n : Nat} (h2 : 2 ≤ n) (h4 : n ≤ 4096) (hb : bits .and .i64 (n : Int) (wrap64 ((n : Int) - 1)) = 0) (hC : First C x) (h : Fine Post C x) :
    JG Try.prog Post C (G (Frame.enter Try.prog 10 #[.int .i64 (n : Int), .int .i64 v, .bool false] .normal) []) x := by
  have hw : wrap64 ((n : Int) - 1) = (n : Int) - 1 := by unfold wrap64; omega
  have hb' := hb
  rw [hw] at hb'
  have hb0 := bits0 (wrap64 ((n : Int) - 1))
  have q1 : decide (2 ≤ (n : Int)) = true := by simp; omega
  have q2 : decide ((n : Int) ≤ 4096) = true := by simp; omega
  have q3 : (bits .and .i64 (n : Int) (IntKind.i64.wrap ((n : Int) - 1)) == 0) = true := by rw [wrap_eq64, hb]; rfl
  replace hb0 := Lib.hid hb0
  replace hb' := Lib.hid hb'
  replace h2 := Lib.hid h2
  replace h4 := Lib.hid h4
  clear hw hb
  refine enterN Try.func10 (by rfl) (by rfl) ?_
  simp only [Try.f10, Option.getD_some]
  walk_nrm
  repeat first
    | refine JG.seq ?_
    | refine JG.skip ?_
    | refine JG.inBlock ?_
    | refine JG.block ?_
    | refine JG.done ?_
    | refine JG.label ?_
    | refine JG.condT rfl ?_
    | refine JG.condF rfl ?_
    | (refine JG.region ?_; simp only [List.size_toArray, List.length_cons, List.length_nil, Nat.reduceAdd, Nat.zero_add, List.range, List.range.loop])
    | (refine JG.unwanted rfl (by rfl) ?_; try walk_nrm)
    | (refine JG.op (F := F0) stands0 (fun h => by cases h) rfl rfl (by rfl) (by decide) (fun K E hK hE τ d => ?_); go_simp; refine hK _ _ (JG.tap ?_); clear hK hE K E τ d; try walk_nrm)
  refine JG.op (F := F0) stands0 (fun h => by cases h) rfl rfl (by rfl) (by decide) (fun K E hK hE τ d => ?_)
  go_simp
  refine hK _ _ (JG.tap (x := x.alloc (.cells #[.int .i64 v] 2)) ?_)
  simp only [under_size]
  clear hK hE K E τ d
  have s0 : OldStand x (x.alloc (.cells #[.int .i64 v] 2)) := (OldStand.refl x).alloc _
  have v0 : (x.alloc (.cells #[.int .i64 v] 2)).heap[x.heap.size]? = some (.cells #[.int .i64 v] 2 (0, 0)) := heap_alloc_new x _
  generalize x.alloc (.cells #[.int .i64 v] 2) = y0 at s0 v0 ⊢
  generalize hvb : x.heap.size = vb at v0 ⊢
  repeat first
    | refine JG.seq ?_
    | refine JG.skip ?_
    | refine JG.inBlock ?_
    | refine JG.block ?_
    | refine JG.done ?_
    | refine JG.label ?_
    | refine JG.condT rfl ?_
    | refine JG.condF rfl ?_
    | (refine JG.region ?_; simp only [List.size_toArray, List.length_cons, List.length_nil, Nat.reduceAdd, Nat.zero_add, List.range, List.range.loop])
    | (refine JG.unwanted rfl (by rfl) ?_; try walk_nrm)
    | (refine JG.op (F := F0) stands0 (fun h => by cases h) rfl rfl (by rfl) (by decide) (fun K E hK hE τ d => ?_); go_simp; refine hK _ _ (JG.tap ?_); clear hK hE K E τ d; try walk_nrm)
  refine JG.call (f := 56) (args := #[]) rfl (by rfl) (by decide) (fun w => ?_) (fun w => ?_) ?_
  · obtain ⟨fn, h1, h2, h3⟩ : HasBody 56 := ⟨_, Try.func56, by kernel_rfl, by kernel_rfl⟩
    have h4 : ¬ fn.name = "runtime.NumGoroutine" := by simpa using h2
    have h5 : ¬ fn.body = none := by intro e; rw [e] at h3; cases h3
    simp [go_sem, execOp, Act.eval, resolve, Deferred.ofValue, invoke, callFunc, h1, h4, h5]
  · obtain ⟨fn, h1, h2, h3⟩ : HasBody 56 := ⟨_, Try.func56, by kernel_rfl, by kernel_rfl⟩
    have h4 : ¬ fn.name = "runtime.NumGoroutine" := by simpa using h2
    have h5 : ¬ fn.body = none := by intro e; rw [e] at h3; cases h3
    simp [go_sem, execOp, Act.eval, resolve, Deferred.ofValue, invoke, callFunc, h1, h4, h5]
  refine works20_J fun y1 o1 => ?_
  rw [Frame.finish_at]
  walk_nrm
  have v1 := (o1.2 vb (Array.getElem?_eq_some_iff.1 v0).1).trans v0
  have s1 : OldStand x y1 := s0.trans o1
  clear o1 s0 v0
  repeat first
    | refine JG.seq ?_
    | refine JG.skip ?_
    | refine JG.inBlock ?_
    | refine JG.block ?_
    | refine JG.done ?_
    | refine JG.label ?_
    | refine JG.condT rfl ?_
    | refine JG.condF rfl ?_
    | (refine JG.region ?_; simp only [List.size_toArray, List.length_cons, List.length_nil, Nat.reduceAdd, Nat.zero_add, List.range, List.range.loop])
    | (refine JG.unwanted rfl (by rfl) ?_; try walk_nrm)
    | (refine JG.op (F := F0) stands0 (fun h => by cases h) rfl rfl (by rfl) (by decide) (fun K E hK hE τ d => ?_); go_simp; refine hK _ _ (JG.tap ?_); clear hK hE K E τ d; try walk_nrm)
  refine JG.call (f := 57) (args := #[.int .i64 (n : Int), .pointer none]) rfl (by rfl) (by decide) (fun w => ?_) (fun w => ?_) ?_
  · obtain ⟨fn, h1, h2, h3⟩ : HasBody 57 := ⟨_, Try.func57, by kernel_rfl, by kernel_rfl⟩
    have h4 : ¬ fn.name = "runtime.NumGoroutine" := by simpa using h2
    have h5 : ¬ fn.body = none := by intro e; rw [e] at h3; cases h3
    simp [go_sem, execOp, Act.eval, resolve, Deferred.ofValue, invoke, callFunc, h1, h4, h5]
  · obtain ⟨fn, h1, h2, h3⟩ : HasBody 57 := ⟨_, Try.func57, by kernel_rfl, by kernel_rfl⟩
    have h4 : ¬ fn.name = "runtime.NumGoroutine" := by simpa using h2
    have h5 : ¬ fn.body = none := by intro e; rw [e] at h3; cases h3
    simp [go_sem, execOp, Act.eval, resolve, Deferred.ofValue, invoke, callFunc, h1, h4, h5]
  refine pipeNewNil_J h2.out h4.out hb'.out fun y3 p i o bc pb cap t0 s0 t1 s1' o3 hP hbc hl => ?_
  rw [Frame.finish_at]
  walk_nrm
  have old : OldStand y1 y3 := o3
  replace hl : Lows y1.heap.size i o bc t0 s0 t1 s1' := by
    obtain ⟨g1, g2, g3, g4, g5, g6⟩ := hl
    exact ⟨g1, g2, hbc, g3, g4, g5, g6⟩
  have hbl : y1.heap.size ≤ y1.heap.size := Nat.le_refl _
  have vl := (Array.getElem?_eq_some_iff.1 v1).1
  have v3 := (old.2 vb vl).trans v1
  clear o3
  repeat first
    | refine JG.seq ?_
    | refine JG.skip ?_
    | refine JG.inBlock ?_
    | refine JG.block ?_
    | refine JG.done ?_
    | refine JG.label ?_
    | refine JG.condT rfl ?_
    | refine JG.condF rfl ?_
    | (refine JG.region ?_; simp only [List.size_toArray, List.length_cons, List.length_nil, Nat.reduceAdd, Nat.zero_add, List.range, List.range.loop])
    | (refine JG.unwanted rfl (by rfl) ?_; try walk_nrm)
    | (refine JG.op (F := F0) stands0 (fun h => by cases h) rfl rfl (by rfl) (by decide) (fun K E hK hE τ d => ?_); go_simp; refine hK _ _ (JG.tap ?_); clear hK hE K E τ d; try walk_nrm)
    | (refine JG.op (F := F0) stands0 (fun h => by cases h) rfl rfl (by rfl) (by decide) (fun K E hK hE τ d => ?_); have hfact := (under_cell _ τ d _).trans ((cell_obj v3 0)); go_simp; refine hK _ _ (JG.tap ?_); clear hfact hK hE K E τ d; try walk_nrm)
  refine JG.call (f := 58) (args := #[P0 p]) rfl (by rfl) (by decide) (fun w => ?_) (fun w => ?_) ?_
  · obtain ⟨fn, h1, h2, h3⟩ : HasBody 58 := ⟨_, Try.func58, by kernel_rfl, by kernel_rfl⟩
    have h4 : ¬ fn.name = "runtime.NumGoroutine" := by simpa using h2
    have h5 : ¬ fn.body = none := by intro e; rw [e] at h3; cases h3
    simp [go_sem, execOp, Act.eval, resolve, Deferred.ofValue, invoke, callFunc, h1, h4, h5] <;> decide +kernel
  · obtain ⟨fn, h1, h2, h3⟩ : HasBody 58 := ⟨_, Try.func58, by kernel_rfl, by kernel_rfl⟩
    have h4 : ¬ fn.name = "runtime.NumGoroutine" := by simpa using h2
    have h5 : ¬ fn.body = none := by intro e; rw [e] at h3; cases h3
    simp [go_sem, execOp, Act.eval, resolve, Deferred.ofValue, invoke, callFunc, h1, h4, h5] <;> decide +kernel
  refine bell_J (cell_obj hP.blk 0) (cell_obj hP.blk 2) ?_
  rw [Frame.finish_at]
  try walk_nrm
  repeat first
    | refine JG.seq ?_
    | refine JG.skip ?_
    | refine JG.inBlock ?_
    | refine JG.block ?_
    | refine JG.done ?_
    | refine JG.label ?_
    | refine JG.condT rfl ?_
    | refine JG.condF rfl ?_
    | (refine JG.region ?_; simp only [List.size_toArray, List.length_cons, List.length_nil, Nat.reduceAdd, Nat.zero_add, List.range, List.range.loop])
    | (refine JG.unwanted rfl (by rfl) ?_; try walk_nrm)
    | (refine JG.op (F := F0) stands0 (fun h => by cases h) rfl rfl (by rfl) (by decide) (fun K E hK hE τ d => ?_); go_simp; refine hK _ _ (JG.tap ?_); clear hK hE K E τ d; try walk_nrm)
    | (refine JG.op (F := F0) stands0 (fun h => by cases h) rfl rfl (by rfl) (by decide) (fun K E hK hE τ d => ?_); have hfact := (under_cell _ τ d _).trans ((cell_obj v3 0)); go_simp; refine hK _ _ (JG.tap ?_); clear hfact hK hE K E τ d; try walk_nrm)
  refine JG.call (f := 59) (args := #[P0 p, .pointer none, .int .i64 v]) rfl (by rfl) (by decide) (fun w => ?_) (fun w => ?_) ?_
  · obtain ⟨fn, h1, h2, h3⟩ : HasBody 59 := ⟨_, Try.func59, by kernel_rfl, by kernel_rfl⟩
    have h4 : ¬ fn.name = "runtime.NumGoroutine" := by simpa using h2
    have h5 : ¬ fn.body = none := by intro e; rw [e] at h3; cases h3
    simp [go_sem, execOp, Act.eval, resolve, Deferred.ofValue, invoke, callFunc, h1, h4, h5] <;> decide +kernel
  · obtain ⟨fn, h1, h2, h3⟩ : HasBody 59 := ⟨_, Try.func59, by kernel_rfl, by kernel_rfl⟩
    have h4 : ¬ fn.name = "runtime.NumGoroutine" := by simpa using h2
    have h5 : ¬ fn.body = none := by intro e; rw [e] at h3; cases h3
    simp [go_sem, execOp, Act.eval, resolve, Deferred.ofValue, invoke, callFunc, h1, h4, h5] <;> decide +kernel
  refine trySend0_J hP hb0.out (by have := h2.out; omega) fun y4 h5 l5 => ?_
  rw [Frame.finish_at]
  try walk_nrm
  replace old := StayLo.old old (l5 _ hl) hbl
  replace v3 := (old.2 vb vl).trans v1
  clear l5 hP
  repeat first
    | refine JG.seq ?_
    | refine JG.skip ?_
    | refine JG.inBlock ?_
    | refine JG.block ?_
    | refine JG.done ?_
    | refine JG.label ?_
    | refine JG.condT rfl ?_
    | refine JG.condF rfl ?_
    | (refine JG.region ?_; simp only [List.size_toArray, List.length_cons, List.length_nil, Nat.reduceAdd, Nat.zero_add, List.range, List.range.loop])
    | (refine JG.unwanted rfl (by rfl) ?_; try walk_nrm)
    | (refine JG.op (F := F0) stands0 (fun h => by cases h) rfl rfl (by rfl) (by decide) (fun K E hK hE τ d => ?_); go_simp; refine hK _ _ (JG.tap ?_); clear hK hE K E τ d; try walk_nrm)
    | (refine JG.op (F := F0) stands0 (fun h => by cases h) rfl rfl (by rfl) (by decide) (fun K E hK hE τ d => ?_); have hfact := (under_cell _ τ d _).trans ((cell_obj v3 0)); go_simp; refine hK _ _ (JG.tap ?_); clear hfact hK hE K E τ d; try walk_nrm)
  refine JG.call (f := 60) (args := #[P0 p, .pointer none]) rfl (by rfl) (by decide) (fun w => ?_) (fun w => ?_) ?_
  · obtain ⟨fn, h1, h2, h3⟩ : HasBody 60 := ⟨_, Try.func60, by kernel_rfl, by kernel_rfl⟩
    have h4 : ¬ fn.name = "runtime.NumGoroutine" := by simpa using h2
    have h5 : ¬ fn.body = none := by intro e; rw [e] at h3; cases h3
    simp [go_sem, execOp, Act.eval, resolve, Deferred.ofValue, invoke, callFunc, h1, h4, h5] <;> decide +kernel
  · obtain ⟨fn, h1, h2, h3⟩ : HasBody 60 := ⟨_, Try.func60, by kernel_rfl, by kernel_rfl⟩
    have h4 : ¬ fn.name = "runtime.NumGoroutine" := by simpa using h2
    have h5 : ¬ fn.body = none := by intro e; rw [e] at h3; cases h3
    simp [go_sem, execOp, Act.eval, resolve, Deferred.ofValue, invoke, callFunc, h1, h4, h5] <;> decide +kernel
  refine recv0_J h5 hb0.out (by have := h2.out; omega) fun y5 tv htv h6 l6 => ?_
  rw [Frame.finish_at]
  try walk_nrm
  replace old := StayLo.old old (l6 _ hl) hbl
  replace v3 := (old.2 vb vl).trans v1
  clear l6 h5 htv
  repeat first
    | refine JG.seq ?_
    | refine JG.skip ?_
    | refine JG.inBlock ?_
    | refine JG.block ?_
    | refine JG.done ?_
    | refine JG.label ?_
    | refine JG.condT rfl ?_
    | refine JG.condF rfl ?_
    | (refine JG.region ?_; simp only [List.size_toArray, List.length_cons, List.length_nil, Nat.reduceAdd, Nat.zero_add, List.range, List.range.loop])
    | (refine JG.unwanted rfl (by rfl) ?_; try walk_nrm)
    | (refine JG.op (F := F0) stands0 (fun h => by cases h) rfl rfl (by rfl) (by decide) (fun K E hK hE τ d => ?_); go_simp; refine hK _ _ (JG.tap ?_); clear hK hE K E τ d; try walk_nrm)
    | (refine JG.op (F := F0) stands0 (fun h => by cases h) rfl rfl (by rfl) (by decide) (fun K E hK hE τ d => ?_); have hfact := (under_cell _ τ d _).trans ((cell_obj v3 0)); go_simp; refine hK _ _ (JG.tap ?_); clear hfact hK hE K E τ d; try walk_nrm)
  refine JG.drawCallsG (fun i => if i = 19 then some 0 else none) (fun i => .int .i64 0) (fun k z => if k = 1 then OldStand y1 z else z = y5) 1 (by kernel_rfl) (by kernel_rfl) (by decide) rfl ?_
  apply Exists.intro
  apply And.intro
  · intro k hk z hz
    have hk' : k = 0 ∨ k = 1 := by omega
    rcases hk' with rfl | rfl
    · rw [show z = y5 from hz]
      repeat first
        | (refine JPassG.un (by rfl) (by rfl) ?_; try walk_nrm)
        | (refine JPassG.rd (by rfl) (by rfl) (by rfl) (fun K hK τ d => ?_); go_simp; refine hK _ ?_; clear hK K τ d)
        | (refine JPassG.rd (by rfl) (by rfl) (by rfl) (fun K hK τ d => ?_); have hfact := (under_cell _ τ d _).trans ((cell_obj v3 0)); go_simp; refine hK _ ?_; clear hfact hK K τ d)
      refine JPassG.cl (by rfl) (by rfl) (fun _ => ⟨61, #[P0 p, .pointer none], fun w => ?_, fun w => ?_, fun c hc => ?_⟩) ?_
      · obtain ⟨fn, h1, h2, h3⟩ : HasBody 61 := ⟨_, Try.func61, by kernel_rfl, by kernel_rfl⟩
        have h4 : ¬ fn.name = "runtime.NumGoroutine" := by simpa using h2
        have h5 : ¬ fn.body = none := by intro e; rw [e] at h3; cases h3
        simp [go_sem, execOp, Act.eval, resolve, Deferred.ofValue, invoke, callFunc, h1, h4, h5] <;> decide +kernel
      · obtain ⟨fn, h1, h2, h3⟩ : HasBody 61 := ⟨_, Try.func61, by kernel_rfl, by kernel_rfl⟩
        have h4 : ¬ fn.name = "runtime.NumGoroutine" := by simpa using h2
        have h5 : ¬ fn.body = none := by intro e; rw [e] at h3; cases h3
        simp [go_sem, execOp, Act.eval, resolve, Deferred.ofValue, invoke, callFunc, h1, h4, h5] <;> decide +kernel
      · exact close2_J h6 fun y6 h7 l7 => hc _ (StayLo.old old (l7 _ hl) hbl)
      repeat first
        | (refine JPassG.un (by rfl) (by rfl) ?_; try walk_nrm)
        | (refine JPassG.rd (by rfl) (by rfl) (by rfl) (fun K hK τ d => ?_); go_simp; refine hK _ ?_; clear hK K τ d)
        | (refine JPassG.rd (by rfl) (by rfl) (by rfl) (fun K hK τ d => ?_); have hfact := (under_cell _ τ d _).trans ((cell_obj v3 0)); go_simp; refine hK _ ?_; clear hfact hK K τ d)
      exact JPassG.nil rfl
    · replace hz : OldStand y1 z := hz
      have v4 := (hz.2 vb vl).trans v1
      repeat first
        | (refine JPassG.un (by rfl) (by rfl) ?_; try walk_nrm)
        | (refine JPassG.rd (by rfl) (by rfl) (by rfl) (fun K hK τ d => ?_); go_simp; refine hK _ ?_; clear hK K τ d)
        | (refine JPassG.rd (by rfl) (by rfl) (by rfl) (fun K hK τ d => ?_); have hfact := (under_cell _ τ d _).trans ((cell_obj v4 0)); go_simp; refine hK _ ?_; clear hfact hK K τ d)
      refine JPassG.cl (by rfl) (by rfl) (fun h => by cases h) ?_
      repeat first
        | (refine JPassG.un (by rfl) (by rfl) ?_; try walk_nrm)
        | (refine JPassG.rd (by rfl) (by rfl) (by rfl) (fun K hK τ d => ?_); go_simp; refine hK _ ?_; clear hK K τ d)
        | (refine JPassG.rd (by rfl) (by rfl) (by rfl) (fun K hK τ d => ?_); have hfact := (under_cell _ τ d _).trans ((cell_obj v4 0)); go_simp; refine hK _ ?_; clear hfact hK K τ d)
      exact JPassG.nil rfl
  · intro z hz
    replace hz : OldStand y1 z := hz
    have v4 := (hz.2 vb vl).trans v1
    try walk_nrm
    repeat first
      | refine JG.seq ?_
      | refine JG.skip ?_
      | refine JG.inBlock ?_
      | refine JG.block ?_
      | refine JG.done ?_
      | refine JG.label ?_
      | refine JG.condT rfl ?_
      | refine JG.condF rfl ?_
      | (refine JG.region ?_; simp only [List.size_toArray, List.length_cons, List.length_nil, Nat.reduceAdd, Nat.zero_add, List.range, List.range.loop])
      | (refine JG.unwanted rfl (by rfl) ?_; try walk_nrm)
      | (refine JG.op (F := F0) stands0 (fun h => by cases h) rfl rfl (by rfl) (by decide) (fun K E hK hE τ d => ?_); go_simp; refine hK _ _ (JG.tap ?_); clear hK hE K E τ d; try walk_nrm)
    exact pipeTail_J (x := x) v4 hC (s1.trans hz) h
end
end Go.Proofs.Ytecmobjiepgfjaa
