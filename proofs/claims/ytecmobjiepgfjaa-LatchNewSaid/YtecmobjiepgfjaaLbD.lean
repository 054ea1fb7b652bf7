/- A barrier for one under J. -/
import Derived.Test.YtecmobjiepgfjaaLbB
namespace Go.Proofs.Ytecmobjiepgfjaa
open Go.Conc Go.RowKit
open Go.ConcN (upd upd_same upd_ne)
set_option linter.unusedSimpArgs false
set_option linter.unusedVariables false
set_option maxRecDepth 100000
theorem results_tmp3 {fn : Func} {t u w : Tmp} (h : fn.results = #[.tmp t, .tmp u, .tmp w]) (tmps : Array Value) (P : Program) (y : World) : (results fn tmps).run P y = .ok (.tuple #[tmps.getD t undef, tmps.getD u undef, tmps.getD w undef]) y := by
  simp [results, h]
section
variable {Post : Value → World → Prop} {C : Ctx} {x : World} {c : Frame} {cs : List Frame} {b s t : Nat} {v : Int}
set_option maxHeartbeats 4000000 in
theorem arrive_J (hb : x.heap[b]? = some (.cells #[.int .i64 1, P0 s, P0 t] 134 (0, 0))) (hs : FreeCell x s v) (ht : FreeCell x t 0) (n1 : b ≠ s) (n2 : b ≠ t) (n3 : s ≠ t)
    (h : ∀ y, y.heap.size = x.heap.size → (∀ r, r ≠ s → r ≠ t → y.heap[r]? = x.heap[r]?) → FreeCell y s (wrap64 (v + 1)) → FreeCell y t 0 → JG Try.prog Post C (G (c.finish (.tuple #[.int .i64 v, .bool true, .int .i64 0])) cs) y) :
    JG Try.prog Post C (G (Frame.enter Try.prog 51 #[P0 b, .pointer none] .normal) (c :: cs)) x := by
  refine enterN Try.func51 (by rfl) (by rfl) ?_
  simp only [Try.f51, Option.getD_some]
  walk_nrm
  have b0 : x.cell? (th b 0) = some (.int .i64 1) := cell_obj hb 0
  have b1 : x.cell? (th b 1) = some (P0 s) := cell_obj hb 1
  have b2 : x.cell? (th b 2) = some (P0 t) := cell_obj hb 2
  repeat first
    | refine JG.seq ?_
    | refine JG.skip ?_
    | refine JG.inBlock ?_
    | refine JG.block ?_
    | refine JG.done ?_
    | refine JG.label ?_
    | refine JG.condT rfl ?_
    | refine JG.condF rfl ?_
    | (refine JG.region ?_; simp only [List.size_toArray, List.length_cons, List.length_nil, Nat.reduceAdd, Nat.zero_add, List.range, List.range.loop])
    | (refine JG.unwanted rfl (by rfl) ?_; try walk_nrm)
    | (refine JG.op (F := F0) stands0 (fun h => by cases h) rfl rfl (by rfl) (by decide) (fun K E hK hE τ d => ?_); go_simp; refine hK _ _ (JG.tap ?_); clear hK hE K E τ d; try walk_nrm)
    | (refine JG.op (F := F0) stands0 (fun h => by cases h) rfl rfl (by rfl) (by decide) (fun K E hK hE τ d => ?_); have hfact := (under_cell _ τ d _).trans (b0); go_simp; refine hK _ _ (JG.tap ?_); clear hfact hK hE K E τ d; try walk_nrm)
    | (refine JG.op (F := F0) stands0 (fun h => by cases h) rfl rfl (by rfl) (by decide) (fun K E hK hE τ d => ?_); have hfact := (under_cell _ τ d _).trans (b1); go_simp; refine hK _ _ (JG.tap ?_); clear hfact hK hE K E τ d; try walk_nrm)
    | (refine JG.op (F := F0) stands0 (fun h => by cases h) rfl rfl (by rfl) (by decide) (fun K E hK hE τ d => ?_); have hfact := (under_cell _ τ d _).trans (b2); go_simp; refine hK _ _ (JG.tap ?_); clear hfact hK hE K E τ d; try walk_nrm)
  refine JG.call (f := 29) (args := #[P0 s, .pointer none]) rfl (by rfl) (by decide) (fun w => ?_) (fun w => ?_) ?_
  · obtain ⟨fn, h1, h2, h3⟩ : HasBody 29 := ⟨_, Try.func29, by kernel_rfl, by kernel_rfl⟩
    have h4 : ¬ fn.name = "runtime.NumGoroutine" := by simpa using h2
    have h5 : ¬ fn.body = none := by intro e; rw [e] at h3; cases h3
    simp [go_sem, execOp, Act.eval, resolve, Deferred.ofValue, invoke, callFunc, h1, h4, h5]
  · obtain ⟨fn, h1, h2, h3⟩ : HasBody 29 := ⟨_, Try.func29, by kernel_rfl, by kernel_rfl⟩
    have h4 : ¬ fn.name = "runtime.NumGoroutine" := by simpa using h2
    have h5 : ¬ fn.body = none := by intro e; rw [e] at h3; cases h3
    simp [go_sem, execOp, Act.eval, resolve, Deferred.ofValue, invoke, callFunc, h1, h4, h5]
  refine load_J hs ?_
  rw [Frame.finish_at]
  try walk_nrm
  repeat first
    | refine JG.seq ?_
    | refine JG.skip ?_
    | refine JG.inBlock ?_
    | refine JG.block ?_
    | refine JG.done ?_
    | refine JG.label ?_
    | refine JG.condT rfl ?_
    | refine JG.condF rfl ?_
    | (refine JG.region ?_; simp only [List.size_toArray, List.length_cons, List.length_nil, Nat.reduceAdd, Nat.zero_add, List.range, List.range.loop])
    | (refine JG.unwanted rfl (by rfl) ?_; try walk_nrm)
    | (refine JG.op (F := F0) stands0 (fun h => by cases h) rfl rfl (by rfl) (by decide) (fun K E hK hE τ d => ?_); go_simp; refine hK _ _ (JG.tap ?_); clear hK hE K E τ d; try walk_nrm)
    | (refine JG.op (F := F0) stands0 (fun h => by cases h) rfl rfl (by rfl) (by decide) (fun K E hK hE τ d => ?_); have hfact := (under_cell _ τ d _).trans (b0); go_simp; refine hK _ _ (JG.tap ?_); clear hfact hK hE K E τ d; try walk_nrm)
    | (refine JG.op (F := F0) stands0 (fun h => by cases h) rfl rfl (by rfl) (by decide) (fun K E hK hE τ d => ?_); have hfact := (under_cell _ τ d _).trans (b1); go_simp; refine hK _ _ (JG.tap ?_); clear hfact hK hE K E τ d; try walk_nrm)
    | (refine JG.op (F := F0) stands0 (fun h => by cases h) rfl rfl (by rfl) (by decide) (fun K E hK hE τ d => ?_); have hfact := (under_cell _ τ d _).trans (b2); go_simp; refine hK _ _ (JG.tap ?_); clear hfact hK hE K E τ d; try walk_nrm)
  have k0 : (x.setCell (th t 0) (.int .i64 1)).cell? (th b 0) = some (.int .i64 1) := cell_setCell_ne (by simp [th, n2]) b0
  have k1 : (x.setCell (th t 0) (.int .i64 1)).cell? (th b 1) = some (P0 s) := cell_setCell_ne (by simp [th, n2]) b1
  have k2 : (x.setCell (th t 0) (.int .i64 1)).cell? (th b 2) = some (P0 t) := cell_setCell_ne (by simp [th, n2]) b2
  refine JG.drawCalls (fun i => if i = 6 then some 0 else none) (fun _ => .int .i64 1) (fun k y => if k = 0 then y = x else y = x.setCell (th t 0) (.int .i64 1)) 1 (by kernel_rfl) (by kernel_rfl) (by decide) rfl ?_
  apply Exists.intro
  apply And.intro
  · intro k hk y hy
    have hk' : k = 0 ∨ k = 1 := by omega
    rcases hk' with rfl | rfl
    · rw [show y = x from hy]
      repeat first
        | (refine JPass.rd (by rfl) (fun K hK τ d => ?_); go_simp; refine hK _ ?_; clear hK K τ d)
        | (refine JPass.rd (by rfl) (fun K hK τ d => ?_); have hfact := (under_cell _ τ d _).trans (b0); go_simp; refine hK _ ?_; clear hfact hK K τ d)
        | (refine JPass.rd (by rfl) (fun K hK τ d => ?_); have hfact := (under_cell _ τ d _).trans (b1); go_simp; refine hK _ ?_; clear hfact hK K τ d)
        | (refine JPass.rd (by rfl) (fun K hK τ d => ?_); have hfact := (under_cell _ τ d _).trans (b2); go_simp; refine hK _ ?_; clear hfact hK K τ d)
      refine JPass.cl (by rfl) (fun _ => ⟨73, #[P0 t, .pointer none, .int .i64 1], fun w => ?_, fun w => ?_, fun c hc => ?_⟩) ?_
      · obtain ⟨fn, h1, h2, h3⟩ : HasBody 73 := ⟨_, Try.func73, by kernel_rfl, by kernel_rfl⟩
        have h4 : ¬ fn.name = "runtime.NumGoroutine" := by simpa using h2
        have h5 : ¬ fn.body = none := by intro e; rw [e] at h3; cases h3
        simp [go_sem, execOp, Act.eval, resolve, Deferred.ofValue, invoke, callFunc, h1, h4, h5]
      · obtain ⟨fn, h1, h2, h3⟩ : HasBody 73 := ⟨_, Try.func73, by kernel_rfl, by kernel_rfl⟩
        have h4 : ¬ fn.name = "runtime.NumGoroutine" := by simpa using h2
        have h5 : ¬ fn.body = none := by intro e; rw [e] at h3; cases h3
        simp [go_sem, execOp, Act.eval, resolve, Deferred.ofValue, invoke, callFunc, h1, h4, h5]
      · refine add_J ht ?_
        rw [show wrap64 (0 + 1) = 1 from by decide +kernel]
        exact hc _ rfl
      repeat first
        | (refine JPass.rd (by rfl) (fun K hK τ d => ?_); go_simp; refine hK _ ?_; clear hK K τ d)
        | (refine JPass.rd (by rfl) (fun K hK τ d => ?_); have hfact := (under_cell _ τ d _).trans (b0); go_simp; refine hK _ ?_; clear hfact hK K τ d)
        | (refine JPass.rd (by rfl) (fun K hK τ d => ?_); have hfact := (under_cell _ τ d _).trans (b1); go_simp; refine hK _ ?_; clear hfact hK K τ d)
        | (refine JPass.rd (by rfl) (fun K hK τ d => ?_); have hfact := (under_cell _ τ d _).trans (b2); go_simp; refine hK _ ?_; clear hfact hK K τ d)
      exact rfl
    · rw [show y = x.setCell (th t 0) (.int .i64 1) from hy]
      repeat first
        | (refine JPass.rd (by rfl) (fun K hK τ d => ?_); go_simp; refine hK _ ?_; clear hK K τ d)
        | (refine JPass.rd (by rfl) (fun K hK τ d => ?_); have hfact := (under_cell _ τ d _).trans (k0); go_simp; refine hK _ ?_; clear hfact hK K τ d)
        | (refine JPass.rd (by rfl) (fun K hK τ d => ?_); have hfact := (under_cell _ τ d _).trans (k1); go_simp; refine hK _ ?_; clear hfact hK K τ d)
        | (refine JPass.rd (by rfl) (fun K hK τ d => ?_); have hfact := (under_cell _ τ d _).trans (k2); go_simp; refine hK _ ?_; clear hfact hK K τ d)
      refine JPass.cl (by rfl) (fun h => by cases h) ?_
      repeat first
        | (refine JPass.rd (by rfl) (fun K hK τ d => ?_); go_simp; refine hK _ ?_; clear hK K τ d)
        | (refine JPass.rd (by rfl) (fun K hK τ d => ?_); have hfact := (under_cell _ τ d _).trans (k0); go_simp; refine hK _ ?_; clear hfact hK K τ d)
        | (refine JPass.rd (by rfl) (fun K hK τ d => ?_); have hfact := (under_cell _ τ d _).trans (k1); go_simp; refine hK _ ?_; clear hfact hK K τ d)
        | (refine JPass.rd (by rfl) (fun K hK τ d => ?_); have hfact := (under_cell _ τ d _).trans (k2); go_simp; refine hK _ ?_; clear hfact hK K τ d)
      exact rfl
  · intro y hy
    rw [show y = x.setCell (th t 0) (.int .i64 1) from hy]
    clear b0 b1 b2 hy y
    have ht1 : FreeCell (x.setCell (th t 0) (.int .i64 1)) t 1 := ht.set
    have hs1 : FreeCell (x.setCell (th t 0) (.int .i64 1)) s v := hs.set_ne n3
    obtain ⟨y, hy⟩ : ∃ y, y = x.setCell (th t 0) (.int .i64 1) := ⟨_, rfl⟩
    rw [← hy] at k0 k1 k2 ht1 hs1 ⊢
    have q1 : y.heap.size = x.heap.size := by rw [hy, size_set]
    have q2 : ∀ r, r ≠ t → y.heap[r]? = x.heap[r]? := fun r hr => by rw [hy, heap_set_ne hr]
    clear hy
    try walk_nrm
    repeat first
      | refine JG.seq ?_
      | refine JG.skip ?_
      | refine JG.inBlock ?_
      | refine JG.block ?_
      | refine JG.done ?_
      | refine JG.label ?_
      | refine JG.condT rfl ?_
      | refine JG.condF rfl ?_
      | (refine JG.region ?_; simp only [List.size_toArray, List.length_cons, List.length_nil, Nat.reduceAdd, Nat.zero_add, List.range, List.range.loop])
      | (refine JG.unwanted rfl (by rfl) ?_; try walk_nrm)
      | (refine JG.op (F := F0) stands0 (fun h => by cases h) rfl rfl (by rfl) (by decide) (fun K E hK hE τ d => ?_); go_simp; refine hK _ _ (JG.tap ?_); clear hK hE K E τ d; try walk_nrm)
      | (refine JG.op (F := F0) stands0 (fun h => by cases h) rfl rfl (by rfl) (by decide) (fun K E hK hE τ d => ?_); have hfact := (under_cell _ τ d _).trans (k0); go_simp; refine hK _ _ (JG.tap ?_); clear hfact hK hE K E τ d; try walk_nrm)
      | (refine JG.op (F := F0) stands0 (fun h => by cases h) rfl rfl (by rfl) (by decide) (fun K E hK hE τ d => ?_); have hfact := (under_cell _ τ d _).trans (k1); go_simp; refine hK _ _ (JG.tap ?_); clear hfact hK hE K E τ d; try walk_nrm)
      | (refine JG.op (F := F0) stands0 (fun h => by cases h) rfl rfl (by rfl) (by decide) (fun K E hK hE τ d => ?_); have hfact := (under_cell _ τ d _).trans (k2); go_simp; refine hK _ _ (JG.tap ?_); clear hfact hK hE K E τ d; try walk_nrm)
    refine JG.call (f := 79) (args := #[P0 t, .pointer none, .int .i64 0]) rfl (by rfl) (by decide) (fun w => ?_) (fun w => ?_) ?_
    · obtain ⟨fn, h1, h2, h3⟩ : HasBody 79 := ⟨_, Try.func79, by kernel_rfl, by kernel_rfl⟩
      have h4 : ¬ fn.name = "runtime.NumGoroutine" := by simpa using h2
      have h5 : ¬ fn.body = none := by intro e; rw [e] at h3; cases h3
      simp [go_sem, execOp, Act.eval, resolve, Deferred.ofValue, invoke, callFunc, h1, h4, h5]
    · obtain ⟨fn, h1, h2, h3⟩ : HasBody 79 := ⟨_, Try.func79, by kernel_rfl, by kernel_rfl⟩
      have h4 : ¬ fn.name = "runtime.NumGoroutine" := by simpa using h2
      have h5 : ¬ fn.body = none := by intro e; rw [e] at h3; cases h3
      simp [go_sem, execOp, Act.eval, resolve, Deferred.ofValue, invoke, callFunc, h1, h4, h5]
    refine store_J ht1 ?_
    rw [Frame.finish_at]
    try walk_nrm
    have m1 : (y.setCell (th t 0) (.int .i64 0)).cell? (th b 1) = some (P0 s) := cell_setCell_ne (by simp [th, n2]) k1
    have hs2 : FreeCell (y.setCell (th t 0) (.int .i64 0)) s v := hs1.set_ne n3
    have ht2 : FreeCell (y.setCell (th t 0) (.int .i64 0)) t 0 := ht1.set
    repeat first
      | refine JG.seq ?_
      | refine JG.skip ?_
      | refine JG.inBlock ?_
      | refine JG.block ?_
      | refine JG.done ?_
      | refine JG.label ?_
      | refine JG.condT rfl ?_
      | refine JG.condF rfl ?_
      | (refine JG.region ?_; simp only [List.size_toArray, List.length_cons, List.length_nil, Nat.reduceAdd, Nat.zero_add, List.range, List.range.loop])
      | (refine JG.unwanted rfl (by rfl) ?_; try walk_nrm)
      | (refine JG.op (F := F0) stands0 (fun h => by cases h) rfl rfl (by rfl) (by decide) (fun K E hK hE τ d => ?_); go_simp; refine hK _ _ (JG.tap ?_); clear hK hE K E τ d; try walk_nrm)
      | (refine JG.op (F := F0) stands0 (fun h => by cases h) rfl rfl (by rfl) (by decide) (fun K E hK hE τ d => ?_); have hfact := (under_cell _ τ d _).trans (m1); go_simp; refine hK _ _ (JG.tap ?_); clear hfact hK hE K E τ d; try walk_nrm)
    refine JG.call (f := 73) (args := #[P0 s, .pointer none, .int .i64 1]) rfl (by rfl) (by decide) (fun w => ?_) (fun w => ?_) ?_
    · obtain ⟨fn, h1, h2, h3⟩ : HasBody 73 := ⟨_, Try.func73, by kernel_rfl, by kernel_rfl⟩
      have h4 : ¬ fn.name = "runtime.NumGoroutine" := by simpa using h2
      have h5 : ¬ fn.body = none := by intro e; rw [e] at h3; cases h3
      simp [go_sem, execOp, Act.eval, resolve, Deferred.ofValue, invoke, callFunc, h1, h4, h5]
    · obtain ⟨fn, h1, h2, h3⟩ : HasBody 73 := ⟨_, Try.func73, by kernel_rfl, by kernel_rfl⟩
      have h4 : ¬ fn.name = "runtime.NumGoroutine" := by simpa using h2
      have h5 : ¬ fn.body = none := by intro e; rw [e] at h3; cases h3
      simp [go_sem, execOp, Act.eval, resolve, Deferred.ofValue, invoke, callFunc, h1, h4, h5]
    refine add_J hs2 ?_
    rw [Frame.finish_at]
    try walk_nrm
    repeat first
      | refine JG.seq ?_
      | refine JG.skip ?_
      | refine JG.inBlock ?_
      | refine JG.block ?_
      | refine JG.done ?_
      | refine JG.label ?_
      | refine JG.condT rfl ?_
      | refine JG.condF rfl ?_
      | (refine JG.region ?_; simp only [List.size_toArray, List.length_cons, List.length_nil, Nat.reduceAdd, Nat.zero_add, List.range, List.range.loop])
      | (refine JG.unwanted rfl (by rfl) ?_; try walk_nrm)
      | (refine JG.op (F := F0) stands0 (fun h => by cases h) rfl rfl (by rfl) (by decide) (fun K E hK hE τ d => ?_); go_simp; refine hK _ _ (JG.tap ?_); clear hK hE K E τ d; try walk_nrm)
      | (refine JG.op (F := F0) stands0 (fun h => by cases h) rfl rfl (by rfl) (by decide) (fun K E hK hE τ d => ?_); have hfact := (under_cell _ τ d _).trans (m1); go_simp; refine hK _ _ (JG.tap ?_); clear hfact hK hE K E τ d; try walk_nrm)
    refine JG.ret ?_
    exact JG.leave rfl rfl Try.func51 (fun τ d => results_tmp3 (t := 4) (u := 5) (w := 6) rfl _ _ _) (h _ (by rw [size_set, size_set, q1]) (fun r h1 h2 => by rw [heap_set_ne h1, heap_set_ne h2, q2 r h2]) hs2.set (ht2.set_ne (fun e => n3 e.symm)))
end
end Go.Proofs.Ytecmobjiepgfjaa
