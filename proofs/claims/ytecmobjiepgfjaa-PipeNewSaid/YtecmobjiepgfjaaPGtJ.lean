/- A run of one thread that makes no access, up to its end: until. -/
import Derived.Test.YtecmobjiepgfjaaPGtI
namespace Go.Proofs.Ytecmobjiepgfjaa
open Go.Conc Go.RowKit
open Go.ConcN (upd upd_same upd_ne)
set_option linter.unusedSimpArgs false
set_option linter.unusedVariables false
set_option maxRecDepth 100000
theorem own1 {w : World} {N : Nat} {e : TypeId} {v a : Value} (h : w.ownsRow N e 1 v 1 [a]) : ∃ g cap, v = .slice (some ⟨g, 0, none⟩) 1 cap ∧ w.cell? (th g 0) = some a ∧ N ≤ g := by
  rcases h.2 with ⟨_, hn⟩ | ⟨g, cap, cur, rfl, hb, hg, h1, _, hs, ht⟩
  · cases hn
  · refine ⟨g, cap, rfl, ?_, hb⟩
    rw [cell_obj hg, ← Array.getElem?_toList]
    cases hl : cur.toList with
    | nil => rw [hl] at ht; cases ht
    | cons b l => rw [hl] at ht; simp at ht; simp [ht]
theorem own_nil {w : World} {N : Nat} {e : TypeId} {size : Nat} : w.ownsRow N e size (.slice none 0 0) 0 [] := ⟨by simp, .inl ⟨rfl, rfl⟩⟩
abbrev nilS : Value := .slice none 0 0
set_option maxHeartbeats 4000000 in
theorem until1 {Post : Value → World → Prop} {C : Ctx} {x : World} {c : Frame} {cs : List Frame} {N rb fb bb bc : Nat} {most : Int} {cap : Array Value} {vf vM vS : Value} {R : World → World → Prop} {x0 : World}
    (hd : C.d = 0) (hh : C.h < C.n) (hlo : C.lo ≤ N) (hM : Mild1 Post N x0 fb cap R) (hag : ∀ r, r < N → x.heap[r]? = x0.heap[r]?) (hvf : vf = .func (.func fb) #[] cap)
    (hr : x.heap[rb]? = some (.cells (runObj nilS vM nilS nilS nilS nilS false) 179 (0, 0))) (hN : N ≤ rb) (hb : x.cell? (th bb 0) = some vf)
    (hlow : ∀ i s, i ≠ C.h → C.Ch i = some s → s.c < x.heap.size) (hnone : C.Ch C.n = none)
    (hend : ∀ Ch' z0 z1 z2 vT' vF' tb st wk, (∀ i, i ≠ C.h → Ch' i = C.Ch i) → R z0 z1 → BegunJ x z0 z1 z2 N rb nilS nilS vT' vF' vM nilS nilS nilS false [] [] tb st wk → JG Try.prog Post { Ch := Ch', h := C.h, d := 0, n := C.n + 1, lo := C.lo, io := C.io } (G (c.finish (.tuple #[.int .i8 1, .bool true])) cs) z2) :
    JG Try.prog Post C (G (Frame.enter Try.prog 82 #[P0 rb, .int .i64 most, .slice (some ⟨bb, 0, none⟩) 1 bc, vS] .normal) (c :: cs)) x := by
  refine enterN Try.func82 (by rfl) (by rfl) ?_
  simp only [Try.f82, Option.getD_some]
  replace hvf := Lib.hid hvf
  replace hag := Lib.hid hag
  walk_nrm
  repeat first
    | refine JG.seq ?_
    | refine JG.skip ?_
    | refine JG.inBlock ?_
    | refine JG.block ?_
    | refine JG.done ?_
    | refine JG.label ?_
    | refine JG.condT rfl ?_
    | refine JG.condF rfl ?_
    | (refine JG.region ?_; simp only [List.size_toArray, List.length_cons, List.length_nil, Nat.reduceAdd, Nat.zero_add, List.range, List.range.loop])
    | (refine JG.unwanted rfl (by rfl) ?_; try walk_nrm)
    | (refine JG.op (F := F0) stands0 (fun h => by cases h) rfl rfl (by rfl) (by decide) (fun K E hK hE τ d => ?_); go_simp; refine hK _ _ (JG.tap ?_); clear hK hE K E τ d; try walk_nrm)
    | (refine JG.op (F := F0) stands0 (fun h => by cases h) rfl rfl (by rfl) (by decide) (fun K E hK hE τ d => ?_); have hfact := (under_cell _ τ d _).trans (hb); go_simp; refine hK _ _ (JG.tap ?_); clear hfact hK hE K E τ d; try walk_nrm)
  refine JG.loop ?_
  repeat first
    | refine JG.seq ?_
    | refine JG.skip ?_
    | refine JG.inBlock ?_
    | refine JG.block ?_
    | refine JG.done ?_
    | refine JG.label ?_
    | refine JG.condT rfl ?_
    | refine JG.condF rfl ?_
    | (refine JG.region ?_; simp only [List.size_toArray, List.length_cons, List.length_nil, Nat.reduceAdd, Nat.zero_add, List.range, List.range.loop])
    | (refine JG.unwanted rfl (by rfl) ?_; try walk_nrm)
    | (refine JG.op (F := F0) stands0 (fun h => by cases h) rfl rfl (by rfl) (by decide) (fun K E hK hE τ d => ?_); go_simp; refine hK _ _ (JG.tap ?_); clear hK hE K E τ d; try walk_nrm)
    | (refine JG.op (F := F0) stands0 (fun h => by cases h) rfl rfl (by rfl) (by decide) (fun K E hK hE τ d => ?_); have hfact := (under_cell _ τ d _).trans (hb); go_simp; refine hK _ _ (JG.tap ?_); clear hfact hK hE K E τ d; try walk_nrm)
  refine JG.call (f := 130) (args := #[P0 rb, vf]) rfl (by rfl) (by decide) (fun w => ?_) (fun w => ?_) ?_
  · obtain ⟨fn, h1, h2, h3⟩ : HasBody 130 := ⟨_, Try.func130, by kernel_rfl, by kernel_rfl⟩
    have h4 : ¬ fn.name = "runtime.NumGoroutine" := by simpa using h2
    have h5 : ¬ fn.body = none := by intro e; rw [e] at h3; cases h3
    simp [go_sem, execOp, Act.eval, resolve, Deferred.ofValue, invoke, callFunc, h1, h4, h5]
  · obtain ⟨fn, h1, h2, h3⟩ : HasBody 130 := ⟨_, Try.func130, by kernel_rfl, by kernel_rfl⟩
    have h4 : ¬ fn.name = "runtime.NumGoroutine" := by simpa using h2
    have h5 : ¬ fn.body = none := by intro e; rw [e] at h3; cases h3
    simp [go_sem, execOp, Act.eval, resolve, Deferred.ofValue, invoke, callFunc, h1, h4, h5]
  refine begin_J (ths := []) (fls := []) hd hh hlo hM hag.out hvf.out hr own_nil own_nil hN (by simp [Value.ownBlock]) (by simp [Value.ownBlock]) (fun g e => by simp [Value.ownBlock] at e) (by decide) (by decide) hlow hnone fun Ch' z0 z1 z2 vT' vF' tb st wk hCh hR hB => ?_
  rw [Frame.finish_at]
  walk_nrm
  repeat first
    | refine JG.seq ?_
    | refine JG.skip ?_
    | refine JG.inBlock ?_
    | refine JG.block ?_
    | refine JG.done ?_
    | refine JG.label ?_
    | refine JG.condT rfl ?_
    | refine JG.condF rfl ?_
    | (refine JG.region ?_; simp only [List.size_toArray, List.length_cons, List.length_nil, Nat.reduceAdd, Nat.zero_add, List.range, List.range.loop])
    | (refine JG.unwanted rfl (by rfl) ?_; try walk_nrm)
    | (refine JG.op (F := F0) stands0 (fun h => by cases h) rfl rfl (by rfl) (by decide) (fun K E hK hE τ d => ?_); go_simp; refine hK _ _ (JG.tap ?_); clear hK hE K E τ d; try walk_nrm)
    | (refine JG.op (F := F0) stands0 (fun h => by cases h) rfl rfl (by rfl) (by decide) (fun K E hK hE τ d => ?_); have hfact := (under_cell _ τ d _).trans (hb); go_simp; refine hK _ _ (JG.tap ?_); clear hfact hK hE K E τ d; try walk_nrm)
  refine JG.inLoop ?_
  repeat first
    | refine JG.seq ?_
    | refine JG.skip ?_
    | refine JG.inBlock ?_
    | refine JG.block ?_
    | refine JG.done ?_
    | refine JG.label ?_
    | refine JG.condT rfl ?_
    | refine JG.condF rfl ?_
    | (refine JG.region ?_; simp only [List.size_toArray, List.length_cons, List.length_nil, Nat.reduceAdd, Nat.zero_add, List.range, List.range.loop])
    | (refine JG.unwanted rfl (by rfl) ?_; try walk_nrm)
    | (refine JG.op (F := F0) stands0 (fun h => by cases h) rfl rfl (by rfl) (by decide) (fun K E hK hE τ d => ?_); go_simp; refine hK _ _ (JG.tap ?_); clear hK hE K E τ d; try walk_nrm)
    | (refine JG.op (F := F0) stands0 (fun h => by cases h) rfl rfl (by rfl) (by decide) (fun K E hK hE τ d => ?_); have hfact := (under_cell _ τ d _).trans (hb); go_simp; refine hK _ _ (JG.tap ?_); clear hfact hK hE K E τ d; try walk_nrm)
  refine JG.exit (by rfl) ?_
  repeat first
    | refine JG.seq ?_
    | refine JG.skip ?_
    | refine JG.inBlock ?_
    | refine JG.block ?_
    | refine JG.done ?_
    | refine JG.label ?_
    | refine JG.condT rfl ?_
    | refine JG.condF rfl ?_
    | (refine JG.region ?_; simp only [List.size_toArray, List.length_cons, List.length_nil, Nat.reduceAdd, Nat.zero_add, List.range, List.range.loop])
    | (refine JG.unwanted rfl (by rfl) ?_; try walk_nrm)
    | (refine JG.op (F := F0) stands0 (fun h => by cases h) rfl rfl (by rfl) (by decide) (fun K E hK hE τ d => ?_); go_simp; refine hK _ _ (JG.tap ?_); clear hK hE K E τ d; try walk_nrm)
    | (refine JG.op (F := F0) stands0 (fun h => by cases h) rfl rfl (by rfl) (by decide) (fun K E hK hE τ d => ?_); have hfact := (under_cell _ τ d _).trans (hb); go_simp; refine hK _ _ (JG.tap ?_); clear hfact hK hE K E τ d; try walk_nrm)
  refine JG.loop ?_
  repeat first
    | refine JG.seq ?_
    | refine JG.skip ?_
    | refine JG.inBlock ?_
    | refine JG.block ?_
    | refine JG.done ?_
    | refine JG.label ?_
    | refine JG.condT rfl ?_
    | refine JG.condF rfl ?_
    | (refine JG.region ?_; simp only [List.size_toArray, List.length_cons, List.length_nil, Nat.reduceAdd, Nat.zero_add, List.range, List.range.loop])
    | (refine JG.unwanted rfl (by rfl) ?_; try walk_nrm)
    | (refine JG.op (F := F0) stands0 (fun h => by cases h) rfl rfl (by rfl) (by decide) (fun K E hK hE τ d => ?_); go_simp; refine hK _ _ (JG.tap ?_); clear hK hE K E τ d; try walk_nrm)
    | (refine JG.op (F := F0) stands0 (fun h => by cases h) rfl rfl (by rfl) (by decide) (fun K E hK hE τ d => ?_); have hfact := (under_cell _ τ d _).trans (hb); go_simp; refine hK _ _ (JG.tap ?_); clear hfact hK hE K E τ d; try walk_nrm)
  refine JG.call (f := 131) (args := #[P0 rb]) rfl (by rfl) (by decide) (fun w => ?_) (fun w => ?_) ?_
  · obtain ⟨fn, h1, h2, h3⟩ : HasBody 131 := ⟨_, Try.func131, by kernel_rfl, by kernel_rfl⟩
    have h4 : ¬ fn.name = "runtime.NumGoroutine" := by simpa using h2
    have h5 : ¬ fn.body = none := by intro e; rw [e] at h3; cases h3
    simp [go_sem, execOp, Act.eval, resolve, Deferred.ofValue, invoke, callFunc, h1, h4, h5]
  · obtain ⟨fn, h1, h2, h3⟩ : HasBody 131 := ⟨_, Try.func131, by kernel_rfl, by kernel_rfl⟩
    have h4 : ¬ fn.name = "runtime.NumGoroutine" := by simpa using h2
    have h5 : ¬ fn.body = none := by intro e; rw [e] at h3; cases h3
    simp [go_sem, execOp, Act.eval, resolve, Deferred.ofValue, invoke, callFunc, h1, h4, h5]
  obtain ⟨g, cap', e1, hg, _⟩ := own1 hB.rths
  refine able1 (g := g) (cap := cap') (tb := tb) (by rw [cell_obj hB.obj, ← e1]; rfl) hg (by rw [cell_obj hB.thr]; rfl) ?_
  rw [Frame.finish_at]
  walk_nrm
  repeat first
    | refine JG.seq ?_
    | refine JG.skip ?_
    | refine JG.inBlock ?_
    | refine JG.block ?_
    | refine JG.done ?_
    | refine JG.label ?_
    | refine JG.condT rfl ?_
    | refine JG.condF rfl ?_
    | (refine JG.region ?_; simp only [List.size_toArray, List.length_cons, List.length_nil, Nat.reduceAdd, Nat.zero_add, List.range, List.range.loop])
    | (refine JG.unwanted rfl (by rfl) ?_; try walk_nrm)
    | (refine JG.op (F := F0) stands0 (fun h => by cases h) rfl rfl (by rfl) (by decide) (fun K E hK hE τ d => ?_); go_simp; refine hK _ _ (JG.tap ?_); clear hK hE K E τ d; try walk_nrm)
    | (refine JG.op (F := F0) stands0 (fun h => by cases h) rfl rfl (by rfl) (by decide) (fun K E hK hE τ d => ?_); have hfact := (under_cell _ τ d _).trans (hb); go_simp; refine hK _ _ (JG.tap ?_); clear hfact hK hE K E τ d; try walk_nrm)
  refine JG.ret ?_
  exact JG.leave rfl rfl Try.func82 (fun τ d => results_tmp2 (t := 8) (u := 9) rfl _ _ _) (hend Ch' z0 z1 z2 vT' vF' tb st wk hCh hR hB)
end Go.Proofs.Ytecmobjiepgfjaa
