/- The cell law's works, whole, under J. -/
import Derived.Test.YtecmobjiepgfjaaNRoF
namespace Go.Proofs.Ytecmobjiepgfjaa
open Go.Conc Go.RowKit
open Go.ConcN (upd upd_same upd_ne)
set_option linter.unusedSimpArgs false
set_option linter.unusedVariables false
set_option maxRecDepth 100000
/-- Nobody else stands anywhere. -/
structure Ctx.Alone (C : Ctx) (N : Nat) : Prop where
  d : C.d = 0
  h : C.h < C.n
  lo : C.lo ≤ N
  none : ∀ i, i ≠ C.h → C.Ch i = none
structure Ctx.Same (C C' : Ctx) : Prop where
  h : C'.h = C.h
  lo : C'.lo = C.lo
  io : C'.io = C.io
theorem box_set {x y : World} {bc cb n : Nat} {v : Int} (u : Int) (hne : bc ≠ cb) (b : y.heap[bc]? = some (.cells #[P0 cb] 29 (0, 0))) (i : IsCell y cb v) (o : OldStand x y) (hcb : x.heap.size ≤ cb) (s : y.heap.size = n) :
    (y.setCell (th cb 0) (.int .i64 u)).heap[bc]? = some (.cells #[P0 cb] 29 (0, 0)) ∧ IsCell (y.setCell (th cb 0) (.int .i64 u)) cb u ∧ OldStand x (y.setCell (th cb 0) (.int .i64 u)) ∧ (y.setCell (th cb 0) (.int .i64 u)).heap.size = n :=
  ⟨(heap_set_ne hne).trans b, i.set u, ⟨by rw [size_set]; exact o.1, fun r hr => by rw [heap_set_ne (by omega)]; exact o.2 r hr⟩, by rw [size_set]; exact s⟩
theorem own_cells {w : World} {N : Nat} {e : TypeId} {size : Nat} {v : Value} {n : Nat} {xs : List Value} (h : w.ownsRow N e size v n xs) (hn : n ≠ 0) : ∃ g cap, v = .slice (some ⟨g, 0, none⟩) n cap ∧ N ≤ g ∧ g < w.heap.size ∧ ∀ i u, xs[i]? = some u → w.cell? (th g i) = some u := by
  rcases h.2 with ⟨_, h0⟩ | ⟨g, cap, cur, rfl, hb, hg, _, _, _, ht⟩
  · exact absurd h0 hn
  · refine ⟨g, cap, rfl, hb, (Array.getElem?_eq_some_iff.1 hg).1, fun i u hu => ?_⟩
    rw [cell_obj hg, ← Array.getElem?_toList]
    rw [← ht, List.getElem?_take] at hu
    split at hu
    · exact hu
    · cases hu
section
variable {Post : Value → World → Prop} {C : Ctx} {x : World} {c : Frame} {cs : List Frame}
set_option maxHeartbeats 4000000 in
theorem works02_J (hC : C.Alone x.heap.size) (h : ∀ (C' : Ctx) (y : World), OldStand x y → C.Same C' → C'.Alone y.heap.size → JG Try.prog Post C' (G (c.finish (.bool true)) cs) y) :
    JG Try.prog Post C (G (Frame.enter Try.prog 12 #[] .normal) (c :: cs)) x := by
  replace hC := Lib.hid hC
  replace h := Lib.hid h
  refine enterN Try.func12 (by rfl) (by rfl) ?_
  simp only [Try.f12, Option.getD_some]
  walk_nrm
  repeat first | refine JG.seq ?_ | refine JG.skip ?_ | refine JG.inBlock ?_ | refine JG.block ?_ | refine JG.done ?_ | refine JG.label ?_ | refine JG.condT rfl ?_ | refine JG.condF rfl ?_ | (refine JG.region ?_; simp only [List.size_toArray, List.length_cons, List.length_nil, Nat.reduceAdd, Nat.zero_add, List.range, List.range.loop]) | (refine JG.unwanted rfl (by rfl) ?_; try walk_nrm) | (refine jgo rfl rfl (by rfl) (by decide) (fun K E hK hE τ d => ?_); go_simp; refine hK _ _ (JG.tap ?_); clear hK hE K E τ d; try walk_nrm)
  refine JG.call (f := 14) (args := #[.int .i64 5]) rfl (by rfl) (by decide) (fun w => ?_) (fun w => ?_) ?_
  iterate 2 (focus obtain ⟨fn, h1, h2, h3⟩ : HasBody 14 := ⟨_, Try.func14, by kernel_rfl, by kernel_rfl⟩; have h4 : ¬ fn.name = "runtime.NumGoroutine" := (by simpa using h2); have h5 : ¬ fn.body = none := (by intro e; rw [e] at h3; cases h3); simp [go_sem, execOp, Act.eval, resolve, Deferred.ofValue, invoke, callFunc, h1, h4, h5])
  refine cellNewI_J fun y1 o1 i1 s1 => ?_
  rw [Frame.finish_at]
  walk_nrm
  generalize hcb : x.heap.size = cb at i1 s1 hC ⊢
  replace i1 := Lib.hid i1
  replace o1 := Lib.hid o1
  replace s1 := Lib.hid s1
  repeat first | refine JG.seq ?_ | refine JG.skip ?_ | refine JG.inBlock ?_ | refine JG.block ?_ | refine JG.done ?_ | refine JG.label ?_ | refine JG.condT rfl ?_ | refine JG.condF rfl ?_ | (refine JG.region ?_; simp only [List.size_toArray, List.length_cons, List.length_nil, Nat.reduceAdd, Nat.zero_add, List.range, List.range.loop]) | (refine JG.unwanted rfl (by rfl) ?_; try walk_nrm) | (refine jgo rfl rfl (by rfl) (by decide) (fun K E hK hE τ d => ?_); go_simp; refine hK _ _ (JG.tap ?_); clear hK hE K E τ d; try walk_nrm)
  refine jgo rfl rfl (by rfl) (by decide) (fun K E hK hE τ d => ?_)
  go_simp
  refine hK _ _ (JG.tap (x := y1.alloc (.cells #[.pointer none] 29)) ?_)
  simp only [under_size]
  clear hK hE K E τ d
  have b1 : (y1.alloc (.cells #[.pointer none] 29)).heap[y1.heap.size]? = some (.cells #[.pointer none] 29 (0, 0)) := heap_alloc_new y1 _
  have o2 := o1.out.alloc (.cells #[.pointer none] 29)
  have i2 : IsCell (y1.alloc (.cells #[.pointer none] 29)) cb 5 := by unfold IsCell; rw [heap_alloc', Array.getElem?_push, if_neg (by have := s1.out; omega)]; exact i1.out
  have s2 : (y1.alloc (.cells #[.pointer none] 29)).heap.size = y1.heap.size + 1 := by simp
  generalize y1.alloc (.cells #[.pointer none] 29) = y2 at b1 o2 i2 s2 ⊢
  have s1' := s1.out
  clear s1
  generalize hbc : y1.heap.size = bc at b1 s1' s2 ⊢
  clear i1 o1
  have q0 : y2.cell? (th bc 0) = some (.pointer none) := cell_obj b1 0
  have q1 : y2.frozen? (th bc 0) = false := frozen_obj b1 0
  replace s1' := Lib.hid s1'
  refine jgo rfl rfl (by rfl) (by decide) (fun K E hK hE τ d => ?_)
  obtain ⟨hfact, hfact2⟩ := And.intro q0 q1
  replace hfact := (under_cell _ τ d _).trans hfact
  replace hfact2 := (under_frozen _ τ d _).trans hfact2
  go_simp
  refine hK _ _ ?_
  rw [under_setCell]
  refine JG.tap ?_
  clear hfact hfact2 hK hE K E τ d
  try walk_nrm
  have hne : bc ≠ cb := by have := s1'.out; omega
  have b2 : (y2.setCell (th bc 0) (P0 cb)).heap[bc]? = some (.cells #[P0 cb] 29 (0, 0)) := by rw [heap_set_self b1]; rfl
  have i3 : IsCell (y2.setCell (th bc 0) (P0 cb)) cb 5 := (heap_set_ne hne.symm).trans i2
  have o3 : OldStand x (y2.setCell (th bc 0) (P0 cb)) := ⟨by rw [size_set]; exact o2.1, fun r hr => by rw [heap_set_ne (by have := s1'.out; omega)]; exact o2.2 r hr⟩
  have s3 : (y2.setCell (th bc 0) (P0 cb)).heap.size = bc + 1 := by rw [size_set, s2]
  clear q0 q1 b1 i2 o2 s2
  generalize y2.setCell (th bc 0) (P0 cb) = y3 at b2 i3 o3 s3 ⊢
  have k3 : y3.cell? (th bc 0) = some (P0 cb) := cell_obj b2 0
  replace s3 := Lib.hid s3
  replace o3 := Lib.hid o3
  repeat first | refine JG.seq ?_ | refine JG.skip ?_ | refine JG.inBlock ?_ | refine JG.block ?_ | refine JG.done ?_ | refine JG.label ?_ | refine JG.condT rfl ?_ | refine JG.condF rfl ?_ | (refine JG.region ?_; simp only [List.size_toArray, List.length_cons, List.length_nil, Nat.reduceAdd, Nat.zero_add, List.range, List.range.loop]) | (refine JG.unwanted rfl (by rfl) ?_; try walk_nrm) | (refine jgo rfl rfl (by rfl) (by decide) (fun K E hK hE τ d => ?_); go_simp; refine hK _ _ (JG.tap ?_); clear hK hE K E τ d; try walk_nrm) | (refine jgo rfl rfl (by rfl) (by decide) (fun K E hK hE τ d => ?_); have hfact := (under_cell _ τ d _).trans (k3); go_simp; refine hK _ _ (JG.tap ?_); clear hfact hK hE K E τ d; try walk_nrm)
  refine JG.call (f := 29) (args := #[P0 cb, .pointer none]) rfl (by rfl) (by decide) (fun w => ?_) (fun w => ?_) ?_
  iterate 2 (focus obtain ⟨fn, h1, h2, h3⟩ : HasBody 29 := ⟨_, Try.func29, by kernel_rfl, by kernel_rfl⟩; have h4 : ¬ fn.name = "runtime.NumGoroutine" := (by simpa using h2); have h5 : ¬ fn.body = none := (by intro e; rw [e] at h3; cases h3); simp [go_sem, execOp, Act.eval, resolve, Deferred.ofValue, invoke, callFunc, h1, h4, h5])
  refine load_J i3.free ?_
  rw [Frame.finish_at]
  walk_nrm
  repeat first | refine JG.seq ?_ | refine JG.skip ?_ | refine JG.inBlock ?_ | refine JG.block ?_ | refine JG.done ?_ | refine JG.label ?_ | refine JG.condT rfl ?_ | refine JG.condF rfl ?_ | (refine JG.region ?_; simp only [List.size_toArray, List.length_cons, List.length_nil, Nat.reduceAdd, Nat.zero_add, List.range, List.range.loop]) | (refine JG.unwanted rfl (by rfl) ?_; try walk_nrm) | (refine jgo rfl rfl (by rfl) (by decide) (fun K E hK hE τ d => ?_); go_simp; refine hK _ _ (JG.tap ?_); clear hK hE K E τ d; try walk_nrm) | (refine jgo rfl rfl (by rfl) (by decide) (fun K E hK hE τ d => ?_); have hfact := (under_cell _ τ d _).trans (k3); go_simp; refine hK _ _ (JG.tap ?_); clear hfact hK hE K E τ d; try walk_nrm)
  refine JG.call (f := 73) (args := #[P0 cb, .pointer none, .int .i64 2]) rfl (by rfl) (by decide) (fun w => ?_) (fun w => ?_) ?_
  iterate 2 (focus obtain ⟨fn, h1, h2, h3⟩ : HasBody 73 := ⟨_, Try.func73, by kernel_rfl, by kernel_rfl⟩; have h4 : ¬ fn.name = "runtime.NumGoroutine" := (by simpa using h2); have h5 : ¬ fn.body = none := (by intro e; rw [e] at h3; cases h3); simp [go_sem, execOp, Act.eval, resolve, Deferred.ofValue, invoke, callFunc, h1, h4, h5])
  refine add_J i3.free ?_
  rw [Frame.finish_at]
  walk_nrm
  rw [show wrap64 (5 + 2) = 7 from by decide +kernel]
  have hcbx : x.heap.size ≤ cb := by omega
  obtain ⟨b4, i4, o4, s4⟩ := box_set 7 hne b2 i3 o3.out hcbx s3.out
  generalize y3.setCell (th cb 0) (.int .i64 7) = y4 at b4 i4 o4 s4 ⊢
  have k4 : y4.cell? (th bc 0) = some (P0 cb) := cell_obj b4 0
  replace s4 := Lib.hid s4
  replace o4 := Lib.hid o4
  clear b2 i3 o3 s3 k3
  repeat first | refine JG.seq ?_ | refine JG.skip ?_ | refine JG.inBlock ?_ | refine JG.block ?_ | refine JG.done ?_ | refine JG.label ?_ | refine JG.condT rfl ?_ | refine JG.condF rfl ?_ | (refine JG.region ?_; simp only [List.size_toArray, List.length_cons, List.length_nil, Nat.reduceAdd, Nat.zero_add, List.range, List.range.loop]) | (refine JG.unwanted rfl (by rfl) ?_; try walk_nrm) | (refine jgo rfl rfl (by rfl) (by decide) (fun K E hK hE τ d => ?_); go_simp; refine hK _ _ (JG.tap ?_); clear hK hE K E τ d; try walk_nrm) | (refine jgo rfl rfl (by rfl) (by decide) (fun K E hK hE τ d => ?_); have hfact := (under_cell _ τ d _).trans (k4); go_simp; refine hK _ _ (JG.tap ?_); clear hfact hK hE K E τ d; try walk_nrm)
  refine JG.call (f := 74) (args := #[P0 cb, .pointer none, .int .i64 7, .int .i64 1]) rfl (by rfl) (by decide) (fun w => ?_) (fun w => ?_) ?_
  iterate 2 (focus obtain ⟨fn, h1, h2, h3⟩ : HasBody 74 := ⟨_, Try.func74, by kernel_rfl, by kernel_rfl⟩; have h4 : ¬ fn.name = "runtime.NumGoroutine" := (by simpa using h2); have h5 : ¬ fn.body = none := (by intro e; rw [e] at h3; cases h3); simp [go_sem, execOp, Act.eval, resolve, Deferred.ofValue, invoke, callFunc, h1, h4, h5])
  refine cas_J i4.free ?_
  rw [if_pos rfl, Frame.finish_at, show decide ((7 : Int) = 7) = true from rfl]
  walk_nrm
  obtain ⟨b5, i5, o5, s5⟩ := box_set 1 hne b4 i4 o4.out hcbx s4.out
  generalize y4.setCell (th cb 0) (.int .i64 1) = y5 at b5 i5 o5 s5 ⊢
  have k5 : y5.cell? (th bc 0) = some (P0 cb) := cell_obj b5 0
  replace s5 := Lib.hid s5
  replace o5 := Lib.hid o5
  clear b4 i4 o4 s4 k4
  repeat first | refine JG.seq ?_ | refine JG.skip ?_ | refine JG.inBlock ?_ | refine JG.block ?_ | refine JG.done ?_ | refine JG.label ?_ | refine JG.condT rfl ?_ | refine JG.condF rfl ?_ | (refine JG.region ?_; simp only [List.size_toArray, List.length_cons, List.length_nil, Nat.reduceAdd, Nat.zero_add, List.range, List.range.loop]) | (refine JG.unwanted rfl (by rfl) ?_; try walk_nrm) | (refine jgo rfl rfl (by rfl) (by decide) (fun K E hK hE τ d => ?_); go_simp; refine hK _ _ (JG.tap ?_); clear hK hE K E τ d; try walk_nrm) | (refine jgo rfl rfl (by rfl) (by decide) (fun K E hK hE τ d => ?_); have hfact := (under_cell _ τ d _).trans (k5); go_simp; refine hK _ _ (JG.tap ?_); clear hfact hK hE K E τ d; try walk_nrm)
  refine JG.call (f := 75) (args := #[P0 cb, .pointer none, .int .i64 0]) rfl (by rfl) (by decide) (fun w => ?_) (fun w => ?_) ?_
  iterate 2 (focus obtain ⟨fn, h1, h2, h3⟩ : HasBody 75 := ⟨_, Try.func75, by kernel_rfl, by kernel_rfl⟩; have h4 : ¬ fn.name = "runtime.NumGoroutine" := (by simpa using h2); have h5 : ¬ fn.body = none := (by intro e; rw [e] at h3; cases h3); simp [go_sem, execOp, Act.eval, resolve, Deferred.ofValue, invoke, callFunc, h1, h4, h5])
  refine swap_J i5.free ?_
  rw [Frame.finish_at]
  walk_nrm
  obtain ⟨b6, i6, o6, s6⟩ := box_set 0 hne b5 i5 o5.out hcbx s5.out
  generalize y5.setCell (th cb 0) (.int .i64 0) = y6 at b6 i6 o6 s6 ⊢
  replace s6 := Lib.hid s6
  replace o6 := Lib.hid o6
  clear b5 i5 o5 s5 k5
  repeat first | refine JG.seq ?_ | refine JG.skip ?_ | refine JG.inBlock ?_ | refine JG.block ?_ | refine JG.done ?_ | refine JG.label ?_ | refine JG.condT rfl ?_ | refine JG.condF rfl ?_ | (refine JG.region ?_; simp only [List.size_toArray, List.length_cons, List.length_nil, Nat.reduceAdd, Nat.zero_add, List.range, List.range.loop]) | (refine JG.unwanted rfl (by rfl) ?_; try walk_nrm) | (refine jgo rfl rfl (by rfl) (by decide) (fun K E hK hE τ d => ?_); go_simp; refine hK _ _ (JG.tap ?_); clear hK hE K E τ d; try walk_nrm)
  refine jgo rfl rfl (by rfl) (by decide) (fun K E hK hE τ d => ?_)
  go_simp
  refine hK _ _ (JG.tap (x := y6.alloc (.cells #[.int .i64 0] 2)) ?_)
  simp only [under_size]
  clear hK hE K E τ d
  have g0 : (y6.alloc (.cells #[.int .i64 0] 2)).heap[y6.heap.size]? = some (.cells #[.int .i64 0] 2 (0, 0)) := heap_alloc_new y6 _
  have o7 : OldStand y6 (y6.alloc (.cells #[.int .i64 0] 2)) := (OldStand.refl y6).alloc _
  generalize y6.alloc (.cells #[.int .i64 0] 2) = y7 at g0 o7 ⊢
  have l6c := i6.lt
  have l6b := (Array.getElem?_eq_some_iff.1 b6).1
  generalize hgb : y6.heap.size = gb at g0 o7 l6c l6b ⊢
  refine jgo rfl rfl (by rfl) (by decide) (fun K E hK hE τ d => ?_)
  obtain ⟨hfact, hfact2⟩ := And.intro (cell_obj g0 0) (frozen_obj g0 0)
  replace hfact := (under_cell _ τ d _).trans hfact
  replace hfact2 := (under_frozen _ τ d _).trans hfact2
  go_simp
  refine hK _ _ ?_
  rw [under_setCell]
  refine JG.tap ?_
  clear hfact hfact2 hK hE K E τ d
  try walk_nrm
  have g8 : (y7.setCell (th gb 0) (.int .i64 0)).heap[gb]? = some (.cells #[.int .i64 0] 2 (0, 0)) := by rw [heap_set_self g0]; rfl
  have o8 : OldStand y6 (y7.setCell (th gb 0) (.int .i64 0)) := ⟨by rw [size_set]; exact o7.1, fun r hr => by rw [heap_set_ne (by omega)]; exact o7.2 r hr⟩
  generalize y7.setCell (th gb 0) (.int .i64 0) = y8 at g8 o8 ⊢
  have i8 : IsCell y8 cb 0 := (o8.2 cb (by omega)).trans i6
  have b8 := (o8.2 bc (by omega)).trans b6
  have o9 := o6.out.trans o8
  clear g0 o7 o8 i6 b6 o6
  repeat first | refine JG.seq ?_ | refine JG.skip ?_ | refine JG.inBlock ?_ | refine JG.block ?_ | refine JG.done ?_ | refine JG.label ?_ | refine JG.condT rfl ?_ | refine JG.condF rfl ?_ | (refine JG.region ?_; simp only [List.size_toArray, List.length_cons, List.length_nil, Nat.reduceAdd, Nat.zero_add, List.range, List.range.loop]) | (refine JG.unwanted rfl (by rfl) ?_; try walk_nrm) | (refine jgo rfl rfl (by rfl) (by decide) (fun K E hK hE τ d => ?_); go_simp; refine hK _ _ (JG.tap ?_); clear hK hE K E τ d; try walk_nrm)
  refine jgo rfl rfl (by rfl) (by decide) (fun K E hK hE τ d => ?_)
  go_simp
  refine hK _ _ (JG.tap (x := y8.alloc (.cells #[.func (.func 76) #[] #[P0 bc, P0 gb], .func (.func 78) #[] #[P0 bc]] 40)) ?_)
  simp only [under_size]
  clear hK hE K E τ d
  have f0 : (y8.alloc (.cells #[.func (.func 76) #[] #[P0 bc, P0 gb], .func (.func 78) #[] #[P0 bc]] 40)).heap[y8.heap.size]? = some (.cells #[.func (.func 76) #[] #[P0 bc, P0 gb], .func (.func 78) #[] #[P0 bc]] 40 (0, 0)) := heap_alloc_new y8 _
  have o10 := (OldStand.refl y8).alloc (.cells #[.func (.func 76) #[] #[P0 bc, P0 gb], .func (.func 78) #[] #[P0 bc]] 40)
  generalize y8.alloc (.cells #[.func (.func 76) #[] #[P0 bc, P0 gb], .func (.func 78) #[] #[P0 bc]] 40) = w1 at f0 o10 ⊢
  have l8g := (Array.getElem?_eq_some_iff.1 g8).1
  have l8c := i8.lt
  have l8b := (Array.getElem?_eq_some_iff.1 b8).1
  generalize hbb : y8.heap.size = bb at f0 o10 l8g l8c l8b ⊢
  rw [← hbb] at l8g l8c l8b
  have gw := (o10.2 gb (by omega)).trans g8
  have bw := (o10.2 bc (by omega)).trans b8
  have iw : IsCell w1 cb 0 := (o10.2 cb (by omega)).trans i8
  have ow := o9.trans o10
  clear g8 i8 b8 o9 o10
  have lbb := (Array.getElem?_eq_some_iff.1 f0).1
  have hbcx : x.heap.size ≤ bc := by have := s1'.out; omega
  have hgbx : x.heap.size ≤ gb := by have := s6.out; omega
  have hne' : bc ≠ cb ∧ gb ≠ cb := ⟨hne, by omega⟩
  replace ow := Lib.hid ow
  replace gw := Lib.hid gw
  replace bw := Lib.hid bw
  replace iw := Lib.hid iw
  replace f0 := Lib.hid f0
  repeat first | refine JG.seq ?_ | refine JG.skip ?_ | refine JG.inBlock ?_ | refine JG.block ?_ | refine JG.done ?_ | refine JG.label ?_ | refine JG.condT rfl ?_ | refine JG.condF rfl ?_ | (refine JG.region ?_; simp only [List.size_toArray, List.length_cons, List.length_nil, Nat.reduceAdd, Nat.zero_add, List.range, List.range.loop]) | (refine JG.unwanted rfl (by rfl) ?_; try walk_nrm) | (refine jgo rfl rfl (by rfl) (by decide) (fun K E hK hE τ d => ?_); go_simp; refine hK _ _ (JG.tap ?_); clear hK hE K E τ d; try walk_nrm)
  refine JG.call (f := 18) (args := #[.slice none 0 0, .int .i64 9, .slice (some ⟨bb, 0, none⟩) 2 2]) rfl (by rfl) (by decide) (fun w => ?_) (fun w => ?_) ?_
  iterate 2 (focus obtain ⟨fn, h1, h2, h3⟩ : HasBody 18 := ⟨_, Try.func18, by kernel_rfl, by kernel_rfl⟩; have h4 : ¬ fn.name = "runtime.NumGoroutine" := (by simpa using h2); have h5 : ¬ fn.body = none := (by intro e; rw [e] at h3; cases h3); simp [go_sem, execOp, Act.eval, resolve, Deferred.ofValue, invoke, callFunc, h1, h4, h5])
  refine run_R (S := w02Side bc gb cb hne') (Kp := fun r => r < x.heap.size ∨ r = bb) (picks := []) (most := 9) (m := 9) (bodies := [⟨76, #[P0 bc, P0 gb], w02P1⟩, ⟨78, #[P0 bc], w02P2⟩]) (sh := 0) (cells := fun _ => 0) (by decide) hC.out.d hC.out.h (Nat.le_trans hC.out.lo (by have := ow.out.1; omega)) hC.out.none (fun e => absurd rfl e) (fun j b e => ?_) (show 2 ≤ 64 by decide) (fun r hr => ?_) (fun b hb => ?_) ?_
    (fun Q e C' z M vL vW vR vl hQ d1 d2 d3 d4 d5 d6 hz hsz hM r1 r2 r3 r4 hI hQn hlv hnm => ?_)
  · refine ⟨bb, rfl, .inr rfl, ?_⟩
    match j, e with
    | 0, e => obtain rfl := Option.some.inj e; exact cell_obj f0.out 0
    | 1, e => obtain rfl := Option.some.inj e; exact cell_obj f0.out 1
    | j + 2, e => simp at e
  · rcases hr with h | rfl
    · have := ow.out.1; omega
    · exact lbb
  · rcases List.mem_cons.1 hb with rfl | hb
    · exact w02_b1 (by omega)
    · rw [List.mem_singleton.1 hb]; exact w02_b2
  · exact ⟨fun i _ => ⟨iw.out, show ¬ (cb < x.heap.size ∨ cb = bb) by omega⟩, ⟨bw.out, show ¬ (bc < x.heap.size ∨ bc = bb) by omega⟩, gw.out, show ¬ (gb < x.heap.size ∨ gb = bb) by omega⟩
  rw [Frame.finish_at]
  walk_nrm
  have hq : w02run = (e, Q) := hQ
  have he : e = 1 := by have := w02_end; rw [hq] at this; exact this
  have hsh : Q.st.sh = 4 := by have := w02_sh; rw [hq] at this; exact this
  have hcl : Q.st.cells 0 = 4 := by have := w02_cell; rw [hq] at this; exact this
  have hlog : Q.st.log = [⟨1, 2, 0, 4, 0, 0, 4, false⟩, ⟨0, 6, 0, 0, 0, 4, 4, false⟩] := by have := w02_log; rw [hq] at this; exact this
  obtain ⟨hIc, ⟨hIb, _⟩, hIg, _⟩ := hI
  have iz : IsCell z cb 4 := by have := (hIc 0 (show 0 < 1 from Nat.zero_lt_one)).1; rw [hcl] at this; exact this
  rw [hsh] at hIg
  rw [hlog] at r1
  obtain ⟨gL, cL, rfl, hLM, hLz, hLc⟩ := own_cells r1 (by decide)
  obtain ⟨aW, cW, rfl⟩ := own_slice r2
  obtain ⟨aR, cR, rfl⟩ := own_slice r3
  obtain ⟨al, cl, rfl⟩ := own_slice r4
  have oz : OldStand x z := ⟨by have := ow.out.1; omega, fun r hr => (hz r (.inl hr)).trans (ow.out.2 r hr)⟩
  have x0 : z.cell? (th gL 0) = some (.int .i64 1) := hLc 0 _ rfl
  have x9 : z.cell? (th gL 9) = some (.int .i8 6) := hLc 9 _ rfl
  subst he
  clear hQ hq hsh hcl hlog hIc r1 r2 r3 r4 hLc hz f0 gw bw iw ow hnm hlv
  replace oz := Lib.hid oz
  replace iz := Lib.hid iz
  repeat first | refine JG.seq ?_ | refine JG.skip ?_ | refine JG.inBlock ?_ | refine JG.block ?_ | refine JG.done ?_ | refine JG.label ?_ | refine JG.condT rfl ?_ | refine JG.condF rfl ?_ | (refine JG.region ?_; simp only [List.size_toArray, List.length_cons, List.length_nil, Nat.reduceAdd, Nat.zero_add, List.range, List.range.loop]) | (refine JG.unwanted rfl (by rfl) ?_; try walk_nrm) | (refine jgo rfl rfl (by rfl) (by decide) (fun K E hK hE τ d => ?_); go_simp; refine hK _ _ (JG.tap ?_); clear hK hE K E τ d; try walk_nrm)
  refine jgo rfl rfl (by rfl) (by decide) (fun K E hK hE τ d => ?_)
  go_simp
  refine hK _ _ (JG.tap (x := z.alloc (.cells #[.int .i8 0, .int .i64 0, .slice none 0 0, .slice none 0 0, .slice none 0 0, .slice none 0 0, .slice none 0 0] 43)) ?_)
  simp only [under_size]
  clear hK hE K E τ d
  have wn : (z.alloc (.cells #[.int .i8 0, .int .i64 0, .slice none 0 0, .slice none 0 0, .slice none 0 0, .slice none 0 0, .slice none 0 0] 43)).heap[z.heap.size]? = some (.cells #[.int .i8 0, .int .i64 0, .slice none 0 0, .slice none 0 0, .slice none 0 0, .slice none 0 0, .slice none 0 0] 43 (0, 0)) := heap_alloc_new z _
  have s4 := (OldStand.refl z).alloc (.cells #[.int .i8 0, .int .i64 0, .slice none 0 0, .slice none 0 0, .slice none 0 0, .slice none 0 0, .slice none 0 0] 43)
  generalize z.alloc (.cells #[.int .i8 0, .int .i64 0, .slice none 0 0, .slice none 0 0, .slice none 0 0, .slice none 0 0, .slice none 0 0] 43) = w2 at wn s4 ⊢
  have lzg := (Array.getElem?_eq_some_iff.1 hIg).1
  have lzb := (Array.getElem?_eq_some_iff.1 hIb).1
  have lzc := iz.out.lt
  generalize hq : z.heap.size = q at wn s4 lzg lzb lzc hLz hsz ⊢
  have m0 : w2.cell? (th q 0) = some (.int .i8 0) := cell_obj wn 0
  have n0 : w2.frozen? (th q 0) = false := frozen_obj wn 0
  have m1 : w2.cell? (th q 1) = some (.int .i64 0) := cell_obj wn 1
  have n1 : w2.frozen? (th q 1) = false := frozen_obj wn 1
  have m2 : w2.cell? (th q 2) = some (.slice none 0 0) := cell_obj wn 2
  have n2 : w2.frozen? (th q 2) = false := frozen_obj wn 2
  have m3 : w2.cell? (th q 3) = some (.slice none 0 0) := cell_obj wn 3
  have n3 : w2.frozen? (th q 3) = false := frozen_obj wn 3
  have m4 : w2.cell? (th q 4) = some (.slice none 0 0) := cell_obj wn 4
  have n4 : w2.frozen? (th q 4) = false := frozen_obj wn 4
  have m5 : w2.cell? (th q 5) = some (.slice none 0 0) := cell_obj wn 5
  have n5 : w2.frozen? (th q 5) = false := frozen_obj wn 5
  have m6 : w2.cell? (th q 6) = some (.slice none 0 0) := cell_obj wn 6
  have n6 : w2.frozen? (th q 6) = false := frozen_obj wn 6
  refine jgo rfl rfl (by rfl) (by decide) (fun K E hK hE τ d => ?_)
  have m0' := (under_cell w2 τ d _).trans m0
  have n0' := (under_frozen w2 τ d _).trans n0
  have m1' := (under_cell w2 τ d _).trans m1
  have n1' := (under_frozen w2 τ d _).trans n1
  have m2' := (under_cell w2 τ d _).trans m2
  have n2' := (under_frozen w2 τ d _).trans n2
  have m3' := (under_cell w2 τ d _).trans m3
  have n3' := (under_frozen w2 τ d _).trans n3
  have m4' := (under_cell w2 τ d _).trans m4
  have n4' := (under_frozen w2 τ d _).trans n4
  have m5' := (under_cell w2 τ d _).trans m5
  have n5' := (under_frozen w2 τ d _).trans n5
  have m6' := (under_cell w2 τ d _).trans m6
  have n6' := (under_frozen w2 τ d _).trans n6
  go_simp
  refine hK _ _ ?_
  rw [under_setCell, under_setCell, under_setCell, under_setCell, under_setCell, under_setCell, under_setCell]
  refine JG.tap ?_
  clear m0 n0 m0' n0' m1 n1 m1' n1' m2 n2 m2' n2' m3 n3 m3' n3' m4 n4 m4' n4' m5 n5 m5' n5' m6 n6 m6' n6' hK hE K E τ d
  obtain ⟨v, hv⟩ : ∃ v, v = (((((((w2.setCell (th q 0) (.int .i8 1)).setCell (th q 1) (.int .i64 Q.st.went.length)).setCell (th q 2) (.slice (some ⟨gL, 0, none⟩) 2 cL)).setCell (th q 3) (.slice aW Q.st.went.length cW)).setCell (th q 4) (.slice aR Q.st.ready.length cR)).setCell (th q 5) (.slice al Q.left.length cl)).setCell (th q 6) (.slice none 0 0)) := ⟨_, rfl⟩
  rw [← hv]
  try walk_nrm
  have hsv : v.heap.size = w2.heap.size := by rw [hv, size_set, size_set, size_set, size_set, size_set, size_set, size_set]
  have hvo : ∀ r, r ≠ q → v.heap[r]? = w2.heap[r]? := fun r h => by
    rw [hv, heap_set_ne h, heap_set_ne h, heap_set_ne h, heap_set_ne h, heap_set_ne h, heap_set_ne h, heap_set_ne h]
  have hvn : v.heap[q]? = some (.cells #[.int .i8 1, .int .i64 Q.st.went.length, .slice (some ⟨gL, 0, none⟩) 2 cL, .slice aW Q.st.went.length cW, .slice aR Q.st.ready.length cR, .slice al Q.left.length cl, .slice none 0 0] 43 (0, 0)) := by
    rw [hv]
    exact heap_set_self (heap_set_self (heap_set_self (heap_set_self (heap_set_self (heap_set_self (heap_set_self wn))))))
  clear hv wn
  have hvz : OldStand z v := ⟨by rw [hsv]; exact s4.1, fun r hr => (hvo r (by omega)).trans (s4.2 r (by omega))⟩
  have v0 : v.cell? (th q 0) = some (.int .i8 1) := cell_obj hvn 0
  have v2 : v.cell? (th q 2) = some (.slice (some ⟨gL, 0, none⟩) 2 cL) := cell_obj hvn 2
  have v3 : v.cell? (th gL 0) = some (.int .i64 1) := hvz.cell x0
  have v4 : v.cell? (th gL 9) = some (.int .i8 6) := hvz.cell x9
  have v5 : v.cell? (th gb 0) = some (.int .i64 4) := cell_obj ((hvz.2 gb (by omega)).trans hIg) 0
  have v6 : v.cell? (th bc 0) = some (P0 cb) := cell_obj ((hvz.2 bc (by omega)).trans hIb) 0
  have iv : IsCell v cb 4 := (hvz.2 cb (by omega)).trans iz.out
  have ov := oz.out.trans hvz
  have hal : C'.Alone v.heap.size := ⟨d1, by have h1 := hC.out.h; have h2 : C'.n = C.n + 2 := d3; omega, by have := hC.out.lo; have := ov.1; omega, fun i hi => d6 i (by omega)⟩
  have hsm : C.Same C' := ⟨d2, d4, d5⟩
  clear hvo hvz s4 x0 x9 hIg hIb
  replace ov := Lib.hid ov
  repeat first | refine JG.seq ?_ | refine JG.skip ?_ | refine JG.inBlock ?_ | refine JG.block ?_ | refine JG.done ?_ | refine JG.label ?_ | refine JG.condT rfl ?_ | refine JG.condF rfl ?_ | (refine JG.region ?_; simp only [List.size_toArray, List.length_cons, List.length_nil, Nat.reduceAdd, Nat.zero_add, List.range, List.range.loop]) | (refine JG.unwanted rfl (by rfl) ?_; try walk_nrm) | (refine jgo rfl rfl (by rfl) (by decide) (fun K E hK hE τ d => ?_); go_simp; refine hK _ _ (JG.tap ?_); clear hK hE K E τ d; try walk_nrm) | (refine jgo rfl rfl (by rfl) (by decide) (fun K E hK hE τ d => ?_); have hfact := (under_cell _ τ d _).trans (v0); go_simp; refine hK _ _ (JG.tap ?_); clear hfact hK hE K E τ d; try walk_nrm) | (refine jgo rfl rfl (by rfl) (by decide) (fun K E hK hE τ d => ?_); have hfact := (under_cell _ τ d _).trans (v2); go_simp; refine hK _ _ (JG.tap ?_); clear hfact hK hE K E τ d; try walk_nrm) | (refine jgo rfl rfl (by rfl) (by decide) (fun K E hK hE τ d => ?_); have hfact := (under_cell _ τ d _).trans (v3); go_simp; refine hK _ _ (JG.tap ?_); clear hfact hK hE K E τ d; try walk_nrm) | (refine jgo rfl rfl (by rfl) (by decide) (fun K E hK hE τ d => ?_); have hfact := (under_cell _ τ d _).trans (v4); go_simp; refine hK _ _ (JG.tap ?_); clear hfact hK hE K E τ d; try walk_nrm) | (refine jgo rfl rfl (by rfl) (by decide) (fun K E hK hE τ d => ?_); have hfact := (under_cell _ τ d _).trans (v5); go_simp; refine hK _ _ (JG.tap ?_); clear hfact hK hE K E τ d; try walk_nrm) | (refine jgo rfl rfl (by rfl) (by decide) (fun K E hK hE τ d => ?_); have hfact := (under_cell _ τ d _).trans (v6); go_simp; refine hK _ _ (JG.tap ?_); clear hfact hK hE K E τ d; try walk_nrm)
  refine JG.call (f := 29) (args := #[P0 cb, .pointer none]) rfl (by rfl) (by decide) (fun w => ?_) (fun w => ?_) ?_
  iterate 2 (focus obtain ⟨fn, h1, h2, h3⟩ : HasBody 29 := ⟨_, Try.func29, by kernel_rfl, by kernel_rfl⟩; have h4 : ¬ fn.name = "runtime.NumGoroutine" := (by simpa using h2); have h5 : ¬ fn.body = none := (by intro e; rw [e] at h3; cases h3); simp [go_sem, execOp, Act.eval, resolve, Deferred.ofValue, invoke, callFunc, h1, h4, h5])
  refine load_J iv.free ?_
  rw [Frame.finish_at]
  walk_nrm
  repeat first | refine JG.seq ?_ | refine JG.skip ?_ | refine JG.inBlock ?_ | refine JG.block ?_ | refine JG.done ?_ | refine JG.label ?_ | refine JG.condT rfl ?_ | refine JG.condF rfl ?_ | (refine JG.region ?_; simp only [List.size_toArray, List.length_cons, List.length_nil, Nat.reduceAdd, Nat.zero_add, List.range, List.range.loop]) | (refine JG.unwanted rfl (by rfl) ?_; try walk_nrm) | (refine jgo rfl rfl (by rfl) (by decide) (fun K E hK hE τ d => ?_); go_simp; refine hK _ _ (JG.tap ?_); clear hK hE K E τ d; try walk_nrm) | (refine jgo rfl rfl (by rfl) (by decide) (fun K E hK hE τ d => ?_); have hfact := (under_cell _ τ d _).trans (v0); go_simp; refine hK _ _ (JG.tap ?_); clear hfact hK hE K E τ d; try walk_nrm) | (refine jgo rfl rfl (by rfl) (by decide) (fun K E hK hE τ d => ?_); have hfact := (under_cell _ τ d _).trans (v2); go_simp; refine hK _ _ (JG.tap ?_); clear hfact hK hE K E τ d; try walk_nrm) | (refine jgo rfl rfl (by rfl) (by decide) (fun K E hK hE τ d => ?_); have hfact := (under_cell _ τ d _).trans (v3); go_simp; refine hK _ _ (JG.tap ?_); clear hfact hK hE K E τ d; try walk_nrm) | (refine jgo rfl rfl (by rfl) (by decide) (fun K E hK hE τ d => ?_); have hfact := (under_cell _ τ d _).trans (v4); go_simp; refine hK _ _ (JG.tap ?_); clear hfact hK hE K E τ d; try walk_nrm) | (refine jgo rfl rfl (by rfl) (by decide) (fun K E hK hE τ d => ?_); have hfact := (under_cell _ τ d _).trans (v5); go_simp; refine hK _ _ (JG.tap ?_); clear hfact hK hE K E τ d; try walk_nrm) | (refine jgo rfl rfl (by rfl) (by decide) (fun K E hK hE τ d => ?_); have hfact := (under_cell _ τ d _).trans (v6); go_simp; refine hK _ _ (JG.tap ?_); clear hfact hK hE K E τ d; try walk_nrm)
  refine JG.ret ?_
  exact JG.leave rfl rfl Try.func12 (fun τ d => results_tmp (t := 0) rfl _ _ _) (h.out C' v ov.out hsm hal)
end
end Go.Proofs.Ytecmobjiepgfjaa
