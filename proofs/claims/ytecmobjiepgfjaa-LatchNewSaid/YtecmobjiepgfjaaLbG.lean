/- LatchNew: the walk. -/
import Derived.Test.YtecmobjiepgfjaaLbF
import Derived.Test.YtecmobjiepgfjaaLbE
import Derived.Conc.Own4
namespace Go.Proofs.Ytecmobjiepgfjaa
open Go.Conc Go.RowKit
open Go.ConcN (upd upd_same upd_ne)
set_option linter.unusedSimpArgs false
set_option linter.unusedVariables false
set_option maxRecDepth 100000
section
variable {Post : Value → World → Prop} {C : Ctx} {x : World} {v : Int}
set_option maxHeartbeats 4000000 in
theorem latchTail_J {y : World} {vb : Nat} {u0 u1 u2 u4 u6 u7 u8 u9 u10 u11 u12 u13 u14 u15 u16 u17 u18 u19 u20 u21 u22 u23 u24 u25 u26 u27 u28 u29 u30 u31 u32 u33 u34 u35 u36 u37 u38 u39 u40 u41 u42 u43 u44 u45 u46 u47 u48 u49 u50 u51 u52 u53 u54 u55 u56 u57 u58 u59 u60 u61 u62 u63 u64 u65 u66 u67 u68 u69 u70 u71 u72 u73 u74 u75 u76 u77 u78 u79 u80 u81 u82 u83 u84 u85 u86 u87 u88 u89 u90 u91 u92 u93 u94 u95 u96 u97 u98 u99 u100 u101 u102 u103 u104 : Value} (hv : y.heap[vb]? = some (.cells #[.int .i64 v] 2 (0, 0))) (hC : First C x) (hs : OldStand x y) (h : Fine Post C x) :
    JG Try.prog Post C (G ((base 9).at ⟨List.toArray (u0 :: u1 :: u2 :: (P0 vb) :: u4 :: (.bool true) :: u6 :: u7 :: u8 :: u9 :: u10 :: u11 :: u12 :: u13 :: u14 :: u15 :: u16 :: u17 :: u18 :: u19 :: u20 :: u21 :: u22 :: u23 :: u24 :: u25 :: u26 :: u27 :: u28 :: u29 :: u30 :: u31 :: u32 :: u33 :: u34 :: u35 :: u36 :: u37 :: u38 :: u39 :: u40 :: u41 :: u42 :: u43 :: u44 :: u45 :: u46 :: u47 :: u48 :: u49 :: u50 :: u51 :: u52 :: u53 :: u54 :: u55 :: u56 :: u57 :: u58 :: u59 :: u60 :: u61 :: u62 :: u63 :: u64 :: u65 :: u66 :: u67 :: u68 :: u69 :: u70 :: u71 :: u72 :: u73 :: u74 :: u75 :: u76 :: u77 :: u78 :: u79 :: u80 :: u81 :: u82 :: u83 :: u84 :: u85 :: u86 :: u87 :: u88 :: u89 :: u90 :: u91 :: u92 :: u93 :: u94 :: u95 :: u96 :: u97 :: u98 :: u99 :: u100 :: u101 :: u102 :: u103 :: u104 :: []), []⟩ [.inRegion (Code.ops1 (Code.from (Try.f9.body.getD .skip) 7)) [0, 1], .code (Code.from (Try.f9.body.getD .skip) 8)]) []) y := by
  simp only [Try.f9, Option.getD_some, Code.from, Code.ops1]
  refine JG.op (F := F0) stands0 (fun h => by cases h) rfl rfl (by rfl) (by decide) (fun K E hK hE τ d => ?_)
  go_simp
  refine hK _ _ (JG.tap (x := y.alloc (.cells #[.bool false] 4)) ?_)
  simp only [under_size]
  clear hK hE K E τ d
  have g0 : (y.alloc (.cells #[.bool false] 4)).heap[y.heap.size]? = some (.cells #[.bool false] 4 (0, 0)) := heap_alloc_new y _
  refine JG.op (F := F0) stands0 (fun h => by cases h) rfl rfl (by rfl) (by decide) (fun K E hK hE τ d => ?_)
  obtain ⟨hfact, hfact2⟩ := And.intro (cell_obj g0 0) (frozen_obj g0 0)
  replace hfact := (under_cell _ τ d _).trans hfact
  replace hfact2 := (under_frozen _ τ d _).trans hfact2
  go_simp
  refine hK _ _ ?_
  rw [under_setCell]
  refine JG.tap ?_
  clear hfact hfact2 hK hE K E τ d
  try walk_nrm
  obtain ⟨w, hw⟩ : ∃ w, w = (y.alloc (.cells #[.bool false] 4)).setCell (th y.heap.size 0) (.bool true) := ⟨_, rfl⟩
  rw [← hw]
  have s1 : OldStand y w := by
    exact ⟨by rw [hw, size_set]; simp, fun r hr => by rw [hw, heap_set_ne (by omega), heap_alloc', Array.getElem?_push, if_neg (by omega)]⟩
  have gw : w.heap[y.heap.size]? = some (.cells #[.bool true] 4 (0, 0)) := by rw [hw]; exact heap_set_self g0
  have vw := (s1.2 vb (Array.getElem?_eq_some_iff.1 hv).1).trans hv
  replace s1 := hs.trans s1
  clear hw g0 hv hs
  generalize y.heap.size = gb at gw ⊢
  repeat first
    | refine JG.seq ?_
    | refine JG.skip ?_
    | refine JG.inBlock ?_
    | refine JG.block ?_
    | refine JG.done ?_
    | refine JG.label ?_
    | refine JG.condT rfl ?_
    | refine JG.condF rfl ?_
    | (refine JG.region ?_; simp only [List.size_toArray, List.length_cons, List.length_nil, Nat.reduceAdd, Nat.zero_add, List.range, List.range.loop])
    | (refine JG.unwanted rfl (by rfl) ?_; try walk_nrm)
    | (refine JG.op (F := F0) stands0 (fun h => by cases h) rfl rfl (by rfl) (by decide) (fun K E hK hE τ d => ?_); go_simp; refine hK _ _ (JG.tap ?_); clear hK hE K E τ d; try walk_nrm)
  refine JG.op (F := F0) stands0 (fun h => by cases h) rfl rfl (by rfl) (by decide) (fun K E hK hE τ d => ?_)
  go_simp
  refine hK _ _ (JG.tap (x := w.alloc (.cells #[.func (.func 50) #[] #[P0 gb, P0 vb]] 40)) ?_)
  simp only [under_size]
  clear hK hE K E τ d
  have b1 : (w.alloc (.cells #[.func (.func 50) #[] #[P0 gb, P0 vb]] 40)).cell? (th w.heap.size 0) = some (.func (.func 50) #[] #[P0 gb, P0 vb]) := cell_obj (heap_alloc_new w _) 0
  have s2 := (OldStand.refl w).alloc (.cells #[.func (.func 50) #[] #[P0 gb, P0 vb]] 40)
  generalize w.alloc (.cells #[.func (.func 50) #[] #[P0 gb, P0 vb]] 40) = w1 at b1 s2 ⊢
  generalize w.heap.size = bb at b1 ⊢
  have gl := (Array.getElem?_eq_some_iff.1 gw).1
  have vl := (Array.getElem?_eq_some_iff.1 vw).1
  have gw1 := (s2.2 gb gl).trans gw
  have vw1 := (s2.2 vb vl).trans vw
  replace s2 := s1.trans s2
  clear s1 gw vw gl vl
  repeat first
    | refine JG.seq ?_
    | refine JG.skip ?_
    | refine JG.inBlock ?_
    | refine JG.block ?_
    | refine JG.done ?_
    | refine JG.label ?_
    | refine JG.condT rfl ?_
    | refine JG.condF rfl ?_
    | (refine JG.region ?_; simp only [List.size_toArray, List.length_cons, List.length_nil, Nat.reduceAdd, Nat.zero_add, List.range, List.range.loop])
    | (refine JG.unwanted rfl (by rfl) ?_; try walk_nrm)
    | (refine JG.op (F := F0) stands0 (fun h => by cases h) rfl rfl (by rfl) (by decide) (fun K E hK hE τ d => ?_); go_simp; refine hK _ _ (JG.tap ?_); clear hK hE K E τ d; try walk_nrm)
  refine JG.call (f := 18) (args := #[.slice none 0 0, .int .i64 9, .slice (some ⟨bb, 0, none⟩) 1 1]) rfl (by rfl) (by decide) (fun w => ?_) (fun w => ?_) ?_
  · obtain ⟨fn, h1, h2, h3⟩ : HasBody 18 := ⟨_, Try.func18, by kernel_rfl, by kernel_rfl⟩
    have h4 : ¬ fn.name = "runtime.NumGoroutine" := by simpa using h2
    have h5 : ¬ fn.body = none := by intro e; rw [e] at h3; cases h3
    simp [go_sem, execOp, Act.eval, resolve, Deferred.ofValue, invoke, callFunc, h1, h4, h5]
  · obtain ⟨fn, h1, h2, h3⟩ : HasBody 18 := ⟨_, Try.func18, by kernel_rfl, by kernel_rfl⟩
    have h4 : ¬ fn.name = "runtime.NumGoroutine" := by simpa using h2
    have h5 : ¬ fn.body = none := by intro e; rw [e] at h3; cases h3
    simp [go_sem, execOp, Act.eval, resolve, Deferred.ofValue, invoke, callFunc, h1, h4, h5]
  have gl := (Array.getElem?_eq_some_iff.1 gw1).1
  have vl := (Array.getElem?_eq_some_iff.1 vw1).1
  obtain ⟨e1, e2, e3, e4, e5⟩ := hC
  refine run_J e2 (by omega) (by rw [e5]; exact s2.1) (latchMild (Nat.le_refl _) gw1 vw1 gl vl) rfl b1 (fun i s _ hs => by rw [e4 i] at hs; cases hs) (e4 _) fun Ch' z0 z1 y2 hCh hz0 hsz hR hy2 hys => ?_
  rw [Frame.finish_at]
  walk_nrm
  have s3 : OldStand w1 y2 := ⟨by have := hR.1; omega, fun r hr => by rw [hy2 r hr, hR.2 r (by omega), hz0 r hr]⟩
  have gw2 := (s3.2 gb gl).trans gw1
  replace s3 := s2.trans s3
  clear hz0 hsz hR hy2 hys gw1 vw1 gl vl s2 b1
  have hCh' : ∀ i, i ≠ 0 → Ch' i = none := fun i hi => (hCh i (by omega)).trans (e4 i)
  clear hCh
  repeat first
    | refine JG.seq ?_
    | refine JG.skip ?_
    | refine JG.inBlock ?_
    | refine JG.block ?_
    | refine JG.done ?_
    | refine JG.label ?_
    | refine JG.condT rfl ?_
    | refine JG.condF rfl ?_
    | (refine JG.region ?_; simp only [List.size_toArray, List.length_cons, List.length_nil, Nat.reduceAdd, Nat.zero_add, List.range, List.range.loop])
    | (refine JG.unwanted rfl (by rfl) ?_; try walk_nrm)
    | (refine JG.op (F := F0) stands0 (fun h => by cases h) rfl rfl (by rfl) (by decide) (fun K E hK hE τ d => ?_); go_simp; refine hK _ _ (JG.tap ?_); clear hK hE K E τ d; try walk_nrm)
  refine JG.op (F := F0) stands0 (fun h => by cases h) rfl rfl (by rfl) (by decide) (fun K E hK hE τ d => ?_)
  go_simp
  refine hK _ _ (JG.tap (x := y2.alloc (.cells #[.int .i8 0, .int .i64 0, nilS, nilS, nilS, nilS, nilS] 43)) ?_)
  simp only [under_size]
  clear hK hE K E τ d
  have wn : (y2.alloc (.cells #[.int .i8 0, .int .i64 0, nilS, nilS, nilS, nilS, nilS] 43)).heap[y2.heap.size]? = some (.cells #[.int .i8 0, .int .i64 0, nilS, nilS, nilS, nilS, nilS] 43 (0, 0)) := heap_alloc_new y2 _
  have s4 := (OldStand.refl y2).alloc (.cells #[.int .i8 0, .int .i64 0, nilS, nilS, nilS, nilS, nilS] 43)
  have gl := (Array.getElem?_eq_some_iff.1 gw2).1
  have gq : gb ≠ y2.heap.size := by omega
  generalize y2.alloc (.cells #[.int .i8 0, .int .i64 0, nilS, nilS, nilS, nilS, nilS] 43) = w2 at wn s4 ⊢
  have gw3 := (s4.2 gb gl).trans gw2
  have qx : x.heap.size ≤ y2.heap.size := s3.1
  replace s4 := s3.trans s4
  generalize y2.heap.size = q at wn gq qx ⊢
  clear gw2 gl s3
  have m0 : w2.cell? (th q 0) = some (.int .i8 0) := cell_obj wn 0
  have n0 : w2.frozen? (th q 0) = false := frozen_obj wn 0
  have m1 : w2.cell? (th q 1) = some (.int .i64 0) := cell_obj wn 1
  have n1 : w2.frozen? (th q 1) = false := frozen_obj wn 1
  have m2 : w2.cell? (th q 2) = some (nilS) := cell_obj wn 2
  have n2 : w2.frozen? (th q 2) = false := frozen_obj wn 2
  have m3 : w2.cell? (th q 3) = some (nilS) := cell_obj wn 3
  have n3 : w2.frozen? (th q 3) = false := frozen_obj wn 3
  have m4 : w2.cell? (th q 4) = some (nilS) := cell_obj wn 4
  have n4 : w2.frozen? (th q 4) = false := frozen_obj wn 4
  have m5 : w2.cell? (th q 5) = some (nilS) := cell_obj wn 5
  have n5 : w2.frozen? (th q 5) = false := frozen_obj wn 5
  have m6 : w2.cell? (th q 6) = some (nilS) := cell_obj wn 6
  have n6 : w2.frozen? (th q 6) = false := frozen_obj wn 6
  refine JG.op (F := F0) stands0 (fun h => by cases h) rfl rfl (by rfl) (by decide) (fun K E hK hE τ d => ?_)
  have m0' := (under_cell w2 τ d _).trans m0
  have n0' := (under_frozen w2 τ d _).trans n0
  have m1' := (under_cell w2 τ d _).trans m1
  have n1' := (under_frozen w2 τ d _).trans n1
  have m2' := (under_cell w2 τ d _).trans m2
  have n2' := (under_frozen w2 τ d _).trans n2
  have m3' := (under_cell w2 τ d _).trans m3
  have n3' := (under_frozen w2 τ d _).trans n3
  have m4' := (under_cell w2 τ d _).trans m4
  have n4' := (under_frozen w2 τ d _).trans n4
  have m5' := (under_cell w2 τ d _).trans m5
  have n5' := (under_frozen w2 τ d _).trans n5
  have m6' := (under_cell w2 τ d _).trans m6
  have n6' := (under_frozen w2 τ d _).trans n6
  go_simp
  refine hK _ _ ?_
  rw [under_setCell, under_setCell, under_setCell, under_setCell, under_setCell, under_setCell, under_setCell]
  refine JG.tap ?_
  clear m0 n0 m0' n0' m1 n1 m1' n1' m2 n2 m2' n2' m3 n3 m3' n3' m4 n4 m4' n4' m5 n5 m5' n5' m6 n6 m6' n6' hK hE K E τ d
  obtain ⟨w3, hw⟩ : ∃ w3, w3 = ((((((w2.setCell (th q 0) (.int .i8 1)).setCell (th q 1) (.int .i64 0)).setCell (th q 2) nilS).setCell (th q 3) nilS).setCell (th q 4) nilS).setCell (th q 5) nilS).setCell (th q 6) nilS := ⟨_, rfl⟩
  rw [← hw]
  try walk_nrm
  have hwo : ∀ r, r ≠ q → w3.heap[r]? = w2.heap[r]? := fun r h => by
    rw [hw, heap_set_ne h, heap_set_ne h, heap_set_ne h, heap_set_ne h, heap_set_ne h, heap_set_ne h, heap_set_ne h]
  have hwn : w3.heap[q]? = some (.cells #[.int .i8 1, .int .i64 0, nilS, nilS, nilS, nilS, nilS] 43 (0, 0)) := by
    rw [hw]
    exact heap_set_self (heap_set_self (heap_set_self (heap_set_self (heap_set_self (heap_set_self (heap_set_self wn))))))
  have hws : w3.heap.size = w2.heap.size := by rw [hw, size_set, size_set, size_set, size_set, size_set, size_set, size_set]
  clear hw
  have k0 : w3.cell? (th gb 0) = some (.bool true) := cell_obj ((hwo gb gq).trans gw3) 0
  have k1 : w3.cell? (th q 0) = some (.int .i8 1) := cell_obj hwn 0
  have k2 : w3.cell? (th q 1) = some (.int .i64 0) := cell_obj hwn 1
  repeat first
    | refine JG.seq ?_
    | refine JG.skip ?_
    | refine JG.inBlock ?_
    | refine JG.block ?_
    | refine JG.done ?_
    | refine JG.label ?_
    | refine JG.condT rfl ?_
    | refine JG.condF rfl ?_
    | (refine JG.region ?_; simp only [List.size_toArray, List.length_cons, List.length_nil, Nat.reduceAdd, Nat.zero_add, List.range, List.range.loop])
    | (refine JG.unwanted rfl (by rfl) ?_; try walk_nrm)
    | (refine JG.op (F := F0) stands0 (fun h => by cases h) rfl rfl (by rfl) (by decide) (fun K E hK hE τ d => ?_); go_simp; refine hK _ _ (JG.tap ?_); clear hK hE K E τ d; try walk_nrm)
    | (refine JG.op (F := F0) stands0 (fun h => by cases h) rfl rfl (by rfl) (by decide) (fun K E hK hE τ d => ?_); have hfact := (under_cell _ τ d _).trans (k0); go_simp; refine hK _ _ (JG.tap ?_); clear hfact hK hE K E τ d; try walk_nrm)
    | (refine JG.op (F := F0) stands0 (fun h => by cases h) rfl rfl (by rfl) (by decide) (fun K E hK hE τ d => ?_); have hfact := (under_cell _ τ d _).trans (k1); go_simp; refine hK _ _ (JG.tap ?_); clear hfact hK hE K E τ d; try walk_nrm)
    | (refine JG.op (F := F0) stands0 (fun h => by cases h) rfl rfl (by rfl) (by decide) (fun K E hK hE τ d => ?_); have hfact := (under_cell _ τ d _).trans (k2); go_simp; refine hK _ _ (JG.tap ?_); clear hfact hK hE K E τ d; try walk_nrm)
  refine JG.ret ?_
  have s5 : OldStand x w3 := ⟨by have := s4.1; omega, fun r hr => by rw [hwo r (by omega), s4.2 r hr]⟩
  exact JG.end e1 rfl hCh' rfl rfl Try.func9 (by kernel_rfl) (fun w _ d => results_tmp (t := 4) rfl _ _ _) (fun w => events_results_tmp rfl _ _) (fun w hT hio d => h (w.at d) hio (by have := hT.size; have := s5.1; show x.heap.size ≤ w.heap.size; omega) (fun r hr => ((hT.old r (by show r < C.lo; omega)).symm.trans (s5.2 r hr))))
set_option maxHeartbeats 8000000 in
theorem latchNew_all {n k : Int} (hC : First C x) (h : Fine Post C x) :
    JG Try.prog Post C (G (Frame.enter Try.prog 9 #[.int .i64 n, .int .i64 k] .normal) []) x := by
  refine enterN Try.func9 (by rfl) (by rfl) ?_
  simp only [Try.f9, Option.getD_some]
  walk_nrm
  repeat first
    | refine JG.seq ?_
    | refine JG.skip ?_
    | refine JG.inBlock ?_
    | refine JG.block ?_
    | refine JG.done ?_
    | refine JG.label ?_
    | refine JG.condT rfl ?_
    | refine JG.condF rfl ?_
    | (refine JG.region ?_; simp only [List.size_toArray, List.length_cons, List.length_nil, Nat.reduceAdd, Nat.zero_add, List.range, List.range.loop])
    | (refine JG.unwanted rfl (by rfl) ?_; try walk_nrm)
    | (refine JG.op (F := F0) stands0 (fun h => by cases h) rfl rfl (by rfl) (by decide) (fun K E hK hE τ d => ?_); go_simp; refine hK _ _ (JG.tap ?_); clear hK hE K E τ d; try walk_nrm)
  refine JG.op (F := F0) stands0 (fun h => by cases h) rfl rfl (by rfl) (by decide) (fun K E hK hE τ d => ?_)
  go_simp
  refine hK _ _ (JG.tap (x := x.alloc (.cells #[.int .i64 k] 2)) ?_)
  simp only [under_size]
  clear hK hE K E τ d
  have s0 : OldStand x (x.alloc (.cells #[.int .i64 k] 2)) := (OldStand.refl x).alloc _
  have v0 : (x.alloc (.cells #[.int .i64 k] 2)).heap[x.heap.size]? = some (.cells #[.int .i64 k] 2 (0, 0)) := heap_alloc_new x _
  generalize x.alloc (.cells #[.int .i64 k] 2) = y0 at s0 v0 ⊢
  generalize hvb : x.heap.size = vb at v0 ⊢
  repeat first
    | refine JG.seq ?_
    | refine JG.skip ?_
    | refine JG.inBlock ?_
    | refine JG.block ?_
    | refine JG.done ?_
    | refine JG.label ?_
    | refine JG.condT rfl ?_
    | refine JG.condF rfl ?_
    | (refine JG.region ?_; simp only [List.size_toArray, List.length_cons, List.length_nil, Nat.reduceAdd, Nat.zero_add, List.range, List.range.loop])
    | (refine JG.unwanted rfl (by rfl) ?_; try walk_nrm)
    | (refine JG.op (F := F0) stands0 (fun h => by cases h) rfl rfl (by rfl) (by decide) (fun K E hK hE τ d => ?_); go_simp; refine hK _ _ (JG.tap ?_); clear hK hE K E τ d; try walk_nrm)
  refine JG.call (f := 45) (args := #[]) rfl (by rfl) (by decide) (fun w => ?_) (fun w => ?_) ?_
  · obtain ⟨fn, h1, h2, h3⟩ : HasBody 45 := ⟨_, Try.func45, by kernel_rfl, by kernel_rfl⟩
    have h4 : ¬ fn.name = "runtime.NumGoroutine" := by simpa using h2
    have h5 : ¬ fn.body = none := by intro e; rw [e] at h3; cases h3
    simp [go_sem, execOp, Act.eval, resolve, Deferred.ofValue, invoke, callFunc, h1, h4, h5]
  · obtain ⟨fn, h1, h2, h3⟩ : HasBody 45 := ⟨_, Try.func45, by kernel_rfl, by kernel_rfl⟩
    have h4 : ¬ fn.name = "runtime.NumGoroutine" := by simpa using h2
    have h5 : ¬ fn.body = none := by intro e; rw [e] at h3; cases h3
    simp [go_sem, execOp, Act.eval, resolve, Deferred.ofValue, invoke, callFunc, h1, h4, h5]
  refine works5_J fun y1 o1 => ?_
  rw [Frame.finish_at]
  walk_nrm
  have vl0 := (Array.getElem?_eq_some_iff.1 v0).1
  have v1 := (o1.2 vb vl0).trans v0
  have s1 := s0.trans o1
  have vl1 := (Array.getElem?_eq_some_iff.1 v1).1
  clear s0 v0 o1 vl0
  repeat first
    | refine JG.seq ?_
    | refine JG.skip ?_
    | refine JG.inBlock ?_
    | refine JG.block ?_
    | refine JG.done ?_
    | refine JG.label ?_
    | refine JG.condT rfl ?_
    | refine JG.condF rfl ?_
    | (refine JG.region ?_; simp only [List.size_toArray, List.length_cons, List.length_nil, Nat.reduceAdd, Nat.zero_add, List.range, List.range.loop])
    | (refine JG.unwanted rfl (by rfl) ?_; try walk_nrm)
    | (refine JG.op (F := F0) stands0 (fun h => by cases h) rfl rfl (by rfl) (by decide) (fun K E hK hE τ d => ?_); go_simp; refine hK _ _ (JG.tap ?_); clear hK hE K E τ d; try walk_nrm)
  refine JG.call (f := 46) (args := #[.int .i64 n]) rfl (by rfl) (by decide) (fun w => ?_) (fun w => ?_) ?_
  · obtain ⟨fn, h1, h2, h3⟩ : HasBody 46 := ⟨_, Try.func46, by kernel_rfl, by kernel_rfl⟩
    have h4 : ¬ fn.name = "runtime.NumGoroutine" := by simpa using h2
    have h5 : ¬ fn.body = none := by intro e; rw [e] at h3; cases h3
    simp [go_sem, execOp, Act.eval, resolve, Deferred.ofValue, invoke, callFunc, h1, h4, h5]
  · obtain ⟨fn, h1, h2, h3⟩ : HasBody 46 := ⟨_, Try.func46, by kernel_rfl, by kernel_rfl⟩
    have h4 : ¬ fn.name = "runtime.NumGoroutine" := by simpa using h2
    have h5 : ¬ fn.body = none := by intro e; rw [e] at h3; cases h3
    simp [go_sem, execOp, Act.eval, resolve, Deferred.ofValue, invoke, callFunc, h1, h4, h5]
  cases d0 : decide (n < 0) with
  | true =>
    have d1 : decide (n < 1) = true := by simp at d0 ⊢; omega
    have g0 : decide (0 ≤ n) = false := by simp at d0 ⊢; omega
    have g1 : decide (1 ≤ n) = false := by simp at d0 ⊢; omega
    refine latchNewB_J d0 ?_
    rw [Frame.finish_at]
    walk_nrm
    repeat first
      | refine JG.seq ?_
      | refine JG.skip ?_
      | refine JG.inBlock ?_
      | refine JG.block ?_
      | refine JG.done ?_
      | refine JG.label ?_
      | refine JG.condT rfl ?_
      | refine JG.condF rfl ?_
      | (refine JG.region ?_; simp only [List.size_toArray, List.length_cons, List.length_nil, Nat.reduceAdd, Nat.zero_add, List.range, List.range.loop])
      | (refine JG.unwanted rfl (by rfl) ?_; try walk_nrm)
      | (refine JG.op (F := F0) stands0 (fun h => by cases h) rfl rfl (by rfl) (by decide) (fun K E hK hE τ d => ?_); go_simp; refine hK _ _ (JG.tap ?_); clear hK hE K E τ d; try walk_nrm)
    refine JG.call (f := 47) (args := #[.int .i64 n]) rfl (by rfl) (by decide) (fun w => ?_) (fun w => ?_) ?_
    · obtain ⟨fn, h1, h2, h3⟩ : HasBody 47 := ⟨_, Try.func47, by kernel_rfl, by kernel_rfl⟩
      have h4 : ¬ fn.name = "runtime.NumGoroutine" := by simpa using h2
      have h5 : ¬ fn.body = none := by intro e; rw [e] at h3; cases h3
      simp [go_sem, execOp, Act.eval, resolve, Deferred.ofValue, invoke, callFunc, h1, h4, h5]
    · obtain ⟨fn, h1, h2, h3⟩ : HasBody 47 := ⟨_, Try.func47, by kernel_rfl, by kernel_rfl⟩
      have h4 : ¬ fn.name = "runtime.NumGoroutine" := by simpa using h2
      have h5 : ¬ fn.body = none := by intro e; rw [e] at h3; cases h3
      simp [go_sem, execOp, Act.eval, resolve, Deferred.ofValue, invoke, callFunc, h1, h4, h5]
    refine barrierNewB_J d1 ?_
    rw [Frame.finish_at]
    walk_nrm
    repeat first
      | refine JG.seq ?_
      | refine JG.skip ?_
      | refine JG.inBlock ?_
      | refine JG.block ?_
      | refine JG.done ?_
      | refine JG.label ?_
      | refine JG.condT rfl ?_
      | refine JG.condF rfl ?_
      | (refine JG.region ?_; simp only [List.size_toArray, List.length_cons, List.length_nil, Nat.reduceAdd, Nat.zero_add, List.range, List.range.loop])
      | (refine JG.unwanted rfl (by rfl) ?_; try walk_nrm)
      | (refine JG.op (F := F0) stands0 (fun h => by cases h) rfl rfl (by rfl) (by decide) (fun K E hK hE τ d => ?_); go_simp; refine hK _ _ (JG.tap ?_); clear hK hE K E τ d; try walk_nrm)
    exact latchTail_J (x := x) v1 hC s1 h
  | false =>
    have g0 : decide (0 ≤ n) = true := by simp at d0 ⊢; omega
    refine latchNew_R d0 fun y2 l s o2 a1 a2 a3 fs hl => ?_
    rw [Frame.finish_at]
    walk_nrm
    have v2 := (o2.2 vb vl1).trans v1
    replace s1 := s1.trans o2
    have vs : vb ≠ s := by omega
    repeat first
      | refine JG.seq ?_
      | refine JG.skip ?_
      | refine JG.inBlock ?_
      | refine JG.block ?_
      | refine JG.done ?_
      | refine JG.label ?_
      | refine JG.condT rfl ?_
      | refine JG.condF rfl ?_
      | (refine JG.region ?_; simp only [List.size_toArray, List.length_cons, List.length_nil, Nat.reduceAdd, Nat.zero_add, List.range, List.range.loop])
      | (refine JG.unwanted rfl (by rfl) ?_; try walk_nrm)
      | (refine JG.op (F := F0) stands0 (fun h => by cases h) rfl rfl (by rfl) (by decide) (fun K E hK hE τ d => ?_); go_simp; refine hK _ _ (JG.tap ?_); clear hK hE K E τ d; try walk_nrm)
    refine JG.call (f := 47) (args := #[.int .i64 n]) rfl (by rfl) (by decide) (fun w => ?_) (fun w => ?_) ?_
    · obtain ⟨fn, h1, h2, h3⟩ : HasBody 47 := ⟨_, Try.func47, by kernel_rfl, by kernel_rfl⟩
      have h4 : ¬ fn.name = "runtime.NumGoroutine" := by simpa using h2
      have h5 : ¬ fn.body = none := by intro e; rw [e] at h3; cases h3
      simp [go_sem, execOp, Act.eval, resolve, Deferred.ofValue, invoke, callFunc, h1, h4, h5]
    · obtain ⟨fn, h1, h2, h3⟩ : HasBody 47 := ⟨_, Try.func47, by kernel_rfl, by kernel_rfl⟩
      have h4 : ¬ fn.name = "runtime.NumGoroutine" := by simpa using h2
      have h5 : ¬ fn.body = none := by intro e; rw [e] at h3; cases h3
      simp [go_sem, execOp, Act.eval, resolve, Deferred.ofValue, invoke, callFunc, h1, h4, h5]
    cases d1 : decide (n < 1) with
    | true =>
      have g1 : decide (1 ≤ n) = false := by simp at d1 ⊢; omega
      refine barrierNewB_J d1 ?_
      rw [Frame.finish_at]
      walk_nrm
      have vy := v2
      have oy := s1
      have xs : x.heap.size ≤ s := by have := s1.1; omega
      repeat first
        | refine JG.seq ?_
        | refine JG.skip ?_
        | refine JG.inBlock ?_
        | refine JG.block ?_
        | refine JG.done ?_
        | refine JG.label ?_
        | refine JG.condT rfl ?_
        | refine JG.condF rfl ?_
        | (refine JG.region ?_; simp only [List.size_toArray, List.length_cons, List.length_nil, Nat.reduceAdd, Nat.zero_add, List.range, List.range.loop])
        | (refine JG.unwanted rfl (by rfl) ?_; try walk_nrm)
        | (refine JG.op (F := F0) stands0 (fun h => by cases h) rfl rfl (by rfl) (by decide) (fun K E hK hE τ d => ?_); go_simp; refine hK _ _ (JG.tap ?_); clear hK hE K E τ d; try walk_nrm)
      refine JG.call (f := 48) (args := #[P0 l, .pointer none]) rfl (by rfl) (by decide) (fun w => ?_) (fun w => ?_) ?_
      · obtain ⟨fn, h1, h2, h3⟩ : HasBody 48 := ⟨_, Try.func48, by kernel_rfl, by kernel_rfl⟩
        have h4 : ¬ fn.name = "runtime.NumGoroutine" := by simpa using h2
        have h5 : ¬ fn.body = none := by intro e; rw [e] at h3; cases h3
        simp [go_sem, execOp, Act.eval, resolve, Deferred.ofValue, invoke, callFunc, h1, h4, h5]
      · obtain ⟨fn, h1, h2, h3⟩ : HasBody 48 := ⟨_, Try.func48, by kernel_rfl, by kernel_rfl⟩
        have h4 : ¬ fn.name = "runtime.NumGoroutine" := by simpa using h2
        have h5 : ¬ fn.body = none := by intro e; rw [e] at h3; cases h3
        simp [go_sem, execOp, Act.eval, resolve, Deferred.ofValue, invoke, callFunc, h1, h4, h5]
      refine left_J hl fs ?_
      rw [Frame.finish_at]
      walk_nrm
      have kv : _ = some (Value.int .i64 k) := cell_obj vy 0
      cases p0 : decide (k < 1) with
      | true =>
        have p1 : decide (1 ≤ k) = false := by simp at p0 ⊢; omega
        repeat first
          | refine JG.seq ?_
          | refine JG.skip ?_
          | refine JG.inBlock ?_
          | refine JG.block ?_
          | refine JG.done ?_
          | refine JG.label ?_
          | refine JG.condT rfl ?_
          | refine JG.condF rfl ?_
          | (refine JG.region ?_; simp only [List.size_toArray, List.length_cons, List.length_nil, Nat.reduceAdd, Nat.zero_add, List.range, List.range.loop])
          | (refine JG.unwanted rfl (by rfl) ?_; try walk_nrm)
          | (refine JG.op (F := F0) stands0 (fun h => by cases h) rfl rfl (by rfl) (by decide) (fun K E hK hE τ d => ?_); go_simp; refine hK _ _ (JG.tap ?_); clear hK hE K E τ d; try walk_nrm)
          | (refine JG.op (F := F0) stands0 (fun h => by cases h) rfl rfl (by rfl) (by decide) (fun K E hK hE τ d => ?_); have hfact := (under_cell _ τ d _).trans (kv); go_simp; refine hK _ _ (JG.tap ?_); clear hfact hK hE K E τ d; try walk_nrm)
        refine JG.call (f := 49) (args := #[P0 l, .pointer none, .int .i64 k]) rfl (by rfl) (by decide) (fun w => ?_) (fun w => ?_) ?_
        · obtain ⟨fn, h1, h2, h3⟩ : HasBody 49 := ⟨_, Try.func49, by kernel_rfl, by kernel_rfl⟩
          have h4 : ¬ fn.name = "runtime.NumGoroutine" := by simpa using h2
          have h5 : ¬ fn.body = none := by intro e; rw [e] at h3; cases h3
          simp [go_sem, execOp, Act.eval, resolve, Deferred.ofValue, invoke, callFunc, h1, h4, h5]
        · obtain ⟨fn, h1, h2, h3⟩ : HasBody 49 := ⟨_, Try.func49, by kernel_rfl, by kernel_rfl⟩
          have h4 : ¬ fn.name = "runtime.NumGoroutine" := by simpa using h2
          have h5 : ¬ fn.body = none := by intro e; rw [e] at h3; cases h3
          simp [go_sem, execOp, Act.eval, resolve, Deferred.ofValue, invoke, callFunc, h1, h4, h5]
        refine downA_J hl p0 ?_
        rw [Frame.finish_at]
        walk_nrm
        repeat first
          | refine JG.seq ?_
          | refine JG.skip ?_
          | refine JG.inBlock ?_
          | refine JG.block ?_
          | refine JG.done ?_
          | refine JG.label ?_
          | refine JG.condT rfl ?_
          | refine JG.condF rfl ?_
          | (refine JG.region ?_; simp only [List.size_toArray, List.length_cons, List.length_nil, Nat.reduceAdd, Nat.zero_add, List.range, List.range.loop])
          | (refine JG.unwanted rfl (by rfl) ?_; try walk_nrm)
          | (refine JG.op (F := F0) stands0 (fun h => by cases h) rfl rfl (by rfl) (by decide) (fun K E hK hE τ d => ?_); go_simp; refine hK _ _ (JG.tap ?_); clear hK hE K E τ d; try walk_nrm)
          | (refine JG.op (F := F0) stands0 (fun h => by cases h) rfl rfl (by rfl) (by decide) (fun K E hK hE τ d => ?_); have hfact := (under_cell _ τ d _).trans (kv); go_simp; refine hK _ _ (JG.tap ?_); clear hfact hK hE K E τ d; try walk_nrm)
        exact latchTail_J (x := x) vy hC oy h
      | false =>
        have p1 : decide (1 ≤ k) = true := by simp at p0 ⊢; omega
        cases p2 : decide (n < k) with
        | true =>
          have p3 : decide (k ≤ n) = false := by simp at p2 ⊢; omega
          repeat first
            | refine JG.seq ?_
            | refine JG.skip ?_
            | refine JG.inBlock ?_
            | refine JG.block ?_
            | refine JG.done ?_
            | refine JG.label ?_
            | refine JG.condT rfl ?_
            | refine JG.condF rfl ?_
            | (refine JG.region ?_; simp only [List.size_toArray, List.length_cons, List.length_nil, Nat.reduceAdd, Nat.zero_add, List.range, List.range.loop])
            | (refine JG.unwanted rfl (by rfl) ?_; try walk_nrm)
            | (refine JG.op (F := F0) stands0 (fun h => by cases h) rfl rfl (by rfl) (by decide) (fun K E hK hE τ d => ?_); go_simp; refine hK _ _ (JG.tap ?_); clear hK hE K E τ d; try walk_nrm)
            | (refine JG.op (F := F0) stands0 (fun h => by cases h) rfl rfl (by rfl) (by decide) (fun K E hK hE τ d => ?_); have hfact := (under_cell _ τ d _).trans (kv); go_simp; refine hK _ _ (JG.tap ?_); clear hfact hK hE K E τ d; try walk_nrm)
          refine JG.call (f := 49) (args := #[P0 l, .pointer none, .int .i64 k]) rfl (by rfl) (by decide) (fun w => ?_) (fun w => ?_) ?_
          · obtain ⟨fn, h1, h2, h3⟩ : HasBody 49 := ⟨_, Try.func49, by kernel_rfl, by kernel_rfl⟩
            have h4 : ¬ fn.name = "runtime.NumGoroutine" := by simpa using h2
            have h5 : ¬ fn.body = none := by intro e; rw [e] at h3; cases h3
            simp [go_sem, execOp, Act.eval, resolve, Deferred.ofValue, invoke, callFunc, h1, h4, h5]
          · obtain ⟨fn, h1, h2, h3⟩ : HasBody 49 := ⟨_, Try.func49, by kernel_rfl, by kernel_rfl⟩
            have h4 : ¬ fn.name = "runtime.NumGoroutine" := by simpa using h2
            have h5 : ¬ fn.body = none := by intro e; rw [e] at h3; cases h3
            simp [go_sem, execOp, Act.eval, resolve, Deferred.ofValue, invoke, callFunc, h1, h4, h5]
          refine downC_J hl fs p0 p2 ?_
          rw [Frame.finish_at]
          walk_nrm
          repeat first
            | refine JG.seq ?_
            | refine JG.skip ?_
            | refine JG.inBlock ?_
            | refine JG.block ?_
            | refine JG.done ?_
            | refine JG.label ?_
            | refine JG.condT rfl ?_
            | refine JG.condF rfl ?_
            | (refine JG.region ?_; simp only [List.size_toArray, List.length_cons, List.length_nil, Nat.reduceAdd, Nat.zero_add, List.range, List.range.loop])
            | (refine JG.unwanted rfl (by rfl) ?_; try walk_nrm)
            | (refine JG.op (F := F0) stands0 (fun h => by cases h) rfl rfl (by rfl) (by decide) (fun K E hK hE τ d => ?_); go_simp; refine hK _ _ (JG.tap ?_); clear hK hE K E τ d; try walk_nrm)
            | (refine JG.op (F := F0) stands0 (fun h => by cases h) rfl rfl (by rfl) (by decide) (fun K E hK hE τ d => ?_); have hfact := (under_cell _ τ d _).trans (kv); go_simp; refine hK _ _ (JG.tap ?_); clear hfact hK hE K E τ d; try walk_nrm)
          exact latchTail_J (x := x) vy hC oy h
        | false =>
          have p3 : decide (k ≤ n) = true := by simp at p2 ⊢; omega
          repeat first
            | refine JG.seq ?_
            | refine JG.skip ?_
            | refine JG.inBlock ?_
            | refine JG.block ?_
            | refine JG.done ?_
            | refine JG.label ?_
            | refine JG.condT rfl ?_
            | refine JG.condF rfl ?_
            | (refine JG.region ?_; simp only [List.size_toArray, List.length_cons, List.length_nil, Nat.reduceAdd, Nat.zero_add, List.range, List.range.loop])
            | (refine JG.unwanted rfl (by rfl) ?_; try walk_nrm)
            | (refine JG.op (F := F0) stands0 (fun h => by cases h) rfl rfl (by rfl) (by decide) (fun K E hK hE τ d => ?_); go_simp; refine hK _ _ (JG.tap ?_); clear hK hE K E τ d; try walk_nrm)
            | (refine JG.op (F := F0) stands0 (fun h => by cases h) rfl rfl (by rfl) (by decide) (fun K E hK hE τ d => ?_); have hfact := (under_cell _ τ d _).trans (kv); go_simp; refine hK _ _ (JG.tap ?_); clear hfact hK hE K E τ d; try walk_nrm)
          refine JG.call (f := 49) (args := #[P0 l, .pointer none, .int .i64 k]) rfl (by rfl) (by decide) (fun w => ?_) (fun w => ?_) ?_
          · obtain ⟨fn, h1, h2, h3⟩ : HasBody 49 := ⟨_, Try.func49, by kernel_rfl, by kernel_rfl⟩
            have h4 : ¬ fn.name = "runtime.NumGoroutine" := by simpa using h2
            have h5 : ¬ fn.body = none := by intro e; rw [e] at h3; cases h3
            simp [go_sem, execOp, Act.eval, resolve, Deferred.ofValue, invoke, callFunc, h1, h4, h5]
          · obtain ⟨fn, h1, h2, h3⟩ : HasBody 49 := ⟨_, Try.func49, by kernel_rfl, by kernel_rfl⟩
            have h4 : ¬ fn.name = "runtime.NumGoroutine" := by simpa using h2
            have h5 : ¬ fn.body = none := by intro e; rw [e] at h3; cases h3
            simp [go_sem, execOp, Act.eval, resolve, Deferred.ofValue, invoke, callFunc, h1, h4, h5]
          refine down_J hl fs p0 p2 a3 fun z qz _ => ?_
          rw [Frame.finish_at]
          walk_nrm
          have vz : z.heap[vb]? = some (.cells #[.int .i64 k] 2 (0, 0)) := (qz.2 vb (by omega)).trans vy
          repeat first
            | refine JG.seq ?_
            | refine JG.skip ?_
            | refine JG.inBlock ?_
            | refine JG.block ?_
            | refine JG.done ?_
            | refine JG.label ?_
            | refine JG.condT rfl ?_
            | refine JG.condF rfl ?_
            | (refine JG.region ?_; simp only [List.size_toArray, List.length_cons, List.length_nil, Nat.reduceAdd, Nat.zero_add, List.range, List.range.loop])
            | (refine JG.unwanted rfl (by rfl) ?_; try walk_nrm)
            | (refine JG.op (F := F0) stands0 (fun h => by cases h) rfl rfl (by rfl) (by decide) (fun K E hK hE τ d => ?_); go_simp; refine hK _ _ (JG.tap ?_); clear hK hE K E τ d; try walk_nrm)
            | (refine JG.op (F := F0) stands0 (fun h => by cases h) rfl rfl (by rfl) (by decide) (fun K E hK hE τ d => ?_); have hfact := (under_cell _ τ d _).trans (kv); go_simp; refine hK _ _ (JG.tap ?_); clear hfact hK hE K E τ d; try walk_nrm)
          exact latchTail_J (x := x) vz hC (oy.but qz (by omega)) h
    | false =>
      have g1 : decide (1 ≤ n) = true := by simp at d1 ⊢; omega
      refine barrierNew_R d1 fun y3 b p q o3 e1 e2 e3 e4 e5 e6 fp fq hb => ?_
      rw [Frame.finish_at]
      walk_nrm
      have xs : x.heap.size ≤ s := by have := s1.1; omega
      have vy := (o3.2 vb (Array.getElem?_eq_some_iff.1 v2).1).trans v2
      have oy := s1.trans o3
      replace fs := o3.free fs
      replace hl := o3.cell hl
      clear o3 e1 e2 e3 e4 e5 e6 fp fq hb
      repeat first
        | refine JG.seq ?_
        | refine JG.skip ?_
        | refine JG.inBlock ?_
        | refine JG.block ?_
        | refine JG.done ?_
        | refine JG.label ?_
        | refine JG.condT rfl ?_
        | refine JG.condF rfl ?_
        | (refine JG.region ?_; simp only [List.size_toArray, List.length_cons, List.length_nil, Nat.reduceAdd, Nat.zero_add, List.range, List.range.loop])
        | (refine JG.unwanted rfl (by rfl) ?_; try walk_nrm)
        | (refine JG.op (F := F0) stands0 (fun h => by cases h) rfl rfl (by rfl) (by decide) (fun K E hK hE τ d => ?_); go_simp; refine hK _ _ (JG.tap ?_); clear hK hE K E τ d; try walk_nrm)
      refine JG.call (f := 48) (args := #[P0 l, .pointer none]) rfl (by rfl) (by decide) (fun w => ?_) (fun w => ?_) ?_
      · obtain ⟨fn, h1, h2, h3⟩ : HasBody 48 := ⟨_, Try.func48, by kernel_rfl, by kernel_rfl⟩
        have h4 : ¬ fn.name = "runtime.NumGoroutine" := by simpa using h2
        have h5 : ¬ fn.body = none := by intro e; rw [e] at h3; cases h3
        simp [go_sem, execOp, Act.eval, resolve, Deferred.ofValue, invoke, callFunc, h1, h4, h5]
      · obtain ⟨fn, h1, h2, h3⟩ : HasBody 48 := ⟨_, Try.func48, by kernel_rfl, by kernel_rfl⟩
        have h4 : ¬ fn.name = "runtime.NumGoroutine" := by simpa using h2
        have h5 : ¬ fn.body = none := by intro e; rw [e] at h3; cases h3
        simp [go_sem, execOp, Act.eval, resolve, Deferred.ofValue, invoke, callFunc, h1, h4, h5]
      refine left_J hl fs ?_
      rw [Frame.finish_at]
      walk_nrm
      have kv : _ = some (Value.int .i64 k) := cell_obj vy 0
      cases p0 : decide (k < 1) with
      | true =>
        have p1 : decide (1 ≤ k) = false := by simp at p0 ⊢; omega
        repeat first
          | refine JG.seq ?_
          | refine JG.skip ?_
          | refine JG.inBlock ?_
          | refine JG.block ?_
          | refine JG.done ?_
          | refine JG.label ?_
          | refine JG.condT rfl ?_
          | refine JG.condF rfl ?_
          | (refine JG.region ?_; simp only [List.size_toArray, List.length_cons, List.length_nil, Nat.reduceAdd, Nat.zero_add, List.range, List.range.loop])
          | (refine JG.unwanted rfl (by rfl) ?_; try walk_nrm)
          | (refine JG.op (F := F0) stands0 (fun h => by cases h) rfl rfl (by rfl) (by decide) (fun K E hK hE τ d => ?_); go_simp; refine hK _ _ (JG.tap ?_); clear hK hE K E τ d; try walk_nrm)
          | (refine JG.op (F := F0) stands0 (fun h => by cases h) rfl rfl (by rfl) (by decide) (fun K E hK hE τ d => ?_); have hfact := (under_cell _ τ d _).trans (kv); go_simp; refine hK _ _ (JG.tap ?_); clear hfact hK hE K E τ d; try walk_nrm)
        refine JG.call (f := 49) (args := #[P0 l, .pointer none, .int .i64 k]) rfl (by rfl) (by decide) (fun w => ?_) (fun w => ?_) ?_
        · obtain ⟨fn, h1, h2, h3⟩ : HasBody 49 := ⟨_, Try.func49, by kernel_rfl, by kernel_rfl⟩
          have h4 : ¬ fn.name = "runtime.NumGoroutine" := by simpa using h2
          have h5 : ¬ fn.body = none := by intro e; rw [e] at h3; cases h3
          simp [go_sem, execOp, Act.eval, resolve, Deferred.ofValue, invoke, callFunc, h1, h4, h5]
        · obtain ⟨fn, h1, h2, h3⟩ : HasBody 49 := ⟨_, Try.func49, by kernel_rfl, by kernel_rfl⟩
          have h4 : ¬ fn.name = "runtime.NumGoroutine" := by simpa using h2
          have h5 : ¬ fn.body = none := by intro e; rw [e] at h3; cases h3
          simp [go_sem, execOp, Act.eval, resolve, Deferred.ofValue, invoke, callFunc, h1, h4, h5]
        refine downA_J hl p0 ?_
        rw [Frame.finish_at]
        walk_nrm
        repeat first
          | refine JG.seq ?_
          | refine JG.skip ?_
          | refine JG.inBlock ?_
          | refine JG.block ?_
          | refine JG.done ?_
          | refine JG.label ?_
          | refine JG.condT rfl ?_
          | refine JG.condF rfl ?_
          | (refine JG.region ?_; simp only [List.size_toArray, List.length_cons, List.length_nil, Nat.reduceAdd, Nat.zero_add, List.range, List.range.loop])
          | (refine JG.unwanted rfl (by rfl) ?_; try walk_nrm)
          | (refine JG.op (F := F0) stands0 (fun h => by cases h) rfl rfl (by rfl) (by decide) (fun K E hK hE τ d => ?_); go_simp; refine hK _ _ (JG.tap ?_); clear hK hE K E τ d; try walk_nrm)
          | (refine JG.op (F := F0) stands0 (fun h => by cases h) rfl rfl (by rfl) (by decide) (fun K E hK hE τ d => ?_); have hfact := (under_cell _ τ d _).trans (kv); go_simp; refine hK _ _ (JG.tap ?_); clear hfact hK hE K E τ d; try walk_nrm)
        exact latchTail_J (x := x) vy hC oy h
      | false =>
        have p1 : decide (1 ≤ k) = true := by simp at p0 ⊢; omega
        cases p2 : decide (n < k) with
        | true =>
          have p3 : decide (k ≤ n) = false := by simp at p2 ⊢; omega
          repeat first
            | refine JG.seq ?_
            | refine JG.skip ?_
            | refine JG.inBlock ?_
            | refine JG.block ?_
            | refine JG.done ?_
            | refine JG.label ?_
            | refine JG.condT rfl ?_
            | refine JG.condF rfl ?_
            | (refine JG.region ?_; simp only [List.size_toArray, List.length_cons, List.length_nil, Nat.reduceAdd, Nat.zero_add, List.range, List.range.loop])
            | (refine JG.unwanted rfl (by rfl) ?_; try walk_nrm)
            | (refine JG.op (F := F0) stands0 (fun h => by cases h) rfl rfl (by rfl) (by decide) (fun K E hK hE τ d => ?_); go_simp; refine hK _ _ (JG.tap ?_); clear hK hE K E τ d; try walk_nrm)
            | (refine JG.op (F := F0) stands0 (fun h => by cases h) rfl rfl (by rfl) (by decide) (fun K E hK hE τ d => ?_); have hfact := (under_cell _ τ d _).trans (kv); go_simp; refine hK _ _ (JG.tap ?_); clear hfact hK hE K E τ d; try walk_nrm)
          refine JG.call (f := 49) (args := #[P0 l, .pointer none, .int .i64 k]) rfl (by rfl) (by decide) (fun w => ?_) (fun w => ?_) ?_
          · obtain ⟨fn, h1, h2, h3⟩ : HasBody 49 := ⟨_, Try.func49, by kernel_rfl, by kernel_rfl⟩
            have h4 : ¬ fn.name = "runtime.NumGoroutine" := by simpa using h2
            have h5 : ¬ fn.body = none := by intro e; rw [e] at h3; cases h3
            simp [go_sem, execOp, Act.eval, resolve, Deferred.ofValue, invoke, callFunc, h1, h4, h5]
          · obtain ⟨fn, h1, h2, h3⟩ : HasBody 49 := ⟨_, Try.func49, by kernel_rfl, by kernel_rfl⟩
            have h4 : ¬ fn.name = "runtime.NumGoroutine" := by simpa using h2
            have h5 : ¬ fn.body = none := by intro e; rw [e] at h3; cases h3
            simp [go_sem, execOp, Act.eval, resolve, Deferred.ofValue, invoke, callFunc, h1, h4, h5]
          refine downC_J hl fs p0 p2 ?_
          rw [Frame.finish_at]
          walk_nrm
          repeat first
            | refine JG.seq ?_
            | refine JG.skip ?_
            | refine JG.inBlock ?_
            | refine JG.block ?_
            | refine JG.done ?_
            | refine JG.label ?_
            | refine JG.condT rfl ?_
            | refine JG.condF rfl ?_
            | (refine JG.region ?_; simp only [List.size_toArray, List.length_cons, List.length_nil, Nat.reduceAdd, Nat.zero_add, List.range, List.range.loop])
            | (refine JG.unwanted rfl (by rfl) ?_; try walk_nrm)
            | (refine JG.op (F := F0) stands0 (fun h => by cases h) rfl rfl (by rfl) (by decide) (fun K E hK hE τ d => ?_); go_simp; refine hK _ _ (JG.tap ?_); clear hK hE K E τ d; try walk_nrm)
            | (refine JG.op (F := F0) stands0 (fun h => by cases h) rfl rfl (by rfl) (by decide) (fun K E hK hE τ d => ?_); have hfact := (under_cell _ τ d _).trans (kv); go_simp; refine hK _ _ (JG.tap ?_); clear hfact hK hE K E τ d; try walk_nrm)
          exact latchTail_J (x := x) vy hC oy h
        | false =>
          have p3 : decide (k ≤ n) = true := by simp at p2 ⊢; omega
          repeat first
            | refine JG.seq ?_
            | refine JG.skip ?_
            | refine JG.inBlock ?_
            | refine JG.block ?_
            | refine JG.done ?_
            | refine JG.label ?_
            | refine JG.condT rfl ?_
            | refine JG.condF rfl ?_
            | (refine JG.region ?_; simp only [List.size_toArray, List.length_cons, List.length_nil, Nat.reduceAdd, Nat.zero_add, List.range, List.range.loop])
            | (refine JG.unwanted rfl (by rfl) ?_; try walk_nrm)
            | (refine JG.op (F := F0) stands0 (fun h => by cases h) rfl rfl (by rfl) (by decide) (fun K E hK hE τ d => ?_); go_simp; refine hK _ _ (JG.tap ?_); clear hK hE K E τ d; try walk_nrm)
            | (refine JG.op (F := F0) stands0 (fun h => by cases h) rfl rfl (by rfl) (by decide) (fun K E hK hE τ d => ?_); have hfact := (under_cell _ τ d _).trans (kv); go_simp; refine hK _ _ (JG.tap ?_); clear hfact hK hE K E τ d; try walk_nrm)
          refine JG.call (f := 49) (args := #[P0 l, .pointer none, .int .i64 k]) rfl (by rfl) (by decide) (fun w => ?_) (fun w => ?_) ?_
          · obtain ⟨fn, h1, h2, h3⟩ : HasBody 49 := ⟨_, Try.func49, by kernel_rfl, by kernel_rfl⟩
            have h4 : ¬ fn.name = "runtime.NumGoroutine" := by simpa using h2
            have h5 : ¬ fn.body = none := by intro e; rw [e] at h3; cases h3
            simp [go_sem, execOp, Act.eval, resolve, Deferred.ofValue, invoke, callFunc, h1, h4, h5]
          · obtain ⟨fn, h1, h2, h3⟩ : HasBody 49 := ⟨_, Try.func49, by kernel_rfl, by kernel_rfl⟩
            have h4 : ¬ fn.name = "runtime.NumGoroutine" := by simpa using h2
            have h5 : ¬ fn.body = none := by intro e; rw [e] at h3; cases h3
            simp [go_sem, execOp, Act.eval, resolve, Deferred.ofValue, invoke, callFunc, h1, h4, h5]
          refine down_J hl fs p0 p2 a3 fun z qz _ => ?_
          rw [Frame.finish_at]
          walk_nrm
          have vz : z.heap[vb]? = some (.cells #[.int .i64 k] 2 (0, 0)) := (qz.2 vb (by omega)).trans vy
          repeat first
            | refine JG.seq ?_
            | refine JG.skip ?_
            | refine JG.inBlock ?_
            | refine JG.block ?_
            | refine JG.done ?_
            | refine JG.label ?_
            | refine JG.condT rfl ?_
            | refine JG.condF rfl ?_
            | (refine JG.region ?_; simp only [List.size_toArray, List.length_cons, List.length_nil, Nat.reduceAdd, Nat.zero_add, List.range, List.range.loop])
            | (refine JG.unwanted rfl (by rfl) ?_; try walk_nrm)
            | (refine JG.op (F := F0) stands0 (fun h => by cases h) rfl rfl (by rfl) (by decide) (fun K E hK hE τ d => ?_); go_simp; refine hK _ _ (JG.tap ?_); clear hK hE K E τ d; try walk_nrm)
            | (refine JG.op (F := F0) stands0 (fun h => by cases h) rfl rfl (by rfl) (by decide) (fun K E hK hE τ d => ?_); have hfact := (under_cell _ τ d _).trans (kv); go_simp; refine hK _ _ (JG.tap ?_); clear hfact hK hE K E τ d; try walk_nrm)
          exact latchTail_J (x := x) vz hC (oy.but qz (by omega)) h
end
end Go.Proofs.Ytecmobjiepgfjaa
