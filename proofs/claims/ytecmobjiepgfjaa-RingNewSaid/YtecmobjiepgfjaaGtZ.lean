/- RingNew: the walk. -/
import Derived.Test.YtecmobjiepgfjaaGtY
import Derived.Conc.Own4
namespace Go.Proofs.Ytecmobjiepgfjaa
open Go.Conc Go.RowKit
open Go.ConcN (upd upd_same upd_ne)
set_option linter.unusedSimpArgs false
set_option linter.unusedVariables false
set_option maxRecDepth 100000
theorem ring_newB (n p : Int) (d1 d2 d3 : Bool) (h1 : decide (n < 2) = d1) (h2 : decide (4096 < n) = d2) (h3 : (bits .and .i64 n (wrap64 (n - 1)) != 0) = d3) (hd : (d1 || d2 || d3) = true) (w : World) :
    Calls Try.prog 42 #[.int .i64 n, .int .i64 p] w fun e w' => e = .returned (.tuple #[.pointer none, .int .i64 1]) ∧ w = w' := by
  cases d1 with
  | true =>
    clear hd
    go_enter Try.func42, Try.ntmps42
    go_wp2
    go_ret2
    exact ⟨rfl, rfl⟩
  | false =>
    cases d2 with
    | true =>
      clear hd
      go_enter Try.func42, Try.ntmps42
      go_wp2
      go_ret2
      exact ⟨rfl, rfl⟩
    | false =>
      obtain rfl : d3 = true := by simpa using hd
      go_enter Try.func42, Try.ntmps42
      go_wp2
      go_ret2
      exact ⟨rfl, rfl⟩
theorem wrap_eq64 (z : Int) : IntKind.i64.wrap z = wrap64 z := by unfold wrap64; exact IntKind.wrap_i64 z
/-- The operations of a text's first region. -/
def Code.ops1 : Code → Array Oper
  | .seq (.region _ ops _) _ => ops
  | _ => #[]
section
variable {Post : Value → World → Prop} {C : Ctx} {x : World} {c : Frame} {cs : List Frame} {v : Int}
theorem ringNewB_J {n p : Int} {d1 d2 d3 : Bool} (h1 : decide (n < 2) = d1) (h2 : decide (4096 < n) = d2) (h3 : (bits .and .i64 n (wrap64 (n - 1)) != 0) = d3) (hd : (d1 || d2 || d3) = true) (h : JG Try.prog Post C (G (c.finish (.tuple #[.pointer none, .int .i64 1])) cs) x) :
    JG Try.prog Post C (G (Frame.enter Try.prog 42 #[.int .i64 n, .int .i64 p] .normal) (c :: cs)) x := by
  refine JG.calls (F := FL makers) (Q := fun u y => u = .tuple #[.pointer none, .int .i64 1] ∧ ∃ τ, y = under x τ 0) (closedM _) (by kernel_rfl) (fun τ => ?_) (fun u y hq => ?_)
  · refine (ring_newB n p d1 d2 d3 h1 h2 h3 hd _).mono ?_
    rintro e y ⟨rfl, rfl⟩
    exact ⟨_, rfl, rfl, τ, rfl⟩
  · obtain ⟨rfl, τ, rfl⟩ := hq
    exact h.tap
/-- What is asked of the end. -/
def Fine (Post : Value → World → Prop) (C : Ctx) (x : World) : Prop := ∀ w, ioOf w = C.io → x.heap.size ≤ w.heap.size → (∀ r, r < x.heap.size → w.heap[r]? = x.heap[r]?) → Post (.bool true) w
/-- The goroutine is alone, and the first. -/
def First (C : Ctx) (x : World) : Prop := C.h = 0 ∧ C.d = 0 ∧ C.n = 1 ∧ (∀ i, C.Ch i = none) ∧ C.lo = x.heap.size
set_option maxHeartbeats 4000000 in
theorem ringTail_J {y : World} {vb : Nat} {u0 u1 u2 u3 u4 u6 u8 u9 u10 u11 u12 u13 u14 u15 u16 u17 u18 u19 u20 u21 u22 u23 u24 u25 u26 u27 u28 u29 u30 u31 u32 u33 u34 u35 u36 u37 u38 u39 u40 u41 u42 u43 u44 u45 u46 u47 u48 u49 u50 u51 u52 u53 u54 u55 u56 u57 u58 u59 u60 u61 u62 u63 u64 u65 u66 u67 u68 u69 u70 u71 u72 u73 u74 u75 u76 u77 u78 u79 u80 u81 u82 u83 u84 u85 u86 u87 u88 u89 u90 u91 u92 u93 u94 u95 u96 u97 : Value} (hv : y.heap[vb]? = some (.cells #[.int .i64 v] 2 (0, 0))) (hC : First C x) (hs : OldStand x y) (h : Fine Post C x) :
    JG Try.prog Post C (G ((base 8).at ⟨List.toArray (u0 :: u1 :: u2 :: u3 :: u4 :: (P0 vb) :: u6 :: (.bool true) :: u8 :: u9 :: u10 :: u11 :: u12 :: u13 :: u14 :: u15 :: u16 :: u17 :: u18 :: u19 :: u20 :: u21 :: u22 :: u23 :: u24 :: u25 :: u26 :: u27 :: u28 :: u29 :: u30 :: u31 :: u32 :: u33 :: u34 :: u35 :: u36 :: u37 :: u38 :: u39 :: u40 :: u41 :: u42 :: u43 :: u44 :: u45 :: u46 :: u47 :: u48 :: u49 :: u50 :: u51 :: u52 :: u53 :: u54 :: u55 :: u56 :: u57 :: u58 :: u59 :: u60 :: u61 :: u62 :: u63 :: u64 :: u65 :: u66 :: u67 :: u68 :: u69 :: u70 :: u71 :: u72 :: u73 :: u74 :: u75 :: u76 :: u77 :: u78 :: u79 :: u80 :: u81 :: u82 :: u83 :: u84 :: u85 :: u86 :: u87 :: u88 :: u89 :: u90 :: u91 :: u92 :: u93 :: u94 :: u95 :: u96 :: u97 :: []), []⟩ [.inRegion (Code.ops1 (Code.from (Try.f8.body.getD .skip) 6)) [0, 1], .code (Code.from (Try.f8.body.getD .skip) 7)]) []) y := by
  simp only [Try.f8, Option.getD_some, Code.from, Code.ops1]
  refine JG.op (F := F0) stands0 (fun h => by cases h) rfl rfl (by rfl) (by decide) (fun K E hK hE τ d => ?_)
  go_simp
  refine hK _ _ (JG.tap (x := y.alloc (.cells #[.bool false] 4)) ?_)
  simp only [under_size]
  clear hK hE K E τ d
  have g0 : (y.alloc (.cells #[.bool false] 4)).heap[y.heap.size]? = some (.cells #[.bool false] 4 (0, 0)) := heap_alloc_new y _
  refine JG.op (F := F0) stands0 (fun h => by cases h) rfl rfl (by rfl) (by decide) (fun K E hK hE τ d => ?_)
  obtain ⟨hfact, hfact2⟩ := And.intro (cell_obj g0 0) (frozen_obj g0 0)
  replace hfact := (under_cell _ τ d _).trans hfact
  replace hfact2 := (under_frozen _ τ d _).trans hfact2
  go_simp
  refine hK _ _ ?_
  rw [under_setCell]
  refine JG.tap ?_
  clear hfact hfact2 hK hE K E τ d
  try walk_nrm
  obtain ⟨w, hw⟩ : ∃ w, w = (y.alloc (.cells #[.bool false] 4)).setCell (th y.heap.size 0) (.bool true) := ⟨_, rfl⟩
  rw [← hw]
  have s1 : OldStand y w := by
    exact ⟨by rw [hw, size_set]; simp, fun r hr => by rw [hw, heap_set_ne (by omega), heap_alloc', Array.getElem?_push, if_neg (by omega)]⟩
  have gw : w.heap[y.heap.size]? = some (.cells #[.bool true] 4 (0, 0)) := by rw [hw]; exact heap_set_self g0
  have vw := (s1.2 vb (Array.getElem?_eq_some_iff.1 hv).1).trans hv
  replace s1 := hs.trans s1
  clear hw g0 hv hs
  generalize y.heap.size = gb at gw ⊢
  repeat first
    | refine JG.seq ?_
    | refine JG.skip ?_
    | refine JG.inBlock ?_
    | refine JG.block ?_
    | refine JG.done ?_
    | refine JG.label ?_
    | refine JG.condT rfl ?_
    | refine JG.condF rfl ?_
    | (refine JG.region ?_; simp only [List.size_toArray, List.length_cons, List.length_nil, Nat.reduceAdd, Nat.zero_add, List.range, List.range.loop])
    | (refine JG.unwanted rfl (by rfl) ?_; try walk_nrm)
    | (refine JG.op (F := F0) stands0 (fun h => by cases h) rfl rfl (by rfl) (by decide) (fun K E hK hE τ d => ?_); go_simp; refine hK _ _ (JG.tap ?_); clear hK hE K E τ d; try walk_nrm)
  refine JG.op (F := F0) stands0 (fun h => by cases h) rfl rfl (by rfl) (by decide) (fun K E hK hE τ d => ?_)
  go_simp
  refine hK _ _ (JG.tap (x := w.alloc (.cells #[.func (.func 44) #[] #[P0 gb, P0 vb]] 40)) ?_)
  simp only [under_size]
  clear hK hE K E τ d
  have b1 : (w.alloc (.cells #[.func (.func 44) #[] #[P0 gb, P0 vb]] 40)).cell? (th w.heap.size 0) = some (.func (.func 44) #[] #[P0 gb, P0 vb]) := cell_obj (heap_alloc_new w _) 0
  have s2 := (OldStand.refl w).alloc (.cells #[.func (.func 44) #[] #[P0 gb, P0 vb]] 40)
  generalize w.alloc (.cells #[.func (.func 44) #[] #[P0 gb, P0 vb]] 40) = w1 at b1 s2 ⊢
  generalize w.heap.size = bb at b1 ⊢
  have gl := (Array.getElem?_eq_some_iff.1 gw).1
  have vl := (Array.getElem?_eq_some_iff.1 vw).1
  have gw1 := (s2.2 gb gl).trans gw
  have vw1 := (s2.2 vb vl).trans vw
  replace s2 := s1.trans s2
  clear s1 gw vw gl vl
  repeat first
    | refine JG.seq ?_
    | refine JG.skip ?_
    | refine JG.inBlock ?_
    | refine JG.block ?_
    | refine JG.done ?_
    | refine JG.label ?_
    | refine JG.condT rfl ?_
    | refine JG.condF rfl ?_
    | (refine JG.region ?_; simp only [List.size_toArray, List.length_cons, List.length_nil, Nat.reduceAdd, Nat.zero_add, List.range, List.range.loop])
    | (refine JG.unwanted rfl (by rfl) ?_; try walk_nrm)
    | (refine JG.op (F := F0) stands0 (fun h => by cases h) rfl rfl (by rfl) (by decide) (fun K E hK hE τ d => ?_); go_simp; refine hK _ _ (JG.tap ?_); clear hK hE K E τ d; try walk_nrm)
  refine JG.call (f := 18) (args := #[.slice none 0 0, .int .i64 9, .slice (some ⟨bb, 0, none⟩) 1 1]) rfl (by rfl) (by decide) (fun w => ?_) (fun w => ?_) ?_
  · obtain ⟨fn, h1, h2, h3⟩ : HasBody 18 := ⟨_, Try.func18, by kernel_rfl, by kernel_rfl⟩
    have h4 : ¬ fn.name = "runtime.NumGoroutine" := by simpa using h2
    have h5 : ¬ fn.body = none := by intro e; rw [e] at h3; cases h3
    simp [go_sem, execOp, Act.eval, resolve, Deferred.ofValue, invoke, callFunc, h1, h4, h5]
  · obtain ⟨fn, h1, h2, h3⟩ : HasBody 18 := ⟨_, Try.func18, by kernel_rfl, by kernel_rfl⟩
    have h4 : ¬ fn.name = "runtime.NumGoroutine" := by simpa using h2
    have h5 : ¬ fn.body = none := by intro e; rw [e] at h3; cases h3
    simp [go_sem, execOp, Act.eval, resolve, Deferred.ofValue, invoke, callFunc, h1, h4, h5]
  have gl := (Array.getElem?_eq_some_iff.1 gw1).1
  have vl := (Array.getElem?_eq_some_iff.1 vw1).1
  obtain ⟨e1, e2, e3, e4, e5⟩ := hC
  refine run_J e2 (by omega) (by rw [e5]; exact s2.1) (ringMild (Nat.le_refl _) gw1 vw1 gl vl) rfl b1 (fun i s _ hs => by rw [e4 i] at hs; cases hs) (e4 _) fun Ch' z0 z1 y2 hCh hz0 hsz hR hy2 hys => ?_
  rw [Frame.finish_at]
  walk_nrm
  have s3 : OldStand w1 y2 := ⟨by have := hR.1; omega, fun r hr => by rw [hy2 r hr, hR.2 r (by omega), hz0 r hr]⟩
  have gw2 := (s3.2 gb gl).trans gw1
  replace s3 := s2.trans s3
  clear hz0 hsz hR hy2 hys gw1 vw1 gl vl s2 b1
  have hCh' : ∀ i, i ≠ 0 → Ch' i = none := fun i hi => (hCh i (by omega)).trans (e4 i)
  clear hCh
  repeat first
    | refine JG.seq ?_
    | refine JG.skip ?_
    | refine JG.inBlock ?_
    | refine JG.block ?_
    | refine JG.done ?_
    | refine JG.label ?_
    | refine JG.condT rfl ?_
    | refine JG.condF rfl ?_
    | (refine JG.region ?_; simp only [List.size_toArray, List.length_cons, List.length_nil, Nat.reduceAdd, Nat.zero_add, List.range, List.range.loop])
    | (refine JG.unwanted rfl (by rfl) ?_; try walk_nrm)
    | (refine JG.op (F := F0) stands0 (fun h => by cases h) rfl rfl (by rfl) (by decide) (fun K E hK hE τ d => ?_); go_simp; refine hK _ _ (JG.tap ?_); clear hK hE K E τ d; try walk_nrm)
  refine JG.op (F := F0) stands0 (fun h => by cases h) rfl rfl (by rfl) (by decide) (fun K E hK hE τ d => ?_)
  go_simp
  refine hK _ _ (JG.tap (x := y2.alloc (.cells #[.int .i8 0, .int .i64 0, nilS, nilS, nilS, nilS, nilS] 43)) ?_)
  simp only [under_size]
  clear hK hE K E τ d
  have wn : (y2.alloc (.cells #[.int .i8 0, .int .i64 0, nilS, nilS, nilS, nilS, nilS] 43)).heap[y2.heap.size]? = some (.cells #[.int .i8 0, .int .i64 0, nilS, nilS, nilS, nilS, nilS] 43 (0, 0)) := heap_alloc_new y2 _
  have s4 := (OldStand.refl y2).alloc (.cells #[.int .i8 0, .int .i64 0, nilS, nilS, nilS, nilS, nilS] 43)
  have gl := (Array.getElem?_eq_some_iff.1 gw2).1
  have gq : gb ≠ y2.heap.size := by omega
  generalize y2.alloc (.cells #[.int .i8 0, .int .i64 0, nilS, nilS, nilS, nilS, nilS] 43) = w2 at wn s4 ⊢
  have gw3 := (s4.2 gb gl).trans gw2
  have qx : x.heap.size ≤ y2.heap.size := s3.1
  replace s4 := s3.trans s4
  generalize y2.heap.size = q at wn gq qx ⊢
  clear gw2 gl s3
  have m0 : w2.cell? (th q 0) = some (.int .i8 0) := cell_obj wn 0
  have n0 : w2.frozen? (th q 0) = false := frozen_obj wn 0
  have m1 : w2.cell? (th q 1) = some (.int .i64 0) := cell_obj wn 1
  have n1 : w2.frozen? (th q 1) = false := frozen_obj wn 1
  have m2 : w2.cell? (th q 2) = some (nilS) := cell_obj wn 2
  have n2 : w2.frozen? (th q 2) = false := frozen_obj wn 2
  have m3 : w2.cell? (th q 3) = some (nilS) := cell_obj wn 3
  have n3 : w2.frozen? (th q 3) = false := frozen_obj wn 3
  have m4 : w2.cell? (th q 4) = some (nilS) := cell_obj wn 4
  have n4 : w2.frozen? (th q 4) = false := frozen_obj wn 4
  have m5 : w2.cell? (th q 5) = some (nilS) := cell_obj wn 5
  have n5 : w2.frozen? (th q 5) = false := frozen_obj wn 5
  have m6 : w2.cell? (th q 6) = some (nilS) := cell_obj wn 6
  have n6 : w2.frozen? (th q 6) = false := frozen_obj wn 6
  refine JG.op (F := F0) stands0 (fun h => by cases h) rfl rfl (by rfl) (by decide) (fun K E hK hE τ d => ?_)
  have m0' := (under_cell w2 τ d _).trans m0
  have n0' := (under_frozen w2 τ d _).trans n0
  have m1' := (under_cell w2 τ d _).trans m1
  have n1' := (under_frozen w2 τ d _).trans n1
  have m2' := (under_cell w2 τ d _).trans m2
  have n2' := (under_frozen w2 τ d _).trans n2
  have m3' := (under_cell w2 τ d _).trans m3
  have n3' := (under_frozen w2 τ d _).trans n3
  have m4' := (under_cell w2 τ d _).trans m4
  have n4' := (under_frozen w2 τ d _).trans n4
  have m5' := (under_cell w2 τ d _).trans m5
  have n5' := (under_frozen w2 τ d _).trans n5
  have m6' := (under_cell w2 τ d _).trans m6
  have n6' := (under_frozen w2 τ d _).trans n6
  go_simp
  refine hK _ _ ?_
  rw [under_setCell, under_setCell, under_setCell, under_setCell, under_setCell, under_setCell, under_setCell]
  refine JG.tap ?_
  clear m0 n0 m0' n0' m1 n1 m1' n1' m2 n2 m2' n2' m3 n3 m3' n3' m4 n4 m4' n4' m5 n5 m5' n5' m6 n6 m6' n6' hK hE K E τ d
  obtain ⟨w3, hw⟩ : ∃ w3, w3 = ((((((w2.setCell (th q 0) (.int .i8 1)).setCell (th q 1) (.int .i64 0)).setCell (th q 2) nilS).setCell (th q 3) nilS).setCell (th q 4) nilS).setCell (th q 5) nilS).setCell (th q 6) nilS := ⟨_, rfl⟩
  rw [← hw]
  try walk_nrm
  have hwo : ∀ r, r ≠ q → w3.heap[r]? = w2.heap[r]? := fun r h => by
    rw [hw, heap_set_ne h, heap_set_ne h, heap_set_ne h, heap_set_ne h, heap_set_ne h, heap_set_ne h, heap_set_ne h]
  have hwn : w3.heap[q]? = some (.cells #[.int .i8 1, .int .i64 0, nilS, nilS, nilS, nilS, nilS] 43 (0, 0)) := by
    rw [hw]
    exact heap_set_self (heap_set_self (heap_set_self (heap_set_self (heap_set_self (heap_set_self (heap_set_self wn))))))
  have hws : w3.heap.size = w2.heap.size := by rw [hw, size_set, size_set, size_set, size_set, size_set, size_set, size_set]
  clear hw
  have k0 : w3.cell? (th gb 0) = some (.bool true) := cell_obj ((hwo gb gq).trans gw3) 0
  have k1 : w3.cell? (th q 0) = some (.int .i8 1) := cell_obj hwn 0
  have k2 : w3.cell? (th q 1) = some (.int .i64 0) := cell_obj hwn 1
  repeat first
    | refine JG.seq ?_
    | refine JG.skip ?_
    | refine JG.inBlock ?_
    | refine JG.block ?_
    | refine JG.done ?_
    | refine JG.label ?_
    | refine JG.condT rfl ?_
    | refine JG.condF rfl ?_
    | (refine JG.region ?_; simp only [List.size_toArray, List.length_cons, List.length_nil, Nat.reduceAdd, Nat.zero_add, List.range, List.range.loop])
    | (refine JG.unwanted rfl (by rfl) ?_; try walk_nrm)
    | (refine JG.op (F := F0) stands0 (fun h => by cases h) rfl rfl (by rfl) (by decide) (fun K E hK hE τ d => ?_); go_simp; refine hK _ _ (JG.tap ?_); clear hK hE K E τ d; try walk_nrm)
    | (refine JG.op (F := F0) stands0 (fun h => by cases h) rfl rfl (by rfl) (by decide) (fun K E hK hE τ d => ?_); have hfact := (under_cell _ τ d _).trans (k0); go_simp; refine hK _ _ (JG.tap ?_); clear hfact hK hE K E τ d; try walk_nrm)
    | (refine JG.op (F := F0) stands0 (fun h => by cases h) rfl rfl (by rfl) (by decide) (fun K E hK hE τ d => ?_); have hfact := (under_cell _ τ d _).trans (k1); go_simp; refine hK _ _ (JG.tap ?_); clear hfact hK hE K E τ d; try walk_nrm)
    | (refine JG.op (F := F0) stands0 (fun h => by cases h) rfl rfl (by rfl) (by decide) (fun K E hK hE τ d => ?_); have hfact := (under_cell _ τ d _).trans (k2); go_simp; refine hK _ _ (JG.tap ?_); clear hfact hK hE K E τ d; try walk_nrm)
  refine JG.ret ?_
  have s5 : OldStand x w3 := ⟨by have := s4.1; omega, fun r hr => by rw [hwo r (by omega), s4.2 r hr]⟩
  exact JG.end e1 rfl hCh' rfl rfl Try.func8 (by kernel_rfl) (fun w _ d => results_tmp (t := 6) rfl _ _ _) (fun w => events_results_tmp rfl _ _) (fun w hT hio d => h (w.at d) hio (by have := hT.size; have := s5.1; show x.heap.size ≤ w.heap.size; omega) (fun r hr => ((hT.old r (by show r < C.lo; omega)).symm.trans (s5.2 r hr))))
set_option maxHeartbeats 4000000 in
theorem ringNewF_J {n p : Int} {d1 d2 d3 : Bool} (h1 : decide (n < 2) = d1) (h2 : decide (4096 < n) = d2) (h3 : (bits .and .i64 n (wrap64 (n - 1)) != 0) = d3) (hd : (d1 || d2 || d3) = true) (hC : First C x) (h : Fine Post C x) :
    JG Try.prog Post C (G (Frame.enter Try.prog 8 #[.int .i64 n, .int .i64 p, .int .i64 v] .normal) []) x := by
  refine enterN Try.func8 (by rfl) (by rfl) ?_
  simp only [Try.f8, Option.getD_some]
  walk_nrm
  repeat first
    | refine JG.seq ?_
    | refine JG.skip ?_
    | refine JG.inBlock ?_
    | refine JG.block ?_
    | refine JG.done ?_
    | refine JG.label ?_
    | refine JG.condT rfl ?_
    | refine JG.condF rfl ?_
    | (refine JG.region ?_; simp only [List.size_toArray, List.length_cons, List.length_nil, Nat.reduceAdd, Nat.zero_add, List.range, List.range.loop])
    | (refine JG.unwanted rfl (by rfl) ?_; try walk_nrm)
    | (refine JG.op (F := F0) stands0 (fun h => by cases h) rfl rfl (by rfl) (by decide) (fun K E hK hE τ d => ?_); go_simp; refine hK _ _ (JG.tap ?_); clear hK hE K E τ d; try walk_nrm)
  refine JG.op (F := F0) stands0 (fun h => by cases h) rfl rfl (by rfl) (by decide) (fun K E hK hE τ d => ?_)
  go_simp
  refine hK _ _ (JG.tap (x := x.alloc (.cells #[.int .i64 v] 2)) ?_)
  simp only [under_size]
  clear hK hE K E τ d
  have s0 : OldStand x (x.alloc (.cells #[.int .i64 v] 2)) := (OldStand.refl x).alloc _
  have v0 : (x.alloc (.cells #[.int .i64 v] 2)).heap[x.heap.size]? = some (.cells #[.int .i64 v] 2 (0, 0)) := heap_alloc_new x _
  generalize x.alloc (.cells #[.int .i64 v] 2) = y0 at s0 v0 ⊢
  generalize hvb : x.heap.size = vb at v0 ⊢
  repeat first
    | refine JG.seq ?_
    | refine JG.skip ?_
    | refine JG.inBlock ?_
    | refine JG.block ?_
    | refine JG.done ?_
    | refine JG.label ?_
    | refine JG.condT rfl ?_
    | refine JG.condF rfl ?_
    | (refine JG.region ?_; simp only [List.size_toArray, List.length_cons, List.length_nil, Nat.reduceAdd, Nat.zero_add, List.range, List.range.loop])
    | (refine JG.unwanted rfl (by rfl) ?_; try walk_nrm)
    | (refine JG.op (F := F0) stands0 (fun h => by cases h) rfl rfl (by rfl) (by decide) (fun K E hK hE τ d => ?_); go_simp; refine hK _ _ (JG.tap ?_); clear hK hE K E τ d; try walk_nrm)
  refine JG.call (f := 31) (args := #[]) rfl (by rfl) (by decide) (fun w => ?_) (fun w => ?_) ?_
  · obtain ⟨fn, h1, h2, h3⟩ : HasBody 31 := ⟨_, Try.func31, by kernel_rfl, by kernel_rfl⟩
    have h4 : ¬ fn.name = "runtime.NumGoroutine" := by simpa using h2
    have h5 : ¬ fn.body = none := by intro e; rw [e] at h3; cases h3
    simp [go_sem, execOp, Act.eval, resolve, Deferred.ofValue, invoke, callFunc, h1, h4, h5]
  · obtain ⟨fn, h1, h2, h3⟩ : HasBody 31 := ⟨_, Try.func31, by kernel_rfl, by kernel_rfl⟩
    have h4 : ¬ fn.name = "runtime.NumGoroutine" := by simpa using h2
    have h5 : ¬ fn.body = none := by intro e; rw [e] at h3; cases h3
    simp [go_sem, execOp, Act.eval, resolve, Deferred.ofValue, invoke, callFunc, h1, h4, h5]
  refine works_J fun y1 z1 o1 => ?_
  rw [Frame.finish_at]
  walk_nrm
  have s1 : OldStand x y1 := s0.trans ⟨z1, o1⟩
  have v1 := (o1 vb (Array.getElem?_eq_some_iff.1 v0).1).trans v0
  clear o1 z1 s0 v0
  repeat first
    | refine JG.seq ?_
    | refine JG.skip ?_
    | refine JG.inBlock ?_
    | refine JG.block ?_
    | refine JG.done ?_
    | refine JG.label ?_
    | refine JG.condT rfl ?_
    | refine JG.condF rfl ?_
    | (refine JG.region ?_; simp only [List.size_toArray, List.length_cons, List.length_nil, Nat.reduceAdd, Nat.zero_add, List.range, List.range.loop])
    | (refine JG.unwanted rfl (by rfl) ?_; try walk_nrm)
    | (refine JG.op (F := F0) stands0 (fun h => by cases h) rfl rfl (by rfl) (by decide) (fun K E hK hE τ d => ?_); go_simp; refine hK _ _ (JG.tap ?_); clear hK hE K E τ d; try walk_nrm)
  refine JG.call (f := 42) (args := #[.int .i64 n, .int .i64 p]) rfl (by rfl) (by decide) (fun w => ?_) (fun w => ?_) ?_
  · obtain ⟨fn, h1, h2, h3⟩ : HasBody 42 := ⟨_, Try.func42, by kernel_rfl, by kernel_rfl⟩
    have h4 : ¬ fn.name = "runtime.NumGoroutine" := by simpa using h2
    have h5 : ¬ fn.body = none := by intro e; rw [e] at h3; cases h3
    simp [go_sem, execOp, Act.eval, resolve, Deferred.ofValue, invoke, callFunc, h1, h4, h5]
  · obtain ⟨fn, h1, h2, h3⟩ : HasBody 42 := ⟨_, Try.func42, by kernel_rfl, by kernel_rfl⟩
    have h4 : ¬ fn.name = "runtime.NumGoroutine" := by simpa using h2
    have h5 : ¬ fn.body = none := by intro e; rw [e] at h3; cases h3
    simp [go_sem, execOp, Act.eval, resolve, Deferred.ofValue, invoke, callFunc, h1, h4, h5]
  refine ringNewB_J h1 h2 h3 hd ?_
  rw [Frame.finish_at]
  walk_nrm
  repeat first
    | refine JG.seq ?_
    | refine JG.skip ?_
    | refine JG.inBlock ?_
    | refine JG.block ?_
    | refine JG.done ?_
    | refine JG.label ?_
    | refine JG.condT rfl ?_
    | refine JG.condF rfl ?_
    | (refine JG.region ?_; simp only [List.size_toArray, List.length_cons, List.length_nil, Nat.reduceAdd, Nat.zero_add, List.range, List.range.loop])
    | (refine JG.unwanted rfl (by rfl) ?_; try walk_nrm)
    | (refine JG.op (F := F0) stands0 (fun h => by cases h) rfl rfl (by rfl) (by decide) (fun K E hK hE τ d => ?_); go_simp; refine hK _ _ (JG.tap ?_); clear hK hE K E τ d; try walk_nrm)
  have q1 : decide (2 ≤ n) = !d1 := by rw [← h1]; by_cases h : n < 2 <;> simp [h] <;> omega
  have q2 : decide (n ≤ 4096) = !d2 := by rw [← h2]; by_cases h : 4096 < n <;> simp [h] <;> omega
  have q3 : (bits .and .i64 n (IntKind.i64.wrap (n - 1)) == 0) = !d3 := by rw [← h3, wrap_eq64]; cases hb : bits .and .i64 n (wrap64 (n - 1)) == 0 <;> simp [bne, hb]
  rw [q1]
  clear h1 h2 h3 q1
  cases d1 with
  | true =>
    repeat first
      | refine JG.seq ?_
      | refine JG.skip ?_
      | refine JG.inBlock ?_
      | refine JG.block ?_
      | refine JG.done ?_
      | refine JG.label ?_
      | refine JG.condT rfl ?_
      | refine JG.condF rfl ?_
      | (refine JG.region ?_; simp only [List.size_toArray, List.length_cons, List.length_nil, Nat.reduceAdd, Nat.zero_add, List.range, List.range.loop])
      | (refine JG.unwanted rfl (by rfl) ?_; try walk_nrm)
      | (refine JG.op (F := F0) stands0 (fun h => by cases h) rfl rfl (by rfl) (by decide) (fun K E hK hE τ d => ?_); go_simp; refine hK _ _ (JG.tap ?_); clear hK hE K E τ d; try walk_nrm)
    exact ringTail_J (x := x) v1 hC s1 h
  | false =>
    repeat first
      | refine JG.seq ?_
      | refine JG.skip ?_
      | refine JG.inBlock ?_
      | refine JG.block ?_
      | refine JG.done ?_
      | refine JG.label ?_
      | refine JG.condT rfl ?_
      | refine JG.condF rfl ?_
      | (refine JG.region ?_; simp only [List.size_toArray, List.length_cons, List.length_nil, Nat.reduceAdd, Nat.zero_add, List.range, List.range.loop])
      | (refine JG.unwanted rfl (by rfl) ?_; try walk_nrm)
      | (refine JG.op (F := F0) stands0 (fun h => by cases h) rfl rfl (by rfl) (by decide) (fun K E hK hE τ d => ?_); go_simp; refine hK _ _ (JG.tap ?_); clear hK hE K E τ d; try walk_nrm)
    try rw [q2]
    clear q2
    cases d2 with
    | true =>
      repeat first
        | refine JG.seq ?_
        | refine JG.skip ?_
        | refine JG.inBlock ?_
        | refine JG.block ?_
        | refine JG.done ?_
        | refine JG.label ?_
        | refine JG.condT rfl ?_
        | refine JG.condF rfl ?_
        | (refine JG.region ?_; simp only [List.size_toArray, List.length_cons, List.length_nil, Nat.reduceAdd, Nat.zero_add, List.range, List.range.loop])
        | (refine JG.unwanted rfl (by rfl) ?_; try walk_nrm)
        | (refine JG.op (F := F0) stands0 (fun h => by cases h) rfl rfl (by rfl) (by decide) (fun K E hK hE τ d => ?_); go_simp; refine hK _ _ (JG.tap ?_); clear hK hE K E τ d; try walk_nrm)
      exact ringTail_J (x := x) v1 hC s1 h
    | false =>
      obtain rfl : d3 = true := by simpa using hd
      repeat first
        | refine JG.seq ?_
        | refine JG.skip ?_
        | refine JG.inBlock ?_
        | refine JG.block ?_
        | refine JG.done ?_
        | refine JG.label ?_
        | refine JG.condT rfl ?_
        | refine JG.condF rfl ?_
        | (refine JG.region ?_; simp only [List.size_toArray, List.length_cons, List.length_nil, Nat.reduceAdd, Nat.zero_add, List.range, List.range.loop])
        | (refine JG.unwanted rfl (by rfl) ?_; try walk_nrm)
        | (refine JG.op (F := F0) stands0 (fun h => by cases h) rfl rfl (by rfl) (by decide) (fun K E hK hE τ d => ?_); go_simp; refine hK _ _ (JG.tap ?_); clear hK hE K E τ d; try walk_nrm)
      try rw [q3]
      clear q3
      repeat first
        | refine JG.seq ?_
        | refine JG.skip ?_
        | refine JG.inBlock ?_
        | refine JG.block ?_
        | refine JG.done ?_
        | refine JG.label ?_
        | refine JG.condT rfl ?_
        | refine JG.condF rfl ?_
        | (refine JG.region ?_; simp only [List.size_toArray, List.length_cons, List.length_nil, Nat.reduceAdd, Nat.zero_add, List.range, List.range.loop])
        | (refine JG.unwanted rfl (by rfl) ?_; try walk_nrm)
        | (refine JG.op (F := F0) stands0 (fun h => by cases h) rfl rfl (by rfl) (by decide) (fun K E hK hE τ d => ?_); go_simp; refine hK _ _ (JG.tap ?_); clear hK hE K E τ d; try walk_nrm)
      exact ringTail_J (x := x) v1 hC s1 h
set_option maxHeartbeats 8000000 in
theorem ringNewT_J {k : Nat} {p : Int} (hk1 : 1 ≤ k) (hk : k ≤ 12) (hC : First C x) (h : Fine Post C x) :
    JG Try.prog Post C (G (Frame.enter Try.prog 8 #[.int .i64 ((2 ^ k : Nat) : Int), .int .i64 p, .int .i64 v] .normal) []) x := by
  have hz4 : 2 ^ k ≤ 4096 := Nat.pow_le_pow_right (by decide) hk
  have hz2 : 2 ≤ 2 ^ k := by simpa using Nat.pow_le_pow_right (n := 2) (by decide) hk1
  have hbits := bits_size k hk1 hk
  have hbn := ixZ_bounds k hk p
  have hnew := fun {C : Ctx} {x : World} {c : Frame} {cs : List Frame} => ringNew_J (Post := Post) (C := C) (x := x) (c := c) (cs := cs) (k := k) (p := p) hk1 hk
  generalize hz : 2 ^ k = z at *
  have q1 : decide (2 ≤ (z : Int)) = true := by simp; omega
  have q2 : decide ((z : Int) ≤ 4096) = true := by simp; omega
  have q3 : (bits .and .i64 (z : Int) (IntKind.i64.wrap ((z : Int) - 1)) == 0) = true := by rw [wrap_eq64, hbits]; rfl
  clear hz4 hbits hz
  refine enterN Try.func8 (by rfl) (by rfl) ?_
  simp only [Try.f8, Option.getD_some]
  walk_nrm
  repeat first
    | refine JG.seq ?_
    | refine JG.skip ?_
    | refine JG.inBlock ?_
    | refine JG.block ?_
    | refine JG.done ?_
    | refine JG.label ?_
    | refine JG.condT rfl ?_
    | refine JG.condF rfl ?_
    | (refine JG.region ?_; simp only [List.size_toArray, List.length_cons, List.length_nil, Nat.reduceAdd, Nat.zero_add, List.range, List.range.loop])
    | (refine JG.unwanted rfl (by rfl) ?_; try walk_nrm)
    | (refine JG.op (F := F0) stands0 (fun h => by cases h) rfl rfl (by rfl) (by decide) (fun K E hK hE τ d => ?_); go_simp; refine hK _ _ (JG.tap ?_); clear hK hE K E τ d; try walk_nrm)
  refine JG.op (F := F0) stands0 (fun h => by cases h) rfl rfl (by rfl) (by decide) (fun K E hK hE τ d => ?_)
  go_simp
  refine hK _ _ (JG.tap (x := x.alloc (.cells #[.int .i64 v] 2)) ?_)
  simp only [under_size]
  clear hK hE K E τ d
  have s0 : OldStand x (x.alloc (.cells #[.int .i64 v] 2)) := (OldStand.refl x).alloc _
  have v0 : (x.alloc (.cells #[.int .i64 v] 2)).heap[x.heap.size]? = some (.cells #[.int .i64 v] 2 (0, 0)) := heap_alloc_new x _
  generalize x.alloc (.cells #[.int .i64 v] 2) = y0 at s0 v0 ⊢
  generalize hvb : x.heap.size = vb at v0 ⊢
  repeat first
    | refine JG.seq ?_
    | refine JG.skip ?_
    | refine JG.inBlock ?_
    | refine JG.block ?_
    | refine JG.done ?_
    | refine JG.label ?_
    | refine JG.condT rfl ?_
    | refine JG.condF rfl ?_
    | (refine JG.region ?_; simp only [List.size_toArray, List.length_cons, List.length_nil, Nat.reduceAdd, Nat.zero_add, List.range, List.range.loop])
    | (refine JG.unwanted rfl (by rfl) ?_; try walk_nrm)
    | (refine JG.op (F := F0) stands0 (fun h => by cases h) rfl rfl (by rfl) (by decide) (fun K E hK hE τ d => ?_); go_simp; refine hK _ _ (JG.tap ?_); clear hK hE K E τ d; try walk_nrm)
  refine JG.call (f := 31) (args := #[]) rfl (by rfl) (by decide) (fun w => ?_) (fun w => ?_) ?_
  · obtain ⟨fn, h1, h2, h3⟩ : HasBody 31 := ⟨_, Try.func31, by kernel_rfl, by kernel_rfl⟩
    have h4 : ¬ fn.name = "runtime.NumGoroutine" := by simpa using h2
    have h5 : ¬ fn.body = none := by intro e; rw [e] at h3; cases h3
    simp [go_sem, execOp, Act.eval, resolve, Deferred.ofValue, invoke, callFunc, h1, h4, h5]
  · obtain ⟨fn, h1, h2, h3⟩ : HasBody 31 := ⟨_, Try.func31, by kernel_rfl, by kernel_rfl⟩
    have h4 : ¬ fn.name = "runtime.NumGoroutine" := by simpa using h2
    have h5 : ¬ fn.body = none := by intro e; rw [e] at h3; cases h3
    simp [go_sem, execOp, Act.eval, resolve, Deferred.ofValue, invoke, callFunc, h1, h4, h5]
  refine works_J fun y1 z1 o1 => ?_
  rw [Frame.finish_at]
  walk_nrm
  have s1 : OldStand x y1 := s0.trans ⟨z1, o1⟩
  have v1 := (o1 vb (Array.getElem?_eq_some_iff.1 v0).1).trans v0
  clear o1 z1 s0 v0
  repeat first
    | refine JG.seq ?_
    | refine JG.skip ?_
    | refine JG.inBlock ?_
    | refine JG.block ?_
    | refine JG.done ?_
    | refine JG.label ?_
    | refine JG.condT rfl ?_
    | refine JG.condF rfl ?_
    | (refine JG.region ?_; simp only [List.size_toArray, List.length_cons, List.length_nil, Nat.reduceAdd, Nat.zero_add, List.range, List.range.loop])
    | (refine JG.unwanted rfl (by rfl) ?_; try walk_nrm)
    | (refine JG.op (F := F0) stands0 (fun h => by cases h) rfl rfl (by rfl) (by decide) (fun K E hK hE τ d => ?_); go_simp; refine hK _ _ (JG.tap ?_); clear hK hE K E τ d; try walk_nrm)
  refine JG.call (f := 42) (args := #[.int .i64 (z : Int), .int .i64 p]) rfl (by rfl) (by decide) (fun w => ?_) (fun w => ?_) ?_
  · obtain ⟨fn, h1, h2, h3⟩ : HasBody 42 := ⟨_, Try.func42, by kernel_rfl, by kernel_rfl⟩
    have h4 : ¬ fn.name = "runtime.NumGoroutine" := by simpa using h2
    have h5 : ¬ fn.body = none := by intro e; rw [e] at h3; cases h3
    simp [go_sem, execOp, Act.eval, resolve, Deferred.ofValue, invoke, callFunc, h1, h4, h5]
  · obtain ⟨fn, h1, h2, h3⟩ : HasBody 42 := ⟨_, Try.func42, by kernel_rfl, by kernel_rfl⟩
    have h4 : ¬ fn.name = "runtime.NumGoroutine" := by simpa using h2
    have h5 : ¬ fn.body = none := by intro e; rw [e] at h3; cases h3
    simp [go_sem, execOp, Act.eval, resolve, Deferred.ofValue, invoke, callFunc, h1, h4, h5]
  refine hnew fun y2 r i o pb B τ hR => ?_
  rw [Frame.finish_at]
  walk_nrm
  have hs := hR.st
  have s2 : OldStand y1 y2 := ⟨hR.below.size, hR.below.block⟩
  change RingSt y1.heap.size _ _ _ _ _ _ _ _ _ _ _ _ at hs
  have vl := (Array.getElem?_eq_some_iff.1 v1).1
  have v2 := (s2.2 vb vl).trans v1
  clear hR hnew
  repeat first
    | refine JG.seq ?_
    | refine JG.skip ?_
    | refine JG.inBlock ?_
    | refine JG.block ?_
    | refine JG.done ?_
    | refine JG.label ?_
    | refine JG.condT rfl ?_
    | refine JG.condF rfl ?_
    | (refine JG.region ?_; simp only [List.size_toArray, List.length_cons, List.length_nil, Nat.reduceAdd, Nat.zero_add, List.range, List.range.loop])
    | (refine JG.unwanted rfl (by rfl) ?_; try walk_nrm)
    | (refine JG.op (F := F0) stands0 (fun h => by cases h) rfl rfl (by rfl) (by decide) (fun K E hK hE τ d => ?_); go_simp; refine hK _ _ (JG.tap ?_); clear hK hE K E τ d; try walk_nrm)
    | (refine JG.op (F := F0) stands0 (fun h => by cases h) rfl rfl (by rfl) (by decide) (fun K E hK hE τ d => ?_); have hfact := (under_cell _ τ d _).trans ((cell_obj v2 0)); go_simp; refine hK _ _ (JG.tap ?_); clear hfact hK hE K E τ d; try walk_nrm)
  refine JG.call (f := 39) (args := #[P0 r, .pointer none, .int .i64 v]) rfl (by rfl) (by decide) (fun w => ?_) (fun w => ?_) ?_
  · obtain ⟨fn, h1, h2, h3⟩ : HasBody 39 := ⟨_, Try.func39, by kernel_rfl, by kernel_rfl⟩
    have h4 : ¬ fn.name = "runtime.NumGoroutine" := by simpa using h2
    have h5 : ¬ fn.body = none := by intro e; rw [e] at h3; cases h3
    simp [go_sem, execOp, Act.eval, resolve, Deferred.ofValue, invoke, callFunc, h1, h4, h5]
  · obtain ⟨fn, h1, h2, h3⟩ : HasBody 39 := ⟨_, Try.func39, by kernel_rfl, by kernel_rfl⟩
    have h4 : ¬ fn.name = "runtime.NumGoroutine" := by simpa using h2
    have h5 : ¬ fn.body = none := by intro e; rw [e] at h3; cases h3
    simp [go_sem, execOp, Act.eval, resolve, Deferred.ofValue, invoke, callFunc, h1, h4, h5]
  refine putS_J (j := 0) hs (by omega) (by simp) hbn (by show IntKind.i64.wrap (wrap64 (p + ((0 : Nat) : Int)) - IntKind.i64.wrap (p + 0)) = 0; simp only [IntKind.wrap_i64, wrap64]; omega) fun y3 s3 k3 => ?_
  rw [Frame.finish_at]
  walk_nrm
  repeat first
    | refine JG.seq ?_
    | refine JG.skip ?_
    | refine JG.inBlock ?_
    | refine JG.block ?_
    | refine JG.done ?_
    | refine JG.label ?_
    | refine JG.condT rfl ?_
    | refine JG.condF rfl ?_
    | (refine JG.region ?_; simp only [List.size_toArray, List.length_cons, List.length_nil, Nat.reduceAdd, Nat.zero_add, List.range, List.range.loop])
    | (refine JG.unwanted rfl (by rfl) ?_; try walk_nrm)
    | (refine JG.op (F := F0) stands0 (fun h => by cases h) rfl rfl (by rfl) (by decide) (fun K E hK hE τ d => ?_); go_simp; refine hK _ _ (JG.tap ?_); clear hK hE K E τ d; try walk_nrm)
  refine JG.call (f := 43) (args := #[P0 r, .pointer none]) rfl (by rfl) (by decide) (fun w => ?_) (fun w => ?_) ?_
  · obtain ⟨fn, h1, h2, h3⟩ : HasBody 43 := ⟨_, Try.func43, by kernel_rfl, by kernel_rfl⟩
    have h4 : ¬ fn.name = "runtime.NumGoroutine" := by simpa using h2
    have h5 : ¬ fn.body = none := by intro e; rw [e] at h3; cases h3
    simp [go_sem, execOp, Act.eval, resolve, Deferred.ofValue, invoke, callFunc, h1, h4, h5]
  · obtain ⟨fn, h1, h2, h3⟩ : HasBody 43 := ⟨_, Try.func43, by kernel_rfl, by kernel_rfl⟩
    have h4 : ¬ fn.name = "runtime.NumGoroutine" := by simpa using h2
    have h5 : ¬ fn.body = none := by intro e; rw [e] at h3; cases h3
    simp [go_sem, execOp, Act.eval, resolve, Deferred.ofValue, invoke, callFunc, h1, h4, h5]
  refine lenV_J (u := 1) s3 (by simp only [IntKind.wrap_i64]; omega) ?_
  rw [Frame.finish_at]
  walk_nrm
  repeat first
    | refine JG.seq ?_
    | refine JG.skip ?_
    | refine JG.inBlock ?_
    | refine JG.block ?_
    | refine JG.done ?_
    | refine JG.label ?_
    | refine JG.condT rfl ?_
    | refine JG.condF rfl ?_
    | (refine JG.region ?_; simp only [List.size_toArray, List.length_cons, List.length_nil, Nat.reduceAdd, Nat.zero_add, List.range, List.range.loop])
    | (refine JG.unwanted rfl (by rfl) ?_; try walk_nrm)
    | (refine JG.op (F := F0) stands0 (fun h => by cases h) rfl rfl (by rfl) (by decide) (fun K E hK hE τ d => ?_); go_simp; refine hK _ _ (JG.tap ?_); clear hK hE K E τ d; try walk_nrm)
  refine JG.call (f := 40) (args := #[P0 r, .pointer none]) rfl (by rfl) (by decide) (fun w => ?_) (fun w => ?_) ?_
  · obtain ⟨fn, h1, h2, h3⟩ : HasBody 40 := ⟨_, Try.func40, by kernel_rfl, by kernel_rfl⟩
    have h4 : ¬ fn.name = "runtime.NumGoroutine" := by simpa using h2
    have h5 : ¬ fn.body = none := by intro e; rw [e] at h3; cases h3
    simp [go_sem, execOp, Act.eval, resolve, Deferred.ofValue, invoke, callFunc, h1, h4, h5]
  · obtain ⟨fn, h1, h2, h3⟩ : HasBody 40 := ⟨_, Try.func40, by kernel_rfl, by kernel_rfl⟩
    have h4 : ¬ fn.name = "runtime.NumGoroutine" := by simpa using h2
    have h5 : ¬ fn.body = none := by intro e; rw [e] at h3; cases h3
    simp [go_sem, execOp, Act.eval, resolve, Deferred.ofValue, invoke, callFunc, h1, h4, h5]
  refine takeV_J (j := 0) (u := v) s3 (upd_same _ _ _) (by omega) (by simp) hbn (by rw [upd_same]; simp [IntKind.wrap_i64]) fun y4 s4 k4 => ?_
  rw [Frame.finish_at]
  walk_nrm
  have s5 : OldStand y1 y4 := ⟨by rw [k4.1, k3.1]; exact s2.1, fun q hq => by rw [k4.2 q hq, k3.2 q hq, s2.2 q hq]⟩
  have v4 := (s5.2 vb vl).trans v1
  repeat first
    | refine JG.seq ?_
    | refine JG.skip ?_
    | refine JG.inBlock ?_
    | refine JG.block ?_
    | refine JG.done ?_
    | refine JG.label ?_
    | refine JG.condT rfl ?_
    | refine JG.condF rfl ?_
    | (refine JG.region ?_; simp only [List.size_toArray, List.length_cons, List.length_nil, Nat.reduceAdd, Nat.zero_add, List.range, List.range.loop])
    | (refine JG.unwanted rfl (by rfl) ?_; try walk_nrm)
    | (refine JG.op (F := F0) stands0 (fun h => by cases h) rfl rfl (by rfl) (by decide) (fun K E hK hE τ d => ?_); go_simp; refine hK _ _ (JG.tap ?_); clear hK hE K E τ d; try walk_nrm)
    | (refine JG.op (F := F0) stands0 (fun h => by cases h) rfl rfl (by rfl) (by decide) (fun K E hK hE τ d => ?_); have hfact := (under_cell _ τ d _).trans ((cell_obj v4 0)); go_simp; refine hK _ _ (JG.tap ?_); clear hfact hK hE K E τ d; try walk_nrm)
  refine JG.call (f := 43) (args := #[P0 r, .pointer none]) rfl (by rfl) (by decide) (fun w => ?_) (fun w => ?_) ?_
  · obtain ⟨fn, h1, h2, h3⟩ : HasBody 43 := ⟨_, Try.func43, by kernel_rfl, by kernel_rfl⟩
    have h4 : ¬ fn.name = "runtime.NumGoroutine" := by simpa using h2
    have h5 : ¬ fn.body = none := by intro e; rw [e] at h3; cases h3
    simp [go_sem, execOp, Act.eval, resolve, Deferred.ofValue, invoke, callFunc, h1, h4, h5]
  · obtain ⟨fn, h1, h2, h3⟩ : HasBody 43 := ⟨_, Try.func43, by kernel_rfl, by kernel_rfl⟩
    have h4 : ¬ fn.name = "runtime.NumGoroutine" := by simpa using h2
    have h5 : ¬ fn.body = none := by intro e; rw [e] at h3; cases h3
    simp [go_sem, execOp, Act.eval, resolve, Deferred.ofValue, invoke, callFunc, h1, h4, h5]
  refine lenV_J (u := 0) s4 (by simp [IntKind.wrap_i64]) ?_
  rw [Frame.finish_at]
  walk_nrm
  repeat first
    | refine JG.seq ?_
    | refine JG.skip ?_
    | refine JG.inBlock ?_
    | refine JG.block ?_
    | refine JG.done ?_
    | refine JG.label ?_
    | refine JG.condT rfl ?_
    | refine JG.condF rfl ?_
    | (refine JG.region ?_; simp only [List.size_toArray, List.length_cons, List.length_nil, Nat.reduceAdd, Nat.zero_add, List.range, List.range.loop])
    | (refine JG.unwanted rfl (by rfl) ?_; try walk_nrm)
    | (refine JG.op (F := F0) stands0 (fun h => by cases h) rfl rfl (by rfl) (by decide) (fun K E hK hE τ d => ?_); go_simp; refine hK _ _ (JG.tap ?_); clear hK hE K E τ d; try walk_nrm)
  exact ringTail_J (x := x) v4 hC (s1.trans s5) h
end
end Go.Proofs.Ytecmobjiepgfjaa
