/- PipeNew: refused sizes; the tail. -/
import Derived.Test.YtecmobjiepgfjaaPPpG
import Derived.Test.YtecmobjiepgfjaaPPpE
import Derived.Test.YtecmobjiepgfjaaPTkJ
import Derived.Conc.Own4
import Derived.Lib.Builder
namespace Go.Proofs.Ytecmobjiepgfjaa
open Go.Conc Go.RowKit
open Go.ConcN (upd upd_same upd_ne)
set_option linter.unusedSimpArgs false
set_option linter.unusedVariables false
set_option maxRecDepth 100000
theorem pipe_newR (n : Int) (vb : Value) (d1 d2 d3 : Bool) (h1 : decide (n < 2) = d1) (h2 : decide (4096 < n) = d2) (h3 : (bits .and .i64 n (wrap64 (n - 1)) != 0) = d3) (hd : (d1 || d2 || d3) = true) (w : World) :
    Calls Try.prog 57 #[.int .i64 n, vb] w fun e w' => e = .returned (.tuple #[.pointer none, .int .i64 1]) ∧ w = w' := by
  cases d1 with
  | true =>
    clear hd
    go_enter Try.func57, Try.ntmps57
    go_wp2
    go_ret2
    exact ⟨rfl, rfl⟩
  | false =>
    cases d2 with
    | true =>
      clear hd
      go_enter Try.func57, Try.ntmps57
      go_wp2
      go_ret2
      exact ⟨rfl, rfl⟩
    | false =>
      obtain rfl : d3 = true := by simpa using hd
      go_enter Try.func57, Try.ntmps57
      go_wp2
      go_ret2
      exact ⟨rfl, rfl⟩
section
variable {Post : Value → World → Prop} {C : Ctx} {x : World} {c : Frame} {cs : List Frame} {v : Int}
theorem pipeNewR_J {n : Int} {vq : Value} {d1 d2 d3 : Bool} (h1 : decide (n < 2) = d1) (h2 : decide (4096 < n) = d2) (h3 : (bits .and .i64 n (wrap64 (n - 1)) != 0) = d3) (hd : (d1 || d2 || d3) = true) (h : JG Try.prog Post C (G (c.finish (.tuple #[.pointer none, .int .i64 1])) cs) x) :
    JG Try.prog Post C (G (Frame.enter Try.prog 57 #[.int .i64 n, vq] .normal) (c :: cs)) x := by
  refine JG.calls (F := FX makersP) (Q := fun u y => u = .tuple #[.pointer none, .int .i64 1] ∧ ∃ τ, y = under x τ 0) (closedP _) (by kernel_rfl) (fun τ => ?_) (fun u y hq => ?_)
  · refine (pipe_newR n vq d1 d2 d3 h1 h2 h3 hd _).mono ?_
    rintro e y ⟨rfl, rfl⟩
    exact ⟨_, rfl, rfl, τ, rfl⟩
  · obtain ⟨rfl, τ, rfl⟩ := hq
    exact h.tap
set_option maxHeartbeats 4000000 in
theorem pipeTail_J {y : World} {vb : Nat} {u0 u1 u2 u3 u5 u6 u8 u9 u10 u11 u12 u13 u14 u15 u16 u17 u18 u19 u20 u21 u22 u23 u24 u25 u26 u27 u28 u29 u30 u31 u32 u33 u34 u35 u36 u37 u38 u39 u40 u41 u42 u43 u44 u45 u46 u47 u48 u49 u50 u51 u52 u53 u54 u55 u56 u57 u58 u59 u60 u61 u62 u63 u64 u65 u66 u67 u68 u69 u70 u71 u72 u73 u74 u75 u76 u77 u78 u79 u80 u81 u82 u83 u84 u85 u86 u87 u88 u89 u90 u91 u92 u93 u94 u95 u96 u97 u98 u99 u100 u101 u102 u103 u104 u105 u106 u107 u108 u109 u110 u111 u112 u113 u114 u115 u116 u117 u118 u119 u120 : Value} (hv : y.heap[vb]? = some (.cells #[.int .i64 v] 2 (0, 0))) (hC : First C x) (hs : OldStand x y) (h : Fine Post C x) :
    JG Try.prog Post C (G ((base 10).at ⟨List.toArray (u0 :: u1 :: u2 :: u3 :: (P0 vb) :: u5 :: u6 :: (.bool true) :: u8 :: u9 :: u10 :: u11 :: u12 :: u13 :: u14 :: u15 :: u16 :: u17 :: u18 :: u19 :: u20 :: u21 :: u22 :: u23 :: u24 :: u25 :: u26 :: u27 :: u28 :: u29 :: u30 :: u31 :: u32 :: u33 :: u34 :: u35 :: u36 :: u37 :: u38 :: u39 :: u40 :: u41 :: u42 :: u43 :: u44 :: u45 :: u46 :: u47 :: u48 :: u49 :: u50 :: u51 :: u52 :: u53 :: u54 :: u55 :: u56 :: u57 :: u58 :: u59 :: u60 :: u61 :: u62 :: u63 :: u64 :: u65 :: u66 :: u67 :: u68 :: u69 :: u70 :: u71 :: u72 :: u73 :: u74 :: u75 :: u76 :: u77 :: u78 :: u79 :: u80 :: u81 :: u82 :: u83 :: u84 :: u85 :: u86 :: u87 :: u88 :: u89 :: u90 :: u91 :: u92 :: u93 :: u94 :: u95 :: u96 :: u97 :: u98 :: u99 :: u100 :: u101 :: u102 :: u103 :: u104 :: u105 :: u106 :: u107 :: u108 :: u109 :: u110 :: u111 :: u112 :: u113 :: u114 :: u115 :: u116 :: u117 :: u118 :: u119 :: u120 :: []), []⟩ [.inRegion (Code.ops1 (Code.from (Try.f10.body.getD .skip) 8)) [0, 1], .code (Code.from (Try.f10.body.getD .skip) 9)]) []) y := by
  simp only [Try.f10, Option.getD_some, Code.from, Code.ops1]
  refine JG.op (F := F0) stands0 (fun h => by cases h) rfl rfl (by rfl) (by decide) (fun K E hK hE τ d => ?_)
  go_simp
  refine hK _ _ (JG.tap (x := y.alloc (.cells #[.bool false] 4)) ?_)
  simp only [under_size]
  clear hK hE K E τ d
  have g0 : (y.alloc (.cells #[.bool false] 4)).heap[y.heap.size]? = some (.cells #[.bool false] 4 (0, 0)) := heap_alloc_new y _
  refine JG.op (F := F0) stands0 (fun h => by cases h) rfl rfl (by rfl) (by decide) (fun K E hK hE τ d => ?_)
  obtain ⟨hfact, hfact2⟩ := And.intro (cell_obj g0 0) (frozen_obj g0 0)
  replace hfact := (under_cell _ τ d _).trans hfact
  replace hfact2 := (under_frozen _ τ d _).trans hfact2
  go_simp
  refine hK _ _ ?_
  rw [under_setCell]
  refine JG.tap ?_
  clear hfact hfact2 hK hE K E τ d
  try walk_nrm
  obtain ⟨w, hw⟩ : ∃ w, w = (y.alloc (.cells #[.bool false] 4)).setCell (th y.heap.size 0) (.bool true) := ⟨_, rfl⟩
  rw [← hw]
  have s1 : OldStand y w := by
    exact ⟨by rw [hw, size_set]; simp, fun r hr => by rw [hw, heap_set_ne (by omega), heap_alloc', Array.getElem?_push, if_neg (by omega)]⟩
  have gw : w.heap[y.heap.size]? = some (.cells #[.bool true] 4 (0, 0)) := by rw [hw]; exact heap_set_self g0
  have vw := (s1.2 vb (Array.getElem?_eq_some_iff.1 hv).1).trans hv
  replace s1 := hs.trans s1
  clear hw g0 hv hs
  generalize y.heap.size = gb at gw ⊢
  repeat first
    | refine JG.seq ?_
    | refine JG.skip ?_
    | refine JG.inBlock ?_
    | refine JG.block ?_
    | refine JG.done ?_
    | refine JG.label ?_
    | refine JG.condT rfl ?_
    | refine JG.condF rfl ?_
    | (refine JG.region ?_; simp only [List.size_toArray, List.length_cons, List.length_nil, Nat.reduceAdd, Nat.zero_add, List.range, List.range.loop])
    | (refine JG.unwanted rfl (by rfl) ?_; try walk_nrm)
    | (refine JG.op (F := F0) stands0 (fun h => by cases h) rfl rfl (by rfl) (by decide) (fun K E hK hE τ d => ?_); go_simp; refine hK _ _ (JG.tap ?_); clear hK hE K E τ d; try walk_nrm)
  refine JG.op (F := F0) stands0 (fun h => by cases h) rfl rfl (by rfl) (by decide) (fun K E hK hE τ d => ?_)
  go_simp
  refine hK _ _ (JG.tap (x := w.alloc (.cells #[.func (.func 62) #[] #[P0 gb, P0 vb]] 40)) ?_)
  simp only [under_size]
  clear hK hE K E τ d
  have b1 : (w.alloc (.cells #[.func (.func 62) #[] #[P0 gb, P0 vb]] 40)).cell? (th w.heap.size 0) = some (.func (.func 62) #[] #[P0 gb, P0 vb]) := cell_obj (heap_alloc_new w _) 0
  have s2 := (OldStand.refl w).alloc (.cells #[.func (.func 62) #[] #[P0 gb, P0 vb]] 40)
  generalize w.alloc (.cells #[.func (.func 62) #[] #[P0 gb, P0 vb]] 40) = w1 at b1 s2 ⊢
  generalize w.heap.size = bb at b1 ⊢
  have gl := (Array.getElem?_eq_some_iff.1 gw).1
  have vl := (Array.getElem?_eq_some_iff.1 vw).1
  have gw1 := (s2.2 gb gl).trans gw
  have vw1 := (s2.2 vb vl).trans vw
  replace s2 := s1.trans s2
  clear s1 gw vw gl vl
  repeat first
    | refine JG.seq ?_
    | refine JG.skip ?_
    | refine JG.inBlock ?_
    | refine JG.block ?_
    | refine JG.done ?_
    | refine JG.label ?_
    | refine JG.condT rfl ?_
    | refine JG.condF rfl ?_
    | (refine JG.region ?_; simp only [List.size_toArray, List.length_cons, List.length_nil, Nat.reduceAdd, Nat.zero_add, List.range, List.range.loop])
    | (refine JG.unwanted rfl (by rfl) ?_; try walk_nrm)
    | (refine JG.op (F := F0) stands0 (fun h => by cases h) rfl rfl (by rfl) (by decide) (fun K E hK hE τ d => ?_); go_simp; refine hK _ _ (JG.tap ?_); clear hK hE K E τ d; try walk_nrm)
  refine JG.call (f := 18) (args := #[.slice none 0 0, .int .i64 9, .slice (some ⟨bb, 0, none⟩) 1 1]) rfl (by rfl) (by decide) (fun w => ?_) (fun w => ?_) ?_
  · obtain ⟨fn, h1, h2, h3⟩ : HasBody 18 := ⟨_, Try.func18, by kernel_rfl, by kernel_rfl⟩
    have h4 : ¬ fn.name = "runtime.NumGoroutine" := by simpa using h2
    have h5 : ¬ fn.body = none := by intro e; rw [e] at h3; cases h3
    simp [go_sem, execOp, Act.eval, resolve, Deferred.ofValue, invoke, callFunc, h1, h4, h5]
  · obtain ⟨fn, h1, h2, h3⟩ : HasBody 18 := ⟨_, Try.func18, by kernel_rfl, by kernel_rfl⟩
    have h4 : ¬ fn.name = "runtime.NumGoroutine" := by simpa using h2
    have h5 : ¬ fn.body = none := by intro e; rw [e] at h3; cases h3
    simp [go_sem, execOp, Act.eval, resolve, Deferred.ofValue, invoke, callFunc, h1, h4, h5]
  have gl := (Array.getElem?_eq_some_iff.1 gw1).1
  have vl := (Array.getElem?_eq_some_iff.1 vw1).1
  obtain ⟨e1, e2, e3, e4, e5⟩ := hC
  refine run_J e2 (by omega) (by rw [e5]; exact s2.1) (pipeMild (Nat.le_refl _) gw1 vw1 gl vl) rfl b1 (fun i s _ hs => by rw [e4 i] at hs; cases hs) (e4 _) fun Ch' z0 z1 y2 hCh hz0 hsz hR hy2 hys => ?_
  rw [Frame.finish_at]
  walk_nrm
  have s3 : OldStand w1 y2 := ⟨by have := hR.1; omega, fun r hr => by rw [hy2 r hr, hR.2 r (by omega), hz0 r hr]⟩
  have gw2 := (s3.2 gb gl).trans gw1
  replace s3 := s2.trans s3
  clear hz0 hsz hR hy2 hys gw1 vw1 gl vl s2 b1
  have hCh' : ∀ i, i ≠ 0 → Ch' i = none := fun i hi => (hCh i (by omega)).trans (e4 i)
  clear hCh
  repeat first
    | refine JG.seq ?_
    | refine JG.skip ?_
    | refine JG.inBlock ?_
    | refine JG.block ?_
    | refine JG.done ?_
    | refine JG.label ?_
    | refine JG.condT rfl ?_
    | refine JG.condF rfl ?_
    | (refine JG.region ?_; simp only [List.size_toArray, List.length_cons, List.length_nil, Nat.reduceAdd, Nat.zero_add, List.range, List.range.loop])
    | (refine JG.unwanted rfl (by rfl) ?_; try walk_nrm)
    | (refine JG.op (F := F0) stands0 (fun h => by cases h) rfl rfl (by rfl) (by decide) (fun K E hK hE τ d => ?_); go_simp; refine hK _ _ (JG.tap ?_); clear hK hE K E τ d; try walk_nrm)
  refine JG.op (F := F0) stands0 (fun h => by cases h) rfl rfl (by rfl) (by decide) (fun K E hK hE τ d => ?_)
  go_simp
  refine hK _ _ (JG.tap (x := y2.alloc (.cells #[.int .i8 0, .int .i64 0, nilS, nilS, nilS, nilS, nilS] 43)) ?_)
  simp only [under_size]
  clear hK hE K E τ d
  have wn : (y2.alloc (.cells #[.int .i8 0, .int .i64 0, nilS, nilS, nilS, nilS, nilS] 43)).heap[y2.heap.size]? = some (.cells #[.int .i8 0, .int .i64 0, nilS, nilS, nilS, nilS, nilS] 43 (0, 0)) := heap_alloc_new y2 _
  have s4 := (OldStand.refl y2).alloc (.cells #[.int .i8 0, .int .i64 0, nilS, nilS, nilS, nilS, nilS] 43)
  have gl := (Array.getElem?_eq_some_iff.1 gw2).1
  have gq : gb ≠ y2.heap.size := by omega
  generalize y2.alloc (.cells #[.int .i8 0, .int .i64 0, nilS, nilS, nilS, nilS, nilS] 43) = w2 at wn s4 ⊢
  have gw3 := (s4.2 gb gl).trans gw2
  have qx : x.heap.size ≤ y2.heap.size := s3.1
  replace s4 := s3.trans s4
  generalize y2.heap.size = q at wn gq qx ⊢
  clear gw2 gl s3
  have m0 : w2.cell? (th q 0) = some (.int .i8 0) := cell_obj wn 0
  have n0 : w2.frozen? (th q 0) = false := frozen_obj wn 0
  have m1 : w2.cell? (th q 1) = some (.int .i64 0) := cell_obj wn 1
  have n1 : w2.frozen? (th q 1) = false := frozen_obj wn 1
  have m2 : w2.cell? (th q 2) = some (nilS) := cell_obj wn 2
  have n2 : w2.frozen? (th q 2) = false := frozen_obj wn 2
  have m3 : w2.cell? (th q 3) = some (nilS) := cell_obj wn 3
  have n3 : w2.frozen? (th q 3) = false := frozen_obj wn 3
  have m4 : w2.cell? (th q 4) = some (nilS) := cell_obj wn 4
  have n4 : w2.frozen? (th q 4) = false := frozen_obj wn 4
  have m5 : w2.cell? (th q 5) = some (nilS) := cell_obj wn 5
  have n5 : w2.frozen? (th q 5) = false := frozen_obj wn 5
  have m6 : w2.cell? (th q 6) = some (nilS) := cell_obj wn 6
  have n6 : w2.frozen? (th q 6) = false := frozen_obj wn 6
  refine JG.op (F := F0) stands0 (fun h => by cases h) rfl rfl (by rfl) (by decide) (fun K E hK hE τ d => ?_)
  have m0' := (under_cell w2 τ d _).trans m0
  have n0' := (under_frozen w2 τ d _).trans n0
  have m1' := (under_cell w2 τ d _).trans m1
  have n1' := (under_frozen w2 τ d _).trans n1
  have m2' := (under_cell w2 τ d _).trans m2
  have n2' := (under_frozen w2 τ d _).trans n2
  have m3' := (under_cell w2 τ d _).trans m3
  have n3' := (under_frozen w2 τ d _).trans n3
  have m4' := (under_cell w2 τ d _).trans m4
  have n4' := (under_frozen w2 τ d _).trans n4
  have m5' := (under_cell w2 τ d _).trans m5
  have n5' := (under_frozen w2 τ d _).trans n5
  have m6' := (under_cell w2 τ d _).trans m6
  have n6' := (under_frozen w2 τ d _).trans n6
  go_simp
  refine hK _ _ ?_
  rw [under_setCell, under_setCell, under_setCell, under_setCell, under_setCell, under_setCell, under_setCell]
  refine JG.tap ?_
  clear m0 n0 m0' n0' m1 n1 m1' n1' m2 n2 m2' n2' m3 n3 m3' n3' m4 n4 m4' n4' m5 n5 m5' n5' m6 n6 m6' n6' hK hE K E τ d
  obtain ⟨w3, hw⟩ : ∃ w3, w3 = ((((((w2.setCell (th q 0) (.int .i8 1)).setCell (th q 1) (.int .i64 0)).setCell (th q 2) nilS).setCell (th q 3) nilS).setCell (th q 4) nilS).setCell (th q 5) nilS).setCell (th q 6) nilS := ⟨_, rfl⟩
  rw [← hw]
  try walk_nrm
  have hwo : ∀ r, r ≠ q → w3.heap[r]? = w2.heap[r]? := fun r h => by
    rw [hw, heap_set_ne h, heap_set_ne h, heap_set_ne h, heap_set_ne h, heap_set_ne h, heap_set_ne h, heap_set_ne h]
  have hwn : w3.heap[q]? = some (.cells #[.int .i8 1, .int .i64 0, nilS, nilS, nilS, nilS, nilS] 43 (0, 0)) := by
    rw [hw]
    exact heap_set_self (heap_set_self (heap_set_self (heap_set_self (heap_set_self (heap_set_self (heap_set_self wn))))))
  have hws : w3.heap.size = w2.heap.size := by rw [hw, size_set, size_set, size_set, size_set, size_set, size_set, size_set]
  clear hw
  have k0 : w3.cell? (th gb 0) = some (.bool true) := cell_obj ((hwo gb gq).trans gw3) 0
  have k1 : w3.cell? (th q 0) = some (.int .i8 1) := cell_obj hwn 0
  have k2 : w3.cell? (th q 1) = some (.int .i64 0) := cell_obj hwn 1
  repeat first
    | refine JG.seq ?_
    | refine JG.skip ?_
    | refine JG.inBlock ?_
    | refine JG.block ?_
    | refine JG.done ?_
    | refine JG.label ?_
    | refine JG.condT rfl ?_
    | refine JG.condF rfl ?_
    | (refine JG.region ?_; simp only [List.size_toArray, List.length_cons, List.length_nil, Nat.reduceAdd, Nat.zero_add, List.range, List.range.loop])
    | (refine JG.unwanted rfl (by rfl) ?_; try walk_nrm)
    | (refine JG.op (F := F0) stands0 (fun h => by cases h) rfl rfl (by rfl) (by decide) (fun K E hK hE τ d => ?_); go_simp; refine hK _ _ (JG.tap ?_); clear hK hE K E τ d; try walk_nrm)
    | (refine JG.op (F := F0) stands0 (fun h => by cases h) rfl rfl (by rfl) (by decide) (fun K E hK hE τ d => ?_); have hfact := (under_cell _ τ d _).trans (k0); go_simp; refine hK _ _ (JG.tap ?_); clear hfact hK hE K E τ d; try walk_nrm)
    | (refine JG.op (F := F0) stands0 (fun h => by cases h) rfl rfl (by rfl) (by decide) (fun K E hK hE τ d => ?_); have hfact := (under_cell _ τ d _).trans (k1); go_simp; refine hK _ _ (JG.tap ?_); clear hfact hK hE K E τ d; try walk_nrm)
    | (refine JG.op (F := F0) stands0 (fun h => by cases h) rfl rfl (by rfl) (by decide) (fun K E hK hE τ d => ?_); have hfact := (under_cell _ τ d _).trans (k2); go_simp; refine hK _ _ (JG.tap ?_); clear hfact hK hE K E τ d; try walk_nrm)
  refine JG.ret ?_
  have s5 : OldStand x w3 := ⟨by have := s4.1; omega, fun r hr => by rw [hwo r (by omega), s4.2 r hr]⟩
  exact JG.end e1 rfl hCh' rfl rfl Try.func10 (by kernel_rfl) (fun w _ d => results_tmp (t := 6) rfl _ _ _) (fun w => events_results_tmp rfl _ _) (fun w hT hio d => h (w.at d) hio (by have := hT.size; have := s5.1; show x.heap.size ≤ w.heap.size; omega) (fun r hr => ((hT.old r (by show r < C.lo; omega)).symm.trans (s5.2 r hr))))

theorem bits0 (z : Int) : bits .and .i64 0 z = 0 := by
  simp [bits]
  decide +kernel
theorem neq_cell (a : Addr) (w : World) : (binOp .neq 29 (.pointer (some a)) (.pointer (some a))).run Try.prog w = .ok (.bool false) w := by
  have hi : (Try.prog.info? 81).isSome = true := by kernel_rfl
  obtain ⟨j, hj⟩ := Option.isSome_iff_exists.1 hi
  exact Lib.run_neq_ptr_same w a Try.underlying29 hj
theorem wrap2 (v : Int) : wrap64 (wrap64 (v + 1) + 1) = wrap64 (v + 2) := by unfold wrap64; omega
set_option maxHeartbeats 8000000 in
theorem pipeNewT_J {n : Nat} (h2 : 2 ≤ n) (h4 : n ≤ 4096) (hb : bits .and .i64 (n : Int) (wrap64 ((n : Int) - 1)) = 0) (hC : First C x) (h : Fine Post C x) :
    JG Try.prog Post C (G (Frame.enter Try.prog 10 #[.int .i64 (n : Int), .int .i64 v, .bool true] .normal) []) x := by
  have hw : wrap64 ((n : Int) - 1) = (n : Int) - 1 := by unfold wrap64; omega
  have hb' := hb
  rw [hw] at hb'
  have hb0 := bits0 (wrap64 ((n : Int) - 1))
  have q1 : decide (2 ≤ (n : Int)) = true := by simp; omega
  have q2 : decide ((n : Int) ≤ 4096) = true := by simp; omega
  have q3 : (bits .and .i64 (n : Int) (IntKind.i64.wrap ((n : Int) - 1)) == 0) = true := by rw [wrap_eq64, hb]; rfl
  replace hb0 := Lib.hid hb0
  replace hb' := Lib.hid hb'
  replace h2 := Lib.hid h2
  replace h4 := Lib.hid h4
  clear hw hb
  refine enterN Try.func10 (by rfl) (by rfl) ?_
  simp only [Try.f10, Option.getD_some]
  walk_nrm
  repeat first
    | refine JG.seq ?_
    | refine JG.skip ?_
    | refine JG.inBlock ?_
    | refine JG.block ?_
    | refine JG.done ?_
    | refine JG.label ?_
    | refine JG.condT rfl ?_
    | refine JG.condF rfl ?_
    | (refine JG.region ?_; simp only [List.size_toArray, List.length_cons, List.length_nil, Nat.reduceAdd, Nat.zero_add, List.range, List.range.loop])
    | (refine JG.unwanted rfl (by rfl) ?_; try walk_nrm)
    | (refine JG.op (F := F0) stands0 (fun h => by cases h) rfl rfl (by rfl) (by decide) (fun K E hK hE τ d => ?_); go_simp; refine hK _ _ (JG.tap ?_); clear hK hE K E τ d; try walk_nrm)
  refine JG.op (F := F0) stands0 (fun h => by cases h) rfl rfl (by rfl) (by decide) (fun K E hK hE τ d => ?_)
  go_simp
  refine hK _ _ (JG.tap (x := x.alloc (.cells #[.int .i64 v] 2)) ?_)
  simp only [under_size]
  clear hK hE K E τ d
  have s0 : OldStand x (x.alloc (.cells #[.int .i64 v] 2)) := (OldStand.refl x).alloc _
  have v0 : (x.alloc (.cells #[.int .i64 v] 2)).heap[x.heap.size]? = some (.cells #[.int .i64 v] 2 (0, 0)) := heap_alloc_new x _
  generalize x.alloc (.cells #[.int .i64 v] 2) = y0 at s0 v0 ⊢
  generalize hvb : x.heap.size = vb at v0 ⊢
  repeat first
    | refine JG.seq ?_
    | refine JG.skip ?_
    | refine JG.inBlock ?_
    | refine JG.block ?_
    | refine JG.done ?_
    | refine JG.label ?_
    | refine JG.condT rfl ?_
    | refine JG.condF rfl ?_
    | (refine JG.region ?_; simp only [List.size_toArray, List.length_cons, List.length_nil, Nat.reduceAdd, Nat.zero_add, List.range, List.range.loop])
    | (refine JG.unwanted rfl (by rfl) ?_; try walk_nrm)
    | (refine JG.op (F := F0) stands0 (fun h => by cases h) rfl rfl (by rfl) (by decide) (fun K E hK hE τ d => ?_); go_simp; refine hK _ _ (JG.tap ?_); clear hK hE K E τ d; try walk_nrm)
  refine JG.call (f := 56) (args := #[]) rfl (by rfl) (by decide) (fun w => ?_) (fun w => ?_) ?_
  · obtain ⟨fn, h1, h2, h3⟩ : HasBody 56 := ⟨_, Try.func56, by kernel_rfl, by kernel_rfl⟩
    have h4 : ¬ fn.name = "runtime.NumGoroutine" := by simpa using h2
    have h5 : ¬ fn.body = none := by intro e; rw [e] at h3; cases h3
    simp [go_sem, execOp, Act.eval, resolve, Deferred.ofValue, invoke, callFunc, h1, h4, h5]
  · obtain ⟨fn, h1, h2, h3⟩ : HasBody 56 := ⟨_, Try.func56, by kernel_rfl, by kernel_rfl⟩
    have h4 : ¬ fn.name = "runtime.NumGoroutine" := by simpa using h2
    have h5 : ¬ fn.body = none := by intro e; rw [e] at h3; cases h3
    simp [go_sem, execOp, Act.eval, resolve, Deferred.ofValue, invoke, callFunc, h1, h4, h5]
  refine works20_J fun y1 o1 => ?_
  rw [Frame.finish_at]
  walk_nrm
  have v1 := (o1.2 vb (Array.getElem?_eq_some_iff.1 v0).1).trans v0
  have s1 : OldStand x y1 := s0.trans o1
  clear o1 s0 v0
  repeat first
    | refine JG.seq ?_
    | refine JG.skip ?_
    | refine JG.inBlock ?_
    | refine JG.block ?_
    | refine JG.done ?_
    | refine JG.label ?_
    | refine JG.condT rfl ?_
    | refine JG.condF rfl ?_
    | (refine JG.region ?_; simp only [List.size_toArray, List.length_cons, List.length_nil, Nat.reduceAdd, Nat.zero_add, List.range, List.range.loop])
    | (refine JG.unwanted rfl (by rfl) ?_; try walk_nrm)
    | (refine JG.op (F := F0) stands0 (fun h => by cases h) rfl rfl (by rfl) (by decide) (fun K E hK hE τ d => ?_); go_simp; refine hK _ _ (JG.tap ?_); clear hK hE K E τ d; try walk_nrm)
    | (refine JG.op (F := F0) stands0 (fun h => by cases h) rfl rfl (by rfl) (by decide) (fun K E hK hE τ d => ?_); have hfact := (under_cell _ τ d _).trans ((cell_obj v1 0)); go_simp; refine hK _ _ (JG.tap ?_); clear hfact hK hE K E τ d; try walk_nrm)
  refine JG.call (f := 14) (args := #[.int .i64 v]) rfl (by rfl) (by decide) (fun w => ?_) (fun w => ?_) ?_
  · obtain ⟨fn, h1, h2, h3⟩ : HasBody 14 := ⟨_, Try.func14, by kernel_rfl, by kernel_rfl⟩
    have h4 : ¬ fn.name = "runtime.NumGoroutine" := by simpa using h2
    have h5 : ¬ fn.body = none := by intro e; rw [e] at h3; cases h3
    simp [go_sem, execOp, Act.eval, resolve, Deferred.ofValue, invoke, callFunc, h1, h4, h5]
  · obtain ⟨fn, h1, h2, h3⟩ : HasBody 14 := ⟨_, Try.func14, by kernel_rfl, by kernel_rfl⟩
    have h4 : ¬ fn.name = "runtime.NumGoroutine" := by simpa using h2
    have h5 : ¬ fn.body = none := by intro e; rw [e] at h3; cases h3
    simp [go_sem, execOp, Act.eval, resolve, Deferred.ofValue, invoke, callFunc, h1, h4, h5]
  refine cellNew_J fun y2 o2 f2 z2 => ?_
  rw [Frame.finish_at]
  walk_nrm
  have hbc : y1.heap.size ≤ y1.heap.size := Nat.le_refl _
  generalize hbq : y1.heap.size = bc at f2 z2 ⊢
  repeat first
    | refine JG.seq ?_
    | refine JG.skip ?_
    | refine JG.inBlock ?_
    | refine JG.block ?_
    | refine JG.done ?_
    | refine JG.label ?_
    | refine JG.condT rfl ?_
    | refine JG.condF rfl ?_
    | (refine JG.region ?_; simp only [List.size_toArray, List.length_cons, List.length_nil, Nat.reduceAdd, Nat.zero_add, List.range, List.range.loop])
    | (refine JG.unwanted rfl (by rfl) ?_; try walk_nrm)
    | (refine JG.op (F := F0) stands0 (fun h => by cases h) rfl rfl (by rfl) (by decide) (fun K E hK hE τ d => ?_); go_simp; refine hK _ _ (JG.tap ?_); clear hK hE K E τ d; try walk_nrm)
  refine JG.call (f := 57) (args := #[.int .i64 (n : Int), P0 bc]) rfl (by rfl) (by decide) (fun w => ?_) (fun w => ?_) ?_
  · obtain ⟨fn, h1, h2, h3⟩ : HasBody 57 := ⟨_, Try.func57, by kernel_rfl, by kernel_rfl⟩
    have h4 : ¬ fn.name = "runtime.NumGoroutine" := by simpa using h2
    have h5 : ¬ fn.body = none := by intro e; rw [e] at h3; cases h3
    simp [go_sem, execOp, Act.eval, resolve, Deferred.ofValue, invoke, callFunc, h1, h4, h5]
  · obtain ⟨fn, h1, h2, h3⟩ : HasBody 57 := ⟨_, Try.func57, by kernel_rfl, by kernel_rfl⟩
    have h4 : ¬ fn.name = "runtime.NumGoroutine" := by simpa using h2
    have h5 : ¬ fn.body = none := by intro e; rw [e] at h3; cases h3
    simp [go_sem, execOp, Act.eval, resolve, Deferred.ofValue, invoke, callFunc, h1, h4, h5]
  refine pipeNew_J h2.out h4.out hb'.out f2 fun y3 p i o pb cap t0 s0 t1 s1' o3 hP hl => ?_
  rw [Frame.finish_at]
  walk_nrm
  have old : OldStand y1 y3 := o2.trans o3
  replace hl : Lows bc i o bc t0 s0 t1 s1' := by
    obtain ⟨g1, g2, g3, g4, g5, g6⟩ := hl
    exact ⟨by omega, by omega, Nat.le_refl _, by omega, by omega, by omega, by omega⟩
  have hbl : y1.heap.size ≤ bc := Nat.le_of_eq hbq
  have vl := (Array.getElem?_eq_some_iff.1 v1).1
  have v3 := (old.2 vb vl).trans v1
  have hne := fun w => neq_cell ⟨bc, 0, none⟩ w
  clear o2 o3 f2 z2
  repeat first
    | refine JG.seq ?_
    | refine JG.skip ?_
    | refine JG.inBlock ?_
    | refine JG.block ?_
    | refine JG.done ?_
    | refine JG.label ?_
    | refine JG.condT rfl ?_
    | refine JG.condF rfl ?_
    | (refine JG.region ?_; simp only [List.size_toArray, List.length_cons, List.length_nil, Nat.reduceAdd, Nat.zero_add, List.range, List.range.loop])
    | (refine JG.unwanted rfl (by rfl) ?_; try walk_nrm)
    | (refine JG.op (F := F0) stands0 (fun h => by cases h) rfl rfl (by rfl) (by decide) (fun K E hK hE τ d => ?_); go_simp; refine hK _ _ (JG.tap ?_); clear hK hE K E τ d; try walk_nrm)
    | (refine JG.op (F := F0) stands0 (fun h => by cases h) rfl rfl (by rfl) (by decide) (fun K E hK hE τ d => ?_); have hfact := (under_cell _ τ d _).trans ((cell_obj v3 0)); go_simp; refine hK _ _ (JG.tap ?_); clear hfact hK hE K E τ d; try walk_nrm)
  refine JG.call (f := 58) (args := #[P0 p]) rfl (by rfl) (by decide) (fun w => ?_) (fun w => ?_) ?_
  · obtain ⟨fn, h1, h2, h3⟩ : HasBody 58 := ⟨_, Try.func58, by kernel_rfl, by kernel_rfl⟩
    have h4 : ¬ fn.name = "runtime.NumGoroutine" := by simpa using h2
    have h5 : ¬ fn.body = none := by intro e; rw [e] at h3; cases h3
    simp [go_sem, execOp, Act.eval, resolve, Deferred.ofValue, invoke, callFunc, h1, h4, h5] <;> decide +kernel
  · obtain ⟨fn, h1, h2, h3⟩ : HasBody 58 := ⟨_, Try.func58, by kernel_rfl, by kernel_rfl⟩
    have h4 : ¬ fn.name = "runtime.NumGoroutine" := by simpa using h2
    have h5 : ¬ fn.body = none := by intro e; rw [e] at h3; cases h3
    simp [go_sem, execOp, Act.eval, resolve, Deferred.ofValue, invoke, callFunc, h1, h4, h5] <;> decide +kernel
  refine bell_J (cell_obj hP.blk 0) (cell_obj hP.blk 2) ?_
  rw [Frame.finish_at]
  try walk_nrm
  repeat first
    | refine JG.seq ?_
    | refine JG.skip ?_
    | refine JG.inBlock ?_
    | refine JG.block ?_
    | refine JG.done ?_
    | refine JG.label ?_
    | refine JG.condT rfl ?_
    | refine JG.condF rfl ?_
    | (refine JG.region ?_; simp only [List.size_toArray, List.length_cons, List.length_nil, Nat.reduceAdd, Nat.zero_add, List.range, List.range.loop])
    | (refine JG.unwanted rfl (by rfl) ?_; try walk_nrm)
    | (refine JG.op (F := F0) stands0 (fun h => by cases h) rfl rfl (by rfl) (by decide) (fun K E hK hE τ d => ?_); go_simp; refine hK _ _ (JG.tap ?_); clear hK hE K E τ d; try walk_nrm)
    | (refine JG.op (F := F0) stands0 (fun h => by cases h) rfl rfl (by rfl) (by decide) (fun K E hK hE τ d => ?_); have hfact := (under_cell _ τ d _).trans ((cell_obj v3 0)); go_simp; refine hK _ _ (JG.tap ?_); clear hfact hK hE K E τ d; try walk_nrm)
  refine JG.call (f := 58) (args := #[P0 p]) rfl (by rfl) (by decide) (fun w => ?_) (fun w => ?_) ?_
  · obtain ⟨fn, h1, h2, h3⟩ : HasBody 58 := ⟨_, Try.func58, by kernel_rfl, by kernel_rfl⟩
    have h4 : ¬ fn.name = "runtime.NumGoroutine" := by simpa using h2
    have h5 : ¬ fn.body = none := by intro e; rw [e] at h3; cases h3
    simp [go_sem, execOp, Act.eval, resolve, Deferred.ofValue, invoke, callFunc, h1, h4, h5] <;> decide +kernel
  · obtain ⟨fn, h1, h2, h3⟩ : HasBody 58 := ⟨_, Try.func58, by kernel_rfl, by kernel_rfl⟩
    have h4 : ¬ fn.name = "runtime.NumGoroutine" := by simpa using h2
    have h5 : ¬ fn.body = none := by intro e; rw [e] at h3; cases h3
    simp [go_sem, execOp, Act.eval, resolve, Deferred.ofValue, invoke, callFunc, h1, h4, h5] <;> decide +kernel
  refine bell_J (cell_obj hP.blk 0) (cell_obj hP.blk 2) ?_
  rw [Frame.finish_at]
  try walk_nrm
  repeat first
    | refine JG.seq ?_
    | refine JG.skip ?_
    | refine JG.inBlock ?_
    | refine JG.block ?_
    | refine JG.done ?_
    | refine JG.label ?_
    | refine JG.condT rfl ?_
    | refine JG.condF rfl ?_
    | (refine JG.region ?_; simp only [List.size_toArray, List.length_cons, List.length_nil, Nat.reduceAdd, Nat.zero_add, List.range, List.range.loop])
    | (refine JG.unwanted rfl (by rfl) ?_; try walk_nrm)
    | (refine JG.op (F := F0) stands0 (fun h => by cases h) rfl rfl (by rfl) (by decide) (fun K E hK hE τ d => ?_); go_simp; refine hK _ _ (JG.tap ?_); clear hK hE K E τ d; try walk_nrm)
    | (refine JG.op (F := F0) stands0 (fun h => by cases h) rfl rfl (by rfl) (by decide) (fun K E hK hE τ d => ?_); have hfact := (under_cell _ τ d _).trans ((cell_obj v3 0)); go_simp; refine hK _ _ (JG.tap ?_); clear hfact hK hE K E τ d; try walk_nrm)
  refine JG.call (f := 59) (args := #[P0 p, .pointer none, .int .i64 v]) rfl (by rfl) (by decide) (fun w => ?_) (fun w => ?_) ?_
  · obtain ⟨fn, h1, h2, h3⟩ : HasBody 59 := ⟨_, Try.func59, by kernel_rfl, by kernel_rfl⟩
    have h4 : ¬ fn.name = "runtime.NumGoroutine" := by simpa using h2
    have h5 : ¬ fn.body = none := by intro e; rw [e] at h3; cases h3
    simp [go_sem, execOp, Act.eval, resolve, Deferred.ofValue, invoke, callFunc, h1, h4, h5] <;> decide +kernel
  · obtain ⟨fn, h1, h2, h3⟩ : HasBody 59 := ⟨_, Try.func59, by kernel_rfl, by kernel_rfl⟩
    have h4 : ¬ fn.name = "runtime.NumGoroutine" := by simpa using h2
    have h5 : ¬ fn.body = none := by intro e; rw [e] at h3; cases h3
    simp [go_sem, execOp, Act.eval, resolve, Deferred.ofValue, invoke, callFunc, h1, h4, h5] <;> decide +kernel
  refine trySend0_J hP hb0.out (by have := h2.out; omega) fun y4 h5 l5 => ?_
  rw [Frame.finish_at]
  try walk_nrm
  replace old := StayLo.old old (l5 _ hl) hbl
  replace v3 := (old.2 vb vl).trans v1
  clear l5 hP
  repeat first
    | refine JG.seq ?_
    | refine JG.skip ?_
    | refine JG.inBlock ?_
    | refine JG.block ?_
    | refine JG.done ?_
    | refine JG.label ?_
    | refine JG.condT rfl ?_
    | refine JG.condF rfl ?_
    | (refine JG.region ?_; simp only [List.size_toArray, List.length_cons, List.length_nil, Nat.reduceAdd, Nat.zero_add, List.range, List.range.loop])
    | (refine JG.unwanted rfl (by rfl) ?_; try walk_nrm)
    | (refine JG.op (F := F0) stands0 (fun h => by cases h) rfl rfl (by rfl) (by decide) (fun K E hK hE τ d => ?_); go_simp; refine hK _ _ (JG.tap ?_); clear hK hE K E τ d; try walk_nrm)
    | (refine JG.op (F := F0) stands0 (fun h => by cases h) rfl rfl (by rfl) (by decide) (fun K E hK hE τ d => ?_); have hfact := (under_cell _ τ d _).trans ((cell_obj v3 0)); go_simp; refine hK _ _ (JG.tap ?_); clear hfact hK hE K E τ d; try walk_nrm)
  refine JG.call (f := 60) (args := #[P0 p, .pointer none]) rfl (by rfl) (by decide) (fun w => ?_) (fun w => ?_) ?_
  · obtain ⟨fn, h1, h2, h3⟩ : HasBody 60 := ⟨_, Try.func60, by kernel_rfl, by kernel_rfl⟩
    have h4 : ¬ fn.name = "runtime.NumGoroutine" := by simpa using h2
    have h5 : ¬ fn.body = none := by intro e; rw [e] at h3; cases h3
    simp [go_sem, execOp, Act.eval, resolve, Deferred.ofValue, invoke, callFunc, h1, h4, h5] <;> decide +kernel
  · obtain ⟨fn, h1, h2, h3⟩ : HasBody 60 := ⟨_, Try.func60, by kernel_rfl, by kernel_rfl⟩
    have h4 : ¬ fn.name = "runtime.NumGoroutine" := by simpa using h2
    have h5 : ¬ fn.body = none := by intro e; rw [e] at h3; cases h3
    simp [go_sem, execOp, Act.eval, resolve, Deferred.ofValue, invoke, callFunc, h1, h4, h5] <;> decide +kernel
  refine recv0_J h5 hb0.out (by have := h2.out; omega) fun y5 tv htv h6 l6 => ?_
  rw [Frame.finish_at]
  try walk_nrm
  replace old := StayLo.old old (l6 _ hl) hbl
  replace v3 := (old.2 vb vl).trans v1
  clear l6 h5 htv
  rw [wrap2, ← wrap_eq64] at h6
  repeat first
    | refine JG.seq ?_
    | refine JG.skip ?_
    | refine JG.inBlock ?_
    | refine JG.block ?_
    | refine JG.done ?_
    | refine JG.label ?_
    | refine JG.condT rfl ?_
    | refine JG.condF rfl ?_
    | (refine JG.region ?_; simp only [List.size_toArray, List.length_cons, List.length_nil, Nat.reduceAdd, Nat.zero_add, List.range, List.range.loop])
    | (refine JG.unwanted rfl (by rfl) ?_; try walk_nrm)
    | (refine JG.op (F := F0) stands0 (fun h => by cases h) rfl rfl (by rfl) (by decide) (fun K E hK hE τ d => ?_); go_simp; refine hK _ _ (JG.tap ?_); clear hK hE K E τ d; try walk_nrm)
    | (refine JG.op (F := F0) stands0 (fun h => by cases h) rfl rfl (by rfl) (by decide) (fun K E hK hE τ d => ?_); have hfact := (under_cell _ τ d _).trans ((cell_obj v3 0)); go_simp; refine hK _ _ (JG.tap ?_); clear hfact hK hE K E τ d; try walk_nrm)
  refine JG.drawCallsG (fun i => if i = 11 then some 0 else if i = 19 then some 1 else none) (fun i => if i = 0 then .int .i64 (IntKind.i64.wrap (v + 2)) else .int .i64 0) (fun k z => if k = 2 then (PS z p i o bc pb n cap t0 s0 t1 s1' 3 1 (wrap64 (IntKind.i64.wrap (v + 2) + 1)) tv v 1 0 ∧ OldStand y1 z) else z = y5) 2 (by kernel_rfl) (by kernel_rfl) (by decide) rfl ?_
  apply Exists.intro
  apply And.intro
  · intro k hk z hz
    have hk' : k = 0 ∨ k = 1 ∨ k = 2 := by omega
    rcases hk' with rfl | rfl | rfl
    · rw [show z = y5 from hz]
      repeat first
        | (refine JPassG.un (by rfl) (by rfl) ?_; try walk_nrm)
        | (refine JPassG.rd (by rfl) (by rfl) (by rfl) (fun K hK τ d => ?_); go_simp; refine hK _ ?_; clear hK K τ d)
        | (refine JPassG.rd (by rfl) (by rfl) (by rfl) (fun K hK τ d => ?_); have hfact := (under_cell _ τ d _).trans ((cell_obj v3 0)); go_simp; refine hK _ ?_; clear hfact hK K τ d)
      refine JPassG.cl (by rfl) (by rfl) (fun _ => ⟨29, #[P0 bc, .pointer none], fun w => ?_, fun w => ?_, fun c hc => ?_⟩) ?_
      · obtain ⟨fn, h1, h2, h3⟩ : HasBody 29 := ⟨_, Try.func29, by kernel_rfl, by kernel_rfl⟩
        have h4 : ¬ fn.name = "runtime.NumGoroutine" := by simpa using h2
        have h5 : ¬ fn.body = none := by intro e; rw [e] at h3; cases h3
        simp [go_sem, execOp, Act.eval, resolve, Deferred.ofValue, invoke, callFunc, h1, h4, h5] <;> decide +kernel
      · obtain ⟨fn, h1, h2, h3⟩ : HasBody 29 := ⟨_, Try.func29, by kernel_rfl, by kernel_rfl⟩
        have h4 : ¬ fn.name = "runtime.NumGoroutine" := by simpa using h2
        have h5 : ¬ fn.body = none := by intro e; rw [e] at h3; cases h3
        simp [go_sem, execOp, Act.eval, resolve, Deferred.ofValue, invoke, callFunc, h1, h4, h5] <;> decide +kernel
      · exact load_J h6.fbc (hc _ rfl)
      repeat first
        | (refine JPassG.un (by rfl) (by rfl) ?_; try walk_nrm)
        | (refine JPassG.rd (by rfl) (by rfl) (by rfl) (fun K hK τ d => ?_); go_simp; refine hK _ ?_; clear hK K τ d)
        | (refine JPassG.rd (by rfl) (by rfl) (by rfl) (fun K hK τ d => ?_); have hfact := (under_cell _ τ d _).trans ((cell_obj v3 0)); go_simp; refine hK _ ?_; clear hfact hK K τ d)
      refine JPassG.cl (by rfl) (by rfl) (fun h => by cases h) ?_
      repeat first
        | (refine JPassG.un (by rfl) (by rfl) ?_; try walk_nrm)
        | (refine JPassG.rd (by rfl) (by rfl) (by rfl) (fun K hK τ d => ?_); go_simp; refine hK _ ?_; clear hK K τ d)
        | (refine JPassG.rd (by rfl) (by rfl) (by rfl) (fun K hK τ d => ?_); have hfact := (under_cell _ τ d _).trans ((cell_obj v3 0)); go_simp; refine hK _ ?_; clear hfact hK K τ d)
      exact JPassG.nil rfl
    · rw [show z = y5 from hz]
      repeat first
        | (refine JPassG.un (by rfl) (by rfl) ?_; try walk_nrm)
        | (refine JPassG.rd (by rfl) (by rfl) (by rfl) (fun K hK τ d => ?_); go_simp; refine hK _ ?_; clear hK K τ d)
        | (refine JPassG.rd (by rfl) (by rfl) (by rfl) (fun K hK τ d => ?_); have hfact := (under_cell _ τ d _).trans ((cell_obj v3 0)); go_simp; refine hK _ ?_; clear hfact hK K τ d)
      refine JPassG.cl (by rfl) (by rfl) (fun h => by cases h) ?_
      repeat first
        | (refine JPassG.un (by rfl) (by rfl) ?_; try walk_nrm)
        | (refine JPassG.rd (by rfl) (by rfl) (by rfl) (fun K hK τ d => ?_); go_simp; refine hK _ ?_; clear hK K τ d)
        | (refine JPassG.rd (by rfl) (by rfl) (by rfl) (fun K hK τ d => ?_); have hfact := (under_cell _ τ d _).trans ((cell_obj v3 0)); go_simp; refine hK _ ?_; clear hfact hK K τ d)
      refine JPassG.cl (by rfl) (by rfl) (fun _ => ⟨61, #[P0 p, .pointer none], fun w => ?_, fun w => ?_, fun c hc => ?_⟩) ?_
      · obtain ⟨fn, h1, h2, h3⟩ : HasBody 61 := ⟨_, Try.func61, by kernel_rfl, by kernel_rfl⟩
        have h4 : ¬ fn.name = "runtime.NumGoroutine" := by simpa using h2
        have h5 : ¬ fn.body = none := by intro e; rw [e] at h3; cases h3
        simp [go_sem, execOp, Act.eval, resolve, Deferred.ofValue, invoke, callFunc, h1, h4, h5] <;> decide +kernel
      · obtain ⟨fn, h1, h2, h3⟩ : HasBody 61 := ⟨_, Try.func61, by kernel_rfl, by kernel_rfl⟩
        have h4 : ¬ fn.name = "runtime.NumGoroutine" := by simpa using h2
        have h5 : ¬ fn.body = none := by intro e; rw [e] at h3; cases h3
        simp [go_sem, execOp, Act.eval, resolve, Deferred.ofValue, invoke, callFunc, h1, h4, h5] <;> decide +kernel
      · exact close2_J h6 fun y6 h7 l7 => hc _ ⟨h7, StayLo.old old (l7 _ hl) hbl⟩
      repeat first
        | (refine JPassG.un (by rfl) (by rfl) ?_; try walk_nrm)
        | (refine JPassG.rd (by rfl) (by rfl) (by rfl) (fun K hK τ d => ?_); go_simp; refine hK _ ?_; clear hK K τ d)
        | (refine JPassG.rd (by rfl) (by rfl) (by rfl) (fun K hK τ d => ?_); have hfact := (under_cell _ τ d _).trans ((cell_obj v3 0)); go_simp; refine hK _ ?_; clear hfact hK K τ d)
      exact JPassG.nil rfl
    · obtain ⟨_, hz⟩ : PS z p i o bc pb n cap t0 s0 t1 s1' 3 1 (wrap64 (IntKind.i64.wrap (v + 2) + 1)) tv v 1 0 ∧ OldStand y1 z := hz
      have v4 := (hz.2 vb vl).trans v1
      repeat first
        | (refine JPassG.un (by rfl) (by rfl) ?_; try walk_nrm)
        | (refine JPassG.rd (by rfl) (by rfl) (by rfl) (fun K hK τ d => ?_); go_simp; refine hK _ ?_; clear hK K τ d)
        | (refine JPassG.rd (by rfl) (by rfl) (by rfl) (fun K hK τ d => ?_); have hfact := (under_cell _ τ d _).trans ((cell_obj v4 0)); go_simp; refine hK _ ?_; clear hfact hK K τ d)
      refine JPassG.cl (by rfl) (by rfl) (fun h => by cases h) ?_
      repeat first
        | (refine JPassG.un (by rfl) (by rfl) ?_; try walk_nrm)
        | (refine JPassG.rd (by rfl) (by rfl) (by rfl) (fun K hK τ d => ?_); go_simp; refine hK _ ?_; clear hK K τ d)
        | (refine JPassG.rd (by rfl) (by rfl) (by rfl) (fun K hK τ d => ?_); have hfact := (under_cell _ τ d _).trans ((cell_obj v4 0)); go_simp; refine hK _ ?_; clear hfact hK K τ d)
      refine JPassG.cl (by rfl) (by rfl) (fun h => by cases h) ?_
      repeat first
        | (refine JPassG.un (by rfl) (by rfl) ?_; try walk_nrm)
        | (refine JPassG.rd (by rfl) (by rfl) (by rfl) (fun K hK τ d => ?_); go_simp; refine hK _ ?_; clear hK K τ d)
        | (refine JPassG.rd (by rfl) (by rfl) (by rfl) (fun K hK τ d => ?_); have hfact := (under_cell _ τ d _).trans ((cell_obj v4 0)); go_simp; refine hK _ ?_; clear hfact hK K τ d)
      exact JPassG.nil rfl
  · intro z hz
    obtain ⟨_, hz⟩ : PS z p i o bc pb n cap t0 s0 t1 s1' 3 1 (wrap64 (IntKind.i64.wrap (v + 2) + 1)) tv v 1 0 ∧ OldStand y1 z := hz
    have v4 := (hz.2 vb vl).trans v1
    try walk_nrm
    repeat first
      | refine JG.seq ?_
      | refine JG.skip ?_
      | refine JG.inBlock ?_
      | refine JG.block ?_
      | refine JG.done ?_
      | refine JG.label ?_
      | refine JG.condT rfl ?_
      | refine JG.condF rfl ?_
      | (refine JG.region ?_; simp only [List.size_toArray, List.length_cons, List.length_nil, Nat.reduceAdd, Nat.zero_add, List.range, List.range.loop])
      | (refine JG.unwanted rfl (by rfl) ?_; try walk_nrm)
      | (refine JG.op (F := F0) stands0 (fun h => by cases h) rfl rfl (by rfl) (by decide) (fun K E hK hE τ d => ?_); go_simp; refine hK _ _ (JG.tap ?_); clear hK hE K E τ d; try walk_nrm)
    exact pipeTail_J (x := x) v4 hC (s1.trans hz) h
end
end Go.Proofs.Ytecmobjiepgfjaa
