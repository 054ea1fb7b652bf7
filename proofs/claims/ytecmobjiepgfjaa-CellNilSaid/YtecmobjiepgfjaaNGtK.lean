/- gate.Run of one thread that makes no access. -/
import Derived.Test.YtecmobjiepgfjaaNGtJ
import Derived.Carry
namespace Go.Proofs.Ytecmobjiepgfjaa
open Go.Conc Go.RowKit
open Go.ConcN (upd upd_same upd_ne)
set_option linter.unusedSimpArgs false
set_option linter.unusedVariables false
set_option maxRecDepth 100000
set_option maxHeartbeats 1000000 in
theorem run_J {Post : Value → World → Prop} {C : Ctx} {x : World} {c : Frame} {cs : List Frame} {fb bb bc : Nat} {most : Int} {cap : Array Value} {vf : Value} {po : Option Addr} {pn pc : Nat} {R : World → World → Prop}
    (hd : C.d = 0) (hh : C.h < C.n) (hlo : C.lo ≤ x.heap.size) (hM : Mild1 Post x.heap.size x fb cap R) (hvf : vf = .func (.func fb) #[] cap) (hb : x.cell? (th bb 0) = some vf)
    (hlow : ∀ i s, i ≠ C.h → C.Ch i = some s → s.c < x.heap.size) (hnone : C.Ch C.n = none)
    (hend : ∀ Ch' z0 z1 y, (∀ i, i ≠ C.h → Ch' i = C.Ch i) → (∀ r, r < x.heap.size → z0.heap[r]? = x.heap[r]?) → x.heap.size ≤ z0.heap.size → R z0 z1 → (∀ r, r < x.heap.size → y.heap[r]? = z1.heap[r]?) → z1.heap.size ≤ y.heap.size → JG Try.prog Post { Ch := Ch', h := C.h, d := 0, n := C.n + 1, lo := C.lo, io := C.io } (G (c.finish (.agg #[.int .i8 1, .int .i64 0, nilS, nilS, nilS, nilS, nilS])) cs) y) :
    JG Try.prog Post C (G (Frame.enter Try.prog 18 #[.slice po pn pc, .int .i64 most, .slice (some ⟨bb, 0, none⟩) 1 bc] .normal) (c :: cs)) x := by
  refine enterN Try.func18 (by rfl) (by rfl) ?_
  simp only [Try.f18, Option.getD_some]
  replace hvf := Lib.hid hvf
  walk_nrm
  refine JG.seq ?_
  refine JG.code (closedG _) (by kernel_rfl) rfl (.inr (by kernel_rfl)) rfl (fun K R hK hR τ => ?_)
  replace hK := Lib.hid hK
  clear hR
  go_wp2
  refine hK.out _ _ (JG.tap (x := (x.alloc (.cells #[.slice po pn pc] 24)).alloc (.cells #[.int .i8 0, .int .i64 0, nilS, nilS, nilS, nilS, nilS] 43)) ?_)
  simp only [under_size]
  clear hK K R τ
  obtain ⟨w, hw⟩ : ∃ w, w = (x.alloc (.cells #[.slice po pn pc] 24)).alloc (.cells #[.int .i8 0, .int .i64 0, nilS, nilS, nilS, nilS, nilS] 43) := ⟨_, rfl⟩
  rw [← hw]
  have ws : w.heap.size = x.heap.size + 2 := by rw [hw]; simp
  have wn : w.heap[x.heap.size + 1]? = some (.cells #[.int .i8 0, .int .i64 0, nilS, nilS, nilS, nilS, nilS] 43 (0, 0)) := by
    rw [hw, heap_alloc', heap_alloc', Array.getElem?_push, Array.size_push, if_pos rfl]
  have wo : ∀ r, r < x.heap.size → w.heap[r]? = x.heap[r]? := fun r h => by
    rw [hw, heap_alloc', heap_alloc', Array.getElem?_push, Array.size_push, if_neg (by omega), Array.getElem?_push, if_neg (by omega)]
  have wb : w.cell? (th bb 0) = some vf := by rw [hw]; exact cell_alloc_old (cell_alloc_old hb)
  clear hw
  generalize hrp : x.heap.size + 1 = rp at wn ⊢
  refine JG.seq ?_
  refine JG.seq ?_
  refine JG.code (closedG _) (by kernel_rfl) rfl (.inr (by kernel_rfl)) rfl (fun K R hK hR τ => ?_)
  replace hK := Lib.hid hK
  clear hR
  go_wp2
  refine hK.out _ _ (JG.tap (x := w) (τ := τ) (d := 0) ?_)
  clear hK K R τ
  refine JG.condF rfl ?_
  refine JG.skip ?_
  refine JG.seq ?_
  refine JG.code (closedG _) (by kernel_rfl) rfl (.inr (by kernel_rfl)) rfl (fun K R hK hR τ => ?_)
  replace hK := Lib.hid hK
  clear hR
  have hmm := fun w => run_makeMap (P := Try.prog) 176 w
  go_wp2
  refine hK.out _ _ (JG.tap (x := ((w.alloc (.map #[] 0)).alloc (.cells (runObj nilS (.map (some w.heap.size)) nilS nilS nilS nilS false) 179)).alloc (.cells #[P0 (w.heap.size + 1)] 175)) ?_)
  simp only [under_size]
  clear hK K R τ hmm
  obtain ⟨y, hy⟩ : ∃ y, y = ((w.alloc (.map #[] 0)).alloc (.cells (runObj nilS (.map (some w.heap.size)) nilS nilS nilS nilS false) 179)).alloc (.cells #[P0 (w.heap.size + 1)] 175) := ⟨_, rfl⟩
  rw [← hy]
  have ys : y.heap.size = w.heap.size + 3 := by rw [hy]; simp
  have yr : y.heap[w.heap.size + 1]? = some (.cells (runObj nilS (.map (some w.heap.size)) nilS nilS nilS nilS false) 179 (0, 0)) := by
    rw [hy, heap_alloc', heap_alloc', heap_alloc', Array.getElem?_push, Array.size_push, Array.size_push, if_neg (by omega), Array.getElem?_push, Array.size_push, if_pos rfl]
  have yp' : y.heap[w.heap.size + 1 + 1]? = some (.cells #[P0 (w.heap.size + 1)] 175 (0, 0)) := by
    rw [hy, heap_alloc', heap_alloc', heap_alloc', Array.getElem?_push, Array.size_push, Array.size_push, if_pos rfl]
  have yo : ∀ r, r < w.heap.size → y.heap[r]? = w.heap[r]? := fun r h => by
    rw [hy, heap_alloc', heap_alloc', heap_alloc', Array.getElem?_push, Array.size_push, Array.size_push, if_neg (by omega), Array.getElem?_push, Array.size_push, if_neg (by omega), Array.getElem?_push, if_neg (by omega)]
  have yb : y.cell? (th bb 0) = some vf := by rw [hy]; exact cell_alloc_old (cell_alloc_old (cell_alloc_old wb))
  have yp : y.cell? (th (w.heap.size + 1 + 1) 0) = some (P0 (w.heap.size + 1)) := by rw [cell_obj yp']; rfl
  clear hy
  generalize hpv : w.heap.size + 1 + 1 = pv at yp yp' ⊢
  generalize hrb : w.heap.size + 1 = rb at yr yp yp' ⊢
  repeat first | refine JG.seq ?_ | refine JG.skip ?_ | refine JG.inBlock ?_ | refine JG.block ?_ | refine JG.done ?_ | refine JG.label ?_ | refine JG.condT rfl ?_ | refine JG.condF rfl ?_ | (refine JG.region ?_; simp only [List.size_toArray, List.length_cons, List.length_nil, Nat.reduceAdd, Nat.zero_add, List.range, List.range.loop]) | (refine JG.unwanted rfl (by rfl) ?_; try walk_nrm) | (refine jgo rfl rfl (by rfl) (by decide) (fun K E hK hE τ d => ?_); go_simp; refine hK _ _ (JG.tap ?_); clear hK hE K E τ d; try walk_nrm) | (refine jgo rfl rfl (by rfl) (by decide) (fun K E hK hE τ d => ?_); have hfact := (under_cell _ τ d _).trans (yp); go_simp; refine hK _ _ (JG.tap ?_); clear hfact hK hE K E τ d; try walk_nrm)
  refine JG.call (f := 82) (args := #[P0 rb, .int .i64 (if 65536 < if most < 0 then 0 else most then 65536 else if most < 0 then 0 else most), .slice (some ⟨bb, 0, none⟩) 1 bc, .func (.func 83) #[] #[P0 x.heap.size, P0 pv]]) rfl (by rfl) (by decide) (fun w => ?_) (fun w => ?_) ?_
  iterate 2 (focus obtain ⟨fn, h1, h2, h3⟩ : HasBody 82 := ⟨_, Try.func82, by kernel_rfl, by kernel_rfl⟩; have h4 : ¬ fn.name = "runtime.NumGoroutine" := (by simpa using h2); have h5 : ¬ fn.body = none := (by intro e; rw [e] at h3; cases h3); simp [go_sem, execOp, Act.eval, resolve, Deferred.ofValue, invoke, callFunc, h1, h4, h5])
  refine until1 (N := x.heap.size) hd hh hlo hM (fun r h => by rw [yo r (by omega), wo r h]) hvf.out yr (by omega) yb (fun i s hi hs => by have := hlow i s hi hs; omega) hnone fun Ch' z0 z1 z2 vT' vF' tb st wk hCh hR hB => ?_
  rw [Frame.finish_at]
  walk_nrm
  obtain ⟨hR1, hR2⟩ := hM.keeps _ _ hR
  have e0 := hB.size0
  have e1 := hB.tbn
  have e2 := hB.stn
  have zk : ∀ r, x.heap.size ≤ r → r < y.heap.size → r ≠ rb → z2.heap[r]? = y.heap[r]? := fun r h1 h2 h3 => by
    rw [hB.same r (by omega) (by omega), hR2 r h1 (by omega), hB.old r h2 h3 (by simp [Value.ownBlock]) (by simp [Value.ownBlock])]
  have zp : z2.cell? (th pv 0) = some (P0 rb) := by rw [cell_obj ((zk pv (by omega) (by omega) (by omega)).trans yp')]; rfl
  have zn := (zk rp (by omega) (by omega) (by omega)).trans ((yo rp (by omega)).trans wn)
  repeat first | refine JG.seq ?_ | refine JG.skip ?_ | refine JG.inBlock ?_ | refine JG.block ?_ | refine JG.done ?_ | refine JG.label ?_ | refine JG.condT rfl ?_ | refine JG.condF rfl ?_ | (refine JG.region ?_; simp only [List.size_toArray, List.length_cons, List.length_nil, Nat.reduceAdd, Nat.zero_add, List.range, List.range.loop]) | (refine JG.unwanted rfl (by rfl) ?_; try walk_nrm) | (refine jgo rfl rfl (by rfl) (by decide) (fun K E hK hE τ d => ?_); go_simp; refine hK _ _ (JG.tap ?_); clear hK hE K E τ d; try walk_nrm) | (refine jgo rfl rfl (by rfl) (by decide) (fun K E hK hE τ d => ?_); have hfact := (under_cell _ τ d _).trans (zp); go_simp; refine hK _ _ (JG.tap ?_); clear hfact hK hE K E τ d; try walk_nrm)
  refine JG.call (f := 84) (args := #[P0 rb, .int .i8 1]) rfl (by rfl) (by decide) (fun w => ?_) (fun w => ?_) ?_
  iterate 2 (focus obtain ⟨fn, h1, h2, h3⟩ : HasBody 84 := ⟨_, Try.func84, by kernel_rfl, by kernel_rfl⟩; have h4 : ¬ fn.name = "runtime.NumGoroutine" := (by simpa using h2); have h5 : ¬ fn.body = none := (by intro e; rw [e] at h3; cases h3); simp [go_sem, execOp, Act.eval, resolve, Deferred.ofValue, invoke, callFunc, h1, h4, h5])
  obtain ⟨g, cap1, q1, hg, _⟩ := own1 hB.rths
  obtain ⟨gf, cap2, q2, hgf, _⟩ := own1 hB.rfls
  have zo := hB.obj
  rw [q1, q2] at zo
  refine report1 (vL := nilS) (vW := nilS) (vR := nilS) (tb := tb) zo hg (by rw [cell_obj hB.thr]; rfl) hgf (by rintro rfl; rw [cell_obj zo] at hg; simp [runObj] at hg) (by omega) (by rintro rfl; rw [cell_obj zo] at hgf; simp [runObj] at hgf) fun u ho hu => ?_
  rw [Frame.finish_at]
  walk_nrm
  have hl2 : ∀ r o, z2.heap[r]? = some o → r < z2.heap.size := fun r o h => (Array.getElem?_eq_some_iff.1 h).1
  have un := (ho rp (hl2 _ _ zn) (by omega)).trans zn
  have m0 : u.cell? (th rp 0) = some (.int .i8 0) := cell_obj un 0
  have n0 : u.frozen? (th rp 0) = false := frozen_obj un 0
  have m1 : u.cell? (th rp 1) = some (.int .i64 0) := cell_obj un 1
  have n1 : u.frozen? (th rp 1) = false := frozen_obj un 1
  have m2 : u.cell? (th rp 2) = some (nilS) := cell_obj un 2
  have n2 : u.frozen? (th rp 2) = false := frozen_obj un 2
  have m3 : u.cell? (th rp 3) = some (nilS) := cell_obj un 3
  have n3 : u.frozen? (th rp 3) = false := frozen_obj un 3
  have m4 : u.cell? (th rp 4) = some (nilS) := cell_obj un 4
  have n4 : u.frozen? (th rp 4) = false := frozen_obj un 4
  have m5 : u.cell? (th rp 5) = some (nilS) := cell_obj un 5
  have n5 : u.frozen? (th rp 5) = false := frozen_obj un 5
  have m6 : u.cell? (th rp 6) = some (nilS) := cell_obj un 6
  have n6 : u.frozen? (th rp 6) = false := frozen_obj un 6
  refine jgo rfl rfl (by rfl) (by decide) (fun K E hK hE τ d => ?_)
  have m0' := (under_cell u τ d _).trans m0
  have n0' := (under_frozen u τ d _).trans n0
  have m1' := (under_cell u τ d _).trans m1
  have n1' := (under_frozen u τ d _).trans n1
  have m2' := (under_cell u τ d _).trans m2
  have n2' := (under_frozen u τ d _).trans n2
  have m3' := (under_cell u τ d _).trans m3
  have n3' := (under_frozen u τ d _).trans n3
  have m4' := (under_cell u τ d _).trans m4
  have n4' := (under_frozen u τ d _).trans n4
  have m5' := (under_cell u τ d _).trans m5
  have n5' := (under_frozen u τ d _).trans n5
  have m6' := (under_cell u τ d _).trans m6
  have n6' := (under_frozen u τ d _).trans n6
  go_simp
  refine hK _ _ ?_
  rw [under_setCell, under_setCell, under_setCell, under_setCell, under_setCell, under_setCell, under_setCell]
  refine JG.tap ?_
  clear m0 n0 m0' n0' m1 n1 m1' n1' m2 n2 m2' n2' m3 n3 m3' n3' m4 n4 m4' n4' m5 n5 m5' n5' m6 n6 m6' n6' hK hE K E τ d
  obtain ⟨v, hv⟩ : ∃ v, v = ((((((u.setCell (th rp 0) (.int .i8 1)).setCell (th rp 1) (.int .i64 0)).setCell (th rp 2) nilS).setCell (th rp 3) nilS).setCell (th rp 4) nilS).setCell (th rp 5) nilS).setCell (th rp 6) nilS := ⟨_, rfl⟩
  rw [← hv]
  try walk_nrm
  have hsv : v.heap.size = u.heap.size := by rw [hv, size_set, size_set, size_set, size_set, size_set, size_set, size_set]
  have hvo : ∀ r, r ≠ rp → v.heap[r]? = u.heap[r]? := fun r h => by
    rw [hv, heap_set_ne h, heap_set_ne h, heap_set_ne h, heap_set_ne h, heap_set_ne h, heap_set_ne h, heap_set_ne h]
  have hvn : v.heap[rp]? = some (.cells #[.int .i8 1, .int .i64 0, nilS, nilS, nilS, nilS, nilS] 43 (0, 0)) := by
    rw [hv]
    exact heap_set_self (heap_set_self (heap_set_self (heap_set_self (heap_set_self (heap_set_self (heap_set_self un))))))
  clear hv
  have e3 := hB.size2
  repeat first | refine JG.seq ?_ | refine JG.skip ?_ | refine JG.inBlock ?_ | refine JG.block ?_ | refine JG.done ?_ | refine JG.label ?_ | refine JG.condT rfl ?_ | refine JG.condF rfl ?_ | (refine JG.region ?_; simp only [List.size_toArray, List.length_cons, List.length_nil, Nat.reduceAdd, Nat.zero_add, List.range, List.range.loop]) | (refine JG.unwanted rfl (by rfl) ?_; try walk_nrm) | (refine jgo rfl rfl (by rfl) (by decide) (fun K E hK hE τ d => ?_); go_simp; refine hK _ _ (JG.tap ?_); clear hK hE K E τ d; try walk_nrm) | (refine jgo rfl rfl (by rfl) (by decide) (fun K E hK hE τ d => ?_); have hfact := (under_cell _ τ d _).trans (yp); go_simp; refine hK _ _ (JG.tap ?_); clear hfact hK hE K E τ d; try walk_nrm)
  refine JG.ret ?_
  refine JG.leave rfl rfl Try.func18 (fun τ d => results_cell_row (p := 6) rfl _ _ rp _ _ _ _ rfl hvn Try.underlying43 rfl (by kernel_rfl)) (hend Ch' z0 z1 v hCh (fun r h => ?_) (by omega) hR (fun r h => ?_) (by omega))
  · rw [hB.old r (by omega) (by omega) (by simp [Value.ownBlock]) (by simp [Value.ownBlock]), yo r (by omega), wo r h]
  · rw [hvo r (by omega), ho r (by omega) (by omega), hB.same r (by omega) (by omega)]
end Go.Proofs.Ytecmobjiepgfjaa
