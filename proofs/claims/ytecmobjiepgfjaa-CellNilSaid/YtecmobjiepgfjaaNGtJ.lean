/- Joined of the texts GtH, GtI, GtJ; what each proves, and its conditions, stand ahead of it. -/
import Derived.Test.YtecmobjiepgfjaaNGtG
import Derived.Laws.Rows
/- A run is told, where the one thread there is has ended. -/
namespace Go.Proofs.Ytecmobjiepgfjaa
open Go.Conc Go.RowKit
open Go.ConcN (upd upd_same upd_ne)
set_option linter.unusedSimpArgs false
set_option linter.unusedVariables false
set_option maxRecDepth 100000
set_option maxHeartbeats 4000000 in
theorem ends1 {Post : Value → World → Prop} {C : Ctx} {x : World} {c : Frame} {cs : List Frame} {rb tb g cap : Nat} (h0 : x.cell? (th rb 0) = some (.slice (some ⟨g, 0, none⟩) 1 cap)) (hg : x.cell? (th g 0) = some (P0 tb)) (h13 : x.cell? (th tb 13) = some (.bool true))
    (h6 : x.cell? (th rb 6) = some (.bool false)) (f6 : x.frozen? (th rb 6) = false) (b1 : rb ≠ g) (b2 : rb ≠ tb)
    (h : JG Try.prog Post C (G (c.finish (.slice none 0 0)) cs) (x.setCell (th rb 6) (.bool true))) : JG Try.prog Post C (G (Frame.enter Try.prog 133 #[P0 rb] .normal) (c :: cs)) x := by
  refine enterN Try.func133 (by rfl) (by rfl) ?_
  simp only [Try.f133, Option.getD_some]
  walk_nrm
  repeat first | refine JG.seq ?_ | refine JG.skip ?_ | refine JG.inBlock ?_ | refine JG.block ?_ | refine JG.done ?_ | refine JG.label ?_ | refine JG.condT rfl ?_ | refine JG.condF rfl ?_ | (refine JG.region ?_; simp only [List.size_toArray, List.length_cons, List.length_nil, Nat.reduceAdd, Nat.zero_add, List.range, List.range.loop]) | (refine JG.unwanted rfl (by rfl) ?_; try walk_nrm) | (refine jgo rfl rfl (by rfl) (by decide) (fun K E hK hE τ d => ?_); go_simp; refine hK _ _ (JG.tap ?_); clear hK hE K E τ d; try walk_nrm) | (refine jgo rfl rfl (by rfl) (by decide) (fun K E hK hE τ d => ?_); have hfact := (under_cell _ τ d _).trans (h0); go_simp; refine hK _ _ (JG.tap ?_); clear hfact hK hE K E τ d; try walk_nrm) | (refine jgo rfl rfl (by rfl) (by decide) (fun K E hK hE τ d => ?_); have hfact := (under_cell _ τ d _).trans (hg); go_simp; refine hK _ _ (JG.tap ?_); clear hfact hK hE K E τ d; try walk_nrm) | (refine jgo rfl rfl (by rfl) (by decide) (fun K E hK hE τ d => ?_); have hfact := (under_cell _ τ d _).trans (h13); go_simp; refine hK _ _ (JG.tap ?_); clear hfact hK hE K E τ d; try walk_nrm)
  refine JG.loop ?_
  repeat first | refine JG.seq ?_ | refine JG.skip ?_ | refine JG.inBlock ?_ | refine JG.block ?_ | refine JG.done ?_ | refine JG.label ?_ | refine JG.condT rfl ?_ | refine JG.condF rfl ?_ | (refine JG.region ?_; simp only [List.size_toArray, List.length_cons, List.length_nil, Nat.reduceAdd, Nat.zero_add, List.range, List.range.loop]) | (refine JG.unwanted rfl (by rfl) ?_; try walk_nrm) | (refine jgo rfl rfl (by rfl) (by decide) (fun K E hK hE τ d => ?_); go_simp; refine hK _ _ (JG.tap ?_); clear hK hE K E τ d; try walk_nrm) | (refine jgo rfl rfl (by rfl) (by decide) (fun K E hK hE τ d => ?_); have hfact := (under_cell _ τ d _).trans (h0); go_simp; refine hK _ _ (JG.tap ?_); clear hfact hK hE K E τ d; try walk_nrm) | (refine jgo rfl rfl (by rfl) (by decide) (fun K E hK hE τ d => ?_); have hfact := (under_cell _ τ d _).trans (hg); go_simp; refine hK _ _ (JG.tap ?_); clear hfact hK hE K E τ d; try walk_nrm) | (refine jgo rfl rfl (by rfl) (by decide) (fun K E hK hE τ d => ?_); have hfact := (under_cell _ τ d _).trans (h13); go_simp; refine hK _ _ (JG.tap ?_); clear hfact hK hE K E τ d; try walk_nrm)
  refine JG.exit (by rfl) ?_
  repeat first | refine JG.seq ?_ | refine JG.skip ?_ | refine JG.inBlock ?_ | refine JG.block ?_ | refine JG.done ?_ | refine JG.label ?_ | refine JG.condT rfl ?_ | refine JG.condF rfl ?_ | (refine JG.region ?_; simp only [List.size_toArray, List.length_cons, List.length_nil, Nat.reduceAdd, Nat.zero_add, List.range, List.range.loop]) | (refine JG.unwanted rfl (by rfl) ?_; try walk_nrm) | (refine jgo rfl rfl (by rfl) (by decide) (fun K E hK hE τ d => ?_); go_simp; refine hK _ _ (JG.tap ?_); clear hK hE K E τ d; try walk_nrm) | (refine jgo rfl rfl (by rfl) (by decide) (fun K E hK hE τ d => ?_); have hfact := (under_cell _ τ d _).trans (h0); go_simp; refine hK _ _ (JG.tap ?_); clear hfact hK hE K E τ d; try walk_nrm) | (refine jgo rfl rfl (by rfl) (by decide) (fun K E hK hE τ d => ?_); have hfact := (under_cell _ τ d _).trans (hg); go_simp; refine hK _ _ (JG.tap ?_); clear hfact hK hE K E τ d; try walk_nrm) | (refine jgo rfl rfl (by rfl) (by decide) (fun K E hK hE τ d => ?_); have hfact := (under_cell _ τ d _).trans (h13); go_simp; refine hK _ _ (JG.tap ?_); clear hfact hK hE K E τ d; try walk_nrm)
  refine JG.inLoop ?_
  repeat first | refine JG.seq ?_ | refine JG.skip ?_ | refine JG.inBlock ?_ | refine JG.block ?_ | refine JG.done ?_ | refine JG.label ?_ | refine JG.condT rfl ?_ | refine JG.condF rfl ?_ | (refine JG.region ?_; simp only [List.size_toArray, List.length_cons, List.length_nil, Nat.reduceAdd, Nat.zero_add, List.range, List.range.loop]) | (refine JG.unwanted rfl (by rfl) ?_; try walk_nrm) | (refine jgo rfl rfl (by rfl) (by decide) (fun K E hK hE τ d => ?_); go_simp; refine hK _ _ (JG.tap ?_); clear hK hE K E τ d; try walk_nrm) | (refine jgo rfl rfl (by rfl) (by decide) (fun K E hK hE τ d => ?_); have hfact := (under_cell _ τ d _).trans (h0); go_simp; refine hK _ _ (JG.tap ?_); clear hfact hK hE K E τ d; try walk_nrm) | (refine jgo rfl rfl (by rfl) (by decide) (fun K E hK hE τ d => ?_); have hfact := (under_cell _ τ d _).trans (hg); go_simp; refine hK _ _ (JG.tap ?_); clear hfact hK hE K E τ d; try walk_nrm) | (refine jgo rfl rfl (by rfl) (by decide) (fun K E hK hE τ d => ?_); have hfact := (under_cell _ τ d _).trans (h13); go_simp; refine hK _ _ (JG.tap ?_); clear hfact hK hE K E τ d; try walk_nrm)
  refine JG.exit (by rfl) ?_
  repeat first | refine JG.seq ?_ | refine JG.skip ?_ | refine JG.inBlock ?_ | refine JG.block ?_ | refine JG.done ?_ | refine JG.label ?_ | refine JG.condT rfl ?_ | refine JG.condF rfl ?_ | (refine JG.region ?_; simp only [List.size_toArray, List.length_cons, List.length_nil, Nat.reduceAdd, Nat.zero_add, List.range, List.range.loop]) | (refine JG.unwanted rfl (by rfl) ?_; try walk_nrm) | (refine jgo rfl rfl (by rfl) (by decide) (fun K E hK hE τ d => ?_); go_simp; refine hK _ _ (JG.tap ?_); clear hK hE K E τ d; try walk_nrm) | (refine jgo rfl rfl (by rfl) (by decide) (fun K E hK hE τ d => ?_); have hfact := (under_cell _ τ d _).trans (h0); go_simp; refine hK _ _ (JG.tap ?_); clear hfact hK hE K E τ d; try walk_nrm) | (refine jgo rfl rfl (by rfl) (by decide) (fun K E hK hE τ d => ?_); have hfact := (under_cell _ τ d _).trans (hg); go_simp; refine hK _ _ (JG.tap ?_); clear hfact hK hE K E τ d; try walk_nrm) | (refine jgo rfl rfl (by rfl) (by decide) (fun K E hK hE τ d => ?_); have hfact := (under_cell _ τ d _).trans (h13); go_simp; refine hK _ _ (JG.tap ?_); clear hfact hK hE K E τ d; try walk_nrm)
  refine jgo rfl rfl (by rfl) (by decide) (fun K E hK hE τ d => ?_)
  obtain ⟨hfact, hfact2⟩ := And.intro h6 f6
  replace hfact := (under_cell _ τ d _).trans hfact
  replace hfact2 := (under_frozen _ τ d _).trans hfact2
  go_simp
  refine hK _ _ ?_
  rw [under_setCell]
  refine JG.tap ?_
  clear hfact hfact2 hK hE K E τ d
  try walk_nrm
  have k0 := cell_setCell_ne (v := .bool true) (show (th rb 0) ≠ (th rb 6) by simp [th]) h0
  have kg := cell_setCell_ne (v := .bool true) (show (th g 0) ≠ (th rb 6) by simp [th]) hg
  have k13 := cell_setCell_ne (v := .bool true) (show (th tb 13) ≠ (th rb 6) by simp [th]) h13
  repeat first | refine JG.seq ?_ | refine JG.skip ?_ | refine JG.inBlock ?_ | refine JG.block ?_ | refine JG.done ?_ | refine JG.label ?_ | refine JG.condT rfl ?_ | refine JG.condF rfl ?_ | (refine JG.region ?_; simp only [List.size_toArray, List.length_cons, List.length_nil, Nat.reduceAdd, Nat.zero_add, List.range, List.range.loop]) | (refine JG.unwanted rfl (by rfl) ?_; try walk_nrm) | (refine jgo rfl rfl (by rfl) (by decide) (fun K E hK hE τ d => ?_); go_simp; refine hK _ _ (JG.tap ?_); clear hK hE K E τ d; try walk_nrm) | (refine jgo rfl rfl (by rfl) (by decide) (fun K E hK hE τ d => ?_); have hfact := (under_cell _ τ d _).trans (k0); go_simp; refine hK _ _ (JG.tap ?_); clear hfact hK hE K E τ d; try walk_nrm) | (refine jgo rfl rfl (by rfl) (by decide) (fun K E hK hE τ d => ?_); have hfact := (under_cell _ τ d _).trans (kg); go_simp; refine hK _ _ (JG.tap ?_); clear hfact hK hE K E τ d; try walk_nrm) | (refine jgo rfl rfl (by rfl) (by decide) (fun K E hK hE τ d => ?_); have hfact := (under_cell _ τ d _).trans (k13); go_simp; refine hK _ _ (JG.tap ?_); clear hfact hK hE K E τ d; try walk_nrm)
  refine JG.loop ?_
  repeat first | refine JG.seq ?_ | refine JG.skip ?_ | refine JG.inBlock ?_ | refine JG.block ?_ | refine JG.done ?_ | refine JG.label ?_ | refine JG.condT rfl ?_ | refine JG.condF rfl ?_ | (refine JG.region ?_; simp only [List.size_toArray, List.length_cons, List.length_nil, Nat.reduceAdd, Nat.zero_add, List.range, List.range.loop]) | (refine JG.unwanted rfl (by rfl) ?_; try walk_nrm) | (refine jgo rfl rfl (by rfl) (by decide) (fun K E hK hE τ d => ?_); go_simp; refine hK _ _ (JG.tap ?_); clear hK hE K E τ d; try walk_nrm) | (refine jgo rfl rfl (by rfl) (by decide) (fun K E hK hE τ d => ?_); have hfact := (under_cell _ τ d _).trans (k0); go_simp; refine hK _ _ (JG.tap ?_); clear hfact hK hE K E τ d; try walk_nrm) | (refine jgo rfl rfl (by rfl) (by decide) (fun K E hK hE τ d => ?_); have hfact := (under_cell _ τ d _).trans (kg); go_simp; refine hK _ _ (JG.tap ?_); clear hfact hK hE K E τ d; try walk_nrm) | (refine jgo rfl rfl (by rfl) (by decide) (fun K E hK hE τ d => ?_); have hfact := (under_cell _ τ d _).trans (k13); go_simp; refine hK _ _ (JG.tap ?_); clear hfact hK hE K E τ d; try walk_nrm)
  refine JG.inLoop ?_
  repeat first | refine JG.seq ?_ | refine JG.skip ?_ | refine JG.inBlock ?_ | refine JG.block ?_ | refine JG.done ?_ | refine JG.label ?_ | refine JG.condT rfl ?_ | refine JG.condF rfl ?_ | (refine JG.region ?_; simp only [List.size_toArray, List.length_cons, List.length_nil, Nat.reduceAdd, Nat.zero_add, List.range, List.range.loop]) | (refine JG.unwanted rfl (by rfl) ?_; try walk_nrm) | (refine jgo rfl rfl (by rfl) (by decide) (fun K E hK hE τ d => ?_); go_simp; refine hK _ _ (JG.tap ?_); clear hK hE K E τ d; try walk_nrm) | (refine jgo rfl rfl (by rfl) (by decide) (fun K E hK hE τ d => ?_); have hfact := (under_cell _ τ d _).trans (k0); go_simp; refine hK _ _ (JG.tap ?_); clear hfact hK hE K E τ d; try walk_nrm) | (refine jgo rfl rfl (by rfl) (by decide) (fun K E hK hE τ d => ?_); have hfact := (under_cell _ τ d _).trans (kg); go_simp; refine hK _ _ (JG.tap ?_); clear hfact hK hE K E τ d; try walk_nrm) | (refine jgo rfl rfl (by rfl) (by decide) (fun K E hK hE τ d => ?_); have hfact := (under_cell _ τ d _).trans (k13); go_simp; refine hK _ _ (JG.tap ?_); clear hfact hK hE K E τ d; try walk_nrm)
  refine JG.exit (by rfl) ?_
  repeat first | refine JG.seq ?_ | refine JG.skip ?_ | refine JG.inBlock ?_ | refine JG.block ?_ | refine JG.done ?_ | refine JG.label ?_ | refine JG.condT rfl ?_ | refine JG.condF rfl ?_ | (refine JG.region ?_; simp only [List.size_toArray, List.length_cons, List.length_nil, Nat.reduceAdd, Nat.zero_add, List.range, List.range.loop]) | (refine JG.unwanted rfl (by rfl) ?_; try walk_nrm) | (refine jgo rfl rfl (by rfl) (by decide) (fun K E hK hE τ d => ?_); go_simp; refine hK _ _ (JG.tap ?_); clear hK hE K E τ d; try walk_nrm) | (refine jgo rfl rfl (by rfl) (by decide) (fun K E hK hE τ d => ?_); have hfact := (under_cell _ τ d _).trans (k0); go_simp; refine hK _ _ (JG.tap ?_); clear hfact hK hE K E τ d; try walk_nrm) | (refine jgo rfl rfl (by rfl) (by decide) (fun K E hK hE τ d => ?_); have hfact := (under_cell _ τ d _).trans (kg); go_simp; refine hK _ _ (JG.tap ?_); clear hfact hK hE K E τ d; try walk_nrm) | (refine jgo rfl rfl (by rfl) (by decide) (fun K E hK hE τ d => ?_); have hfact := (under_cell _ τ d _).trans (k13); go_simp; refine hK _ _ (JG.tap ?_); clear hfact hK hE K E τ d; try walk_nrm)
  refine JG.ret ?_
  exact JG.leave rfl rfl Try.func133 (fun τ d => results_tmp (t := 2) rfl _ _ _) h
end Go.Proofs.Ytecmobjiepgfjaa
/- A run is told, where the one thread there is has ended: report. -/
namespace Go.Proofs.Ytecmobjiepgfjaa
open Go.Conc Go.RowKit
open Go.ConcN (upd upd_same upd_ne)
set_option linter.unusedSimpArgs false
set_option linter.unusedVariables false
set_option maxRecDepth 100000
theorem under_heap (x : World) (τ : Nat → Question → Nat) (d : Nat) : (under x τ d).heap = x.heap := rfl
theorem build_report (e n : Int) (a b c d f : Option Addr) (a1 a2 b1 b2 c1 c2 d1 d2 f1 f2 : Nat) (w : World) : (Instr.build 43 #[(0, .int .i8 e), (1, .int .i64 n), (2, .slice a a1 a2), (3, .slice b b1 b2), (4, .slice c c1 c2), (5, .slice d d1 d2), (6, .slice f f1 f2)]).run Try.prog w = .ok (.agg #[.int .i8 e, .int .i64 n, .slice a a1 a2, .slice b b1 b2, .slice c c1 c2, .slice d d1 d2, .slice f f1 f2]) w := run_build w _ _ _ (by kernel_rfl)
set_option maxHeartbeats 4000000 in
theorem report1 {Post : Value → World → Prop} {C : Ctx} {x : World} {c : Frame} {cs : List Frame} {rb tb g cap gf capf : Nat} {e : Int} {vM vL vW vR : Value} (ho : x.heap[rb]? = some (.cells (runObj (.slice (some ⟨g, 0, none⟩) 1 cap) vM (.slice none 0 0) (.slice none 0 0) (.slice none 0 0) (.slice (some ⟨gf, 0, none⟩) 1 capf) false) 179 (0, 0)))
    (hg : x.cell? (th g 0) = some (P0 tb)) (h13 : x.cell? (th tb 13) = some (.bool true)) (hf : x.cell? (th gf 0) = some (.bool false)) (b1 : rb ≠ g) (b2 : rb ≠ tb) (b3 : rb ≠ gf)
    (h : ∀ y, (∀ r, r < x.heap.size → r ≠ rb → y.heap[r]? = x.heap[r]?) → x.heap.size ≤ y.heap.size → JG Try.prog Post C (G (c.finish (.agg #[.int .i8 e, .int .i64 0, .slice none 0 0, .slice none 0 0, .slice none 0 0, .slice none 0 0, .slice none 0 0])) cs) y) :
    JG Try.prog Post C (G (Frame.enter Try.prog 84 #[P0 rb, .int .i8 e] .normal) (c :: cs)) x := by
  refine enterN Try.func84 (by rfl) (by rfl) ?_
  simp only [Try.f84, Option.getD_some]
  walk_nrm
  refine JG.seq ?_
  refine JG.code (closedG _) (by kernel_rfl) rfl (.inr (by kernel_rfl)) rfl (fun K R hK hR τ => ?_)
  replace hK := Lib.hid hK
  clear hR
  go_wp2
  refine hK.out _ _ (JG.tap (x := x.alloc (.cells #[.int .i8 0, .int .i64 0, .slice none 0 0, .slice none 0 0, .slice none 0 0, .slice none 0 0, .slice none 0 0] 43)) ?_)
  simp only [under_size]
  clear hK K R τ
  obtain ⟨w, hw⟩ : ∃ w, w = x.alloc (.cells #[.int .i8 0, .int .i64 0, .slice none 0 0, .slice none 0 0, .slice none 0 0, .slice none 0 0, .slice none 0 0] 43) := ⟨_, rfl⟩
  rw [← hw]
  have wold : ∀ r, r < x.heap.size → w.heap[r]? = x.heap[r]? := fun r h => by rw [hw, heap_alloc', Array.getElem?_push, if_neg (by omega)]
  have wnew : w.heap[x.heap.size]? = some (.cells #[.int .i8 0, .int .i64 0, .slice none 0 0, .slice none 0 0, .slice none 0 0, .slice none 0 0, .slice none 0 0] 43) := by rw [hw, heap_alloc', Array.getElem?_push, if_pos rfl]
  have wsz : w.heap.size = x.heap.size + 1 := by rw [hw]; simp
  have l1 : rb < x.heap.size := cell_lt (cell_obj ho 0)
  have wo := (wold rb l1).trans ho
  have wg : w.cell? (th g 0) = some (P0 tb) := by rw [hw]; exact cell_alloc_old hg
  have w13 : w.cell? (th tb 13) = some (.bool true) := by rw [hw]; exact cell_alloc_old h13
  have wf : w.cell? (th gf 0) = some (.bool false) := by rw [hw]; exact cell_alloc_old hf
  clear hw
  repeat first | refine JG.seq ?_ | refine JG.skip ?_ | refine JG.inBlock ?_ | refine JG.block ?_ | refine JG.done ?_ | refine JG.label ?_ | refine JG.condT rfl ?_ | refine JG.condF rfl ?_ | (refine JG.region ?_; simp only [List.size_toArray, List.length_cons, List.length_nil, Nat.reduceAdd, Nat.zero_add, List.range, List.range.loop]) | (refine JG.unwanted rfl (by rfl) ?_; try walk_nrm) | (refine jgo rfl rfl (by rfl) (by decide) (fun K E hK hE τ d => ?_); go_simp; refine hK _ _ (JG.tap ?_); clear hK hE K E τ d; try walk_nrm) | (refine jgo rfl rfl (by rfl) (by decide) (fun K E hK hE τ d => ?_); have hfact := (under_cell _ τ d _).trans (wg); go_simp; refine hK _ _ (JG.tap ?_); clear hfact hK hE K E τ d; try walk_nrm)
  refine JG.call (f := 133) (args := #[P0 rb]) rfl (by rfl) (by decide) (fun w => ?_) (fun w => ?_) ?_
  iterate 2 (focus obtain ⟨fn, h1, h2, h3⟩ : HasBody 133 := ⟨_, Try.func133, by kernel_rfl, by kernel_rfl⟩; have h4 : ¬ fn.name = "runtime.NumGoroutine" := (by simpa using h2); have h5 : ¬ fn.body = none := (by intro e; rw [e] at h3; cases h3); simp [go_sem, execOp, Act.eval, resolve, Deferred.ofValue, invoke, callFunc, h1, h4, h5])
  refine ends1 (cell_obj wo 0) wg w13 (cell_obj wo 6) (frozen_obj wo 6) b1 b2 ?_
  rw [Frame.finish_at]
  walk_nrm
  obtain ⟨y, hy⟩ : ∃ y, y = w.setCell (th rb 6) (.bool true) := ⟨_, rfl⟩
  rw [← hy]
  have yo : y.heap[rb]? = some (.cells (runObj (.slice (some ⟨g, 0, none⟩) 1 cap) vM (.slice none 0 0) (.slice none 0 0) (.slice none 0 0) (.slice (some ⟨gf, 0, none⟩) 1 capf) true) 179 (0, 0)) := by rw [hy, heap_set_self wo]; rfl
  have yf : y.cell? (th gf 0) = some (.bool false) := by rw [hy]; exact cell_setCell_ne (by simp [th]) wf
  have ynew := (heap_set_ne (w := w) (b := rb) (k := 6) (v := .bool true) (show x.heap.size ≠ rb by omega)).trans wnew
  rw [← hy] at ynew
  have yold : ∀ r, r < x.heap.size → r ≠ rb → y.heap[r]? = x.heap[r]? := fun r h h' => by rw [hy, heap_set_ne h']; exact wold r h
  have ysz : y.heap.size = x.heap.size + 1 := by rw [hy, size_set]; exact wsz
  clear hy
  have y5 := cell_obj yo 5
  change y.cell? (th rb 5) = some (.slice (some ⟨gf, 0, none⟩) 1 capf) at y5
  repeat first | refine JG.seq ?_ | refine JG.skip ?_ | refine JG.inBlock ?_ | refine JG.block ?_ | refine JG.done ?_ | refine JG.label ?_ | refine JG.condT rfl ?_ | refine JG.condF rfl ?_ | (refine JG.region ?_; simp only [List.size_toArray, List.length_cons, List.length_nil, Nat.reduceAdd, Nat.zero_add, List.range, List.range.loop]) | (refine JG.unwanted rfl (by rfl) ?_; try walk_nrm) | (refine jgo rfl rfl (by rfl) (by decide) (fun K E hK hE τ d => ?_); go_simp; refine hK _ _ (JG.tap ?_); clear hK hE K E τ d; try walk_nrm) | (refine jgo rfl rfl (by rfl) (by decide) (fun K E hK hE τ d => ?_); have hfact := (under_cell _ τ d _).trans (y5); go_simp; refine hK _ _ (JG.tap ?_); clear hfact hK hE K E τ d; try walk_nrm) | (refine jgo rfl rfl (by rfl) (by decide) (fun K E hK hE τ d => ?_); have hfact := (under_cell _ τ d _).trans (yf); go_simp; refine hK _ _ (JG.tap ?_); clear hfact hK hE K E τ d; try walk_nrm)
  refine JG.loop ?_
  repeat first | refine JG.seq ?_ | refine JG.skip ?_ | refine JG.inBlock ?_ | refine JG.block ?_ | refine JG.done ?_ | refine JG.label ?_ | refine JG.condT rfl ?_ | refine JG.condF rfl ?_ | (refine JG.region ?_; simp only [List.size_toArray, List.length_cons, List.length_nil, Nat.reduceAdd, Nat.zero_add, List.range, List.range.loop]) | (refine JG.unwanted rfl (by rfl) ?_; try walk_nrm) | (refine jgo rfl rfl (by rfl) (by decide) (fun K E hK hE τ d => ?_); go_simp; refine hK _ _ (JG.tap ?_); clear hK hE K E τ d; try walk_nrm) | (refine jgo rfl rfl (by rfl) (by decide) (fun K E hK hE τ d => ?_); have hfact := (under_cell _ τ d _).trans (y5); go_simp; refine hK _ _ (JG.tap ?_); clear hfact hK hE K E τ d; try walk_nrm) | (refine jgo rfl rfl (by rfl) (by decide) (fun K E hK hE τ d => ?_); have hfact := (under_cell _ τ d _).trans (yf); go_simp; refine hK _ _ (JG.tap ?_); clear hfact hK hE K E τ d; try walk_nrm)
  refine JG.inLoop ?_
  repeat first | refine JG.seq ?_ | refine JG.skip ?_ | refine JG.inBlock ?_ | refine JG.block ?_ | refine JG.done ?_ | refine JG.label ?_ | refine JG.condT rfl ?_ | refine JG.condF rfl ?_ | (refine JG.region ?_; simp only [List.size_toArray, List.length_cons, List.length_nil, Nat.reduceAdd, Nat.zero_add, List.range, List.range.loop]) | (refine JG.unwanted rfl (by rfl) ?_; try walk_nrm) | (refine jgo rfl rfl (by rfl) (by decide) (fun K E hK hE τ d => ?_); go_simp; refine hK _ _ (JG.tap ?_); clear hK hE K E τ d; try walk_nrm) | (refine jgo rfl rfl (by rfl) (by decide) (fun K E hK hE τ d => ?_); have hfact := (under_cell _ τ d _).trans (y5); go_simp; refine hK _ _ (JG.tap ?_); clear hfact hK hE K E τ d; try walk_nrm) | (refine jgo rfl rfl (by rfl) (by decide) (fun K E hK hE τ d => ?_); have hfact := (under_cell _ τ d _).trans (yf); go_simp; refine hK _ _ (JG.tap ?_); clear hfact hK hE K E τ d; try walk_nrm)
  refine JG.exit (by rfl) ?_
  repeat first | refine JG.seq ?_ | refine JG.skip ?_ | refine JG.inBlock ?_ | refine JG.block ?_ | refine JG.done ?_ | refine JG.label ?_ | refine JG.condT rfl ?_ | refine JG.condF rfl ?_ | (refine JG.region ?_; simp only [List.size_toArray, List.length_cons, List.length_nil, Nat.reduceAdd, Nat.zero_add, List.range, List.range.loop]) | (refine JG.unwanted rfl (by rfl) ?_; try walk_nrm) | (refine jgo rfl rfl (by rfl) (by decide) (fun K E hK hE τ d => ?_); go_simp; refine hK _ _ (JG.tap ?_); clear hK hE K E τ d; try walk_nrm) | (refine jgo rfl rfl (by rfl) (by decide) (fun K E hK hE τ d => ?_); have hfact := (under_cell _ τ d _).trans (y5); go_simp; refine hK _ _ (JG.tap ?_); clear hfact hK hE K E τ d; try walk_nrm) | (refine jgo rfl rfl (by rfl) (by decide) (fun K E hK hE τ d => ?_); have hfact := (under_cell _ τ d _).trans (yf); go_simp; refine hK _ _ (JG.tap ?_); clear hfact hK hE K E τ d; try walk_nrm)
  have y2 := cell_obj yo 2
  change y.cell? (th rb 2) = some (.slice none 0 0) at y2
  have y3 := cell_obj yo 3
  change y.cell? (th rb 3) = some (.slice none 0 0) at y3
  have y4 := cell_obj yo 4
  change y.cell? (th rb 4) = some (.slice none 0 0) at y4
  refine JG.code (closedG _) (by kernel_rfl) rfl (.inr (by kernel_rfl)) rfl (fun K R hK hR τ => ?_)
  replace hK := Lib.hid hK
  clear hR
  have z2 : (under y τ 0).cell? (th rb 2) = some (.slice none 0 0) := y2
  have z3 : (under y τ 0).cell? (th rb 3) = some (.slice none 0 0) := y3
  have z4 : (under y τ 0).cell? (th rb 4) = some (.slice none 0 0) := y4
  have hbr := build_report
  have m0 : (under y τ 0).cell? (th x.heap.size 0) = some (.int .i8 0) := cell_obj ynew 0
  have n0 : (under y τ 0).frozen? (th x.heap.size 0) = false := frozen_obj ynew 0
  have m1 : (under y τ 0).cell? (th x.heap.size 1) = some (.int .i64 0) := cell_obj ynew 1
  have n1 : (under y τ 0).frozen? (th x.heap.size 1) = false := frozen_obj ynew 1
  have m2 : (under y τ 0).cell? (th x.heap.size 2) = some (.slice none 0 0) := cell_obj ynew 2
  have n2 : (under y τ 0).frozen? (th x.heap.size 2) = false := frozen_obj ynew 2
  have m3 : (under y τ 0).cell? (th x.heap.size 3) = some (.slice none 0 0) := cell_obj ynew 3
  have n3 : (under y τ 0).frozen? (th x.heap.size 3) = false := frozen_obj ynew 3
  have m4 : (under y τ 0).cell? (th x.heap.size 4) = some (.slice none 0 0) := cell_obj ynew 4
  have n4 : (under y τ 0).frozen? (th x.heap.size 4) = false := frozen_obj ynew 4
  have m5 : (under y τ 0).cell? (th x.heap.size 5) = some (.slice none 0 0) := cell_obj ynew 5
  have n5 : (under y τ 0).frozen? (th x.heap.size 5) = false := frozen_obj ynew 5
  have m6 : (under y τ 0).cell? (th x.heap.size 6) = some (.slice none 0 0) := cell_obj ynew 6
  have n6 : (under y τ 0).frozen? (th x.heap.size 6) = false := frozen_obj ynew 6
  have hrb : rb < (under y τ 0).heap.size := cell_lt z2
  have zn := ynew
  rw [← under_heap y τ 0] at zn
  have zo : ∀ r, r < x.heap.size → r ≠ rb → (under y τ 0).heap[r]? = x.heap[r]? := yold
  have zs : (under y τ 0).heap.size = x.heap.size + 1 := ysz
  replace zo := Lib.hid zo
  replace zs := Lib.hid zs
  replace zn := Lib.hid zn
  obtain ⟨z, hz⟩ : ∃ z, z = under y τ 0 := ⟨_, rfl⟩
  rw [← hz] at zn zo zs z2 z3 z4 hrb m0 n0 m1 n1 m2 n2 m3 n3 m4 n4 m5 n5 m6 n6 ⊢
  clear hz y2 y3 y4 y5 yf
  go_region
  refine hK.out _ _ ?_
  clear hK K R
  obtain ⟨u, hu⟩ : ∃ u, u = (((((((z.setCell (th x.heap.size 0) (.int .i8 e)).setCell (th x.heap.size 1) (.int .i64 0)).setCell (th x.heap.size 2) (.slice none 0 0)).setCell (th x.heap.size 3) (.slice none 0 0)).setCell (th x.heap.size 4) (.slice none 0 0)).setCell (th x.heap.size 5) (.slice none 0 0)).setCell (th x.heap.size 6) (.slice none 0 0)).drew := ⟨_, rfl⟩
  rw [← hu]
  have uo : ∀ r, r < x.heap.size → r ≠ rb → u.heap[r]? = x.heap[r]? := fun r h1 h2 => by
    have hne : r ≠ x.heap.size := by omega
    rw [hu, heap_drew', heap_set_ne hne, heap_set_ne hne, heap_set_ne hne, heap_set_ne hne, heap_set_ne hne, heap_set_ne hne, heap_set_ne hne]; exact zo.out r h1 h2
  have us : x.heap.size ≤ u.heap.size := by rw [hu, heap_drew', size_set, size_set, size_set, size_set, size_set, size_set, size_set, zs.out]; omega
  have un : u.heap[x.heap.size]? = some (.cells #[.int .i8 e, .int .i64 0, .slice none 0 0, .slice none 0 0, .slice none 0 0, .slice none 0 0, .slice none 0 0] 43 (0, 0)) := by
    rw [hu, heap_drew']
    exact heap_set_self (heap_set_self (heap_set_self (heap_set_self (heap_set_self (heap_set_self (heap_set_self zn.out))))))
  clear hu
  repeat first | refine JG.seq ?_ | refine JG.skip ?_ | refine JG.inBlock ?_ | refine JG.block ?_ | refine JG.done ?_ | refine JG.label ?_ | refine JG.condT rfl ?_ | refine JG.condF rfl ?_ | (refine JG.region ?_; simp only [List.size_toArray, List.length_cons, List.length_nil, Nat.reduceAdd, Nat.zero_add, List.range, List.range.loop]) | (refine JG.unwanted rfl (by rfl) ?_; try walk_nrm) | (refine jgo rfl rfl (by rfl) (by decide) (fun K E hK hE τ d => ?_); go_simp; refine hK _ _ (JG.tap ?_); clear hK hE K E τ d; try walk_nrm) | (refine jgo rfl rfl (by rfl) (by decide) (fun K E hK hE τ d => ?_); have hfact := (under_cell _ τ d _).trans (un); go_simp; refine hK _ _ (JG.tap ?_); clear hfact hK hE K E τ d; try walk_nrm)
  refine JG.ret ?_
  refine JG.leave rfl rfl Try.func84 (fun τ d => results_cell_row (p := 4) rfl _ _ x.heap.size _ _ _ _ rfl un Try.underlying43 rfl (by kernel_rfl)) (h u uo us)
end Go.Proofs.Ytecmobjiepgfjaa
/- A run of one thread that makes no access, up to its end: until. -/
namespace Go.Proofs.Ytecmobjiepgfjaa
open Go.Conc Go.RowKit
open Go.ConcN (upd upd_same upd_ne)
set_option linter.unusedSimpArgs false
set_option linter.unusedVariables false
set_option maxRecDepth 100000
theorem own1 {w : World} {N : Nat} {e : TypeId} {v a : Value} (h : w.ownsRow N e 1 v 1 [a]) : ∃ g cap, v = .slice (some ⟨g, 0, none⟩) 1 cap ∧ w.cell? (th g 0) = some a ∧ N ≤ g := by
  rcases h.2 with ⟨_, hn⟩ | ⟨g, cap, cur, rfl, hb, hg, h1, _, hs, ht⟩
  · cases hn
  · refine ⟨g, cap, rfl, ?_, hb⟩
    rw [cell_obj hg, ← Array.getElem?_toList]
    cases hl : cur.toList with
    | nil => rw [hl] at ht; cases ht
    | cons b l => rw [hl] at ht; simp at ht; simp [ht]
theorem own_nil {w : World} {N : Nat} {e : TypeId} {size : Nat} : w.ownsRow N e size (.slice none 0 0) 0 [] := ⟨by simp, .inl ⟨rfl, rfl⟩⟩
abbrev nilS : Value := .slice none 0 0
set_option maxHeartbeats 4000000 in
theorem until1 {Post : Value → World → Prop} {C : Ctx} {x : World} {c : Frame} {cs : List Frame} {N rb fb bb bc : Nat} {most : Int} {cap : Array Value} {vf vM vS : Value} {R : World → World → Prop} {x0 : World}
    (hd : C.d = 0) (hh : C.h < C.n) (hlo : C.lo ≤ N) (hM : Mild1 Post N x0 fb cap R) (hag : ∀ r, r < N → x.heap[r]? = x0.heap[r]?) (hvf : vf = .func (.func fb) #[] cap)
    (hr : x.heap[rb]? = some (.cells (runObj nilS vM nilS nilS nilS nilS false) 179 (0, 0))) (hN : N ≤ rb) (hb : x.cell? (th bb 0) = some vf)
    (hlow : ∀ i s, i ≠ C.h → C.Ch i = some s → s.c < x.heap.size) (hnone : C.Ch C.n = none)
    (hend : ∀ Ch' z0 z1 z2 vT' vF' tb st wk, (∀ i, i ≠ C.h → Ch' i = C.Ch i) → R z0 z1 → BegunJ x z0 z1 z2 N rb nilS nilS vT' vF' vM nilS nilS nilS false [] [] tb st wk → JG Try.prog Post { Ch := Ch', h := C.h, d := 0, n := C.n + 1, lo := C.lo, io := C.io } (G (c.finish (.tuple #[.int .i8 1, .bool true])) cs) z2) :
    JG Try.prog Post C (G (Frame.enter Try.prog 82 #[P0 rb, .int .i64 most, .slice (some ⟨bb, 0, none⟩) 1 bc, vS] .normal) (c :: cs)) x := by
  refine enterN Try.func82 (by rfl) (by rfl) ?_
  simp only [Try.f82, Option.getD_some]
  replace hvf := Lib.hid hvf
  replace hag := Lib.hid hag
  walk_nrm
  repeat first | refine JG.seq ?_ | refine JG.skip ?_ | refine JG.inBlock ?_ | refine JG.block ?_ | refine JG.done ?_ | refine JG.label ?_ | refine JG.condT rfl ?_ | refine JG.condF rfl ?_ | (refine JG.region ?_; simp only [List.size_toArray, List.length_cons, List.length_nil, Nat.reduceAdd, Nat.zero_add, List.range, List.range.loop]) | (refine JG.unwanted rfl (by rfl) ?_; try walk_nrm) | (refine jgo rfl rfl (by rfl) (by decide) (fun K E hK hE τ d => ?_); go_simp; refine hK _ _ (JG.tap ?_); clear hK hE K E τ d; try walk_nrm) | (refine jgo rfl rfl (by rfl) (by decide) (fun K E hK hE τ d => ?_); have hfact := (under_cell _ τ d _).trans (hb); go_simp; refine hK _ _ (JG.tap ?_); clear hfact hK hE K E τ d; try walk_nrm)
  refine JG.loop ?_
  repeat first | refine JG.seq ?_ | refine JG.skip ?_ | refine JG.inBlock ?_ | refine JG.block ?_ | refine JG.done ?_ | refine JG.label ?_ | refine JG.condT rfl ?_ | refine JG.condF rfl ?_ | (refine JG.region ?_; simp only [List.size_toArray, List.length_cons, List.length_nil, Nat.reduceAdd, Nat.zero_add, List.range, List.range.loop]) | (refine JG.unwanted rfl (by rfl) ?_; try walk_nrm) | (refine jgo rfl rfl (by rfl) (by decide) (fun K E hK hE τ d => ?_); go_simp; refine hK _ _ (JG.tap ?_); clear hK hE K E τ d; try walk_nrm) | (refine jgo rfl rfl (by rfl) (by decide) (fun K E hK hE τ d => ?_); have hfact := (under_cell _ τ d _).trans (hb); go_simp; refine hK _ _ (JG.tap ?_); clear hfact hK hE K E τ d; try walk_nrm)
  refine JG.call (f := 130) (args := #[P0 rb, vf]) rfl (by rfl) (by decide) (fun w => ?_) (fun w => ?_) ?_
  iterate 2 (focus obtain ⟨fn, h1, h2, h3⟩ : HasBody 130 := ⟨_, Try.func130, by kernel_rfl, by kernel_rfl⟩; have h4 : ¬ fn.name = "runtime.NumGoroutine" := (by simpa using h2); have h5 : ¬ fn.body = none := (by intro e; rw [e] at h3; cases h3); simp [go_sem, execOp, Act.eval, resolve, Deferred.ofValue, invoke, callFunc, h1, h4, h5])
  refine begin_J (ths := []) (fls := []) hd hh hlo hM hag.out hvf.out hr own_nil own_nil hN (by simp [Value.ownBlock]) (by simp [Value.ownBlock]) (fun g e => by simp [Value.ownBlock] at e) (by decide) (by decide) hlow hnone fun Ch' z0 z1 z2 vT' vF' tb st wk hCh hR hB => ?_
  rw [Frame.finish_at]
  walk_nrm
  repeat first | refine JG.seq ?_ | refine JG.skip ?_ | refine JG.inBlock ?_ | refine JG.block ?_ | refine JG.done ?_ | refine JG.label ?_ | refine JG.condT rfl ?_ | refine JG.condF rfl ?_ | (refine JG.region ?_; simp only [List.size_toArray, List.length_cons, List.length_nil, Nat.reduceAdd, Nat.zero_add, List.range, List.range.loop]) | (refine JG.unwanted rfl (by rfl) ?_; try walk_nrm) | (refine jgo rfl rfl (by rfl) (by decide) (fun K E hK hE τ d => ?_); go_simp; refine hK _ _ (JG.tap ?_); clear hK hE K E τ d; try walk_nrm) | (refine jgo rfl rfl (by rfl) (by decide) (fun K E hK hE τ d => ?_); have hfact := (under_cell _ τ d _).trans (hb); go_simp; refine hK _ _ (JG.tap ?_); clear hfact hK hE K E τ d; try walk_nrm)
  refine JG.inLoop ?_
  repeat first | refine JG.seq ?_ | refine JG.skip ?_ | refine JG.inBlock ?_ | refine JG.block ?_ | refine JG.done ?_ | refine JG.label ?_ | refine JG.condT rfl ?_ | refine JG.condF rfl ?_ | (refine JG.region ?_; simp only [List.size_toArray, List.length_cons, List.length_nil, Nat.reduceAdd, Nat.zero_add, List.range, List.range.loop]) | (refine JG.unwanted rfl (by rfl) ?_; try walk_nrm) | (refine jgo rfl rfl (by rfl) (by decide) (fun K E hK hE τ d => ?_); go_simp; refine hK _ _ (JG.tap ?_); clear hK hE K E τ d; try walk_nrm) | (refine jgo rfl rfl (by rfl) (by decide) (fun K E hK hE τ d => ?_); have hfact := (under_cell _ τ d _).trans (hb); go_simp; refine hK _ _ (JG.tap ?_); clear hfact hK hE K E τ d; try walk_nrm)
  refine JG.exit (by rfl) ?_
  repeat first | refine JG.seq ?_ | refine JG.skip ?_ | refine JG.inBlock ?_ | refine JG.block ?_ | refine JG.done ?_ | refine JG.label ?_ | refine JG.condT rfl ?_ | refine JG.condF rfl ?_ | (refine JG.region ?_; simp only [List.size_toArray, List.length_cons, List.length_nil, Nat.reduceAdd, Nat.zero_add, List.range, List.range.loop]) | (refine JG.unwanted rfl (by rfl) ?_; try walk_nrm) | (refine jgo rfl rfl (by rfl) (by decide) (fun K E hK hE τ d => ?_); go_simp; refine hK _ _ (JG.tap ?_); clear hK hE K E τ d; try walk_nrm) | (refine jgo rfl rfl (by rfl) (by decide) (fun K E hK hE τ d => ?_); have hfact := (under_cell _ τ d _).trans (hb); go_simp; refine hK _ _ (JG.tap ?_); clear hfact hK hE K E τ d; try walk_nrm)
  refine JG.loop ?_
  repeat first | refine JG.seq ?_ | refine JG.skip ?_ | refine JG.inBlock ?_ | refine JG.block ?_ | refine JG.done ?_ | refine JG.label ?_ | refine JG.condT rfl ?_ | refine JG.condF rfl ?_ | (refine JG.region ?_; simp only [List.size_toArray, List.length_cons, List.length_nil, Nat.reduceAdd, Nat.zero_add, List.range, List.range.loop]) | (refine JG.unwanted rfl (by rfl) ?_; try walk_nrm) | (refine jgo rfl rfl (by rfl) (by decide) (fun K E hK hE τ d => ?_); go_simp; refine hK _ _ (JG.tap ?_); clear hK hE K E τ d; try walk_nrm) | (refine jgo rfl rfl (by rfl) (by decide) (fun K E hK hE τ d => ?_); have hfact := (under_cell _ τ d _).trans (hb); go_simp; refine hK _ _ (JG.tap ?_); clear hfact hK hE K E τ d; try walk_nrm)
  refine JG.call (f := 131) (args := #[P0 rb]) rfl (by rfl) (by decide) (fun w => ?_) (fun w => ?_) ?_
  iterate 2 (focus obtain ⟨fn, h1, h2, h3⟩ : HasBody 131 := ⟨_, Try.func131, by kernel_rfl, by kernel_rfl⟩; have h4 : ¬ fn.name = "runtime.NumGoroutine" := (by simpa using h2); have h5 : ¬ fn.body = none := (by intro e; rw [e] at h3; cases h3); simp [go_sem, execOp, Act.eval, resolve, Deferred.ofValue, invoke, callFunc, h1, h4, h5])
  obtain ⟨g, cap', e1, hg, _⟩ := own1 hB.rths
  refine able1 (g := g) (cap := cap') (tb := tb) (by rw [cell_obj hB.obj, ← e1]; rfl) hg (by rw [cell_obj hB.thr]; rfl) ?_
  rw [Frame.finish_at]
  walk_nrm
  repeat first | refine JG.seq ?_ | refine JG.skip ?_ | refine JG.inBlock ?_ | refine JG.block ?_ | refine JG.done ?_ | refine JG.label ?_ | refine JG.condT rfl ?_ | refine JG.condF rfl ?_ | (refine JG.region ?_; simp only [List.size_toArray, List.length_cons, List.length_nil, Nat.reduceAdd, Nat.zero_add, List.range, List.range.loop]) | (refine JG.unwanted rfl (by rfl) ?_; try walk_nrm) | (refine jgo rfl rfl (by rfl) (by decide) (fun K E hK hE τ d => ?_); go_simp; refine hK _ _ (JG.tap ?_); clear hK hE K E τ d; try walk_nrm) | (refine jgo rfl rfl (by rfl) (by decide) (fun K E hK hE τ d => ?_); have hfact := (under_cell _ τ d _).trans (hb); go_simp; refine hK _ _ (JG.tap ?_); clear hfact hK hE K E τ d; try walk_nrm)
  refine JG.ret ?_
  exact JG.leave rfl rfl Try.func82 (fun τ d => results_tmp2 (t := 8) (u := 9) rfl _ _ _) (hend Ch' z0 z1 z2 vT' vF' tb st wk hCh hR hB)
end Go.Proofs.Ytecmobjiepgfjaa
