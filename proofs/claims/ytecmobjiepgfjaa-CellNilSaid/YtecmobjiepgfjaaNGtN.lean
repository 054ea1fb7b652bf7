/- Joined of the texts GtM, GtN; what each proves, and its conditions, stand ahead of it. -/
import Derived.Test.YtecmobjiepgfjaaNGtL
/- A free cell: wakes, and what it does without a gate. -/
namespace Go.Proofs.Ytecmobjiepgfjaa
open Go.Conc Go.RowKit
open Go.ConcN (upd upd_same upd_ne)
set_option linter.unusedSimpArgs false
set_option linter.unusedVariables false
set_option maxRecDepth 100000
theorem frozen_set (x : World) (a b : Addr) (v : Value) : (x.setCell a v).frozen? b = x.frozen? b := by
  unfold World.frozen?
  rw [heap_setCell]
  by_cases hb : b.block = a.block
  · cases h : x.heap[b.block]? with
    | none => rfl
    | some o => rw [Option.map_some, if_pos hb]; cases o <;> rfl
  · simp only [hb, if_false]
    cases h : x.heap[b.block]? <;> rfl
set_option maxHeartbeats 4000000 in
theorem wakes_J {Post : Value → World → Prop} {C : Ctx} {x : World} {c : Frame} {cs : List Frame} {b : Nat} (h0 : x.cell? (th b 2) = some (.int .i32 0)) (f0 : x.frozen? (th b 2) = false) (h4 : x.cell? (th b 4) = some (.chan none))
    (h : JG Try.prog Post C (G (c.finish (.tuple #[])) cs) x) : JG Try.prog Post C (G (Frame.enter Try.prog 125 #[P0 b] .normal) (c :: cs)) x := by
  refine enterN Try.func125 (by rfl) (by rfl) ?_
  simp only [Try.f125, Option.getD_some]
  walk_nrm
  repeat first | refine JG.seq ?_ | refine JG.skip ?_ | refine JG.inBlock ?_ | refine JG.block ?_ | refine JG.done ?_ | refine JG.label ?_ | refine JG.condT rfl ?_ | refine JG.condF rfl ?_ | (refine JG.region ?_; simp only [List.size_toArray, List.length_cons, List.length_nil, Nat.reduceAdd, Nat.zero_add, List.range, List.range.loop]) | (refine JG.unwanted rfl (by rfl) ?_; try walk_nrm) | (refine jgo rfl rfl (by rfl) (by decide) (fun K E hK hE τ d => ?_); go_simp; refine hK _ _ (JG.tap ?_); clear hK hE K E τ d; try walk_nrm) | (refine jgo rfl rfl (by rfl) (by decide) (fun K E hK hE τ d => ?_); have hfact := (under_cell _ τ d _).trans (h4); go_simp; refine hK _ _ (JG.tap ?_); clear hfact hK hE K E τ d; try walk_nrm)
  refine JG.call (f := 147) (args := #[.pointer (some ⟨b, 2, none⟩)]) rfl (by rfl) (by decide) (fun w => ?_) (fun w => ?_) ?_
  iterate 2 (focus obtain ⟨fn, h1, h2, h3⟩ : HasBody 147 := ⟨_, Try.func147, by kernel_rfl, by kernel_rfl⟩; have h4 : ¬ fn.name = "runtime.NumGoroutine" := (by simpa using h2); have h5 : ¬ fn.body = none := (by intro e; rw [e] at h3; cases h3); simp [go_sem, execOp, Act.eval, resolve, Deferred.ofValue, invoke, callFunc, h1, h4, h5])
  refine lock_J h0 f0 ?_
  rw [Frame.finish_at]
  walk_nrm
  have k4 := cell_setCell_ne (v := .int .i32 1) (show (th b 4) ≠ (th b 2) by simp [th]) h4
  repeat first | refine JG.seq ?_ | refine JG.skip ?_ | refine JG.inBlock ?_ | refine JG.block ?_ | refine JG.done ?_ | refine JG.label ?_ | refine JG.condT rfl ?_ | refine JG.condF rfl ?_ | (refine JG.region ?_; simp only [List.size_toArray, List.length_cons, List.length_nil, Nat.reduceAdd, Nat.zero_add, List.range, List.range.loop]) | (refine JG.unwanted rfl (by rfl) ?_; try walk_nrm) | (refine jgo rfl rfl (by rfl) (by decide) (fun K E hK hE τ d => ?_); go_simp; refine hK _ _ (JG.tap ?_); clear hK hE K E τ d; try walk_nrm) | (refine jgo rfl rfl (by rfl) (by decide) (fun K E hK hE τ d => ?_); have hfact := (under_cell _ τ d _).trans (k4); go_simp; refine hK _ _ (JG.tap ?_); clear hfact hK hE K E τ d; try walk_nrm)
  refine JG.defer (d := { target := .fn (.func 148) #[], args := #[.pointer (some ⟨b, 2, none⟩)] }) rfl (by rfl) (by decide) (fun w => by simp [go_sem, execOp, Act.eval, resolve, Deferred.ofValue]) (fun w => by simp [go_sem, execOp, Act.eval, resolve, Deferred.ofValue]) ?_
  try walk_nrm
  repeat first | refine JG.seq ?_ | refine JG.skip ?_ | refine JG.inBlock ?_ | refine JG.block ?_ | refine JG.done ?_ | refine JG.label ?_ | refine JG.condT rfl ?_ | refine JG.condF rfl ?_ | (refine JG.region ?_; simp only [List.size_toArray, List.length_cons, List.length_nil, Nat.reduceAdd, Nat.zero_add, List.range, List.range.loop]) | (refine JG.unwanted rfl (by rfl) ?_; try walk_nrm) | (refine jgo rfl rfl (by rfl) (by decide) (fun K E hK hE τ d => ?_); go_simp; refine hK _ _ (JG.tap ?_); clear hK hE K E τ d; try walk_nrm) | (refine jgo rfl rfl (by rfl) (by decide) (fun K E hK hE τ d => ?_); have hfact := (under_cell _ τ d _).trans (k4); go_simp; refine hK _ _ (JG.tap ?_); clear hfact hK hE K E τ d; try walk_nrm)
  refine JG.fin ?_
  refine JG.unwind (m := .returning) (by simp) rfl rfl Try.func148 (by rfl) (by rfl) ?_
  refine unlockD_J (World.cell?_setCell_same (w := x) (a := th b 2) (v := .int .i32 1) h0) (by rw [frozen_set]; exact f0) ?_
  rw [set_twice h0]
  exact JG.leave0 rfl rfl Try.func125 (by rfl) h
end Go.Proofs.Ytecmobjiepgfjaa
/- A free cell: what the atomic number's methods do, and the cell's. -/
namespace Go.Proofs.Ytecmobjiepgfjaa
open Go.Conc Go.RowKit
open Go.ConcN (upd upd_same upd_ne)
set_option linter.unusedSimpArgs false
set_option linter.unusedVariables false
set_option maxRecDepth 100000
theorem r_load64 {w : World} {ad : Addr} {v : Int} (hc : w.cell? ad = some (.int .i64 v)) : (callFunc 139 #[.pointer (some ad)]).run Try.prog w = .ok (.value (.int .i64 v)) w := by
  rw [run_callFunc_extern Try.func139 (by kernel_rfl) (by kernel_rfl) (by rfl) (by rfl : _ = some (Extern.Atomic.loadT (.int .i64)))]
  show (Sem.run Try.prog (do let a ← asAddr (.pointer (some ad)); Extern.Atomic.read (.int .i64) a) w).andThen _ = _
  simp [Extern.Atomic.read, asAddr, hc, Result.andThen]
theorem r_store64 {w : World} {ad : Addr} {v u : Int} (hc : w.cell? ad = some (.int .i64 v)) (hz : w.frozen? ad = false) : (callFunc 129 #[.pointer (some ad), .int .i64 u]).run Try.prog w = .ok (.value (.tuple #[])) (w.setCell ad (.int .i64 u)) := by
  rw [run_callFunc_extern Try.func129 (by kernel_rfl) (by kernel_rfl) (by rfl) (by rfl : _ = some Extern.Atomic.storeT)]
  show (Sem.run Try.prog (do let a ← asAddr (.pointer (some ad)); store a (.int .i64 u) .atomic; pure Extern.Atomic.none_) w).andThen _ = _
  simp [asAddr, hc, hz, run_store Try.prog w ad (.int .i64 u) .atomic rfl, Result.andThen, Extern.Atomic.none_]
theorem r_add64 {w : World} {ad : Addr} {v n : Int} (hc : w.cell? ad = some (.int .i64 v)) (hz : w.frozen? ad = false) : (callFunc 146 #[.pointer (some ad), .int .i64 n]).run Try.prog w = .ok (.value (.int .i64 (IntKind.i64.wrap (v + n)))) (w.setCell ad (.int .i64 (IntKind.i64.wrap (v + n)))) := by
  rw [run_callFunc_extern Try.func146 (by kernel_rfl) (by kernel_rfl) (by rfl) (by rfl : _ = some (Extern.Atomic.update (Op.intArith .add) .i64 true)), run_add_entry hc hz]; rfl
theorem r_cas64 {w : World} {ad : Addr} {v old n : Int} (hc : w.cell? ad = some (.int .i64 v)) (hz : w.frozen? ad = false) : (callFunc 149 #[.pointer (some ad), .int .i64 old, .int .i64 n]).run Try.prog w = .ok (.value (.bool (decide (v = old)))) (if v = old then w.setCell ad (.int .i64 n) else w) := by
  rw [run_callFunc_extern Try.func149 (by kernel_rfl) (by kernel_rfl) (by rfl) (by rfl : _ = some (Extern.Atomic.casT (.int .i64))), casT_eq]
  by_cases h : v = old
  · subst h; rw [run_cas_hit_entry hc hz]; simp [Result.andThen]
  · rw [run_cas_miss_entry hc hz h]; simp [Result.andThen, h]
section
variable {Post : Value → World → Prop} {C : Ctx} {x : World} {c : Frame} {cs : List Frame} {b : Nat} {v : Int}
set_option maxHeartbeats 4000000 in
theorem iload_J (h0 : x.cell? (th b 0) = some (.int .i64 v)) (h : JG Try.prog Post C (G (c.finish (.int .i64 v)) cs) x) : JG Try.prog Post C (G (Frame.enter Try.prog 102 #[P0 b] .normal) (c :: cs)) x := by
  refine enterN Try.func102 (by rfl) (by rfl) ?_
  simp only [Try.f102, Option.getD_some]
  walk_nrm
  refine JG.code (closedG _) (by kernel_rfl) rfl (.inr (by kernel_rfl)) rfl (fun K R hK hR τ => ?_)
  replace hK := Lib.hid hK
  replace hR := Lib.hid hR
  have k0 : (under x τ 0).cell? (th b 0) = some (.int .i64 v) := h0
  have hr := r_load64 k0
  go_wp2
  refine ⟨rfl, ?_⟩
  refine hR.out _ _ (fun todo => JG.tap (x := x) (τ := τ) (d := 0) ?_)
  exact JG.leave rfl rfl Try.func102 (fun τ d => results_tmp (t := 2) rfl _ _ _) h
set_option maxHeartbeats 4000000 in
theorem istore_J {u : Int} (h0 : x.cell? (th b 0) = some (.int .i64 v)) (f0 : x.frozen? (th b 0) = false) (h : JG Try.prog Post C (G (c.finish (.tuple #[])) cs) (x.setCell (th b 0) (.int .i64 u))) : JG Try.prog Post C (G (Frame.enter Try.prog 80 #[P0 b, .int .i64 u] .normal) (c :: cs)) x := by
  refine enterN Try.func80 (by rfl) (by rfl) ?_
  simp only [Try.f80, Option.getD_some]
  walk_nrm
  refine JG.code (closedG _) (by kernel_rfl) rfl (.inr (by kernel_rfl)) rfl (fun K R hK hR τ => ?_)
  replace hK := Lib.hid hK
  replace hR := Lib.hid hR
  have k0 : (under x τ 0).cell? (th b 0) = some (.int .i64 v) := h0
  have z0 : (under x τ 0).frozen? (th b 0) = false := f0
  have hr := r_store64 (u := u) k0 z0
  go_wp2
  refine hK.out _ _ ?_
  rw [under_setCell]
  refine JG.tap (JG.fin ?_)
  exact JG.leave0 rfl rfl Try.func80 (by rfl) h
set_option maxHeartbeats 4000000 in
theorem icas_J {u o : Int} (h0 : x.cell? (th b 0) = some (.int .i64 v)) (f0 : x.frozen? (th b 0) = false) (h : JG Try.prog Post C (G (c.finish (.bool (decide (v = o)))) cs) (if v = o then x.setCell (th b 0) (.int .i64 u) else x)) : JG Try.prog Post C (G (Frame.enter Try.prog 126 #[P0 b, .int .i64 o, .int .i64 u] .normal) (c :: cs)) x := by
  refine enterN Try.func126 (by rfl) (by rfl) ?_
  simp only [Try.f126, Option.getD_some]
  walk_nrm
  refine JG.code (closedG _) (by kernel_rfl) rfl (.inr (by kernel_rfl)) rfl (fun K R hK hR τ => ?_)
  replace hK := Lib.hid hK
  replace hR := Lib.hid hR
  have k0 : (under x τ 0).cell? (th b 0) = some (.int .i64 v) := h0
  have z0 : (under x τ 0).frozen? (th b 0) = false := f0
  have hr := r_cas64 (old := o) (n := u) k0 z0
  by_cases e : v = o
  · rw [if_pos e] at hr h
    rw [decide_eq_true e] at hr h
    clear k0 z0
    replace e := Lib.hid e
    go_wp2
    refine ⟨rfl, ?_⟩
    refine hR.out _ _ (fun todo => ?_)
    rw [under_setCell]
    refine JG.tap ?_
    exact JG.leave rfl rfl Try.func126 (fun τ d => results_tmp (t := 6) rfl _ _ _) h
  · rw [if_neg e] at hr h
    rw [decide_eq_false e] at hr h
    clear k0 z0
    replace e := Lib.hid e
    go_wp2
    refine ⟨rfl, ?_⟩
    refine hR.out _ _ (fun todo => JG.tap (x := x) (τ := τ) (d := 0) ?_)
    exact JG.leave rfl rfl Try.func126 (fun τ d => results_tmp (t := 6) rfl _ _ _) h
set_option maxHeartbeats 4000000 in
theorem iadd_J {u : Int} (h0 : x.cell? (th b 0) = some (.int .i64 v)) (f0 : x.frozen? (th b 0) = false) (h : JG Try.prog Post C (G (c.finish (.int .i64 (wrap64 (v + u)))) cs) (x.setCell (th b 0) (.int .i64 (wrap64 (v + u))))) : JG Try.prog Post C (G (Frame.enter Try.prog 124 #[P0 b, .int .i64 u] .normal) (c :: cs)) x := by
  refine enterN Try.func124 (by rfl) (by rfl) ?_
  simp only [Try.f124, Option.getD_some]
  walk_nrm
  refine JG.code (closedG _) (by kernel_rfl) rfl (.inr (by kernel_rfl)) rfl (fun K R hK hR τ => ?_)
  replace hK := Lib.hid hK
  replace hR := Lib.hid hR
  have k0 : (under x τ 0).cell? (th b 0) = some (.int .i64 v) := h0
  have z0 : (under x τ 0).frozen? (th b 0) = false := f0
  have hr := r_add64 (n := u) k0 z0
  go_wp2
  refine ⟨rfl, ?_⟩
  refine hR.out _ _ (fun todo => ?_)
  rw [under_setCell]
  refine JG.tap ?_
  exact JG.leave rfl rfl Try.func124 (fun τ d => results_tmp (t := 4) rfl _ _ _) h
theorem none_J {k : Bool} (h1 : x.cell? (th b 1) = some (.bool k)) (h : JG Try.prog Post C (G (c.finish (.bool (!k))) cs) x) : JG Try.prog Post C (G (Frame.enter Try.prog 99 #[P0 b] .normal) (c :: cs)) x := by
  refine enterN Try.func99 (by rfl) (by rfl) ?_
  simp only [Try.f99, Option.getD_some]
  walk_nrm
  repeat first | refine JG.seq ?_ | refine JG.skip ?_ | refine JG.inBlock ?_ | refine JG.block ?_ | refine JG.done ?_ | refine JG.label ?_ | refine JG.condT rfl ?_ | refine JG.condF rfl ?_ | (refine JG.region ?_; simp only [List.size_toArray, List.length_cons, List.length_nil, Nat.reduceAdd, Nat.zero_add, List.range, List.range.loop]) | (refine JG.unwanted rfl (by rfl) ?_; try walk_nrm) | (refine jgo rfl rfl (by rfl) (by decide) (fun K E hK hE τ d => ?_); go_simp; refine hK _ _ (JG.tap ?_); clear hK hE K E τ d; try walk_nrm) | (refine jgo rfl rfl (by rfl) (by decide) (fun K E hK hE τ d => ?_); have hfact := (under_cell _ τ d _).trans (h1); go_simp; refine hK _ _ (JG.tap ?_); clear hfact hK hE K E τ d; try walk_nrm)
  refine JG.ret ?_
  exact JG.leave rfl rfl Try.func99 (fun τ d => results_tmp (t := 2) rfl _ _ _) h
theorem live0_J (h : JG Try.prog Post C (G (c.finish (.bool false)) cs) x) : JG Try.prog Post C (G (Frame.enter Try.prog 100 #[.pointer none] .normal) (c :: cs)) x := by
  refine enterN Try.func100 (by rfl) (by rfl) ?_
  simp only [Try.f100, Option.getD_some]
  walk_nrm
  repeat first | refine JG.seq ?_ | refine JG.skip ?_ | refine JG.inBlock ?_ | refine JG.block ?_ | refine JG.done ?_ | refine JG.label ?_ | refine JG.condT rfl ?_ | refine JG.condF rfl ?_ | (refine JG.region ?_; simp only [List.size_toArray, List.length_cons, List.length_nil, Nat.reduceAdd, Nat.zero_add, List.range, List.range.loop]) | (refine JG.unwanted rfl (by rfl) ?_; try walk_nrm) | (refine jgo rfl rfl (by rfl) (by decide) (fun K E hK hE τ d => ?_); go_simp; refine hK _ _ (JG.tap ?_); clear hK hE K E τ d; try walk_nrm) | (refine jgo rfl rfl (by rfl) (by decide) (fun K E hK hE τ d => ?_); have hfact := (under_cell _ τ d _).trans (h); go_simp; refine hK _ _ (JG.tap ?_); clear hfact hK hE K E τ d; try walk_nrm)
  refine JG.ret ?_
  exact JG.leave rfl rfl Try.func100 (fun τ d => results_tmp (t := 2) rfl _ _ _) h
end
end Go.Proofs.Ytecmobjiepgfjaa
