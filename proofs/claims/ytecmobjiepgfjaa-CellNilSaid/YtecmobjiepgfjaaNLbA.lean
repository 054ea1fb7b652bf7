/- What the walks of several laws share: more mild functions; a free cell's Add and Swap under J, cell.New; worlds whose old blocks stand. -/
import Derived.Test.YtecmobjiepgfjaaNGtF
import Derived.Test.YtecmobjiepgfjaaNGtO
import Derived.Test.YtecmobjiepgfjaaNGtK
import Derived.Test.YtecmobjiepgfjaaNTkI
import Derived.Test.YtecmobjiepgfjaaNCell
namespace Go.Proofs.Ytecmobjiepgfjaa
open Go.Conc Go.RowKit
open Go.ConcN (upd upd_same upd_ne)
set_option linter.unusedSimpArgs false
set_option linter.unusedVariables false
set_option maxRecDepth 100000
noncomputable def textB (F : Fns) (f : FuncId) : Bool := match Try.prog.funcs[f]? with
  | some fn => !(fn.name == "runtime.NumGoroutine") && (match fn.body with | some c => okCode F c | none => false)
  | none => false
theorem textB_at {F : Fns} {f : FuncId} (h : textB F f = true) : TextAt F f := by
  unfold textB at h
  split at h
  · rename_i fn hfn
    simp only [Bool.and_eq_true, Bool.not_eq_true'] at h
    obtain ⟨h1, h2⟩ := h
    split at h2
    · rename_i c hc
      exact ⟨fn, c, hfn, h1, hc, h2⟩
    · cases h2
  · cases h
theorem ext_SwapX : ExtAt Try.prog 150 := ⟨Try.f150, Extern.Atomic.swapT (.int .i64), Try.func150, by rfl, by rfl, by kernel_rfl, by kernel_rfl, fun P S args => sq155⟩
noncomputable def FX (ms : List FuncId) : Fns := { fn := fun f => ms.contains f, maps := false, top := fun f => decide (f < Try.prog.funcs.size), ext := fun f => (150 :: exts).contains f }
theorem closedX {ms : List FuncId} (S : Prot) (h : (ms.all (textB (FX ms))) = true) : Closed Try.prog S (FX ms) where
  maps := fun h => by cases h
  text := fun f hf => textB_at (List.all_eq_true.1 h f (List.contains_iff_mem.1 hf))
  exts := fun f h => by
    have h := List.contains_iff_mem.1 h
    rcases List.mem_cons.1 h with rfl | h
    · exact ext_SwapX
    · exact exts_ok f (List.contains_iff_mem.2 h)
  tops := fun f h => by
    have h : f < Try.prog.funcs.size := by simpa [FX] using h
    exact ⟨_, Array.getElem?_eq_getElem h⟩
  early := early_ok
theorem r_swap64 {w : World} {ad : Addr} {v u : Int} (hc : w.cell? ad = some (.int .i64 v)) (hz : w.frozen? ad = false) : (callFunc 150 #[.pointer (some ad), .int .i64 u]).run Try.prog w = .ok (.value (.int .i64 v)) (w.setCell ad (.int .i64 u)) := by
  rw [run_callFunc_extern Try.func150 (by kernel_rfl) (by kernel_rfl) (by rfl) (by rfl : _ = some (Extern.Atomic.swapT (.int .i64)))]
  change (Sem.run Try.prog (do
    let a' ← asAddr (.pointer (some ad))
    let old ← Extern.Atomic.read (.int .i64) a'
    store a' (.int .i64 u) .atomic
    pure old) w).andThen _ = _
  simp [Extern.Atomic.read, asAddr, hc, hz, run_store Try.prog w ad (.int .i64 u) .atomic rfl, Result.andThen]
section
variable {Post : Value → World → Prop} {C : Ctx} {x : World} {c : Frame} {cs : List Frame} {b : Nat} {v : Int}
set_option maxHeartbeats 4000000 in
theorem iswap_J {u : Int} (h0 : x.cell? (th b 0) = some (.int .i64 v)) (f0 : x.frozen? (th b 0) = false) (h : JG Try.prog Post C (G (c.finish (.int .i64 v)) cs) (x.setCell (th b 0) (.int .i64 u))) : JG Try.prog Post C (G (Frame.enter Try.prog 127 #[P0 b, .int .i64 u] .normal) (c :: cs)) x := by
  refine enterN Try.func127 (by rfl) (by rfl) ?_
  simp only [Try.f127, Option.getD_some]
  walk_nrm
  refine JG.code (closedX (ms := [127]) _ (by kernel_rfl)) (by kernel_rfl) rfl (.inr (by kernel_rfl)) rfl (fun K R hK hR τ => ?_)
  replace hK := Lib.hid hK
  replace hR := Lib.hid hR
  have k0 : (under x τ 0).cell? (th b 0) = some (.int .i64 v) := h0
  have z0 : (under x τ 0).frozen? (th b 0) = false := f0
  have hr := r_swap64 (u := u) k0 z0
  go_wp2
  refine ⟨rfl, ?_⟩
  refine hR.out _ _ (fun todo => ?_)
  rw [under_setCell]
  refine JG.tap ?_
  exact JG.leave rfl rfl Try.func127 (fun τ d => results_tmp (t := 4) rfl _ _ _) h
set_option maxHeartbeats 4000000 in
theorem swap_J {u : Int} (hc : FreeCell x b v) (h : JG Try.prog Post C (G (c.finish (.int .i64 v)) cs) (x.setCell (th b 0) (.int .i64 u))) : JG Try.prog Post C (G (Frame.enter Try.prog 75 #[P0 b, .pointer none, .int .i64 u] .normal) (c :: cs)) x := by
  refine enterN Try.func75 (by rfl) (by rfl) ?_
  simp only [Try.f75, Option.getD_some]
  walk_nrm
  repeat first | refine JG.seq ?_ | refine JG.skip ?_ | refine JG.inBlock ?_ | refine JG.block ?_ | refine JG.done ?_ | refine JG.label ?_ | refine JG.condT rfl ?_ | refine JG.condF rfl ?_ | (refine JG.region ?_; simp only [List.size_toArray, List.length_cons, List.length_nil, Nat.reduceAdd, Nat.zero_add, List.range, List.range.loop]) | (refine JG.unwanted rfl (by rfl) ?_; try walk_nrm) | (refine jgo rfl rfl (by rfl) (by decide) (fun K E hK hE τ d => ?_); go_simp; refine hK _ _ (JG.tap ?_); clear hK hE K E τ d; try walk_nrm) | (refine jgo rfl rfl (by rfl) (by decide) (fun K E hK hE τ d => ?_); have hfact := (under_cell _ τ d _).trans (hc.made); go_simp; refine hK _ _ (JG.tap ?_); clear hfact hK hE K E τ d; try walk_nrm)
  refine JG.call (f := 99) (args := #[P0 b]) rfl (by rfl) (by decide) (fun w => ?_) (fun w => ?_) ?_
  iterate 2 (focus obtain ⟨fn, h1, h2, h3⟩ : HasBody 99 := ⟨_, Try.func99, by kernel_rfl, by kernel_rfl⟩; have h4 : ¬ fn.name = "runtime.NumGoroutine" := (by simpa using h2); have h5 : ¬ fn.body = none := (by intro e; rw [e] at h3; cases h3); simp [go_sem, execOp, Act.eval, resolve, Deferred.ofValue, invoke, callFunc, h1, h4, h5])
  refine none_J hc.made ?_
  rw [Frame.finish_at]
  walk_nrm
  repeat first | refine JG.seq ?_ | refine JG.skip ?_ | refine JG.inBlock ?_ | refine JG.block ?_ | refine JG.done ?_ | refine JG.label ?_ | refine JG.condT rfl ?_ | refine JG.condF rfl ?_ | (refine JG.region ?_; simp only [List.size_toArray, List.length_cons, List.length_nil, Nat.reduceAdd, Nat.zero_add, List.range, List.range.loop]) | (refine JG.unwanted rfl (by rfl) ?_; try walk_nrm) | (refine jgo rfl rfl (by rfl) (by decide) (fun K E hK hE τ d => ?_); go_simp; refine hK _ _ (JG.tap ?_); clear hK hE K E τ d; try walk_nrm) | (refine jgo rfl rfl (by rfl) (by decide) (fun K E hK hE τ d => ?_); have hfact := (under_cell _ τ d _).trans (hc.made); go_simp; refine hK _ _ (JG.tap ?_); clear hfact hK hE K E τ d; try walk_nrm)
  refine JG.call (f := 100) (args := #[.pointer none]) rfl (by rfl) (by decide) (fun w => ?_) (fun w => ?_) ?_
  iterate 2 (focus obtain ⟨fn, h1, h2, h3⟩ : HasBody 100 := ⟨_, Try.func100, by kernel_rfl, by kernel_rfl⟩; have h4 : ¬ fn.name = "runtime.NumGoroutine" := (by simpa using h2); have h5 : ¬ fn.body = none := (by intro e; rw [e] at h3; cases h3); simp [go_sem, execOp, Act.eval, resolve, Deferred.ofValue, invoke, callFunc, h1, h4, h5])
  refine live0_J ?_
  rw [Frame.finish_at]
  walk_nrm
  repeat first | refine JG.seq ?_ | refine JG.skip ?_ | refine JG.inBlock ?_ | refine JG.block ?_ | refine JG.done ?_ | refine JG.label ?_ | refine JG.condT rfl ?_ | refine JG.condF rfl ?_ | (refine JG.region ?_; simp only [List.size_toArray, List.length_cons, List.length_nil, Nat.reduceAdd, Nat.zero_add, List.range, List.range.loop]) | (refine JG.unwanted rfl (by rfl) ?_; try walk_nrm) | (refine jgo rfl rfl (by rfl) (by decide) (fun K E hK hE τ d => ?_); go_simp; refine hK _ _ (JG.tap ?_); clear hK hE K E τ d; try walk_nrm) | (refine jgo rfl rfl (by rfl) (by decide) (fun K E hK hE τ d => ?_); have hfact := (under_cell _ τ d _).trans (hc.made); go_simp; refine hK _ _ (JG.tap ?_); clear hfact hK hE K E τ d; try walk_nrm)
  refine JG.call (f := 127) (args := #[P0 b, .int .i64 u]) rfl (by rfl) (by decide) (fun w => ?_) (fun w => ?_) ?_
  iterate 2 (focus obtain ⟨fn, h1, h2, h3⟩ : HasBody 127 := ⟨_, Try.func127, by kernel_rfl, by kernel_rfl⟩; have h4 : ¬ fn.name = "runtime.NumGoroutine" := (by simpa using h2); have h5 : ¬ fn.body = none := (by intro e; rw [e] at h3; cases h3); simp [go_sem, execOp, Act.eval, resolve, Deferred.ofValue, invoke, callFunc, h1, h4, h5])
  refine iswap_J hc.v (hc.fr 0) ?_
  rw [Frame.finish_at]
  try walk_nrm
  repeat first | refine JG.seq ?_ | refine JG.skip ?_ | refine JG.inBlock ?_ | refine JG.block ?_ | refine JG.done ?_ | refine JG.label ?_ | refine JG.condT rfl ?_ | refine JG.condF rfl ?_ | (refine JG.region ?_; simp only [List.size_toArray, List.length_cons, List.length_nil, Nat.reduceAdd, Nat.zero_add, List.range, List.range.loop]) | (refine JG.unwanted rfl (by rfl) ?_; try walk_nrm) | (refine jgo rfl rfl (by rfl) (by decide) (fun K E hK hE τ d => ?_); go_simp; refine hK _ _ (JG.tap ?_); clear hK hE K E τ d; try walk_nrm) | (refine jgo rfl rfl (by rfl) (by decide) (fun K E hK hE τ d => ?_); have hfact := (under_cell _ τ d _).trans (hc.made); go_simp; refine hK _ _ (JG.tap ?_); clear hfact hK hE K E τ d; try walk_nrm)
  refine JG.call (f := 125) (args := #[P0 b]) rfl (by rfl) (by decide) (fun w => ?_) (fun w => ?_) ?_
  iterate 2 (focus obtain ⟨fn, h1, h2, h3⟩ : HasBody 125 := ⟨_, Try.func125, by kernel_rfl, by kernel_rfl⟩; have h4 : ¬ fn.name = "runtime.NumGoroutine" := (by simpa using h2); have h5 : ¬ fn.body = none := (by intro e; rw [e] at h3; cases h3); simp [go_sem, execOp, Act.eval, resolve, Deferred.ofValue, invoke, callFunc, h1, h4, h5])
  refine wakes_J (hc.set (u := u)).mu ((hc.set (u := u)).fr 2) (hc.set (u := u)).ch ?_
  rw [Frame.finish_at]
  try walk_nrm
  repeat first | refine JG.seq ?_ | refine JG.skip ?_ | refine JG.inBlock ?_ | refine JG.block ?_ | refine JG.done ?_ | refine JG.label ?_ | refine JG.condT rfl ?_ | refine JG.condF rfl ?_ | (refine JG.region ?_; simp only [List.size_toArray, List.length_cons, List.length_nil, Nat.reduceAdd, Nat.zero_add, List.range, List.range.loop]) | (refine JG.unwanted rfl (by rfl) ?_; try walk_nrm) | (refine jgo rfl rfl (by rfl) (by decide) (fun K E hK hE τ d => ?_); go_simp; refine hK _ _ (JG.tap ?_); clear hK hE K E τ d; try walk_nrm) | (refine jgo rfl rfl (by rfl) (by decide) (fun K E hK hE τ d => ?_); have hfact := (under_cell _ τ d _).trans (hc.made); go_simp; refine hK _ _ (JG.tap ?_); clear hfact hK hE K E τ d; try walk_nrm)
  refine JG.ret ?_
  exact JG.leave rfl rfl Try.func75 (fun τ d => results_tmp (t := 6) rfl _ _ _) h
set_option maxHeartbeats 4000000 in
theorem add_J {u : Int} (hc : FreeCell x b v) (h : JG Try.prog Post C (G (c.finish (.int .i64 (wrap64 (v + u)))) cs) (x.setCell (th b 0) (.int .i64 (wrap64 (v + u))))) : JG Try.prog Post C (G (Frame.enter Try.prog 73 #[P0 b, .pointer none, .int .i64 u] .normal) (c :: cs)) x := by
  refine enterN Try.func73 (by rfl) (by rfl) ?_
  simp only [Try.f73, Option.getD_some]
  walk_nrm
  repeat first | refine JG.seq ?_ | refine JG.skip ?_ | refine JG.inBlock ?_ | refine JG.block ?_ | refine JG.done ?_ | refine JG.label ?_ | refine JG.condT rfl ?_ | refine JG.condF rfl ?_ | (refine JG.region ?_; simp only [List.size_toArray, List.length_cons, List.length_nil, Nat.reduceAdd, Nat.zero_add, List.range, List.range.loop]) | (refine JG.unwanted rfl (by rfl) ?_; try walk_nrm) | (refine jgo rfl rfl (by rfl) (by decide) (fun K E hK hE τ d => ?_); go_simp; refine hK _ _ (JG.tap ?_); clear hK hE K E τ d; try walk_nrm) | (refine jgo rfl rfl (by rfl) (by decide) (fun K E hK hE τ d => ?_); have hfact := (under_cell _ τ d _).trans (hc.made); go_simp; refine hK _ _ (JG.tap ?_); clear hfact hK hE K E τ d; try walk_nrm)
  refine JG.call (f := 99) (args := #[P0 b]) rfl (by rfl) (by decide) (fun w => ?_) (fun w => ?_) ?_
  iterate 2 (focus obtain ⟨fn, h1, h2, h3⟩ : HasBody 99 := ⟨_, Try.func99, by kernel_rfl, by kernel_rfl⟩; have h4 : ¬ fn.name = "runtime.NumGoroutine" := (by simpa using h2); have h5 : ¬ fn.body = none := (by intro e; rw [e] at h3; cases h3); simp [go_sem, execOp, Act.eval, resolve, Deferred.ofValue, invoke, callFunc, h1, h4, h5])
  refine none_J hc.made ?_
  rw [Frame.finish_at]
  walk_nrm
  repeat first | refine JG.seq ?_ | refine JG.skip ?_ | refine JG.inBlock ?_ | refine JG.block ?_ | refine JG.done ?_ | refine JG.label ?_ | refine JG.condT rfl ?_ | refine JG.condF rfl ?_ | (refine JG.region ?_; simp only [List.size_toArray, List.length_cons, List.length_nil, Nat.reduceAdd, Nat.zero_add, List.range, List.range.loop]) | (refine JG.unwanted rfl (by rfl) ?_; try walk_nrm) | (refine jgo rfl rfl (by rfl) (by decide) (fun K E hK hE τ d => ?_); go_simp; refine hK _ _ (JG.tap ?_); clear hK hE K E τ d; try walk_nrm) | (refine jgo rfl rfl (by rfl) (by decide) (fun K E hK hE τ d => ?_); have hfact := (under_cell _ τ d _).trans (hc.made); go_simp; refine hK _ _ (JG.tap ?_); clear hfact hK hE K E τ d; try walk_nrm)
  refine JG.call (f := 100) (args := #[.pointer none]) rfl (by rfl) (by decide) (fun w => ?_) (fun w => ?_) ?_
  iterate 2 (focus obtain ⟨fn, h1, h2, h3⟩ : HasBody 100 := ⟨_, Try.func100, by kernel_rfl, by kernel_rfl⟩; have h4 : ¬ fn.name = "runtime.NumGoroutine" := (by simpa using h2); have h5 : ¬ fn.body = none := (by intro e; rw [e] at h3; cases h3); simp [go_sem, execOp, Act.eval, resolve, Deferred.ofValue, invoke, callFunc, h1, h4, h5])
  refine live0_J ?_
  rw [Frame.finish_at]
  walk_nrm
  repeat first | refine JG.seq ?_ | refine JG.skip ?_ | refine JG.inBlock ?_ | refine JG.block ?_ | refine JG.done ?_ | refine JG.label ?_ | refine JG.condT rfl ?_ | refine JG.condF rfl ?_ | (refine JG.region ?_; simp only [List.size_toArray, List.length_cons, List.length_nil, Nat.reduceAdd, Nat.zero_add, List.range, List.range.loop]) | (refine JG.unwanted rfl (by rfl) ?_; try walk_nrm) | (refine jgo rfl rfl (by rfl) (by decide) (fun K E hK hE τ d => ?_); go_simp; refine hK _ _ (JG.tap ?_); clear hK hE K E τ d; try walk_nrm) | (refine jgo rfl rfl (by rfl) (by decide) (fun K E hK hE τ d => ?_); have hfact := (under_cell _ τ d _).trans (hc.made); go_simp; refine hK _ _ (JG.tap ?_); clear hfact hK hE K E τ d; try walk_nrm)
  refine JG.call (f := 124) (args := #[P0 b, .int .i64 u]) rfl (by rfl) (by decide) (fun w => ?_) (fun w => ?_) ?_
  iterate 2 (focus obtain ⟨fn, h1, h2, h3⟩ : HasBody 124 := ⟨_, Try.func124, by kernel_rfl, by kernel_rfl⟩; have h4 : ¬ fn.name = "runtime.NumGoroutine" := (by simpa using h2); have h5 : ¬ fn.body = none := (by intro e; rw [e] at h3; cases h3); simp [go_sem, execOp, Act.eval, resolve, Deferred.ofValue, invoke, callFunc, h1, h4, h5])
  refine iadd_J hc.v (hc.fr 0) ?_
  rw [Frame.finish_at]
  try walk_nrm
  repeat first | refine JG.seq ?_ | refine JG.skip ?_ | refine JG.inBlock ?_ | refine JG.block ?_ | refine JG.done ?_ | refine JG.label ?_ | refine JG.condT rfl ?_ | refine JG.condF rfl ?_ | (refine JG.region ?_; simp only [List.size_toArray, List.length_cons, List.length_nil, Nat.reduceAdd, Nat.zero_add, List.range, List.range.loop]) | (refine JG.unwanted rfl (by rfl) ?_; try walk_nrm) | (refine jgo rfl rfl (by rfl) (by decide) (fun K E hK hE τ d => ?_); go_simp; refine hK _ _ (JG.tap ?_); clear hK hE K E τ d; try walk_nrm) | (refine jgo rfl rfl (by rfl) (by decide) (fun K E hK hE τ d => ?_); have hfact := (under_cell _ τ d _).trans (hc.made); go_simp; refine hK _ _ (JG.tap ?_); clear hfact hK hE K E τ d; try walk_nrm)
  refine JG.call (f := 125) (args := #[P0 b]) rfl (by rfl) (by decide) (fun w => ?_) (fun w => ?_) ?_
  iterate 2 (focus obtain ⟨fn, h1, h2, h3⟩ : HasBody 125 := ⟨_, Try.func125, by kernel_rfl, by kernel_rfl⟩; have h4 : ¬ fn.name = "runtime.NumGoroutine" := (by simpa using h2); have h5 : ¬ fn.body = none := (by intro e; rw [e] at h3; cases h3); simp [go_sem, execOp, Act.eval, resolve, Deferred.ofValue, invoke, callFunc, h1, h4, h5])
  refine wakes_J (hc.set (u := wrap64 (v + u))).mu ((hc.set (u := wrap64 (v + u))).fr 2) (hc.set (u := wrap64 (v + u))).ch ?_
  rw [Frame.finish_at]
  try walk_nrm
  repeat first | refine JG.seq ?_ | refine JG.skip ?_ | refine JG.inBlock ?_ | refine JG.block ?_ | refine JG.done ?_ | refine JG.label ?_ | refine JG.condT rfl ?_ | refine JG.condF rfl ?_ | (refine JG.region ?_; simp only [List.size_toArray, List.length_cons, List.length_nil, Nat.reduceAdd, Nat.zero_add, List.range, List.range.loop]) | (refine JG.unwanted rfl (by rfl) ?_; try walk_nrm) | (refine jgo rfl rfl (by rfl) (by decide) (fun K E hK hE τ d => ?_); go_simp; refine hK _ _ (JG.tap ?_); clear hK hE K E τ d; try walk_nrm) | (refine jgo rfl rfl (by rfl) (by decide) (fun K E hK hE τ d => ?_); have hfact := (under_cell _ τ d _).trans (hc.made); go_simp; refine hK _ _ (JG.tap ?_); clear hfact hK hE K E τ d; try walk_nrm)
  refine JG.ret ?_
  exact JG.leave rfl rfl Try.func73 (fun τ d => results_tmp (t := 6) rfl _ _ _) h
end
theorem IsCell.free {w : World} {b : Nat} {x : Int} (h : IsCell w b x) : FreeCell w b x := ⟨h.c0, h.c1, h.c2, h.c4, h.fz⟩
/-- What makes cells. -/
noncomputable def makersX : List FuncId := [14, 80]
theorem closedMX (S : Prot) : Closed Try.prog S (FX makersX) := closedX S (by kernel_rfl)
theorem setCell_self {x : World} {b k : Nat} {v : Value} (h : x.cell? (th b k) = some v) : x.setCell (th b k) v = x := by
  have e : (x.setCell (th b k) v).heap = x.heap := by
    apply Array.ext_getElem?
    intro i
    by_cases hi : i = b
    · subst hi
      unfold World.cell? at h
      cases hx : x.heap[i]? with
      | none => simp [hx, th] at h
      | some o =>
        cases o with
        | cells cs t fr =>
          simp only [th, hx] at h
          have hk : cs[k]? = some v := by simpa using h
          rw [show (x.setCell (th i k) v).heap[i]? = some (.cells (cs.setIfInBounds k v) t fr) from by simp [World.setCell, Array.getElem?_modify, hx, th]]
          congr 2
          apply Array.ext_getElem?
          intro j
          by_cases hj : k = j
          · subst hj
            obtain ⟨hlt, _⟩ := Array.getElem?_eq_some_iff.1 hk
            rw [Array.getElem?_setIfInBounds_self_of_lt hlt, hk]
          · rw [Array.getElem?_setIfInBounds_ne hj]
        | _ => simp [hx, th] at h
    · exact heap_set_ne hi
  rw [show x.setCell (th b k) v = { x with heap := (x.setCell (th b k) v).heap } from rfl, e]
/-- Old blocks stand. -/
def OldStand (y z : World) : Prop := y.heap.size ≤ z.heap.size ∧ ∀ r, r < y.heap.size → z.heap[r]? = y.heap[r]?
theorem OldStand.refl (y : World) : OldStand y y := ⟨Nat.le_refl _, fun _ _ => rfl⟩
theorem OldStand.trans {a b c : World} (h : OldStand a b) (k : OldStand b c) : OldStand a c := ⟨Nat.le_trans h.1 k.1, fun r hr => (k.2 r (Nat.lt_of_lt_of_le hr h.1)).trans (h.2 r hr)⟩
theorem OldStand.alloc {a b : World} (h : OldStand a b) (o : Obj) : OldStand a (b.alloc o) := h.trans ⟨by simp, fun r hr => by rw [heap_alloc', Array.getElem?_push, if_neg (by omega)]⟩
theorem OldStand.cell {a b : World} (h : OldStand a b) {p : Addr} {v : Value} (hc : a.cell? p = some v) : b.cell? p = some v := by
  have hlt : p.block < a.heap.size := by
    unfold World.cell? at hc
    rcases Nat.lt_or_ge p.block a.heap.size with h' | h'
    · exact h'
    · rw [Array.getElem?_eq_none h'] at hc; cases hc
  rw [World.cell?_of_block (h.2 _ hlt)]; exact hc
theorem OldStand.frozen {a b : World} (h : OldStand a b) {p : Addr} (hp : p.block < a.heap.size) : b.frozen? p = a.frozen? p := by
  unfold World.frozen?; rw [h.2 _ hp]
section
variable {Post : Value → World → Prop} {C : Ctx} {x : World} {c : Frame} {cs : List Frame}
theorem cellNew_J {v : Int} (h : ∀ y, OldStand x y → FreeCell y x.heap.size v → y.heap.size = x.heap.size + 1 → JG Try.prog Post C (G (c.finish (P0 x.heap.size)) cs) y) : JG Try.prog Post C (G (Frame.enter Try.prog 14 #[.int .i64 v] .normal) (c :: cs)) x := by
  refine JG.calls (F := FX makersX) (Q := fun u y => u = P0 x.heap.size ∧ OldStand x y ∧ FreeCell y x.heap.size v ∧ y.heap.size = x.heap.size + 1) (closedMX _) (by kernel_rfl) (fun τ => ?_) (fun u y hq => ?_)
  · refine (cell_new v _).mono ?_
    rintro e y ⟨rfl, rfl⟩
    exact ⟨_, rfl, rfl, (OldStand.refl (under x τ 0)).alloc _, (isCell_new (under x τ 0) v).free, by simp [under_size]⟩
  · obtain ⟨rfl, h1, h2, h3⟩ := hq
    exact h y h1 h2 h3
theorem OldStand.free {y z : World} {b : Nat} {v : Int} (h : OldStand y z) (hc : FreeCell y b v) : FreeCell z b v :=
  ⟨h.cell hc.v, h.cell hc.made, h.cell hc.mu, h.cell hc.ch, fun k => (h.frozen (p := th b k) (show b < y.heap.size from cell_lt (a := th b 0) hc.v)).trans (hc.fr k)⟩
/-- Only block b may have changed. -/
def But (b : Nat) (y z : World) : Prop := z.heap.size = y.heap.size ∧ ∀ r, r ≠ b → z.heap[r]? = y.heap[r]?
theorem But.set (y : World) (b k : Nat) (u : Value) : But b y (y.setCell (th b k) u) := ⟨size_set _ _ _, fun r hr => heap_set_ne hr⟩
theorem But.cell {b : Nat} {y z : World} (h : But b y z) {p : Addr} (hp : p.block ≠ b) : z.cell? p = y.cell? p := World.cell?_of_block (h.2 _ hp)
theorem But.free {b q : Nat} {y z : World} {v : Int} (h : But b y z) (hq : q ≠ b) (hc : FreeCell y q v) : FreeCell z q v :=
  ⟨(h.cell (p := th q 0) hq).trans hc.v, (h.cell (p := th q 1) hq).trans hc.made, (h.cell (p := th q 2) hq).trans hc.mu, (h.cell (p := th q 4) hq).trans hc.ch, fun k => by have := hc.fr k; unfold World.frozen? at this ⊢; rw [h.2 q hq]; exact this⟩
theorem OldStand.but {b : Nat} {a y z : World} (h : OldStand a y) (k : But b y z) (hb : a.heap.size ≤ b) : OldStand a z := ⟨by rw [k.1]; exact h.1, fun r hr => (k.2 r (by omega)).trans (h.2 r hr)⟩
end
theorem wrap_eq64 (z : Int) : IntKind.i64.wrap z = wrap64 z := by unfold wrap64; exact IntKind.wrap_i64 z
/-- The operations of a text's first region. -/
def Code.ops1 : Code → Array Oper
  | .seq (.region _ ops _) _ => ops
  | _ => #[]
/-- What is asked of the end. -/
def Fine (Post : Value → World → Prop) (C : Ctx) (x : World) : Prop := ∀ w, ioOf w = C.io → x.heap.size ≤ w.heap.size → (∀ r, r < x.heap.size → w.heap[r]? = x.heap[r]?) → Post (.bool true) w
/-- The goroutine is alone, and the first. -/
def First (C : Ctx) (x : World) : Prop := C.h = 0 ∧ C.d = 0 ∧ C.n = 1 ∧ (∀ i, C.Ch i = none) ∧ C.lo = x.heap.size
end Go.Proofs.Ytecmobjiepgfjaa
