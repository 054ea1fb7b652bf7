/- A free mutex is locked, and let go again. -/
import Derived.Test.YtecmobjiepgfjaaNTkG
import Derived.Test.YtecmobjiepgfjaaNGtG
import Derived.Conc.AtomicLaws2
import Derived.Conc.MuLone
namespace Go.Proofs.Ytecmobjiepgfjaa
open Go.Conc Go.RowKit
open Go.ConcN (upd upd_same upd_ne)
set_option linter.unusedSimpArgs false
set_option linter.unusedVariables false
set_option maxRecDepth 100000
noncomputable def exts32 : List (FuncId) := [166, 171, 150]
noncomputable def FE : Fns := { fn := fun _ => false, maps := false, top := fun f => decide (f < Try.prog.funcs.size), ext := fun f => exts32.contains f }
theorem ext_CompareAndSwapInt32 : ExtAt Try.prog 166 := ⟨Try.f166, Extern.Atomic.casT (.int .i32), Try.func166, by rfl, by rfl, by kernel_rfl, by kernel_rfl, fun P S args => sq150⟩
theorem ext_AddInt32 : ExtAt Try.prog 171 := ⟨Try.f171, Extern.Atomic.update (Op.intArith .add) .i32 true, Try.func171, by rfl, by rfl, by kernel_rfl, by kernel_rfl, fun P S args => sq158⟩
theorem ext_SwapInt64 : ExtAt Try.prog 150 := ⟨Try.f150, Extern.Atomic.swapT (.int .i64), Try.func150, by rfl, by rfl, by kernel_rfl, by kernel_rfl, fun P S args => sq155⟩
theorem exts32_ok (f : FuncId) (h : exts32.contains f = true) : ExtAt Try.prog f := by
  have h := List.contains_iff_mem.1 h
  simp only [exts32, List.mem_cons, List.not_mem_nil, or_false] at h
  rcases h with rfl | rfl | rfl
  · exact ext_CompareAndSwapInt32
  · exact ext_AddInt32
  · exact ext_SwapInt64
theorem closedE (S : Prot) : Closed Try.prog S FE where
  maps := fun h => by cases h
  text := fun f h => by cases h
  exts := exts32_ok
  tops := fun f h => by
    have h : f < Try.prog.funcs.size := by simpa [FE] using h
    exact ⟨_, Array.getElem?_eq_getElem h⟩
  early := early_ok
theorem r_cas32 {w : World} {ad : Addr} {v n : Int} (hc : w.cell? ad = some (.int .i32 v)) (hz : w.frozen? ad = false) : (callFunc 166 #[.pointer (some ad), .int .i32 v, .int .i32 n]).run Try.prog w = .ok (.value (.bool true)) (w.setCell ad (.int .i32 n)) := by
  rw [run_callFunc_extern Try.func166 (by kernel_rfl) (by kernel_rfl) (by rfl) (by rfl : _ = some (Extern.Atomic.casT (.int .i32))), casT_eq, run_cas_hit_entry hc hz]; rfl
theorem r_add32 {w : World} {ad : Addr} {v n : Int} (hc : w.cell? ad = some (.int .i32 v)) (hz : w.frozen? ad = false) : (callFunc 171 #[.pointer (some ad), .int .i32 n]).run Try.prog w = .ok (.value (.int .i32 (IntKind.i32.wrap (v + n)))) (w.setCell ad (.int .i32 (IntKind.i32.wrap (v + n)))) := by
  rw [run_callFunc_extern Try.func171 (by kernel_rfl) (by kernel_rfl) (by rfl) (by rfl : _ = some (Extern.Atomic.update (Op.intArith .add) .i32 true)), run_add_entry hc hz]; rfl
set_option maxHeartbeats 4000000 in
theorem ilock_J {Post : Value → World → Prop} {C : Ctx} {x : World} {c : Frame} {cs : List Frame} {b k : Nat} (h0 : x.cell? (th b k) = some (.int .i32 0)) (f0 : x.frozen? (th b k) = false)
    (h : JG Try.prog Post C (G (c.finish (.tuple #[])) cs) (x.setCell (th b k) (.int .i32 1))) : JG Try.prog Post C (G (Frame.enter Try.prog 161 #[.pointer (some ⟨b, k, none⟩)] .normal) (c :: cs)) x := by
  refine enterN Try.func161 (by rfl) (by rfl) ?_
  simp only [Try.f161, Option.getD_some]
  walk_nrm
  refine JG.seq ?_
  refine JG.region ?_
  simp only [List.size_toArray, List.length_cons, List.length_nil, Nat.reduceAdd, Nat.zero_add, List.range, List.range.loop]
  refine JG.disable rfl (by rfl) (by decide) rfl Try.func165 (by kernel_rfl) (by kernel_rfl) (by rfl) (by rfl) ?_
  try walk_nrm
  repeat first | refine JG.seq ?_ | refine JG.skip ?_ | refine JG.inBlock ?_ | refine JG.block ?_ | refine JG.done ?_ | refine JG.label ?_
  refine JG.code (closedE _) (by kernel_rfl) rfl (.inr (by kernel_rfl)) rfl (fun K R hK hR τ => ?_)
  replace hK := Lib.hid hK
  clear hR
  have k0 : (under x τ 0).cell? (th b k) = some (.int .i32 0) := h0
  have z0 : (under x τ 0).frozen? (th b k) = false := f0
  have hcas := r_cas32 (n := 1) k0 z0
  go_wp2
  refine hK.out _ _ ?_
  rw [under_setCell]
  refine JG.tap ?_
  clear hK k0 z0 hcas K R τ
  refine JG.condT rfl ?_
  refine JG.seq ?_
  refine JG.condT rfl ?_
  repeat first | refine JG.seq ?_ | refine JG.skip ?_ | refine JG.inBlock ?_ | refine JG.block ?_ | refine JG.done ?_ | refine JG.label ?_
  refine JG.region ?_
  simp only [List.size_toArray, List.length_cons, List.length_nil, Nat.reduceAdd, Nat.zero_add, List.range, List.range.loop]
  refine JG.enable rfl (by rfl) (by decide) rfl Try.func167 (by kernel_rfl) (by kernel_rfl) (by rfl) (by rfl) ?_
  try walk_nrm
  repeat first | refine JG.seq ?_ | refine JG.skip ?_ | refine JG.inBlock ?_ | refine JG.block ?_ | refine JG.done ?_ | refine JG.label ?_
  refine JG.region ?_
  simp only [List.size_toArray, List.length_cons, List.length_nil, Nat.reduceAdd, Nat.zero_add, List.range, List.range.loop]
  refine jgo rfl rfl (by rfl) (by decide) (fun K E hK hE τ d => ?_)
  go_simp
  refine hK _ _ (JG.tap ?_)
  clear hK hE K E τ d
  try walk_nrm
  have c1 : (x.setCell (th b k) (.int .i32 1)).cell? (th b k) = some (.int .i32 1) := by have := World.cell?_setCell_same (w := x) (a := th b k) (v := .int .i32 1) h0; exact this
  refine jgo rfl rfl (by rfl) (by decide) (fun K E hK hE τ d => ?_)
  have hcv := run_convert_to_unsafe (P := Try.prog) (src := 249) (dst := 253) Try.underlying249 Try.underlying253 (by kernel_rfl) ((under_cell _ τ d _).trans c1)
  go_simp
  refine hK _ _ (JG.tap ?_)
  clear hcv hK hE K E τ d
  try walk_nrm
  refine JG.acquire (ad := th b k) rfl (by rfl) (by decide) rfl Try.func168 (by kernel_rfl) (by kernel_rfl) (by rfl) (by rfl) (by simp [Act.eval]) ?_ ?_
  · rw [size_set]; exact cell_lt h0
  try walk_nrm
  repeat first | refine JG.seq ?_ | refine JG.skip ?_ | refine JG.inBlock ?_ | refine JG.block ?_ | refine JG.done ?_ | refine JG.label ?_
  refine JG.ret ?_
  refine JG.leave0 rfl rfl Try.func161 (by rfl) ?_
  exact h
theorem lock_J {Post : Value → World → Prop} {C : Ctx} {x : World} {c : Frame} {cs : List Frame} {b k : Nat} (h0 : x.cell? (th b k) = some (.int .i32 0)) (f0 : x.frozen? (th b k) = false)
    (h : JG Try.prog Post C (G (c.finish (.tuple #[])) cs) (x.setCell (th b k) (.int .i32 1))) : JG Try.prog Post C (G (Frame.enter Try.prog 147 #[.pointer (some ⟨b, k, none⟩)] .normal) (c :: cs)) x := by
  refine enterN Try.func147 (by rfl) (by rfl) ?_
  simp only [Try.f147, Option.getD_some]
  walk_nrm
  repeat first | refine JG.seq ?_ | refine JG.skip ?_ | refine JG.inBlock ?_ | refine JG.block ?_ | refine JG.done ?_ | refine JG.label ?_ | refine JG.condT rfl ?_ | refine JG.condF rfl ?_ | (refine JG.region ?_; simp only [List.size_toArray, List.length_cons, List.length_nil, Nat.reduceAdd, Nat.zero_add, List.range, List.range.loop]) | (refine JG.unwanted rfl (by rfl) ?_; try walk_nrm) | (refine jgo rfl rfl (by rfl) (by decide) (fun K E hK hE τ d => ?_); go_simp; refine hK _ _ (JG.tap ?_); clear hK hE K E τ d; try walk_nrm) | (refine jgo rfl rfl (by rfl) (by decide) (fun K E hK hE τ d => ?_); have hfact := (under_cell _ τ d _).trans (h0); go_simp; refine hK _ _ (JG.tap ?_); clear hfact hK hE K E τ d; try walk_nrm)
  refine JG.call (f := 161) (args := #[.pointer (some ⟨b, k, none⟩)]) rfl (by rfl) (by decide) (fun w => ?_) (fun w => ?_) ?_
  iterate 2 (focus obtain ⟨fn, h1, h2, h3⟩ : HasBody 161 := ⟨_, Try.func161, by kernel_rfl, by kernel_rfl⟩; have h4 : ¬ fn.name = "runtime.NumGoroutine" := (by simpa using h2); have h5 : ¬ fn.body = none := (by intro e; rw [e] at h3; cases h3); simp [go_sem, execOp, Act.eval, resolve, Deferred.ofValue, invoke, callFunc, h1, h4, h5])
  refine ilock_J h0 f0 ?_
  rw [Frame.finish_at]
  repeat first | refine JG.seq ?_ | refine JG.skip ?_ | refine JG.inBlock ?_ | refine JG.block ?_ | refine JG.done ?_ | refine JG.label ?_ | refine JG.condT rfl ?_ | refine JG.condF rfl ?_ | (refine JG.region ?_; simp only [List.size_toArray, List.length_cons, List.length_nil, Nat.reduceAdd, Nat.zero_add, List.range, List.range.loop]) | (refine JG.unwanted rfl (by rfl) ?_; try walk_nrm) | (refine jgo rfl rfl (by rfl) (by decide) (fun K E hK hE τ d => ?_); go_simp; refine hK _ _ (JG.tap ?_); clear hK hE K E τ d; try walk_nrm) | (refine jgo rfl rfl (by rfl) (by decide) (fun K E hK hE τ d => ?_); have hfact := (under_cell _ τ d _).trans (h0); go_simp; refine hK _ _ (JG.tap ?_); clear hfact hK hE K E τ d; try walk_nrm)
  refine JG.fin ?_
  exact JG.leave0 rfl rfl Try.func147 (by rfl) h
set_option maxHeartbeats 4000000 in
theorem iunlock_J {Post : Value → World → Prop} {C : Ctx} {x : World} {c : Frame} {cs : List Frame} {b k : Nat} (h0 : x.cell? (th b k) = some (.int .i32 1)) (f0 : x.frozen? (th b k) = false)
    (h : JG Try.prog Post C (G (c.finish (.tuple #[])) cs) (x.setCell (th b k) (.int .i32 0))) : JG Try.prog Post C (G (Frame.enter Try.prog 162 #[.pointer (some ⟨b, k, none⟩)] .normal) (c :: cs)) x := by
  refine enterN Try.func162 (by rfl) (by rfl) ?_
  simp only [Try.f162, Option.getD_some]
  walk_nrm
  repeat first | refine JG.seq ?_ | refine JG.skip ?_ | refine JG.inBlock ?_ | refine JG.block ?_ | refine JG.done ?_ | refine JG.label ?_ | refine JG.condT rfl ?_ | refine JG.condF rfl ?_ | (refine JG.region ?_; simp only [List.size_toArray, List.length_cons, List.length_nil, Nat.reduceAdd, Nat.zero_add, List.range, List.range.loop]) | (refine JG.unwanted rfl (by rfl) ?_; try walk_nrm) | (refine jgo rfl rfl (by rfl) (by decide) (fun K E hK hE τ d => ?_); go_simp; refine hK _ _ (JG.tap ?_); clear hK hE K E τ d; try walk_nrm) | (refine jgo rfl rfl (by rfl) (by decide) (fun K E hK hE τ d => ?_); have hfact := (under_cell _ τ d _).trans (h0); go_simp; refine hK _ _ (JG.tap ?_); clear hfact hK hE K E τ d; try walk_nrm)
  refine jgo rfl rfl (by rfl) (by decide) (fun K E hK hE τ d => ?_)
  have hcv := run_convert_to_unsafe (P := Try.prog) (src := 249) (dst := 253) Try.underlying249 Try.underlying253 (by kernel_rfl) ((under_cell _ τ d _).trans h0)
  go_simp
  refine hK _ _ (JG.tap ?_)
  clear hcv hK hE K E τ d
  try walk_nrm
  refine JG.releaseM (ad := th b k) rfl (by rfl) (by decide) rfl Try.func170 (by kernel_rfl) (by kernel_rfl) (by rfl) (by rfl) (by simp [Act.eval]) (cell_lt h0) ?_
  try walk_nrm
  repeat first | refine JG.seq ?_ | refine JG.skip ?_ | refine JG.inBlock ?_ | refine JG.block ?_ | refine JG.done ?_ | refine JG.label ?_ | refine JG.condT rfl ?_ | refine JG.condF rfl ?_ | (refine JG.region ?_; simp only [List.size_toArray, List.length_cons, List.length_nil, Nat.reduceAdd, Nat.zero_add, List.range, List.range.loop]) | (refine JG.unwanted rfl (by rfl) ?_; try walk_nrm) | (refine jgo rfl rfl (by rfl) (by decide) (fun K E hK hE τ d => ?_); go_simp; refine hK _ _ (JG.tap ?_); clear hK hE K E τ d; try walk_nrm) | (refine jgo rfl rfl (by rfl) (by decide) (fun K E hK hE τ d => ?_); have hfact := (under_cell _ τ d _).trans (h0); go_simp; refine hK _ _ (JG.tap ?_); clear hfact hK hE K E τ d; try walk_nrm)
  refine JG.disable rfl (by rfl) (by decide) rfl Try.func165 (by kernel_rfl) (by kernel_rfl) (by rfl) (by rfl) ?_
  try walk_nrm
  repeat refine JG.done ?_
  refine JG.seq ?_
  refine JG.code (closedE _) (by kernel_rfl) rfl (.inr (by kernel_rfl)) rfl (fun K R hK hR τ => ?_)
  replace hK := Lib.hid hK
  clear hR
  have k0 : (under x τ 0).cell? (th b k) = some (.int .i32 1) := h0
  have z0 : (under x τ 0).frozen? (th b k) = false := f0
  have hadd := r_add32 (n := -1) k0 z0
  go_wp2
  refine hK.out _ _ ?_
  rw [under_setCell]
  refine JG.tap ?_
  clear hK k0 z0 hadd K R τ
  repeat first | refine JG.seq ?_ | refine JG.skip ?_ | refine JG.inBlock ?_ | refine JG.block ?_ | refine JG.done ?_ | refine JG.label ?_ | refine JG.condT rfl ?_ | refine JG.condF rfl ?_ | (refine JG.region ?_; simp only [List.size_toArray, List.length_cons, List.length_nil, Nat.reduceAdd, Nat.zero_add, List.range, List.range.loop]) | (refine JG.unwanted rfl (by rfl) ?_; try walk_nrm) | (refine jgo rfl rfl (by rfl) (by decide) (fun K E hK hE τ d => ?_); go_simp; refine hK _ _ (JG.tap ?_); clear hK hE K E τ d; try walk_nrm) | (refine jgo rfl rfl (by rfl) (by decide) (fun K E hK hE τ d => ?_); have hfact := (under_cell _ τ d _).trans (h0); go_simp; refine hK _ _ (JG.tap ?_); clear hfact hK hE K E τ d; try walk_nrm)
  refine JG.enable rfl (by rfl) (by decide) rfl Try.func167 (by kernel_rfl) (by kernel_rfl) (by rfl) (by rfl) ?_
  try walk_nrm
  repeat first | refine JG.seq ?_ | refine JG.skip ?_ | refine JG.inBlock ?_ | refine JG.block ?_ | refine JG.done ?_ | refine JG.label ?_ | refine JG.condT rfl ?_ | refine JG.condF rfl ?_ | (refine JG.region ?_; simp only [List.size_toArray, List.length_cons, List.length_nil, Nat.reduceAdd, Nat.zero_add, List.range, List.range.loop]) | (refine JG.unwanted rfl (by rfl) ?_; try walk_nrm) | (refine jgo rfl rfl (by rfl) (by decide) (fun K E hK hE τ d => ?_); go_simp; refine hK _ _ (JG.tap ?_); clear hK hE K E τ d; try walk_nrm) | (refine jgo rfl rfl (by rfl) (by decide) (fun K E hK hE τ d => ?_); have hfact := (under_cell _ τ d _).trans (h0); go_simp; refine hK _ _ (JG.tap ?_); clear hfact hK hE K E τ d; try walk_nrm)
  refine JG.fin ?_
  refine JG.leave0 rfl rfl Try.func162 (by rfl) ?_
  exact h
theorem unlockD_J {Post : Value → World → Prop} {C : Ctx} {x : World} {c : Frame} {cs : List Frame} {b k : Nat} (h0 : x.cell? (th b k) = some (.int .i32 1)) (f0 : x.frozen? (th b k) = false)
    (h : JG Try.prog Post C (G (behindDeferred c) cs) (x.setCell (th b k) (.int .i32 0))) : JG Try.prog Post C (G (Frame.enter Try.prog 148 #[.pointer (some ⟨b, k, none⟩)] .deferred) (c :: cs)) x := by
  refine enterD Try.func148 (by rfl) (by rfl) ?_
  simp only [Try.f148, Option.getD_some]
  walk_nrm
  repeat first | refine JG.seq ?_ | refine JG.skip ?_ | refine JG.inBlock ?_ | refine JG.block ?_ | refine JG.done ?_ | refine JG.label ?_ | refine JG.condT rfl ?_ | refine JG.condF rfl ?_ | (refine JG.region ?_; simp only [List.size_toArray, List.length_cons, List.length_nil, Nat.reduceAdd, Nat.zero_add, List.range, List.range.loop]) | (refine JG.unwanted rfl (by rfl) ?_; try walk_nrm) | (refine jgo rfl rfl (by rfl) (by decide) (fun K E hK hE τ d => ?_); go_simp; refine hK _ _ (JG.tap ?_); clear hK hE K E τ d; try walk_nrm) | (refine jgo rfl rfl (by rfl) (by decide) (fun K E hK hE τ d => ?_); have hfact := (under_cell _ τ d _).trans (h0); go_simp; refine hK _ _ (JG.tap ?_); clear hfact hK hE K E τ d; try walk_nrm)
  refine JG.call (f := 162) (args := #[.pointer (some ⟨b, k, none⟩)]) rfl (by rfl) (by decide) (fun w => ?_) (fun w => ?_) ?_
  iterate 2 (focus obtain ⟨fn, h1, h2, h3⟩ : HasBody 162 := ⟨_, Try.func162, by kernel_rfl, by kernel_rfl⟩; have h4 : ¬ fn.name = "runtime.NumGoroutine" := (by simpa using h2); have h5 : ¬ fn.body = none := (by intro e; rw [e] at h3; cases h3); simp [go_sem, execOp, Act.eval, resolve, Deferred.ofValue, invoke, callFunc, h1, h4, h5])
  refine iunlock_J h0 f0 ?_
  rw [Frame.finish_at]
  repeat first | refine JG.seq ?_ | refine JG.skip ?_ | refine JG.inBlock ?_ | refine JG.block ?_ | refine JG.done ?_ | refine JG.label ?_ | refine JG.condT rfl ?_ | refine JG.condF rfl ?_ | (refine JG.region ?_; simp only [List.size_toArray, List.length_cons, List.length_nil, Nat.reduceAdd, Nat.zero_add, List.range, List.range.loop]) | (refine JG.unwanted rfl (by rfl) ?_; try walk_nrm) | (refine jgo rfl rfl (by rfl) (by decide) (fun K E hK hE τ d => ?_); go_simp; refine hK _ _ (JG.tap ?_); clear hK hE K E τ d; try walk_nrm) | (refine jgo rfl rfl (by rfl) (by decide) (fun K E hK hE τ d => ?_); have hfact := (under_cell _ τ d _).trans (h0); go_simp; refine hK _ _ (JG.tap ?_); clear hfact hK hE K E τ d; try walk_nrm)
  refine JG.fin ?_
  exact JG.leaveD rfl rfl Try.func148 (by rfl) h
theorem set_twice {x : World} {b k : Nat} {v : Value} {u : Value} (h : x.cell? (th b k) = some v) : (x.setCell (th b k) u).setCell (th b k) v = x := by
  have hh : ((x.setCell (th b k) u).setCell (th b k) v).heap = x.heap := by
    apply Array.ext_getElem?
    intro r
    by_cases hr : r = b
    · subst hr
      unfold World.cell? at h
      cases ho : x.heap[r]? with
      | none => simp [th, ho] at h
      | some o =>
        cases o with
        | cells cs t fr =>
          have h1 : cs[k]? = some v := by simpa [th, ho] using h
          obtain ⟨hlt, hv⟩ := Array.getElem?_eq_some_iff.1 h1
          rw [heap_set_self (heap_set_self ho)]
          congr 2
          apply Array.ext_getElem?
          intro j
          simp only [Array.getElem?_setIfInBounds, Array.size_setIfInBounds]
          by_cases hj : k = j
          · subst hj; rw [if_pos rfl, if_pos hlt]; exact h1.symm
          · rw [if_neg hj, if_neg hj]
        | _ => simp [th, ho] at h
    · rw [heap_set_ne hr, heap_set_ne hr]
  cases x
  simp only [World.setCell] at hh ⊢
  simp only [hh]
end Go.Proofs.Ytecmobjiepgfjaa
