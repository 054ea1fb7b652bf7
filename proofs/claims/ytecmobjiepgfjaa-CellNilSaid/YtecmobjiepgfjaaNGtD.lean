/- A thread is begun: it is let go, and ends at once. -/
import Derived.Test.YtecmobjiepgfjaaNGtC
namespace Go.Proofs.Ytecmobjiepgfjaa
open Go.Conc Go.RowKit
open Go.ConcN (upd upd_same upd_ne)
set_option linter.unusedSimpArgs false
set_option linter.unusedVariables false
set_option maxRecDepth 100000
theorem make_chan (w : World) : (Instr.makeChan 79 (.int .i64 0)).run Try.prog w = .ok (.chan (some w.heap.size)) (w.alloc (.chan 0 #[] false 0 0 false)) := by
  have h1 : Try.prog.underlying 79 = some (.chan .both 68) := by kernel_rfl
  have h2 : (Try.prog.info? 68).map (fun i => i.bytes) = some 0 := by kernel_rfl
  obtain ⟨i, hi, hz⟩ := Option.map_eq_some_iff.1 h2
  simp [Instr.makeChan, run_underlying h1, typeInfo, hi, hz, asInt, asIntOf, IntKind.max, IntKind.signed, IntKind.bits]
/-- The cells of a Thread just made. -/
def newThread (rb n wk st : Nat) : Array Value := #[P0 rb, .int .i64 n, .chan (some wk), .chan (some st), .pointer none, .int .i64 0, .int .i8 0, .int .i64 0, .int .i64 0, .int .i64 0, .int .i64 0, .int .i64 0, .bool false, .bool false]
theorem build_thread (rb n wk st : Nat) (w : World) : (Instr.build 184 #[(0, P0 rb), (1, .int .i64 n), (2, .chan (some wk)), (3, .chan (some st))]).run Try.prog w = .ok (.agg (newThread rb n wk st)) w := run_build w _ _ _ (by kernel_rfl)
/-- Where a thread has been made: blocks from m on. -/
structure Made (w y : World) (rb n tv tb wk st : Nat) : Prop where
  old : ∀ r, r < w.heap.size → y.heap[r]? = w.heap[r]?
  size : y.heap.size = w.heap.size + 4
  tvb : w.heap.size ≤ tv ∧ tv < y.heap.size
  tbb : w.heap.size ≤ tb ∧ tb < y.heap.size
  wkb : w.heap.size ≤ wk ∧ wk < y.heap.size
  stb : w.heap.size ≤ st ∧ st < y.heap.size
  ne : wk ≠ st
  tvo : y.heap[tv]? = some (.cells #[P0 tb] 33 (0, 0))
  tbo : y.heap[tb]? = some (.cells (newThread rb n wk st) 184 (0, 0))
  wko : y.heap[wk]? = some (.chan 0 #[] false 0 0 false)
  sto : y.heap[st]? = some (.chan 0 #[] false 0 0 false)
/-- What a body that makes no access does: it turns y into what R says, nothing of the blocks from N on that were there. -/
structure Mild1 (Post : Value → World → Prop) (N : Nat) (x0 : World) (fb : FuncId) (cap : Array Value) (R : World → World → Prop) : Prop where
  body : HasBody fb
  keeps : ∀ y z, R y z → y.heap.size ≤ z.heap.size ∧ ∀ r, N ≤ r → r < y.heap.size → z.heap[r]? = y.heap[r]?
  spec : ∀ (C : Ctx) (y : World) (cf : Frame) (cs : List Frame) (tb rb : Nat), N ≤ y.heap.size → (∀ r, r < N → y.heap[r]? = x0.heap[r]?) → N ≤ tb → y.cell? (th tb 0) = some (P0 rb) → y.cell? (th tb 13) = some (.bool false) → (∀ v z, R y z → JG Try.prog Post C (G (cf.finish v) cs) z) → JG Try.prog Post C (G (Frame.enter Try.prog fb (#[P0 tb] ++ cap) .normal) (cf :: cs)) y
theorem heap_chan_ne {w : World} {c r k : Nat} (h : r ≠ c) : (w.setChan c 0 #[] false k k false).heap[r]? = w.heap[r]? := heap_setChan_ne w _ _ _ _ _ _ (fun e => h e.symm)
theorem size_chan (w : World) (c k : Nat) : (w.setChan c 0 #[] false k k false).heap.size = w.heap.size := by simp [World.setChan]
theorem heap_frz_ne {w : World} {b k n r : Nat} (h : r ≠ b) : (w.freeze (th b k) n).heap[r]? = w.heap[r]? := by
  by_cases hn : n = 0
  · unfold World.freeze; rw [if_pos hn]
  · rw [heap_freeze _ _ hn]
    have : ¬ r = b := h
    simp only [this, if_false]
    cases w.heap[r]? <;> rfl
theorem heap_frz {w : World} {b k n : Nat} {cs : Array Value} {t : TypeId} (hn : n ≠ 0) (h : w.heap[b]? = some (.cells cs t (0, 0))) : (w.freeze (th b k) n).heap[b]? = some (.cells cs t (k, k + n)) := by
  rw [heap_freeze _ _ hn, h]; simp [th]
theorem size_frz (w : World) (a : Addr) (n : Nat) : (w.freeze a n).heap.size = w.heap.size := by
  unfold World.freeze; split <;> simp
theorem begin_p4 {Post : Value → World → Prop} {C : Ctx} {y : World} {c : Frame} {cs : List Frame} {N rb rv fv tv tb n wk st fb : Nat} {cap : Array Value} {R : World → World → Prop} {x0 : World} {vf u6 u7 u8 u9 u10 u11 u12 u13 u14 u16 u17 u18 u19 u20 u21 u22 u23 u24 u25 u26 u27 u28 u29 u30 u31 u32 u33 u34 : Value}
    (hd : C.d = 0) (hh : C.h < C.n) (hlo : C.lo ≤ N) (hM : Mild1 Post N x0 fb cap R) (hag : ∀ r, r < N → y.heap[r]? = x0.heap[r]?) (hvf : vf = .func (.func fb) #[] cap)
    (hfv : y.heap[fv]? = some (.cells #[vf] 40 (0, 0))) (htv : y.heap[tv]? = some (.cells #[P0 tb] 33 (0, 0))) (htb : y.heap[tb]? = some (.cells (newThread rb n wk st) 184 (0, 0)))
    (hwk : y.heap[wk]? = some (.chan 0 #[] false 0 0 false)) (hst : y.heap[st]? = some (.chan 0 #[] false 0 0 false)) (hne : wk ≠ st) (hN : N ≤ fv ∧ N ≤ tv ∧ N ≤ tb ∧ N ≤ wk ∧ N ≤ st)
    (hown : ∀ i s, i ≠ C.h → C.Ch i = some s → s.c ≠ wk ∧ s.c ≠ st) (hnone : C.Ch C.n = none)
    (hend : ∀ Ch' z0 z1 z2, (∀ i, i ≠ C.h → Ch' i = C.Ch i) → (∀ r, r ≠ tv → r ≠ tb → r ≠ wk → z0.heap[r]? = y.heap[r]?) → z0.heap.size = y.heap.size → R z0 z1 → (∀ r, r ≠ tb → r ≠ st → z2.heap[r]? = z1.heap[r]?) → z2.heap.size = z1.heap.size → z2.heap[tb]? = some (.cells ((newThread rb n wk st).setIfInBounds 13 (.bool true)) 184 (2, 4)) →
      JG Try.prog Post { Ch := Ch', h := C.h, d := 0, n := C.n + 1, lo := C.lo, io := C.io } (G (c.finish (P0 tb)) cs) z2) :
    JG Try.prog Post C (G ((base 130).at ⟨#[P0 rb, vf, P0 rv, P0 fv, .pointer none, P0 tv, u6, u7, u8, u9, u10, u11, u12, u13, u14, P0 tb, u16, u17, u18, u19, u20, u21, u22, u23, u24, u25, u26, u27, u28, u29, u30, u31, u32, u33, u34, undef, undef, undef, undef], []⟩ [.code (Code.from (Try.f130.body.getD .skip) 4)]) (c :: cs)) y := by
  simp only [Try.f130, Option.getD_some, Code.from]
  have b1 : tv ≠ tb := by rintro rfl; rw [htv] at htb; simp [newThread] at htb
  have b2 : fv ≠ tv := by rintro rfl; rw [hfv] at htv; simp [hvf] at htv
  have b3 : fv ≠ tb := by rintro rfl; rw [hfv] at htb; simp [newThread] at htb
  have b4 : wk ≠ tv := by rintro rfl; rw [hwk] at htv; cases htv
  have b5 : wk ≠ tb := by rintro rfl; rw [hwk] at htb; cases htb
  have b6 : wk ≠ fv := by rintro rfl; rw [hwk] at hfv; cases hfv
  have b7 : st ≠ tv := by rintro rfl; rw [hst] at htv; cases htv
  have b8 : st ≠ tb := by rintro rfl; rw [hst] at htb; cases htb
  have b9 : st ≠ fv := by rintro rfl; rw [hst] at hfv; cases hfv
  refine JG.freeze (ad := th tv 0) (n := 1) (Nat.le_trans hlo hN.2.1) (JG.freeze (ad := th tb 2) (n := 2) (Nat.le_trans hlo hN.2.2.1) ?_)
  obtain ⟨z, hz⟩ : ∃ z, z = (y.freeze (th tv 0) 1).freeze (th tb 2) 2 := ⟨_, rfl⟩
  rw [← hz]
  have hzo : ∀ r, r ≠ tv → r ≠ tb → z.heap[r]? = y.heap[r]? := fun r h1 h2 => by rw [hz, heap_frz_ne h2, heap_frz_ne h1]
  have hzs : z.heap.size = y.heap.size := by rw [hz, size_frz, size_frz]
  have ztv : z.heap[tv]? = some (.cells #[P0 tb] 33 (0, 1)) := by rw [hz, heap_frz_ne b1]; exact heap_frz (by decide) htv
  have ztb : z.heap[tb]? = some (.cells (newThread rb n wk st) 184 (2, 4)) := by rw [hz]; exact heap_frz (by decide) (by rw [heap_frz_ne b1.symm]; exact htb)
  have zwk : z.heap[wk]? = some (.chan 0 #[] false 0 0 false) := by rw [hzo wk b4 b5]; exact hwk
  have zst : z.heap[st]? = some (.chan 0 #[] false 0 0 false) := by rw [hzo st b7 b8]; exact hst
  have zfv : z.heap[fv]? = some (.cells #[vf] 40 (0, 0)) := by rw [hzo fv b2 b3]; exact hfv
  clear hz
  have hlt : ∀ r o, z.heap[r]? = some o → r < z.heap.size := fun r o h => (Array.getElem?_eq_some_iff.1 h).1
  repeat first | refine JG.seq ?_ | refine JG.skip ?_ | refine JG.inBlock ?_ | refine JG.block ?_ | refine JG.done ?_ | refine JG.label ?_
  refine JG.region ?_
  simp only [List.size_toArray, List.length_cons, List.length_nil, Nat.reduceAdd, Nat.zero_add, List.range, List.range.loop]
  refine jgo rfl rfl (by rfl) (by decide) (fun K E hK hE τ d => ?_)
  go_simp
  refine hK _ _ (JG.tap ?_)
  clear hK hE K E τ d
  try walk_nrm
  refine JG.hire (d := bornD rv tv fv) (f := .func 151) (c := #[P0 rv, P0 tv, P0 fv]) hd rfl (by rfl) (by decide) (fun w => by simp [go_sem, execOp, Act.eval, resolve, Deferred.ofValue, bornD]) rfl (fun w => by simp [go_sem, execOp, Act.eval, resolve, Deferred.ofValue])
    (bornChair Post rv tv fv tb wk st) ⟨hlt _ _ zwk, ⟨0, zwk⟩, fun i s h1 h2 => (hown i s h1 h2).1, ?_⟩ ?_ ?_ ?_
  · rintro a v (⟨rfl, rfl⟩ | ⟨rfl, rfl⟩)
    · rw [cell_obj ztv]; rfl
    · rw [cell_obj ztb]; rfl
  · rintro a v (⟨rfl, rfl⟩ | ⟨rfl, rfl⟩)
    · simp [World.frozen?, th, ztv]
    · simp [World.frozen?, th, ztb]
  · exact born_sits (by omega) (by have := hlt _ _ ztv; have := hlt _ _ ztb; omega)
  try walk_nrm
  repeat first | refine JG.seq ?_ | refine JG.skip ?_ | refine JG.inBlock ?_ | refine JG.block ?_ | refine JG.done ?_ | refine JG.label ?_
  refine JG.region ?_
  simp only [List.size_toArray, List.length_cons, List.length_nil, Nat.reduceAdd, Nat.zero_add, List.range, List.range.loop]
  refine jgo rfl rfl (by rfl) (by decide) (fun K E hK hE τ d => ?_)
  have hfact := (under_cell _ τ d _).trans ((show z.cell? (th tv 0) = some (P0 tb) by rw [cell_obj ztv]; rfl))
  go_simp
  refine hK _ _ (JG.tap ?_)
  clear hfact hK hE K E τ d
  try walk_nrm
  refine JG.call (f := 132) (args := #[P0 tb]) rfl (by rfl) (by decide) (fun w => ?_) (fun w => ?_) ?_
  iterate 2 (focus obtain ⟨fn, h1, h2, h3⟩ : HasBody 132 := ⟨_, Try.func132, by kernel_rfl, by kernel_rfl⟩; have h4 : ¬ fn.name = "runtime.NumGoroutine" := (by simpa using h2); have h5 : ¬ fn.body = none := (by intro e; rw [e] at h3; cases h3); simp [go_sem, execOp, Act.eval, resolve, Deferred.ofValue, invoke, callFunc, h1, h4, h5])
  have hnh : C.n ≠ C.h := by omega
  refine goes_J (j := C.n) (sj := bornChair Post rv tv fv tb wk st) (st := st) rfl hnh (upd_same _ _ _) (by rw [cell_obj ztb]; rfl) (by rw [cell_obj ztb]; rfl) ⟨hlt _ _ zst, ⟨0, zst⟩, fun i s h1 h2 => ?_, ?_⟩ (by simp [World.frozen?, th, ztb]) ?_
  · by_cases hi : i = C.n
    · subst hi
      have h2 := (upd_same _ _ _).symm.trans h2
      obtain rfl := Option.some.inj h2
      exact hne
    · exact (hown i s h1 ((upd_ne C.Ch _ hi).symm.trans h2)).2
  · rintro a v ⟨rfl, rfl⟩
    rw [cell_obj ztb]; rfl
  intro g₂ kk hg hcc
  obtain ⟨z0, hz0⟩ : ∃ z0, z0 = z.setChan wk 0 #[] false (kk + 1) (kk + 1) false := ⟨_, rfl⟩
  change JG _ _ _ _ (z.setChan wk 0 #[] false (kk + 1) (kk + 1) false)
  rw [← hz0]
  have h0 : ∀ r, r ≠ wk → z0.heap[r]? = z.heap[r]? := fun r h => by rw [hz0]; exact heap_chan_ne h
  have s0 : z0.heap.size = z.heap.size := by rw [hz0, size_chan]
  clear hz0 hcc
  have otv := (h0 tv b4.symm).trans ztv
  have otb := (h0 tb b5.symm).trans ztb
  have ofv := (h0 fv b6.symm).trans zfv
  have ost := (h0 st hne.symm).trans zst
  have t0 : z0.cell? (th tv 0) = some (P0 tb) := by rw [cell_obj otv]; rfl
  refine hg _ z0 unitV fb cap hM.body (by rw [cell_obj ofv, hvf]; rfl) t0 fun cb hcb => ?_
  have hl0 : ∀ r o, z0.heap[r]? = some o → r < z0.heap.size := fun r o h => (Array.getElem?_eq_some_iff.1 h).1
  refine hM.spec _ z0 cb _ tb rb (by have := hl0 _ _ otv; omega) (fun r h => by rw [h0 r (by omega), hzo r (by omega) (by omega), hag r h]) (by omega) (by rw [cell_obj otb]; rfl) (by rw [cell_obj otb]; rfl) fun v z1 hR => ?_
  obtain ⟨hR1, hR2⟩ := hM.keeps _ _ hR
  have ptv := (hR2 tv hN.2.1 (hl0 _ _ otv)).trans otv
  have ptb := (hR2 tb hN.2.2.1 (hl0 _ _ otb)).trans otb
  have pst := (hR2 st hN.2.2.2.2 (hl0 _ _ ost)).trans ost
  refine hcb _ z1 v ⟨C.h, _, false, rfl, by show 0 < C.n; omega, fun h => hnh h.symm, upd_same _ _ _, rfl, by rw [cell_obj ptv]; rfl, by rw [cell_obj ptb]; rfl, by rw [cell_obj ptb]; rfl, by simp [World.frozen?, th, ptb], ?_⟩
  intro g₃ k₃ hg₃ hc₃
  refine hg₃ _ _ _ ?_
  rw [Frame.finish_at]
  obtain ⟨z2, hz2⟩ : ∃ z2, z2 = (z1.setCell (th tb 13) (.bool true)).setChan st 0 #[] false (k₃ + 1) (k₃ + 1) false := ⟨_, rfl⟩
  rw [← hz2]
  have h2 : ∀ r, r ≠ tb → r ≠ st → z2.heap[r]? = z1.heap[r]? := fun r e1 e2 => by rw [hz2, heap_chan_ne e2, heap_set_ne e1]
  have s2 : z2.heap.size = z1.heap.size := by rw [hz2, size_chan, size_set]
  have qtb : z2.heap[tb]? = some (.cells ((newThread rb n wk st).setIfInBounds 13 (.bool true)) 184 (2, 4)) := by
    rw [hz2, heap_chan_ne b8.symm]; exact heap_set_self ptb
  have qtv := (h2 tv b1 b7.symm).trans ptv
  clear hz2
  repeat first | refine JG.seq ?_ | refine JG.skip ?_ | refine JG.inBlock ?_ | refine JG.block ?_ | refine JG.done ?_ | refine JG.label ?_
  walk_nrm
  refine JG.region ?_
  simp only [List.size_toArray, List.length_cons, List.length_nil, Nat.reduceAdd, Nat.zero_add, List.range, List.range.loop]
  refine jgo rfl rfl (by rfl) (by decide) (fun K E hK hE τ d => ?_)
  have hfact := (under_cell _ τ d _).trans ((show z2.cell? (th tv 0) = some (P0 tb) by rw [cell_obj qtv]; rfl))
  go_simp
  refine hK _ _ (JG.tap ?_)
  clear hfact hK hE K E τ d
  try walk_nrm
  refine jgo rfl rfl (by rfl) (by decide) (fun K E hK hE τ d => ?_)
  go_simp
  refine hK _ _ (JG.tap ?_)
  clear hK hE K E τ d
  try walk_nrm
  repeat first | refine JG.seq ?_ | refine JG.skip ?_ | refine JG.inBlock ?_ | refine JG.block ?_ | refine JG.done ?_ | refine JG.label ?_
  refine JG.ret ?_
  refine JG.leave rfl rfl Try.func130 (fun τ d => ?_) (hend _ z0 z1 z2 (fun i hi => ?_) (fun r e1 e2 e3 => (h0 r e3).trans (hzo r e1 e2)) (s0.trans hzs) hR h2 s2 qtb)
  · exact results_tmp (t := 4) rfl _ _ _
  · show upd (upd (upd C.Ch C.n _) C.h _) C.n none i = C.Ch i
    by_cases h : i = C.n
    · rw [h, upd_same]; exact hnone.symm
    · rw [upd_ne _ _ h, upd_ne _ _ hi, upd_ne _ _ h]
end Go.Proofs.Ytecmobjiepgfjaa
