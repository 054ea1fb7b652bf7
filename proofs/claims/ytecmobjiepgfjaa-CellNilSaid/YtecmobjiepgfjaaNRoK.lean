/- Joined of the texts RoI, RoJ, RoK; what each proves, and its conditions, stand ahead of it. -/
import Derived.Test.YtecmobjiepgfjaaNRoH
/- CellNil's thread: it calls what a cell that is none does. -/
namespace Go.Proofs.Ytecmobjiepgfjaa
open Go.Conc Go.RowKit
open Go.ConcN (upd upd_same upd_ne)
set_option linter.unusedSimpArgs false
set_option linter.unusedVariables false
set_option maxRecDepth 100000
/-- Beside one number: blocks that stand as they stood. -/
def keptMore (A : Nat → Nat) (x1 : World) (Kr : Nat → Prop) (gb : Nat) (hA : ∀ i, i < 0 → True) : More Int A 0 where
  M := fun sh col x => (∀ r, Kr r → r < x.heap.size ∧ ¬ col r ∧ x.heap[r]? = x1.heap[r]?) ∧ x.heap[gb]? = some (.cells #[.int .i64 sh] 2 (0, 0)) ∧ ¬ col gb
  frame := fun {sh col x} hM col' y hs ho hc => by
    obtain ⟨h1, h3, h4⟩ := hM
    have l3 := (Array.getElem?_eq_some_iff.1 h3).1
    refine ⟨fun r hr => ?_, (ho _ l3 h4 fun i hi => absurd hi (Nat.not_lt_zero i)).trans h3, fun e => h4 (hc _ l3 e)⟩
    obtain ⟨q1, q2, q3⟩ := h1 r hr
    exact ⟨by omega, fun e => q2 (hc _ q1 e), (ho _ q1 q2 fun i hi => absurd hi (Nat.not_lt_zero i)).trans q3⟩
abbrev nilSide (x1 : World) (Kr : Nat → Prop) (gb : Nat) : Side Int := cellSide (fun _ => 0) 0 (fun a b ha _ _ => absurd ha (Nat.not_lt_zero a)) (keptMore (fun _ => 0) x1 Kr gb fun _ _ => trivial)
def nilP : Prog Int Unit := .act (fun _ => 0) fun _ => .ret ()
/-- What CellNil has laid. -/
structure NilAt (x1 : World) (lb ib xb ab : Nat) (i : Nat) (op a e : Int) (v : Value) : Prop where
  bl : x1.heap[lb]? = some (.cells #[.slice (some ⟨ab, 0, none⟩) 2 2] 28 (0, 0))
  bi : x1.heap[ib]? = some (.cells #[.int .i64 i] 3 (0, 0))
  bx : x1.heap[xb]? = some (.cells #[.int .i8 op, .int .i64 0, .int .i64 a, .int .i64 e] 38 (0, 0))
  ba : x1.cell? (th ab i) = some v
  bv : NoneAt x1 v
section
variable {Post : Value → World → Prop} {x1 : World} {Kr : Nat → Prop} {lb ib xb ab gb i m : Nat} {op a e : Int} {v : Value}
set_option maxHeartbeats 4000000 in
theorem nil_b (hN : NilAt x1 lb ib xb ab i op a e v) (hi : i = 0 ∨ i = 1) (hK : Kr lb ∧ Kr ib ∧ Kr xb ∧ Kr ab ∧ ∀ b, v = P0 b → Kr b) (hg : ¬ Kr gb) : BodyOK Post (nilSide x1 Kr gb) m 30 #[P0 lb, P0 ib, P0 xb, P0 gb] nilP := by
  refine ⟨⟨_, Try.func30, by kernel_rfl, by kernel_rfl⟩, fun C x col sh cells tb rb cbf hd hL hct hcb hI R => ?_⟩
  obtain ⟨hI0, hI1, hI2, hI3⟩ := hI
  have hs : ∀ r, Kr r → x.heap[r]? = x1.heap[r]? := fun r hr => (hI1 r hr).2.2
  have kl : x.cell? (th lb 0) = some (.slice (some ⟨ab, 0, none⟩) 2 2) := cell_obj ((hs lb hK.1).trans hN.bl) 0
  have ki : x.cell? (th ib 0) = some (.int .i64 i) := cell_obj ((hs ib hK.2.1).trans hN.bi) 0
  have hx := (hs xb hK.2.2.1).trans hN.bx
  have kx0 : x.cell? (th xb 0) = some (.int .i8 op) := cell_obj hx 0
  have kx1 : x.cell? (th xb 1) = some (.int .i64 0) := cell_obj hx 1
  have kx2 : x.cell? (th xb 2) = some (.int .i64 a) := cell_obj hx 2
  have kx3 : x.cell? (th xb 3) = some (.int .i64 e) := cell_obj hx 3
  have ka : x.cell? (th ab i) = some v := by
    have := hN.ba
    simp only [World.cell?] at this ⊢
    rw [hs ab hK.2.2.2.1]; exact this
  have kv : NoneAt x v := hN.bv.imp id fun ⟨b, e1, e2⟩ => ⟨b, e1, by
    simp only [World.cell?] at e2 ⊢
    rw [hs b (hK.2.2.2.2 b e1)]; exact e2⟩
  have kg : x.cell? (th gb 0) = some (.int .i64 sh) := cell_obj hI2 0
  have R' : ∀ y, x.heap.size ≤ y.heap.size → (∀ r, col r → y.heap[r]? = x.heap[r]?) → (nilSide x1 Kr gb).I 0 cells col y → ∀ v, JG Try.prog Post C (G (cbf.finish v) [rootF Try.prog]) y := R
  have hEnd : ∀ y, OldStand x y → JG Try.prog Post C (G (cbf.finish (.tuple #[])) [rootF Try.prog]) (y.setCell (th gb 0) (.int .i64 0)) := fun y hy => by
    have lg := (Array.getElem?_eq_some_iff.1 hI2).1
    refine R' _ (by rw [size_set]; exact hy.1) (fun r hr => ?_) ⟨fun i hi => absurd hi (Nat.not_lt_zero i), fun r hr => ?_, ?_, hI3⟩ _
    · rw [heap_set_ne (fun e => hI3 (by rw [← e]; exact hr)), hy.2 r (hcb r hr)]
    · obtain ⟨q1, q2, q3⟩ := hI1 r hr
      exact ⟨by rw [size_set]; have := hy.1; omega, q2, by rw [heap_set_ne (fun e => hg (by rw [← e]; exact hr)), hy.2 r q1]; exact q3⟩
    · rw [heap_set_self ((hy.2 gb lg).trans hI2)]; rfl
  replace hEnd := Lib.hid hEnd
  replace kv := Lib.hid kv
  have kgo := Lib.hid hI2
  have h0 : (0 : Int) ≤ i := by omega
  clear R R' hI0 hI1 hI2 hI3 hs hx hN hK
  rcases hi with rfl | rfl
  all_goals (
    refine enterN Try.func30 (by rfl) (by rfl) ?_
    simp only [Try.f30, Option.getD_some]
    walk_nrm
    refine JG.drawTail 5 (by kernel_rfl) (by kernel_rfl) (by rfl) (by decide) (fun τ d => ?_)
    simp only [List.take_succ_cons, List.take_zero]
    have kl' := (under_cell x τ d _).trans kl
    have ki' := (under_cell x τ d _).trans ki
    have kx0' := (under_cell x τ d _).trans kx0
    have kx1' := (under_cell x τ d _).trans kx1
    have kx2' := (under_cell x τ d _).trans kx2
    have kx3' := (under_cell x τ d _).trans kx3
    repeat still_step
    refine wpStill_nil ?_
    simp only [List.length_cons, List.length_nil, Nat.reduceAdd, Nat.reduceSub, List.range'_succ, List.range'_zero]
    clear kl' ki' kx0' kx1' kx2' kx3' τ d)
  · refine JG.call (f := 16) (args := #[.slice (some ⟨ab, 0, none⟩) 2 2, P0 tb, .agg #[.int .i8 op, .int .i64 0, .int .i64 a, .int .i64 e]]) rfl (by rfl) (by decide) (fun w => ?_) (fun w => ?_) ?_
    iterate 2 (focus obtain ⟨fn, h1, h2, h3⟩ : HasBody 16 := ⟨_, Try.func16, by kernel_rfl, by kernel_rfl⟩; have h4 : ¬ fn.name = "runtime.NumGoroutine" := (by simpa using h2); have h5 : ¬ fn.body = none := (by intro e; rw [e] at h3; cases h3); simp [go_sem, execOp, Act.eval, resolve, Deferred.ofValue, invoke, callFunc, h1, h4, h5])
    refine callNone_J (by decide) ka kv.out (fun y hy => ?_)
    rw [Frame.finish_at]
    walk_nrm
    have kg' := hy.cell kg
    have fg' : y.frozen? (th gb 0) = false := by have := (hy.2 gb (cell_lt kg)).trans kgo.out; exact frozen_obj this 0
    replace hy := Lib.hid hy
    refine jgo rfl rfl (by rfl) (by decide) (fun K E hK hE τ d => ?_)
    obtain ⟨hfact, hfact2⟩ := And.intro kg' fg'
    replace hfact := (under_cell _ τ d _).trans hfact
    replace hfact2 := (under_frozen _ τ d _).trans hfact2
    go_simp
    refine hK _ _ ?_
    rw [under_setCell]
    refine JG.tap ?_
    clear hfact hfact2 hK hE K E τ d
    try walk_nrm
    clear kg' fg'
    repeat first | refine JG.seq ?_ | refine JG.skip ?_ | refine JG.inBlock ?_ | refine JG.block ?_ | refine JG.done ?_ | refine JG.label ?_ | refine JG.condT rfl ?_ | refine JG.condF rfl ?_ | (refine JG.region ?_; simp only [List.size_toArray, List.length_cons, List.length_nil, Nat.reduceAdd, Nat.zero_add, List.range, List.range.loop]) | (refine JG.unwanted rfl (by rfl) ?_; try walk_nrm) | (refine jgo rfl rfl (by rfl) (by decide) (fun K E hK hE τ d => ?_); go_simp; refine hK _ _ (JG.tap ?_); clear hK hE K E τ d; try walk_nrm)
    first | refine JG.fin ?_ | refine JG.done (JG.fin ?_)
    exact JG.leave0 rfl rfl Try.func30 (by rfl) (hEnd.out y hy.out)
  · refine JG.call (f := 16) (args := #[.slice (some ⟨ab, 1, none⟩) 1 1, P0 tb, .agg #[.int .i8 op, .int .i64 0, .int .i64 a, .int .i64 e]]) rfl (by rfl) (by decide) (fun w => ?_) (fun w => ?_) ?_
    iterate 2 (focus obtain ⟨fn, h1, h2, h3⟩ : HasBody 16 := ⟨_, Try.func16, by kernel_rfl, by kernel_rfl⟩; have h4 : ¬ fn.name = "runtime.NumGoroutine" := (by simpa using h2); have h5 : ¬ fn.body = none := (by intro e; rw [e] at h3; cases h3); simp [go_sem, execOp, Act.eval, resolve, Deferred.ofValue, invoke, callFunc, h1, h4, h5])
    refine callNone_J (by decide) ka kv.out (fun y hy => ?_)
    rw [Frame.finish_at]
    walk_nrm
    have kg' := hy.cell kg
    have fg' : y.frozen? (th gb 0) = false := by have := (hy.2 gb (cell_lt kg)).trans kgo.out; exact frozen_obj this 0
    replace hy := Lib.hid hy
    refine jgo rfl rfl (by rfl) (by decide) (fun K E hK hE τ d => ?_)
    obtain ⟨hfact, hfact2⟩ := And.intro kg' fg'
    replace hfact := (under_cell _ τ d _).trans hfact
    replace hfact2 := (under_frozen _ τ d _).trans hfact2
    go_simp
    refine hK _ _ ?_
    rw [under_setCell]
    refine JG.tap ?_
    clear hfact hfact2 hK hE K E τ d
    try walk_nrm
    clear kg' fg'
    repeat first | refine JG.seq ?_ | refine JG.skip ?_ | refine JG.inBlock ?_ | refine JG.block ?_ | refine JG.done ?_ | refine JG.label ?_ | refine JG.condT rfl ?_ | refine JG.condF rfl ?_ | (refine JG.region ?_; simp only [List.size_toArray, List.length_cons, List.length_nil, Nat.reduceAdd, Nat.zero_add, List.range, List.range.loop]) | (refine JG.unwanted rfl (by rfl) ?_; try walk_nrm) | (refine jgo rfl rfl (by rfl) (by decide) (fun K E hK hE τ d => ?_); go_simp; refine hK _ _ (JG.tap ?_); clear hK hE K E τ d; try walk_nrm)
    first | refine JG.fin ?_ | refine JG.done (JG.fin ?_)
    exact JG.leave0 rfl rfl Try.func30 (by rfl) (hEnd.out y hy.out)
end
end Go.Proofs.Ytecmobjiepgfjaa
/- CellNil's round: one cell that is none, called free and by a thread. -/
namespace Go.Proofs.Ytecmobjiepgfjaa
open Go.Conc Go.RowKit
open Go.ConcN (upd upd_same upd_ne)
set_option linter.unusedSimpArgs false
set_option linter.unusedVariables false
set_option maxRecDepth 100000
theorem nilrun : ((Play.init 1 fun _ => 0).start [nilP]).runs (picked []) 9 = (1, ((Play.init 1 fun _ => 0).start [nilP])) := Play.runs_over rfl
theorem NilAt.of {x y : World} {lb ib xb ab i : Nat} {op a e : Int} {v : Value} (h : NilAt x lb ib xb ab i op a e v) (o : OldStand x y) : NilAt y lb ib xb ab i op a e v :=
  ⟨(o.2 _ (Array.getElem?_eq_some_iff.1 h.bl).1).trans h.bl, (o.2 _ (Array.getElem?_eq_some_iff.1 h.bi).1).trans h.bi, (o.2 _ (Array.getElem?_eq_some_iff.1 h.bx).1).trans h.bx, o.cell h.ba, h.bv.imp id fun ⟨b, e1, e2⟩ => ⟨b, e1, o.cell e2⟩⟩
section
variable {Post : Value → World → Prop} {cs : List Frame}
set_option maxHeartbeats 8000000 in
theorem nil_round {C : Ctx} {y : World} {lb ib xb ab i : Nat} {op a e : Int} {v : Value} {u0 u2 u4 u7 u8 u9 u10 u11 u12 u13 u14 u15 u16 u17 u18 u19 u20 u21 u22 u23 u24 u25 u26 u27 u28 u29 u30 u31 u32 u33 u34 u35 u36 u37 u38 u39 u40 u41 : Value} (hC : C.Alone y.heap.size) (hN : NilAt y lb ib xb ab i op a e v) (hi : i = 0 ∨ i = 1)
    (h : ∀ (C' : Ctx) (z : World) (ib' : Nat) (u0 u2 u4 u7 u8 u9 u10 u11 u12 u13 u14 u15 u16 u17 u18 u19 u20 u21 u22 u23 u24 u25 u26 u27 u28 u29 u30 u31 u32 u33 u34 u35 u36 u37 u38 u39 u40 u41 : Value), OldStand y z → z.heap[ib']? = some (.cells #[.int .i64 ((i + 1 : Nat) : Int)] 3 (0, 0)) → y.heap.size ≤ ib' → C.Same C' → C'.Alone z.heap.size → JG Try.prog Post C' (G ((base 5).at ⟨List.toArray (u0 :: (P0 xb) :: u2 :: (.bool true) :: u4 :: (P0 lb) :: (P0 ib') :: u7 :: u8 :: u9 :: u10 :: u11 :: u12 :: u13 :: u14 :: u15 :: u16 :: u17 :: u18 :: u19 :: u20 :: u21 :: u22 :: u23 :: u24 :: u25 :: u26 :: u27 :: u28 :: u29 :: u30 :: u31 :: u32 :: u33 :: u34 :: u35 :: u36 :: u37 :: u38 :: u39 :: u40 :: u41 :: []), []⟩ [.code (Code.nav (Try.f5.body.getD .skip) [1, 1, 1, 1, 1, 0, 1, 0, 0]), .inLoop (Code.nav (Try.f5.body.getD .skip) [1, 1, 1, 1, 1, 0, 1, 0, 0]), .inBlock 0, .code (Code.nav (Try.f5.body.getD .skip) [1, 1, 1, 1, 1, 1])]) cs) z) :
    JG Try.prog Post C (G ((base 5).at ⟨List.toArray (u0 :: (P0 xb) :: u2 :: (.bool true) :: u4 :: (P0 lb) :: (P0 ib) :: u7 :: u8 :: u9 :: u10 :: u11 :: u12 :: u13 :: u14 :: u15 :: u16 :: u17 :: u18 :: u19 :: u20 :: u21 :: u22 :: u23 :: u24 :: u25 :: u26 :: u27 :: u28 :: u29 :: u30 :: u31 :: u32 :: u33 :: u34 :: u35 :: u36 :: u37 :: u38 :: u39 :: u40 :: u41 :: []), []⟩ [.code (Code.nav (Try.f5.body.getD .skip) [1, 1, 1, 1, 1, 0, 1, 0, 0]), .inLoop (Code.nav (Try.f5.body.getD .skip) [1, 1, 1, 1, 1, 0, 1, 0, 0]), .inBlock 0, .code (Code.nav (Try.f5.body.getD .skip) [1, 1, 1, 1, 1, 1])]) cs) y := by
  simp only [Try.f5, Option.getD_some, Code.nav] at h ⊢
  have kl : y.cell? (th lb 0) = some (.slice (some ⟨ab, 0, none⟩) 2 2) := cell_obj hN.bl 0
  have ki : y.cell? (th ib 0) = some (.int .i64 i) := cell_obj hN.bi 0
  have kx0 : y.cell? (th xb 0) = some (.int .i8 op) := cell_obj hN.bx 0
  have kx1 : y.cell? (th xb 1) = some (.int .i64 0) := cell_obj hN.bx 1
  have kx2 : y.cell? (th xb 2) = some (.int .i64 a) := cell_obj hN.bx 2
  have kx3 : y.cell? (th xb 3) = some (.int .i64 e) := cell_obj hN.bx 3
  have ka := hN.ba
  have hv := hN.bv
  replace h := Lib.hid h
  replace hC := Lib.hid hC
  replace hN := Lib.hid hN
  replace hv := Lib.hid hv
  have hi0 := hi
  rcases hi with rfl | rfl
  · repeat first | refine JG.seq ?_ | refine JG.skip ?_ | refine JG.inBlock ?_ | refine JG.block ?_ | refine JG.done ?_ | refine JG.label ?_ | refine JG.condT rfl ?_ | refine JG.condF rfl ?_ | (refine JG.region ?_; simp only [List.size_toArray, List.length_cons, List.length_nil, Nat.reduceAdd, Nat.zero_add, List.range, List.range.loop]) | (refine JG.unwanted rfl (by rfl) ?_; try walk_nrm) | (refine jgo rfl rfl (by rfl) (by decide) (fun K E hK hE τ d => ?_); go_simp; refine hK _ _ (JG.tap ?_); clear hK hE K E τ d; try walk_nrm) | (refine jgo rfl rfl (by rfl) (by decide) (fun K E hK hE τ d => ?_); have hfact := (under_cell _ τ d _).trans (ki); go_simp; refine hK _ _ (JG.tap ?_); clear hfact hK hE K E τ d; try walk_nrm)
    refine JG.drawTail 4 (by kernel_rfl) (by kernel_rfl) (by rfl) (by decide) (fun τ d => ?_)
    simp only [List.take_succ_cons, List.take_zero]
    have kl' := (under_cell y τ d _).trans kl
    have ki' := (under_cell y τ d _).trans ki
    have kx0' := (under_cell y τ d _).trans kx0
    have kx1' := (under_cell y τ d _).trans kx1
    have kx2' := (under_cell y τ d _).trans kx2
    have kx3' := (under_cell y τ d _).trans kx3
    repeat still_step
    refine wpStill_nil ?_
    simp only [List.length_cons, List.length_nil, Nat.reduceAdd, Nat.reduceSub, List.range'_succ, List.range'_zero]
    clear kl' ki' kx0' kx1' kx2' kx3' τ d kl ki kx0 kx1 kx2 kx3
    refine JG.call (f := 16) (args := #[.slice (some ⟨ab, 0, none⟩) 2 2, .pointer none, .agg #[.int .i8 op, .int .i64 0, .int .i64 a, .int .i64 e]]) rfl (by rfl) (by decide) (fun w => ?_) (fun w => ?_) ?_
    iterate 2 (focus obtain ⟨fn, h1, h2, h3⟩ : HasBody 16 := ⟨_, Try.func16, by kernel_rfl, by kernel_rfl⟩; have h4 : ¬ fn.name = "runtime.NumGoroutine" := (by simpa using h2); have h5 : ¬ fn.body = none := (by intro e; rw [e] at h3; cases h3); simp [go_sem, execOp, Act.eval, resolve, Deferred.ofValue, invoke, callFunc, h1, h4, h5])
    refine callNone_J (by decide) ka hv.out (fun y1 o1 => ?_)
    rw [Frame.finish_at]
    walk_nrm
    repeat first | refine JG.seq ?_ | refine JG.skip ?_ | refine JG.inBlock ?_ | refine JG.block ?_ | refine JG.done ?_ | refine JG.label ?_ | refine JG.condT rfl ?_ | refine JG.condF rfl ?_ | (refine JG.region ?_; simp only [List.size_toArray, List.length_cons, List.length_nil, Nat.reduceAdd, Nat.zero_add, List.range, List.range.loop]) | (refine JG.unwanted rfl (by rfl) ?_; try walk_nrm) | (refine jgo rfl rfl (by rfl) (by decide) (fun K E hK hE τ d => ?_); go_simp; refine hK _ _ (JG.tap ?_); clear hK hE K E τ d; try walk_nrm)
    refine jgo rfl rfl (by rfl) (by decide) (fun K E hK hE τ d => ?_)
    go_simp
    refine hK _ _ (JG.tap (x := y1.alloc (.cells #[.int .i64 0] 2)) ?_)
    simp only [under_size]
    clear hK hE K E τ d
    have g0 : (y1.alloc (.cells #[.int .i64 0] 2)).heap[y1.heap.size]? = some (.cells #[.int .i64 0] 2 (0, 0)) := heap_alloc_new y1 _
    have o2 : OldStand y (y1.alloc (.cells #[.int .i64 0] 2)) := o1.alloc _
    generalize y1.alloc (.cells #[.int .i64 0] 2) = y2 at g0 o2 ⊢
    have o1s := o1.1
    generalize hgb : y1.heap.size = gb at g0 o1s ⊢
    refine jgo rfl rfl (by rfl) (by decide) (fun K E hK hE τ d => ?_)
    obtain ⟨hfact, hfact2⟩ := And.intro (cell_obj g0 0) (frozen_obj g0 0)
    replace hfact := (under_cell _ τ d _).trans hfact
    replace hfact2 := (under_frozen _ τ d _).trans hfact2
    go_simp
    refine hK _ _ ?_
    rw [under_setCell]
    refine JG.tap ?_
    clear hfact hfact2 hK hE K E τ d
    try walk_nrm
    have g3 : (y2.setCell (th gb 0) (.int .i64 1)).heap[gb]? = some (.cells #[.int .i64 1] 2 (0, 0)) := by rw [heap_set_self g0]; rfl
    have o3 : OldStand y (y2.setCell (th gb 0) (.int .i64 1)) := ⟨by rw [size_set]; exact o2.1, fun r hr => by rw [heap_set_ne (by omega)]; exact o2.2 r hr⟩
    generalize y2.setCell (th gb 0) (.int .i64 1) = y3 at g3 o3 ⊢
    clear g0 o1 o2 hgb
    replace o3 := Lib.hid o3
    repeat first | refine JG.seq ?_ | refine JG.skip ?_ | refine JG.inBlock ?_ | refine JG.block ?_ | refine JG.done ?_ | refine JG.label ?_ | refine JG.condT rfl ?_ | refine JG.condF rfl ?_ | (refine JG.region ?_; simp only [List.size_toArray, List.length_cons, List.length_nil, Nat.reduceAdd, Nat.zero_add, List.range, List.range.loop]) | (refine JG.unwanted rfl (by rfl) ?_; try walk_nrm) | (refine jgo rfl rfl (by rfl) (by decide) (fun K E hK hE τ d => ?_); go_simp; refine hK _ _ (JG.tap ?_); clear hK hE K E τ d; try walk_nrm)
    refine jgo rfl rfl (by rfl) (by decide) (fun K E hK hE τ d => ?_)
    go_simp
    refine hK _ _ (JG.tap (x := y3.alloc (.cells #[.func (.func 30) #[] #[P0 lb, P0 ib, P0 xb, P0 gb]] 40)) ?_)
    simp only [under_size]
    clear hK hE K E τ d
    have f0 : (y3.alloc (.cells #[.func (.func 30) #[] #[P0 lb, P0 ib, P0 xb, P0 gb]] 40)).heap[y3.heap.size]? = some (.cells #[.func (.func 30) #[] #[P0 lb, P0 ib, P0 xb, P0 gb]] 40 (0, 0)) := heap_alloc_new y3 _
    have o4 := (OldStand.refl y3).alloc (.cells #[.func (.func 30) #[] #[P0 lb, P0 ib, P0 xb, P0 gb]] 40)
    generalize y3.alloc (.cells #[.func (.func 30) #[] #[P0 lb, P0 ib, P0 xb, P0 gb]] 40) = w1 at f0 o4 ⊢
    have l3g := (Array.getElem?_eq_some_iff.1 g3).1
    have gw := (o4.2 gb l3g).trans g3
    have ow := o3.out.trans o4
    generalize hbb : y3.heap.size = bb at f0 l3g ⊢
    clear g3 o4
    have lbb := (Array.getElem?_eq_some_iff.1 f0).1
    have hNw := hN.out.of ow
    have q1 := (Array.getElem?_eq_some_iff.1 hN.out.bl).1
    have q2 := (Array.getElem?_eq_some_iff.1 hN.out.bi).1
    have q3 := (Array.getElem?_eq_some_iff.1 hN.out.bx).1
    have q4 : ab < y.heap.size := cell_lt ka
    have q5 : ∀ b, v = P0 b → b < y.heap.size := fun b e => by
      rcases hv.out with h | ⟨b', e1, e2⟩
      · rw [h] at e; cases e
      · have : b' = b := by rw [e1] at e; simpa using e
        rw [← this]; exact cell_lt (a := th b' 1) e2
    have q6 : y.heap.size ≤ bb := by rw [← hbb]; exact o3.out.1
    obtain ⟨Kr, hKr⟩ : ∃ Kr : Nat → Prop, ∀ r, Kr r ↔ (r = lb ∨ r = ib ∨ r = xb ∨ r = ab ∨ v = P0 r) := ⟨_, fun r => Iff.rfl⟩
    have hKl : ∀ r, Kr r → r < y.heap.size := fun r hr => by
      rcases (hKr r).1 hr with rfl | rfl | rfl | rfl | h
      · exact q1
      · exact q2
      · exact q3
      · exact q4
      · exact q5 r h
    have hKg : ¬ Kr gb := fun h => by have := hKl gb h; omega
    replace ow := Lib.hid ow
    replace gw := Lib.hid gw
    replace f0 := Lib.hid f0
    replace hNw := Lib.hid hNw
    replace hKl := Lib.hid hKl
    replace hKr := Lib.hid hKr
    clear q1 q2 q3 q4 q5
    repeat first | refine JG.seq ?_ | refine JG.skip ?_ | refine JG.inBlock ?_ | refine JG.block ?_ | refine JG.done ?_ | refine JG.label ?_ | refine JG.condT rfl ?_ | refine JG.condF rfl ?_ | (refine JG.region ?_; simp only [List.size_toArray, List.length_cons, List.length_nil, Nat.reduceAdd, Nat.zero_add, List.range, List.range.loop]) | (refine JG.unwanted rfl (by rfl) ?_; try walk_nrm) | (refine jgo rfl rfl (by rfl) (by decide) (fun K E hK hE τ d => ?_); go_simp; refine hK _ _ (JG.tap ?_); clear hK hE K E τ d; try walk_nrm)
    refine JG.call (f := 18) (args := #[.slice none 0 0, .int .i64 9, .slice (some ⟨bb, 0, none⟩) 1 1]) rfl (by rfl) (by decide) (fun w => ?_) (fun w => ?_) ?_
    iterate 2 (focus obtain ⟨fn, h1, h2, h3⟩ : HasBody 18 := ⟨_, Try.func18, by kernel_rfl, by kernel_rfl⟩; have h4 : ¬ fn.name = "runtime.NumGoroutine" := (by simpa using h2); have h5 : ¬ fn.body = none := (by intro e; rw [e] at h3; cases h3); simp [go_sem, execOp, Act.eval, resolve, Deferred.ofValue, invoke, callFunc, h1, h4, h5])
    refine run_R (S := nilSide w1 Kr gb) (Kp := fun r => (r < y.heap.size ∧ ¬ Kr r) ∨ r = bb) (picks := []) (most := 9) (m := 9) (bodies := [⟨30, #[P0 lb, P0 ib, P0 xb, P0 gb], nilP⟩]) (sh := 1) (cells := fun _ => 0) (by decide) hC.out.d hC.out.h (Nat.le_trans hC.out.lo (by have := ow.out.1; omega)) hC.out.none (fun e => absurd rfl e) (fun j b e => ?_) (show 1 ≤ 64 by decide) (fun r hr => ?_) (fun b hb => ?_) ?_
      (fun Q e' C' z M vL vW vR vl hQ d1 d2 d3 d4 d5 d6 hz hsz hM r1 r2 r3 r4 hI hQn hlv hnm => ?_)
    · refine ⟨bb, rfl, .inr rfl, ?_⟩
      match j, e with
      | 0, e => obtain rfl := Option.some.inj e; exact cell_obj f0.out 0
      | j + 1, e => simp at e
    · rcases hr with h | rfl
      · have := ow.out.1; omega
      · exact lbb
    · rw [List.mem_singleton.1 hb]
      exact nil_b hNw.out hi0 ⟨(hKr.out _).2 (.inl rfl), (hKr.out _).2 (.inr (.inl rfl)), (hKr.out _).2 (.inr (.inr (.inl rfl))), (hKr.out _).2 (.inr (.inr (.inr (.inl rfl)))), fun b e => (hKr.out b).2 (.inr (.inr (.inr (.inr e))))⟩ hKg
    · refine ⟨fun i hi => absurd hi (Nat.not_lt_zero i), fun r hr => ⟨by have := hKl.out r hr; have := ow.out.1; omega, fun h => ?_, rfl⟩, gw.out, fun h => ?_⟩
      · rcases h with h | h
        · exact h.2 hr
        · have := hKl.out r hr; omega
      · rcases h with h | h <;> omega
    rw [Frame.finish_at]
    walk_nrm
    have hq : ((1 : Int), ((Play.init 1 fun _ => 0).start [nilP])) = (e', Q) := nilrun.symm.trans hQ
    have he : e' = 1 := (congrArg Prod.fst hq).symm
    have hQ' : Q = ((Play.init 1 fun _ => 0).start [nilP]) := (congrArg Prod.snd hq).symm
    have hsh : Q.st.sh = 0 := by rw [hQ']; rfl
    have hw0 : Q.st.went.length = 0 := by rw [hQ']; rfl
    have hl0 : Q.st.log.length = 0 := by rw [hQ']; rfl
    have hr0 : Q.st.ready.length = 0 := by rw [hQ']; rfl
    have hf0 : Q.left.length = 0 := by rw [hQ']; rfl
    obtain ⟨_, hI1, hIg, _⟩ := hI
    rw [hsh] at hIg
    rw [hl0] at r1
    rw [hw0] at r2
    rw [hr0] at r3
    rw [hf0] at r4
    obtain ⟨aL, cL, rfl⟩ := own_slice r1
    obtain ⟨aW, cW, rfl⟩ := own_slice r2
    obtain ⟨aR, cR, rfl⟩ := own_slice r3
    obtain ⟨al, cl, rfl⟩ := own_slice r4
    rw [hw0]
    subst he
    have oz : OldStand y z := ⟨by have := ow.out.1; omega, fun r hr => by
      by_cases hk : Kr r
      · exact (hI1 r hk).2.2.trans (ow.out.2 r hr)
      · exact (hz r (.inl ⟨hr, hk⟩)).trans (ow.out.2 r hr)⟩
    clear hq hQ' hsh hw0 hl0 hr0 hf0 hI1 r1 r2 r3 r4 hz f0 gw hNw ow hnm hlv hQ
    replace oz := Lib.hid oz
    repeat first | refine JG.seq ?_ | refine JG.skip ?_ | refine JG.inBlock ?_ | refine JG.block ?_ | refine JG.done ?_ | refine JG.label ?_ | refine JG.condT rfl ?_ | refine JG.condF rfl ?_ | (refine JG.region ?_; simp only [List.size_toArray, List.length_cons, List.length_nil, Nat.reduceAdd, Nat.zero_add, List.range, List.range.loop]) | (refine JG.unwanted rfl (by rfl) ?_; try walk_nrm) | (refine jgo rfl rfl (by rfl) (by decide) (fun K E hK hE τ d => ?_); go_simp; refine hK _ _ (JG.tap ?_); clear hK hE K E τ d; try walk_nrm)
    refine jgo rfl rfl (by rfl) (by decide) (fun K E hK hE τ d => ?_)
    go_simp
    refine hK _ _ (JG.tap (x := z.alloc (.cells #[.int .i8 0, .int .i64 0, .slice none 0 0, .slice none 0 0, .slice none 0 0, .slice none 0 0, .slice none 0 0] 43)) ?_)
    simp only [under_size]
    clear hK hE K E τ d
    have wn : (z.alloc (.cells #[.int .i8 0, .int .i64 0, .slice none 0 0, .slice none 0 0, .slice none 0 0, .slice none 0 0, .slice none 0 0] 43)).heap[z.heap.size]? = some (.cells #[.int .i8 0, .int .i64 0, .slice none 0 0, .slice none 0 0, .slice none 0 0, .slice none 0 0, .slice none 0 0] 43 (0, 0)) := heap_alloc_new z _
    have s4 := (OldStand.refl z).alloc (.cells #[.int .i8 0, .int .i64 0, .slice none 0 0, .slice none 0 0, .slice none 0 0, .slice none 0 0, .slice none 0 0] 43)
    generalize z.alloc (.cells #[.int .i8 0, .int .i64 0, .slice none 0 0, .slice none 0 0, .slice none 0 0, .slice none 0 0, .slice none 0 0] 43) = w2 at wn s4 ⊢
    have lzg := (Array.getElem?_eq_some_iff.1 hIg).1
    have ozs := oz.out.1
    generalize hqz : z.heap.size = q at wn s4 lzg hsz ozs ⊢
    have m0 : w2.cell? (th q 0) = some (.int .i8 0) := cell_obj wn 0
    have n0 : w2.frozen? (th q 0) = false := frozen_obj wn 0
    have m1 : w2.cell? (th q 1) = some (.int .i64 0) := cell_obj wn 1
    have n1 : w2.frozen? (th q 1) = false := frozen_obj wn 1
    have m2 : w2.cell? (th q 2) = some (.slice none 0 0) := cell_obj wn 2
    have n2 : w2.frozen? (th q 2) = false := frozen_obj wn 2
    have m3 : w2.cell? (th q 3) = some (.slice none 0 0) := cell_obj wn 3
    have n3 : w2.frozen? (th q 3) = false := frozen_obj wn 3
    have m4 : w2.cell? (th q 4) = some (.slice none 0 0) := cell_obj wn 4
    have n4 : w2.frozen? (th q 4) = false := frozen_obj wn 4
    have m5 : w2.cell? (th q 5) = some (.slice none 0 0) := cell_obj wn 5
    have n5 : w2.frozen? (th q 5) = false := frozen_obj wn 5
    have m6 : w2.cell? (th q 6) = some (.slice none 0 0) := cell_obj wn 6
    have n6 : w2.frozen? (th q 6) = false := frozen_obj wn 6
    refine jgo rfl rfl (by rfl) (by decide) (fun K E hK hE τ d => ?_)
    have m0' := (under_cell w2 τ d _).trans m0
    have n0' := (under_frozen w2 τ d _).trans n0
    have m1' := (under_cell w2 τ d _).trans m1
    have n1' := (under_frozen w2 τ d _).trans n1
    have m2' := (under_cell w2 τ d _).trans m2
    have n2' := (under_frozen w2 τ d _).trans n2
    have m3' := (under_cell w2 τ d _).trans m3
    have n3' := (under_frozen w2 τ d _).trans n3
    have m4' := (under_cell w2 τ d _).trans m4
    have n4' := (under_frozen w2 τ d _).trans n4
    have m5' := (under_cell w2 τ d _).trans m5
    have n5' := (under_frozen w2 τ d _).trans n5
    have m6' := (under_cell w2 τ d _).trans m6
    have n6' := (under_frozen w2 τ d _).trans n6
    go_simp
    refine hK _ _ ?_
    rw [under_setCell, under_setCell, under_setCell, under_setCell, under_setCell, under_setCell, under_setCell]
    refine JG.tap ?_
    clear m0 n0 m0' n0' m1 n1 m1' n1' m2 n2 m2' n2' m3 n3 m3' n3' m4 n4 m4' n4' m5 n5 m5' n5' m6 n6 m6' n6' hK hE K E τ d
    obtain ⟨u, hu⟩ : ∃ u, u = (((((((w2.setCell (th q 0) (.int .i8 1)).setCell (th q 1) (.int .i64 0)).setCell (th q 2) (.slice aL 0 cL)).setCell (th q 3) (.slice aW 0 cW)).setCell (th q 4) (.slice aR 0 cR)).setCell (th q 5) (.slice al 0 cl)).setCell (th q 6) (.slice none 0 0)) := ⟨_, rfl⟩
    rw [← hu]
    try walk_nrm
    have hsv : u.heap.size = w2.heap.size := by rw [hu, size_set, size_set, size_set, size_set, size_set, size_set, size_set]
    have hvo : ∀ r, r ≠ q → u.heap[r]? = w2.heap[r]? := fun r h => by
      rw [hu, heap_set_ne h, heap_set_ne h, heap_set_ne h, heap_set_ne h, heap_set_ne h, heap_set_ne h, heap_set_ne h]
    have hvn : u.heap[q]? = some (.cells #[.int .i8 1, .int .i64 0, .slice aL 0 cL, .slice aW 0 cW, .slice aR 0 cR, .slice al 0 cl, .slice none 0 0] 43 (0, 0)) := by
      rw [hu]
      exact heap_set_self (heap_set_self (heap_set_self (heap_set_self (heap_set_self (heap_set_self (heap_set_self wn))))))
    clear hu wn
    have hvz : OldStand z u := ⟨by rw [hsv]; exact s4.1, fun r hr => (hvo r (by omega)).trans (s4.2 r (by omega))⟩
    have v0 : u.cell? (th q 0) = some (.int .i8 1) := cell_obj hvn 0
    have v1 : u.cell? (th q 1) = some (.int .i64 0) := cell_obj hvn 1
    have v5 : u.cell? (th gb 0) = some (.int .i64 0) := cell_obj ((hvz.2 gb (by omega)).trans hIg) 0
    have ov := oz.out.trans hvz
    have v6 : u.cell? (th ib 0) = some (.int .i64 0) := cell_obj ((ov.2 ib (Array.getElem?_eq_some_iff.1 hN.out.bi).1).trans hN.out.bi) 0
    have hal : C'.Alone u.heap.size := ⟨d1, by have h1 := hC.out.h; have h2 : C'.n = C.n + 1 := d3; omega, by have := hC.out.lo; have := ov.1; omega, fun i hi => d6 i (by omega)⟩
    have hsm : C.Same C' := ⟨d2, d4, d5⟩
    clear hvo hvz s4 hIg
    replace ov := Lib.hid ov
    replace hal := Lib.hid hal
    repeat first | refine JG.seq ?_ | refine JG.skip ?_ | refine JG.inBlock ?_ | refine JG.block ?_ | refine JG.done ?_ | refine JG.label ?_ | refine JG.condT rfl ?_ | refine JG.condF rfl ?_ | (refine JG.region ?_; simp only [List.size_toArray, List.length_cons, List.length_nil, Nat.reduceAdd, Nat.zero_add, List.range, List.range.loop]) | (refine JG.unwanted rfl (by rfl) ?_; try walk_nrm) | (refine jgo rfl rfl (by rfl) (by decide) (fun K E hK hE τ d => ?_); go_simp; refine hK _ _ (JG.tap ?_); clear hK hE K E τ d; try walk_nrm) | (refine jgo rfl rfl (by rfl) (by decide) (fun K E hK hE τ d => ?_); have hfact := (under_cell _ τ d _).trans (v0); go_simp; refine hK _ _ (JG.tap ?_); clear hfact hK hE K E τ d; try walk_nrm) | (refine jgo rfl rfl (by rfl) (by decide) (fun K E hK hE τ d => ?_); have hfact := (under_cell _ τ d _).trans (v1); go_simp; refine hK _ _ (JG.tap ?_); clear hfact hK hE K E τ d; try walk_nrm) | (refine jgo rfl rfl (by rfl) (by decide) (fun K E hK hE τ d => ?_); have hfact := (under_cell _ τ d _).trans (v5); go_simp; refine hK _ _ (JG.tap ?_); clear hfact hK hE K E τ d; try walk_nrm) | (refine jgo rfl rfl (by rfl) (by decide) (fun K E hK hE τ d => ?_); have hfact := (under_cell _ τ d _).trans (v6); go_simp; refine hK _ _ (JG.tap ?_); clear hfact hK hE K E τ d; try walk_nrm)
    refine jgo rfl rfl (by rfl) (by decide) (fun K E hK hE τ d => ?_)
    go_simp
    refine hK _ _ (JG.tap (x := u.alloc (.cells #[.int .i64 0] 3)) ?_)
    simp only [under_size]
    clear hK hE K E τ d
    have j0 : (u.alloc (.cells #[.int .i64 0] 3)).heap[u.heap.size]? = some (.cells #[.int .i64 0] 3 (0, 0)) := heap_alloc_new u _
    have oj : OldStand y (u.alloc (.cells #[.int .i64 0] 3)) := ov.out.alloc _
    have sj : (u.alloc (.cells #[.int .i64 0] 3)).heap.size = u.heap.size + 1 := by simp
    generalize u.alloc (.cells #[.int .i64 0] 3) = w3 at j0 oj sj ⊢
    have hyu := ov.out.1
    generalize hjb : u.heap.size = jb at j0 sj hal hyu ⊢
    refine jgo rfl rfl (by rfl) (by decide) (fun K E hK hE τ d => ?_)
    obtain ⟨hfact, hfact2⟩ := And.intro (cell_obj j0 0) (frozen_obj j0 0)
    replace hfact := (under_cell _ τ d _).trans hfact
    replace hfact2 := (under_frozen _ τ d _).trans hfact2
    go_simp
    refine hK _ _ ?_
    rw [under_setCell]
    refine JG.tap ?_
    clear hfact hfact2 hK hE K E τ d
    try walk_nrm
    have j1 : (w3.setCell (th jb 0) (.int .i64 0)).heap[jb]? = some (.cells #[.int .i64 0] 3 (0, 0)) := by rw [heap_set_self j0]; rfl
    have oj1 : OldStand y (w3.setCell (th jb 0) (.int .i64 0)) := ⟨by rw [size_set]; exact oj.1, fun r hr => by rw [heap_set_ne (by omega)]; exact oj.2 r hr⟩
    have sj1 : (w3.setCell (th jb 0) (.int .i64 0)).heap.size = jb + 1 := by rw [size_set]; exact sj
    generalize w3.setCell (th jb 0) (.int .i64 0) = w4 at j1 oj1 sj1 ⊢
    clear j0 oj sj
    have v7 : w4.cell? (th jb 0) = some (.int .i64 0) := cell_obj j1 0
    have f7 : w4.frozen? (th jb 0) = false := frozen_obj j1 0
    replace oj1 := Lib.hid oj1
    replace sj1 := Lib.hid sj1
    repeat first | refine JG.seq ?_ | refine JG.skip ?_ | refine JG.inBlock ?_ | refine JG.block ?_ | refine JG.done ?_ | refine JG.label ?_ | refine JG.condT rfl ?_ | refine JG.condF rfl ?_ | (refine JG.region ?_; simp only [List.size_toArray, List.length_cons, List.length_nil, Nat.reduceAdd, Nat.zero_add, List.range, List.range.loop]) | (refine JG.unwanted rfl (by rfl) ?_; try walk_nrm) | (refine jgo rfl rfl (by rfl) (by decide) (fun K E hK hE τ d => ?_); go_simp; refine hK _ _ (JG.tap ?_); clear hK hE K E τ d; try walk_nrm) | (refine jgo rfl rfl (by rfl) (by decide) (fun K E hK hE τ d => ?_); have hfact := (under_cell _ τ d _).trans (v7); go_simp; refine hK _ _ (JG.tap ?_); clear hfact hK hE K E τ d; try walk_nrm)
    refine jgo rfl rfl (by rfl) (by decide) (fun K E hK hE τ d => ?_)
    obtain ⟨hfact, hfact2⟩ := And.intro v7 f7
    replace hfact := (under_cell _ τ d _).trans hfact
    replace hfact2 := (under_frozen _ τ d _).trans hfact2
    go_simp
    refine hK _ _ ?_
    rw [under_setCell]
    refine JG.tap ?_
    clear hfact hfact2 hK hE K E τ d
    try walk_nrm
    try rw [show IntKind.i64.wrap (1 : Int) = 1 from by decide +kernel]
    try rw [show IntKind.i64.wrap (2 : Int) = 2 from by decide +kernel]
    try rw [show IntKind.i64.wrap ((1 : Int) + 1) = 2 from by decide +kernel]
    have j2 : (w4.setCell (th jb 0) (.int .i64 1)).heap[jb]? = some (.cells #[.int .i64 1] 3 (0, 0)) := by rw [heap_set_self j1]; rfl
    have oj2 : OldStand y (w4.setCell (th jb 0) (.int .i64 1)) := ⟨by rw [size_set]; exact oj1.out.1, fun r hr => by rw [heap_set_ne (by omega)]; exact oj1.out.2 r hr⟩
    have sj2 : (w4.setCell (th jb 0) (.int .i64 1)).heap.size = jb + 1 := by rw [size_set]; exact sj1.out
    generalize w4.setCell (th jb 0) (.int .i64 1) = w5 at j2 oj2 sj2 ⊢
    clear v7 f7 j1
    replace oj2 := Lib.hid oj2
    repeat first | refine JG.seq ?_ | refine JG.skip ?_ | refine JG.inBlock ?_ | refine JG.block ?_ | refine JG.done ?_ | refine JG.label ?_ | refine JG.condT rfl ?_ | refine JG.condF rfl ?_ | (refine JG.region ?_; simp only [List.size_toArray, List.length_cons, List.length_nil, Nat.reduceAdd, Nat.zero_add, List.range, List.range.loop]) | (refine JG.unwanted rfl (by rfl) ?_; try walk_nrm) | (refine jgo rfl rfl (by rfl) (by decide) (fun K E hK hE τ d => ?_); go_simp; refine hK _ _ (JG.tap ?_); clear hK hE K E τ d; try walk_nrm)
    refine JG.inLoop ?_
    exact h.out C' w5 jb _ _ _ _ _ _ _ _ _ _ _ _ _ _ _ _ _ _ _ _ _ _ _ _ _ _ _ _ _ _ _ _ _ _ _ _ _ _ oj2.out j2 hyu hsm ⟨hal.out.d, hal.out.h, by have := hal.out.lo; omega, hal.out.none⟩
  · repeat first | refine JG.seq ?_ | refine JG.skip ?_ | refine JG.inBlock ?_ | refine JG.block ?_ | refine JG.done ?_ | refine JG.label ?_ | refine JG.condT rfl ?_ | refine JG.condF rfl ?_ | (refine JG.region ?_; simp only [List.size_toArray, List.length_cons, List.length_nil, Nat.reduceAdd, Nat.zero_add, List.range, List.range.loop]) | (refine JG.unwanted rfl (by rfl) ?_; try walk_nrm) | (refine jgo rfl rfl (by rfl) (by decide) (fun K E hK hE τ d => ?_); go_simp; refine hK _ _ (JG.tap ?_); clear hK hE K E τ d; try walk_nrm) | (refine jgo rfl rfl (by rfl) (by decide) (fun K E hK hE τ d => ?_); have hfact := (under_cell _ τ d _).trans (ki); go_simp; refine hK _ _ (JG.tap ?_); clear hfact hK hE K E τ d; try walk_nrm)
    refine JG.drawTail 4 (by kernel_rfl) (by kernel_rfl) (by rfl) (by decide) (fun τ d => ?_)
    simp only [List.take_succ_cons, List.take_zero]
    have kl' := (under_cell y τ d _).trans kl
    have ki' := (under_cell y τ d _).trans ki
    have kx0' := (under_cell y τ d _).trans kx0
    have kx1' := (under_cell y τ d _).trans kx1
    have kx2' := (under_cell y τ d _).trans kx2
    have kx3' := (under_cell y τ d _).trans kx3
    repeat still_step
    refine wpStill_nil ?_
    simp only [List.length_cons, List.length_nil, Nat.reduceAdd, Nat.reduceSub, List.range'_succ, List.range'_zero]
    clear kl' ki' kx0' kx1' kx2' kx3' τ d kl ki kx0 kx1 kx2 kx3
    refine JG.call (f := 16) (args := #[.slice (some ⟨ab, 1, none⟩) 1 1, .pointer none, .agg #[.int .i8 op, .int .i64 0, .int .i64 a, .int .i64 e]]) rfl (by rfl) (by decide) (fun w => ?_) (fun w => ?_) ?_
    iterate 2 (focus obtain ⟨fn, h1, h2, h3⟩ : HasBody 16 := ⟨_, Try.func16, by kernel_rfl, by kernel_rfl⟩; have h4 : ¬ fn.name = "runtime.NumGoroutine" := (by simpa using h2); have h5 : ¬ fn.body = none := (by intro e; rw [e] at h3; cases h3); simp [go_sem, execOp, Act.eval, resolve, Deferred.ofValue, invoke, callFunc, h1, h4, h5])
    refine callNone_J (by decide) ka hv.out (fun y1 o1 => ?_)
    rw [Frame.finish_at]
    walk_nrm
    repeat first | refine JG.seq ?_ | refine JG.skip ?_ | refine JG.inBlock ?_ | refine JG.block ?_ | refine JG.done ?_ | refine JG.label ?_ | refine JG.condT rfl ?_ | refine JG.condF rfl ?_ | (refine JG.region ?_; simp only [List.size_toArray, List.length_cons, List.length_nil, Nat.reduceAdd, Nat.zero_add, List.range, List.range.loop]) | (refine JG.unwanted rfl (by rfl) ?_; try walk_nrm) | (refine jgo rfl rfl (by rfl) (by decide) (fun K E hK hE τ d => ?_); go_simp; refine hK _ _ (JG.tap ?_); clear hK hE K E τ d; try walk_nrm)
    refine jgo rfl rfl (by rfl) (by decide) (fun K E hK hE τ d => ?_)
    go_simp
    refine hK _ _ (JG.tap (x := y1.alloc (.cells #[.int .i64 0] 2)) ?_)
    simp only [under_size]
    clear hK hE K E τ d
    have g0 : (y1.alloc (.cells #[.int .i64 0] 2)).heap[y1.heap.size]? = some (.cells #[.int .i64 0] 2 (0, 0)) := heap_alloc_new y1 _
    have o2 : OldStand y (y1.alloc (.cells #[.int .i64 0] 2)) := o1.alloc _
    generalize y1.alloc (.cells #[.int .i64 0] 2) = y2 at g0 o2 ⊢
    have o1s := o1.1
    generalize hgb : y1.heap.size = gb at g0 o1s ⊢
    refine jgo rfl rfl (by rfl) (by decide) (fun K E hK hE τ d => ?_)
    obtain ⟨hfact, hfact2⟩ := And.intro (cell_obj g0 0) (frozen_obj g0 0)
    replace hfact := (under_cell _ τ d _).trans hfact
    replace hfact2 := (under_frozen _ τ d _).trans hfact2
    go_simp
    refine hK _ _ ?_
    rw [under_setCell]
    refine JG.tap ?_
    clear hfact hfact2 hK hE K E τ d
    try walk_nrm
    have g3 : (y2.setCell (th gb 0) (.int .i64 1)).heap[gb]? = some (.cells #[.int .i64 1] 2 (0, 0)) := by rw [heap_set_self g0]; rfl
    have o3 : OldStand y (y2.setCell (th gb 0) (.int .i64 1)) := ⟨by rw [size_set]; exact o2.1, fun r hr => by rw [heap_set_ne (by omega)]; exact o2.2 r hr⟩
    generalize y2.setCell (th gb 0) (.int .i64 1) = y3 at g3 o3 ⊢
    clear g0 o1 o2 hgb
    replace o3 := Lib.hid o3
    repeat first | refine JG.seq ?_ | refine JG.skip ?_ | refine JG.inBlock ?_ | refine JG.block ?_ | refine JG.done ?_ | refine JG.label ?_ | refine JG.condT rfl ?_ | refine JG.condF rfl ?_ | (refine JG.region ?_; simp only [List.size_toArray, List.length_cons, List.length_nil, Nat.reduceAdd, Nat.zero_add, List.range, List.range.loop]) | (refine JG.unwanted rfl (by rfl) ?_; try walk_nrm) | (refine jgo rfl rfl (by rfl) (by decide) (fun K E hK hE τ d => ?_); go_simp; refine hK _ _ (JG.tap ?_); clear hK hE K E τ d; try walk_nrm)
    refine jgo rfl rfl (by rfl) (by decide) (fun K E hK hE τ d => ?_)
    go_simp
    refine hK _ _ (JG.tap (x := y3.alloc (.cells #[.func (.func 30) #[] #[P0 lb, P0 ib, P0 xb, P0 gb]] 40)) ?_)
    simp only [under_size]
    clear hK hE K E τ d
    have f0 : (y3.alloc (.cells #[.func (.func 30) #[] #[P0 lb, P0 ib, P0 xb, P0 gb]] 40)).heap[y3.heap.size]? = some (.cells #[.func (.func 30) #[] #[P0 lb, P0 ib, P0 xb, P0 gb]] 40 (0, 0)) := heap_alloc_new y3 _
    have o4 := (OldStand.refl y3).alloc (.cells #[.func (.func 30) #[] #[P0 lb, P0 ib, P0 xb, P0 gb]] 40)
    generalize y3.alloc (.cells #[.func (.func 30) #[] #[P0 lb, P0 ib, P0 xb, P0 gb]] 40) = w1 at f0 o4 ⊢
    have l3g := (Array.getElem?_eq_some_iff.1 g3).1
    have gw := (o4.2 gb l3g).trans g3
    have ow := o3.out.trans o4
    generalize hbb : y3.heap.size = bb at f0 l3g ⊢
    clear g3 o4
    have lbb := (Array.getElem?_eq_some_iff.1 f0).1
    have hNw := hN.out.of ow
    have q1 := (Array.getElem?_eq_some_iff.1 hN.out.bl).1
    have q2 := (Array.getElem?_eq_some_iff.1 hN.out.bi).1
    have q3 := (Array.getElem?_eq_some_iff.1 hN.out.bx).1
    have q4 : ab < y.heap.size := cell_lt ka
    have q5 : ∀ b, v = P0 b → b < y.heap.size := fun b e => by
      rcases hv.out with h | ⟨b', e1, e2⟩
      · rw [h] at e; cases e
      · have : b' = b := by rw [e1] at e; simpa using e
        rw [← this]; exact cell_lt (a := th b' 1) e2
    have q6 : y.heap.size ≤ bb := by rw [← hbb]; exact o3.out.1
    obtain ⟨Kr, hKr⟩ : ∃ Kr : Nat → Prop, ∀ r, Kr r ↔ (r = lb ∨ r = ib ∨ r = xb ∨ r = ab ∨ v = P0 r) := ⟨_, fun r => Iff.rfl⟩
    have hKl : ∀ r, Kr r → r < y.heap.size := fun r hr => by
      rcases (hKr r).1 hr with rfl | rfl | rfl | rfl | h
      · exact q1
      · exact q2
      · exact q3
      · exact q4
      · exact q5 r h
    have hKg : ¬ Kr gb := fun h => by have := hKl gb h; omega
    replace ow := Lib.hid ow
    replace gw := Lib.hid gw
    replace f0 := Lib.hid f0
    replace hNw := Lib.hid hNw
    replace hKl := Lib.hid hKl
    replace hKr := Lib.hid hKr
    clear q1 q2 q3 q4 q5
    repeat first | refine JG.seq ?_ | refine JG.skip ?_ | refine JG.inBlock ?_ | refine JG.block ?_ | refine JG.done ?_ | refine JG.label ?_ | refine JG.condT rfl ?_ | refine JG.condF rfl ?_ | (refine JG.region ?_; simp only [List.size_toArray, List.length_cons, List.length_nil, Nat.reduceAdd, Nat.zero_add, List.range, List.range.loop]) | (refine JG.unwanted rfl (by rfl) ?_; try walk_nrm) | (refine jgo rfl rfl (by rfl) (by decide) (fun K E hK hE τ d => ?_); go_simp; refine hK _ _ (JG.tap ?_); clear hK hE K E τ d; try walk_nrm)
    refine JG.call (f := 18) (args := #[.slice none 0 0, .int .i64 9, .slice (some ⟨bb, 0, none⟩) 1 1]) rfl (by rfl) (by decide) (fun w => ?_) (fun w => ?_) ?_
    iterate 2 (focus obtain ⟨fn, h1, h2, h3⟩ : HasBody 18 := ⟨_, Try.func18, by kernel_rfl, by kernel_rfl⟩; have h4 : ¬ fn.name = "runtime.NumGoroutine" := (by simpa using h2); have h5 : ¬ fn.body = none := (by intro e; rw [e] at h3; cases h3); simp [go_sem, execOp, Act.eval, resolve, Deferred.ofValue, invoke, callFunc, h1, h4, h5])
    refine run_R (S := nilSide w1 Kr gb) (Kp := fun r => (r < y.heap.size ∧ ¬ Kr r) ∨ r = bb) (picks := []) (most := 9) (m := 9) (bodies := [⟨30, #[P0 lb, P0 ib, P0 xb, P0 gb], nilP⟩]) (sh := 1) (cells := fun _ => 0) (by decide) hC.out.d hC.out.h (Nat.le_trans hC.out.lo (by have := ow.out.1; omega)) hC.out.none (fun e => absurd rfl e) (fun j b e => ?_) (show 1 ≤ 64 by decide) (fun r hr => ?_) (fun b hb => ?_) ?_
      (fun Q e' C' z M vL vW vR vl hQ d1 d2 d3 d4 d5 d6 hz hsz hM r1 r2 r3 r4 hI hQn hlv hnm => ?_)
    · refine ⟨bb, rfl, .inr rfl, ?_⟩
      match j, e with
      | 0, e => obtain rfl := Option.some.inj e; exact cell_obj f0.out 0
      | j + 1, e => simp at e
    · rcases hr with h | rfl
      · have := ow.out.1; omega
      · exact lbb
    · rw [List.mem_singleton.1 hb]
      exact nil_b hNw.out hi0 ⟨(hKr.out _).2 (.inl rfl), (hKr.out _).2 (.inr (.inl rfl)), (hKr.out _).2 (.inr (.inr (.inl rfl))), (hKr.out _).2 (.inr (.inr (.inr (.inl rfl)))), fun b e => (hKr.out b).2 (.inr (.inr (.inr (.inr e))))⟩ hKg
    · refine ⟨fun i hi => absurd hi (Nat.not_lt_zero i), fun r hr => ⟨by have := hKl.out r hr; have := ow.out.1; omega, fun h => ?_, rfl⟩, gw.out, fun h => ?_⟩
      · rcases h with h | h
        · exact h.2 hr
        · have := hKl.out r hr; omega
      · rcases h with h | h <;> omega
    rw [Frame.finish_at]
    walk_nrm
    have hq : ((1 : Int), ((Play.init 1 fun _ => 0).start [nilP])) = (e', Q) := nilrun.symm.trans hQ
    have he : e' = 1 := (congrArg Prod.fst hq).symm
    have hQ' : Q = ((Play.init 1 fun _ => 0).start [nilP]) := (congrArg Prod.snd hq).symm
    have hsh : Q.st.sh = 0 := by rw [hQ']; rfl
    have hw0 : Q.st.went.length = 0 := by rw [hQ']; rfl
    have hl0 : Q.st.log.length = 0 := by rw [hQ']; rfl
    have hr0 : Q.st.ready.length = 0 := by rw [hQ']; rfl
    have hf0 : Q.left.length = 0 := by rw [hQ']; rfl
    obtain ⟨_, hI1, hIg, _⟩ := hI
    rw [hsh] at hIg
    rw [hl0] at r1
    rw [hw0] at r2
    rw [hr0] at r3
    rw [hf0] at r4
    obtain ⟨aL, cL, rfl⟩ := own_slice r1
    obtain ⟨aW, cW, rfl⟩ := own_slice r2
    obtain ⟨aR, cR, rfl⟩ := own_slice r3
    obtain ⟨al, cl, rfl⟩ := own_slice r4
    rw [hw0]
    subst he
    have oz : OldStand y z := ⟨by have := ow.out.1; omega, fun r hr => by
      by_cases hk : Kr r
      · exact (hI1 r hk).2.2.trans (ow.out.2 r hr)
      · exact (hz r (.inl ⟨hr, hk⟩)).trans (ow.out.2 r hr)⟩
    clear hq hQ' hsh hw0 hl0 hr0 hf0 hI1 r1 r2 r3 r4 hz f0 gw hNw ow hnm hlv hQ
    replace oz := Lib.hid oz
    repeat first | refine JG.seq ?_ | refine JG.skip ?_ | refine JG.inBlock ?_ | refine JG.block ?_ | refine JG.done ?_ | refine JG.label ?_ | refine JG.condT rfl ?_ | refine JG.condF rfl ?_ | (refine JG.region ?_; simp only [List.size_toArray, List.length_cons, List.length_nil, Nat.reduceAdd, Nat.zero_add, List.range, List.range.loop]) | (refine JG.unwanted rfl (by rfl) ?_; try walk_nrm) | (refine jgo rfl rfl (by rfl) (by decide) (fun K E hK hE τ d => ?_); go_simp; refine hK _ _ (JG.tap ?_); clear hK hE K E τ d; try walk_nrm)
    refine jgo rfl rfl (by rfl) (by decide) (fun K E hK hE τ d => ?_)
    go_simp
    refine hK _ _ (JG.tap (x := z.alloc (.cells #[.int .i8 0, .int .i64 0, .slice none 0 0, .slice none 0 0, .slice none 0 0, .slice none 0 0, .slice none 0 0] 43)) ?_)
    simp only [under_size]
    clear hK hE K E τ d
    have wn : (z.alloc (.cells #[.int .i8 0, .int .i64 0, .slice none 0 0, .slice none 0 0, .slice none 0 0, .slice none 0 0, .slice none 0 0] 43)).heap[z.heap.size]? = some (.cells #[.int .i8 0, .int .i64 0, .slice none 0 0, .slice none 0 0, .slice none 0 0, .slice none 0 0, .slice none 0 0] 43 (0, 0)) := heap_alloc_new z _
    have s4 := (OldStand.refl z).alloc (.cells #[.int .i8 0, .int .i64 0, .slice none 0 0, .slice none 0 0, .slice none 0 0, .slice none 0 0, .slice none 0 0] 43)
    generalize z.alloc (.cells #[.int .i8 0, .int .i64 0, .slice none 0 0, .slice none 0 0, .slice none 0 0, .slice none 0 0, .slice none 0 0] 43) = w2 at wn s4 ⊢
    have lzg := (Array.getElem?_eq_some_iff.1 hIg).1
    have ozs := oz.out.1
    generalize hqz : z.heap.size = q at wn s4 lzg hsz ozs ⊢
    have m0 : w2.cell? (th q 0) = some (.int .i8 0) := cell_obj wn 0
    have n0 : w2.frozen? (th q 0) = false := frozen_obj wn 0
    have m1 : w2.cell? (th q 1) = some (.int .i64 0) := cell_obj wn 1
    have n1 : w2.frozen? (th q 1) = false := frozen_obj wn 1
    have m2 : w2.cell? (th q 2) = some (.slice none 0 0) := cell_obj wn 2
    have n2 : w2.frozen? (th q 2) = false := frozen_obj wn 2
    have m3 : w2.cell? (th q 3) = some (.slice none 0 0) := cell_obj wn 3
    have n3 : w2.frozen? (th q 3) = false := frozen_obj wn 3
    have m4 : w2.cell? (th q 4) = some (.slice none 0 0) := cell_obj wn 4
    have n4 : w2.frozen? (th q 4) = false := frozen_obj wn 4
    have m5 : w2.cell? (th q 5) = some (.slice none 0 0) := cell_obj wn 5
    have n5 : w2.frozen? (th q 5) = false := frozen_obj wn 5
    have m6 : w2.cell? (th q 6) = some (.slice none 0 0) := cell_obj wn 6
    have n6 : w2.frozen? (th q 6) = false := frozen_obj wn 6
    refine jgo rfl rfl (by rfl) (by decide) (fun K E hK hE τ d => ?_)
    have m0' := (under_cell w2 τ d _).trans m0
    have n0' := (under_frozen w2 τ d _).trans n0
    have m1' := (under_cell w2 τ d _).trans m1
    have n1' := (under_frozen w2 τ d _).trans n1
    have m2' := (under_cell w2 τ d _).trans m2
    have n2' := (under_frozen w2 τ d _).trans n2
    have m3' := (under_cell w2 τ d _).trans m3
    have n3' := (under_frozen w2 τ d _).trans n3
    have m4' := (under_cell w2 τ d _).trans m4
    have n4' := (under_frozen w2 τ d _).trans n4
    have m5' := (under_cell w2 τ d _).trans m5
    have n5' := (under_frozen w2 τ d _).trans n5
    have m6' := (under_cell w2 τ d _).trans m6
    have n6' := (under_frozen w2 τ d _).trans n6
    go_simp
    refine hK _ _ ?_
    rw [under_setCell, under_setCell, under_setCell, under_setCell, under_setCell, under_setCell, under_setCell]
    refine JG.tap ?_
    clear m0 n0 m0' n0' m1 n1 m1' n1' m2 n2 m2' n2' m3 n3 m3' n3' m4 n4 m4' n4' m5 n5 m5' n5' m6 n6 m6' n6' hK hE K E τ d
    obtain ⟨u, hu⟩ : ∃ u, u = (((((((w2.setCell (th q 0) (.int .i8 1)).setCell (th q 1) (.int .i64 0)).setCell (th q 2) (.slice aL 0 cL)).setCell (th q 3) (.slice aW 0 cW)).setCell (th q 4) (.slice aR 0 cR)).setCell (th q 5) (.slice al 0 cl)).setCell (th q 6) (.slice none 0 0)) := ⟨_, rfl⟩
    rw [← hu]
    try walk_nrm
    have hsv : u.heap.size = w2.heap.size := by rw [hu, size_set, size_set, size_set, size_set, size_set, size_set, size_set]
    have hvo : ∀ r, r ≠ q → u.heap[r]? = w2.heap[r]? := fun r h => by
      rw [hu, heap_set_ne h, heap_set_ne h, heap_set_ne h, heap_set_ne h, heap_set_ne h, heap_set_ne h, heap_set_ne h]
    have hvn : u.heap[q]? = some (.cells #[.int .i8 1, .int .i64 0, .slice aL 0 cL, .slice aW 0 cW, .slice aR 0 cR, .slice al 0 cl, .slice none 0 0] 43 (0, 0)) := by
      rw [hu]
      exact heap_set_self (heap_set_self (heap_set_self (heap_set_self (heap_set_self (heap_set_self (heap_set_self wn))))))
    clear hu wn
    have hvz : OldStand z u := ⟨by rw [hsv]; exact s4.1, fun r hr => (hvo r (by omega)).trans (s4.2 r (by omega))⟩
    have v0 : u.cell? (th q 0) = some (.int .i8 1) := cell_obj hvn 0
    have v1 : u.cell? (th q 1) = some (.int .i64 0) := cell_obj hvn 1
    have v5 : u.cell? (th gb 0) = some (.int .i64 0) := cell_obj ((hvz.2 gb (by omega)).trans hIg) 0
    have ov := oz.out.trans hvz
    have v6 : u.cell? (th ib 0) = some (.int .i64 1) := cell_obj ((ov.2 ib (Array.getElem?_eq_some_iff.1 hN.out.bi).1).trans hN.out.bi) 0
    have hal : C'.Alone u.heap.size := ⟨d1, by have h1 := hC.out.h; have h2 : C'.n = C.n + 1 := d3; omega, by have := hC.out.lo; have := ov.1; omega, fun i hi => d6 i (by omega)⟩
    have hsm : C.Same C' := ⟨d2, d4, d5⟩
    clear hvo hvz s4 hIg
    replace ov := Lib.hid ov
    replace hal := Lib.hid hal
    repeat first | refine JG.seq ?_ | refine JG.skip ?_ | refine JG.inBlock ?_ | refine JG.block ?_ | refine JG.done ?_ | refine JG.label ?_ | refine JG.condT rfl ?_ | refine JG.condF rfl ?_ | (refine JG.region ?_; simp only [List.size_toArray, List.length_cons, List.length_nil, Nat.reduceAdd, Nat.zero_add, List.range, List.range.loop]) | (refine JG.unwanted rfl (by rfl) ?_; try walk_nrm) | (refine jgo rfl rfl (by rfl) (by decide) (fun K E hK hE τ d => ?_); go_simp; refine hK _ _ (JG.tap ?_); clear hK hE K E τ d; try walk_nrm) | (refine jgo rfl rfl (by rfl) (by decide) (fun K E hK hE τ d => ?_); have hfact := (under_cell _ τ d _).trans (v0); go_simp; refine hK _ _ (JG.tap ?_); clear hfact hK hE K E τ d; try walk_nrm) | (refine jgo rfl rfl (by rfl) (by decide) (fun K E hK hE τ d => ?_); have hfact := (under_cell _ τ d _).trans (v1); go_simp; refine hK _ _ (JG.tap ?_); clear hfact hK hE K E τ d; try walk_nrm) | (refine jgo rfl rfl (by rfl) (by decide) (fun K E hK hE τ d => ?_); have hfact := (under_cell _ τ d _).trans (v5); go_simp; refine hK _ _ (JG.tap ?_); clear hfact hK hE K E τ d; try walk_nrm) | (refine jgo rfl rfl (by rfl) (by decide) (fun K E hK hE τ d => ?_); have hfact := (under_cell _ τ d _).trans (v6); go_simp; refine hK _ _ (JG.tap ?_); clear hfact hK hE K E τ d; try walk_nrm)
    refine jgo rfl rfl (by rfl) (by decide) (fun K E hK hE τ d => ?_)
    go_simp
    refine hK _ _ (JG.tap (x := u.alloc (.cells #[.int .i64 0] 3)) ?_)
    simp only [under_size]
    clear hK hE K E τ d
    have j0 : (u.alloc (.cells #[.int .i64 0] 3)).heap[u.heap.size]? = some (.cells #[.int .i64 0] 3 (0, 0)) := heap_alloc_new u _
    have oj : OldStand y (u.alloc (.cells #[.int .i64 0] 3)) := ov.out.alloc _
    have sj : (u.alloc (.cells #[.int .i64 0] 3)).heap.size = u.heap.size + 1 := by simp
    generalize u.alloc (.cells #[.int .i64 0] 3) = w3 at j0 oj sj ⊢
    have hyu := ov.out.1
    generalize hjb : u.heap.size = jb at j0 sj hal hyu ⊢
    refine jgo rfl rfl (by rfl) (by decide) (fun K E hK hE τ d => ?_)
    obtain ⟨hfact, hfact2⟩ := And.intro (cell_obj j0 0) (frozen_obj j0 0)
    replace hfact := (under_cell _ τ d _).trans hfact
    replace hfact2 := (under_frozen _ τ d _).trans hfact2
    go_simp
    refine hK _ _ ?_
    rw [under_setCell]
    refine JG.tap ?_
    clear hfact hfact2 hK hE K E τ d
    try walk_nrm
    have j1 : (w3.setCell (th jb 0) (.int .i64 1)).heap[jb]? = some (.cells #[.int .i64 1] 3 (0, 0)) := by rw [heap_set_self j0]; rfl
    have oj1 : OldStand y (w3.setCell (th jb 0) (.int .i64 1)) := ⟨by rw [size_set]; exact oj.1, fun r hr => by rw [heap_set_ne (by omega)]; exact oj.2 r hr⟩
    have sj1 : (w3.setCell (th jb 0) (.int .i64 1)).heap.size = jb + 1 := by rw [size_set]; exact sj
    generalize w3.setCell (th jb 0) (.int .i64 1) = w4 at j1 oj1 sj1 ⊢
    clear j0 oj sj
    have v7 : w4.cell? (th jb 0) = some (.int .i64 1) := cell_obj j1 0
    have f7 : w4.frozen? (th jb 0) = false := frozen_obj j1 0
    replace oj1 := Lib.hid oj1
    replace sj1 := Lib.hid sj1
    repeat first | refine JG.seq ?_ | refine JG.skip ?_ | refine JG.inBlock ?_ | refine JG.block ?_ | refine JG.done ?_ | refine JG.label ?_ | refine JG.condT rfl ?_ | refine JG.condF rfl ?_ | (refine JG.region ?_; simp only [List.size_toArray, List.length_cons, List.length_nil, Nat.reduceAdd, Nat.zero_add, List.range, List.range.loop]) | (refine JG.unwanted rfl (by rfl) ?_; try walk_nrm) | (refine jgo rfl rfl (by rfl) (by decide) (fun K E hK hE τ d => ?_); go_simp; refine hK _ _ (JG.tap ?_); clear hK hE K E τ d; try walk_nrm) | (refine jgo rfl rfl (by rfl) (by decide) (fun K E hK hE τ d => ?_); have hfact := (under_cell _ τ d _).trans (v7); go_simp; refine hK _ _ (JG.tap ?_); clear hfact hK hE K E τ d; try walk_nrm)
    refine jgo rfl rfl (by rfl) (by decide) (fun K E hK hE τ d => ?_)
    obtain ⟨hfact, hfact2⟩ := And.intro v7 f7
    replace hfact := (under_cell _ τ d _).trans hfact
    replace hfact2 := (under_frozen _ τ d _).trans hfact2
    go_simp
    refine hK _ _ ?_
    rw [under_setCell]
    refine JG.tap ?_
    clear hfact hfact2 hK hE K E τ d
    try walk_nrm
    try rw [show IntKind.i64.wrap (1 : Int) = 1 from by decide +kernel]
    try rw [show IntKind.i64.wrap (2 : Int) = 2 from by decide +kernel]
    try rw [show IntKind.i64.wrap ((1 : Int) + 1) = 2 from by decide +kernel]
    have j2 : (w4.setCell (th jb 0) (.int .i64 2)).heap[jb]? = some (.cells #[.int .i64 2] 3 (0, 0)) := by rw [heap_set_self j1]; rfl
    have oj2 : OldStand y (w4.setCell (th jb 0) (.int .i64 2)) := ⟨by rw [size_set]; exact oj1.out.1, fun r hr => by rw [heap_set_ne (by omega)]; exact oj1.out.2 r hr⟩
    have sj2 : (w4.setCell (th jb 0) (.int .i64 2)).heap.size = jb + 1 := by rw [size_set]; exact sj1.out
    generalize w4.setCell (th jb 0) (.int .i64 2) = w5 at j2 oj2 sj2 ⊢
    clear v7 f7 j1
    replace oj2 := Lib.hid oj2
    repeat first | refine JG.seq ?_ | refine JG.skip ?_ | refine JG.inBlock ?_ | refine JG.block ?_ | refine JG.done ?_ | refine JG.label ?_ | refine JG.condT rfl ?_ | refine JG.condF rfl ?_ | (refine JG.region ?_; simp only [List.size_toArray, List.length_cons, List.length_nil, Nat.reduceAdd, Nat.zero_add, List.range, List.range.loop]) | (refine JG.unwanted rfl (by rfl) ?_; try walk_nrm) | (refine jgo rfl rfl (by rfl) (by decide) (fun K E hK hE τ d => ?_); go_simp; refine hK _ _ (JG.tap ?_); clear hK hE K E τ d; try walk_nrm)
    refine JG.inLoop ?_
    exact h.out C' w5 jb _ _ _ _ _ _ _ _ _ _ _ _ _ _ _ _ _ _ _ _ _ _ _ _ _ _ _ _ _ _ _ _ _ _ _ _ _ _ oj2.out j2 hyu hsm ⟨hal.out.d, hal.out.h, by have := hal.out.lo; omega, hal.out.none⟩
end
end Go.Proofs.Ytecmobjiepgfjaa
/- CellNil, whole. -/
namespace Go.Proofs.Ytecmobjiepgfjaa
open Go.Conc Go.RowKit
open Go.ConcN (upd upd_same upd_ne)
set_option linter.unusedSimpArgs false
set_option linter.unusedVariables false
set_option maxRecDepth 100000
theorem Ctx.Same.trans {A B D : Ctx} (h : A.Same B) (k : B.Same D) : A.Same D := ⟨k.h.trans h.h, k.lo.trans h.lo, k.io.trans h.io⟩
section
variable {Post : Value → World → Prop} {C : Ctx} {x : World}
set_option maxHeartbeats 8000000 in
theorem cellNil_all {op cl a e : Int} (hC : First C x) (h : Fine Post C x) :
    JG Try.prog Post C (G (Frame.enter Try.prog 5 #[.agg #[.int .i8 op, .int .i64 cl, .int .i64 a, .int .i64 e]] .normal) []) x := by
  have hround := @nil_round Post []
  simp only [Try.f5, Option.getD_some, Code.nav] at hround
  obtain ⟨c1, c2, c3, c4, c5⟩ := hC
  have hal : C.Alone x.heap.size := ⟨c2, by omega, by omega, fun i _ => c4 i⟩
  replace h := Lib.hid h
  replace hal := Lib.hid hal
  refine enterN Try.func5 (by rfl) (by rfl) ?_
  simp only [Try.f5, Option.getD_some]
  walk_nrm
  repeat first | refine JG.seq ?_ | refine JG.skip ?_ | refine JG.inBlock ?_ | refine JG.block ?_ | refine JG.done ?_ | refine JG.label ?_ | refine JG.condT rfl ?_ | refine JG.condF rfl ?_ | (refine JG.region ?_; simp only [List.size_toArray, List.length_cons, List.length_nil, Nat.reduceAdd, Nat.zero_add, List.range, List.range.loop]) | (refine JG.unwanted rfl (by rfl) ?_; try walk_nrm) | (refine jgo rfl rfl (by rfl) (by decide) (fun K E hK hE τ d => ?_); go_simp; refine hK _ _ (JG.tap ?_); clear hK hE K E τ d; try walk_nrm)
  refine jgo rfl rfl (by rfl) (by decide) (fun K E hK hE τ d => ?_)
  go_simp
  refine hK _ _ (JG.tap (x := x.alloc (.cells #[.int .i8 op, .int .i64 cl, .int .i64 a, .int .i64 e] 38)) ?_)
  simp only [under_size]
  clear hK hE K E τ d
  have b0 : (x.alloc (.cells #[.int .i8 op, .int .i64 cl, .int .i64 a, .int .i64 e] 38)).heap[x.heap.size]? = some (.cells #[.int .i8 op, .int .i64 cl, .int .i64 a, .int .i64 e] 38 (0, 0)) := heap_alloc_new x _
  have o0 := (OldStand.refl x).alloc (.cells #[.int .i8 op, .int .i64 cl, .int .i64 a, .int .i64 e] 38)
  have s0 : (x.alloc (.cells #[.int .i8 op, .int .i64 cl, .int .i64 a, .int .i64 e] 38)).heap.size = x.heap.size + 1 := by simp
  generalize x.alloc (.cells #[.int .i8 op, .int .i64 cl, .int .i64 a, .int .i64 e] 38) = y0 at b0 o0 s0 ⊢
  generalize hxb : x.heap.size = xb at b0 s0 hal ⊢
  replace s0 := Lib.hid s0
  replace o0 := Lib.hid o0
  repeat first | refine JG.seq ?_ | refine JG.skip ?_ | refine JG.inBlock ?_ | refine JG.block ?_ | refine JG.done ?_ | refine JG.label ?_ | refine JG.condT rfl ?_ | refine JG.condF rfl ?_ | (refine JG.region ?_; simp only [List.size_toArray, List.length_cons, List.length_nil, Nat.reduceAdd, Nat.zero_add, List.range, List.range.loop]) | (refine JG.unwanted rfl (by rfl) ?_; try walk_nrm) | (refine jgo rfl rfl (by rfl) (by decide) (fun K E hK hE τ d => ?_); go_simp; refine hK _ _ (JG.tap ?_); clear hK hE K E τ d; try walk_nrm)
  refine JG.call (f := 12) (args := #[]) rfl (by rfl) (by decide) (fun w => ?_) (fun w => ?_) ?_
  iterate 2 (focus obtain ⟨fn, h1, h2, h3⟩ : HasBody 12 := ⟨_, Try.func12, by kernel_rfl, by kernel_rfl⟩; have h4 : ¬ fn.name = "runtime.NumGoroutine" := (by simpa using h2); have h5 : ¬ fn.body = none := (by intro e; rw [e] at h3; cases h3); simp [go_sem, execOp, Act.eval, resolve, Deferred.ofValue, invoke, callFunc, h1, h4, h5])
  refine works02_J ⟨hal.out.d, hal.out.h, by have := hal.out.lo; have := s0.out; omega, hal.out.none⟩ (fun C1 y1 o1 sm1 al1 => ?_)
  rw [Frame.finish_at]
  walk_nrm
  have b1 := (o1.2 xb (Array.getElem?_eq_some_iff.1 b0).1).trans b0
  have o2 := o0.out.trans o1
  have l1 : xb < y1.heap.size := (Array.getElem?_eq_some_iff.1 b1).1
  clear b0 o0 o1 s0
  replace al1 := Lib.hid al1
  replace sm1 := Lib.hid sm1
  replace o2 := Lib.hid o2
  repeat first | refine JG.seq ?_ | refine JG.skip ?_ | refine JG.inBlock ?_ | refine JG.block ?_ | refine JG.done ?_ | refine JG.label ?_ | refine JG.condT rfl ?_ | refine JG.condF rfl ?_ | (refine JG.region ?_; simp only [List.size_toArray, List.length_cons, List.length_nil, Nat.reduceAdd, Nat.zero_add, List.range, List.range.loop]) | (refine JG.unwanted rfl (by rfl) ?_; try walk_nrm) | (refine jgo rfl rfl (by rfl) (by decide) (fun K E hK hE τ d => ?_); go_simp; refine hK _ _ (JG.tap ?_); clear hK hE K E τ d; try walk_nrm)
  refine jgo rfl rfl (by rfl) (by decide) (fun K E hK hE τ d => ?_)
  obtain ⟨hfact, hfact2⟩ := And.intro (cell_obj b1 1) (frozen_obj b1 1)
  replace hfact := (under_cell _ τ d _).trans hfact
  replace hfact2 := (under_frozen _ τ d _).trans hfact2
  go_simp
  refine hK _ _ ?_
  rw [under_setCell]
  refine JG.tap ?_
  clear hfact hfact2 hK hE K E τ d
  try walk_nrm
  have b2 : (y1.setCell (th xb 1) (.int .i64 0)).heap[xb]? = some (.cells #[.int .i8 op, .int .i64 0, .int .i64 a, .int .i64 e] 38 (0, 0)) := by rw [heap_set_self b1]; rfl
  have o3 : OldStand x (y1.setCell (th xb 1) (.int .i64 0)) := ⟨by rw [size_set]; exact o2.out.1, fun r hr => by rw [heap_set_ne (by omega)]; exact o2.out.2 r hr⟩
  have s3 := size_set y1 (th xb 1) (.int .i64 0)
  generalize y1.setCell (th xb 1) (.int .i64 0) = y2 at b2 o3 s3 ⊢
  clear b1 o2
  replace o3 := Lib.hid o3
  replace s3 := Lib.hid s3
  repeat first | refine JG.seq ?_ | refine JG.skip ?_ | refine JG.inBlock ?_ | refine JG.block ?_ | refine JG.done ?_ | refine JG.label ?_ | refine JG.condT rfl ?_ | refine JG.condF rfl ?_ | (refine JG.region ?_; simp only [List.size_toArray, List.length_cons, List.length_nil, Nat.reduceAdd, Nat.zero_add, List.range, List.range.loop]) | (refine JG.unwanted rfl (by rfl) ?_; try walk_nrm) | (refine jgo rfl rfl (by rfl) (by decide) (fun K E hK hE τ d => ?_); go_simp; refine hK _ _ (JG.tap ?_); clear hK hE K E τ d; try walk_nrm)
  refine jgo rfl rfl (by rfl) (by decide) (fun K E hK hE τ d => ?_)
  go_simp
  refine hK _ _ (JG.tap (x := y2.alloc (.cells #[.int .i64 0, .bool false, .int .i32 0, .int .u32 0, .chan none] 81)) ?_)
  simp only [under_size]
  clear hK hE K E τ d
  have n0 : (y2.alloc (.cells #[.int .i64 0, .bool false, .int .i32 0, .int .u32 0, .chan none] 81)).heap[y2.heap.size]? = some (.cells #[.int .i64 0, .bool false, .int .i32 0, .int .u32 0, .chan none] 81 (0, 0)) := heap_alloc_new y2 _
  have o4 := (OldStand.refl y2).alloc (.cells #[.int .i64 0, .bool false, .int .i32 0, .int .u32 0, .chan none] 81)
  generalize y2.alloc (.cells #[.int .i64 0, .bool false, .int .i32 0, .int .u32 0, .chan none] 81) = y3 at n0 o4 ⊢
  generalize y2.heap.size = nb at n0 ⊢
  repeat first | refine JG.seq ?_ | refine JG.skip ?_ | refine JG.inBlock ?_ | refine JG.block ?_ | refine JG.done ?_ | refine JG.label ?_ | refine JG.condT rfl ?_ | refine JG.condF rfl ?_ | (refine JG.region ?_; simp only [List.size_toArray, List.length_cons, List.length_nil, Nat.reduceAdd, Nat.zero_add, List.range, List.range.loop]) | (refine JG.unwanted rfl (by rfl) ?_; try walk_nrm) | (refine jgo rfl rfl (by rfl) (by decide) (fun K E hK hE τ d => ?_); go_simp; refine hK _ _ (JG.tap ?_); clear hK hE K E τ d; try walk_nrm)
  refine jgo rfl rfl (by rfl) (by decide) (fun K E hK hE τ d => ?_)
  go_simp
  refine hK _ _ (JG.tap (x := y3.alloc (.cells #[.pointer none, P0 nb] 29)) ?_)
  simp only [under_size]
  clear hK hE K E τ d
  have a0 : (y3.alloc (.cells #[.pointer none, P0 nb] 29)).heap[y3.heap.size]? = some (.cells #[.pointer none, P0 nb] 29 (0, 0)) := heap_alloc_new y3 _
  have o5 := (OldStand.refl y3).alloc (.cells #[.pointer none, P0 nb] 29)
  generalize y3.alloc (.cells #[.pointer none, P0 nb] 29) = y4 at a0 o5 ⊢
  generalize y3.heap.size = ab at a0 ⊢
  repeat first | refine JG.seq ?_ | refine JG.skip ?_ | refine JG.inBlock ?_ | refine JG.block ?_ | refine JG.done ?_ | refine JG.label ?_ | refine JG.condT rfl ?_ | refine JG.condF rfl ?_ | (refine JG.region ?_; simp only [List.size_toArray, List.length_cons, List.length_nil, Nat.reduceAdd, Nat.zero_add, List.range, List.range.loop]) | (refine JG.unwanted rfl (by rfl) ?_; try walk_nrm) | (refine jgo rfl rfl (by rfl) (by decide) (fun K E hK hE τ d => ?_); go_simp; refine hK _ _ (JG.tap ?_); clear hK hE K E τ d; try walk_nrm)
  refine jgo rfl rfl (by rfl) (by decide) (fun K E hK hE τ d => ?_)
  go_simp
  refine hK _ _ (JG.tap (x := y4.alloc (.cells #[.slice none 0 0] 28)) ?_)
  simp only [under_size]
  clear hK hE K E τ d
  have l0 : (y4.alloc (.cells #[.slice none 0 0] 28)).heap[y4.heap.size]? = some (.cells #[.slice none 0 0] 28 (0, 0)) := heap_alloc_new y4 _
  have o6 := (OldStand.refl y4).alloc (.cells #[.slice none 0 0] 28)
  generalize y4.alloc (.cells #[.slice none 0 0] 28) = y5 at l0 o6 ⊢
  have hl0 := (Array.getElem?_eq_some_iff.1 l0).1
  generalize hlb : y4.heap.size = lb at l0 hl0 ⊢
  refine jgo rfl rfl (by rfl) (by decide) (fun K E hK hE τ d => ?_)
  obtain ⟨hfact, hfact2⟩ := And.intro (cell_obj l0 0) (frozen_obj l0 0)
  replace hfact := (under_cell _ τ d _).trans hfact
  replace hfact2 := (under_frozen _ τ d _).trans hfact2
  go_simp
  refine hK _ _ ?_
  rw [under_setCell]
  refine JG.tap ?_
  clear hfact hfact2 hK hE K E τ d
  try walk_nrm
  have l2 : (y5.setCell (th lb 0) (.slice (some ⟨ab, 0, none⟩) 2 2)).heap[lb]? = some (.cells #[.slice (some ⟨ab, 0, none⟩) 2 2] 28 (0, 0)) := by rw [heap_set_self l0]; rfl
  have o7 : OldStand y4 (y5.setCell (th lb 0) (.slice (some ⟨ab, 0, none⟩) 2 2)) := ⟨by rw [size_set]; exact o6.1, fun r hr => by rw [heap_set_ne (by omega)]; exact o6.2 r hr⟩
  generalize y5.setCell (th lb 0) (.slice (some ⟨ab, 0, none⟩) 2 2) = y6 at l2 o7 ⊢
  clear l0 o6 hl0
  replace l2 := Lib.hid l2
  repeat first | refine JG.seq ?_ | refine JG.skip ?_ | refine JG.inBlock ?_ | refine JG.block ?_ | refine JG.done ?_ | refine JG.label ?_ | refine JG.condT rfl ?_ | refine JG.condF rfl ?_ | (refine JG.region ?_; simp only [List.size_toArray, List.length_cons, List.length_nil, Nat.reduceAdd, Nat.zero_add, List.range, List.range.loop]) | (refine JG.unwanted rfl (by rfl) ?_; try walk_nrm) | (refine jgo rfl rfl (by rfl) (by decide) (fun K E hK hE τ d => ?_); go_simp; refine hK _ _ (JG.tap ?_); clear hK hE K E τ d; try walk_nrm)
  refine jgo rfl rfl (by rfl) (by decide) (fun K E hK hE τ d => ?_)
  go_simp
  refine hK _ _ (JG.tap (x := y6.alloc (.cells #[.int .i64 0] 3)) ?_)
  simp only [under_size]
  clear hK hE K E τ d
  have i0 : (y6.alloc (.cells #[.int .i64 0] 3)).heap[y6.heap.size]? = some (.cells #[.int .i64 0] 3 (0, 0)) := heap_alloc_new y6 _
  have o8 := (OldStand.refl y6).alloc (.cells #[.int .i64 0] 3)
  generalize y6.alloc (.cells #[.int .i64 0] 3) = y7 at i0 o8 ⊢
  generalize hib : y6.heap.size = ib at i0 ⊢
  refine jgo rfl rfl (by rfl) (by decide) (fun K E hK hE τ d => ?_)
  obtain ⟨hfact, hfact2⟩ := And.intro (cell_obj i0 0) (frozen_obj i0 0)
  replace hfact := (under_cell _ τ d _).trans hfact
  replace hfact2 := (under_frozen _ τ d _).trans hfact2
  go_simp
  refine hK _ _ ?_
  rw [under_setCell]
  refine JG.tap ?_
  clear hfact hfact2 hK hE K E τ d
  try walk_nrm
  have i2 : (y7.setCell (th ib 0) (.int .i64 0)).heap[ib]? = some (.cells #[.int .i64 0] 3 (0, 0)) := by rw [heap_set_self i0]; rfl
  have o9 : OldStand y6 (y7.setCell (th ib 0) (.int .i64 0)) := ⟨by rw [size_set]; exact o8.1, fun r hr => by rw [heap_set_ne (by omega)]; exact o8.2 r hr⟩
  generalize y7.setCell (th ib 0) (.int .i64 0) = y8 at i2 o9 ⊢
  have p4 : OldStand y4 y8 := o7.trans o9
  have p3 : OldStand y3 y8 := o5.trans p4
  have p2 : OldStand y2 y8 := o4.trans p3
  have px : OldStand x y8 := o3.out.trans p2
  have xb8 := (p2.2 xb (Array.getElem?_eq_some_iff.1 b2).1).trans b2
  have nb8 := (p3.2 nb (Array.getElem?_eq_some_iff.1 n0).1).trans n0
  have ab8 := (p4.2 ab (Array.getElem?_eq_some_iff.1 a0).1).trans a0
  have lb8 := (o9.2 lb (Array.getElem?_eq_some_iff.1 l2.out).1).trans l2.out
  have hN0 : NilAt y8 lb ib xb ab 0 op a e (.pointer none) := ⟨lb8, i2, xb8, cell_obj ab8 0, .inl rfl⟩
  have hN1 : ∀ z ib', OldStand y8 z → z.heap[ib']? = some (.cells #[.int .i64 ((0 + 1 : Nat) : Int)] 3 (0, 0)) → NilAt z lb ib' xb ab 1 op a e (P0 nb) := fun z ib' o hz => ⟨(o.2 lb (Array.getElem?_eq_some_iff.1 lb8).1).trans lb8, hz, (o.2 xb (Array.getElem?_eq_some_iff.1 xb8).1).trans xb8, o.cell (cell_obj ab8 1), .inr ⟨nb, rfl, o.cell (cell_obj nb8 1)⟩⟩
  have al8 : C1.Alone y8.heap.size := ⟨al1.out.d, al1.out.h, by have := al1.out.lo; have := p2.1; have := s3.out; omega, al1.out.none⟩
  clear o4 o5 o7 o8 o9 i0 b2 n0 a0 l2 al1 o3 s3 p4 p3 p2 xb8 nb8 ab8 lb8 i2
  replace hN0 := Lib.hid hN0
  replace hN1 := Lib.hid hN1
  replace px := Lib.hid px
  replace al8 := Lib.hid al8
  repeat first | refine JG.seq ?_ | refine JG.skip ?_ | refine JG.inBlock ?_ | refine JG.block ?_ | refine JG.done ?_ | refine JG.label ?_ | refine JG.condT rfl ?_ | refine JG.condF rfl ?_ | (refine JG.region ?_; simp only [List.size_toArray, List.length_cons, List.length_nil, Nat.reduceAdd, Nat.zero_add, List.range, List.range.loop]) | (refine JG.unwanted rfl (by rfl) ?_; try walk_nrm) | (refine jgo rfl rfl (by rfl) (by decide) (fun K E hK hE τ d => ?_); go_simp; refine hK _ _ (JG.tap ?_); clear hK hE K E τ d; try walk_nrm)
  refine JG.loop ?_
  refine hround (op := op) (a := a) (e := e) (ab := ab) (v := .pointer none) (i := 0) al8.out hN0.out (.inl rfl) ?_
  intro C2 z2 ib2 p0 p2 p4 p7 p8 p9 p10 p11 p12 p13 p14 p15 p16 p17 p18 p19 p20 p21 p22 p23 p24 p25 p26 p27 p28 p29 p30 p31 p32 p33 p34 p35 p36 p37 p38 p39 p40 p41 q1 q2 q3 q4 q5
  refine hround (op := op) (a := a) (e := e) (ab := ab) (v := P0 nb) (i := 1) q5 (hN1.out z2 ib2 q1 q2) (.inr rfl) ?_
  intro C3 z3 ib3 t0 t2 t4 t7 t8 t9 t10 t11 t12 t13 t14 t15 t16 t17 t18 t19 t20 t21 t22 t23 t24 t25 t26 t27 t28 t29 t30 t31 t32 t33 t34 t35 t36 t37 t38 t39 t40 t41 r1 r2 r3 r4 r5
  have hsm : C.Same C3 := (sm1.out.trans q4).trans r4
  have hold := (px.out.trans q1).trans r1
  have k3 : z3.cell? (th ib3 0) = some (.int .i64 2) := cell_obj r2 0
  clear hround hN0 hN1 q1 q2 r1 r2
  replace hold := Lib.hid hold
  replace hsm := Lib.hid hsm
  replace r5 := Lib.hid r5
  repeat first | refine JG.seq ?_ | refine JG.skip ?_ | refine JG.inBlock ?_ | refine JG.block ?_ | refine JG.done ?_ | refine JG.label ?_ | refine JG.condT rfl ?_ | refine JG.condF rfl ?_ | (refine JG.region ?_; simp only [List.size_toArray, List.length_cons, List.length_nil, Nat.reduceAdd, Nat.zero_add, List.range, List.range.loop]) | (refine JG.unwanted rfl (by rfl) ?_; try walk_nrm) | (refine jgo rfl rfl (by rfl) (by decide) (fun K E hK hE τ d => ?_); go_simp; refine hK _ _ (JG.tap ?_); clear hK hE K E τ d; try walk_nrm) | (refine jgo rfl rfl (by rfl) (by decide) (fun K E hK hE τ d => ?_); have hfact := (under_cell _ τ d _).trans (k3); go_simp; refine hK _ _ (JG.tap ?_); clear hfact hK hE K E τ d; try walk_nrm)
  refine JG.exit (by rfl) ?_
  repeat first | refine JG.seq ?_ | refine JG.skip ?_ | refine JG.inBlock ?_ | refine JG.block ?_ | refine JG.done ?_ | refine JG.label ?_ | refine JG.condT rfl ?_ | refine JG.condF rfl ?_ | (refine JG.region ?_; simp only [List.size_toArray, List.length_cons, List.length_nil, Nat.reduceAdd, Nat.zero_add, List.range, List.range.loop]) | (refine JG.unwanted rfl (by rfl) ?_; try walk_nrm) | (refine jgo rfl rfl (by rfl) (by decide) (fun K E hK hE τ d => ?_); go_simp; refine hK _ _ (JG.tap ?_); clear hK hE K E τ d; try walk_nrm)
  refine JG.ret ?_
  exact JG.end (hsm.out.h.trans c1) r5.out.d (fun i hi => r5.out.none i (by have h1 := hsm.out.h; omega)) rfl rfl Try.func5 (by kernel_rfl) (fun w _ d => results_tmp (t := 2) rfl _ _ _) (fun w => events_results_tmp rfl _ _) (fun w hT hio d => h.out (w.at d) (hio.trans hsm.out.io) (by have := hT.size; have := hold.out.1; show x.heap.size ≤ w.heap.size; omega) (fun r hr => ((hT.old r (by show r < C3.lo; have := hsm.out.lo; omega)).symm.trans (hold.out.2 r hr))))
end
end Go.Proofs.Ytecmobjiepgfjaa
