/- Joined of the texts RoE, RoF; what each proves, and its conditions, stand ahead of it. -/
import Derived.Test.YtecmobjiepgfjaaNRoC
import Derived.Test.YtecmobjiepgfjaaNRoD
import Derived.Test.YtecmobjiepgfjaaNLbA
/- The bodies' side where the run's cells are the program's cells; a body's frame. -/
namespace Go.Proofs.Ytecmobjiepgfjaa
open Go.Conc Go.RowKit
open Go.ConcN (upd upd_same upd_ne)
set_option linter.unusedSimpArgs false
set_option linter.unusedVariables false
set_option maxRecDepth 100000
/-- What else the bodies share: in blocks that are none of the cells. -/
structure More (Sh : Type) (A : Nat → Nat) (nc : Nat) where
  M : Sh → (Nat → Prop) → World → Prop
  frame : ∀ {sh : Sh} {col : Nat → Prop} {x : World}, M sh col x → ∀ (col' : Nat → Prop) (y : World), x.heap.size ≤ y.heap.size → (∀ r, r < x.heap.size → ¬ col r → (∀ i, i < nc → r ≠ A i) → y.heap[r]? = x.heap[r]?) → (∀ r, r < x.heap.size → col' r → col r) → M sh col' y
theorem IsCell.lt {x : World} {b : Nat} {v : Int} (h : IsCell x b v) : b < x.heap.size := (Array.getElem?_eq_some_iff.1 h).1
def cellSide {Sh : Type} (A : Nat → Nat) (nc : Nat) (inj : ∀ a b, a < nc → b < nc → A a = A b → a = b) (W : More Sh A nc) : Side Sh where
  A := A
  nc := nc
  I := fun sh cells col x => (∀ i, i < nc → IsCell x (A i) (cells i) ∧ ¬ col (A i)) ∧ W.M sh col x
  inj := inj
  cell := fun h i hi => ⟨⟨_, _, (h.1 i hi).1⟩, (h.1 i hi).1.c0, (h.1 i hi).2⟩
  frame := fun h col' y hs ho hc => ⟨fun i hi => by
    obtain ⟨h1, h2⟩ := h.1 i hi
    exact ⟨(ho _ h1.lt h2).trans h1, fun e => h2 (hc _ h1.lt e)⟩, W.frame h.2 col' y hs (fun r hr hn _ => ho r hr hn) hc⟩
  set := fun {sh cells col x} h i v col' y hi hs ho hv hc => ⟨fun j hj => by
    obtain ⟨h1, h2⟩ := h.1 j hj
    refine ⟨?_, fun e => h2 (hc _ h1.lt e)⟩
    by_cases e : j = i
    · subst e
      rw [upd_same]
      exact hv.trans (h1.set v)
    · rw [upd_ne _ _ e]
      exact (ho _ h1.lt h2 fun e2 => e (inj j i hj hi e2)).trans h1, W.frame h.2 col' y hs (fun r hr hn hna => ho r hr hn (hna i hi)) hc⟩
section
variable {Sh : Type} {Post : Value → World → Prop} {S : Side Sh} {tb rb m : Nat} {cb c : Frame} {f : Told → Value} {k : Told → Prog Sh Unit}
/-- In a body's own frame. -/
theorem AfterV.body (h1 : ∀ (C : Ctx) (x : World), JG Try.prog Post C (G (cb.raise [{ v := stopV, recovered := false }]) [rootF Try.prog]) x → JG Try.prog Post C (G (c.raise [{ v := stopV, recovered := false }]) [cb, rootF Try.prog]) x)
    (h2 : ∀ m', m = m' + 1 → ∀ (C : Ctx) (x : World) (col : Nat → Prop) (sh : Sh) (cells : Nat → Int) (a : Told), C.d = 0 → Lives x tb rb → col tb → (∀ r, col r → r < x.heap.size) → S.I sh cells col x →
      Reach Post S tb cb (AfterV Post S tb rb cb m' stepV) C col cells x ((k a).pass sh).1 ((k a).pass sh).2 → JG Try.prog Post C (G (c.finish (f a)) [cb, rootF Try.prog]) x) : AfterV Post S tb rb cb m f k c [cb, rootF Try.prog] := by
  have hs : StopOK Post cb c [cb, rootF Try.prog] := fun C x hb => h1 C x (hb x (Nat.le_refl _) fun _ _ => rfl)
  cases m with
  | zero => exact hs
  | succ m => exact ⟨hs, h2 m rfl⟩
end
section
variable {Post : Value → World → Prop} {C : Ctx} {x : World} {c : Frame} {cs : List Frame}
theorem cellNewI_J {v : Int} (h : ∀ y, OldStand x y → IsCell y x.heap.size v → y.heap.size = x.heap.size + 1 → JG Try.prog Post C (G (c.finish (P0 x.heap.size)) cs) y) : JG Try.prog Post C (G (Frame.enter Try.prog 14 #[.int .i64 v] .normal) (c :: cs)) x := by
  refine JG.calls (F := FX makersX) (Q := fun u y => u = P0 x.heap.size ∧ OldStand x y ∧ IsCell y x.heap.size v ∧ y.heap.size = x.heap.size + 1) (closedMX _) (by kernel_rfl) (fun τ => ?_) (fun u y hq => ?_)
  · refine (cell_new v _).mono ?_
    rintro e y ⟨rfl, rfl⟩
    exact ⟨_, rfl, rfl, (OldStand.refl (under x τ 0)).alloc _, isCell_new (under x τ 0) v, by simp [under_size]⟩
  · obtain ⟨rfl, h1, h2, h3⟩ := hq
    exact h y h1 h2 h3
end
end Go.Proofs.Ytecmobjiepgfjaa
/- The cell law's works under J: a cell alone, and two threads, one asleep till the other stores. -/
namespace Go.Proofs.Ytecmobjiepgfjaa
open Go.Conc Go.RowKit
open Go.ConcN (upd upd_same upd_ne)
set_option linter.unusedSimpArgs false
set_option linter.unusedVariables false
set_option maxRecDepth 100000
def w02P1 : Prog Int Unit := .acc ⟨6, 0, 0, 0⟩ fun a => .act (fun _ => a.was) fun _ => .ret ()
def w02P2 : Prog Int Unit := .acc ⟨2, 0, 4, 0⟩ fun _ => .ret ()
def w02run : Int × Play Int := ((Play.init 0 fun _ => 0).start [w02P1, w02P2]).runs (picked []) 9
theorem w02_end : w02run.1 = 1 := by decide +kernel
theorem w02_sh : w02run.2.st.sh = 4 := by decide +kernel
theorem w02_cell : w02run.2.st.cells 0 = 4 := by decide +kernel
theorem w02_log : w02run.2.st.log = [⟨1, 2, 0, 4, 0, 0, 4, false⟩, ⟨0, 6, 0, 0, 0, 4, 4, false⟩] := by rfl
/-- The boxes of c and got. -/
def w02More (bc bg cb : Nat) (h : bc ≠ cb ∧ bg ≠ cb) : More Int (fun _ => cb) 1 where
  M := fun sh col x => (x.heap[bc]? = some (.cells #[P0 cb] 29 (0, 0)) ∧ ¬ col bc) ∧ x.heap[bg]? = some (.cells #[.int .i64 sh] 2 (0, 0)) ∧ ¬ col bg
  frame := fun {sh col x} hM col' y hs ho hc => by
    obtain ⟨⟨h1, h2⟩, h3, h4⟩ := hM
    have l1 := (Array.getElem?_eq_some_iff.1 h1).1
    have l3 := (Array.getElem?_eq_some_iff.1 h3).1
    exact ⟨⟨(ho _ l1 h2 fun _ _ => h.1).trans h1, fun e => h2 (hc _ l1 e)⟩, (ho _ l3 h4 fun _ _ => h.2).trans h3, fun e => h4 (hc _ l3 e)⟩
abbrev w02Side (bc bg cb : Nat) (h : bc ≠ cb ∧ bg ≠ cb) : Side Int := cellSide (fun _ => cb) 1 (fun a b ha hb _ => by omega) (w02More bc bg cb h)
section
variable {Post : Value → World → Prop} {bc bg cb m : Nat} {hne : bc ≠ cb ∧ bg ≠ cb}
set_option maxHeartbeats 4000000 in
theorem w02_b1 (hgc : bg ≠ bc) : BodyOK Post (w02Side bc bg cb hne) m 76 #[P0 bc, P0 bg] w02P1 := by
  refine ⟨⟨_, Try.func76, by kernel_rfl, by kernel_rfl⟩, fun C x col sh cells tb rb cbf hd hL hct hcb hI R => ?_⟩
  have hI0 := hI
  obtain ⟨hc, ⟨hM1, hM2⟩, hM3, hM4⟩ := hI
  obtain ⟨hc1, hc2⟩ := hc 0 (by decide)
  have k1 : x.cell? (th bc 0) = some (P0 cb) := cell_obj hM1 0
  have hR : StepAt Post (w02Side bc bg cb hne) tb rb cbf m C x ⟨6, 0, 0, 0⟩ (fun a => .act (fun _ => a.was) fun _ => .ret ()) := Reach.step (x0 := x) R (Nat.le_refl _) (fun _ _ => rfl) hI0
  replace hR := Lib.hid hR
  replace hI0 := Lib.hid hI0
  clear R hc hM1 hM3
  refine enterN Try.func76 (by rfl) (by rfl) ?_
  simp only [Try.f76, Option.getD_some]
  walk_nrm
  repeat first | refine JG.seq ?_ | refine JG.skip ?_ | refine JG.inBlock ?_ | refine JG.block ?_ | refine JG.done ?_ | refine JG.label ?_ | refine JG.condT rfl ?_ | refine JG.condF rfl ?_ | (refine JG.region ?_; simp only [List.size_toArray, List.length_cons, List.length_nil, Nat.reduceAdd, Nat.zero_add, List.range, List.range.loop]) | (refine JG.unwanted rfl (by rfl) ?_; try walk_nrm) | (refine jgo rfl rfl (by rfl) (by decide) (fun K E hK hE τ d => ?_); go_simp; refine hK _ _ (JG.tap ?_); clear hK hE K E τ d; try walk_nrm) | (refine jgo rfl rfl (by rfl) (by decide) (fun K E hK hE τ d => ?_); have hfact := (under_cell _ τ d _).trans (k1); go_simp; refine hK _ _ (JG.tap ?_); clear hfact hK hE K E τ d; try walk_nrm)
  refine JG.call (f := 77) (args := #[P0 cb, P0 tb, .int .i64 0]) rfl (by rfl) (by decide) (fun w => ?_) (fun w => ?_) ?_
  iterate 2 (focus obtain ⟨fn, h1, h2, h3⟩ : HasBody 77 := ⟨_, Try.func77, by kernel_rfl, by kernel_rfl⟩; have h4 : ¬ fn.name = "runtime.NumGoroutine" := (by simpa using h2); have h5 : ¬ fn.body = none := (by intro e; rw [e] at h3; cases h3); simp [go_sem, execOp, Act.eval, resolve, Deferred.ofValue, invoke, callFunc, h1, h4, h5])
  refine cellPark_R (S := w02Side bc bg cb hne) (i := 0) (v := 0) hc1.c1 hL (show 0 < 1 from Nat.zero_lt_one) hR.out (AfterV.body (fun C x h => JG.raise rfl Try.func76 h) (fun m' _ C y col' sh' cells' a hd' hL' hct' hcb' hI' R' => ?_))
  rw [Frame.finish_at]
  walk_nrm
  have hI1 := hI'
  obtain ⟨hc', ⟨hM1', hM2'⟩, hM3', hM4'⟩ := hI'
  have g1 : y.cell? (th bg 0) = some (.int .i64 sh') := cell_obj hM3' 0
  have g2 : y.frozen? (th bg 0) = false := frozen_obj hM3' 0
  refine jgo rfl rfl (by rfl) (by decide) (fun K E hK hE τ d => ?_)
  obtain ⟨hfact, hfact2⟩ := And.intro g1 g2
  replace hfact := (under_cell _ τ d _).trans hfact
  replace hfact2 := (under_frozen _ τ d _).trans hfact2
  go_simp
  refine hK _ _ ?_
  rw [under_setCell]
  refine JG.tap ?_
  clear hfact hfact2 hK hE K E τ d
  try walk_nrm
  have hR' := R' (y.setCell (th bg 0) (.int .i64 a.was)) (by rw [size_set]; exact Nat.le_refl _) (fun r hr => heap_set_ne fun e => hM4' (e ▸ hr)) ⟨fun i hi => ⟨(heap_set_ne (fun e => hne.2 e.symm)).trans (hc' i hi).1, (hc' i hi).2⟩, ⟨(heap_set_ne fun e => hgc e.symm).trans hM1', hM2'⟩, by rw [heap_set_self hM3']; rfl, hM4'⟩
  replace hR' := Lib.hid hR'
  clear g1 g2 hM1' hM3' hc' hI1 R'
  repeat first | refine JG.seq ?_ | refine JG.skip ?_ | refine JG.inBlock ?_ | refine JG.block ?_ | refine JG.done ?_ | refine JG.label ?_ | refine JG.condT rfl ?_ | refine JG.condF rfl ?_ | (refine JG.region ?_; simp only [List.size_toArray, List.length_cons, List.length_nil, Nat.reduceAdd, Nat.zero_add, List.range, List.range.loop]) | (refine JG.unwanted rfl (by rfl) ?_; try walk_nrm) | (refine jgo rfl rfl (by rfl) (by decide) (fun K E hK hE τ d => ?_); go_simp; refine hK _ _ (JG.tap ?_); clear hK hE K E τ d; try walk_nrm)
  first | refine JG.fin ?_ | refine JG.done (JG.fin ?_)
  exact JG.leave0 rfl rfl Try.func76 (by rfl) (hR'.out _)
set_option maxHeartbeats 4000000 in
theorem w02_b2 : BodyOK Post (w02Side bc bg cb hne) m 78 #[P0 bc] w02P2 := by
  refine ⟨⟨_, Try.func78, by kernel_rfl, by kernel_rfl⟩, fun C x col sh cells tb rb cbf hd hL hct hcb hI R => ?_⟩
  have hI0 := hI
  obtain ⟨hc, ⟨hM1, hM2⟩, hM3, hM4⟩ := hI
  obtain ⟨hc1, hc2⟩ := hc 0 (by decide)
  have k1 : x.cell? (th bc 0) = some (P0 cb) := cell_obj hM1 0
  have hR : StepAt Post (w02Side bc bg cb hne) tb rb cbf m C x ⟨2, 0, 4, 0⟩ (fun _ => .ret ()) := Reach.step (x0 := x) R (Nat.le_refl _) (fun _ _ => rfl) hI0
  replace hR := Lib.hid hR
  replace hI0 := Lib.hid hI0
  clear R hc hM1 hM3
  refine enterN Try.func78 (by rfl) (by rfl) ?_
  simp only [Try.f78, Option.getD_some]
  walk_nrm
  repeat first | refine JG.seq ?_ | refine JG.skip ?_ | refine JG.inBlock ?_ | refine JG.block ?_ | refine JG.done ?_ | refine JG.label ?_ | refine JG.condT rfl ?_ | refine JG.condF rfl ?_ | (refine JG.region ?_; simp only [List.size_toArray, List.length_cons, List.length_nil, Nat.reduceAdd, Nat.zero_add, List.range, List.range.loop]) | (refine JG.unwanted rfl (by rfl) ?_; try walk_nrm) | (refine jgo rfl rfl (by rfl) (by decide) (fun K E hK hE τ d => ?_); go_simp; refine hK _ _ (JG.tap ?_); clear hK hE K E τ d; try walk_nrm) | (refine jgo rfl rfl (by rfl) (by decide) (fun K E hK hE τ d => ?_); have hfact := (under_cell _ τ d _).trans (k1); go_simp; refine hK _ _ (JG.tap ?_); clear hfact hK hE K E τ d; try walk_nrm)
  refine JG.call (f := 79) (args := #[P0 cb, P0 tb, .int .i64 4]) rfl (by rfl) (by decide) (fun w => ?_) (fun w => ?_) ?_
  iterate 2 (focus obtain ⟨fn, h1, h2, h3⟩ : HasBody 79 := ⟨_, Try.func79, by kernel_rfl, by kernel_rfl⟩; have h4 : ¬ fn.name = "runtime.NumGoroutine" := (by simpa using h2); have h5 : ¬ fn.body = none := (by intro e; rw [e] at h3; cases h3); simp [go_sem, execOp, Act.eval, resolve, Deferred.ofValue, invoke, callFunc, h1, h4, h5])
  refine cellStore_R (S := w02Side bc bg cb hne) (i := 0) (v := 4) hc1.c1 hL (show 0 < 1 from Nat.zero_lt_one) hR.out (AfterV.body (fun C x h => JG.raise rfl Try.func78 h) (fun m' _ C y col' sh' cells' a hd' hL' hct' hcb' hI' R' => ?_))
  rw [Frame.finish_at]
  walk_nrm
  have hR' := R' y (Nat.le_refl _) (fun r hr => rfl) hI'
  replace hR' := Lib.hid hR'
  clear R' hI'
  repeat first | refine JG.seq ?_ | refine JG.skip ?_ | refine JG.inBlock ?_ | refine JG.block ?_ | refine JG.done ?_ | refine JG.label ?_ | refine JG.condT rfl ?_ | refine JG.condF rfl ?_ | (refine JG.region ?_; simp only [List.size_toArray, List.length_cons, List.length_nil, Nat.reduceAdd, Nat.zero_add, List.range, List.range.loop]) | (refine JG.unwanted rfl (by rfl) ?_; try walk_nrm) | (refine jgo rfl rfl (by rfl) (by decide) (fun K E hK hE τ d => ?_); go_simp; refine hK _ _ (JG.tap ?_); clear hK hE K E τ d; try walk_nrm)
  first | refine JG.fin ?_ | refine JG.done (JG.fin ?_)
  exact JG.leave0 rfl rfl Try.func78 (by rfl) (hR'.out _)
end
end Go.Proofs.Ytecmobjiepgfjaa
