/- More mild functions, by a list that a closed Bool checks; lone contracts of cell.New and ring.New under J. -/
import Derived.Test.YtecmobjiepgfjaaGtF
import Derived.Test.YtecmobjiepgfjaaGtU
import Derived.Test.YtecmobjiepgfjaaGtT
import Derived.Test.YtecmobjiepgfjaaGtR
import Derived.Test.YtecmobjiepgfjaaGtS
namespace Go.Proofs.Ytecmobjiepgfjaa
open Go.Conc Go.RowKit
open Go.ConcN (upd upd_same upd_ne)
set_option linter.unusedSimpArgs false
set_option linter.unusedVariables false
set_option maxRecDepth 100000
noncomputable def FL (ms : List FuncId) : Fns := { fn := fun f => ms.contains f, maps := false, top := fun f => decide (f < Try.prog.funcs.size), ext := fun f => exts.contains f }
noncomputable def textB (F : Fns) (f : FuncId) : Bool := match Try.prog.funcs[f]? with
  | some fn => !(fn.name == "runtime.NumGoroutine") && (match fn.body with | some c => okCode F c | none => false)
  | none => false
theorem textB_at {F : Fns} {f : FuncId} (h : textB F f = true) : TextAt F f := by
  unfold textB at h
  split at h
  · rename_i fn hfn
    simp only [Bool.and_eq_true, Bool.not_eq_true'] at h
    obtain ⟨h1, h2⟩ := h
    split at h2
    · rename_i c hc
      exact ⟨fn, c, hfn, h1, hc, h2⟩
    · cases h2
  · cases h
theorem closedL {ms : List FuncId} (S : Prot) (h : (ms.all (textB (FL ms))) = true) : Closed Try.prog S (FL ms) where
  maps := fun h => by cases h
  text := fun f hf => textB_at (List.all_eq_true.1 h f (List.contains_iff_mem.1 hf))
  exts := exts_ok
  tops := fun f h => by
    have h : f < Try.prog.funcs.size := by simpa [FL] using h
    exact ⟨_, Array.getElem?_eq_getElem h⟩
  early := early_ok
/-- What makes cells and rings. -/
noncomputable def makers : List FuncId := [14, 80, 42, 111]
theorem closedM (S : Prot) : Closed Try.prog S (FL makers) := closedL S (by kernel_rfl)
section
variable {Post : Value → World → Prop} {C : Ctx} {x : World} {c : Frame} {cs : List Frame}
theorem cellNew_J {v : Int} (h : ∀ y, y.heap = x.heap.push (cellObj v) → JG Try.prog Post C (G (c.finish (P0 x.heap.size)) cs) y) : JG Try.prog Post C (G (Frame.enter Try.prog 14 #[.int .i64 v] .normal) (c :: cs)) x := by
  refine JG.calls (F := FL makers) (Q := fun u y => u = P0 x.heap.size ∧ y.heap = x.heap.push (cellObj v)) (closedM _) (by kernel_rfl) (fun τ => ?_) (fun u y hq => ?_)
  · refine (cell_new v _).mono ?_
    rintro e y ⟨rfl, rfl⟩
    exact ⟨_, rfl, rfl, by rw [heap_alloc']; rfl⟩
  · obtain ⟨rfl, hy⟩ := hq
    exact h y hy
theorem ringNew_J {k : Nat} {p : Int} (hk1 : 1 ≤ k) (hk : k ≤ 12) (h : ∀ y r i o pb B τ, RingAt (under x τ 0) y r i o pb B (2 ^ k) p (2 ^ k) → JG Try.prog Post C (G (c.finish (.tuple #[P0 r, .int .i64 0])) cs) y) :
    JG Try.prog Post C (G (Frame.enter Try.prog 42 #[.int .i64 ((2 ^ k : Nat) : Int), .int .i64 p] .normal) (c :: cs)) x := by
  refine JG.calls (F := FL makers) (Q := fun u y => ∃ r i o pb B τ, u = .tuple #[P0 r, .int .i64 0] ∧ RingAt (under x τ 0) y r i o pb B (2 ^ k) p (2 ^ k)) (closedM _) (by kernel_rfl) (fun τ => ?_) (fun u y hq => ?_)
  · refine (ring_new k hk1 hk p _).mono ?_
    rintro e y ⟨r, i, o, pb, B, rfl, hR⟩
    exact ⟨_, rfl, r, i, o, pb, B, τ, rfl, hR⟩
  · obtain ⟨r, i, o, pb, B, τ, rfl, hR⟩ := hq
    exact h y r i o pb B τ hR
end
/-- A ring at work: its in and out, each place's turn and slot, by the place's number from the first position on. -/
structure RingSt (lo : Nat) (y : World) (r ic oc pb B n : Nat) (p0 pin pout : Int) (turn slot : Nat → Int) : Prop where
  blk : y.heap[r]? = some (.cells #[P0 ic, P0 oc, .slice (some ⟨pb, 0, none⟩) n n] 115 (0, 0))
  cin : FreeCell y ic pin
  cout : FreeCell y oc pout
  row : ∀ j : Nat, j < n → y.cell? (th pb ((ixZ n (p0 + j)).toNat * 2)) = some (P0 (B + 2 * j)) ∧ y.cell? (th pb ((ixZ n (p0 + j)).toNat * 2 + 1)) = some (P0 (B + 2 * j + 1))
  turns : ∀ j : Nat, j < n → FreeCell y (B + 2 * j) (turn j)
  slots : ∀ j : Nat, j < n → FreeCell y (B + 2 * j + 1) (slot j)
  ne : ic ≠ oc ∧ r ≠ ic ∧ r ≠ oc ∧ pb ≠ ic ∧ pb ≠ oc
  hi : r < B ∧ ic < B ∧ oc < B ∧ pb < B
  lo : lo ≤ r ∧ lo ≤ ic ∧ lo ≤ oc ∧ lo ≤ pb
theorem RingAt.st {w y : World} {r i o pb B n : Nat} {p : Int} (h : RingAt w y r i o pb B n p n) : RingSt w.heap.size y r i o pb B n p p p (fun j => wrap64 (p + j)) (fun _ => 0) := by
  obtain ⟨cs, hcs, hsz, hrow⟩ := h.places.row
  refine ⟨h.blk, h.cin.free, h.cout.free, fun j hj => ?_, fun j hj => (h.places.cell j hj).1.free, fun j hj => (h.places.cell j hj).2.free, ⟨h.diff, ?_, ?_, ?_, ?_⟩, h.highs, h.lows⟩
  · obtain ⟨h1, h2⟩ := hrow j hj
    exact ⟨by rw [hcs.cell, h1], by rw [hcs.cell, h2]⟩
  · exact Blk.ne_ h.blk (show Blk y i _ _ from h.cin) (by decide)
  · exact Blk.ne_ h.blk (show Blk y o _ _ from h.cout) (by decide)
  · exact Blk.ne_ hcs (show Blk y i _ _ from h.cin) (by decide)
  · exact Blk.ne_ hcs (show Blk y o _ _ from h.cout) (by decide)
section
variable {Post : Value → World → Prop} {C : Ctx} {x : World} {c : Frame} {cs : List Frame} {lo r ic oc pb B n : Nat} {p0 pin pout : Int} {turn slot : Nat → Int}
/-- A cell that is neither the ring nor its row of places is set. -/
theorem RingSt.frame (h : RingSt lo x r ic oc pb B n p0 pin pout turn slot) {q : Nat} {u : Value} (h1 : r ≠ q) (h2 : pb ≠ q) :
    (x.setCell (th q 0) u).heap[r]? = some (.cells #[P0 ic, P0 oc, .slice (some ⟨pb, 0, none⟩) n n] 115 (0, 0)) ∧
    ∀ j : Nat, j < n → (x.setCell (th q 0) u).cell? (th pb ((ixZ n (p0 + j)).toNat * 2)) = some (P0 (B + 2 * j)) ∧ (x.setCell (th q 0) u).cell? (th pb ((ixZ n (p0 + j)).toNat * 2 + 1)) = some (P0 (B + 2 * j + 1)) :=
  ⟨(heap_set_ne h1).trans h.blk, fun j hj => ⟨cell_setCell_ne (by simp [th, h2]) (h.row j hj).1, cell_setCell_ne (by simp [th, h2]) (h.row j hj).2⟩⟩
theorem RingSt.setIn (h : RingSt lo x r ic oc pb B n p0 pin pout turn slot) (v : Int) : RingSt lo (x.setCell (th ic 0) (.int .i64 v)) r ic oc pb B n p0 v pout turn slot := by
  obtain ⟨f1, f2⟩ := h.frame (q := ic) (u := .int .i64 v) h.ne.2.1 h.ne.2.2.2.1
  exact ⟨f1, h.cin.set, h.cout.set_ne (fun e => h.ne.1 e.symm), f2, fun j hj => (h.turns j hj).set_ne (by have := h.hi; omega), fun j hj => (h.slots j hj).set_ne (by have := h.hi; omega), h.ne, h.hi, h.lo⟩
theorem RingSt.setOut (h : RingSt lo x r ic oc pb B n p0 pin pout turn slot) (v : Int) : RingSt lo (x.setCell (th oc 0) (.int .i64 v)) r ic oc pb B n p0 pin v turn slot := by
  obtain ⟨f1, f2⟩ := h.frame (q := oc) (u := .int .i64 v) h.ne.2.2.1 h.ne.2.2.2.2
  exact ⟨f1, h.cin.set_ne h.ne.1, h.cout.set, f2, fun j hj => (h.turns j hj).set_ne (by have := h.hi; omega), fun j hj => (h.slots j hj).set_ne (by have := h.hi; omega), h.ne, h.hi, h.lo⟩
theorem RingSt.setTurn (h : RingSt lo x r ic oc pb B n p0 pin pout turn slot) {j : Nat} (hj : j < n) (v : Int) : RingSt lo (x.setCell (th (B + 2 * j) 0) (.int .i64 v)) r ic oc pb B n p0 pin pout (upd turn j v) slot := by
  have hh := h.hi
  obtain ⟨f1, f2⟩ := h.frame (q := B + 2 * j) (u := .int .i64 v) (by omega) (by omega)
  refine ⟨f1, h.cin.set_ne (by omega), h.cout.set_ne (by omega), f2, fun i hi => ?_, fun i hi => (h.slots i hi).set_ne (by omega), h.ne, h.hi, h.lo⟩
  by_cases e : i = j
  · subst e; rw [upd_same]; exact (h.turns i hi).set
  · rw [upd_ne turn v e]; exact (h.turns i hi).set_ne (by omega)
theorem RingSt.setSlot (h : RingSt lo x r ic oc pb B n p0 pin pout turn slot) {j : Nat} (hj : j < n) (v : Int) : RingSt lo (x.setCell (th (B + 2 * j + 1) 0) (.int .i64 v)) r ic oc pb B n p0 pin pout turn (upd slot j v) := by
  have hh := h.hi
  obtain ⟨f1, f2⟩ := h.frame (q := B + 2 * j + 1) (u := .int .i64 v) (by omega) (by omega)
  refine ⟨f1, h.cin.set_ne (by omega), h.cout.set_ne (by omega), f2, fun i hi => (h.turns i hi).set_ne (by omega), fun i hi => ?_, h.ne, h.hi, h.lo⟩
  by_cases e : i = j
  · subst e; rw [upd_same]; exact (h.slots i hi).set
  · rw [upd_ne slot v e]; exact (h.slots i hi).set_ne (by omega)
/-- What lies below lo stands. -/
def KeptLo (lo : Nat) (x y : World) : Prop := y.heap.size = x.heap.size ∧ ∀ q, q < lo → y.heap[q]? = x.heap[q]?
theorem KeptLo.set {y : World} (h : KeptLo lo x y) {q : Nat} (hq : lo ≤ q) (u : Value) : KeptLo lo x (y.setCell (th q 0) u) := ⟨(size_set _ _ _).trans h.1, fun i hi => (heap_set_ne (by omega)).trans (h.2 i hi)⟩
theorem KeptLo.refl : KeptLo lo x x := ⟨rfl, fun _ _ => rfl⟩
theorem putS_J {v : Int} {j : Nat} (h : RingSt lo x r ic oc pb B n p0 pin pout turn slot) (hj : j < n) (hix : ixZ n pin = ixZ n (p0 + j)) (hi : 0 ≤ ixZ n pin ∧ ixZ n pin < n) (hd : IntKind.i64.wrap (turn j - IntKind.i64.wrap (pin + 0)) = 0)
    (hn : ∀ y, RingSt lo y r ic oc pb B n p0 (IntKind.i64.wrap (pin + 1)) pout (upd turn j (IntKind.i64.wrap (pin + 1))) (upd slot j v) → KeptLo lo x y → JG Try.prog Post C (G (c.finish (.int .i64 0)) cs) y) :
    JG Try.prog Post C (G (Frame.enter Try.prog 39 #[P0 r, .pointer none, .int .i64 v] .normal) (c :: cs)) x := by
  have hh := h.hi
  have hl := h.lo
  have hB : lo ≤ B := by omega
  refine put_J (tb := B + 2 * j) (sb := B + 2 * j + 1) h.blk hi.1 hi.2 h.cin (by rw [hix]; exact (h.row j hj).1) (by rw [hix]; exact (h.row j hj).2) (h.turns j hj) (h.slots j hj) hd h.ne.2.1 h.ne.2.2.2.1 (by omega) (by omega) (by omega) (by omega) ?_
  exact hn _ (((h.setIn _).setSlot hj _).setTurn hj _) (((KeptLo.refl.set hl.2.1 _).set (by omega) _).set (by omega) _)
theorem putFS_J {v : Int} {j : Nat} (h : RingSt lo x r ic oc pb B n p0 pin pout turn slot) (hj : j < n) (hix : ixZ n pin = ixZ n (p0 + j)) (hi : 0 ≤ ixZ n pin ∧ ixZ n pin < n) (hd : IntKind.i64.wrap (turn j - IntKind.i64.wrap (pin + 0)) < 0)
    (hn : JG Try.prog Post C (G (c.finish (.int .i64 12)) cs) x) :
    JG Try.prog Post C (G (Frame.enter Try.prog 39 #[P0 r, .pointer none, .int .i64 v] .normal) (c :: cs)) x :=
  putF_J (tb := B + 2 * j) h.blk hi.1 hi.2 h.cin (by rw [hix]; exact (h.row j hj).1) (h.turns j hj) rfl (by rw [beq_eq_false_iff_ne]; omega) (decide_eq_true hd) hn
theorem takeS_J {j : Nat} (h : RingSt lo x r ic oc pb B n p0 pin pout turn slot) (hj : j < n) (hix : ixZ n pout = ixZ n (p0 + j)) (hi : 0 ≤ ixZ n pout ∧ ixZ n pout < n) (hd : IntKind.i64.wrap (turn j - IntKind.i64.wrap (pout + 1)) = 0)
    (hn : ∀ y, RingSt lo y r ic oc pb B n p0 pin (IntKind.i64.wrap (pout + 1)) (upd turn j (IntKind.i64.wrap (pout + n))) slot → KeptLo lo x y → JG Try.prog Post C (G (c.finish (.tuple #[.int .i64 (slot j), .bool true])) cs) y) :
    JG Try.prog Post C (G (Frame.enter Try.prog 40 #[P0 r, .pointer none] .normal) (c :: cs)) x := by
  have hh := h.hi
  have hl := h.lo
  have hB : lo ≤ B := by omega
  refine take_J (tb := B + 2 * j) (sb := B + 2 * j + 1) h.blk hi.1 hi.2 h.cout (by rw [hix]; exact (h.row j hj).1) (by rw [hix]; exact (h.row j hj).2) (h.turns j hj) (h.slots j hj) hd h.ne.2.2.1 h.ne.2.2.2.2 (by omega) (by omega) ?_
  exact hn _ ((h.setOut _).setTurn hj _) ((KeptLo.refl.set hl.2.2.1 _).set (by omega) _)
theorem takeFS_J {j : Nat} (h : RingSt lo x r ic oc pb B n p0 pin pout turn slot) (hj : j < n) (hix : ixZ n pout = ixZ n (p0 + j)) (hi : 0 ≤ ixZ n pout ∧ ixZ n pout < n) (hd : IntKind.i64.wrap (turn j - IntKind.i64.wrap (pout + 1)) < 0)
    (hn : JG Try.prog Post C (G (c.finish (.tuple #[.int .i64 0, .bool false])) cs) x) :
    JG Try.prog Post C (G (Frame.enter Try.prog 40 #[P0 r, .pointer none] .normal) (c :: cs)) x :=
  takeF_J (tb := B + 2 * j) h.blk hi.1 hi.2 h.cout (by rw [hix]; exact (h.row j hj).1) (h.turns j hj) rfl (by rw [beq_eq_false_iff_ne]; omega) (decide_eq_true hd) hn
theorem lenS_J (h : RingSt lo x r ic oc pb B n p0 pin pout turn slot) (hn : JG Try.prog Post C (G (c.finish (.int .i64 (IntKind.i64.wrap (pin - pout)))) cs) x) :
    JG Try.prog Post C (G (Frame.enter Try.prog 43 #[P0 r, .pointer none] .normal) (c :: cs)) x := len_J h.blk h.cin h.cout hn
end
end Go.Proofs.Ytecmobjiepgfjaa
