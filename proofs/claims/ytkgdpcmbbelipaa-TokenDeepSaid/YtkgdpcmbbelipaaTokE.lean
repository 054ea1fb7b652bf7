/- Tokens: New, made, Close of a list of entries. Conditions: what the blocks hold; the thread is nil. -/
import Derived.Test.YtkgdpcmbbelipaaTokD
import Derived.Test.YtkgdpcmbbelipaaChoiceF
namespace Go.Proofs.Ytkgdpcmbbelipaa
open Go.RowKit Go.MuLone
set_option maxRecDepth 100000

/-- A token's blocks: all of them from lo to hi. -/
structure Tk where
  lo : Nat
  hi : Nat
  T : Nat
  R : Nat
  L : Nat
  c1 : Nat
  c2 : Nat
  P : Nat
def Tk.has (k : Tk) (q : Nat) : Prop := k.lo ≤ q ∧ q < k.hi
/-- The token k as it lies in w: its depth, its reason, its list. -/
def Tk.At (k : Tk) (w : World) (depth reason last head : Int) (cs : Array Value) : Prop :=
  Blk w k.T 52 #[.pointer (some ⟨k.R, 0, none⟩), .pointer (some ⟨k.L, 0, none⟩), .int .i64 depth] ∧ IsCell w k.R reason ∧ ListAtE w k.L k.c1 k.c2 k.P last head 65 cs ∧
  k.R ≠ k.c1 ∧ k.R ≠ k.c2 ∧ k.has k.T ∧ k.has k.R ∧ k.has k.L ∧ k.has k.c1 ∧ k.has k.c2 ∧ k.has k.P
section
variable {k : Tk} {w w' : World} {d x last head : Int} {cs : Array Value}
theorem Tk.At.keep {S : Nat → Prop} (h : k.At w d x last head cs) (hk : Kept S w w') (hs : ∀ q, k.has q → ¬ S q) : k.At w' d x last head cs := by
  obtain ⟨h1, h2, ⟨a1, a2, a3, a4, a5, a6⟩, n1, n2, p1, p2, p3, p4, p5, p6⟩ := h
  exact ⟨hk.blk h1 (hs _ p1), hk.cell h2 (hs _ p2), ⟨hk.blk a1 (hs _ p3), hk.cell a2 (hs _ p4), hk.cell a3 (hs _ p5), hk.blk a4 (hs _ p6), a5, a6⟩, n1, n2, p1, p2, p3, p4, p5, p6⟩
theorem Tk.At.same (h : k.At w d x last head cs) (hs : SameHeap w w') : k.At w' d x last head cs := h.keep (Kept.same (S := fun _ => False) hs) (fun _ _ h => h)
theorem Tk.At.alloc (h : k.At w d x last head cs) (o : Obj) : k.At (w.alloc o) d x last head cs := h.keep (Kept.of_below (S := fun _ => False) ((Below.refl _ _).alloc (Nat.le_refl _) o)) (fun _ _ h => h)
theorem Tk.At.made0 (h : k.At w d x last head cs) : w.cell? ⟨k.T, 0, none⟩ = some (.pointer (some ⟨k.R, 0, none⟩)) := (h.1.cell 0).trans rfl
theorem Tk.At.made1 (h : k.At w d x last head cs) : w.cell? ⟨k.T, 1, none⟩ = some (.pointer (some ⟨k.L, 0, none⟩)) := (h.1.cell 1).trans rfl
theorem Tk.At.made2 (h : k.At w d x last head cs) : w.cell? ⟨k.T, 2, none⟩ = some (.int .i64 d) := (h.1.cell 2).trans rfl
theorem Tk.At.reason (h : k.At w d x last head cs) (y : Int) : k.At (w.setCell ⟨k.R, 0, none⟩ (.int .i64 y)) d y last head cs := by
  obtain ⟨h1, h2, ⟨a1, a2, a3, a4, a5, a6⟩, n1, n2, pp⟩ := h
  exact ⟨h1.far (p := ⟨k.R, 0, none⟩) (Blk.ne_ h1 h2 (by decide)) _, h2.set y, ⟨a1.far (p := ⟨k.R, 0, none⟩) (Blk.ne_ a1 h2 (by decide)) _, a2.far (fun e => n1 e.symm) _, a3.far (fun e => n2 e.symm) _, a4.far (p := ⟨k.R, 0, none⟩) (Blk.ne_ a4 h2 (by decide)) _, a5, a6⟩, n1, n2, pp⟩
theorem Tk.At.close (h : k.At w d x last head cs) (y : Int) : k.At (w.setCell ⟨k.c2, 0, none⟩ (.int .i64 y)) d x last y cs := by
  obtain ⟨h1, h2, ⟨a1, a2, a3, a4, a5, a6⟩, n1, n2, pp⟩ := h
  exact ⟨h1.far (p := ⟨k.c2, 0, none⟩) (Blk.ne_ h1 a3 (by decide)) _, h2.far n2 _, ⟨a1.far (p := ⟨k.c2, 0, none⟩) (Blk.ne_ a1 a3 (by decide)) _, a2.far a6 _, a3.set y, a4.far (p := ⟨k.c2, 0, none⟩) (Blk.ne_ a4 a3 (by decide)) _, a5, a6⟩, n1, n2, pp⟩
theorem Tk.At.depth (h : k.At w d x last head cs) (y : Int) : k.At (w.setCell ⟨k.T, 2, none⟩ (.int .i64 y)) y x last head cs := by
  obtain ⟨h1, h2, ⟨a1, a2, a3, a4, a5, a6⟩, n1, n2, pp⟩ := h
  exact ⟨h1.set_ 2 _, Blk.far h2 (p := ⟨k.T, 2, none⟩) (Blk.ne_ h2 h1 (by decide)) _, ⟨a1.far (p := ⟨k.T, 2, none⟩) (Blk.ne_ a1 h1 (by decide)) _, Blk.far a2 (p := ⟨k.T, 2, none⟩) (Blk.ne_ a2 h1 (by decide)) _, Blk.far a3 (p := ⟨k.T, 2, none⟩) (Blk.ne_ a3 h1 (by decide)) _, a4.far (p := ⟨k.T, 2, none⟩) (Blk.ne_ a4 h1 (by decide)) _, a5, a6⟩, n1, n2, pp⟩
theorem Tk.At.add {l h0 : Nat} (h : k.At w d x l h0 cs) (a : Option Addr) (f : Value) : k.At (addWorldE w k.c1 k.c2 k.P l a f h0) d x (l + 1) (l + 1) (addedE cs l a f h0) := by
  have ha := addWorldE_at k.L k.c1 k.c2 k.P l h0 65 cs a f w h.2.2.1
  obtain ⟨h1, h2, ⟨a1, a2, a3, a4, a5, a6⟩, n1, n2, pp⟩ := h
  have d1 := Blk.ne_ h1 a2 (by decide)
  have d2 := Blk.ne_ h1 a3 (by decide)
  have d3 := Blk.ne_ h1 a4 (by decide)
  have d4 := Blk.ne_ h2 a4 (by decide)
  refine ⟨?_, ?_, ha, n1, n2, pp⟩
  · exact ((((h1.far (p := ⟨k.c1, 0, none⟩) d1 _).far (p := ⟨k.P, _, none⟩) d3 _).far (p := ⟨k.P, _, none⟩) d3 _).far (p := ⟨k.P, _, none⟩) d3 _).far (p := ⟨k.c2, 0, none⟩) d2 _
  · exact ((((Blk.far h2 (p := ⟨k.c1, 0, none⟩) n1 _).far (p := ⟨k.P, _, none⟩) d4 _).far (p := ⟨k.P, _, none⟩) d4 _).far (p := ⟨k.P, _, none⟩) d4 _).far (p := ⟨k.c2, 0, none⟩) n2 _
end
theorem kept_add {S : Nat → Prop} {w0 w : World} (h : Kept S w0 w) {c1 c2 p l : Nat} {a : Option Addr} {f : Value} {hd : Int} (s1 : S c1) (s2 : S c2) (s3 : S p) : Kept S w0 (addWorldE w c1 c2 p l a f hd) := by
  have hp : ∀ (w : World) (i : Nat) (v : Value), Kept S w0 w → Kept S w0 (w.setCell ⟨p, i, none⟩ v) := fun w i v h => ⟨h.os, h.tape, h.output, by simpa using h.size, fun q hq hq2 => (heap_set_ne w ⟨p, i, none⟩ v q (fun hh => hq2 ((show p = q from hh) ▸ s3))).trans (h.block q hq hq2)⟩
  unfold addWorldE
  exact (hp _ _ _ (hp _ _ _ (hp _ _ _ (h.set s1 _)))).set s2 _

theorem made_yesT (t r : Nat) (w : World) (h : w.cell? ⟨t, 0, none⟩ = some (.pointer (some ⟨r, 0, none⟩))) : Calls Try.prog 34 #[.pointer (some ⟨t, 0, none⟩)] w fun e w' => e = .returned (.bool true) ∧ w = w' := by
  go_enter Try.func34, Try.ntmps34
  go_wp2
  go_ret
  exact ⟨rfl, rfl⟩
theorem made_nilT (w : World) : Calls Try.prog 34 #[.pointer none] w fun e w' => e = .returned (.bool false) ∧ w = w' := by
  go_enter Try.func34, Try.ntmps34
  go_wp2
  go_ret
  exact ⟨rfl, rfl⟩
theorem made_bareT (t : Nat) (w : World) (h : w.cell? ⟨t, 0, none⟩ = some (.pointer none)) : Calls Try.prog 34 #[.pointer (some ⟨t, 0, none⟩)] w fun e w' => e = .returned (.bool false) ∧ w = w' := by
  go_enter Try.func34, Try.ntmps34
  go_wp2
  go_ret
  exact ⟨rfl, rfl⟩

/-- What New leaves: a token alone, its blocks new. -/
def NewTk (w : World) (e : Ending) (w' : World) : Prop := ∃ (k : Tk) (cs : Array Value), e = .returned (.pointer (some ⟨k.T, 0, none⟩)) ∧ k.lo = w.heap.size ∧ k.hi = w'.heap.size ∧ Below w.heap.size w w' ∧ k.At w' 0 0 0 0 cs
theorem tok_new (w : World) : Calls Try.prog 12 #[] w (NewTk w) := by
  have HR := Lib.hid (isCell_new w 0)
  go_enter Try.func12, Try.ntmps12
  go_wp2_with (go_at_call 21; refine (cell_new _ _).mono ?_; rintro e w' ⟨rfl, rfl⟩)
  refine (list_newE 64 (by omega) _).mono ?_
  rintro e w1 ⟨l, c1, c2, p, rfl, hb, h1, h2, h3, h4, hA⟩
  have HB := Lib.hid hb
  have HA := Lib.hid hA
  have H1 := Lib.hid h1
  have H2 := Lib.hid h2
  have H3 := Lib.hid h3
  have H4 := Lib.hid h4
  clear hb h1 h2 h3 h4 hA
  go_wp2
  go_ret
  have hr : IsCell w1 w.heap.size 0 := Blk.below HR.out HB.out (by simp)
  have e1 := H1.out
  have e2 := H2.out
  have e3 := H3.out
  have e4 := H4.out
  simp at e1 e2 e3 e4
  obtain ⟨a1, a2, a3, a4, a5, a6⟩ := HA.out
  have m1 := a1.lt
  have m2 := Blk.lt a2
  have m3 := Blk.lt a3
  have m4 := a4.lt
  have m5 := Blk.lt hr
  refine ⟨⟨w.heap.size, w1.heap.size + 1, w1.heap.size, w.heap.size, l, c1, c2, p⟩, _, rfl, rfl, by simp, ((((Below.refl _ _).alloc (Nat.le_refl _) _).trans (HB.out.mono (by simp))).alloc (by omega) _), Blk.new _ _ _, Blk.alloc hr _, ⟨a1.alloc _, Blk.alloc a2 _, Blk.alloc a3 _, a4.alloc _, a5, a6⟩, by simp; omega, by simp; omega, ?_, ?_, ?_, ?_, ?_, ?_⟩
  all_goals (unfold Tk.has; simp; omega)

def ClosePostE (w : World) (c2 : Nat) (vs : List Ent) (e : Ending) (w' : World) : Prop :=
  ∃ v, e = .returned (.tuple #[v, .int .i64 0]) ∧ w'.ownsRow w.heap.size 78 2 v vs.length (entVals vs.reverse) ∧ Below w.heap.size (w.setCell ⟨c2, 0, none⟩ (.int .i64 (-1))) w'
set_option maxHeartbeats 1000000 in
theorem close_okE (l c1 c2 p : Nat) (last : Int) (k n : Nat) (cs : Array Value) (vs : List Ent) (w : World) (h : ListAtE w l c1 c2 p last k n cs) (hc : ChainE cs k vs) (hv : vs.length ≤ 2) :
    Calls Try.prog 37 #[.pointer (some ⟨l, 0, none⟩), .pointer none] w (ClosePostE w c2 vs) := by
  obtain ⟨hl, i1, i2, hp, hcs, hne⟩ := h
  have HA : Hid (ListAtE (w.setCell ⟨c2, 0, none⟩ (.int .i64 (-1))) l c1 c2 p last (-1) n cs) := Lib.hid ⟨hl.far (p := ⟨c2, 0, none⟩) (Blk.ne_ hl i2 (by decide)) _, Blk.far i1 (p := ⟨c2, 0, none⟩) hne _, i2.set _, hp.far (p := ⟨c2, 0, none⟩) (Blk.ne_ hp i2 (by decide)) _, hcs, hne⟩
  have l1 := hl.cell 1
  have I2 := Lib.hid i2
  have L1 := Lib.hid l1
  have HC := Lib.hid hc
  have hh : ((k : Int) == -1) = false := by rw [beq_eq_false_iff_ne]; omega
  simp at l1
  clear hl i1 i2 hp hcs hne hc
  go_enter Try.func37, Try.ntmps37
  go_wp2_with (first | (go_at_call 52; refine (made_yesE l c2 _ L1.out).mono ?_; rintro e w' ⟨rfl, rfl⟩) | (go_at_call 31; refine (cell_swap c2 _ _ _ I2.out).mono ?_; rintro e w' ⟨rfl, rfl⟩))
  refine (row_anyE l c1 c2 p last (-1) n cs k vs _ HA.out HC.out hv).mono ?_
  rintro e w1 ⟨v, rfl, hown, hb⟩
  have HO := Lib.hid hown
  have HB := Lib.hid hb
  clear hown hb
  go_wp2
  go_ret2
  exact ⟨v, rfl, by simpa using HO.out, by simpa using HB.out⟩
end Go.Proofs.Ytkgdpcmbbelipaa
