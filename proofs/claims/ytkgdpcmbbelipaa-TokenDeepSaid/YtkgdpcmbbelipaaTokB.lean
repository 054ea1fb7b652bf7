/- The contracts of Add at token's entry, called free. Conditions: the pointer leads to a list that New made; there is room, or it is closed. -/
import Derived.Test.YtkgdpcmbbelipaaTokA
import Derived.Test.YtkgdpcmbbelipaaPipeB
import Derived.Laws.EntriesVeiled
namespace Go.Proofs.Ytkgdpcmbbelipaa
open Go.RowKit Go.MuLone
set_option maxRecDepth 100000

theorem made_yesE (l c : Nat) (w : World) (h : w.cell? ⟨l, 1, none⟩ = some (.pointer (some ⟨c, 0, none⟩))) : Calls Try.prog 52 #[.pointer (some ⟨l, 0, none⟩)] w fun e w' => e = .returned (.bool true) ∧ w = w' := by
  go_enter Try.func52, Try.ntmps52
  go_wp2
  go_ret
  exact ⟨rfl, rfl⟩
/-- What may stand as a function. -/
def FnVal (f : Value) : Prop := f = .nilFunc ∨ ∃ n c, f = .func (.func n) #[] c
/-- The box of Add's argument. -/
def entBox (a : Option Addr) (f : Value) : Obj := .cells #[.pointer a, f] 78
theorem listAtE_alloc {w : World} {l c1 c2 p n : Nat} {last head : Int} {cs : Array Value} (h : ListAtE w l c1 c2 p last head n cs) (o : Obj) : ListAtE (w.alloc o) l c1 c2 p last head n cs := by
  obtain ⟨hl, i1, i2, hp, hcs, hne⟩ := h
  exact ⟨hl.alloc _, Blk.alloc i1 _, Blk.alloc i2 _, hp.alloc _, hcs, hne⟩

theorem addE_closed (l c1 c2 p : Nat) (last : Int) (n : Nat) (cs : Array Value) (a : Option Addr) (f : Value) (hf : FnVal f) (w : World) (h : ListAtE w l c1 c2 p last (-1) n cs) :
    Calls Try.prog 35 #[.pointer (some ⟨l, 0, none⟩), .pointer none, .agg #[.pointer a, f]] w fun e w' => e = .returned (.tuple #[.int .i64 0, .int .i64 13]) ∧ w.alloc (entBox a f) = w' := by
  obtain ⟨hl, i1, i2, hp, hcs, hne⟩ := listAtE_alloc h (entBox a f)
  have l1 := hl.cell 1
  have I2 := Lib.hid i2
  have L1 := Lib.hid l1
  simp at l1
  clear hl i1 i2 hp hcs hne h
  rcases hf with rfl | ⟨fn, cap, rfl⟩
  all_goals
    unfold entBox at *
    go_enter Try.func35, Try.ntmps35
    go_wp2_with (first | (go_at_call 52; refine (made_yesE l c2 _ L1.out).mono ?_; rintro e w' ⟨rfl, rfl⟩) | (go_at_call 26; refine (cell_load c2 _ _ I2.out).mono ?_; rintro e w' ⟨rfl, rfl⟩))
    go_ret2
    exact ⟨rfl, rfl⟩

/-- The world behind an Add that goes, from the world behind its box. -/
def addWorldE (w : World) (c1 c2 p : Nat) (last : Nat) (a : Option Addr) (f : Value) (head : Int) : World :=
  ((((w.setCell ⟨c1, 0, none⟩ (.int .i64 (last + 1))).setCell ⟨p, (last + 1) * 3, none⟩ (.pointer a)).setCell ⟨p, (last + 1) * 3 + 1, none⟩ f).setCell ⟨p, (last + 1) * 3 + 2, none⟩ (.int .i64 head)).setCell ⟨c2, 0, none⟩ (.int .i64 (last + 1))
def addedE (cs : Array Value) (last : Nat) (a : Option Addr) (f : Value) (head : Int) : Array Value :=
  ((cs.setIfInBounds ((last + 1) * 3) (.pointer a)).setIfInBounds ((last + 1) * 3 + 1) f).setIfInBounds ((last + 1) * 3 + 2) (.int .i64 head)
theorem addWorldE_at (l c1 c2 p : Nat) (last head : Nat) (n : Nat) (cs : Array Value) (a : Option Addr) (f : Value) (w : World) (h : ListAtE w l c1 c2 p last head n cs) :
    ListAtE (addWorldE w c1 c2 p last a f head) l c1 c2 p (last + 1) (last + 1) n (addedE cs last a f head) := by
  obtain ⟨hl, i1, i2, hp, hcs, hne⟩ := h
  have d1 : l ≠ c1 := Blk.ne_ hl i1 (by decide)
  have d2 : l ≠ c2 := Blk.ne_ hl i2 (by decide)
  have d3 : l ≠ p := Blk.ne_ hl hp (by decide)
  have d4 : c1 ≠ p := Blk.ne_ i1 hp (by decide)
  have d5 : c2 ≠ p := Blk.ne_ i2 hp (by decide)
  refine ⟨?_, ?_, ?_, ?_, by simpa [addedE] using hcs, hne⟩
  · exact ((((hl.far (p := ⟨c1, 0, none⟩) d1 _).far (p := ⟨p, _, none⟩) d3 _).far (p := ⟨p, _, none⟩) d3 _).far (p := ⟨p, _, none⟩) d3 _).far (p := ⟨c2, 0, none⟩) d2 _
  · exact (((Blk.far (i1.set _) (p := ⟨p, _, none⟩) d4 _).far (p := ⟨p, _, none⟩) d4 _).far (p := ⟨p, _, none⟩) d4 _).far (p := ⟨c2, 0, none⟩) hne _
  · exact IsCell.set (x := head) ((((Blk.far i2 (p := ⟨c1, 0, none⟩) (fun e => hne e.symm) _).far (p := ⟨p, _, none⟩) d5 _).far (p := ⟨p, _, none⟩) d5 _).far (p := ⟨p, _, none⟩) d5 _) _
  · exact ((((hp.far (p := ⟨c1, 0, none⟩) (fun e => d4 e.symm) _).set_ _ _).set_ _ _).set_ _ _).far (p := ⟨c2, 0, none⟩) (fun e => d5 e.symm) _

set_option maxHeartbeats 2000000 in
theorem addE_ok (l c1 c2 p : Nat) (last head : Nat) (n : Nat) (cs : Array Value) (a : Option Addr) (f : Value) (hf : FnVal f) (w : World) (h : ListAtE w l c1 c2 p last head n cs) (hroom : last + 1 < n) (hb : last < 1000000) :
    Calls Try.prog 35 #[.pointer (some ⟨l, 0, none⟩), .pointer none, .agg #[.pointer a, f]] w fun e w' => e = .returned (.tuple #[.int .i64 (last + 1), .int .i64 0]) ∧ SameHeap (addWorldE (w.alloc (entBox a f)) c1 c2 p last a f head) w' := by
  have hbx : Blk (w.alloc (entBox a f)) w.heap.size 78 #[.pointer a, f] := Blk.new _ _ _
  obtain ⟨hl, i1, i2, hp, hcs, hne⟩ := listAtE_alloc h (entBox a f)
  have l0 := hl.cell 0
  have l1 := hl.cell 1
  have I1 := Lib.hid i1
  have I2 := Lib.hid i2
  have L1 := Lib.hid l1
  have d1 : l ≠ c1 := Blk.ne_ hl i1 (by decide)
  have d3 : l ≠ p := Blk.ne_ hl hp (by decide)
  have d4 : c1 ≠ p := Blk.ne_ i1 hp (by decide)
  have d5 : c2 ≠ p := Blk.ne_ i2 hp (by decide)
  have d6 : w.heap.size ≠ c1 := Blk.ne_ hbx i1 (by decide)
  have hl1 := hl.far (p := ⟨c1, 0, none⟩) d1 (.int .i64 (last + 1))
  have hb1 := hbx.far (p := ⟨c1, 0, none⟩) d6 (.int .i64 (last + 1))
  have hp1 := hp.far (p := ⟨c1, 0, none⟩) (fun e => d4 e.symm) (.int .i64 (last + 1))
  have hl3 := ((hl1.far (p := ⟨p, (last + 1) * 3, none⟩) d3 (.pointer a)).far (p := ⟨p, (last + 1) * 3 + 1, none⟩) d3 f).far (p := ⟨p, (last + 1) * 3 + 2, none⟩) d3 (.int .i64 head)
  have HL1 := Lib.hid hl1
  have HL3 := Lib.hid hl3
  have HP1 := Lib.hid hp1
  have HB1 := Lib.hid hb1
  have I23 : Hid (IsCell ((((((w.alloc (entBox a f)).setCell ⟨c1, 0, none⟩ (.int .i64 (last + 1))).setCell ⟨p, (last + 1) * 3, none⟩ (.pointer a)).setCell ⟨p, (last + 1) * 3 + 1, none⟩ f).setCell ⟨p, (last + 1) * 3 + 2, none⟩ (.int .i64 head))) c2 head) :=
    Lib.hid ((((Blk.far i2 (p := ⟨c1, 0, none⟩) (fun e => hne e.symm) _).far (p := ⟨p, _, none⟩) d5 _).far (p := ⟨p, _, none⟩) d5 _).far (p := ⟨p, _, none⟩) d5 _)
  have W := Lib.hid (wrap64_in (last + 1) (by omega))
  have hh : ((head : Int) == -1) = false := by rw [beq_eq_false_iff_ne]; omega
  have hh' : ((head : Int) != -1) = true := by rw [bne_iff_ne]; omega
  have hg : decide ((n : Int) ≤ last + 1) = false := by simp; omega
  have hpl : ¬ p = l := fun e => d3 e.symm
  have HS := Lib.hid hcs
  have HR := Lib.hid hroom
  simp at l0 l1
  clear hl i1 i2 hp hcs hne hroom d1 d3 d4 d5 d6 hl1 hp1 hl3 hb1 hbx h
  rcases hf with rfl | ⟨fn, cap, rfl⟩
  all_goals
    unfold entBox at *
    go_enter Try.func35, Try.ntmps35
    go_wp2_with (first | (go_at_call 52; refine (made_yesE l c2 _ L1.out).mono ?_; rintro e w' ⟨rfl, rfl⟩) | (go_at_call 26; refine (cell_load c2 _ _ I2.out).mono ?_; rintro e w' ⟨rfl, rfl⟩))
    refine (cell_add c1 last 1 _ I1.out).mono ?_
    rw [W.out]
    rintro e w1 ⟨rfl, hw⟩
    have m1 := HL1.out.cell 1
    have m2 := HL1.out.cell 2
    have b0 := HB1.out.cell 0
    have b1 := HB1.out.cell 1
    have q0 : w1.cell? ⟨p, (last + 1) * 3, none⟩ = some (cs[(last + 1) * 3]?.getD undef) := by rw [← hw, HP1.out.cell, Array.getElem?_eq_getElem (by have := HS.out; have := HR.out; omega)]; rfl
    have q1 : w1.cell? ⟨p, (last + 1) * 3 + 1, none⟩ = some (cs[(last + 1) * 3 + 1]?.getD undef) := by rw [← hw, HP1.out.cell, Array.getElem?_eq_getElem (by have := HS.out; have := HR.out; omega)]; rfl
    have q2 : w1.cell? ⟨p, (last + 1) * 3 + 2, none⟩ = some (cs[(last + 1) * 3 + 2]?.getD undef) := by rw [← hw, HP1.out.cell, Array.getElem?_eq_getElem (by have := HS.out; have := HR.out; omega)]; rfl
    have z0 : w1.frozen? ⟨p, (last + 1) * 3, none⟩ = false := by rw [← hw]; exact HP1.out.frozen _
    have z1 : w1.frozen? ⟨p, (last + 1) * 3 + 1, none⟩ = false := by rw [← hw]; exact HP1.out.frozen _
    have z2 : w1.frozen? ⟨p, (last + 1) * 3 + 2, none⟩ = false := by rw [← hw]; exact HP1.out.frozen _
    rw [hw] at m1 m2 b0 b1
    simp at m1 m2 b0 b1
    have hlt : (last : Int) + 1 < n := by have := HR.out; omega
    have h0l : (0 : Int) ≤ last + 1 := by omega
    have y0 : w1.drew.cell? ⟨p, (last + 1) * 3, none⟩ = some (cs[(last + 1) * 3]?.getD undef) := q0
    have y1 : w1.drew.cell? ⟨p, (last + 1) * 3 + 1, none⟩ = some (cs[(last + 1) * 3 + 1]?.getD undef) := q1
    have y2 : w1.drew.cell? ⟨p, (last + 1) * 3 + 2, none⟩ = some (cs[(last + 1) * 3 + 2]?.getD undef) := q2
    have x0 : w1.drew.frozen? ⟨p, (last + 1) * 3, none⟩ = false := z0
    have x1 : w1.drew.frozen? ⟨p, (last + 1) * 3 + 1, none⟩ = false := z1
    have x2 : w1.drew.frozen? ⟨p, (last + 1) * 3 + 2, none⟩ = false := z2
    have HW := Lib.hid hw
    clear hw
    go_wp2_with fail
    refine wp_loop_rounds 1 ?_
    rw [rounds_succ]
    go_wp2_with fail
    go_region
    all_goals
      go_wp2_with fail
      refine (cell_cas_hit c2 head (last + 1) _ (HW.out ▸ I23.out)).mono ?_
      rintro e w2 ⟨rfl, hw2⟩
      have HW2 := Lib.hid hw2
      clear hw2
      go_wp2
      go_ret2
      exact ⟨rfl, by rw [← HW2.out, ← HW.out]; exact SameHeap.set (SameHeap.drew _) _ _⟩
end Go.Proofs.Ytkgdpcmbbelipaa
