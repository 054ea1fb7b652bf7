/- The contracts of (*List[int64]).Add, called free (by a thread that is nil). Conditions: the pointer leads to a list that New made, or is nil, or to a bare list. -/
import Derived.Test.YtkgdpcmbbelipaaListA
namespace Go.Proofs.Ytkgdpcmbbelipaa
open Go.RowKit Go.MuLone
set_option maxRecDepth 100000

theorem made_nil (w : World) : Calls Try.prog 28 #[.pointer none] w fun e w' => e = .returned (.bool false) ∧ w = w' := by
  go_enter Try.func28, Try.ntmps28
  go_wp2
  go_ret
  exact ⟨rfl, rfl⟩
theorem made_bare (l : Nat) (w : World) (h : w.cell? ⟨l, 1, none⟩ = some (.pointer none)) : Calls Try.prog 28 #[.pointer (some ⟨l, 0, none⟩)] w fun e w' => e = .returned (.bool false) ∧ w = w' := by
  go_enter Try.func28, Try.ntmps28
  go_wp2
  go_ret
  exact ⟨rfl, rfl⟩
theorem made_yes (l c : Nat) (w : World) (h : w.cell? ⟨l, 1, none⟩ = some (.pointer (some ⟨c, 0, none⟩))) : Calls Try.prog 28 #[.pointer (some ⟨l, 0, none⟩)] w fun e w' => e = .returned (.bool true) ∧ w = w' := by
  go_enter Try.func28, Try.ntmps28
  go_wp2
  go_ret
  exact ⟨rfl, rfl⟩
theorem add_nil (v : Int) (w : World) : Calls Try.prog 7 #[.pointer none, .pointer none, .int .i64 v] w fun e w' => e = .returned (.tuple #[.int .i64 0, .int .i64 2]) ∧ w = w' := by
  go_enter Try.func7, Try.ntmps7
  go_wp2_with (go_at_call 28; refine (made_nil _).mono ?_; rintro e w' ⟨rfl, rfl⟩)
  go_ret2
  exact ⟨rfl, rfl⟩
theorem add_bare (l : Nat) (v : Int) (w : World) (h : w.cell? ⟨l, 1, none⟩ = some (.pointer none)) : Calls Try.prog 7 #[.pointer (some ⟨l, 0, none⟩), .pointer none, .int .i64 v] w fun e w' => e = .returned (.tuple #[.int .i64 0, .int .i64 2]) ∧ w = w' := by
  have H := Lib.hid h
  clear h
  go_enter Try.func7, Try.ntmps7
  go_wp2_with (go_at_call 28; refine (made_bare l _ H.out).mono ?_; rintro e w' ⟨rfl, rfl⟩)
  go_ret2
  exact ⟨rfl, rfl⟩
theorem wrap64_in (n : Int) (h : -9223372036854775808 ≤ n ∧ n ≤ 9223372036854775807) : wrap64 n = n := by unfold wrap64; omega

theorem add_closed (l c1 c2 p : Nat) (last : Int) (n : Nat) (cs : Array Value) (v : Int) (w : World) (h : ListAt w l c1 c2 p last (-1) n cs) :
    Calls Try.prog 7 #[.pointer (some ⟨l, 0, none⟩), .pointer none, .int .i64 v] w fun e w' => e = .returned (.tuple #[.int .i64 0, .int .i64 13]) ∧ w = w' := by
  obtain ⟨hl, i1, i2, hp, hcs, hne⟩ := h
  have l1 := hl.cell 1
  have I2 := Lib.hid i2
  have L1 := Lib.hid l1
  simp at l1
  clear hl i1 i2 hp hcs hne
  go_enter Try.func7, Try.ntmps7
  go_wp2_with (first | (go_at_call 28; refine (made_yes l c2 _ L1.out).mono ?_; rintro e w' ⟨rfl, rfl⟩) | (go_at_call 26; refine (cell_load c2 _ _ I2.out).mono ?_; rintro e w' ⟨rfl, rfl⟩))
  go_ret2
  exact ⟨rfl, rfl⟩

theorem add_full (l c1 c2 p : Nat) (last head : Nat) (n : Nat) (cs : Array Value) (v : Int) (w : World) (h : ListAt w l c1 c2 p last head n cs) (hfull : n ≤ last + 1) (hb : last < 1000000) :
    Calls Try.prog 7 #[.pointer (some ⟨l, 0, none⟩), .pointer none, .int .i64 v] w fun e w' => e = .returned (.tuple #[.int .i64 0, .int .i64 12]) ∧ w.setCell ⟨c1, 0, none⟩ (.int .i64 (last + 1)) = w' := by
  obtain ⟨hl, i1, i2, hp, hcs, hne⟩ := h
  have l0 := hl.cell 0
  have l1 := hl.cell 1
  have I1 := Lib.hid i1
  have I2 := Lib.hid i2
  have L1 := Lib.hid l1
  have hd : l ≠ c1 := Blk.ne_ hl i1 (by decide)
  have L2 := Lib.hid ((hl.far (p := ⟨c1, 0, none⟩) hd (.int .i64 (last + 1))).cell 2)
  have W := Lib.hid (wrap64_in (last + 1) (by omega))
  have hh : ((head : Int) == -1) = false := by rw [beq_eq_false_iff_ne]; omega
  have hg : decide ((n : Int) ≤ last + 1) = true := by simp; omega
  simp at l0 l1
  clear hl i1 i2 hp hcs hne hfull hd
  go_enter Try.func7, Try.ntmps7
  go_wp2_with (first | (go_at_call 28; refine (made_yes l c2 _ L1.out).mono ?_; rintro e w' ⟨rfl, rfl⟩) | (go_at_call 26; refine (cell_load c2 _ _ I2.out).mono ?_; rintro e w' ⟨rfl, rfl⟩))
  refine (cell_add c1 last 1 _ I1.out).mono ?_
  rw [W.out]
  rintro e w' ⟨rfl, hw⟩
  have l2 := L2.out
  rw [hw] at l2
  simp at l2
  have HW := Lib.hid hw
  clear hw
  go_wp2_with fail
  go_ret2
  exact ⟨rfl, HW.out⟩

/-- The world behind an Add that goes: last is raised, the place is written, the head is that place. -/
def addWorld (w : World) (c1 c2 p : Nat) (last : Nat) (head v : Int) : World :=
  (((w.setCell ⟨c1, 0, none⟩ (.int .i64 (last + 1))).setCell ⟨p, (last + 1) * 2, none⟩ (.int .i64 v)).setCell ⟨p, (last + 1) * 2 + 1, none⟩ (.int .i64 head)).setCell ⟨c2, 0, none⟩ (.int .i64 (last + 1))
theorem addWorld_at (l c1 c2 p : Nat) (last head : Nat) (n : Nat) (cs : Array Value) (v : Int) (w : World) (h : ListAt w l c1 c2 p last head n cs) :
    ListAt (addWorld w c1 c2 p last head v) l c1 c2 p (last + 1) (last + 1) n ((cs.setIfInBounds ((last + 1) * 2) (.int .i64 v)).setIfInBounds ((last + 1) * 2 + 1) (.int .i64 head)) := by
  obtain ⟨hl, i1, i2, hp, hcs, hne⟩ := h
  have d1 : l ≠ c1 := Blk.ne_ hl i1 (by decide)
  have d2 : l ≠ c2 := Blk.ne_ hl i2 (by decide)
  have d3 : l ≠ p := Blk.ne_ hl hp (by decide)
  have d4 : c1 ≠ p := Blk.ne_ i1 hp (by decide)
  have d5 : c2 ≠ p := Blk.ne_ i2 hp (by decide)
  refine ⟨?_, ?_, ?_, ?_, by simpa using hcs, hne⟩
  · exact (((hl.far (p := ⟨c1, 0, none⟩) d1 _).far (p := ⟨p, _, none⟩) d3 _).far (p := ⟨p, _, none⟩) d3 _).far (p := ⟨c2, 0, none⟩) d2 _
  · exact ((Blk.far (i1.set _) (p := ⟨p, _, none⟩) d4 _).far (p := ⟨p, _, none⟩) d4 _).far (p := ⟨c2, 0, none⟩) hne _
  · exact IsCell.set (x := head) (((Blk.far i2 (p := ⟨c1, 0, none⟩) (fun e => hne e.symm) _).far (p := ⟨p, _, none⟩) d5 _).far (p := ⟨p, _, none⟩) d5 _) _
  · exact (((hp.far (p := ⟨c1, 0, none⟩) (fun e => d4 e.symm) _).set_ _ _).set_ _ _).far (p := ⟨c2, 0, none⟩) (fun e => d5 e.symm) _

theorem add_ok (l c1 c2 p : Nat) (last head : Nat) (n : Nat) (cs : Array Value) (v : Int) (w : World) (h : ListAt w l c1 c2 p last head n cs) (hroom : last + 1 < n) (hb : last < 1000000) :
    Calls Try.prog 7 #[.pointer (some ⟨l, 0, none⟩), .pointer none, .int .i64 v] w fun e w' => e = .returned (.tuple #[.int .i64 (last + 1), .int .i64 0]) ∧ addWorld w c1 c2 p last head v = w' := by
  obtain ⟨hl, i1, i2, hp, hcs, hne⟩ := h
  have l0 := hl.cell 0
  have l1 := hl.cell 1
  have I1 := Lib.hid i1
  have I2 := Lib.hid i2
  have L1 := Lib.hid l1
  have d1 : l ≠ c1 := Blk.ne_ hl i1 (by decide)
  have d3 : l ≠ p := Blk.ne_ hl hp (by decide)
  have d4 : c1 ≠ p := Blk.ne_ i1 hp (by decide)
  have d5 : c2 ≠ p := Blk.ne_ i2 hp (by decide)
  have hl1 := hl.far (p := ⟨c1, 0, none⟩) d1 (.int .i64 (last + 1))
  have hp1 := hp.far (p := ⟨c1, 0, none⟩) (fun e => d4 e.symm) (.int .i64 (last + 1))
  have hl3 := (hl1.far (p := ⟨p, (last + 1) * 2, none⟩) d3 (.int .i64 v)).far (p := ⟨p, (last + 1) * 2 + 1, none⟩) d3 (.int .i64 head)
  have HL1 := Lib.hid hl1
  have HL3 := Lib.hid hl3
  have HP1 := Lib.hid hp1
  have I23 : Hid (IsCell (((w.setCell ⟨c1, 0, none⟩ (.int .i64 (last + 1))).setCell ⟨p, (last + 1) * 2, none⟩ (.int .i64 v)).setCell ⟨p, (last + 1) * 2 + 1, none⟩ (.int .i64 head)) c2 head) := Lib.hid (((Blk.far i2 (p := ⟨c1, 0, none⟩) (fun e => hne e.symm) _).far (p := ⟨p, _, none⟩) d5 _).far (p := ⟨p, _, none⟩) d5 _)
  have W := Lib.hid (wrap64_in (last + 1) (by omega))
  have hh : ((head : Int) == -1) = false := by rw [beq_eq_false_iff_ne]; omega
  have hh' : ((head : Int) != -1) = true := by rw [bne_iff_ne]; omega
  have hg : decide ((n : Int) ≤ last + 1) = false := by simp; omega
  have hpl : ¬ p = l := fun e => d3 e.symm
  have HS := Lib.hid hcs
  have HR := Lib.hid hroom
  simp at l0 l1
  clear hl i1 i2 hp hcs hne hroom d1 d3 d4 d5 hl1 hp1 hl3
  go_enter Try.func7, Try.ntmps7
  go_wp2_with (first | (go_at_call 28; refine (made_yes l c2 _ L1.out).mono ?_; rintro e w' ⟨rfl, rfl⟩) | (go_at_call 26; refine (cell_load c2 _ _ I2.out).mono ?_; rintro e w' ⟨rfl, rfl⟩))
  refine (cell_add c1 last 1 _ I1.out).mono ?_
  rw [W.out]
  rintro e w1 ⟨rfl, hw⟩
  have m1 := HL1.out.cell 1
  have m2 := HL1.out.cell 2
  have q0 : w1.cell? ⟨p, (last + 1) * 2, none⟩ = some (cs[(last + 1) * 2]?.getD undef) := by rw [← hw, HP1.out.cell, Array.getElem?_eq_getElem (by have := HS.out; have := HR.out; omega)]; rfl
  have q1 : w1.cell? ⟨p, (last + 1) * 2 + 1, none⟩ = some (cs[(last + 1) * 2 + 1]?.getD undef) := by rw [← hw, HP1.out.cell, Array.getElem?_eq_getElem (by have := HS.out; have := HR.out; omega)]; rfl
  have z0 : w1.frozen? ⟨p, (last + 1) * 2, none⟩ = false := by rw [← hw]; exact HP1.out.frozen _
  have z1 : w1.frozen? ⟨p, (last + 1) * 2 + 1, none⟩ = false := by rw [← hw]; exact HP1.out.frozen _
  rw [hw] at m1 m2
  simp at m1 m2
  have hlt : last + 1 < n := HR.out
  have HW := Lib.hid hw
  clear hw
  go_wp2_with fail
  refine wp_loop_rounds 1 ?_
  rw [rounds_succ]
  go_wp2_with fail
  refine (cell_cas_hit c2 head (last + 1) _ (HW.out ▸ I23.out)).mono ?_
  rintro e w2 ⟨rfl, hw2⟩
  have HW2 := Lib.hid hw2
  clear hw2
  go_wp2
  go_ret2
  exact ⟨rfl, by rw [← HW2.out, ← HW.out]; rfl⟩
end Go.Proofs.Ytkgdpcmbbelipaa
