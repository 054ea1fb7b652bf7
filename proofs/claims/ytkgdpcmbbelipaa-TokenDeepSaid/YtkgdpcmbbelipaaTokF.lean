/- Tokens: Child, OnCancel, Reason, Wait, called free. Conditions: what the blocks hold. -/
import Derived.Test.YtkgdpcmbbelipaaTokE
namespace Go.Proofs.Ytkgdpcmbbelipaa
open Go.RowKit Go.MuLone
set_option maxRecDepth 100000

theorem child_nil (w : World) : Calls Try.prog 13 #[.pointer none, .pointer none] w fun e w' => e = .returned (.tuple #[.pointer none, .int .i64 2]) ∧ w = w' := by
  go_enter Try.func13, Try.ntmps13
  go_wp2_with (go_at_call 34; refine (made_nilT _).mono ?_; rintro e w' ⟨rfl, rfl⟩)
  go_ret2
  exact ⟨rfl, rfl⟩
theorem child_bare (t : Nat) (w : World) (h : w.cell? ⟨t, 0, none⟩ = some (.pointer none)) : Calls Try.prog 13 #[.pointer (some ⟨t, 0, none⟩), .pointer none] w fun e w' => e = .returned (.tuple #[.pointer none, .int .i64 2]) ∧ w = w' := by
  have H := Lib.hid h
  clear h
  go_enter Try.func13, Try.ntmps13
  go_wp2_with (go_at_call 34; refine (made_bareT t _ H.out).mono ?_; rintro e w' ⟨rfl, rfl⟩)
  go_ret2
  exact ⟨rfl, rfl⟩
theorem fn_nil (w : World) : (binOp .eql 47 .nilFunc .nilFunc).run Try.prog w = .ok (.bool true) w := by kernel_rfl
theorem fn_not (n : FuncId) (c : Array Value) (w : World) : (binOp .eql 47 (.func (.func n) #[] c) .nilFunc).run Try.prog w = .ok (.bool false) w := by kernel_rfl
theorem on_nil (w : World) : Calls Try.prog 14 #[.pointer none, .pointer none, .nilFunc] w fun e w' => e = .returned (.int .i64 2) ∧ w = w' := by
  go_enter Try.func14, Try.ntmps14
  go_wp2_with (go_at_call 34; refine (made_nilT _).mono ?_; rintro e w' ⟨rfl, rfl⟩)
  go_ret
  exact ⟨rfl, rfl⟩
theorem on_bare (t : Nat) (w : World) (h : w.cell? ⟨t, 0, none⟩ = some (.pointer none)) : Calls Try.prog 14 #[.pointer (some ⟨t, 0, none⟩), .pointer none, .nilFunc] w fun e w' => e = .returned (.int .i64 2) ∧ w = w' := by
  have H := Lib.hid h
  clear h
  go_enter Try.func14, Try.ntmps14
  go_wp2_with (go_at_call 34; refine (made_bareT t _ H.out).mono ?_; rintro e w' ⟨rfl, rfl⟩)
  go_ret
  exact ⟨rfl, rfl⟩
theorem on_none (t r : Nat) (w : World) (h : w.cell? ⟨t, 0, none⟩ = some (.pointer (some ⟨r, 0, none⟩))) : Calls Try.prog 14 #[.pointer (some ⟨t, 0, none⟩), .pointer none, .nilFunc] w fun e w' => e = .returned (.int .i64 1) ∧ w = w' := by
  have H := Lib.hid h
  have hq := fn_nil
  clear h
  go_enter Try.func14, Try.ntmps14
  go_wp2_with (go_at_call 34; refine (made_yesT t r _ H.out).mono ?_; rintro e w' ⟨rfl, rfl⟩)
  go_ret
  exact ⟨rfl, rfl⟩
theorem reason_nil (w : World) : Calls Try.prog 17 #[.pointer none, .pointer none] w fun e w' => e = .returned (.int .i64 0) ∧ w = w' := by
  go_enter Try.func17, Try.ntmps17
  go_wp2_with (go_at_call 34; refine (made_nilT _).mono ?_; rintro e w' ⟨rfl, rfl⟩)
  go_ret
  exact ⟨rfl, rfl⟩
theorem reason_bare (t : Nat) (w : World) (h : w.cell? ⟨t, 0, none⟩ = some (.pointer none)) : Calls Try.prog 17 #[.pointer (some ⟨t, 0, none⟩), .pointer none] w fun e w' => e = .returned (.int .i64 0) ∧ w = w' := by
  have H := Lib.hid h
  clear h
  go_enter Try.func17, Try.ntmps17
  go_wp2_with (go_at_call 34; refine (made_bareT t _ H.out).mono ?_; rintro e w' ⟨rfl, rfl⟩)
  go_ret
  exact ⟨rfl, rfl⟩
theorem wait_nil (w : World) : Calls Try.prog 18 #[.pointer none, .pointer none] w fun e w' => e = .returned (.int .i64 0) ∧ w = w' := by
  go_enter Try.func18, Try.ntmps18
  go_wp2_with (go_at_call 34; refine (made_nilT _).mono ?_; rintro e w' ⟨rfl, rfl⟩)
  go_ret
  exact ⟨rfl, rfl⟩
theorem wait_bare (t : Nat) (w : World) (h : w.cell? ⟨t, 0, none⟩ = some (.pointer none)) : Calls Try.prog 18 #[.pointer (some ⟨t, 0, none⟩), .pointer none] w fun e w' => e = .returned (.int .i64 0) ∧ w = w' := by
  have H := Lib.hid h
  clear h
  go_enter Try.func18, Try.ntmps18
  go_wp2_with (go_at_call 34; refine (made_bareT t _ H.out).mono ?_; rintro e w' ⟨rfl, rfl⟩)
  go_ret
  exact ⟨rfl, rfl⟩
theorem cancel_nil (y : Int) (w : World) : Calls Try.prog 16 #[.pointer none, .pointer none, .int .i64 y] w fun e w' => e = .returned (.bool false) ∧ w = w' := by
  go_enter Try.func16, Try.ntmps16
  go_wp2_with (go_at_call 34; refine (made_nilT _).mono ?_; rintro e w' ⟨rfl, rfl⟩)
  go_ret
  exact ⟨rfl, rfl⟩
theorem cancel_bare (t : Nat) (y : Int) (w : World) (h : w.cell? ⟨t, 0, none⟩ = some (.pointer none)) : Calls Try.prog 16 #[.pointer (some ⟨t, 0, none⟩), .pointer none, .int .i64 y] w fun e w' => e = .returned (.bool false) ∧ w = w' := by
  have H := Lib.hid h
  clear h
  go_enter Try.func16, Try.ntmps16
  go_wp2_with (go_at_call 34; refine (made_bareT t _ H.out).mono ?_; rintro e w' ⟨rfl, rfl⟩)
  go_ret
  exact ⟨rfl, rfl⟩
theorem cancel_low (t r : Nat) (y : Int) (hy : y < 1) (w : World) (h : w.cell? ⟨t, 0, none⟩ = some (.pointer (some ⟨r, 0, none⟩))) : Calls Try.prog 16 #[.pointer (some ⟨t, 0, none⟩), .pointer none, .int .i64 y] w fun e w' => e = .returned (.bool false) ∧ w = w' := by
  have H := Lib.hid h
  have hx : decide (y < 1) = true := by simpa using hy
  clear h hy
  go_enter Try.func16, Try.ntmps16
  go_wp2_with (go_at_call 34; refine (made_yesT t r _ H.out).mono ?_; rintro e w' ⟨rfl, rfl⟩)
  go_ret
  exact ⟨rfl, rfl⟩
section
variable {k : Tk} {w : World} {d x last head : Int} {cs : Array Value}
theorem tok_reason (h : k.At w d x last head cs) : Calls Try.prog 17 #[.pointer (some ⟨k.T, 0, none⟩), .pointer none] w fun e w' => e = .returned (.int .i64 x) ∧ w = w' := by
  have H := Lib.hid h.made0
  have m0 := h.made0
  have HR := Lib.hid h.2.1
  clear h
  go_enter Try.func17, Try.ntmps17
  go_wp2_with (first | (go_at_call 34; refine (made_yesT _ _ _ H.out).mono ?_; rintro e w' ⟨rfl, rfl⟩) | (go_at_call 26; refine (cell_load _ _ _ HR.out).mono ?_; rintro e w' ⟨rfl, rfl⟩))
  go_ret
  exact ⟨rfl, rfl⟩
theorem tok_wait (hx : (x != 0) = true) (h : k.At w d x last head cs) : Calls Try.prog 18 #[.pointer (some ⟨k.T, 0, none⟩), .pointer none] w fun e w' => e = .returned (.int .i64 x) ∧ w = w' := by
  have H := Lib.hid h.made0
  have m0 := h.made0
  have HR := Lib.hid h.2.1
  clear h
  go_enter Try.func18, Try.ntmps18
  go_wp2_with (first | (go_at_call 34; refine (made_yesT _ _ _ H.out).mono ?_; rintro e w' ⟨rfl, rfl⟩) | (go_at_call 26; refine (cell_load _ _ _ HR.out).mono ?_; rintro e w' ⟨rfl, rfl⟩))
  go_ret
  exact ⟨rfl, rfl⟩
theorem child_deep (h : k.At w 64 x last head cs) : Calls Try.prog 13 #[.pointer (some ⟨k.T, 0, none⟩), .pointer none] w fun e w' => e = .returned (.tuple #[.pointer none, .int .i64 15]) ∧ w = w' := by
  have H := Lib.hid h.made0
  have m2 := h.made2
  clear h
  go_enter Try.func13, Try.ntmps13
  go_wp2_with (go_at_call 34; refine (made_yesT _ _ _ H.out).mono ?_; rintro e w' ⟨rfl, rfl⟩)
  go_ret2
  exact ⟨rfl, rfl⟩
/-- One child more. -/
def NewChild (k : Tk) (w : World) (d x : Int) (l : Nat) (head : Nat) (cs : Array Value) (e : Ending) (w' : World) : Prop :=
  ∃ (k2 : Tk) (cs2 : Array Value), e = .returned (.tuple #[.pointer (some ⟨k2.T, 0, none⟩), .int .i64 0]) ∧ k2.lo = w.heap.size ∧ k2.hi ≤ w'.heap.size ∧ k2.At w' (d + 1) 0 0 0 cs2 ∧
    k.At w' d x (l + 1) (l + 1) (addedE cs l (some ⟨k2.T, 0, none⟩) .nilFunc head) ∧ Kept k.has w w'
set_option maxHeartbeats 2000000 in
theorem child_ok {d l head : Nat} (h : k.At w d x l head cs) (hd : d < 64) (hl : l < 64) (hk : k.hi ≤ w.heap.size) : Calls Try.prog 13 #[.pointer (some ⟨k.T, 0, none⟩), .pointer none] w (NewChild k w d x l head cs) := by
  have H := Lib.hid h.made0
  have HA := Lib.hid h
  have HK := Lib.hid hk
  have m2 := h.made2
  have hd1 : ((d : Int) == 64) = false := by rw [beq_eq_false_iff_ne]; omega
  have W := Lib.hid (wrap64_in ((d : Int) + 1) (by omega))
  clear h hk
  go_enter Try.func13, Try.ntmps13
  go_wp2_with (go_at_call 34; refine (made_yesT _ _ _ H.out).mono ?_; rintro e w' ⟨rfl, rfl⟩)
  refine (tok_new w).mono ?_
  rintro e w1 ⟨k2, cs2, rfl, h1, h2, h3, h4⟩
  have K1 : Hid (Kept (fun _ => False) w w1) := Lib.hid (Kept.of_below h3)
  have HA1 := Lib.hid (HA.out.keep K1.out (fun _ _ h => h))
  have HC1 := Lib.hid h4
  have LO := Lib.hid h1
  have HI := Lib.hid h2
  clear h1 h2 h3 h4
  have n2 := HA1.out.made2
  have n3 := HC1.out.made2
  have nz := HC1.out.1.frozen 2
  have HC2 := Lib.hid (HC1.out.depth ((d : Int) + 1))
  have K2 : Hid (Kept k2.has w1 (w1.setCell ⟨k2.T, 2, none⟩ (.int .i64 ((d : Int) + 1)))) := Lib.hid ⟨rfl, rfl, rfl, by simp, fun q _ hq2 => heap_set_ne w1 ⟨k2.T, 2, none⟩ _ q (fun hh => hq2 ((show k2.T = q from hh) ▸ HC1.out.2.2.2.2.2.1))⟩
  have HA2 := Lib.hid (HA1.out.keep K2.out (fun q hq hq2 => by have := hq.2; have := hq2.1; have := HK.out; have := LO.out; omega))
  have p1 := HA2.out.made1
  go_wp2_with fail
  refine (addE_ok k.L k.c1 k.c2 k.P l head 65 cs (some ⟨k2.T, 0, none⟩) .nilFunc (.inl rfl) _ HA2.out.2.2.1 (by omega) (by omega)).mono ?_
  rintro e w3 ⟨rfl, hs⟩
  have HA3 := Lib.hid (((HA2.out.alloc (entBox (some ⟨k2.T, 0, none⟩) .nilFunc)).add (some ⟨k2.T, 0, none⟩) .nilFunc).same hs)
  have K3 : Hid (Kept k.has (w1.setCell ⟨k2.T, 2, none⟩ (.int .i64 ((d : Int) + 1))) w3) := Lib.hid ((kept_add (Kept.of_below ((Below.refl _ _).alloc (Nat.le_refl _) _)) HA2.out.2.2.2.2.2.2.2.2.1 HA2.out.2.2.2.2.2.2.2.2.2.1 HA2.out.2.2.2.2.2.2.2.2.2.2).trans (Kept.same hs))
  have HC3 := Lib.hid (HC2.out.keep K3.out (fun q hq hq2 => by have := hq.1; have := hq2.2; have := HK.out; have := LO.out; omega))
  clear hs
  go_wp2_with fail
  go_ret2
  have hs1 := K1.out.size
  have hs3 := K3.out.size
  have K0 : Kept k.has w (w1.setCell ⟨k2.T, 2, none⟩ (.int .i64 ((d : Int) + 1))) := ⟨K1.out.os, K1.out.tape, K1.out.output, by simpa using hs1, fun q hq _ => (heap_set_ne w1 ⟨k2.T, 2, none⟩ _ q (fun hh => by have := HC1.out.2.2.2.2.2.1.1; have := LO.out; have hh2 : k2.T = q := hh; omega)).trans (K1.out.block q hq (fun h => h))⟩
  refine ⟨k2, cs2, rfl, LO.out, ?_, HC3.out, HA3.out, K0.trans K3.out⟩
  simp at hs3
  rw [HI.out]
  omega
end
end Go.Proofs.Ytkgdpcmbbelipaa
