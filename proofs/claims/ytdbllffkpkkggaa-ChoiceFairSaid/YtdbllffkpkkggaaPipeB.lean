/- The contracts of TrySend and TryRecv, called free, on a pipe of two places: the first value sent, received, and nothing there. Conditions: what the cells hold. -/
import Derived.Test.YtdbllffkpkkggaaPipeA
import Derived.Deep.RegionHeld3
namespace Go.Proofs.Ytdbllffkpkkggaa
open Go.RowKit Go.MuLone
set_option maxRecDepth 100000

/-- The worlds' heaps are one; nothing else but the count of draws has turned. -/
def SameHeap (w w' : World) : Prop := w'.heap = w.heap ∧ w'.os = w.os ∧ w'.tape = w.tape ∧ w'.output = w.output
theorem SameHeap.refl (w : World) : SameHeap w w := ⟨rfl, rfl, rfl, rfl⟩
theorem SameHeap.trans {a b c : World} (h : SameHeap a b) (k : SameHeap b c) : SameHeap a c := ⟨k.1.trans h.1, k.2.1.trans h.2.1, k.2.2.1.trans h.2.2.1, k.2.2.2.trans h.2.2.2⟩
theorem SameHeap.drewN (w : World) (n : Nat) : SameHeap w (w.drewN n) := ⟨rfl, rfl, rfl, rfl⟩
theorem SameHeap.drew (w : World) : SameHeap w w.drew := ⟨rfl, rfl, rfl, rfl⟩
theorem SameHeap.set {a b : World} (h : SameHeap a b) (p : Addr) (v : Value) : SameHeap (a.setCell p v) (b.setCell p v) :=
  ⟨by simp only [World.setCell, h.1], h.2.1, h.2.2.1, h.2.2.2⟩
theorem SameHeap.cell {a b : World} (h : SameHeap a b) {g : Nat} {x : Int} (c : IsCell a g x) : IsCell b g x := by unfold IsCell at *; rw [h.1]; exact c
theorem SameHeap.blk {a b : World} (h : SameHeap a b) {g : Nat} {t : TypeId} {cs : Array Value} (c : Blk a g t cs) : Blk b g t cs := by unfold Blk at *; rw [h.1]; exact c
theorem IsCell.far {w : World} {g : Nat} {x : Int} (h : IsCell w g x) {b : Nat} (hb : g ≠ b) (v : Value) : IsCell (w.setCell ⟨b, 0, none⟩ v) g x := Blk.far h (p := ⟨b, 0, none⟩) hb v
theorem PipeAt.same {a b : World} (h : SameHeap a b) {p i o bl g c t0 s0 t1 s1 : Nat} (k : PipeAt a p i o bl g c t0 s0 t1 s1) : PipeAt b p i o bl g c t0 s0 t1 s1 := by
  obtain ⟨h1, cs, h2, r⟩ := k
  exact ⟨h.blk h1, cs, h.blk h2, r⟩
theorem PipeAt.set {w : World} {p i o bl g c t0 s0 t1 s1 : Nat} (k : PipeAt w p i o bl g c t0 s0 t1 s1) {b : Nat} {x : Int} (hb : IsCell w b x) (v : Value) : PipeAt (w.setCell ⟨b, 0, none⟩ v) p i o bl g c t0 s0 t1 s1 := by
  obtain ⟨h1, cs, h2, r⟩ := k
  exact ⟨h1.far (p := ⟨b, 0, none⟩) (Blk.ne_ h1 hb (by decide)) v, cs, h2.far (p := ⟨b, 0, none⟩) (Blk.ne_ h2 hb (by decide)) v, r⟩

def sentWorld (w : World) (i b t0 s0 : Nat) (v bx : Int) : World :=
  (((w.setCell ⟨i, 0, none⟩ (.int .i64 2)).setCell ⟨s0, 0, none⟩ (.int .i64 v)).setCell ⟨t0, 0, none⟩ (.int .i64 1)).setCell ⟨b, 0, none⟩ (.int .i64 (wrap64 (bx + 1)))

set_option maxHeartbeats 1000000 in
theorem send_first (p i o b g c t0 s0 t1 s1 : Nat) (v sx bx : Int) (w : World) (h : PipeAt w p i o b g c t0 s0 t1 s1) (ci : IsCell w i 0) (ct : IsCell w t0 0) (cs : IsCell w s0 sx) (cb : IsCell w b bx)
    (n1 : i ≠ s0) (n2 : i ≠ t0) (n3 : i ≠ b) (n4 : s0 ≠ t0) (n5 : s0 ≠ b) (n6 : t0 ≠ b) :
    Calls Try.prog 8 #[.pointer (some ⟨p, 0, none⟩), .pointer none, .int .i64 v] w fun e w' => e = .returned (.int .i8 1) ∧ SameHeap (sentWorld w i b t0 s0 v bx) w' := by
  have HP := Lib.hid h
  have CI := Lib.hid ci
  have CT := Lib.hid ct
  have CS := Lib.hid cs
  have CB := Lib.hid cb
  have N1 := Lib.hid n1
  have N2 := Lib.hid n2
  have N3 := Lib.hid n3
  have N4 := Lib.hid n4
  have N5 := Lib.hid n5
  have N6 := Lib.hid n6
  obtain ⟨hp, cc, hg, g0, g1, g2, g3⟩ := h
  have p0 := hp.cell 0
  have p2 := hp.cell 2
  have p3 := hp.cell 3
  have q0 := (hg.cell 0).trans g0
  have q1 := (hg.cell 1).trans g1
  simp at p0 p2 p3
  have HA := Lib.hid p3
  have H0 := Lib.hid p0
  have hx : bits BinOp.and IntKind.i64 0 1 = 0 := by decide +kernel
  clear hg hp ci ct cs cb n1 n2 n3 n4 n5 n6 g0 g1 g2 g3
  go_enter Try.func8, Try.ntmps8
  go_wp2_with (first | (go_at_call 13; refine (pnone_no p i _ H0.out).mono ?_; rintro e w' ⟨rfl, rfl⟩))
  refine wp_loop_rounds 1 ?_
  rw [rounds_succ]
  go_wp2_with fail
  refine (cell_load i 0 _ CI.out).mono ?_
  rintro e w' ⟨rfl, rfl⟩
  go_wp2_with fail
  refine (at_of p g c 0 (by omega) _ HA.out).mono ?_
  rintro e w' ⟨rfl, n, rfl⟩
  go_wp2_with fail
  refine (cell_load t0 0 _ ((SameHeap.drewN _ _).cell CT.out)).mono ?_
  rintro e w' ⟨rfl, rfl⟩
  go_wp2_with fail
  have S0 := Lib.hid (SameHeap.drewN w n)
  refine (cell_cas_hit i 0 2 _ (S0.out.cell CI.out)).mono ?_
  rintro e w1 ⟨rfl, hw1⟩
  have S1 := Lib.hid (show SameHeap (w.setCell ⟨i, 0, none⟩ (.int .i64 2)) w1 from hw1 ▸ S0.out.set _ _)
  have P1 := Lib.hid ((HP.out.set CI.out (.int .i64 2)).same S1.out)
  clear hw1
  have hp1 := P1.out.1
  have r0 := hp1.cell 0
  have r2 := hp1.cell 2
  have r3 := hp1.cell 3
  simp at r0 r2 r3
  have R3 := Lib.hid r3
  clear hp1
  go_wp2_with fail
  refine (at_of p g c 0 (by omega) _ R3.out).mono ?_
  rintro e w' ⟨rfl, n1, rfl⟩
  obtain ⟨hp1, cc1, hg1, g0, g1, g2, g3⟩ := P1.out
  have y1 := (hg1.cell 1).trans g1
  clear hp1 hg1 g0 g1 g2 g3
  go_wp2_with fail
  refine (cell_store s0 sx v _ ((SameHeap.drewN _ _).cell (S1.out.cell (IsCell.far CS.out N1.out.symm _)))).mono ?_
  rintro e w2 ⟨rfl, hw2⟩
  have S2 := Lib.hid (show SameHeap ((w.setCell ⟨i, 0, none⟩ (.int .i64 2)).setCell ⟨s0, 0, none⟩ (.int .i64 v)) w2 from hw2 ▸ ((S1.out.trans (SameHeap.drewN _ _)).set _ _))
  have P2 := Lib.hid (((HP.out.set CI.out (.int .i64 2)).set (IsCell.far CS.out N1.out.symm (.int .i64 2)) (.int .i64 v)).same S2.out)
  clear hw2 y1 r0 r2 r3
  have hp2 := P2.out.1
  have r0 := hp2.cell 0
  have r2 := hp2.cell 2
  have r3 := hp2.cell 3
  simp at r0 r2 r3
  have R3' := Lib.hid r3
  clear hp2
  go_wp2_with fail
  refine (at_of p g c 0 (by omega) _ R3'.out).mono ?_
  rintro e w' ⟨rfl, n2, rfl⟩
  obtain ⟨hp1, cc2, hg1, g0, g1, g2, g3⟩ := P2.out
  have y0 := (hg1.cell 0).trans g0
  clear hp1 hg1 g0 g1 g2 g3
  go_wp2_with fail
  refine (cell_store t0 0 1 _ ((SameHeap.drewN _ _).cell (S2.out.cell (IsCell.far (IsCell.far CT.out N2.out.symm _) N4.out.symm _)))).mono ?_
  rintro e w3 ⟨rfl, hw3⟩
  have S3 := Lib.hid (show SameHeap (((w.setCell ⟨i, 0, none⟩ (.int .i64 2)).setCell ⟨s0, 0, none⟩ (.int .i64 v)).setCell ⟨t0, 0, none⟩ (.int .i64 1)) w3 from hw3 ▸ ((S2.out.trans (SameHeap.drewN _ _)).set _ _))
  have P3 := Lib.hid ((((HP.out.set CI.out (.int .i64 2)).set (IsCell.far CS.out N1.out.symm (.int .i64 2)) (.int .i64 v)).set (IsCell.far (IsCell.far CT.out N2.out.symm (.int .i64 2)) N4.out.symm (.int .i64 v)) (.int .i64 1)).same S3.out)
  clear hw3 y0 r0 r2 r3
  have hp3 := P3.out.1
  have r2 := hp3.cell 2
  simp at r2
  clear hp3
  go_wp2_with fail
  refine (cell_add b bx 1 _ (S3.out.cell (IsCell.far (IsCell.far (IsCell.far CB.out N3.out.symm _) N5.out.symm _) N6.out.symm _))).mono ?_
  rintro e w4 ⟨rfl, hw4⟩
  have S4 := Lib.hid (show SameHeap (sentWorld w i b t0 s0 v bx) w4 from hw4 ▸ S3.out.set _ _)
  clear hw4
  go_wp2
  go_ret
  exact ⟨rfl, S4.out⟩

theorem keep_store {w wa w2 : World} {p i o b g c t0 s0 t1 s1 : Nat} {x : Int} {v : Value} (h : PipeAt w p i o b g c t0 s0 t1 s1) (ht : IsCell w t0 x) (hs : SameHeap w wa) (hw : wa.setCell ⟨t0, 0, none⟩ v = w2) :
    w2.cell? ⟨p, 3, none⟩ = some (.slice (some ⟨g, 0, none⟩) 2 c) ∧ w2.cell? ⟨g, 0, none⟩ = some (.pointer (some ⟨t0, 0, none⟩)) := by
  subst hw
  obtain ⟨hp, cs, hg, g0, _⟩ := (h.same hs).set (hs.cell ht) v
  exact ⟨(hp.cell 3).trans rfl, (hg.cell 0).trans g0⟩
def recvWorld (w : World) (o b t0 : Nat) (bx : Int) : World :=
  ((w.setCell ⟨o, 0, none⟩ (.int .i64 1)).setCell ⟨t0, 0, none⟩ (.int .i64 2)).setCell ⟨b, 0, none⟩ (.int .i64 (wrap64 (bx + 1)))

set_option maxHeartbeats 2000000 in
theorem recv_first (p i o b g c t0 s0 t1 s1 : Nat) (v bx : Int) (w : World) (h : PipeAt w p i o b g c t0 s0 t1 s1) (co : IsCell w o 0) (ct : IsCell w t0 1) (cs : IsCell w s0 v) (cb : IsCell w b bx)
    (n1 : o ≠ s0) (n2 : o ≠ t0) (n3 : o ≠ b) (n6 : t0 ≠ b) :
    Calls Try.prog 31 #[.pointer (some ⟨p, 0, none⟩), .pointer none] w fun e w' => e = .returned (.tuple #[.int .i64 v, .int .i8 1]) ∧ SameHeap (recvWorld w o b t0 bx) w' := by
  have HP := Lib.hid h
  have CO := Lib.hid co
  have CT := Lib.hid ct
  have CS := Lib.hid cs
  have CB := Lib.hid cb
  have N1 := Lib.hid n1
  have N2 := Lib.hid n2
  have N3 := Lib.hid n3
  have N6 := Lib.hid n6
  obtain ⟨hp, cc, hg, g0, g1, g2, g3⟩ := h
  have p0 := hp.cell 0
  have p1 := hp.cell 1
  have p3 := hp.cell 3
  have q0 := (hg.cell 0).trans g0
  simp at p0 p1 p3
  have HA := Lib.hid p3
  have H0 := Lib.hid p0
  clear hg hp co ct cs cb n1 n2 n3 n6 g0 g1 g2 g3
  go_enter Try.func31, Try.ntmps31
  go_wp2_with (first | (go_at_call 13; refine (pnone_no p i _ H0.out).mono ?_; rintro e w' ⟨rfl, rfl⟩))
  refine wp_loop_rounds 1 ?_
  rw [rounds_succ]
  go_wp2_with fail
  refine (cell_load o 0 _ CO.out).mono ?_
  rintro e w' ⟨rfl, rfl⟩
  go_wp2_with fail
  refine (at_of p g c 0 (by omega) _ HA.out).mono ?_
  rintro e w' ⟨rfl, n, rfl⟩
  go_wp2_with fail
  refine (cell_load t0 1 _ ((SameHeap.drewN _ _).cell CT.out)).mono ?_
  rintro e w' ⟨rfl, rfl⟩
  have S0 := Lib.hid (SameHeap.drewN w n)
  go_wp2_with fail
  refine (cell_cas_hit o 0 1 _ (S0.out.cell CO.out)).mono ?_
  rintro e w1 ⟨rfl, hw1⟩
  have S1 := Lib.hid (show SameHeap (w.setCell ⟨o, 0, none⟩ (.int .i64 1)) w1 from hw1 ▸ S0.out.set _ _)
  have P1 := Lib.hid ((HP.out.set CO.out (.int .i64 1)).same S1.out)
  clear hw1
  have hp1 := P1.out.1
  have r3 := hp1.cell 3
  simp at r3
  have R3 := Lib.hid r3
  clear hp1
  obtain ⟨hp1, cc1, hg1, g0, g1, g2, g3⟩ := P1.out
  have y1 := (hg1.cell 1).trans g1
  have y0 := (hg1.cell 0).trans g0
  clear hp1 hg1 g0 g1 g2 g3
  go_wp2_with fail
  refine (at_of p g c 0 (by omega) _ R3.out).mono ?_
  rintro e w' ⟨rfl, n1, rfl⟩
  go_wp2_with fail
  refine (cell_load s0 v _ ((SameHeap.drewN _ _).cell (S1.out.cell (IsCell.far CS.out N1.out.symm _)))).mono ?_
  rintro e w' ⟨rfl, rfl⟩
  have CT1 := Lib.hid (S1.out.cell (IsCell.far CT.out N2.out.symm (.int .i64 1)))
  go_wp2_with fail
  have hx2 : IntKind.i64.wrap 2 = 2 := by decide +kernel
  go_region_held3 (fun w' => w'.cell? ⟨p, 3, none⟩ = some (.slice (some ⟨g, 0, none⟩) 2 c) ∧ w'.cell? ⟨g, 0, none⟩ = some (.pointer (some ⟨t0, 0, none⟩)))
    (first | go_keep | exact keep_store P1.out CT1.out (SameHeap.drewN _ _) hw2)
    (first | (go_at_call 15; refine (at_of p g c 0 (by omega) _ ?_).mono ?_; exact R3.out; rintro e w' ⟨rfl, n2, rfl⟩) | (go_at_call 17; refine (cell_store t0 1 2 _ ((SameHeap.drewN _ _).cell CT1.out)).mono ?_; rintro e w2 ⟨rfl, hw2⟩))
  have S2 := Lib.hid (show SameHeap ((w.setCell ⟨o, 0, none⟩ (.int .i64 1)).setCell ⟨t0, 0, none⟩ (.int .i64 2)) w2 from hw2 ▸ ((S1.out.trans (SameHeap.drewN _ _)).set _ _))
  have P2 := Lib.hid (((HP.out.set CO.out (.int .i64 1)).set (IsCell.far CT.out N2.out.symm (.int .i64 1)) (.int .i64 2)).same S2.out)
  clear hw2
  have hp2 := P2.out.1
  have x2 := hp2.cell 2
  simp at x2
  clear hp2
  go_wp2_with fail
  refine (cell_add b bx 1 _ (S2.out.cell (IsCell.far (IsCell.far CB.out N3.out.symm _) N6.out.symm _))).mono ?_
  rintro e w4 ⟨rfl, hw4⟩
  have S4 := Lib.hid (show SameHeap (recvWorld w o b t0 bx) w4 from hw4 ▸ S2.out.set _ _)
  clear hw4
  go_wp2
  go_ret2
  exact ⟨rfl, S4.out⟩

set_option maxHeartbeats 1000000 in
/-- Nothing there: one value has been sent, one received. -/
theorem recv_none (p i o b g c t0 s0 t1 s1 : Nat) (w : World) (h : PipeAt w p i o b g c t0 s0 t1 s1) (co : IsCell w o 1) (ct : IsCell w t1 1) (ci : IsCell w i 2) :
    Calls Try.prog 31 #[.pointer (some ⟨p, 0, none⟩), .pointer none] w fun e w' => e = .returned (.tuple #[.int .i64 0, .int .i8 2]) ∧ SameHeap w w' := by
  have CO := Lib.hid co
  have CT := Lib.hid ct
  have CI := Lib.hid ci
  obtain ⟨hp, cc, hg, g0, g1, g2, g3⟩ := h
  have p0 := hp.cell 0
  have p1 := hp.cell 1
  have p3 := hp.cell 3
  have q2 := (hg.cell 2).trans g2
  simp at p0 p1 p3
  have HA := Lib.hid p3
  have H0 := Lib.hid p0
  clear hg hp co ct ci g0 g1 g2 g3
  go_enter Try.func31, Try.ntmps31
  go_wp2_with (first | (go_at_call 13; refine (pnone_no p i _ H0.out).mono ?_; rintro e w' ⟨rfl, rfl⟩))
  refine wp_loop_rounds 1 ?_
  rw [rounds_succ]
  go_wp2_with fail
  refine (cell_load o 1 _ CO.out).mono ?_
  rintro e w' ⟨rfl, rfl⟩
  go_wp2_with fail
  refine (at_of p g c 1 (by omega) _ HA.out).mono ?_
  rintro e w' ⟨rfl, n, rfl⟩
  go_wp2_with fail
  refine (cell_load t1 1 _ ((SameHeap.drewN _ _).cell CT.out)).mono ?_
  rintro e w' ⟨rfl, rfl⟩
  go_wp2_with fail
  refine (cell_load i 2 _ ((SameHeap.drewN _ _).cell CI.out)).mono ?_
  rintro e w' ⟨rfl, rfl⟩
  go_wp2
  go_ret2
  exact ⟨rfl, SameHeap.drewN _ _⟩
end Go.Proofs.Ytdbllffkpkkggaa
