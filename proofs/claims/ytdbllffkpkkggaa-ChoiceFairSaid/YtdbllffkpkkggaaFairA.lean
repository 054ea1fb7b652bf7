/- Pipes of 64 places, called free: TrySend where there is room, TryRecv where something is there, and where nothing is. Conditions: what the blocks hold. -/
import Derived.Test.YtdbllffkpkkggaaChoiceF
namespace Go.Proofs.Ytdbllffkpkkggaa
open Go.RowKit Go.MuLone
set_option maxRecDepth 100000

/-- Block p is a pipe of 64 places: cells i (in), o (out), b (bell); its places lie in block g, place k has the cells t (turn) and s (slot). -/
def PipeK (w : World) (p i o b g c k t s : Nat) : Prop :=
  Blk w p 62 #[.pointer (some ⟨i, 0, none⟩), .pointer (some ⟨o, 0, none⟩), .pointer (some ⟨b, 0, none⟩), .slice (some ⟨g, 0, none⟩) 64 c] ∧
  ∃ cs, Blk w g 64 cs ∧ cs[k * 2]? = some (.pointer (some ⟨t, 0, none⟩)) ∧ cs[k * 2 + 1]? = some (.pointer (some ⟨s, 0, none⟩))
theorem PipeK.same {a b : World} (h : SameHeap a b) {p i o bl g c k t s : Nat} (x : PipeK a p i o bl g c k t s) : PipeK b p i o bl g c k t s := by
  obtain ⟨h1, cs, h2, r⟩ := x
  exact ⟨h.blk h1, cs, h.blk h2, r⟩
theorem PipeK.set {w : World} {p i o bl g c k t s : Nat} (x : PipeK w p i o bl g c k t s) {b : Nat} {z : Int} (hb : IsCell w b z) (v : Value) : PipeK (w.setCell ⟨b, 0, none⟩ v) p i o bl g c k t s := by
  obtain ⟨h1, cs, h2, r⟩ := x
  exact ⟨h1.far (p := ⟨b, 0, none⟩) (Blk.ne_ h1 hb (by decide)) v, cs, h2.far (p := ⟨b, 0, none⟩) (Blk.ne_ h2 hb (by decide)) v, r⟩
theorem and63 (k : Nat) (hk : k < 64) : bits BinOp.and IntKind.i64 k 63 = k := (by decide +kernel : ∀ k : Fin 64, bits BinOp.and IntKind.i64 (k.val : Int) 63 = (k.val : Int)) ⟨k, hk⟩

/-- The place of k. -/
theorem at_n (p g c : Nat) (k : Nat) (hk : k < 64) (w : World) (h : w.cell? ⟨p, 3, none⟩ = some (.slice (some ⟨g, 0, none⟩) 64 c)) :
    Calls Try.prog 15 #[.pointer (some ⟨p, 0, none⟩), .int .i64 k] w fun e w' => e = .returned (.pointer (some ⟨g, k * 2, none⟩)) ∧ ∃ n, w.drewN n = w' := by
  have hx : bits BinOp.and IntKind.i64 k (IntKind.i64.wrap 63) = k := and63 k hk
  have hb1 : (k : Int) < 64 := by omega
  go_enter Try.func15, Try.ntmps15
  go_wp2
  go_quiet (fail)
  go_wp2
  go_ret
  exact ⟨rfl, _, rfl⟩

def sentK (w : World) (i b t s : Nat) (X v k bx : Int) : World :=
  (((w.setCell ⟨i, 0, none⟩ (.int .i64 (X + 2))).setCell ⟨s, 0, none⟩ (.int .i64 v)).setCell ⟨t, 0, none⟩ (.int .i64 (k + 1))).setCell ⟨b, 0, none⟩ (.int .i64 (wrap64 (bx + 1)))

set_option maxHeartbeats 1000000 in
theorem send_k (p i o b g c k t s : Nat) (hk : k < 64) (X v sx bx : Int) (hX1 : bits BinOp.and IntKind.i64 X 1 = 0) (hX2 : X.tdiv 2 = k) (hX3 : 0 ≤ X) (hX4 : X < 1000) (w : World) (h : PipeK w p i o b g c k t s) (ci : IsCell w i X) (ct : IsCell w t k) (cs : IsCell w s sx) (cb : IsCell w b bx)
    (n1 : i ≠ s) (n2 : i ≠ t) (n3 : i ≠ b) (n4 : s ≠ t) (n5 : s ≠ b) (n6 : t ≠ b) :
    Calls Try.prog 8 #[.pointer (some ⟨p, 0, none⟩), .pointer none, .int .i64 v] w fun e w' => e = .returned (.int .i8 1) ∧ SameHeap (sentK w i b t s X v k bx) w' := by
  have HP := Lib.hid h
  have CI := Lib.hid ci
  have CT := Lib.hid ct
  have CS := Lib.hid cs
  have CB := Lib.hid cb
  have N1 := Lib.hid n1
  have N2 := Lib.hid n2
  have N3 := Lib.hid n3
  have N4 := Lib.hid n4
  have N5 := Lib.hid n5
  have N6 := Lib.hid n6
  obtain ⟨hp, cc, hg, g0, g1⟩ := h
  have p0 := hp.cell 0
  have p2 := hp.cell 2
  have p3 := hp.cell 3
  have q0 := (hg.cell _).trans g0
  have q1 := (hg.cell _).trans g1
  simp at p0 p2 p3
  have HA := Lib.hid p3
  have H0 := Lib.hid p0
  have HX : Hid (∀ w : World, w.cell? ⟨p, 3, none⟩ = some (.slice (some ⟨g, 0, none⟩) 64 c) → _) := Lib.hid (fun w => at_n p g c k hk w)
  clear hg hp ci ct cs cb n1 n2 n3 n4 n5 n6 g0 g1
  go_enter Try.func8, Try.ntmps8
  go_wp2_with (first | (go_at_call 13; refine (pnone_no p i _ H0.out).mono ?_; rintro e w' ⟨rfl, rfl⟩))
  refine wp_loop_rounds 1 ?_
  rw [rounds_succ]
  go_wp2_with fail
  refine (cell_load i X _ CI.out).mono ?_
  rintro e w' ⟨rfl, rfl⟩
  go_wp2_with fail
  refine (HX.out _ HA.out).mono ?_
  rintro e w' ⟨rfl, n, rfl⟩
  go_wp2_with fail
  refine (cell_load t k _ ((SameHeap.drewN _ _).cell CT.out)).mono ?_
  rintro e w' ⟨rfl, rfl⟩
  go_wp2_with fail
  have S0 := Lib.hid (SameHeap.drewN w n)
  refine (cell_cas_hit i X _ _ (S0.out.cell CI.out)).mono ?_
  rintro e w1 ⟨rfl, hw1⟩
  have S1 := Lib.hid (show SameHeap (w.setCell ⟨i, 0, none⟩ (.int .i64 (X + 2))) w1 from hw1 ▸ S0.out.set _ _)
  have P1 := Lib.hid ((HP.out.set CI.out (.int .i64 (X + 2))).same S1.out)
  clear hw1 p0 p2 p3 q0 q1
  have r3 := P1.out.1.cell 3
  simp at r3
  have R3 := Lib.hid r3
  go_wp2_with fail
  refine (HX.out _ R3.out).mono ?_
  rintro e w' ⟨rfl, n1, rfl⟩
  obtain ⟨hp1, cc1, hg1, g0, g1⟩ := P1.out
  have y1 := (hg1.cell _).trans g1
  clear hp1 hg1 g0 g1
  go_wp2_with fail
  have CS1 := Lib.hid (S1.out.cell (IsCell.far CS.out N1.out.symm (.int .i64 (X + 2))))
  refine (cell_store s sx v _ ((SameHeap.drewN _ _).cell CS1.out)).mono ?_
  rintro e w2 ⟨rfl, hw2⟩
  have S2 := Lib.hid (show SameHeap ((w.setCell ⟨i, 0, none⟩ (.int .i64 (X + 2))).setCell ⟨s, 0, none⟩ (.int .i64 v)) w2 from hw2 ▸ ((S1.out.trans (SameHeap.drewN _ _)).set _ _))
  have P2 := Lib.hid (((HP.out.set CI.out (.int .i64 (X + 2))).set (IsCell.far CS.out N1.out.symm (.int .i64 (X + 2))) (.int .i64 v)).same S2.out)
  clear hw2 y1 r3
  have r3 := P2.out.1.cell 3
  simp at r3
  have R3' := Lib.hid r3
  go_wp2_with fail
  refine (HX.out _ R3'.out).mono ?_
  rintro e w' ⟨rfl, n2, rfl⟩
  obtain ⟨hp1, cc2, hg1, g0, g1⟩ := P2.out
  have y0 := (hg1.cell _).trans g0
  clear hp1 hg1 g0 g1
  go_wp2_with fail
  refine (cell_store t k (k + 1) _ ((SameHeap.drewN _ _).cell (S2.out.cell (IsCell.far (IsCell.far CT.out N2.out.symm _) N4.out.symm _)))).mono ?_
  rintro e w3 ⟨rfl, hw3⟩
  have S3 := Lib.hid (show SameHeap (((w.setCell ⟨i, 0, none⟩ (.int .i64 (X + 2))).setCell ⟨s, 0, none⟩ (.int .i64 v)).setCell ⟨t, 0, none⟩ (.int .i64 (k + 1))) w3 from hw3 ▸ ((S2.out.trans (SameHeap.drewN _ _)).set _ _))
  have P3 := Lib.hid ((((HP.out.set CI.out (.int .i64 (X + 2))).set (IsCell.far CS.out N1.out.symm (.int .i64 (X + 2))) (.int .i64 v)).set (IsCell.far (IsCell.far CT.out N2.out.symm (.int .i64 (X + 2))) N4.out.symm (.int .i64 v)) (.int .i64 (k + 1))).same S3.out)
  clear hw3 y0 r3
  have r2 := P3.out.1.cell 2
  simp at r2
  go_wp2_with fail
  refine (cell_add b bx 1 _ (S3.out.cell (IsCell.far (IsCell.far (IsCell.far CB.out N3.out.symm _) N5.out.symm _) N6.out.symm _))).mono ?_
  rintro e w4 ⟨rfl, hw4⟩
  have S4 := Lib.hid (show SameHeap (sentK w i b t s X v k bx) w4 from hw4 ▸ S3.out.set _ _)
  clear hw4
  go_wp2
  go_ret
  exact ⟨rfl, S4.out⟩

def recvK (w : World) (o b t : Nat) (k bx : Int) : World :=
  ((w.setCell ⟨o, 0, none⟩ (.int .i64 (k + 1))).setCell ⟨t, 0, none⟩ (.int .i64 (k + 64))).setCell ⟨b, 0, none⟩ (.int .i64 (wrap64 (bx + 1)))
theorem keep_storeK {w wa w2 : World} {p i o b g c k t s : Nat} {x : Int} {v : Value} (h : PipeK w p i o b g c k t s) (ht : IsCell w t x) (hs : SameHeap w wa) (hw : wa.setCell ⟨t, 0, none⟩ v = w2) :
    w2.cell? ⟨p, 3, none⟩ = some (.slice (some ⟨g, 0, none⟩) 64 c) ∧ w2.cell? ⟨g, k * 2, none⟩ = some (.pointer (some ⟨t, 0, none⟩)) := by
  subst hw
  obtain ⟨hp, cs, hg, g0, _⟩ := (h.same hs).set (hs.cell ht) v
  exact ⟨(hp.cell 3).trans rfl, (hg.cell _).trans g0⟩

set_option maxHeartbeats 2000000 in
theorem recv_k (p i o b g c k t s : Nat) (hk : k < 64) (v bx : Int) (w : World) (h : PipeK w p i o b g c k t s) (co : IsCell w o k) (ct : IsCell w t ((k : Int) + 1)) (cs : IsCell w s v) (cb : IsCell w b bx)
    (n1 : o ≠ s) (n2 : o ≠ t) (n3 : o ≠ b) (n6 : t ≠ b) :
    Calls Try.prog 31 #[.pointer (some ⟨p, 0, none⟩), .pointer none] w fun e w' => e = .returned (.tuple #[.int .i64 v, .int .i8 1]) ∧ SameHeap (recvK w o b t k bx) w' := by
  have HP := Lib.hid h
  have CO := Lib.hid co
  have CT := Lib.hid ct
  have CS := Lib.hid cs
  have CB := Lib.hid cb
  have N1 := Lib.hid n1
  have N2 := Lib.hid n2
  have N3 := Lib.hid n3
  have N6 := Lib.hid n6
  obtain ⟨hp, cc, hg, g0, g1⟩ := h
  have p0 := hp.cell 0
  have p1 := hp.cell 1
  have p3 := hp.cell 3
  have q0 := (hg.cell _).trans g0
  simp at p0 p1 p3
  have HA := Lib.hid p3
  have H0 := Lib.hid p0
  have HX : Hid (∀ w : World, w.cell? ⟨p, 3, none⟩ = some (.slice (some ⟨g, 0, none⟩) 64 c) → _) := Lib.hid (fun w => at_n p g c k hk w)
  have e1 : wrap64 ((k : Int) + 1) = k + 1 := by unfold wrap64; omega
  have e2 : wrap64 ((k : Int) + 64) = k + 64 := by unfold wrap64; omega
  clear hg hp co ct cs cb n1 n2 n3 n6 g0 g1
  go_enter Try.func31, Try.ntmps31
  go_wp2_with (first | (go_at_call 13; refine (pnone_no p i _ H0.out).mono ?_; rintro e w' ⟨rfl, rfl⟩))
  refine wp_loop_rounds 1 ?_
  rw [rounds_succ]
  go_wp2_with fail
  refine (cell_load o k _ CO.out).mono ?_
  rintro e w' ⟨rfl, rfl⟩
  go_wp2_with fail
  refine (HX.out _ HA.out).mono ?_
  rintro e w' ⟨rfl, n, rfl⟩
  go_wp2_with fail
  refine (cell_load t _ _ ((SameHeap.drewN _ _).cell CT.out)).mono ?_
  rintro e w' ⟨rfl, rfl⟩
  have S0 := Lib.hid (SameHeap.drewN w n)
  go_wp2_with fail
  refine (cell_cas_hit o k _ _ (S0.out.cell CO.out)).mono ?_
  rintro e w1 ⟨rfl, hw1⟩
  have S1 := Lib.hid (show SameHeap (w.setCell ⟨o, 0, none⟩ (.int .i64 ((k : Int) + 1))) w1 from hw1 ▸ S0.out.set _ _)
  have P1 := Lib.hid ((HP.out.set CO.out (.int .i64 ((k : Int) + 1))).same S1.out)
  clear hw1 p0 p1 p3 q0
  have r3 := P1.out.1.cell 3
  simp at r3
  have R3 := Lib.hid r3
  obtain ⟨hp1, cc1, hg1, g0, g1⟩ := P1.out
  have y1 := (hg1.cell _).trans g1
  have y0 := (hg1.cell _).trans g0
  clear hp1 hg1 g0 g1
  go_wp2_with fail
  refine (HX.out _ R3.out).mono ?_
  rintro e w' ⟨rfl, n1, rfl⟩
  go_wp2_with fail
  refine (cell_load s v _ ((SameHeap.drewN _ _).cell (S1.out.cell (IsCell.far CS.out N1.out.symm _)))).mono ?_
  rintro e w' ⟨rfl, rfl⟩
  have CT1 := Lib.hid (S1.out.cell (IsCell.far CT.out N2.out.symm (.int .i64 ((k : Int) + 1))))
  go_wp2_with fail
  go_region_held3 (fun w' => w'.cell? ⟨p, 3, none⟩ = some (.slice (some ⟨g, 0, none⟩) 64 c) ∧ w'.cell? ⟨g, k * 2, none⟩ = some (.pointer (some ⟨t, 0, none⟩)))
    (first | go_keep | exact keep_storeK P1.out CT1.out (SameHeap.drewN _ _) hw2)
    (first | (go_at_call 15; refine (HX.out _ ?_).mono ?_; exact R3.out; rintro e w' ⟨rfl, n2, rfl⟩) | (go_at_call 17; refine (cell_store t _ _ _ ((SameHeap.drewN _ _).cell CT1.out)).mono ?_; rintro e w2 ⟨rfl, hw2⟩))
  rw [show IntKind.i64.wrap ((k : Int) + 64) = k + 64 from by unfold IntKind.wrap; simp [IntKind.signed, IntKind.bits]; omega] at hw2
  have S2 := Lib.hid (show SameHeap ((w.setCell ⟨o, 0, none⟩ (.int .i64 ((k : Int) + 1))).setCell ⟨t, 0, none⟩ (.int .i64 ((k : Int) + 64))) w2 from hw2 ▸ ((S1.out.trans (SameHeap.drewN _ _)).set _ _))
  have P2 := Lib.hid (((HP.out.set CO.out (.int .i64 ((k : Int) + 1))).set (IsCell.far CT.out N2.out.symm (.int .i64 ((k : Int) + 1))) (.int .i64 ((k : Int) + 64))).same S2.out)
  clear hw2 r3 y0 y1
  have x2 := P2.out.1.cell 2
  simp at x2
  go_wp2_with fail
  refine (cell_add b bx 1 _ (S2.out.cell (IsCell.far (IsCell.far CB.out N3.out.symm _) N6.out.symm _))).mono ?_
  rintro e w4 ⟨rfl, hw4⟩
  have S4 := Lib.hid (show SameHeap (recvK w o b t k bx) w4 from hw4 ▸ S2.out.set _ _)
  clear hw4
  go_wp2
  go_ret2
  exact ⟨rfl, S4.out⟩
set_option maxHeartbeats 1000000 in
/-- Nothing there: k were sent, k received. -/
theorem none_k (p i o b g c k t s : Nat) (hk : k < 64) (w : World) (h : PipeK w p i o b g c k t s) (co : IsCell w o k) (ct : IsCell w t k) (ci : IsCell w i (2 * (k : Int))) :
    Calls Try.prog 31 #[.pointer (some ⟨p, 0, none⟩), .pointer none] w fun e w' => e = .returned (.tuple #[.int .i64 0, .int .i8 2]) ∧ SameHeap w w' := by
  have CO := Lib.hid co
  have CT := Lib.hid ct
  have CI := Lib.hid ci
  obtain ⟨hp, cc, hg, g0, g1⟩ := h
  have p0 := hp.cell 0
  have p1 := hp.cell 1
  have p3 := hp.cell 3
  have q0 := (hg.cell _).trans g0
  simp at p0 p1 p3
  have HA := Lib.hid p3
  have H0 := Lib.hid p0
  have HX : Hid (∀ w : World, w.cell? ⟨p, 3, none⟩ = some (.slice (some ⟨g, 0, none⟩) 64 c) → _) := Lib.hid (fun w => at_n p g c k hk w)
  have e1 : wrap64 ((k : Int) + 1) = k + 1 := by unfold wrap64; omega
  have e2 : wrap64 ((k : Int) - (k + 1)) = -1 := by unfold wrap64; omega
  have e3 : wrap64 (2 * (k : Int) + 1) = 2 * k + 1 := by unfold wrap64; omega
  have e4 : (2 * (k : Int) == 2 * (k : Int) + 1) = false := by rw [beq_eq_false_iff_ne]; omega
  clear hg hp co ct ci g0 g1
  go_enter Try.func31, Try.ntmps31
  go_wp2_with (first | (go_at_call 13; refine (pnone_no p i _ H0.out).mono ?_; rintro e w' ⟨rfl, rfl⟩))
  refine wp_loop_rounds 1 ?_
  rw [rounds_succ]
  go_wp2_with fail
  refine (cell_load o k _ CO.out).mono ?_
  rintro e w' ⟨rfl, rfl⟩
  go_wp2_with fail
  refine (HX.out _ HA.out).mono ?_
  rintro e w' ⟨rfl, n, rfl⟩
  go_wp2_with fail
  refine (cell_load t k _ ((SameHeap.drewN _ _).cell CT.out)).mono ?_
  rintro e w' ⟨rfl, rfl⟩
  go_wp2_with fail
  refine (cell_load i (2 * k) _ ((SameHeap.drewN _ _).cell CI.out)).mono ?_
  rintro e w' ⟨rfl, rfl⟩
  go_wp2
  go_ret2
  exact ⟨rfl, SameHeap.drewN _ _⟩
end Go.Proofs.Ytdbllffkpkkggaa
