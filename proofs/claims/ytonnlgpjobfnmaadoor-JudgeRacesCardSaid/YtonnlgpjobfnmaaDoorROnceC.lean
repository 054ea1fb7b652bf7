/- ref26.before, ref26.Once: what they answer. Conditions: a log of 2048 entries at most. -/
import Derived.Test.YtonnlgpjobfnmaaDoorROnceB
import Derived.Test.YtonnlgpjobfnmaaDoorRLinK
namespace Go.Proofs.YtonnlgpjobfnmaaDoor
open Go.RowKit
set_option maxRecDepth 100000
theorem bef_hit {L : List Acc} {k j : Nat} {y v : Int} (hj : j < k) (hn : ∀ a, a < j → mkB L y v a = false) (h : mkB L y v j = true) : befN L k y v = some j := by
  unfold befN
  rw [List.find?_range_eq_some]
  exact ⟨h, by simpa using hj, fun a ha => by rw [hn a ha]; rfl⟩
theorem bef_miss {L : List Acc} {k : Nat} {y v : Int} (hn : ∀ a, a < k → mkB L y v a = false) : befN L k y v = none := by
  unfold befN
  rw [List.find?_eq_none]
  intro a ha
  rw [hn a (by simpa using ha)]
  simp
def BefRel (L : List Acc) (k : Nat) (y v : Int) (w0 : World) (i : Value) (wr : World) : Prop := ∃ j : Nat, j ≤ k ∧ i = .int .i64 j ∧ wr = w0 ∧ ∀ a, a < j → mkB L y v a = false
theorem mk_more {L : List Acc} {j : Nat} {y v : Int} (h : ∀ a, a < j → mkB L y v a = false) (hj : mkB L y v j = false) : ∀ a, a < j + 1 → mkB L y v a = false := fun a ha => by
  by_cases e : a = j
  · subst e; exact hj
  · exact h a (by omega)
theorem ok_more {L : List Acc} {j : Nat} (h : ∀ a, a < j → errB L a = false) (hj : errB L j = false) : ∀ a, a < j + 1 → errB L a = false := fun a ha => by
  by_cases e : a = j
  · subst e; exact hj
  · exact h a (by omega)
set_option maxHeartbeats 1600000 in
theorem rbefore_any (b : Option Addr) (cap B : Nat) (L : List Acc) (k : Nat) (hk : k ≤ L.length) (hl : L.length ≤ 2048) (y v : Int) (w : World) (h : LogAt w B b L) :
    Calls Tryd.prog 70 #[.slice b L.length cap, .int .i64 k, .int .i64 y, .int .i64 v] w fun e w' => e = .returned (.int .i64 (befV (befN L k y v))) ∧ w' = w := by
  have H := Lib.hid h
  clear h
  go_enter Tryd.func70, Tryd.ntmps70
  go_wp2_with fail
  go_loopw [9] (fun i wr => BefRel L k y v w i wr) (fun i _ => k - (intOf i).toNat)
  case atStart => exact ⟨0, Nat.zero_le _, rfl, rfl, fun a ha => by omega⟩
  case round =>
    obtain ⟨j, hj, rfl, rfl, hno⟩ := hrel
    have HNO := Lib.hid hno
    clear hno
    by_cases hlt : j < k
    · have hx : decide (j < k) = true := by simpa using hlt
      have hxi : decide ((j : Int) < (k : Int)) = true := by simp; omega
      have hjl : j < L.length := by omega
      obtain ⟨x, hxk⟩ : ∃ x, L[j]? = some x := ⟨L[j], List.getElem?_eq_getElem hjl⟩
      have hax : accAt L j = x := by unfold accAt; rw [hxk]; rfl
      obtain ⟨g, off, rfl, hg, p0, p1, p2, p3, p4, p5, p6, p7⟩ := H.out.at_ j x hxk
      have HMK : Hid (mkB L y v j = (decide (x.op = 8) && decide (x.arg = y) && decide (x.new = v))) := Lib.hid (by unfold mkB; rw [hax])
      clear hxk hax p0 p2 p5 p6 p7
      by_cases h8 : x.op = 8
      · by_cases ha : x.arg = y
        · by_cases hv : x.new = v
          · have HT : Hid (mkB L y v j = true) := Lib.hid (by rw [HMK.out]; simp [h8, ha, hv])
            rw [h8] at p1
            rw [ha] at p3
            rw [hv] at p4
            clear h8 ha hv
            go_wp2_with fail
            refine bodyPost_ret (results_tmp rfl _ _ _) rfl ⟨?_, rfl⟩
            rw [bef_hit hlt HNO.out HT.out]
            rfl
          · have HT : Hid (mkB L y v j = false) := Lib.hid (by rw [HMK.out]; simp [hv])
            have n1 : (x.new == v) = false := by simpa using hv
            have n2 : decide (x.new = v) = false := by simpa using hv
            rw [h8] at p1
            rw [ha] at p3
            clear h8 ha hv
            go_wp2_with fail
            exact ⟨⟨j + 1, by omega, by rw [Int.natCast_add]; rfl, rfl, mk_more HNO.out HT.out⟩, by simp [intOf]; omega⟩
        · have HT : Hid (mkB L y v j = false) := Lib.hid (by rw [HMK.out]; simp [ha])
          have n1 : (x.arg == y) = false := by simpa using ha
          have n2 : decide (x.arg = y) = false := by simpa using ha
          rw [h8] at p1
          clear h8 ha
          go_wp2_with fail
          exact ⟨⟨j + 1, by omega, by rw [Int.natCast_add]; rfl, rfl, mk_more HNO.out HT.out⟩, by simp [intOf]; omega⟩
      · have HT : Hid (mkB L y v j = false) := Lib.hid (by rw [HMK.out]; simp [h8])
        have n1 : (x.op == 8) = false := by simpa using h8
        have n2 : decide (x.op = 8) = false := by simpa using h8
        clear h8
        go_wp2_with fail
        exact ⟨⟨j + 1, by omega, by rw [Int.natCast_add]; rfl, rfl, mk_more HNO.out HT.out⟩, by simp [intOf]; omega⟩
    · obtain rfl : j = k := by omega
      have hx : decide (j < j) = false := by simp
      have hxi : decide ((j : Int) < (j : Int)) = false := by simp
      go_wp2_with fail
      refine bodyPost_ret (results_tmp rfl _ _ _) rfl ⟨?_, rfl⟩
      rw [bef_miss HNO.out]
      rfl
def ROnceRel (L : List Acc) (w0 : World) (i : Value) (wr : World) : Prop := ∃ k : Nat, k ≤ L.length ∧ i = .int .i64 k ∧ Below w0.heap.size w0 wr ∧ ∀ j, j < k → errB L j = false
set_option maxHeartbeats 4000000 in
theorem ronce_yes (b : Option Addr) (cap : Nat) (L : List Acc) (w : World) (h : LogAt w w.heap.size b L) (hl : L.length ≤ 2048) (hm : mayLog L = true) :
    Calls Tryd.prog 37 #[.slice b L.length cap] w (OncePost L w) := by
  have H := Lib.hid h
  have HM := Lib.hid hm
  clear h hm
  go_enter Tryd.func37, Tryd.ntmps37
  go_upto_region 4 with (go_at_call 66; refine (rmay_any b cap L _ H.out).mono ?_; rintro e w1 ⟨he, hb1⟩; rw [HM.out] at he; subst he; have HB1 := Lib.hid hb1; clear hb1)
  go_loopw [4] (fun i wr => ROnceRel L w i wr) (fun i _ => L.length - (intOf i).toNat)
  case atStart => exact ⟨0, Nat.zero_le _, rfl, HB1.out, fun j hj => by omega⟩
  case round =>
    obtain ⟨k, hk, rfl, hbe, hno⟩ := hrel
    have HBE := Lib.hid hbe
    have HNO := Lib.hid hno
    clear hbe hno
    by_cases hlt : k < L.length
    · have hx : decide (k < L.length) = true := by simpa using hlt
      have hxi : decide ((k : Int) < (L.length : Int)) = true := by simp; omega
      obtain ⟨x, hxk⟩ : ∃ x, L[k]? = some x := ⟨L[k], List.getElem?_eq_getElem hlt⟩
      have hax : accAt L k = x := by unfold accAt; rw [hxk]; rfl
      have HLG := Lib.hid (H.out.of HBE.out)
      obtain ⟨g, off, rfl, hg, p0, p1, p2, p3, p4, p5, p6, p7⟩ := HLG.out.at_ k x hxk
      have HBF := Lib.hid fun v => rbefore_any (some ⟨g, off, none⟩) cap _ L k hk hl x.arg v wr HLG.out
      have HBFN := Lib.hid fun n v => rbefore_any (some ⟨g, off, none⟩) cap _ L k hk hl x.arg v (wr.drewN n) (H.out.of (below_drewN HBE.out n))
      have HAX := Lib.hid hax
      clear hxk hax p2 p5 p6 p7
      by_cases h8 : x.op = 8
      · rw [h8] at p1
        have H8 := Lib.hid h8
        clear h8
        by_cases hn : x.new = 2
        · rw [hn] at p4
          have HN := Lib.hid hn
          clear hn
          cases e2 : befN L k x.arg 2 with
          | some j =>
            have HE : Hid (errB L k = true) := Lib.hid (by unfold errB; rw [HAX.out, H8.out, HN.out, e2]; rfl)
            have HB2 := Lib.hid (HBF.out 2)
            rw [e2] at HB2
            unfold befV at HB2
            clear e2
            go_wp2_with (go_at_call 70; refine HB2.out.mono ?_; rintro e wb ⟨rfl, rfl⟩)
            refine bodyPost_ret (v := .tuple #[.int .i64 32, .int .i64 (k : Nat)]) (by simp [results, Tryd.results37, go_sem]) rfl ⟨?_, HBE.out⟩
            rw [once_hit HM.out hlt HNO.out HE.out]
          | none =>
            have HB2 := Lib.hid (HBF.out 2)
            rw [e2] at HB2
            unfold befV at HB2
            cases e4 : befN L k x.arg 4 with
            | some j =>
              have HE : Hid (errB L k = true) := Lib.hid (by unfold errB; rw [HAX.out, H8.out, HN.out, e2, e4]; rfl)
              have HB4 := Lib.hid (HBF.out 4)
              rw [e4] at HB4
              unfold befV at HB4
              clear e2 e4
              go_upto_region 8 with (go_at_call 70; refine HB2.out.mono ?_; rintro e wb ⟨rfl, rfl⟩)
              go_wp2_with (go_at_call 70; refine HB4.out.mono ?_; rintro e wb ⟨rfl, rfl⟩)
              refine bodyPost_ret (v := .tuple #[.int .i64 32, .int .i64 (k : Nat)]) (by simp [results, Tryd.results37, go_sem]) rfl ⟨?_, HBE.out⟩
              rw [once_hit HM.out hlt HNO.out HE.out]
            | none =>
              have HE : Hid (errB L k = false) := Lib.hid (by unfold errB; rw [HAX.out, H8.out, HN.out, e2, e4]; rfl)
              have HB4 := Lib.hid (HBF.out 4)
              rw [e4] at HB4
              unfold befV at HB4
              clear e2 e4
              go_upto_region 8 with (go_at_call 70; refine HB2.out.mono ?_; rintro e wb ⟨rfl, rfl⟩)
              go_wp2_with (go_at_call 70; refine HB4.out.mono ?_; rintro e wb ⟨rfl, rfl⟩)
              exact ⟨⟨k + 1, hlt, by rw [Int.natCast_add]; rfl, HBE.out, ok_more HNO.out HE.out⟩, by simp [intOf]; omega⟩
        · by_cases hn' : x.new = 4
          · have hn := hn'
            clear hn'
            rw [hn] at p4
            have HN := Lib.hid hn
            clear hn
            cases e2 : befN L k x.arg 2 with
            | some j =>
              have HE : Hid (errB L k = true) := Lib.hid (by unfold errB; rw [HAX.out, H8.out, HN.out, e2]; rfl)
              have HB2 := Lib.hid (HBF.out 2)
              rw [e2] at HB2
              unfold befV at HB2
              clear e2
              go_wp2_with (go_at_call 70; refine HB2.out.mono ?_; rintro e wb ⟨rfl, rfl⟩)
              refine bodyPost_ret (v := .tuple #[.int .i64 32, .int .i64 (k : Nat)]) (by simp [results, Tryd.results37, go_sem]) rfl ⟨?_, HBE.out⟩
              rw [once_hit HM.out hlt HNO.out HE.out]
            | none =>
              have HB2 := Lib.hid (HBF.out 2)
              rw [e2] at HB2
              unfold befV at HB2
              cases e4 : befN L k x.arg 4 with
              | some j =>
                have HE : Hid (errB L k = true) := Lib.hid (by unfold errB; rw [HAX.out, H8.out, HN.out, e2, e4]; rfl)
                have HB4 := Lib.hid (HBF.out 4)
                rw [e4] at HB4
                unfold befV at HB4
                clear e2 e4
                go_upto_region 8 with (go_at_call 70; refine HB2.out.mono ?_; rintro e wb ⟨rfl, rfl⟩)
                go_wp2_with (go_at_call 70; refine HB4.out.mono ?_; rintro e wb ⟨rfl, rfl⟩)
                refine bodyPost_ret (v := .tuple #[.int .i64 32, .int .i64 (k : Nat)]) (by simp [results, Tryd.results37, go_sem]) rfl ⟨?_, HBE.out⟩
                rw [once_hit HM.out hlt HNO.out HE.out]
              | none =>
                have HE : Hid (errB L k = false) := Lib.hid (by unfold errB; rw [HAX.out, H8.out, HN.out, e2, e4]; rfl)
                have HB4 := Lib.hid (HBF.out 4)
                rw [e4] at HB4
                unfold befV at HB4
                clear e2 e4
                go_upto_region 8 with (go_at_call 70; refine HB2.out.mono ?_; rintro e wb ⟨rfl, rfl⟩)
                go_wp2_with (go_at_call 70; refine HB4.out.mono ?_; rintro e wb ⟨rfl, rfl⟩)
                exact ⟨⟨k + 1, hlt, by rw [Int.natCast_add]; rfl, HBE.out, ok_more HNO.out HE.out⟩, by simp [intOf]; omega⟩
          · by_cases hn3 : x.new = 3
            · have hn := hn3
              clear hn' hn3
              rw [hn] at p4
              have HN := Lib.hid hn
              clear hn
              cases e2 : befN L k x.arg 2 with
              | none =>
                have HE : Hid (errB L k = true) := Lib.hid (by unfold errB; rw [HAX.out, H8.out, HN.out, e2]; rfl)
                have HB2 := Lib.hid (HBF.out 2)
                rw [e2] at HB2
                unfold befV at HB2
                clear e2
                go_upto_region 8 with (go_at_call 70; refine HB2.out.mono ?_; rintro e wb ⟨rfl, rfl⟩)
                go_upto_region 14 with fail
                refine wp_region_quiet_lit (by kernel_rfl) (by kernel_rfl) ?_
                refine wpQuiet_cut 2 _ _ (fun K hK => ?_)
                simp only [List.take_succ_cons, List.take_zero]
                iterate 2 go_big_quiet_step (fail)
                refine wpQuiet_nil ?_
                refine hK _ ?_
                clear hK K
                refine wpQuiet_strike 11 rfl rfl _ rfl (by kernel_rfl) ?_
                simp only [List.take_succ_cons, List.take_zero, List.drop_succ_cons, List.drop_zero, skipsA]
                go_simp
                refine wpQuiet_cut 1 _ _ (fun K hK => ?_)
                simp only [List.take_succ_cons, List.take_zero]
                iterate 1 go_big_quiet_step (fail)
                refine wpQuiet_nil ?_
                refine hK _ ?_
                clear hK K
                refine wpQuiet_strike 9 rfl rfl _ rfl (by kernel_rfl) ?_
                simp only [List.take_succ_cons, List.take_zero, List.drop_succ_cons, List.drop_zero, skipsA]
                go_simp
                refine wpQuiet_cut 1 _ _ (fun K hK => ?_)
                simp only [List.take_succ_cons, List.take_zero]
                iterate 1 go_big_quiet_step (fail)
                refine wpQuiet_nil ?_
                refine hK _ ?_
                clear hK K
                refine wpQuiet_nil ?_
                first
                  | (rintro _ ⟨nq, rfl⟩)
                  | intro nq
                go_wp2_with fail
                refine bodyPost_ret (v := .tuple #[.int .i64 32, .int .i64 (k : Nat)]) (by simp [results, Tryd.results37, go_sem]) rfl ⟨?_, below_drewN HBE.out _⟩
                rw [once_hit HM.out hlt HNO.out HE.out]
              | some j =>
                have hj := (befN_some e2).1
                have hjl : j < L.length := by omega
                have z0 : decide ((j : Int) < 0) = false := by simp
                have HB2 := Lib.hid (HBF.out 2)
                rw [e2] at HB2
                unfold befV at HB2
                obtain ⟨y, hyj⟩ : ∃ y, L[j]? = some y := ⟨L[j], List.getElem?_eq_getElem hjl⟩
                have hay : accAt L j = y := by unfold accAt; rw [hyj]; rfl
                obtain ⟨g2, off2, ee, _, q0, q1, q2, q3, q4, q5, q6, q7⟩ := (HLG.out).at_ j y hyj
                injection ee with ee
                injection ee with e3' e4'
                subst e3' e4'
                clear hyj q1 q2 q3 q4 q5 q6 q7
                by_cases hth : y.th = x.th
                · have n1 : (y.th == x.th) = true := by simpa using hth
                  have n2 : (y.th != x.th) = false := by simp [hth]
                  have n3 : decide (y.th = x.th) = true := by simpa using hth
                  cases e3 : befN L k x.arg 3 with
                  | some i3 =>
                    have HE : Hid (errB L k = true) := Lib.hid (by unfold errB; rw [HAX.out, H8.out, HN.out, e2, e3]; simp)
                    have HB3 := Lib.hid fun n => HBFN.out n 3
                    rw [e3] at HB3
                    unfold befV at HB3
                    clear e2 e3 hth hay
                    go_upto_region 8 with (go_at_call 70; refine HB2.out.mono ?_; rintro e wb ⟨rfl, rfl⟩)
                    go_upto_region 14 with fail
                    go_quiet ((go_at_call 70; exact Calls.quiet_of_same (HB3.out _)))
                    go_wp2_with fail
                    refine bodyPost_ret (v := .tuple #[.int .i64 32, .int .i64 (k : Nat)]) (by simp [results, Tryd.results37, go_sem]) rfl ⟨?_, below_drewN HBE.out _⟩
                    rw [once_hit HM.out hlt HNO.out HE.out]
                  | none =>
                    have HE : Hid (errB L k = false) := Lib.hid (by unfold errB; rw [HAX.out, H8.out, HN.out, e2, e3]; simp [hay, hth])
                    have HB3 := Lib.hid fun n => HBFN.out n 3
                    rw [e3] at HB3
                    unfold befV at HB3
                    clear e2 e3 hth hay
                    go_upto_region 8 with (go_at_call 70; refine HB2.out.mono ?_; rintro e wb ⟨rfl, rfl⟩)
                    go_upto_region 14 with fail
                    go_quiet ((go_at_call 70; exact Calls.quiet_of_same (HB3.out _)))
                    go_wp2_with fail
                    exact ⟨⟨k + 1, hlt, by rw [Int.natCast_add]; rfl, below_drewN HBE.out _, ok_more HNO.out HE.out⟩, by simp [intOf]; omega⟩
                · have n1 : (y.th == x.th) = false := by simpa using hth
                  have n2 : (y.th != x.th) = true := by simpa using hth
                  have n3 : decide (y.th = x.th) = false := by simpa using hth
                  have HE : Hid (errB L k = true) := Lib.hid (by unfold errB; rw [HAX.out, H8.out, HN.out, e2]; simp [hay, hth])
                  clear e2 hth hay
                  go_upto_region 8 with (go_at_call 70; refine HB2.out.mono ?_; rintro e wb ⟨rfl, rfl⟩)
                  go_upto_region 14 with fail
                  refine wp_region_quiet_lit (by kernel_rfl) (by kernel_rfl) ?_
                  refine wpQuiet_cut 15 _ _ (fun K hK => ?_)
                  simp only [List.take_succ_cons, List.take_zero]
                  iterate 15 go_big_quiet_step (fail)
                  refine wpQuiet_nil ?_
                  refine hK _ ?_
                  clear hK K
                  refine wpQuiet_strike 9 rfl rfl _ rfl (by kernel_rfl) ?_
                  simp only [List.take_succ_cons, List.take_zero, List.drop_succ_cons, List.drop_zero, skipsA]
                  go_simp
                  refine wpQuiet_cut 1 _ _ (fun K hK => ?_)
                  simp only [List.take_succ_cons, List.take_zero]
                  iterate 1 go_big_quiet_step (fail)
                  refine wpQuiet_nil ?_
                  refine hK _ ?_
                  clear hK K
                  refine wpQuiet_nil ?_
                  first
                    | (rintro _ ⟨nq, rfl⟩)
                    | intro nq
                  go_wp2_with fail
                  refine bodyPost_ret (v := .tuple #[.int .i64 32, .int .i64 (k : Nat)]) (by simp [results, Tryd.results37, go_sem]) rfl ⟨?_, below_drewN HBE.out _⟩
                  rw [once_hit HM.out hlt HNO.out HE.out]
            · have d2 : decide (x.new = 2) = false := by simpa using hn
              have d3 : decide (x.new = 3) = false := by simpa using hn3
              have d4 : decide (x.new = 4) = false := by simpa using hn'
              have HE := Lib.hid (errB_other (L := L) (k := k) (by rw [HAX.out]; rintro ⟨_, h | h | h⟩ <;> simp_all))
              have e2 : (x.new == 2) = false := by simpa using hn
              have e3 : (x.new == 3) = false := by simpa using hn3
              have e4 : (x.new == 4) = false := by simpa using hn'
              have HB2 := Lib.hid (HBF.out 2)
              obtain ⟨bv, hbv⟩ : ∃ bv, bv = befV (befN L k x.arg 2) := ⟨_, rfl⟩
              rw [← hbv] at HB2
              clear hn hn' hn3 hbv
              go_upto_region 8 with (go_at_call 70; refine HB2.out.mono ?_; rintro e wb ⟨rfl, rfl⟩)
              go_wp2_with fail
              exact ⟨⟨k + 1, hlt, by rw [Int.natCast_add]; rfl, HBE.out, ok_more HNO.out HE.out⟩, by simp [intOf]; omega⟩
      · have n1 : (x.op == 8) = false := by simpa using h8
        have n2 : decide (x.op = 8) = false := by simpa using h8
        have n3 : (x.op != 8) = true := by simp [h8]
        have HE := Lib.hid (errB_other (L := L) (k := k) (by rw [HAX.out]; exact fun h => h8 h.1))
        clear h8
        go_wp2_with fail
        exact ⟨⟨k + 1, hlt, by rw [Int.natCast_add]; rfl, HBE.out, ok_more HNO.out HE.out⟩, by simp [intOf]; omega⟩
    · obtain rfl : k = L.length := by omega
      have hx : decide (L.length < L.length) = false := by simp
      have hxi : decide ((L.length : Int) < (L.length : Int)) = false := by simp
      go_wp2_with fail
      refine bodyPost_ret (v := .tuple #[.int .i64 0, .int .i64 0]) (by simp [results, Tryd.results37, go_sem]) rfl ⟨?_, HBE.out⟩
      rw [once_miss HM.out HNO.out]
set_option maxHeartbeats 1600000 in
theorem ronce_any (b : Option Addr) (cap : Nat) (L : List Acc) (w : World) (h : LogAt w w.heap.size b L) (hl : L.length ≤ 2048) :
    Calls Tryd.prog 37 #[.slice b L.length cap] w (OncePost L w) := by
  cases hm : mayLog L with
  | false =>
    have H := Lib.hid h
    have HM := Lib.hid hm
    clear h hm
    go_enter Tryd.func37, Tryd.ntmps37
    go_wp2_with (go_at_call 66; refine (rmay_any b cap L _ H.out).mono ?_; rintro e w1 ⟨he, hb1⟩; rw [HM.out] at he; subst he; have HB1 := Lib.hid hb1; clear hb1)
    refine bodyPost_ret (v := .tuple #[.int .i64 31, .int .i64 0]) (by simp [results, Tryd.results37, go_sem]) rfl ⟨?_, HB1.out⟩
    rw [once_no HM.out]
  | true => exact ronce_yes b cap L w h hl hm
end Go.Proofs.YtonnlgpjobfnmaaDoor
