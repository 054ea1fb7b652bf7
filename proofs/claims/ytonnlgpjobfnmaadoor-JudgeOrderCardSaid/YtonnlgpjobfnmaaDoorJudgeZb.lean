/- JudgeOrder's walk at a log of at most 40 entries. Conditions: what the slice's cells hold; Go's table of the powers of ten. -/
import Derived.Test.YtonnlgpjobfnmaaDoorJudgeZh
namespace Go.Proofs.YtonnlgpjobfnmaaDoor
open Go.RowKit
set_option maxRecDepth 100000
set_option maxHeartbeats 20000000 in
theorem order_short (b : Option Addr) (cap : Nat) (L : List Acc) (hcap : L.length ≤ cap) (hsz : L.length ≤ 9223372036854775807) (h40 : ¬ 40 < L.length) (w : World) (h : LogAt w w.heap.size b L) (hT : Tens w) :
    Calls Tryd.prog 5 #[.slice b L.length cap] w (OrderPost w) := by
  have H := Lib.hid h
  have HT := Lib.hid hT
  clear h hT
  go_enter Tryd.func5, Tryd.ntmps5
  have hx : decide (40 < L.length) = false := by simpa using h40
  go_upto_region 5 with (fail)
  obtain ⟨W0, hW0⟩ : ∃ W0, W0 = w.alloc (.cells Tryd.zeroCells66 66) := ⟨_, rfl⟩
  rw [← hW0]
  have IS0 : Hid (IsAt W0 w.heap.size L (fun i j => i < 0 ∧ j < L.length)) := Lib.hid (by rw [hW0]; exact isAt_new w L _ (fun i j h => by omega))
  have BW0 : Hid (Below w.heap.size w W0) := Lib.hid (by rw [hW0]; exact one_below' _)
  have HN : LenIs L L.length := by first | exact rfl | (unfold LenIs; rw [List.length_take]; omega)
  have HN40 : L.length ≤ 40 := by omega
  have HM : Hid (LogAt w w.heap.size b L) := Lib.hid (by first | exact H.out | exact H.out.take 40)
  have HCP : Hid (L.length ≤ cap) := Lib.hid (by omega)
  clear hW0 hx
  try clear hx2
  go_wp2_with fail
  go_loopw [5] (fun i wr => ORel L w.heap.size L.length w i wr) (fun i _ => L.length - (intOf i).toNat)
  case atStart => exact ⟨0, Nat.zero_le _, rfl, BW0.out, IS0.out, fun h => by omega⟩
  case round =>
    obtain ⟨a, ha, rfl, hbel, hI, hm0⟩ := hrel
    have HB := Lib.hid hbel
    have HI := Lib.hid hI
    have HM0 := Lib.hid hm0
    clear hbel hI hm0
    by_cases hlt : a < L.length
    · have hx : decide (a < L.length) = true := by simpa using hlt
      go_wp2_with fail
      clear hx
      go_loopw [6] (fun i wr => PRel L w.heap.size L.length a w i wr) (fun i _ => L.length - (intOf i).toNat)
      case atStart => exact ⟨0, Nat.zero_le _, rfl, HB.out, HI.out.mono (fun i j _ _ h => by omega), fun h => by omega⟩
      case round =>
        obtain ⟨d, hd, rfl, hbel, hI2, hm1⟩ := hrel
        rename World => wz
        have HBZ := Lib.hid hbel
        have HIZ := Lib.hid hI2
        have HM1 := Lib.hid hm1
        clear hbel hI2 hm1
        by_cases hld : d < L.length
        · have hx : decide (d < L.length) = true := by simpa using hld
          have HLZ : Hid (LogAt wz wz.heap.size b L) := Lib.hid ((HM.out.of HBZ.out).mono HBZ.out.size)
          by_cases hm : mayLog L = true
          · have HMM := Lib.hid hm
            clear hm
            go_upto_region 14 with (first
              | (go_at_call 24; go_must (refine (copy_n HN.eq HN40 b cap wz HLZ.out).mono ?_); rintro e w2 ⟨b2, cap2, rfl, hc2, hL2, hb2⟩; have HL2 := Lib.hid hL2; have HB2 := Lib.hid (HBZ.out.trans (hb2.mono HBZ.out.size)); have HI2 := Lib.hid (HIZ.out.below hb2); clear hc2 hL2 hb2)
              | (go_at_call 23; go_must (refine (ahead_n HN.eq HN40 b2 cap2 a d w2 HL2.out).mono ?_); rintro e w3 ⟨he, hb3⟩; rw [aheadAns_in HMM.out (by rw [HN.eq]; exact hlt) (by rw [HN.eq]; exact hld)] at he; obtain ⟨x, hxv⟩ : ∃ x, x = aheadB L a d := ⟨_, rfl⟩; rw [← hxv] at he; subst he; have HXV := Lib.hid hxv; have HB3 := Lib.hid (HB2.out.trans (hb3.mono HB2.out.size)); have HI3 := Lib.hid (HI2.out.below hb3); clear hb3 hxv))
            obtain ⟨cs, hcs, hall⟩ := HI3.out
            obtain ⟨v0, hv0, _⟩ := hall a d (by omega) (by omega)
            have c0 : w3.cell? ⟨w.heap.size, a * 40 + d, none⟩ = some (.bool v0) := (hcs.cell _).trans hv0
            have f0 := hcs.frozen (a * 40 + d)
            clear hcs hall hv0
            have ha40 : a < 40 := by omega
            have hd40 : d < 40 := by omega
            go_upto_region 15 with (fail)
            obtain ⟨w4, hw4⟩ : ∃ w4, w4 = w3.setCell ⟨w.heap.size, a * 40 + d, none⟩ (.bool x) := ⟨_, rfl⟩
            rw [← hw4]
            have HI4 : Hid (IsAt w4 w.heap.size L (fun i j => (i < a ∧ j < L.length) ∨ (i = a ∧ j < d + 1))) := Lib.hid (by rw [hw4, HXV.out]; exact HI3.out.set ha40 hd40 (fun i j _ _ h => by omega))
            have HB4 : Hid (Below w.heap.size w w4) := Lib.hid (by rw [hw4]; exact HB3.out.setCell (Nat.le_refl _) _)
            clear hw4 c0 f0
            obtain ⟨xa, hxa⟩ : ∃ xa, L[a]? = some xa := ⟨L[a]'(by rw [HN.eq]; exact hlt), List.getElem?_eq_getElem (by rw [HN.eq]; exact hlt)⟩
            obtain ⟨xd, hxd⟩ : ∃ xd, L[d]? = some xd := ⟨L[d]'(by rw [HN.eq]; exact hld), List.getElem?_eq_getElem (by rw [HN.eq]; exact hld)⟩
            obtain ⟨g, off, hg, _, hA⟩ := (HM.out.of HB4.out).at_ a xa hxa
            obtain ⟨g', off', hg', _, hD⟩ := (HM.out.of HB4.out).at_ d xd hxd
            rw [hg] at hg'
            injection hg' with hg'
            injection hg' with e1 e2
            subst e1 e2 hg
            obtain ⟨p0, p1, p2, _⟩ := hA
            obtain ⟨q0, q1, q2, _⟩ := hD
            have HXA := Lib.hid hxa
            have HXD := Lib.hid hxd
            have HTA := Lib.hid (thAt_op hxa HMM.out)
            have HTD := Lib.hid (thAt_op hxd HMM.out)
            clear hxa hxd
            have HEND : Hid (∀ w5 : World, w5.heap = w4.heap → w5.os = w4.os → w5.tape = w4.tape → w5.output = w4.output → PRel L w.heap.size L.length a w (.int .i64 ((d : Int) + 1)) w5) := Lib.hid (fun w5 h1 h2 h3 h4 => ⟨d + 1, by omega, by rw [Int.natCast_add]; rfl, same_below HB4.out h1 h2 h3 h4, same_isAt HI4.out h1, fun _ => HMM.out⟩)
            have HMS : Hid (L.length - (intOf (.int .i64 ((d : Int) + 1))).toNat < L.length - (intOf (.int .i64 (d : Int))).toNat) := Lib.hid (by simp [intOf]; omega)
            have HLA : Hid (a < L.length ∧ d < L.length) := Lib.hid (by rw [HN.eq]; exact ⟨hlt, hld⟩)
            have HNX : Hid (∀ b2 : Bool, b2 = aheadB L a d → b2 = false → a + 1 = d → xa.op = 2 → xd.op = 1 → xa.cell = xd.cell → False) := Lib.hid (fun b2 hb2 h0 h1 h2 h3 h4 => by
              have := ahead_next HXA.out (by rw [h1]; exact HXD.out) h2 h3 h4
              rw [h1, ← hb2, h0] at this
              cases this)
            cases x with
            | true =>
              have hab : a < d := ahead_lt HLA.out.1 HLA.out.2 HXV.out.symm
              have y1 : decide (d ≤ a) = false := by simpa using hab
              have y2 : decide (a < d) = true := by simpa using hab
              by_cases ht : xa.th = xd.th
              · have y3 : (xa.th == xd.th) = true := by simpa using ht
                clear ht
                go_quiet (fail)
                go_upto_region 17 with (fail)
                by_cases h1 : a + 1 = d
                · have z1 : (((a : Int) + 1) == (d : Int)) = true := by simp; omega
                  by_cases h2 : xa.op = 2
                  · have z2 : (xa.op == 2) = true := by simpa using h2
                    by_cases h3 : xd.op = 1
                    · have z3 : (xd.op == 1) = true := by simpa using h3
                      by_cases h4 : xa.cell = xd.cell
                      · first
                          | exact absurd (HNX.out _ HXV.out rfl h1 h2 h3 h4) (fun h => h)
                          | (have z4 : (xa.cell == xd.cell) = true := by simpa using h4
                             clear h1 h2 h3 h4
                             have HWR : IntKind.i64.wrap ((a : Int) + 1) = (a : Int) + 1 := IntWalk.i64_in _ (by omega)
                             go_quiet (fail)
                             clear HWR
                             go_wp2_with fail
                             exact ⟨HEND.out _ rfl rfl rfl rfl, HMS.out⟩)
                      · have z4 : (xa.cell == xd.cell) = false := by simpa using h4
                        clear h1 h2 h3 h4
                        have HWR : IntKind.i64.wrap ((a : Int) + 1) = (a : Int) + 1 := IntWalk.i64_in _ (by omega)
                        go_quiet (fail)
                        clear HWR
                        go_wp2_with fail
                        exact ⟨HEND.out _ rfl rfl rfl rfl, HMS.out⟩
                    · have z3 : (xd.op == 1) = false := by simpa using h3
                      clear h1 h2 h3
                      have HWR : IntKind.i64.wrap ((a : Int) + 1) = (a : Int) + 1 := IntWalk.i64_in _ (by omega)
                      go_quiet (fail)
                      clear HWR
                      go_wp2_with fail
                      exact ⟨HEND.out _ rfl rfl rfl rfl, HMS.out⟩
                  · have z2 : (xa.op == 2) = false := by simpa using h2
                    clear h1 h2
                    have HWR : IntKind.i64.wrap ((a : Int) + 1) = (a : Int) + 1 := IntWalk.i64_in _ (by omega)
                    go_quiet (fail)
                    clear HWR
                    go_wp2_with fail
                    exact ⟨HEND.out _ rfl rfl rfl rfl, HMS.out⟩
                · have z1 : (((a : Int) + 1) == (d : Int)) = false := by simp; omega
                  clear h1
                  have HWR : IntKind.i64.wrap ((a : Int) + 1) = (a : Int) + 1 := IntWalk.i64_in _ (by omega)
                  go_quiet (fail)
                  clear HWR
                  go_wp2_with fail
                  exact ⟨HEND.out _ rfl rfl rfl rfl, HMS.out⟩
              · have y3 : (xa.th == xd.th) = false := by simpa using ht
                clear ht
                go_quiet (fail)
                go_upto_region 17 with (fail)
                by_cases h1 : a + 1 = d
                · have z1 : (((a : Int) + 1) == (d : Int)) = true := by simp; omega
                  by_cases h2 : xa.op = 2
                  · have z2 : (xa.op == 2) = true := by simpa using h2
                    by_cases h3 : xd.op = 1
                    · have z3 : (xd.op == 1) = true := by simpa using h3
                      by_cases h4 : xa.cell = xd.cell
                      · first
                          | exact absurd (HNX.out _ HXV.out rfl h1 h2 h3 h4) (fun h => h)
                          | (have z4 : (xa.cell == xd.cell) = true := by simpa using h4
                             clear h1 h2 h3 h4
                             have HWR : IntKind.i64.wrap ((a : Int) + 1) = (a : Int) + 1 := IntWalk.i64_in _ (by omega)
                             go_quiet (fail)
                             clear HWR
                             go_wp2_with fail
                             exact ⟨HEND.out _ rfl rfl rfl rfl, HMS.out⟩)
                      · have z4 : (xa.cell == xd.cell) = false := by simpa using h4
                        clear h1 h2 h3 h4
                        have HWR : IntKind.i64.wrap ((a : Int) + 1) = (a : Int) + 1 := IntWalk.i64_in _ (by omega)
                        go_quiet (fail)
                        clear HWR
                        go_wp2_with fail
                        exact ⟨HEND.out _ rfl rfl rfl rfl, HMS.out⟩
                    · have z3 : (xd.op == 1) = false := by simpa using h3
                      clear h1 h2 h3
                      have HWR : IntKind.i64.wrap ((a : Int) + 1) = (a : Int) + 1 := IntWalk.i64_in _ (by omega)
                      go_quiet (fail)
                      clear HWR
                      go_wp2_with fail
                      exact ⟨HEND.out _ rfl rfl rfl rfl, HMS.out⟩
                  · have z2 : (xa.op == 2) = false := by simpa using h2
                    clear h1 h2
                    have HWR : IntKind.i64.wrap ((a : Int) + 1) = (a : Int) + 1 := IntWalk.i64_in _ (by omega)
                    go_quiet (fail)
                    clear HWR
                    go_wp2_with fail
                    exact ⟨HEND.out _ rfl rfl rfl rfl, HMS.out⟩
                · have z1 : (((a : Int) + 1) == (d : Int)) = false := by simp; omega
                  clear h1
                  have HWR : IntKind.i64.wrap ((a : Int) + 1) = (a : Int) + 1 := IntWalk.i64_in _ (by omega)
                  go_quiet (fail)
                  clear HWR
                  go_wp2_with fail
                  exact ⟨HEND.out _ rfl rfl rfl rfl, HMS.out⟩
            | false =>
              by_cases hab : a < d
              · have y2 : decide (a < d) = true := by simpa using hab
                have y3 : (xa.th == xd.th) = false := by
                  simp only [beq_eq_false_iff_ne, ne_eq]
                  intro ht
                  have h1 := HTA.out
                  have h2 := HTD.out
                  have := ahead_same HLA.out.2 hab (by omega)
                  rw [← HXV.out] at this
                  cases this
                go_quiet (fail)
                go_upto_region 17 with (fail)
                by_cases h1 : a + 1 = d
                · have z1 : (((a : Int) + 1) == (d : Int)) = true := by simp; omega
                  by_cases h2 : xa.op = 2
                  · have z2 : (xa.op == 2) = true := by simpa using h2
                    by_cases h3 : xd.op = 1
                    · have z3 : (xd.op == 1) = true := by simpa using h3
                      by_cases h4 : xa.cell = xd.cell
                      · first
                          | exact absurd (HNX.out _ HXV.out rfl h1 h2 h3 h4) (fun h => h)
                          | (have z4 : (xa.cell == xd.cell) = true := by simpa using h4
                             clear h1 h2 h3 h4
                             have HWR : IntKind.i64.wrap ((a : Int) + 1) = (a : Int) + 1 := IntWalk.i64_in _ (by omega)
                             go_quiet (fail)
                             clear HWR
                             go_wp2_with fail
                             exact ⟨HEND.out _ rfl rfl rfl rfl, HMS.out⟩)
                      · have z4 : (xa.cell == xd.cell) = false := by simpa using h4
                        clear h1 h2 h3 h4
                        have HWR : IntKind.i64.wrap ((a : Int) + 1) = (a : Int) + 1 := IntWalk.i64_in _ (by omega)
                        go_quiet (fail)
                        clear HWR
                        go_wp2_with fail
                        exact ⟨HEND.out _ rfl rfl rfl rfl, HMS.out⟩
                    · have z3 : (xd.op == 1) = false := by simpa using h3
                      clear h1 h2 h3
                      have HWR : IntKind.i64.wrap ((a : Int) + 1) = (a : Int) + 1 := IntWalk.i64_in _ (by omega)
                      go_quiet (fail)
                      clear HWR
                      go_wp2_with fail
                      exact ⟨HEND.out _ rfl rfl rfl rfl, HMS.out⟩
                  · have z2 : (xa.op == 2) = false := by simpa using h2
                    clear h1 h2
                    have HWR : IntKind.i64.wrap ((a : Int) + 1) = (a : Int) + 1 := IntWalk.i64_in _ (by omega)
                    go_quiet (fail)
                    clear HWR
                    go_wp2_with fail
                    exact ⟨HEND.out _ rfl rfl rfl rfl, HMS.out⟩
                · have z1 : (((a : Int) + 1) == (d : Int)) = false := by simp; omega
                  clear h1
                  have HWR : IntKind.i64.wrap ((a : Int) + 1) = (a : Int) + 1 := IntWalk.i64_in _ (by omega)
                  go_quiet (fail)
                  clear HWR
                  go_wp2_with fail
                  exact ⟨HEND.out _ rfl rfl rfl rfl, HMS.out⟩
              · have y2 : decide (a < d) = false := by simpa using hab
                go_quiet (fail)
                go_upto_region 17 with (fail)
                by_cases h1 : a + 1 = d
                · have z1 : (((a : Int) + 1) == (d : Int)) = true := by simp; omega
                  by_cases h2 : xa.op = 2
                  · have z2 : (xa.op == 2) = true := by simpa using h2
                    by_cases h3 : xd.op = 1
                    · have z3 : (xd.op == 1) = true := by simpa using h3
                      by_cases h4 : xa.cell = xd.cell
                      · first
                          | exact absurd (HNX.out _ HXV.out rfl h1 h2 h3 h4) (fun h => h)
                          | (have z4 : (xa.cell == xd.cell) = true := by simpa using h4
                             clear h1 h2 h3 h4
                             have HWR : IntKind.i64.wrap ((a : Int) + 1) = (a : Int) + 1 := IntWalk.i64_in _ (by omega)
                             go_quiet (fail)
                             clear HWR
                             go_wp2_with fail
                             exact ⟨HEND.out _ rfl rfl rfl rfl, HMS.out⟩)
                      · have z4 : (xa.cell == xd.cell) = false := by simpa using h4
                        clear h1 h2 h3 h4
                        have HWR : IntKind.i64.wrap ((a : Int) + 1) = (a : Int) + 1 := IntWalk.i64_in _ (by omega)
                        go_quiet (fail)
                        clear HWR
                        go_wp2_with fail
                        exact ⟨HEND.out _ rfl rfl rfl rfl, HMS.out⟩
                    · have z3 : (xd.op == 1) = false := by simpa using h3
                      clear h1 h2 h3
                      have HWR : IntKind.i64.wrap ((a : Int) + 1) = (a : Int) + 1 := IntWalk.i64_in _ (by omega)
                      go_quiet (fail)
                      clear HWR
                      go_wp2_with fail
                      exact ⟨HEND.out _ rfl rfl rfl rfl, HMS.out⟩
                  · have z2 : (xa.op == 2) = false := by simpa using h2
                    clear h1 h2
                    have HWR : IntKind.i64.wrap ((a : Int) + 1) = (a : Int) + 1 := IntWalk.i64_in _ (by omega)
                    go_quiet (fail)
                    clear HWR
                    go_wp2_with fail
                    exact ⟨HEND.out _ rfl rfl rfl rfl, HMS.out⟩
                · have z1 : (((a : Int) + 1) == (d : Int)) = false := by simp; omega
                  clear h1
                  have HWR : IntKind.i64.wrap ((a : Int) + 1) = (a : Int) + 1 := IntWalk.i64_in _ (by omega)
                  go_quiet (fail)
                  clear HWR
                  go_wp2_with fail
                  exact ⟨HEND.out _ rfl rfl rfl rfl, HMS.out⟩
          · have HMM : Hid (mayLog L = false) := Lib.hid (by simpa using hm)
            clear hm
            go_wp2_with (first
              | (go_at_call 24; go_must (refine (copy_n HN.eq HN40 b cap wz HLZ.out).mono ?_); rintro e w2 ⟨b2, cap2, rfl, hc2, hL2, hb2⟩; have HL2 := Lib.hid hL2; have HB2 := Lib.hid (HBZ.out.trans (hb2.mono HBZ.out.size)); clear hc2 hL2 hb2)
              | (go_at_call 23; go_must (refine (ahead_n HN.eq HN40 b2 cap2 a d w2 HL2.out).mono ?_); rintro e w3 ⟨he, hb3⟩; rw [aheadAns_no HMM.out] at he; subst he; have HB3 := Lib.hid (HB2.out.trans (hb3.mono HB2.out.size)); clear hb3)
              | (go_at_call 10; refine (lives_any _ (HT.out.below HB3.out)).mono ?_; rintro e w4 ⟨rfl, hb4⟩; have HB4 := Lib.hid (HB3.out.trans (hb4.mono HB3.out.size)); clear hb4))
            go_ret
            exact ⟨rfl, HB4.out⟩
        · have hx : decide (d < L.length) = false := by simpa using hld
          go_wp2_with fail
          exact ⟨⟨a + 1, by omega, by rw [Int.natCast_add]; rfl, HBZ.out, HIZ.out.mono (fun i j _ _ h => by omega), fun _ h => HM1.out (by omega)⟩, by simp [intOf]; omega⟩
    · have hx : decide (a < L.length) = false := by simpa using hlt
      have e : a = L.length := by omega
      subst e
      have HV : Hid (∀ i j, i < L.length → j < L.length → wr.cell? ⟨w.heap.size, i * 40 + j, none⟩ = some (.bool (aheadB L i j))) := Lib.hid (fun i j hi hj => by
        obtain ⟨cs, h1, h2⟩ := HI.out
        obtain ⟨v, h3, h4⟩ := h2 i j (by omega) (by omega)
        rw [h1.cell, h3, h4 ⟨hi, hj⟩])
      have HT6 : Hid (Tens wr) := Lib.hid (HT.out.below HB.out)
      clear hlt ha
      go_wp2_with fail
      clear hx
      go_loop [9] (fun i => CRel L.length i) (fun i => L.length - (intOf i).toNat)
      case atStart => exact ⟨0, Nat.zero_le _, rfl⟩
      case round =>
        obtain ⟨p, hp, rfl⟩ := hrel
        by_cases hlp : p < L.length
        · have hx : decide (p < L.length) = true := by simpa using hlp
          go_wp2_with fail
          clear hx
          go_loop [10] (fun i => CRel L.length i) (fun i => L.length - (intOf i).toNat)
          case atStart => exact ⟨0, Nat.zero_le _, rfl⟩
          case round =>
            obtain ⟨q, hq, rfl⟩ := hrel
            by_cases hlq : q < L.length
            · have hx : decide (q < L.length) = true := by simpa using hlq
              go_wp2_with fail
              clear hx
              go_loop [11] (fun i => CRel L.length i) (fun i => L.length - (intOf i).toNat)
              case atStart => exact ⟨0, Nat.zero_le _, rfl⟩
              case round =>
                obtain ⟨r, hr, rfl⟩ := hrel
                by_cases hlr : r < L.length
                · have hx : decide (r < L.length) = true := by simpa using hlr
                  have v1 := HV.out p q hlp hlq
                  have v2 := HV.out q r hlq hlr
                  have v3 := HV.out p r hlp hlr
                  have HMS : Hid (L.length - (intOf (.int .i64 ((r : Int) + 1))).toNat < L.length - (intOf (.int .i64 (r : Int))).toNat) := Lib.hid (by simp [intOf]; omega)
                  have p40 : p < 40 := by omega
                  have q40 : q < 40 := by omega
                  have r40 : r < 40 := by omega
                  cases h1 : aheadB L p q with
                  | false =>
                    rw [h1] at v1
                    clear h1 v2 v3
                    go_wp2_with fail
                    exact ⟨⟨r + 1, by omega, by rw [Int.natCast_add]; rfl⟩, HMS.out⟩
                  | true =>
                    cases h2 : aheadB L q r with
                    | false =>
                      rw [h1] at v1
                      rw [h2] at v2
                      clear h1 h2 v3
                      go_wp2_with fail
                      exact ⟨⟨r + 1, by omega, by rw [Int.natCast_add]; rfl⟩, HMS.out⟩
                    | true =>
                      have h3 := ahead_trans (by rw [HN.eq]; exact hlp) (by rw [HN.eq]; exact hlq) (by rw [HN.eq]; exact hlr) h1 h2
                      rw [h1] at v1
                      rw [h2] at v2
                      rw [h3] at v3
                      clear h1 h2 h3
                      go_wp2_with fail
                      exact ⟨⟨r + 1, by omega, by rw [Int.natCast_add]; rfl⟩, HMS.out⟩
                · have hx : decide (r < L.length) = false := by simpa using hlr
                  go_wp2_with fail
                  exact ⟨⟨q + 1, by omega, by rw [Int.natCast_add]; rfl⟩, by simp [intOf]; omega⟩
            · have hx : decide (q < L.length) = false := by simpa using hlq
              go_wp2_with fail
              exact ⟨⟨p + 1, by omega, by rw [Int.natCast_add]; rfl⟩, by simp [intOf]; omega⟩
        · have hx : decide (p < L.length) = false := by simpa using hlp
          go_wp2_with (go_at_call 10; refine (lives_any _ HT6.out).mono ?_; rintro e w4 ⟨rfl, hb4⟩; have HB7 := Lib.hid (HB.out.trans (hb4.mono HB.out.size)); clear hb4)
          go_ret
          exact ⟨rfl, HB7.out⟩
end Go.Proofs.YtonnlgpjobfnmaaDoor
