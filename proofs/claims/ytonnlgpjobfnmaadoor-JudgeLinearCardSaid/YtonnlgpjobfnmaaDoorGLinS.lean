/- Joined of the texts LinR, LinS; what each proves, and its conditions, stand ahead of it. -/
import Derived.Test.YtonnlgpjobfnmaaDoorGLinQ
/- JudgeLinear's walk. Conditions: what the calls' cells hold; Go's table of the powers of ten. -/
namespace Go.Proofs.YtonnlgpjobfnmaaDoor
open Go.RowKit
set_option maxRecDepth 100000
def LawPostB (B : Nat) (w0 : World) (e : Ending) (w' : World) : Prop := e = .returned (.bool true) ∧ Below B w0 w'
set_option maxHeartbeats 4000000 in
theorem law_some (k : Int) (hk : i64of k) (b : Option Addr) (cap n : Nat) (H : List Cal) (hn : H.length = n) (hl : n ≤ 2147483647) (w0 : World) (B : Nat) (w1 : World) (h0 : Below B w0 w1) (hB : B = w1.heap.size) (hC : CallsAt w1 w1.heap.size b H) (hb : ∀ g off, b = some ⟨g, off, none⟩ → g < w1.heap.size) (hT : Tens w1) :
    Calls Tryd.prog 3 #[.int .i64 k, .slice b n cap] w1 (LawPostB B w0) := by
  have HT := Lib.hid hT
  have HC := Lib.hid hC
  have HBN := Lib.hid hb
  have H0 := Lib.hid h0
  have HB := Lib.hid hB
  have hd : decide (2147483647 < n) = false := by simpa using hl
  clear hT hC hb h0 hB
  by_cases h12 : n ≤ 12
  · have hx : decide (n ≤ 12) = true := by simpa using h12
    have hx2 : decide ((n : Int) ≤ 12) = true := by simp; omega
    have HCR := Lib.hid (crowd_any b cap w1.heap.size H n hn h12 w1 HC.out)
    go_enter Tryd.func3, Tryd.ntmps3
    go_upto_region 3 with (first
      | (go_at_call 8; refine (long_any n _).mono ?_; rintro e wl ⟨he, hwl⟩; rw [hd] at he; subst he; subst wl)
      | (go_at_call 9; refine HCR.out.mono ?_; rintro e wl ⟨x, nd, hx12, rfl, rfl⟩; clear HCR)
      | (go_at_call 10; go_must (refine (lives_any _ (HT.out.below (below_drewN (Below.refl _ _) _))).mono ?_); rintro e w9 ⟨rfl, hk9⟩; have HK9 := Lib.hid hk9; clear hk9))
    · exact bodyPost_ret (results_tmp rfl _ _ _) rfl ⟨rfl, H0.out.trans (by rw [HB.out]; exact (below_drewN (Below.refl _ _) _).trans HK9.out)⟩
    · obtain ⟨w, hw⟩ : ∃ w, w = w1.drewN nd := ⟨_, rfl⟩
      have HD : Hid (Below w1.heap.size w1 w) := Lib.hid (by rw [hw]; exact below_drewN (Below.refl _ _) _)
      have HZ : Hid (w.heap.size = w1.heap.size) := Lib.hid (by rw [hw]; simp)
      rw [← hw]
      clear hw
      have H0 : Hid (Below B w0 w) := Lib.hid (H0.out.trans (by rw [HB.out]; exact HD.out))
      have HT : Hid (Tens w) := Lib.hid (HT.out.below HD.out)
      have HC : Hid (CallsAt w w.heap.size b H) := Lib.hid (by rw [HZ.out]; exact HC.out.of HD.out)
      have HBN : Hid (∀ (g off : Nat), b = some { block := g, off := off } → g < w.heap.size) := Lib.hid (by rw [HZ.out]; exact HBN.out)
      have HB : Hid (B = w.heap.size) := Lib.hid (by rw [HZ.out]; exact HB.out)
      have HWC := Lib.hid (wideC_any b cap n H hn hl w HC.out)
      go_upto_region 4 with (go_at_call 11; refine HWC.out.mono ?_; rintro e w2 ⟨rfl, hw2, hb2⟩; have HW := Lib.hid hw2; have HB2 := Lib.hid hb2; clear hw2 hb2)
      have HC2 := Lib.hid (wide_front HW.out)
      have HT2 := Lib.hid (HT.out.below HB2.out)
      have HL2 := Lib.hid (linear_n hk hn _ (n + 64) hl w2 HC2.out (wide_lt HW.out) HT2.out)
      have HI2 : Hid (CallsAt w2 w.heap.size b H) := Lib.hid (HC.out.of HB2.out)
      have HLT := Lib.hid (wide_lt HW.out)
      subst hn
      go_upto_region 5 with (go_at_call 12; refine HL2.out.mono ?_; rintro e w3 ⟨hb3, v3, rfl, hv3⟩; have HB3 := Lib.hid hb3; have HV3 := Lib.hid hv3; clear hb3 hv3)
      have hs3 := HB3.out.size
      have hs2 := HB2.out.size
      have HC3 : Hid (CallsAt w3 w3.heap.size _ H) := Lib.hid ((HC2.out.of HB3.out).mono hs3)
      have HT3 := Lib.hid (HT2.out.below HB3.out)
      have HL3 := Lib.hid (linear_n hk rfl _ (H.length + 64) hl w3 HC3.out (fun g off e => Nat.lt_of_lt_of_le (HLT.out g off e) hs3) HT3.out)
      go_upto_region 6 with (go_at_call 12; refine HL3.out.mono ?_; rintro e w4 ⟨hb4, v4, rfl, hv4⟩; have HB4 := Lib.hid hb4; have HV4 := Lib.hid hv4; clear hb4 hv4)
      have hs4 := HB4.out.size
      have HB24 : Hid (Below w2.heap.size w2 w4) := Lib.hid (HB3.out.trans (HB4.out.mono hs3))
      have HI4 : Hid (CallsAt w4 w4.heap.size b H) := Lib.hid ((HI2.out.of (HB24.out.mono hs2)).mono (Nat.le_trans hs2 (Nat.le_trans hs3 hs4)))
      have HR4 := Lib.hid (rlinear_any k hk b cap H (by omega) w4 HI4.out (fun g off e => by have := HBN.out g off e; omega))
      go_upto_region 7 with (go_at_call 13; refine HR4.out.mono ?_; rintro e w5 ⟨hb5, v5, rfl, hv5⟩; have HB5 := Lib.hid hb5; have HV5 := Lib.hid hv5; clear hb5 hv5)
      obtain ⟨l, hlo⟩ : ∃ l, l = (linOf k H).1.getD [] := ⟨_, rfl⟩
      obtain ⟨is, his⟩ : ∃ x, x = (linOf k H).1.isSome := ⟨_, rfl⟩
      obtain ⟨er, her⟩ : ∃ x, x = (linOf k H).2 := ⟨_, rfl⟩
      rw [← hlo] at HV3 HV4 HV5
      rw [← his, ← her]
      have hll : l.length ≤ 4096 := by rw [hlo]; exact linOf_len k H
      clear hlo his her
      obtain ⟨a3, c3, rfl⟩ := row_shp HV3.out
      obtain ⟨a4, c4, rfl⟩ := row_shp HV4.out
      obtain ⟨a5, c5, rfl⟩ := row_shp HV5.out
      have hs5 := HB5.out.size
      have HO4 := Lib.hid (row_same HV4.out fun q cs hq hB => HB5.out.block q hB.lt)
      have HO3 := Lib.hid (row_same HV3.out fun q cs hq hB => (HB4.out.trans (HB5.out.mono hs4)).block q hB.lt)
      have HK3 : Hid (∀ W, Below w5.heap.size w5 W → W.ownsRow w2.heap.size 3 1 (.slice a3 l.length c3) l.length (l.map fun i => .int .i64 (i : Nat))) := Lib.hid fun W hW => row_same HO3.out fun q cs hq hB => hW.block q hB.lt
      have HK4 : Hid (∀ W, Below w5.heap.size w5 W → W.ownsRow w3.heap.size 3 1 (.slice a4 l.length c4) l.length (l.map fun i => .int .i64 (i : Nat))) := Lib.hid fun W hW => row_same HO4.out fun q cs hq hB => hW.block q hB.lt
      have HK5 : Hid (∀ W, Below w5.heap.size w5 W → W.ownsRow w4.heap.size 3 1 (.slice a5 l.length c5) l.length (l.map fun i => .int .i64 (i : Nat))) := Lib.hid fun W hW => row_same HV5.out fun q cs hq hB => hW.block q hB.lt
      have HB25 : Hid (Below w2.heap.size w2 w5) := Lib.hid (HB24.out.trans (HB5.out.mono (Nat.le_trans hs3 hs4)))
      have HLT3 := Lib.hid (World.ownsRow.lt HV3.out)
      have HLT4 := Lib.hid (World.ownsRow.lt HV4.out)
      have HX1 := Lib.hid (eqInts_same a3 a5 c3 c5 l.length (l.map fun i : Nat => (i : Int)) (by simp) (by omega) w5 (own_ints (HK3.out _ (Below.refl _ _))) (own_ints (HK5.out _ (Below.refl _ _))))
      have HX2 := Lib.hid fun W hW => eqInts_same a4 a5 c4 c5 l.length (l.map fun i : Nat => (i : Int)) (by simp) (by omega) W (own_ints (HK4.out W hW)) (own_ints (HK5.out W hW))
      have HX3 := Lib.hid fun W (hW : Below w2.heap.size w2 W) => eqCalls_same (some ⟨w.heap.size, 0, none⟩) b (H.length + 64) cap H.length _ _ H rfl (by omega) W (wide_front (HW.out.of hW)) (HI2.out.of (hW.mono hs2))
      have HX4 := Lib.hid fun W (hW : Below w2.heap.size w2 W) => spareC_any w.heap.size H.length H rfl hl W ((HW.out.of hW).mono hW.size)
      clear HO3 HO4 HV3 HV4 HV5 hd hx hx2 HWC HL2 HL3 HR4
      go_upto_region 9 with (go_at_call 14; refine HX1.out.mono ?_; rintro e w6 ⟨he, n6, hw6⟩; subst he; have HB6 : Hid (Below w5.heap.size w5 w6) := Lib.hid (by rw [hw6]; exact below_drewN (Below.refl _ _) _); clear hw6 HX1)
      have HY2 := Lib.hid (HX2.out w6 HB6.out)
      refine HY2.out.mono ?_; rintro e w7 ⟨he, n7, hw7⟩; subst he; have HB7 : Hid (Below w5.heap.size w5 w7) := Lib.hid (by rw [hw7]; exact below_drewN HB6.out _); have HY3 := Lib.hid (HX3.out w7 (HB25.out.trans (HB7.out.mono (by omega)))); clear hw7 HY2 HX2
      go_upto_region 9 with fail
      refine HY3.out.mono ?_; rintro e w8 ⟨he, n8, hw8⟩; subst he; have HB8 : Hid (Below w5.heap.size w5 w8) := Lib.hid (by rw [hw8]; exact below_drewN HB7.out _); have HY4 := Lib.hid (HX4.out w8 (HB25.out.trans (HB8.out.mono (by omega)))); clear hw8 HY3
      go_upto_region 9 with fail
      refine HY4.out.mono ?_; rintro e w9 ⟨he, hw9⟩; subst he; have HB9 : Hid (Below w5.heap.size w5 w9) := Lib.hid (HB8.out.trans (hw9.mono HB8.out.size)); clear hw9 HY4 HX4 HB6 HB7 HB8
      go_upto_region 10 with fail
      obtain ⟨wa, hwa⟩ : ∃ wa, wa = w9.alloc (.cells nil14 50) := ⟨_, rfl⟩
      have HBLA : Hid (Blk wa w9.heap.size 50 nil14) := Lib.hid (by rw [hwa]; exact Blk.new _ _ _)
      have HBA : Hid (Below w9.heap.size w9 wa) := Lib.hid (by rw [hwa]; exact (Below.refl _ _).alloc (Nat.le_refl _) _)
      have hza : wa.heap.size = w9.heap.size + 1 := by rw [hwa]; simp
      unfold nil14 at hwa
      rw [← hwa]
      clear hwa
      have HA1 := Lib.hid (addInts_any w9.heap.size wa.heap.size 0 nil14 (.slice none 0 0) [] a3 l.length c3 wa HBLA.out (nil14_at 1 (by omega)) (World.ownsRow_nil _ _ _ _) (by omega) (Nat.le_refl _))
      go_upto_region 11 with (go_at_call 17; refine HA1.out.mono ?_; rintro e wb ⟨he, vb, hb1, hb2, hb3⟩; subst he; have HBLB := Lib.hid hb1; have HRB := Lib.hid hb2; have HKB := Lib.hid hb3; clear hb1 hb2 hb3 HA1)
      have HBB : Hid (Below w9.heap.size w9 wb) := Lib.hid (HBA.out.trans (add_below (nil14_at 1 (by omega)) (World.ownsRow_nil wa wa.heap.size 27 1) HKB.out (by omega) (Nat.le_refl _) (by omega)))
      have hzb : wa.heap.size ≤ wb.heap.size := HKB.out.size
      have HA2 := Lib.hid (addInts_any w9.heap.size wa.heap.size 1 (nil14.setIfInBounds 1 vb) vb _ a4 l.length c4 wb HBLB.out (nil14_set vb) HRB.out (by omega) hzb)
      go_upto_region 12 with (go_at_call 17; refine HA2.out.mono ?_; rintro e wc ⟨he, vc, hc1, hc2, hc3⟩; subst he; have HBLC := Lib.hid hc1; have HRC := Lib.hid hc2; have HKC := Lib.hid hc3; clear hc1 hc2 hc3 HA2)
      have HBC : Hid (Below w9.heap.size w9 wc) := Lib.hid (HBB.out.trans (add_below (nil14_set vb) HRB.out HKC.out (by omega) (Nat.le_refl _) (by omega)))
      have hz9 := HB9.out.size
      have HB5c : Hid (Below w5.heap.size w5 wc) := Lib.hid (HB9.out.trans (HBC.out.mono hz9))
      obtain ⟨L3, hv3, hl3, ok3, _⟩ := lst_of_row (HK3.out wc HB5c.out)
      obtain ⟨L4, hv4, hl4, ok4, _⟩ := lst_of_row (HK4.out wc HB5c.out)
      obtain ⟨bi, P, hP, hph⟩ := ph1_of_bag (Ls := [L3, L4]) (base := w2.heap.size) HBLC.out (nil14_set2 vb vc) (by have h := HRC.out; simpa [hv3, hv4] using h) (by simp) (lsOk_two (S := w3.heap.size) ok3 (ok4.mono hs3) (fun g hg => (HLT3.out g (by rw [← hv3, own_val]; exact hg)).2) (fun g hg => (HLT4.out g (by rw [← hv4, own_val]; exact hg)).1))
      have hzc := HBC.out.size
      have HAP := Lib.hid (apart_ints w9.heap.size bi P [L3, L4] w2.heap.size (by simp) (fun m L hm => by rcases m with _ | _ | m <;> simp at hm <;> subst hm <;> omega) wc (by omega) hph (fun k' hk' hne => by rw [hP]; exact nil14_else hk' hne))
      clear hv3 hl3 ok3 hv4 hl4 ok4 hP hph
      have HB2c : Hid (Below w2.heap.size w2 wc) := Lib.hid (HB25.out.trans (HB5c.out.mono (by omega)))
      have HTW : Hid (∀ W, Below w2.heap.size w2 W → Tens W) := Lib.hid fun W hW => HT.out.below (HB2.out.trans (hW.mono hs2))
      have HBW : Hid (∀ W, Below w2.heap.size w2 W → Below B w0 W) := Lib.hid fun W hW => H0.out.trans (by rw [HB.out]; exact HB2.out.trans (hW.mono hs2))
      go_wp2_with (first
        | (go_at_call 18; refine HAP.out.mono ?_; rintro e wd ⟨he, hd1⟩; subst he; have HBD : Hid (Below w2.heap.size w2 wd) := Lib.hid (HB2c.out.trans hd1); clear hd1 HAP; have HX5 := Lib.hid (HX3.out wd HBD.out))
        | (go_at_call 15; refine HX5.out.mono ?_; rintro e we ⟨he, ne, hwe⟩; subst he; have HBE : Hid (Below w2.heap.size w2 we) := Lib.hid (by rw [hwe]; exact below_drewN HBD.out _); clear hwe HX5; have HLV := Lib.hid (lives_any we (HTW.out we HBE.out)))
        | (go_at_call 10; refine HLV.out.mono ?_; rintro e wf ⟨he, hf⟩; subst he; have HBF : Hid (Below w2.heap.size w2 wf) := Lib.hid (HBE.out.trans (hf.mono HBE.out.size)); clear hf HLV))
      exact bodyPost_ret (results_tmp rfl _ _ _) rfl ⟨rfl, HBW.out wf HBF.out⟩
  · have hx : decide (n ≤ 12) = false := by simpa using h12
    have hx2 : decide ((n : Int) ≤ 12) = false := by simp; omega
    obtain ⟨w, rfl⟩ : ∃ w, w = w1 := ⟨_, rfl⟩
    go_enter Tryd.func3, Tryd.ntmps3
    go_upto_region 3 with (first
      | (go_at_call 8; refine (long_any n _).mono ?_; rintro e wl ⟨he, hwl⟩; rw [hd] at he; subst he; subst wl))
    have HWC := Lib.hid (wideC_any b cap n H hn hl w HC.out)
    go_upto_region 4 with (go_at_call 11; refine HWC.out.mono ?_; rintro e w2 ⟨rfl, hw2, hb2⟩; have HW := Lib.hid hw2; have HB2 := Lib.hid hb2; clear hw2 hb2)
    have HC2 := Lib.hid (wide_front HW.out)
    have HT2 := Lib.hid (HT.out.below HB2.out)
    have HL2 := Lib.hid (linear_n hk hn _ (n + 64) hl w2 HC2.out (wide_lt HW.out) HT2.out)
    have HI2 : Hid (CallsAt w2 w.heap.size b H) := Lib.hid (HC.out.of HB2.out)
    have HLT := Lib.hid (wide_lt HW.out)
    subst hn
    go_upto_region 5 with (go_at_call 12; refine HL2.out.mono ?_; rintro e w3 ⟨hb3, v3, rfl, hv3⟩; have HB3 := Lib.hid hb3; have HV3 := Lib.hid hv3; clear hb3 hv3)
    have hs3 := HB3.out.size
    have hs2 := HB2.out.size
    have HC3 : Hid (CallsAt w3 w3.heap.size _ H) := Lib.hid ((HC2.out.of HB3.out).mono hs3)
    have HT3 := Lib.hid (HT2.out.below HB3.out)
    have HL3 := Lib.hid (linear_n hk rfl _ (H.length + 64) hl w3 HC3.out (fun g off e => Nat.lt_of_lt_of_le (HLT.out g off e) hs3) HT3.out)
    go_upto_region 6 with (go_at_call 12; refine HL3.out.mono ?_; rintro e w4 ⟨hb4, v4, rfl, hv4⟩; have HB4 := Lib.hid hb4; have HV4 := Lib.hid hv4; clear hb4 hv4)
    have hs4 := HB4.out.size
    have HB24 : Hid (Below w2.heap.size w2 w4) := Lib.hid (HB3.out.trans (HB4.out.mono hs3))
    have HI4 : Hid (CallsAt w4 w4.heap.size b H) := Lib.hid ((HI2.out.of (HB24.out.mono hs2)).mono (Nat.le_trans hs2 (Nat.le_trans hs3 hs4)))
    have HR4 := Lib.hid (rlinear_any k hk b cap H (by omega) w4 HI4.out (fun g off e => by have := HBN.out g off e; omega))
    go_upto_region 7 with (go_at_call 13; refine HR4.out.mono ?_; rintro e w5 ⟨hb5, v5, rfl, hv5⟩; have HB5 := Lib.hid hb5; have HV5 := Lib.hid hv5; clear hb5 hv5)
    obtain ⟨l, hlo⟩ : ∃ l, l = (linOf k H).1.getD [] := ⟨_, rfl⟩
    obtain ⟨is, his⟩ : ∃ x, x = (linOf k H).1.isSome := ⟨_, rfl⟩
    obtain ⟨er, her⟩ : ∃ x, x = (linOf k H).2 := ⟨_, rfl⟩
    rw [← hlo] at HV3 HV4 HV5
    rw [← his, ← her]
    have hll : l.length ≤ 4096 := by rw [hlo]; exact linOf_len k H
    clear hlo his her
    obtain ⟨a3, c3, rfl⟩ := row_shp HV3.out
    obtain ⟨a4, c4, rfl⟩ := row_shp HV4.out
    obtain ⟨a5, c5, rfl⟩ := row_shp HV5.out
    have hs5 := HB5.out.size
    have HO4 := Lib.hid (row_same HV4.out fun q cs hq hB => HB5.out.block q hB.lt)
    have HO3 := Lib.hid (row_same HV3.out fun q cs hq hB => (HB4.out.trans (HB5.out.mono hs4)).block q hB.lt)
    have HK3 : Hid (∀ W, Below w5.heap.size w5 W → W.ownsRow w2.heap.size 3 1 (.slice a3 l.length c3) l.length (l.map fun i => .int .i64 (i : Nat))) := Lib.hid fun W hW => row_same HO3.out fun q cs hq hB => hW.block q hB.lt
    have HK4 : Hid (∀ W, Below w5.heap.size w5 W → W.ownsRow w3.heap.size 3 1 (.slice a4 l.length c4) l.length (l.map fun i => .int .i64 (i : Nat))) := Lib.hid fun W hW => row_same HO4.out fun q cs hq hB => hW.block q hB.lt
    have HK5 : Hid (∀ W, Below w5.heap.size w5 W → W.ownsRow w4.heap.size 3 1 (.slice a5 l.length c5) l.length (l.map fun i => .int .i64 (i : Nat))) := Lib.hid fun W hW => row_same HV5.out fun q cs hq hB => hW.block q hB.lt
    have HB25 : Hid (Below w2.heap.size w2 w5) := Lib.hid (HB24.out.trans (HB5.out.mono (Nat.le_trans hs3 hs4)))
    have HLT3 := Lib.hid (World.ownsRow.lt HV3.out)
    have HLT4 := Lib.hid (World.ownsRow.lt HV4.out)
    have HX1 := Lib.hid (eqInts_same a3 a5 c3 c5 l.length (l.map fun i : Nat => (i : Int)) (by simp) (by omega) w5 (own_ints (HK3.out _ (Below.refl _ _))) (own_ints (HK5.out _ (Below.refl _ _))))
    have HX2 := Lib.hid fun W hW => eqInts_same a4 a5 c4 c5 l.length (l.map fun i : Nat => (i : Int)) (by simp) (by omega) W (own_ints (HK4.out W hW)) (own_ints (HK5.out W hW))
    have HX3 := Lib.hid fun W (hW : Below w2.heap.size w2 W) => eqCalls_same (some ⟨w.heap.size, 0, none⟩) b (H.length + 64) cap H.length _ _ H rfl (by omega) W (wide_front (HW.out.of hW)) (HI2.out.of (hW.mono hs2))
    have HX4 := Lib.hid fun W (hW : Below w2.heap.size w2 W) => spareC_any w.heap.size H.length H rfl hl W ((HW.out.of hW).mono hW.size)
    clear HO3 HO4 HV3 HV4 HV5 hd hx hx2 HWC HL2 HL3 HR4
    go_upto_region 9 with (go_at_call 14; refine HX1.out.mono ?_; rintro e w6 ⟨he, n6, hw6⟩; subst he; have HB6 : Hid (Below w5.heap.size w5 w6) := Lib.hid (by rw [hw6]; exact below_drewN (Below.refl _ _) _); clear hw6 HX1)
    have HY2 := Lib.hid (HX2.out w6 HB6.out)
    refine HY2.out.mono ?_; rintro e w7 ⟨he, n7, hw7⟩; subst he; have HB7 : Hid (Below w5.heap.size w5 w7) := Lib.hid (by rw [hw7]; exact below_drewN HB6.out _); have HY3 := Lib.hid (HX3.out w7 (HB25.out.trans (HB7.out.mono (by omega)))); clear hw7 HY2 HX2
    go_upto_region 9 with fail
    refine HY3.out.mono ?_; rintro e w8 ⟨he, n8, hw8⟩; subst he; have HB8 : Hid (Below w5.heap.size w5 w8) := Lib.hid (by rw [hw8]; exact below_drewN HB7.out _); have HY4 := Lib.hid (HX4.out w8 (HB25.out.trans (HB8.out.mono (by omega)))); clear hw8 HY3
    go_upto_region 9 with fail
    refine HY4.out.mono ?_; rintro e w9 ⟨he, hw9⟩; subst he; have HB9 : Hid (Below w5.heap.size w5 w9) := Lib.hid (HB8.out.trans (hw9.mono HB8.out.size)); clear hw9 HY4 HX4 HB6 HB7 HB8
    go_upto_region 10 with fail
    obtain ⟨wa, hwa⟩ : ∃ wa, wa = w9.alloc (.cells nil14 50) := ⟨_, rfl⟩
    have HBLA : Hid (Blk wa w9.heap.size 50 nil14) := Lib.hid (by rw [hwa]; exact Blk.new _ _ _)
    have HBA : Hid (Below w9.heap.size w9 wa) := Lib.hid (by rw [hwa]; exact (Below.refl _ _).alloc (Nat.le_refl _) _)
    have hza : wa.heap.size = w9.heap.size + 1 := by rw [hwa]; simp
    unfold nil14 at hwa
    rw [← hwa]
    clear hwa
    have HA1 := Lib.hid (addInts_any w9.heap.size wa.heap.size 0 nil14 (.slice none 0 0) [] a3 l.length c3 wa HBLA.out (nil14_at 1 (by omega)) (World.ownsRow_nil _ _ _ _) (by omega) (Nat.le_refl _))
    go_upto_region 11 with (go_at_call 17; refine HA1.out.mono ?_; rintro e wb ⟨he, vb, hb1, hb2, hb3⟩; subst he; have HBLB := Lib.hid hb1; have HRB := Lib.hid hb2; have HKB := Lib.hid hb3; clear hb1 hb2 hb3 HA1)
    have HBB : Hid (Below w9.heap.size w9 wb) := Lib.hid (HBA.out.trans (add_below (nil14_at 1 (by omega)) (World.ownsRow_nil wa wa.heap.size 27 1) HKB.out (by omega) (Nat.le_refl _) (by omega)))
    have hzb : wa.heap.size ≤ wb.heap.size := HKB.out.size
    have HA2 := Lib.hid (addInts_any w9.heap.size wa.heap.size 1 (nil14.setIfInBounds 1 vb) vb _ a4 l.length c4 wb HBLB.out (nil14_set vb) HRB.out (by omega) hzb)
    go_upto_region 12 with (go_at_call 17; refine HA2.out.mono ?_; rintro e wc ⟨he, vc, hc1, hc2, hc3⟩; subst he; have HBLC := Lib.hid hc1; have HRC := Lib.hid hc2; have HKC := Lib.hid hc3; clear hc1 hc2 hc3 HA2)
    have HBC : Hid (Below w9.heap.size w9 wc) := Lib.hid (HBB.out.trans (add_below (nil14_set vb) HRB.out HKC.out (by omega) (Nat.le_refl _) (by omega)))
    have hz9 := HB9.out.size
    have HB5c : Hid (Below w5.heap.size w5 wc) := Lib.hid (HB9.out.trans (HBC.out.mono hz9))
    obtain ⟨L3, hv3, hl3, ok3, _⟩ := lst_of_row (HK3.out wc HB5c.out)
    obtain ⟨L4, hv4, hl4, ok4, _⟩ := lst_of_row (HK4.out wc HB5c.out)
    obtain ⟨bi, P, hP, hph⟩ := ph1_of_bag (Ls := [L3, L4]) (base := w2.heap.size) HBLC.out (nil14_set2 vb vc) (by have h := HRC.out; simpa [hv3, hv4] using h) (by simp) (lsOk_two (S := w3.heap.size) ok3 (ok4.mono hs3) (fun g hg => (HLT3.out g (by rw [← hv3, own_val]; exact hg)).2) (fun g hg => (HLT4.out g (by rw [← hv4, own_val]; exact hg)).1))
    have hzc := HBC.out.size
    have HAP := Lib.hid (apart_ints w9.heap.size bi P [L3, L4] w2.heap.size (by simp) (fun m L hm => by rcases m with _ | _ | m <;> simp at hm <;> subst hm <;> omega) wc (by omega) hph (fun k' hk' hne => by rw [hP]; exact nil14_else hk' hne))
    clear hv3 hl3 ok3 hv4 hl4 ok4 hP hph
    have HB2c : Hid (Below w2.heap.size w2 wc) := Lib.hid (HB25.out.trans (HB5c.out.mono (by omega)))
    have HTW : Hid (∀ W, Below w2.heap.size w2 W → Tens W) := Lib.hid fun W hW => HT.out.below (HB2.out.trans (hW.mono hs2))
    have HBW : Hid (∀ W, Below w2.heap.size w2 W → Below B w0 W) := Lib.hid fun W hW => H0.out.trans (by rw [HB.out]; exact HB2.out.trans (hW.mono hs2))
    go_wp2_with (first
      | (go_at_call 18; refine HAP.out.mono ?_; rintro e wd ⟨he, hd1⟩; subst he; have HBD : Hid (Below w2.heap.size w2 wd) := Lib.hid (HB2c.out.trans hd1); clear hd1 HAP; have HX5 := Lib.hid (HX3.out wd HBD.out))
      | (go_at_call 15; refine HX5.out.mono ?_; rintro e we ⟨he, ne, hwe⟩; subst he; have HBE : Hid (Below w2.heap.size w2 we) := Lib.hid (by rw [hwe]; exact below_drewN HBD.out _); clear hwe HX5; have HLV := Lib.hid (lives_any we (HTW.out we HBE.out)))
      | (go_at_call 10; refine HLV.out.mono ?_; rintro e wf ⟨he, hf⟩; subst he; have HBF : Hid (Below w2.heap.size w2 wf) := Lib.hid (HBE.out.trans (hf.mono HBE.out.size)); clear hf HLV))
    exact bodyPost_ret (results_tmp rfl _ _ _) rfl ⟨rfl, HBW.out wf HBF.out⟩
end Go.Proofs.YtonnlgpjobfnmaaDoor
/- JudgeLinear's walk, for every input. Conditions: what the calls' cells hold; Go's table of the powers of ten. -/
namespace Go.Proofs.YtonnlgpjobfnmaaDoor
open Go.RowKit
set_option maxRecDepth 100000
theorem linear_law (k : Int) (hk : i64of k) (b : Option Addr) (cap n : Nat) (H : List Cal) (hn : H.length = n) (w : World) (hC : CallsAt w w.heap.size b H) (hb : ∀ g off, b = some ⟨g, off, none⟩ → g < w.heap.size) (hT : Tens w) :
    Calls Tryd.prog 3 #[.int .i64 k, .slice b n cap] w (LawPost w) := by
  by_cases h : 2147483647 < n
  · exact law_long k b cap n h w hT
  · exact law_some k hk b cap n H hn (by omega) w w.heap.size w (Below.refl _ _) rfl hC hb hT
end Go.Proofs.YtonnlgpjobfnmaaDoor
