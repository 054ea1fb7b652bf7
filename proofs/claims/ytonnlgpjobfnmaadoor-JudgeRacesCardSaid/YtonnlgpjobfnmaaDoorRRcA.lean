/- JudgeRaces' walk. Conditions: what the log's cells hold; Go's table of the powers of ten. -/
import Derived.Test.YtonnlgpjobfnmaaDoorRBagG
import Derived.Test.YtonnlgpjobfnmaaDoorRRaceB
import Derived.Test.YtonnlgpjobfnmaaDoorROnceC
import Derived.Test.YtonnlgpjobfnmaaDoorRJudgeW
namespace Go.Proofs.YtonnlgpjobfnmaaDoor
open Go.RowKit
set_option maxRecDepth 100000
theorem onceAns_form (L : List Acc) : ∃ (x e : Int), onceAns L = .tuple #[.int .i64 x, .int .i64 e] := by
  unfold onceAns
  split
  · split <;> exact ⟨_, _, rfl⟩
  · exact ⟨_, _, rfl⟩
set_option maxHeartbeats 1600000 in
theorem rc_long (b : Option Addr) (cap n : Nat) (hl : 2048 < n) (w : World) (hT : Tens w) :
    Calls Tryd.prog 7 #[.slice b n cap] w (LawPost w) := by
  have HT := Lib.hid hT
  have hd : decide (2048 < n) = true := by simpa using hl
  clear hT
  go_enter Tryd.func7, Tryd.ntmps7
  go_wp2_with (first
    | (go_at_call 25; refine (longA_any b cap n _).mono ?_; rintro e w1 ⟨he, hw1⟩; rw [hd] at he; subst he hw1)
    | (go_at_call 10; go_must (refine (lives_any _ HT.out).mono ?_); rintro e w9 ⟨rfl, hk9⟩; have HK9 := Lib.hid hk9; clear hk9))
  exact bodyPost_ret (results_tmp rfl _ _ _) rfl ⟨rfl, HK9.out⟩
set_option maxHeartbeats 4000000 in
theorem rc_some (b : Option Addr) (cap : Nat) (L : List Acc) (hl : L.length ≤ 2048) (w : World) (hC : LogAt w w.heap.size b L) (hT : Tens w) :
    Calls Tryd.prog 7 #[.slice b L.length cap] w (LawPost w) := by
  have HT := Lib.hid hT
  have HC := Lib.hid hC
  have hd : decide (2048 < L.length) = false := by simpa using hl
  have HWC := Lib.hid (wideA_any b cap L.length L rfl (by omega) w hC)
  clear hT hC
  go_enter Tryd.func7, Tryd.ntmps7
  go_upto_region 4 with (first
    | (go_at_call 25; refine (longA_any b cap _ _).mono ?_; rintro e wl ⟨he, hwl⟩; rw [hd] at he; subst he; subst wl)
    | (go_at_call 26; refine HWC.out.mono ?_; rintro e w2 ⟨rfl, hw2, hb2⟩; have HW := Lib.hid hw2; have HB2 := Lib.hid hb2; clear hw2 hb2))
  have hs2 := HB2.out.size
  have HCW : Hid (∀ W, Below w2.heap.size w2 W → LogAt W W.heap.size (some ⟨w.heap.size, 0, none⟩) L) := Lib.hid fun W hW => ((wideL_front HW.out).of hW).mono hW.size
  have HIW : Hid (∀ W, Below w2.heap.size w2 W → LogAt W W.heap.size b L) := Lib.hid fun W hW => ((HC.out.of HB2.out).of (hW.mono hs2)).mono (Nat.le_trans hs2 hW.size)
  have HL2 := Lib.hid (races_any _ (L.length + 64) L w2 (HCW.out w2 (Below.refl _ _)) hl)
  obtain ⟨er, her⟩ : ∃ er : Int, er = if mayLog L = true then 0 else 31 := ⟨_, rfl⟩
  have HER := Lib.hid her
  clear her
  go_upto_region 5 with (go_at_call 34; refine HL2.out.mono ?_; rintro e w3 ⟨hb3, v3, he, hv3⟩; rw [← HER.out] at he; subst he; have HB3 := Lib.hid hb3; have HV3 := Lib.hid hv3; clear hb3 hv3)
  have hs3 := HB3.out.size
  have HL3 := Lib.hid (races_any _ (L.length + 64) L w3 (HCW.out w3 HB3.out) hl)
  go_upto_region 6 with (go_at_call 34; refine HL3.out.mono ?_; rintro e w4 ⟨hb4, v4, he, hv4⟩; rw [← HER.out] at he; subst he; have HB4 := Lib.hid hb4; have HV4 := Lib.hid hv4; clear hb4 hv4)
  have hs4 := HB4.out.size
  have HB24 : Hid (Below w2.heap.size w2 w4) := Lib.hid (HB3.out.trans (HB4.out.mono hs3))
  have HR4 := Lib.hid (rraces_any b cap L w4 (HIW.out w4 HB24.out) hl)
  go_upto_region 7 with (go_at_call 35; refine HR4.out.mono ?_; rintro e w5 ⟨hb5, v5, he, hv5⟩; rw [← HER.out] at he; subst he; have HB5 := Lib.hid hb5; have HV5 := Lib.hid hv5; clear hb5 hv5)
  have hs5 := HB5.out.size
  have HB25 : Hid (Below w2.heap.size w2 w5) := Lib.hid (HB24.out.trans (HB5.out.mono (Nat.le_trans hs3 hs4)))
  have HA5 := Lib.hid (jonce_any _ (L.length + 64) L w5 (HCW.out w5 HB25.out) hl)
  obtain ⟨ba, ea, hba⟩ := onceAns_form L
  have HBA := Lib.hid hba
  clear hba
  go_upto_region 8 with (go_at_call 36; refine HA5.out.mono ?_; rintro e w6 ⟨he, hb6⟩; rw [HBA.out] at he; subst he; have HB6 := Lib.hid hb6; clear hb6)
  have hs6 := HB6.out.size
  have HB26 : Hid (Below w2.heap.size w2 w6) := Lib.hid (HB25.out.trans (HB6.out.mono (by omega)))
  have HA6 := Lib.hid (ronce_any b cap L w6 (HIW.out w6 HB26.out) hl)
  go_upto_region 9 with (go_at_call 37; refine HA6.out.mono ?_; rintro e w7 ⟨he, hb7⟩; rw [HBA.out] at he; subst he; have HB7 := Lib.hid hb7; clear hb7)
  have hs7 := HB7.out.size
  have HB57 : Hid (Below w5.heap.size w5 w7) := Lib.hid (HB6.out.trans (HB7.out.mono hs6))
  have HB27 : Hid (Below w2.heap.size w2 w7) := Lib.hid (HB25.out.trans (HB57.out.mono (by omega)))
  have hXl : (racesOf L).length ≤ 2048 := by
    unfold racesOf
    split
    · have := racesTo_len L L.length
      omega
    · simp
  obtain ⟨Xs, hXs0⟩ : ∃ Xs, Xs = racesOf L := ⟨_, rfl⟩
  rw [← hXs0] at HV3 HV4 HV5 hXl
  clear hXs0 HER
  obtain ⟨a3, c3, rfl⟩ := row_shp HV3.out
  obtain ⟨a4, c4, rfl⟩ := row_shp HV4.out
  obtain ⟨a5, c5, rfl⟩ := row_shp HV5.out
  have HB47 : Hid (Below w4.heap.size w4 w7) := Lib.hid (HB5.out.trans (HB57.out.mono hs5))
  have HB37 : Hid (Below w3.heap.size w3 w7) := Lib.hid (HB4.out.trans (HB47.out.mono hs4))
  have HX1 := Lib.hid (eqRaces_same a3 a5 c3 c5 Xs.length Xs rfl (by omega) w7 ((own_races HV3.out rfl).of HB37.out) ((own_races HV5.out rfl).of HB57.out))
  have HX2 := Lib.hid fun W (hW : Below w7.heap.size w7 W) => eqRaces_same a4 a5 c4 c5 Xs.length Xs rfl (by omega) W (((own_races HV4.out rfl).of HB47.out).of hW) (((own_races HV5.out rfl).of HB57.out).of hW)
  have HX3 := Lib.hid fun W (hW : Below w2.heap.size w2 W) => eqAccs_same (some ⟨w.heap.size, 0, none⟩) b (L.length + 64) cap L.length _ _ L rfl (by omega) W (HCW.out W hW) (HIW.out W hW)
  have HX4 := Lib.hid fun W (hW : Below w2.heap.size w2 W) => spareA_any w.heap.size L.length L rfl (by omega) W ((HW.out.of hW).mono hW.size)
  clear HWC HL2 HL3 HR4 HA5 HA6 hd
  go_upto_region 10 with (go_at_call 38; refine HX1.out.mono ?_; rintro e w8 ⟨he, n8, hw8⟩; subst he; have HB8 : Hid (Below w7.heap.size w7 w8) := Lib.hid (by rw [hw8]; exact below_drewN (Below.refl _ _) _); clear hw8 HX1)
  have HY2 := Lib.hid (HX2.out w8 HB8.out)
  refine HY2.out.mono ?_; rintro e w9 ⟨he, n9, hw9⟩; subst he; have HB9 : Hid (Below w7.heap.size w7 w9) := Lib.hid (by rw [hw9]; exact below_drewN HB8.out _); have HY3 := Lib.hid (HX3.out w9 (HB27.out.trans (HB9.out.mono (by omega)))); clear hw9 HY2 HX2
  go_upto_region 10 with fail
  refine HY3.out.mono ?_; rintro e w10 ⟨he, n10, hw10⟩; subst he; have HB10 : Hid (Below w7.heap.size w7 w10) := Lib.hid (by rw [hw10]; exact below_drewN HB9.out _); have HY4 := Lib.hid (HX4.out w10 (HB27.out.trans (HB10.out.mono (by omega)))); clear hw10 HY3
  go_upto_region 10 with fail
  refine HY4.out.mono ?_; rintro e w11 ⟨he, hw11⟩; subst he; have HB11 : Hid (Below w7.heap.size w7 w11) := Lib.hid (HB10.out.trans (hw11.mono HB10.out.size)); clear hw11 HY4 HX4 HB8 HB9 HB10
  go_upto_region 12 with fail
  obtain ⟨wa, hwa⟩ : ∃ wa, wa = w11.alloc (.cells nil14 50) := ⟨_, rfl⟩
  have HSA : Hid (BagR wa w11.heap.size (w11.heap.size + 1) nil14 (.slice none 0 0) []) := Lib.hid (by rw [hwa]; exact bagR_new w11)
  have HBA : Hid (Below w11.heap.size w11 wa) := Lib.hid (by rw [hwa]; exact (Below.refl _ _).alloc (Nat.le_refl _) _)
  unfold nil14 at hwa
  rw [← hwa]
  clear hwa
  have hs11 := HB11.out.size
  have HB7a : Hid (Below w7.heap.size w7 wa) := Lib.hid (HB11.out.trans (HBA.out.mono hs11))
  have HA1 := Lib.hid (addRaces_any w11.heap.size _ nil14 _ [] a3 Xs.length c3 wa HSA.out (by simp))
  go_upto_region 13 with (go_at_call 39; refine HA1.out.mono ?_; rintro e wb ⟨he, hbb, csb, v8b, hSb⟩; subst he; have HBB := Lib.hid hbb; have HSB := Lib.hid hSb; clear hbb hSb HA1)
  have HB7b : Hid (Below w7.heap.size w7 wb) := Lib.hid (HB7a.out.trans (HBB.out.mono hs11))
  have HA2 := Lib.hid (addRaces_any w11.heap.size _ csb _ _ a4 Xs.length c4 wb HSB.out (by simp))
  go_upto_region 14 with (go_at_call 39; refine HA2.out.mono ?_; rintro e wc ⟨he, hbc, csc, v8c, hSc⟩; subst he; have HBC := Lib.hid hbc; have HSC := Lib.hid hSc; clear hbc hSc HA2)
  have HB7c : Hid (Below w7.heap.size w7 wc) := Lib.hid (HB7b.out.trans (HBC.out.mono hs11))
  have HB2c : Hid (Below w2.heap.size w2 wc) := Lib.hid (HB27.out.trans (HB7c.out.mono (by omega)))
  have HB3c : Hid (Below w3.heap.size w3 wc) := Lib.hid (HB37.out.trans (HB7c.out.mono (by omega)))
  have HB4c : Hid (Below w4.heap.size w4 wc) := Lib.hid (HB47.out.trans (HB7c.out.mono (by omega)))
  have HOW2 : Hid (Owned wc w2.heap.size 87 2 (([] ++ [Value.slice a3 Xs.length c3]) ++ [.slice a4 Xs.length c4])) := Lib.hid (owned_two (mid := w3.heap.size) (row_sameN HV3.out fun q _ _ hB => HB3c.out.block q hB.lt) (own_mono (row_sameN HV4.out fun q _ _ hB => HB4c.out.block q hB.lt) hs3) (by omega) (by omega) (fun q hq => (HV3.out.lt q hq).2) fun q hq => (HV4.out.lt q hq).1)
  have hzc := HB2c.out.size
  have HAP := Lib.hid (apart_races w11.heap.size _ w2.heap.size csc _ _ wc HSC.out HOW2.out (by simp) (by simp) hzc)
  have HTW : Hid (∀ W, Below w2.heap.size w2 W → Tens W) := Lib.hid fun W hW => HT.out.below (HB2.out.trans (hW.mono hs2))
  have HBW : Hid (∀ W, Below w2.heap.size w2 W → Below w.heap.size w W) := Lib.hid fun W hW => HB2.out.trans (hW.mono hs2)
  clear HOW2 HSC HSB HSA
  go_wp2_with (first
    | (go_at_call 18; refine HAP.out.mono ?_; rintro e wd ⟨he, hd1⟩; subst he; have HBD : Hid (Below w2.heap.size w2 wd) := Lib.hid (HB2c.out.trans hd1); clear hd1 HAP; have HX5 := Lib.hid (HX3.out wd HBD.out))
    | (go_at_call 31; refine HX5.out.mono ?_; rintro e we ⟨he, ne, hwe⟩; subst he; have HBE : Hid (Below w2.heap.size w2 we) := Lib.hid (by rw [hwe]; exact below_drewN HBD.out _); clear hwe HX5; have HLV := Lib.hid (lives_any we (HTW.out we HBE.out)))
    | (go_at_call 10; refine HLV.out.mono ?_; rintro e wf ⟨he, hf⟩; subst he; have HBF : Hid (Below w2.heap.size w2 wf) := Lib.hid (HBE.out.trans (hf.mono HBE.out.size)); clear hf HLV))
  exact bodyPost_ret (results_tmp rfl _ _ _) rfl ⟨rfl, HBW.out wf HBF.out⟩
theorem rc_law (b : Option Addr) (cap n : Nat) (L : List Acc) (hn : L.length = n) (w : World) (hC : LogAt w w.heap.size b L) (hT : Tens w) :
    Calls Tryd.prog 7 #[.slice b n cap] w (LawPost w) := by
  by_cases h : 2048 < n
  · exact rc_long b cap n h w hT
  · subst hn
    exact rc_some b cap L (by omega) w hC hT
end Go.Proofs.YtonnlgpjobfnmaaDoor
