/- ChoiceNone's walk. No condition. -/
import Derived.Test.YtkgdpcmbbelipaaChoiceH
import Derived.Test.YtkgdpcmbbelipaaWrap
namespace Go.Proofs.Ytkgdpcmbbelipaa
open Go.RowKit Go.MuLone
set_option maxRecDepth 100000

set_option maxHeartbeats 4000000 in
theorem choiceNone_walk (v many bad : Int) (_h0 : (Lit.int .i64 v).wf = true) (_h1 : (Lit.int .i64 many).wf = true) (_h2 : (Lit.int .i64 bad).wf = true) (w : World) :
    Calls Try.prog 5 #[.int .i64 v, .int .i64 many, .int .i64 bad] w fun e w' => e = .returned (.bool true) ∧ Below w.heap.size w w' := by
  obtain ⟨i0, hi0, hz0, hz1, hz2⟩ := info_parts infoCase
  clear _h0 _h1 _h2
  have HBELL := Lib.hid (isCell_new w 0)
  go_enter Try.func5, Try.ntmps5
  go_wp2_with (first | (go_at_call 20; refine (at_in many 6 (by omega) (by omega) _).mono ?_; rintro e w' ⟨⟨m, hm6, rfl⟩, rfl⟩) | (go_at_call 21; refine (cell_new _ _).mono ?_; rintro e w' ⟨rfl, rfl⟩))
  refine (choice_new w.heap.size _).mono ?_
  rintro e w1 ⟨rfl, hw1⟩
  have hs1 : (w.alloc (cellObj 0)).heap.size = w.heap.size + 1 := by simp
  rw [hs1] at hw1
  have HB1 : Hid (Below w.heap.size w w1) := Lib.hid (hw1 ▸ thrice w _ _ _)
  have HC1 : Hid (ChoiceAt w1 (w.heap.size + 1 + 1) w.heap.size (w.heap.size + 1)) := Lib.hid (by rw [← hw1]; unfold ChoiceAt; refine Blk.new' _ _ _ _ ?_; simp)
  have HE1 : Hid (IsCell w1 w.heap.size 0) := Lib.hid (by rw [← hw1]; exact Blk.alloc (Blk.alloc HBELL.out _) _)
  have L1 : Hid (w1.heap.size = w.heap.size + 3) := Lib.hid (by rw [← hw1]; simp)
  clear hw1
  go_wp2_with (first | (go_at_call 22; refine (choice_new_nil _).mono ?_; rintro e w' ⟨rfl, rfl⟩))
  go_loopw [9, 10] (fun l k wr => ∃ j : Nat, j ≤ m ∧ k = .int .i64 j ∧ Hid (Rowed w1 wr w.heap.size j l)) (fun _ k _ => m + 1 - (intOf k).toNat)
  case atStart => exact ⟨0, by omega, rfl, Lib.hid ⟨Below.refl _ _, [], World.ownsRow_nil _ _ _ _, by intro t ht; omega⟩⟩
  case round =>
    obtain ⟨j, hj, rfl, HR⟩ := hrel
    by_cases hjm : j < m
    · have hx : decide ((j : Int) < m) = true := by simp; omega
      go_wp2_with fail
      refine (pipe_new 2 (by omega) (by omega) (by decide +kernel) w.heap.size _).mono ?_
      rintro e w2 ⟨p, i, o, bs, vp, rfl, hl, hM⟩
      have HM := Lib.hid hM.1
      have HBP := Lib.hid hM.bell
      clear hM hl
      have HR2 := Lib.hid (HR.out.below HM.out)
      obtain ⟨hb0, xs, hown0, hcs⟩ := HR2.out
      have NB : Hid (Blk (w2.alloc (.cells #[.pointer (some ⟨p, 0, none⟩), .bool ((j : Int) % 2 == 0), .int .i64 v] 62)) w2.heap.size 62 _) := Lib.hid (Blk.new _ _ _)
      have HO := Lib.hid (hown0.alloc (.cells #[.pointer (some ⟨p, 0, none⟩), .bool ((j : Int) % 2 == 0), .int .i64 v] 62))
      have HXS := Lib.hid hcs
      have HB0 := Lib.hid hb0
      have N2 : Hid (j + 1 ≤ maxLen) := Lib.hid (by unfold maxLen; omega)
      have N3 : Hid ((j + 1) * 24 ≤ 140737488355328) := Lib.hid (by omega)
      have N4 : Hid (w1.heap.size ≤ (w2.alloc (.cells #[.pointer (some ⟨p, 0, none⟩), .bool ((j : Int) % 2 == 0), .int .i64 v] 62)).heap.size) := Lib.hid (by have := hb0.size; simp; omega)
      clear hb0 hown0 hcs
      go_wp2_with (first | (at_builtin; refine wpList_append_lies _ rfl _ _ 57 rfl w1.heap.size 62 i0 _ 3 24 Try.underlying57 hi0 hz0 hz1 hz2 rfl (by decide) _ j xs rfl HO.out ⟨w2.heap.size, 0, none⟩ 1 1 [.pointer (some ⟨p, 0, none⟩), .bool ((j : Int) % 2 == 0), .int .i64 v] rfl rfl (World.news_of_block NB.out) (by simp [Value.oneCell']) (by omega) N2.out N3.out N4.out _ rfl ?_; intro g cap w3 hown hgrow hat hlt; have HOWN := Lib.hid hown; have HGROW := Lib.hid hgrow; clear hown hgrow hat hlt))
      go_roundw
      case rel => exact ⟨j + 1, by omega, by go_num, Lib.hid (Rowed.more (HB0.out.alloc HB0.out.size _) HO.out (HXS.out.map fun q hq => hq.below ((Below.refl _ _).alloc (Nat.le_refl _) _)) (HBP.out.below ((Below.refl _ _).alloc (Nat.le_refl _) _)) HOWN.out HGROW.out)⟩
      case measure => simp [intOf]; omega
    · have hx : decide ((j : Int) < m) = false := by simp; omega
      have hjm2 : j = m := by omega
      subst hjm2
      by_cases hj0 : j = 0
      · subst hj0
        obtain ⟨a, cap, rfl⟩ := HR.out.slice
        have HCZ := Lib.hid (show ChoiceAt wr _ _ _ from HC1.out.below HR.out.1 HC1.out.lt)
        have HREF := Lib.hid (refuses_empty HCZ.out a cap)
        have HBZ := Lib.hid (HB1.out.trans (HR.out.1.mono HB1.out.size))
        have HEZ := Lib.hid (show IsCell wr w.heap.size 0 from Blk.below HE1.out HR.out.1 (Blk.lt HE1.out))
        go_wp2_with fail
        refine (select_refused _ _ 25 (by decide) _ (HREF.out _ (Below.refl _ _))).mono ?_
        rintro e wa ⟨rfl, hba⟩
        have HBA := Lib.hid hba
        clear hba
        go_wp2_with fail
        refine (try_refused _ _ 25 (by decide) _ (HREF.out _ HBA.out)).mono ?_
        rintro e wb ⟨rfl, hbb⟩
        have HBB := Lib.hid hbb
        clear hbb
        have HBARE : Hid ((wb.alloc (.cells #[.pointer none, .pointer none] 69)).cell? ⟨wb.heap.size, 0, none⟩ = some (.pointer none)) := Lib.hid (by rw [(Blk.new wb _ _).cell]; rfl)
        go_wp2_with fail
        refine (select_refused _ _ 2 (by decide) _ (refuses_nil _ _ _ _ _ (Below.refl _ _))).mono ?_
        rintro e wc ⟨rfl, hbc⟩
        have HBC := Lib.hid hbc
        clear hbc
        have HBARE2 := Lib.hid ((HBC.out.cell (by simp)).trans HBARE.out)
        go_wp2_with fail
        refine (try_refused _ _ 2 (by decide) _ (refuses_bare HBARE2.out _ _ _ _ (Below.refl _ _))).mono ?_
        rintro e wd ⟨rfl, hbd⟩
        have HBD := Lib.hid hbd
        clear hbd
        have HBZD := Lib.hid (((HBA.out.trans (HBB.out.mono HBA.out.size)).alloc (Nat.le_trans HBA.out.size HBB.out.size) _).trans ((HBC.out.trans (HBD.out.mono HBC.out.size)).mono (Nat.le_trans HBA.out.size (Nat.le_trans HBB.out.size (by simp)))))
        have HED := Lib.hid (Blk.below HEZ.out HBZD.out (Blk.lt HEZ.out))
        go_wp2_with (first | (go_at_call 26; refine (cell_load _ 0 _ HED.out).mono ?_; rintro e w' ⟨rfl, rfl⟩))
        refine (works_choice _).mono ?_
        rintro e we ⟨rfl, hbe⟩
        have HBE := Lib.hid hbe
        clear hbe
        go_wp2
        go_ret
        exact ⟨rfl, (HBZ.out.trans (HBZD.out.mono HBZ.out.size)).trans (HBE.out.mono (Nat.le_trans HBZ.out.size HBZD.out.size))⟩
      · have hx0 : decide (0 < (j : Int)) = true := by simp; omega
        obtain ⟨g, cap, cs, xs, rfl, hg1, hmc, hgb, hgs, htk, hcs⟩ := HR.out.row (by omega)
        have HGB := Lib.hid hgb
        have HGS := Lib.hid hgs
        have HTK := Lib.hid htk
        have HXS := Lib.hid hcs
        have HMC := Lib.hid hmc
        have HG1 := Lib.hid hg1
        have HJ0 : Hid (0 < j) := Lib.hid (by omega)
        clear hgb hgs htk hcs hmc hg1 hj0
        have HCW := Lib.hid (show ChoiceAt wr _ _ _ from HC1.out.below HR.out.1 HC1.out.lt)
        have HBW := Lib.hid (HB1.out.trans (HR.out.1.mono HB1.out.size))
        have HEW := Lib.hid (show IsCell wr w.heap.size 0 from Blk.below HE1.out HR.out.1 (Blk.lt HE1.out))
        have LG : Hid (w.heap.size + 3 ≤ g ∧ w.heap.size + 3 ≤ wr.heap.size) := Lib.hid (by have := L1.out; have := HG1.out; have := HR.out.1.size; omega)
        go_wp2_with fail
        refine (at_in bad 3 (by omega) (by omega) _).mono ?_
        rintro e w' ⟨⟨k3, hk3, rfl⟩, rfl⟩
        rcases (show k3 = 0 ∨ k3 = 1 ∨ k3 = 2 by omega) with rfl | rfl | rfl
        · go_wp2_with fail
          refine (at_in bad j HJ0.out (by omega) _).mono ?_
          rintro e w' ⟨⟨f, hf, rfl⟩, rfl⟩
          have hb1 : (f : Int) < j := by omega
          obtain ⟨u, hu⟩ := blk_some HGB.out HMC.out HGS.out hf
          have hfz := HGB.out.frozen (f * 3)
          go_wp2_with fail
          have KZ : Hid (Kept (fun q => q = g) wr (wr.setCell ⟨g, f * 3, none⟩ (.pointer none))) := Lib.hid (kept_store g (f * 3) _ wr)
          have HCA := Lib.hid (cases_set none HGB.out HGS.out HMC.out HTK.out HXS.out hf)
          have HCZ := Lib.hid (show ChoiceAt _ _ _ _ from KZ.out.blk HCW.out (by have := LG.out; omega))
          have HREF := Lib.hid (refuses_none cap none HCZ.out (by omega) hf HCA.out HXS.out (fun p hp => hp.store HGB.out _ _) (.inl ⟨rfl, rfl⟩))
          have HBZ := Lib.hid (HBW.out.trans (KZ.out.below HBW.out.size (fun q hq => by have := LG.out; omega)))
          have HEZ := Lib.hid (KZ.out.cell HEW.out (by have := LG.out; omega))
          refine (select_refused _ _ 2 (by decide) _ (HREF.out _ (Below.refl _ _))).mono ?_
          rintro e wa ⟨rfl, hba⟩
          have HBA := Lib.hid hba
          clear hba
          go_wp2_with fail
          refine (try_refused _ _ 2 (by decide) _ (HREF.out _ HBA.out)).mono ?_
          rintro e wb ⟨rfl, hbb⟩
          have HBB := Lib.hid hbb
          clear hbb
          have HBARE : Hid ((wb.alloc (.cells #[.pointer none, .pointer none] 69)).cell? ⟨wb.heap.size, 0, none⟩ = some (.pointer none)) := Lib.hid (by rw [(Blk.new wb _ _).cell]; rfl)
          go_wp2_with fail
          refine (select_refused _ _ 2 (by decide) _ (refuses_nil _ _ _ _ _ (Below.refl _ _))).mono ?_
          rintro e wc ⟨rfl, hbc⟩
          have HBC := Lib.hid hbc
          clear hbc
          have HBARE2 := Lib.hid ((HBC.out.cell (by simp)).trans HBARE.out)
          go_wp2_with fail
          refine (try_refused _ _ 2 (by decide) _ (refuses_bare HBARE2.out _ _ _ _ (Below.refl _ _))).mono ?_
          rintro e wd ⟨rfl, hbd⟩
          have HBD := Lib.hid hbd
          clear hbd
          have HBZD := Lib.hid (((HBA.out.trans (HBB.out.mono HBA.out.size)).alloc (Nat.le_trans HBA.out.size HBB.out.size) _).trans ((HBC.out.trans (HBD.out.mono HBC.out.size)).mono (Nat.le_trans HBA.out.size (Nat.le_trans HBB.out.size (by simp)))))
          have HED := Lib.hid (Blk.below HEZ.out HBZD.out (Blk.lt HEZ.out))
          go_wp2_with (first | (go_at_call 26; refine (cell_load _ 0 _ HED.out).mono ?_; rintro e w' ⟨rfl, rfl⟩))
          refine (works_choice _).mono ?_
          rintro e we ⟨rfl, hbe⟩
          have HBE := Lib.hid hbe
          clear hbe
          go_wp2
          go_ret
          exact ⟨rfl, (HBZ.out.trans (HBZD.out.mono HBZ.out.size)).trans (HBE.out.mono (Nat.le_trans HBZ.out.size HBZD.out.size))⟩
        · go_wp2_with fail
          refine (at_in bad j HJ0.out (by omega) _).mono ?_
          rintro e w' ⟨⟨f, hf, rfl⟩, rfl⟩
          have hb1 : (f : Int) < j := by omega
          go_wp2_with fail
          refine (pipe_new_nil 2 (by omega) (by omega) (by decide +kernel) _).mono ?_
          rintro e w2 ⟨⟨q, qi, qo, bs, vp, rfl, hl, hM⟩, hb2⟩
          have HM := Lib.hid hM.1
          have HBP := Lib.hid hM.bell
          have HB2 := Lib.hid hb2
          clear hM hl hb2
          have HGB2 := Lib.hid (HGB.out.below HM.out HGB.out.lt)
          obtain ⟨u, hu⟩ := blk_some HGB2.out HMC.out HGS.out hf
          have hfz := HGB2.out.frozen (f * 3)
          go_wp2_with fail
          have K1 : Hid (Kept (fun q => q = g) wr (w2.setCell ⟨g, f * 3, none⟩ (.pointer (some ⟨q, 0, none⟩)))) := Lib.hid ((Kept.of_below HM.out).trans (kept_store g (f * 3) _ _))
          have HBQ := Lib.hid (HBP.out.store HGB2.out (f * 3) (.pointer (some ⟨q, 0, none⟩)))
          have HB3 := Lib.hid (show IsCell (w2.setCell ⟨g, f * 3, none⟩ (.pointer (some ⟨q, 0, none⟩))) (wr.heap.size + 3) 0 from Blk.far HB2.out (p := ⟨g, f * 3, none⟩) (by have := HGB.out.lt; simp; omega) _)
          have HCA := Lib.hid (cases_set (some ⟨q, 0, none⟩) HGB2.out HGS.out HMC.out HTK.out HXS.out hf)
          have HCZ := Lib.hid (show ChoiceAt _ _ _ _ from K1.out.blk HCW.out (by have := LG.out; omega))
          have HEZ := Lib.hid (K1.out.cell HEW.out (by have := LG.out; omega))
          have HREF := Lib.hid (refuses_other cap HCZ.out (by omega) hf HCA.out HXS.out (fun p hp => (hp.below HM.out).store HGB2.out _ _) HBQ.out HEZ.out HB3.out (by have := LG.out; omega))
          have HBZ := Lib.hid (HBW.out.trans (K1.out.below HBW.out.size (fun q hq => by have := LG.out; omega)))
          refine (select_refused _ _ 1 (by decide) _ (HREF.out _ (Below.refl _ _))).mono ?_
          rintro e wa ⟨rfl, hba⟩
          have HBA := Lib.hid hba
          clear hba
          go_wp2_with fail
          refine (try_refused _ _ 1 (by decide) _ (HREF.out _ HBA.out)).mono ?_
          rintro e wb ⟨rfl, hbb⟩
          have HBB := Lib.hid hbb
          clear hbb
          have HBARE : Hid ((wb.alloc (.cells #[.pointer none, .pointer none] 69)).cell? ⟨wb.heap.size, 0, none⟩ = some (.pointer none)) := Lib.hid (by rw [(Blk.new wb _ _).cell]; rfl)
          go_wp2_with fail
          refine (select_refused _ _ 2 (by decide) _ (refuses_nil _ _ _ _ _ (Below.refl _ _))).mono ?_
          rintro e wc ⟨rfl, hbc⟩
          have HBC := Lib.hid hbc
          clear hbc
          have HBARE2 := Lib.hid ((HBC.out.cell (by simp)).trans HBARE.out)
          go_wp2_with fail
          refine (try_refused _ _ 2 (by decide) _ (refuses_bare HBARE2.out _ _ _ _ (Below.refl _ _))).mono ?_
          rintro e wd ⟨rfl, hbd⟩
          have HBD := Lib.hid hbd
          clear hbd
          have HBZD := Lib.hid (((HBA.out.trans (HBB.out.mono HBA.out.size)).alloc (Nat.le_trans HBA.out.size HBB.out.size) _).trans ((HBC.out.trans (HBD.out.mono HBC.out.size)).mono (Nat.le_trans HBA.out.size (Nat.le_trans HBB.out.size (by simp)))))
          have HED := Lib.hid (Blk.below HEZ.out HBZD.out (Blk.lt HEZ.out))
          go_wp2_with (first | (go_at_call 26; refine (cell_load _ 0 _ HED.out).mono ?_; rintro e w' ⟨rfl, rfl⟩))
          refine (works_choice _).mono ?_
          rintro e we ⟨rfl, hbe⟩
          have HBE := Lib.hid hbe
          clear hbe
          go_wp2
          go_ret
          exact ⟨rfl, (HBZ.out.trans (HBZD.out.mono HBZ.out.size)).trans (HBE.out.mono (Nat.le_trans HBZ.out.size HBZD.out.size))⟩
        · go_wp2_with fail
          refine (at_in bad j HJ0.out (by omega) _).mono ?_
          rintro e w' ⟨⟨f, hf, rfl⟩, rfl⟩
          have hb1 : (f : Int) < j := by omega
          have K0 : Hid (Below wr.heap.size wr (wr.alloc (.cells #[.pointer none, .pointer none, .pointer none, .slice none 0 0] 65))) := Lib.hid ((Below.refl _ _).alloc (Nat.le_refl _) _)
          have HGB2 := Lib.hid (HGB.out.below K0.out HGB.out.lt)
          obtain ⟨u, hu⟩ := blk_some HGB2.out HMC.out HGS.out hf
          have hfz := HGB2.out.frozen (f * 3)
          go_wp2_with fail
          have K1 : Hid (Kept (fun q => q = g) wr ((wr.alloc (.cells #[.pointer none, .pointer none, .pointer none, .slice none 0 0] 65)).setCell ⟨g, f * 3, none⟩ (.pointer (some ⟨wr.heap.size, 0, none⟩)))) := Lib.hid ((Kept.of_below K0.out).trans (kept_store g (f * 3) _ _))
          have HBP : Hid (BellIs ((wr.alloc (.cells #[.pointer none, .pointer none, .pointer none, .slice none 0 0] 65)).setCell ⟨g, f * 3, none⟩ (.pointer (some ⟨wr.heap.size, 0, none⟩))) (.pointer (some ⟨wr.heap.size, 0, none⟩)) none) :=
            Lib.hid (.inr (.inl ⟨_, rfl, by rw [Blk.cell (Blk.far (Blk.new _ _ _) (p := ⟨g, f * 3, none⟩) (by have := HGB.out.lt; simp; omega) _)]; rfl, rfl⟩))
          have HCA := Lib.hid (cases_set (some ⟨wr.heap.size, 0, none⟩) HGB2.out HGS.out HMC.out HTK.out HXS.out hf)
          have HCZ := Lib.hid (show ChoiceAt _ _ _ _ from K1.out.blk HCW.out (by have := LG.out; omega))
          have HREF := Lib.hid (refuses_none cap _ HCZ.out (by omega) hf HCA.out HXS.out (fun p hp => (hp.below K0.out).store HGB2.out _ _) HBP.out)
          have HBZ := Lib.hid (HBW.out.trans (K1.out.below HBW.out.size (fun q hq => by have := LG.out; omega)))
          have HEZ := Lib.hid (K1.out.cell HEW.out (by have := LG.out; omega))
          refine (select_refused _ _ 2 (by decide) _ (HREF.out _ (Below.refl _ _))).mono ?_
          rintro e wa ⟨rfl, hba⟩
          have HBA := Lib.hid hba
          clear hba
          go_wp2_with fail
          refine (try_refused _ _ 2 (by decide) _ (HREF.out _ HBA.out)).mono ?_
          rintro e wb ⟨rfl, hbb⟩
          have HBB := Lib.hid hbb
          clear hbb
          have HBARE : Hid ((wb.alloc (.cells #[.pointer none, .pointer none] 69)).cell? ⟨wb.heap.size, 0, none⟩ = some (.pointer none)) := Lib.hid (by rw [(Blk.new wb _ _).cell]; rfl)
          go_wp2_with fail
          refine (select_refused _ _ 2 (by decide) _ (refuses_nil _ _ _ _ _ (Below.refl _ _))).mono ?_
          rintro e wc ⟨rfl, hbc⟩
          have HBC := Lib.hid hbc
          clear hbc
          have HBARE2 := Lib.hid ((HBC.out.cell (by simp)).trans HBARE.out)
          go_wp2_with fail
          refine (try_refused _ _ 2 (by decide) _ (refuses_bare HBARE2.out _ _ _ _ (Below.refl _ _))).mono ?_
          rintro e wd ⟨rfl, hbd⟩
          have HBD := Lib.hid hbd
          clear hbd
          have HBZD := Lib.hid (((HBA.out.trans (HBB.out.mono HBA.out.size)).alloc (Nat.le_trans HBA.out.size HBB.out.size) _).trans ((HBC.out.trans (HBD.out.mono HBC.out.size)).mono (Nat.le_trans HBA.out.size (Nat.le_trans HBB.out.size (by simp)))))
          have HED := Lib.hid (Blk.below HEZ.out HBZD.out (Blk.lt HEZ.out))
          go_wp2_with (first | (go_at_call 26; refine (cell_load _ 0 _ HED.out).mono ?_; rintro e w' ⟨rfl, rfl⟩))
          refine (works_choice _).mono ?_
          rintro e we ⟨rfl, hbe⟩
          have HBE := Lib.hid hbe
          clear hbe
          go_wp2
          go_ret
          exact ⟨rfl, (HBZ.out.trans (HBZD.out.mono HBZ.out.size)).trans (HBE.out.mono (Nat.le_trans HBZ.out.size HBZD.out.size))⟩
end Go.Proofs.Ytkgdpcmbbelipaa
