/- ChoiceFair's walk. Conditions: what the slice's cells hold. -/
import Derived.Test.YtdbllffkpkkggaaFairF
import Derived.Test.YtdbllffkpkkggaaWrap
namespace Go.Proofs.Ytdbllffkpkkggaa
open Go.RowKit Go.MuLone
set_option maxRecDepth 100000

/-- A slice of n bools that came in. -/
def BoolsAt (w : World) (a : Option Addr) (n : Nat) (rd : Nat → Bool) : Prop := ∀ j, j < n → ∃ g off, a = some ⟨g, off, none⟩ ∧ g < w.heap.size ∧ w.cell? ⟨g, off + j, none⟩ = some (.bool (rd j))
theorem BoolsAt.below {w w' : World} {a : Option Addr} {n : Nat} {rd : Nat → Bool} (h : BoolsAt w a n rd) (k : Below w.heap.size w w') : BoolsAt w' a n rd := fun j hj => by
  obtain ⟨g, off, e, hg, hc⟩ := h j hj
  exact ⟨g, off, e, Nat.lt_of_lt_of_le hg k.size, (k.cell (p := ⟨g, off + j, none⟩) hg).trans hc⟩
set_option maxHeartbeats 4000000 in
theorem choiceFair_walk (many rounds : Int) (ra : Option Addr) (n rc : Nat) (rd : Nat → Bool) (w : World) (hrd : BoolsAt w ra n rd) :
    Calls Try.prog 3 #[.int .i64 many, .int .i64 rounds, .slice ra n rc] w fun e w' => e = .returned (.bool true) ∧ Below w.heap.size w w' := by
  obtain ⟨i0, hi0, hz0, hz1, hz2⟩ := info_parts infoCase
  have hmkB : ∀ m : Nat, m ≤ 6 → ∀ W : World, (Instr.makeSlice 22 (.int .i64 (m : Int)) (.int .i64 (m : Int))).run Try.prog W = .ok (.slice (some ⟨W.heap.size, 0, none⟩) m m) (W.alloc (.cells (Array.replicate m (Value.bool false)) 4)) := fun m hm W => by
    obtain ⟨i1, a1, a2, a3, a4⟩ := info_parts infoBool
    exact mk_m _ _ i1 _ Try.underlying22 a1 a2 (by rw [Value.cells.eq_def]) a3 (by omega) m hm W
  have hmkI : ∀ m : Nat, m ≤ 6 → ∀ W : World, (Instr.makeSlice 37 (.int .i64 (m : Int)) (.int .i64 (m : Int))).run Try.prog W = .ok (.slice (some ⟨W.heap.size, 0, none⟩) m m) (W.alloc (.cells (Array.replicate m (Value.int .i64 0)) 3)) := fun m hm W => by
    obtain ⟨i1, a1, a2, a3, a4⟩ := info_parts infoInt
    exact mk_m _ _ i1 _ Try.underlying37 a1 a2 (by rw [Value.cells.eq_def]) a3 (by omega) m hm W
  have hmkL : ∀ m : Nat, m ≤ 6 → ∀ W : World, (Instr.makeSlice 38 (.int .i64 (m : Int)) (.int .i64 (m : Int))).run Try.prog W = .ok (.slice (some ⟨W.heap.size, 0, none⟩) m m) (W.alloc (.cells (Array.replicate m (Value.int .i64 0)) 2)) := fun m hm W => by
    obtain ⟨i1, a1, a2, a3, a4⟩ := info_parts infoI64
    exact mk_m _ _ i1 _ Try.underlying38 a1 a2 (by rw [Value.cells.eq_def]) a3 (by omega) m hm W
  have HMB := Lib.hid hmkB
  have HMI := Lib.hid hmkI
  have HML := Lib.hid hmkL
  have HRD := Lib.hid hrd
  clear hmkB hmkI hmkL hrd
  have HBELL := Lib.hid (isCell_new w 0)
  go_enter Try.func3, Try.ntmps3
  go_wp2_with fail
  refine (at_in many 6 (by omega) (by omega) _).mono ?_
  rintro e w' ⟨⟨m0, hm6, rfl⟩, rfl⟩
  obtain ⟨m, hm⟩ : ∃ m : Nat, (1 : Int) + m0 = m := ⟨1 + m0, by omega⟩
  go_wp2_with fail
  refine (at_in rounds 60 (by omega) (by omega) _).mono ?_
  rintro e w' ⟨⟨R, hR, rfl⟩, rfl⟩
  go_wp2_with (first | (go_at_call 5; refine (cell_new _ _).mono ?_; rintro e w' ⟨rfl, rfl⟩))
  refine (choice_new w.heap.size _).mono ?_
  rintro e w1 ⟨rfl, hw1⟩
  have hs1 : (w.alloc (cellObj 0)).heap.size = w.heap.size + 1 := by simp
  rw [hs1] at hw1
  have HB1 : Hid (Below w.heap.size w w1) := Lib.hid (hw1 ▸ thrice w _ _ _)
  have HC1 : Hid (ChoiceAt w1 (w.heap.size + 1 + 1) w.heap.size (w.heap.size + 1)) := Lib.hid (by rw [← hw1]; unfold ChoiceAt; refine Blk.new' _ _ _ _ ?_; simp)
  have HE1 : Hid (IsCell w1 w.heap.size 0) := Lib.hid (by rw [← hw1]; exact Blk.alloc (Blk.alloc HBELL.out _) _)
  have HT1 : Hid (IsCell w1 (w.heap.size + 1) 0) := Lib.hid (by rw [← hw1]; exact Blk.alloc (Blk.new' _ _ _ _ (by simp)) _)
  have L1 : Hid (w1.heap.size = w.heap.size + 3) := Lib.hid (by rw [← hw1]; simp)
  clear hw1 hs1
  have hm1 : 1 ≤ m := by omega
  have hm6' : m ≤ 6 := by omega
  clear hm hm6
  have hmk := HMB.out m hm6'
  go_wp2_with fail
  have hob : Hid (FnAt (w1.alloc (.cells (Array.replicate m (Value.bool false)) 4)) w1.heap.size 4 m (fun _ => .bool false)) := Lib.hid (fnAt_new w1 _ _ m)
  have HB2 : Hid (Below w.heap.size w (w1.alloc (.cells (Array.replicate m (Value.bool false)) 4))) := Lib.hid (HB1.out.alloc HB1.out.size _)
  have K1 : Hid (Below w1.heap.size w1 (w1.alloc (.cells (Array.replicate m (Value.bool false)) 4))) := Lib.hid ((Below.refl _ _).alloc (Nat.le_refl _) _)
  have L2 : Hid ((w1.alloc (.cells (Array.replicate m (Value.bool false)) 4)).heap.size = w.heap.size + 4) := Lib.hid (by have := L1.out; simp; omega)
  generalize w1.alloc (.cells (Array.replicate m (Value.bool false)) 4) = w2 at hob HB2 K1 L2 ⊢
  have HC2 := Lib.hid (show ChoiceAt w2 _ _ _ from HC1.out.below K1.out HC1.out.lt)
  have HE2 := Lib.hid (show IsCell w2 w.heap.size 0 from Blk.below HE1.out K1.out (Blk.lt HE1.out))
  have HT2 := Lib.hid (show IsCell w2 (w.heap.size + 1) 0 from Blk.below HT1.out K1.out (Blk.lt HT1.out))
  obtain ⟨ob, hobe⟩ : ∃ ob, ob = w1.heap.size := ⟨_, rfl⟩
  rw [← hobe] at hob ⊢
  have LO : Hid (ob = w.heap.size + 3) := Lib.hid (hobe.trans L1.out)
  clear hobe hmk K1 L1 HC1 HE1 HT1 HB1 HBELL
  go_loopw [9, 11, 12] (fun l so k wr => ∃ j : Nat, j ≤ m ∧ k = .int .i64 j ∧ so = .bool (anyOn n rd j) ∧ Hid (Below w.heap.size w wr) ∧ Hid (ChoiceAt wr (w.heap.size + 1 + 1) w.heap.size (w.heap.size + 1)) ∧ Hid (IsCell wr (w.heap.size + 1) 0) ∧ Hid (∃ y, IsCell wr w.heap.size y) ∧
    Hid (FnAt wr ob 4 m (fun q => .bool (if q < j then onF n rd q else false))) ∧ Hid (w.heap.size + 4 ≤ wr.heap.size) ∧ Hid (∃ lo hi p, Made wr (w.heap.size + 4) w.heap.size n R rd j l lo hi p)) (fun _ _ k _ => m + 1 - (intOf k).toNat)
  case atStart => exact ⟨0, by omega, rfl, rfl, HB2, HC2, HT2, Lib.hid ⟨_, HE2.out⟩, Lib.hid (hob.out.ext fun q hq => by simp), Lib.hid (by have := L2.out; omega), Lib.hid ⟨_, _, _, Made.start _ _ _ _ _ _⟩⟩
  case round =>
    clear HB2 HC2 HE2 HT2 hob L2
    obtain ⟨j, hj, rfl, rfl, HB, HC, HT, HE, HO, HL, HM⟩ := hrel
    by_cases hjm : j < m
    · have hx : decide ((j : Int) < m) = true := by simp; omega
      go_wp2_with fail
      refine (pipe_new 64 (by omega) (by omega) (by decide +kernel) w.heap.size _).mono ?_
      rintro e w3 ⟨p', i', o', bs, vp, rfl, hlen, hM⟩
      have HM3 := Lib.hid hM.1
      obtain ⟨lo', hlo'⟩ : ∃ a, a = wr.heap.size := ⟨_, rfl⟩
      obtain ⟨hi', hhi'⟩ : ∃ a, a = w3.heap.size := ⟨_, rfl⟩
      have HP3 : Hid (PipeS w3 lo' hi' w.heap.size p' 0 0 (valF j)) := Lib.hid (by rw [hlo', hhi']; exact PipeS.of_making hM hlen _)
      obtain ⟨lo, hi, p, hMd⟩ := HM.out
      have LQ : Hid (w.heap.size + 4 ≤ lo' ∧ lo' ≤ hi' ∧ hi' = w3.heap.size ∧ (∀ q, q < j → hi q ≤ lo') ∧ ∀ g, u9.ownBlock = some g → g < lo') := Lib.hid ⟨by rw [hlo']; exact HL.out, by rw [hlo', hhi']; exact hM.1.size, hhi', fun q hq => by rw [hlo']; exact (hMd.2.2.1 q hq).2, fun g hg => by
        obtain ⟨xs, hx, _⟩ := hMd.1
        rw [hlo']; exact (hx.lt g hg).2⟩
      have HM3' : Hid (Made w3 (w.heap.size + 4) w.heap.size n R rd j u9 lo hi p) := Lib.hid (hMd.below hM.1)
      have HB3 : Hid (Below w.heap.size w w3) := Lib.hid (HB.out.trans (hM.1.mono HB.out.size))
      have HC3 := Lib.hid (show ChoiceAt w3 _ _ _ from HC.out.below hM.1 HC.out.lt)
      have HT3 := Lib.hid (show IsCell w3 (w.heap.size + 1) 0 from Blk.below HT.out hM.1 (Blk.lt HT.out))
      have HE3 : Hid (∃ y, IsCell w3 w.heap.size y) := Lib.hid (by
        obtain ⟨y, hy⟩ := HE.out
        exact ⟨y, Blk.below hy hM.1 (Blk.lt hy)⟩)
      clear hM hlen hMd hlo' hhi' HM
      have HO3 := Lib.hid (HO.out.below HM3.out)
      have c1 : w3.cell? ⟨ob, j, none⟩ = some (.bool false) := (HO3.out.cell hjm).trans (by simp)
      have c2 := HO3.out.frozen j
      have hjm' : (j : Int) < m := by omega
      obtain ⟨ov, hov⟩ : ∃ ov, onF n rd j = ov := ⟨_, rfl⟩
      obtain ⟨sb, hsb⟩ : ∃ sb, anyOn n rd j = sb := ⟨_, rfl⟩
      rw [hsb]
      have HSB := Lib.hid hsb
      clear hsb
      rcases Nat.lt_or_ge j n with hn | hn
      · have d1 : decide (n ≤ j) = false := by simp; omega
        obtain ⟨g, off, rfl, hg, hc⟩ := (HRD.out.below HB.out).below HM3.out j hn
        have hov2 : rd j = ov := by rw [← hov]; simp [onF]; omega
        rw [hov2] at hc
        have hjn : (j : Int) < n := by omega
        have HOV := Lib.hid hov
        clear hov hov2
        cases ov
        · cases sb
          all_goals
            go_wp2_with fail
            clear hc hg hjn d1 c1 c2
            generalize hw4 : World.setCell _ _ _ = w4
            have K4 : Hid (Kept (fun q => q = ob) w3 w4) := Lib.hid (by rw [← hw4]; exact kept_store ob j _ w3)
            have hO4 := HO3.out.set hjm (.bool false)
            rw [hw4] at hO4
            have HO4 : Hid (FnAt w4 ob 4 m (fun q => .bool (if q < j + 1 then onF n rd q else false))) := Lib.hid (hO4.ext fun q hq => by
              by_cases e : q = j
              · subst e; rw [if_pos rfl, if_pos (by omega), HOV.out]
              · rw [if_neg e]
                by_cases e2 : q < j
                · rw [if_pos e2, if_pos (by omega)]
                · rw [if_neg e2, if_neg (by omega)])
            have HP4 : Hid (PipeS w4 lo' hi' w.heap.size p' 0 0 (valF j)) := Lib.hid (HP3.out.keep K4.out fun q h1 h2 e => by have := LO.out; have := LQ.out; omega)
            have HE4 : Hid (∃ y, IsCell w4 w.heap.size y) := Lib.hid (by
              obtain ⟨y, hy⟩ := HE3.out
              exact ⟨y, K4.out.cell hy (by have := LO.out; omega)⟩)
            have HM4 : Hid (Made w4 (w.heap.size + 4) w.heap.size n R rd j u9 lo hi p) := Lib.hid (HM3'.out.keep K4.out (fun q hq a h1 h2 e => by have := (HM3'.out.2.2.1 q hq).1; have := LO.out; omega) (fun g hg e => by
              obtain ⟨xs, hx, _⟩ := HM3'.out.1
              have := (hx.lt g hg).1; have := LO.out; omega))
            have HB4 : Hid (Below w.heap.size w w4) := Lib.hid (HB3.out.trans (K4.out.below HB3.out.size fun q e => by have := LO.out; omega))
            have HC4 := Lib.hid (show ChoiceAt w4 _ _ _ from K4.out.blk HC3.out (by have := LO.out; omega))
            have HT4 := Lib.hid (show IsCell w4 (w.heap.size + 1) 0 from K4.out.cell HT3.out (by have := LO.out; omega))
            have L4 : Hid (hi' ≤ w4.heap.size) := Lib.hid (by have := K4.out.size; have := LQ.out; omega)
            clear hw4 hO4 K4 HM3' HB3 HC3 HT3 HE3 HP3 HO3 HM3 HB HC HT HE HO HL
            go_loopw [15] (fun k wz => ∃ kk : Nat, kk ≤ sentF n rd R j ∧ k = .int .i64 kk ∧ Hid (PipeS wz lo' hi' w.heap.size p' kk 0 (valF j)) ∧ Hid (∃ y, IsCell wz w.heap.size y) ∧ Hid (Kept (Touched lo' hi' w.heap.size) w4 wz)) (fun k _ => R + 1 - (intOf k).toNat)
            case atStart => exact ⟨0, Nat.zero_le _, rfl, HP4, HE4, Lib.hid (Kept.refl _ _)⟩
            case round =>
              clear HP4 HE4
              obtain ⟨kk, hkk, rfl, HPZ, HEZ, HKZ⟩ := hrel
              have hsent : sentF n rd R j = 0 := by simp [sentF, HOV.out]
              rw [hsent] at hkk
              have HSENT := Lib.hid hsent
              clear hsent
              have HOZ : Hid (FnAt wr ob 4 m (fun q => .bool (if q < j + 1 then onF n rd q else false))) := Lib.hid (HO4.out.keep HKZ.out (by
                have := LO.out; have := LQ.out
                rintro (e | e) <;> omega))
              have c1 := (HOZ.out.cell hjm).trans (show _ = some (Value.bool false) by simp [HOV.out])
              by_cases hkR : kk < R
              · have d2 : decide (kk < R) = true := by simp; omega
                have HPX : Hid (PipeS wr lo' hi' w.heap.size p' (sentF n rd R j) 0 (valF j)) := Lib.hid (by rw [show sentF n rd R j = kk by rw [HSENT.out]; omega]; exact HPZ.out)
                have HMZ : Hid (Made wr (w.heap.size + 4) w.heap.size n R rd j u9 lo hi p) := Lib.hid (HM4.out.keep HKZ.out (fun q hq a h1 h2 => by
                  have := (HM4.out.2.2.1 q hq).1; have := LQ.out.2.2.2.1 q hq
                  rintro (e | e) <;> omega) (fun g hg => by
                  obtain ⟨xs, hx, _⟩ := HM4.out.1
                  have := (hx.lt g hg).1; have := LQ.out.2.2.2.2 g hg
                  rintro (e | e) <;> omega))
                obtain ⟨xs, hown0, hxs⟩ := HMZ.out.1
                have NB : Hid (Blk (wr.alloc (.cells #[.pointer (some ⟨p', 0, none⟩), .bool false, .int .i64 0] 36)) wr.heap.size 36 _) := Lib.hid (Blk.new _ _ _)
                have HOW := Lib.hid (hown0.alloc (.cells #[.pointer (some ⟨p', 0, none⟩), .bool false, .int .i64 0] 36))
                have HXS := Lib.hid hxs
                have N2 : Hid (j + 1 ≤ maxLen) := Lib.hid (by unfold maxLen; omega)
                have N3 : Hid ((j + 1) * 24 ≤ 140737488355328) := Lib.hid (by omega)
                have N4 : Hid (w.heap.size + 4 ≤ (wr.alloc (.cells #[.pointer (some ⟨p', 0, none⟩), .bool false, .int .i64 0] 36)).heap.size) := Lib.hid (by have := HKZ.out.size; have := LQ.out; have := L4.out; simp; omega)
                clear hown0 hxs
                go_wp2_with (first | (at_builtin; refine wpList_append_lies _ rfl _ _ 28 rfl (w.heap.size + 4) 36 i0 _ 3 24 Try.underlying28 hi0 hz0 hz1 hz2 rfl (by decide) _ j xs rfl HOW.out ⟨wr.heap.size, 0, none⟩ 1 1 [.pointer (some ⟨p', 0, none⟩), .bool false, .int .i64 0] rfl rfl (World.news_of_block NB.out) (by simp [Value.oneCell']) (by omega) N2.out N3.out N4.out _ rfl ?_; intro g cap w5 hown hgrow hat hlt; have HOWN := Lib.hid hown; have HGROW := Lib.hid hgrow; have HAT := Lib.hid hat; clear hown hgrow hat hlt))
                go_roundw
                case rel =>
                  have hown := HOWN.out
                  have hgrow := HGROW.out
                  have l4 := L4.out
                  have lq := LQ.out
                  have lo3 := LO.out
                  have hol : ∀ g, u9.ownBlock = some g → w.heap.size + 4 ≤ g ∧ g < lo' := fun g hg => by
                    obtain ⟨xs, hx, _⟩ := HM4.out.1
                    exact ⟨(hx.lt g hg).1, lq.2.2.2.2 g hg⟩
                  have k5 : Kept (fun q => Touched lo' hi' w.heap.size q ∨ u9.ownBlock = some q) w4 w5 := ((HKZ.out.alloc _).mono (fun q h => .inl h)).trans ⟨hgrow.os, hgrow.tape, hgrow.output, hgrow.size, fun q hq hs => hgrow.block q hq fun e => hs (.inr e.symm)⟩
                  have nS : ∀ q, q ≠ w.heap.size → q < w.heap.size + 4 → ¬ (Touched lo' hi' w.heap.size q ∨ u9.ownBlock = some q) := fun q h1 h2 => by
                    rintro ((e | e) | e)
                    · exact h1 e
                    · omega
                    · have := hol q e; omega
                  have hsz := k5.size
                  refine ⟨j + 1, by omega, by go_num, by simp [anyOn, HSB.out, HOV.out], Lib.hid (HB4.out.trans (k5.below HB4.out.size fun q e => ?_)), Lib.hid (k5.blk HC4.out (nS _ (by omega) (by omega))), Lib.hid (k5.cell HT4.out (nS _ (by omega) (by omega))), Lib.hid ?_, Lib.hid (HO4.out.keep k5 (nS _ (by omega) (by omega))), Lib.hid (by omega), Lib.hid ⟨_, _, _, Made.more (HMZ.out.below ((Below.refl _ _).alloc (Nat.le_refl _) _)) HOW.out HXS.out (HPX.out.keep (Kept.of_below (S := fun _ => False) ((Below.refl _ _).alloc (Nat.le_refl _) _)) (fun _ _ _ h => h)) lq.1 ?_ lq.2.2.2.1 (fun g hg => (hol g hg).2) hown hgrow ?_⟩⟩
                  · rcases e with (e | e) | e
                    · omega
                    · omega
                    · have := hol q e; omega
                  · obtain ⟨y, hy⟩ := HEZ.out
                    refine ⟨y, (hgrow.block _ (Blk.lt (Blk.alloc hy _)) fun e => ?_).trans (Blk.alloc hy _)⟩
                    have := hol _ e.symm
                    omega
                  · have := HKZ.out.size; simp; omega
                  · rcases HAT.out with e | e
                    · exact .inl e
                    · exact .inr (by rw [e]; exact Nat.le_refl _)
                case measure => simp [intOf]; omega
              · have d2 : decide (kk < R) = false := by simp; omega
                have HPX : Hid (PipeS wr lo' hi' w.heap.size p' (sentF n rd R j) 0 (valF j)) := Lib.hid (by rw [show sentF n rd R j = kk by rw [HSENT.out]; omega]; exact HPZ.out)
                have HMZ : Hid (Made wr (w.heap.size + 4) w.heap.size n R rd j u9 lo hi p) := Lib.hid (HM4.out.keep HKZ.out (fun q hq a h1 h2 => by
                  have := (HM4.out.2.2.1 q hq).1; have := LQ.out.2.2.2.1 q hq
                  rintro (e | e) <;> omega) (fun g hg => by
                  obtain ⟨xs, hx, _⟩ := HM4.out.1
                  have := (hx.lt g hg).1; have := LQ.out.2.2.2.2 g hg
                  rintro (e | e) <;> omega))
                obtain ⟨xs, hown0, hxs⟩ := HMZ.out.1
                have NB : Hid (Blk (wr.alloc (.cells #[.pointer (some ⟨p', 0, none⟩), .bool false, .int .i64 0] 36)) wr.heap.size 36 _) := Lib.hid (Blk.new _ _ _)
                have HOW := Lib.hid (hown0.alloc (.cells #[.pointer (some ⟨p', 0, none⟩), .bool false, .int .i64 0] 36))
                have HXS := Lib.hid hxs
                have N2 : Hid (j + 1 ≤ maxLen) := Lib.hid (by unfold maxLen; omega)
                have N3 : Hid ((j + 1) * 24 ≤ 140737488355328) := Lib.hid (by omega)
                have N4 : Hid (w.heap.size + 4 ≤ (wr.alloc (.cells #[.pointer (some ⟨p', 0, none⟩), .bool false, .int .i64 0] 36)).heap.size) := Lib.hid (by have := HKZ.out.size; have := LQ.out; have := L4.out; simp; omega)
                clear hown0 hxs
                go_wp2_with (first | (at_builtin; refine wpList_append_lies _ rfl _ _ 28 rfl (w.heap.size + 4) 36 i0 _ 3 24 Try.underlying28 hi0 hz0 hz1 hz2 rfl (by decide) _ j xs rfl HOW.out ⟨wr.heap.size, 0, none⟩ 1 1 [.pointer (some ⟨p', 0, none⟩), .bool false, .int .i64 0] rfl rfl (World.news_of_block NB.out) (by simp [Value.oneCell']) (by omega) N2.out N3.out N4.out _ rfl ?_; intro g cap w5 hown hgrow hat hlt; have HOWN := Lib.hid hown; have HGROW := Lib.hid hgrow; have HAT := Lib.hid hat; clear hown hgrow hat hlt))
                go_roundw
                case rel =>
                  have hown := HOWN.out
                  have hgrow := HGROW.out
                  have l4 := L4.out
                  have lq := LQ.out
                  have lo3 := LO.out
                  have hol : ∀ g, u9.ownBlock = some g → w.heap.size + 4 ≤ g ∧ g < lo' := fun g hg => by
                    obtain ⟨xs, hx, _⟩ := HM4.out.1
                    exact ⟨(hx.lt g hg).1, lq.2.2.2.2 g hg⟩
                  have k5 : Kept (fun q => Touched lo' hi' w.heap.size q ∨ u9.ownBlock = some q) w4 w5 := ((HKZ.out.alloc _).mono (fun q h => .inl h)).trans ⟨hgrow.os, hgrow.tape, hgrow.output, hgrow.size, fun q hq hs => hgrow.block q hq fun e => hs (.inr e.symm)⟩
                  have nS : ∀ q, q ≠ w.heap.size → q < w.heap.size + 4 → ¬ (Touched lo' hi' w.heap.size q ∨ u9.ownBlock = some q) := fun q h1 h2 => by
                    rintro ((e | e) | e)
                    · exact h1 e
                    · omega
                    · have := hol q e; omega
                  have hsz := k5.size
                  refine ⟨j + 1, by omega, by go_num, by simp [anyOn, HSB.out, HOV.out], Lib.hid (HB4.out.trans (k5.below HB4.out.size fun q e => ?_)), Lib.hid (k5.blk HC4.out (nS _ (by omega) (by omega))), Lib.hid (k5.cell HT4.out (nS _ (by omega) (by omega))), Lib.hid ?_, Lib.hid (HO4.out.keep k5 (nS _ (by omega) (by omega))), Lib.hid (by omega), Lib.hid ⟨_, _, _, Made.more (HMZ.out.below ((Below.refl _ _).alloc (Nat.le_refl _) _)) HOW.out HXS.out (HPX.out.keep (Kept.of_below (S := fun _ => False) ((Below.refl _ _).alloc (Nat.le_refl _) _)) (fun _ _ _ h => h)) lq.1 ?_ lq.2.2.2.1 (fun g hg => (hol g hg).2) hown hgrow ?_⟩⟩
                  · rcases e with (e | e) | e
                    · omega
                    · omega
                    · have := hol q e; omega
                  · obtain ⟨y, hy⟩ := HEZ.out
                    refine ⟨y, (hgrow.block _ (Blk.lt (Blk.alloc hy _)) fun e => ?_).trans (Blk.alloc hy _)⟩
                    have := hol _ e.symm
                    omega
                  · have := HKZ.out.size; simp; omega
                  · rcases HAT.out with e | e
                    · exact .inl e
                    · exact .inr (by rw [e]; exact Nat.le_refl _)
                case measure => simp [intOf]; omega
        · cases sb
          all_goals
            go_wp2_with fail
            clear hc hg hjn d1 c1 c2
            generalize hw4 : World.setCell _ _ _ = w4
            have K4 : Hid (Kept (fun q => q = ob) w3 w4) := Lib.hid (by rw [← hw4]; exact kept_store ob j _ w3)
            have hO4 := HO3.out.set hjm (.bool true)
            rw [hw4] at hO4
            have HO4 : Hid (FnAt w4 ob 4 m (fun q => .bool (if q < j + 1 then onF n rd q else false))) := Lib.hid (hO4.ext fun q hq => by
              by_cases e : q = j
              · subst e; rw [if_pos rfl, if_pos (by omega), HOV.out]
              · rw [if_neg e]
                by_cases e2 : q < j
                · rw [if_pos e2, if_pos (by omega)]
                · rw [if_neg e2, if_neg (by omega)])
            have HP4 : Hid (PipeS w4 lo' hi' w.heap.size p' 0 0 (valF j)) := Lib.hid (HP3.out.keep K4.out fun q h1 h2 e => by have := LO.out; have := LQ.out; omega)
            have HE4 : Hid (∃ y, IsCell w4 w.heap.size y) := Lib.hid (by
              obtain ⟨y, hy⟩ := HE3.out
              exact ⟨y, K4.out.cell hy (by have := LO.out; omega)⟩)
            have HM4 : Hid (Made w4 (w.heap.size + 4) w.heap.size n R rd j u9 lo hi p) := Lib.hid (HM3'.out.keep K4.out (fun q hq a h1 h2 e => by have := (HM3'.out.2.2.1 q hq).1; have := LO.out; omega) (fun g hg e => by
              obtain ⟨xs, hx, _⟩ := HM3'.out.1
              have := (hx.lt g hg).1; have := LO.out; omega))
            have HB4 : Hid (Below w.heap.size w w4) := Lib.hid (HB3.out.trans (K4.out.below HB3.out.size fun q e => by have := LO.out; omega))
            have HC4 := Lib.hid (show ChoiceAt w4 _ _ _ from K4.out.blk HC3.out (by have := LO.out; omega))
            have HT4 := Lib.hid (show IsCell w4 (w.heap.size + 1) 0 from K4.out.cell HT3.out (by have := LO.out; omega))
            have L4 : Hid (hi' ≤ w4.heap.size) := Lib.hid (by have := K4.out.size; have := LQ.out; omega)
            clear hw4 hO4 K4 HM3' HB3 HC3 HT3 HE3 HP3 HO3 HM3 HB HC HT HE HO HL
            go_loopw [15] (fun k wz => ∃ kk : Nat, kk ≤ sentF n rd R j ∧ k = .int .i64 kk ∧ Hid (PipeS wz lo' hi' w.heap.size p' kk 0 (valF j)) ∧ Hid (∃ y, IsCell wz w.heap.size y) ∧ Hid (Kept (Touched lo' hi' w.heap.size) w4 wz)) (fun k _ => R + 1 - (intOf k).toNat)
            case atStart => exact ⟨0, Nat.zero_le _, rfl, HP4, HE4, Lib.hid (Kept.refl _ _)⟩
            case round =>
              clear HP4 HE4
              obtain ⟨kk, hkk, rfl, HPZ, HEZ, HKZ⟩ := hrel
              have hsent : sentF n rd R j = R := by simp [sentF, HOV.out]
              rw [hsent] at hkk
              have HSENT := Lib.hid hsent
              clear hsent
              have HOZ : Hid (FnAt wr ob 4 m (fun q => .bool (if q < j + 1 then onF n rd q else false))) := Lib.hid (HO4.out.keep HKZ.out (by
                have := LO.out; have := LQ.out
                rintro (e | e) <;> omega))
              have c1 := (HOZ.out.cell hjm).trans (show _ = some (Value.bool true) by simp [HOV.out])
              by_cases hkR : kk < R
              · have d2 : decide (kk < R) = true := by simp; omega
                obtain ⟨y, hy⟩ := HEZ.out
                have HY := Lib.hid hy
                clear hy
                go_wp2_with fail
                refine (HPZ.out.send (1000 * (j : Int) + kk) (by omega) (Nat.zero_le _) HY.out (by have := LQ.out; omega)).mono ?_
                rintro e wn ⟨rfl, hp, hb, hk⟩
                have HPN := Lib.hid hp
                have HBN := Lib.hid hb
                have HKN := Lib.hid hk
                clear hp hb hk
                go_wp2_with fail
                go_roundw
                case rel =>
                  have e : (fun k => if k = kk then (1000 * (j : Int) + kk) else valF j k) = valF j := by
                    funext k
                    by_cases h : k = kk
                    · subst h; simp [valF]
                    · simp [h]
                  have hp := HPN.out
                  rw [e] at hp
                  exact ⟨kk + 1, by rw [HSENT.out]; omega, by go_num, Lib.hid hp, Lib.hid ⟨_, HBN.out⟩, Lib.hid (HKZ.out.trans HKN.out)⟩
                case measure => simp [intOf]; omega
              · have d2 : decide (kk < R) = false := by simp; omega
                have HPX : Hid (PipeS wr lo' hi' w.heap.size p' (sentF n rd R j) 0 (valF j)) := Lib.hid (by rw [show sentF n rd R j = kk by rw [HSENT.out]; omega]; exact HPZ.out)
                have HMZ : Hid (Made wr (w.heap.size + 4) w.heap.size n R rd j u9 lo hi p) := Lib.hid (HM4.out.keep HKZ.out (fun q hq a h1 h2 => by
                  have := (HM4.out.2.2.1 q hq).1; have := LQ.out.2.2.2.1 q hq
                  rintro (e | e) <;> omega) (fun g hg => by
                  obtain ⟨xs, hx, _⟩ := HM4.out.1
                  have := (hx.lt g hg).1; have := LQ.out.2.2.2.2 g hg
                  rintro (e | e) <;> omega))
                obtain ⟨xs, hown0, hxs⟩ := HMZ.out.1
                have NB : Hid (Blk (wr.alloc (.cells #[.pointer (some ⟨p', 0, none⟩), .bool false, .int .i64 0] 36)) wr.heap.size 36 _) := Lib.hid (Blk.new _ _ _)
                have HOW := Lib.hid (hown0.alloc (.cells #[.pointer (some ⟨p', 0, none⟩), .bool false, .int .i64 0] 36))
                have HXS := Lib.hid hxs
                have N2 : Hid (j + 1 ≤ maxLen) := Lib.hid (by unfold maxLen; omega)
                have N3 : Hid ((j + 1) * 24 ≤ 140737488355328) := Lib.hid (by omega)
                have N4 : Hid (w.heap.size + 4 ≤ (wr.alloc (.cells #[.pointer (some ⟨p', 0, none⟩), .bool false, .int .i64 0] 36)).heap.size) := Lib.hid (by have := HKZ.out.size; have := LQ.out; have := L4.out; simp; omega)
                clear hown0 hxs
                go_wp2_with (first | (at_builtin; refine wpList_append_lies _ rfl _ _ 28 rfl (w.heap.size + 4) 36 i0 _ 3 24 Try.underlying28 hi0 hz0 hz1 hz2 rfl (by decide) _ j xs rfl HOW.out ⟨wr.heap.size, 0, none⟩ 1 1 [.pointer (some ⟨p', 0, none⟩), .bool false, .int .i64 0] rfl rfl (World.news_of_block NB.out) (by simp [Value.oneCell']) (by omega) N2.out N3.out N4.out _ rfl ?_; intro g cap w5 hown hgrow hat hlt; have HOWN := Lib.hid hown; have HGROW := Lib.hid hgrow; have HAT := Lib.hid hat; clear hown hgrow hat hlt))
                go_roundw
                case rel =>
                  have hown := HOWN.out
                  have hgrow := HGROW.out
                  have l4 := L4.out
                  have lq := LQ.out
                  have lo3 := LO.out
                  have hol : ∀ g, u9.ownBlock = some g → w.heap.size + 4 ≤ g ∧ g < lo' := fun g hg => by
                    obtain ⟨xs, hx, _⟩ := HM4.out.1
                    exact ⟨(hx.lt g hg).1, lq.2.2.2.2 g hg⟩
                  have k5 : Kept (fun q => Touched lo' hi' w.heap.size q ∨ u9.ownBlock = some q) w4 w5 := ((HKZ.out.alloc _).mono (fun q h => .inl h)).trans ⟨hgrow.os, hgrow.tape, hgrow.output, hgrow.size, fun q hq hs => hgrow.block q hq fun e => hs (.inr e.symm)⟩
                  have nS : ∀ q, q ≠ w.heap.size → q < w.heap.size + 4 → ¬ (Touched lo' hi' w.heap.size q ∨ u9.ownBlock = some q) := fun q h1 h2 => by
                    rintro ((e | e) | e)
                    · exact h1 e
                    · omega
                    · have := hol q e; omega
                  have hsz := k5.size
                  refine ⟨j + 1, by omega, by go_num, by simp [anyOn, HSB.out, HOV.out], Lib.hid (HB4.out.trans (k5.below HB4.out.size fun q e => ?_)), Lib.hid (k5.blk HC4.out (nS _ (by omega) (by omega))), Lib.hid (k5.cell HT4.out (nS _ (by omega) (by omega))), Lib.hid ?_, Lib.hid (HO4.out.keep k5 (nS _ (by omega) (by omega))), Lib.hid (by omega), Lib.hid ⟨_, _, _, Made.more (HMZ.out.below ((Below.refl _ _).alloc (Nat.le_refl _) _)) HOW.out HXS.out (HPX.out.keep (Kept.of_below (S := fun _ => False) ((Below.refl _ _).alloc (Nat.le_refl _) _)) (fun _ _ _ h => h)) lq.1 ?_ lq.2.2.2.1 (fun g hg => (hol g hg).2) hown hgrow ?_⟩⟩
                  · rcases e with (e | e) | e
                    · omega
                    · omega
                    · have := hol q e; omega
                  · obtain ⟨y, hy⟩ := HEZ.out
                    refine ⟨y, (hgrow.block _ (Blk.lt (Blk.alloc hy _)) fun e => ?_).trans (Blk.alloc hy _)⟩
                    have := hol _ e.symm
                    omega
                  · have := HKZ.out.size; simp; omega
                  · rcases HAT.out with e | e
                    · exact .inl e
                    · exact .inr (by rw [e]; exact Nat.le_refl _)
                case measure => simp [intOf]; omega
      · have d1 : decide (n ≤ j) = true := by simp; omega
        have hov2 : ov = true := by rw [← hov]; simp [onF, hn]
        subst hov2
        have HOV := Lib.hid hov
        clear hov
        cases sb
        all_goals
          go_wp2_with fail
          clear d1 c1 c2
          generalize hw4 : World.setCell _ _ _ = w4
          have K4 : Hid (Kept (fun q => q = ob) w3 w4) := Lib.hid (by rw [← hw4]; exact kept_store ob j _ w3)
          have hO4 := HO3.out.set hjm (.bool true)
          rw [hw4] at hO4
          have HO4 : Hid (FnAt w4 ob 4 m (fun q => .bool (if q < j + 1 then onF n rd q else false))) := Lib.hid (hO4.ext fun q hq => by
            by_cases e : q = j
            · subst e; rw [if_pos rfl, if_pos (by omega), HOV.out]
            · rw [if_neg e]
              by_cases e2 : q < j
              · rw [if_pos e2, if_pos (by omega)]
              · rw [if_neg e2, if_neg (by omega)])
          have HP4 : Hid (PipeS w4 lo' hi' w.heap.size p' 0 0 (valF j)) := Lib.hid (HP3.out.keep K4.out fun q h1 h2 e => by have := LO.out; have := LQ.out; omega)
          have HE4 : Hid (∃ y, IsCell w4 w.heap.size y) := Lib.hid (by
            obtain ⟨y, hy⟩ := HE3.out
            exact ⟨y, K4.out.cell hy (by have := LO.out; omega)⟩)
          have HM4 : Hid (Made w4 (w.heap.size + 4) w.heap.size n R rd j u9 lo hi p) := Lib.hid (HM3'.out.keep K4.out (fun q hq a h1 h2 e => by have := (HM3'.out.2.2.1 q hq).1; have := LO.out; omega) (fun g hg e => by
            obtain ⟨xs, hx, _⟩ := HM3'.out.1
            have := (hx.lt g hg).1; have := LO.out; omega))
          have HB4 : Hid (Below w.heap.size w w4) := Lib.hid (HB3.out.trans (K4.out.below HB3.out.size fun q e => by have := LO.out; omega))
          have HC4 := Lib.hid (show ChoiceAt w4 _ _ _ from K4.out.blk HC3.out (by have := LO.out; omega))
          have HT4 := Lib.hid (show IsCell w4 (w.heap.size + 1) 0 from K4.out.cell HT3.out (by have := LO.out; omega))
          have L4 : Hid (hi' ≤ w4.heap.size) := Lib.hid (by have := K4.out.size; have := LQ.out; omega)
          clear hw4 hO4 K4 HM3' HB3 HC3 HT3 HE3 HP3 HO3 HM3 HB HC HT HE HO HL
          go_loopw [15] (fun k wz => ∃ kk : Nat, kk ≤ sentF n rd R j ∧ k = .int .i64 kk ∧ Hid (PipeS wz lo' hi' w.heap.size p' kk 0 (valF j)) ∧ Hid (∃ y, IsCell wz w.heap.size y) ∧ Hid (Kept (Touched lo' hi' w.heap.size) w4 wz)) (fun k _ => R + 1 - (intOf k).toNat)
          case atStart => exact ⟨0, Nat.zero_le _, rfl, HP4, HE4, Lib.hid (Kept.refl _ _)⟩
          case round =>
            clear HP4 HE4
            obtain ⟨kk, hkk, rfl, HPZ, HEZ, HKZ⟩ := hrel
            have hsent : sentF n rd R j = R := by simp [sentF, HOV.out]
            rw [hsent] at hkk
            have HSENT := Lib.hid hsent
            clear hsent
            have HOZ : Hid (FnAt wr ob 4 m (fun q => .bool (if q < j + 1 then onF n rd q else false))) := Lib.hid (HO4.out.keep HKZ.out (by
              have := LO.out; have := LQ.out
              rintro (e | e) <;> omega))
            have c1 := (HOZ.out.cell hjm).trans (show _ = some (Value.bool true) by simp [HOV.out])
            by_cases hkR : kk < R
            · have d2 : decide (kk < R) = true := by simp; omega
              obtain ⟨y, hy⟩ := HEZ.out
              have HY := Lib.hid hy
              clear hy
              go_wp2_with fail
              refine (HPZ.out.send (1000 * (j : Int) + kk) (by omega) (Nat.zero_le _) HY.out (by have := LQ.out; omega)).mono ?_
              rintro e wn ⟨rfl, hp, hb, hk⟩
              have HPN := Lib.hid hp
              have HBN := Lib.hid hb
              have HKN := Lib.hid hk
              clear hp hb hk
              go_wp2_with fail
              go_roundw
              case rel =>
                have e : (fun k => if k = kk then (1000 * (j : Int) + kk) else valF j k) = valF j := by
                  funext k
                  by_cases h : k = kk
                  · subst h; simp [valF]
                  · simp [h]
                have hp := HPN.out
                rw [e] at hp
                exact ⟨kk + 1, by rw [HSENT.out]; omega, by go_num, Lib.hid hp, Lib.hid ⟨_, HBN.out⟩, Lib.hid (HKZ.out.trans HKN.out)⟩
              case measure => simp [intOf]; omega
            · have d2 : decide (kk < R) = false := by simp; omega
              have HPX : Hid (PipeS wr lo' hi' w.heap.size p' (sentF n rd R j) 0 (valF j)) := Lib.hid (by rw [show sentF n rd R j = kk by rw [HSENT.out]; omega]; exact HPZ.out)
              have HMZ : Hid (Made wr (w.heap.size + 4) w.heap.size n R rd j u9 lo hi p) := Lib.hid (HM4.out.keep HKZ.out (fun q hq a h1 h2 => by
                have := (HM4.out.2.2.1 q hq).1; have := LQ.out.2.2.2.1 q hq
                rintro (e | e) <;> omega) (fun g hg => by
                obtain ⟨xs, hx, _⟩ := HM4.out.1
                have := (hx.lt g hg).1; have := LQ.out.2.2.2.2 g hg
                rintro (e | e) <;> omega))
              obtain ⟨xs, hown0, hxs⟩ := HMZ.out.1
              have NB : Hid (Blk (wr.alloc (.cells #[.pointer (some ⟨p', 0, none⟩), .bool false, .int .i64 0] 36)) wr.heap.size 36 _) := Lib.hid (Blk.new _ _ _)
              have HOW := Lib.hid (hown0.alloc (.cells #[.pointer (some ⟨p', 0, none⟩), .bool false, .int .i64 0] 36))
              have HXS := Lib.hid hxs
              have N2 : Hid (j + 1 ≤ maxLen) := Lib.hid (by unfold maxLen; omega)
              have N3 : Hid ((j + 1) * 24 ≤ 140737488355328) := Lib.hid (by omega)
              have N4 : Hid (w.heap.size + 4 ≤ (wr.alloc (.cells #[.pointer (some ⟨p', 0, none⟩), .bool false, .int .i64 0] 36)).heap.size) := Lib.hid (by have := HKZ.out.size; have := LQ.out; have := L4.out; simp; omega)
              clear hown0 hxs
              go_wp2_with (first | (at_builtin; refine wpList_append_lies _ rfl _ _ 28 rfl (w.heap.size + 4) 36 i0 _ 3 24 Try.underlying28 hi0 hz0 hz1 hz2 rfl (by decide) _ j xs rfl HOW.out ⟨wr.heap.size, 0, none⟩ 1 1 [.pointer (some ⟨p', 0, none⟩), .bool false, .int .i64 0] rfl rfl (World.news_of_block NB.out) (by simp [Value.oneCell']) (by omega) N2.out N3.out N4.out _ rfl ?_; intro g cap w5 hown hgrow hat hlt; have HOWN := Lib.hid hown; have HGROW := Lib.hid hgrow; have HAT := Lib.hid hat; clear hown hgrow hat hlt))
              go_roundw
              case rel =>
                have hown := HOWN.out
                have hgrow := HGROW.out
                have l4 := L4.out
                have lq := LQ.out
                have lo3 := LO.out
                have hol : ∀ g, u9.ownBlock = some g → w.heap.size + 4 ≤ g ∧ g < lo' := fun g hg => by
                  obtain ⟨xs, hx, _⟩ := HM4.out.1
                  exact ⟨(hx.lt g hg).1, lq.2.2.2.2 g hg⟩
                have k5 : Kept (fun q => Touched lo' hi' w.heap.size q ∨ u9.ownBlock = some q) w4 w5 := ((HKZ.out.alloc _).mono (fun q h => .inl h)).trans ⟨hgrow.os, hgrow.tape, hgrow.output, hgrow.size, fun q hq hs => hgrow.block q hq fun e => hs (.inr e.symm)⟩
                have nS : ∀ q, q ≠ w.heap.size → q < w.heap.size + 4 → ¬ (Touched lo' hi' w.heap.size q ∨ u9.ownBlock = some q) := fun q h1 h2 => by
                  rintro ((e | e) | e)
                  · exact h1 e
                  · omega
                  · have := hol q e; omega
                have hsz := k5.size
                refine ⟨j + 1, by omega, by go_num, by simp [anyOn, HSB.out, HOV.out], Lib.hid (HB4.out.trans (k5.below HB4.out.size fun q e => ?_)), Lib.hid (k5.blk HC4.out (nS _ (by omega) (by omega))), Lib.hid (k5.cell HT4.out (nS _ (by omega) (by omega))), Lib.hid ?_, Lib.hid (HO4.out.keep k5 (nS _ (by omega) (by omega))), Lib.hid (by omega), Lib.hid ⟨_, _, _, Made.more (HMZ.out.below ((Below.refl _ _).alloc (Nat.le_refl _) _)) HOW.out HXS.out (HPX.out.keep (Kept.of_below (S := fun _ => False) ((Below.refl _ _).alloc (Nat.le_refl _) _)) (fun _ _ _ h => h)) lq.1 ?_ lq.2.2.2.1 (fun g hg => (hol g hg).2) hown hgrow ?_⟩⟩
                · rcases e with (e | e) | e
                  · omega
                  · omega
                  · have := hol q e; omega
                · obtain ⟨y, hy⟩ := HEZ.out
                  refine ⟨y, (hgrow.block _ (Blk.lt (Blk.alloc hy _)) fun e => ?_).trans (Blk.alloc hy _)⟩
                  have := hol _ e.symm
                  omega
                · have := HKZ.out.size; simp; omega
                · rcases HAT.out with e | e
                  · exact .inl e
                  · exact .inr (by rw [e]; exact Nat.le_refl _)
              case measure => simp [intOf]; omega
    · have hx : decide ((j : Int) < m) = false := by simp; omega
      have hjm2 : m = j := by omega
      subst hjm2
      have hmkI := HMI.out m hm6'
      have hmkL := HML.out m hm6'
      obtain ⟨lo, hi, p, hMd⟩ := HM.out
      obtain ⟨gs, cap, rfl, hgs, hF, hOK⟩ := hMd.row hm1 (by omega) HE.out
      have hS : Hid (FairS w.heap.size (w.heap.size + 1 + 1) (w.heap.size + 1) gs m lo hi) := Lib.hid ⟨hOK, by omega, fun q hq => by have := (hMd.2.2.1 q hq).1; omega, fun q hq => by have := (hMd.2.2.1 q hq).1; omega⟩
      have hFT : Hid (FairT wr w.heap.size (w.heap.size + 1 + 1) (w.heap.size + 1) gs m lo hi p (sentF n rd R) (fun _ => 0) valF 0) := Lib.hid ⟨hF, HC.out, HT.out⟩
      have hHH : Hid (∀ q, q < m → w.heap.size + 4 ≤ lo q ∧ hi q ≤ wr.heap.size) := Lib.hid hMd.2.2.1
      have hGS : Hid (gs < wr.heap.size) := Lib.hid hF.glt
      clear hMd hF hOK HM HE
      obtain ⟨sb, hsb⟩ : ∃ sb, anyOn n rd m = sb := ⟨_, rfl⟩
      rw [hsb]
      have HSB := Lib.hid hsb
      clear hsb
      go_wp2_with fail
      generalize hwx : World.alloc (World.alloc _ _) _ = wx
      have B1 : Hid (Below wr.heap.size wr wx) := Lib.hid (by rw [← hwx]; exact ((Below.refl _ _).alloc (Nat.le_refl _) _).alloc (by simp) _)
      have FS : Hid (FnAt wx wr.heap.size 3 m (fun _ => .int .i64 0)) := Lib.hid (by rw [← hwx]; exact (fnAt_new wr _ _ m).below ((Below.refl _ _).alloc (Nat.le_refl _) _))
      have FX : Hid (FnAt wx (wr.heap.size + 1) 2 m (fun _ => .int .i64 0)) := Lib.hid (by
        rw [← hwx]
        have h := fnAt_new (wr.alloc (.cells (Array.replicate m (Value.int .i64 0)) 3)) 2 (.int .i64 0) m
        simpa using h)
      clear hwx hmkI hmkL
      have FT0 : Hid (FairT wx w.heap.size (w.heap.size + 1 + 1) (w.heap.size + 1) gs m lo hi p (sentF n rd R) (fun _ => 0) valF 0) := Lib.hid (hFT.out.keep (S := fun _ => False) (Kept.of_below B1.out) (fun h => h) (fun h => h) (fun h => h) (fun h => h) (fun _ _ _ _ _ h => h))
      have FO0 : Hid (FnAt wx ob 4 m (fun q => .bool (onF n rd q))) := Lib.hid ((HO.out.below B1.out).ext fun q hq => by rw [if_pos hq])
      have BW0 : Hid (Below w.heap.size w wx) := Lib.hid (HB.out.trans (B1.out.mono HB.out.size))
      obtain ⟨sbk, hsbk⟩ : ∃ a, a = wr.heap.size := ⟨_, rfl⟩
      rw [← hsbk] at FS FX hHH hGS ⊢
      have LZ : Hid (w.heap.size + 4 ≤ sbk ∧ sbk ≤ wx.heap.size ∧ ob = w.heap.size + 3) := Lib.hid ⟨by rw [hsbk]; exact HL.out, by rw [hsbk]; exact B1.out.size, LO.out⟩
      have NZ : Hid (∀ g, (g = ob ∨ sbk ≤ g) → ¬ Zone w.heap.size (w.heap.size + 1) m lo hi g) := Lib.hid (fun g hg => by
        have := LZ.out
        rintro (e | e | ⟨q, hq, e1, e2⟩)
        · omega
        · omega
        · have := hHH.out q hq; omega)
      clear hsbk hFT B1 HO HB HC HT HL
      cases sb
      all_goals
        go_loopw [18] (fun k wz => ∃ nn : Nat, nn ≤ R ∧ k = .int .i64 nn ∧ Hid (∃ nx sn : Nat → Nat, FairT wz w.heap.size (w.heap.size + 1 + 1) (w.heap.size + 1) gs m lo hi p (sentF n rd R) nx valF nn ∧ FnAt wz sbk 3 m (fun q => .int .i64 (sn q)) ∧ FnAt wz (sbk + 1) 2 m (fun q => .int .i64 (nx q)) ∧
          (∀ q, q < m → nx q ≤ nn ∧ nx q ≤ sentF n rd R q) ∧ (∀ q, q < m → sn q ≤ nn ∧ (onF n rd q = true → sn q ≤ bnd m nn q))) ∧ Hid (FnAt wz ob 4 m (fun q => .bool (onF n rd q))) ∧ Hid (Below w.heap.size w wz) ∧ Hid (sbk ≤ wz.heap.size)) (fun k _ => R + 1 - (intOf k).toNat)
        case atStart => exact ⟨0, by omega, rfl, Lib.hid ⟨fun _ => 0, fun _ => 0, FT0.out, FS.out, FX.out, fun q hq => ⟨Nat.le_refl _, Nat.zero_le _⟩, fun q hq => ⟨Nat.le_refl _, fun _ => Nat.zero_le _⟩⟩, FO0, BW0, Lib.hid LZ.out.2.1⟩
      · case round =>
        clear FT0 FS FX FO0 BW0
        obtain ⟨nn, hnn, rfl, HFA, HO, HB, HZ⟩ := hrel
        have HEND : Hid (∃ nx : Nat → Nat, FairT wr w.heap.size (w.heap.size + 1 + 1) (w.heap.size + 1) gs m lo hi p (sentF n rd R) nx valF nn ∧ ∀ q, q < m → nx q ≤ sentF n rd R q) := Lib.hid (by
          obtain ⟨nx, sn, h1, _, _, h2, _⟩ := HFA.out
          exact ⟨nx, h1, fun q hq => (h2 q hq).2⟩)
        rcases Nat.lt_or_ge nn R with hg | hg
        · have d2 : decide (nn < R) = true := by simp; omega
          obtain ⟨nx, hT, hN⟩ := HEND.out
          have HT := Lib.hid hT
          have HN := Lib.hid hN
          clear hT hN
          go_wp2_with fail
          refine (try_fair hS.out HT.out hm1 (by omega) (by omega) (fun q hq => ⟨by unfold sentF; split <;> omega, HN.out q hq⟩) (fun q hq => by have := hHH.out q hq; have := HZ.out; omega) cap).mono ?_
          rintro e wy ⟨⟨i, v, ok, rfl, hok⟩, hK⟩
          have HBY : Hid (Below w.heap.size w wy) := Lib.hid (HB.out.trans (hK.below HB.out.size (fun q hq => by
            rcases hq with e | e | ⟨q', hq', e1, e2⟩
            · omega
            · omega
            · have := hHH.out q' hq'; omega)))
          clear hK
          cases ok
          all_goals
            first
              | (have hi1 : i = -1 := by simpa using hok
                 subst hi1)
              | skip
            clear hok
            go_wp2_with (go_at_call 11; refine (works_choice _).mono ?_; rintro e we ⟨rfl, hbe⟩)
            go_ret
            exact ⟨rfl, HBY.out.trans (hbe.mono HBY.out.size)⟩
        · have d2 : decide (nn < R) = false := by simp; omega
          obtain ⟨nx, hT, hN⟩ := HEND.out
          have HT := Lib.hid hT
          have HN := Lib.hid hN
          clear hT hN
          go_wp2_with fail
          refine (try_fair hS.out HT.out hm1 (by omega) (by omega) (fun q hq => ⟨by unfold sentF; split <;> omega, HN.out q hq⟩) (fun q hq => by have := hHH.out q hq; have := HZ.out; omega) cap).mono ?_
          rintro e wy ⟨⟨i, v, ok, rfl, hok⟩, hK⟩
          have HBY : Hid (Below w.heap.size w wy) := Lib.hid (HB.out.trans (hK.below HB.out.size (fun q hq => by
            rcases hq with e | e | ⟨q', hq', e1, e2⟩
            · omega
            · omega
            · have := hHH.out q' hq'; omega)))
          clear hK
          cases ok
          all_goals
            first
              | (have hi1 : i = -1 := by simpa using hok
                 subst hi1)
              | skip
            clear hok
            go_wp2_with (go_at_call 11; refine (works_choice _).mono ?_; rintro e we ⟨rfl, hbe⟩)
            go_ret
            exact ⟨rfl, HBY.out.trans (hbe.mono HBY.out.size)⟩
      · case round =>
        clear FT0 FS FX FO0 BW0
        obtain ⟨nn, hnn, rfl, HFA, HO, HB, HZ⟩ := hrel
        rcases Nat.lt_or_ge nn R with hg | hg
        · have d2 : decide (nn < R) = true := by simp; omega
          obtain ⟨nx, sn, hT, hFS, hFX, hN, hSn⟩ := HFA.out
          have HT := Lib.hid hT
          have HFS := Lib.hid hFS
          have HFX := Lib.hid hFX
          have HN := Lib.hid hN
          have HSN := Lib.hid hSn
          clear hT hFS hFX hN hSn HFA
          go_wp2_with fail
          refine (select_fair hS.out HT.out hm1 (by omega) (by omega) (fun q hq => ⟨by unfold sentF; split <;> omega, (HN.out q hq).2⟩) (fun q hq => by have := hHH.out q hq; have := HZ.out; omega) cap (by
            obtain ⟨q0, hq0, hon0⟩ := (anyOn_iff n rd m).1 HSB.out
            refine ⟨q0, hq0, ?_⟩
            have := (HN.out q0 hq0).1
            simp [sentF, hon0]; omega)).mono ?_
          rintro e wy ⟨jj, hjj, hno, hr, rfl, hT', hK⟩
          have hno2 : Hid (∀ k, k < jj → onF n rd ((nn + k) % m) = false) := Lib.hid (fun k hk => by
            have h1 := hno k hk
            have h2 := (HN.out _ (Nat.mod_lt (nn + k) hm1)).1
            by_cases h : onF n rd ((nn + k) % m) = true
            · rw [h1] at h2; simp [sentF, h] at h2; omega
            · simpa using h)
          obtain ⟨I, hI⟩ : ∃ I, (nn + jj) % m = I := ⟨_, rfl⟩
          rw [hI] at hr hT' ⊢
          have hIm : I < m := by rw [← hI]; exact Nat.mod_lt _ hm1
          have hon : onF n rd I = true := by
            by_cases h : onF n rd I = true
            · exact h
            · simp [sentF, h] at hr
          have hsI : sentF n rd R I = R := by simp [sentF, hon]
          have HII := Lib.hid hI
          have HON := Lib.hid hon
          have HTY := Lib.hid hT'
          have hnx := (HN.out I hIm).1
          have HRI : Hid (nx I + 1 ≤ sentF n rd R I) := Lib.hid (by omega)
          have hlz := LZ.out
          have FOY := Lib.hid (HO.out.keep hK (NZ.out ob (.inl rfl)))
          have FSY := Lib.hid (HFS.out.keep hK (NZ.out sbk (.inr (Nat.le_refl _))))
          have FXY := Lib.hid (HFX.out.keep hK (NZ.out (sbk + 1) (.inr (by omega))))
          have HBY : Hid (Below w.heap.size w wy) := Lib.hid (HB.out.trans (hK.below HB.out.size (fun q hq => by
            rcases hq with e | e | ⟨q', hq', e1, e2⟩
            · omega
            · omega
            · have := hHH.out q' hq'; omega)))
          have HZY : Hid (sbk ≤ wy.heap.size) := Lib.hid (Nat.le_trans HZ.out hK.size)
          have c1 := (FOY.out.cell hIm).trans (show _ = some (Value.bool true) by rw [hon])
          have c2 := FXY.out.cell hIm
          have c3 := FXY.out.frozen I
          have hI3 : (I : Int) < m := by omega
          have hnx2 : (nx I : Int) < 60 := by omega
          simp only [valF]
          clear hK hT' hr hno hI hon hsI hlz
          go_wp2_with fail
          generalize hwn : World.setCell _ _ _ = wn
          have KN : Hid (Kept (fun q => q = sbk + 1) wy wn) := Lib.hid (by rw [← hwn]; exact kept_store (sbk + 1) I _ wy)
          have hFX' := FXY.out.set hIm (.int .i64 ((nx I : Int) + 1))
          rw [hwn] at hFX'
          have FXN : Hid (FnAt wn (sbk + 1) 2 m (fun q => .int .i64 (updN nx I (nx I + 1) q))) := Lib.hid (hFX'.ext fun q hq => by
            by_cases e : q = I
            · subst e; rw [if_pos rfl]; simp [updN]
            · rw [if_neg e]; simp [updN, e])
          have nzs : Hid (∀ g, sbk ≤ g → ¬ Zone w.heap.size (w.heap.size + 1) m lo hi g) := Lib.hid (fun g hg => NZ.out g (.inr hg))
          have HTN : Hid (FairT wn w.heap.size (w.heap.size + 1 + 1) (w.heap.size + 1) gs m lo hi p (sentF n rd R) (updN nx I (nx I + 1)) valF (nn + 1)) := Lib.hid (HTY.out.keep KN.out (by have := LZ.out; omega) (by have := hGS.out; omega) (by have := LZ.out; omega) (by have := LZ.out; omega) (fun q hq a h1 h2 e => by have := hHH.out q hq; omega))
          have FON := Lib.hid (FOY.out.keep KN.out (by have := LZ.out; omega))
          have FSN := Lib.hid (FSY.out.keep KN.out (by omega))
          have HBN : Hid (Below w.heap.size w wn) := Lib.hid (HBY.out.trans (KN.out.below HBY.out.size (fun q e => by have := LZ.out; omega)))
          have HZN : Hid (sbk ≤ wn.heap.size) := Lib.hid (Nat.le_trans HZY.out KN.out.size)
          clear hwn hFX' c1 c2 c3 KN HTY FOY FSY FXY HBY HZY HO HB HZ HT HFS HFX
          go_loopw [23] (fun k wz => ∃ kk : Nat, kk ≤ m ∧ k = .int .i64 kk ∧ Hid (FnAt wz sbk 3 m (fun q => .int .i64 ((if q < kk then (if q = I then 0 else sn q + 1) else sn q : Nat) : Int))) ∧ Hid (Kept (fun q => q = sbk) wn wz)) (fun k _ => m + 1 - (intOf k).toNat)
          case atStart => exact ⟨0, Nat.zero_le _, rfl, Lib.hid (FSN.out.ext fun q hq => by simp), Lib.hid (Kept.refl _ _)⟩
          case round =>
            clear FSN
            obtain ⟨kk, hkk, rfl, HFZ, HKZ⟩ := hrel
            have FOZ := Lib.hid (FON.out.keep HKZ.out (by have := LZ.out; omega))
            by_cases hkm : kk < m
            · have d3 : decide (kk < m) = true := by simp; omega
              have hk3 : (kk : Int) < m := by omega
              obtain ⟨ov, hov⟩ : ∃ ov, onF n rd kk = ov := ⟨_, rfl⟩
              have c1 := (FOZ.out.cell hkm).trans (show _ = some (Value.bool ov) by rw [hov])
              have c2 := (HFZ.out.cell hkm).trans (show _ = some (Value.int .i64 (sn kk)) by rw [if_neg (by omega)])
              have c3 := HFZ.out.frozen kk
              have hs60 := (HSN.out kk hkm).1
              have hs61 : (sn kk : Int) < 60 := by omega
              have HOV := Lib.hid hov
              have hne : ob ≠ sbk := by have := LZ.out; omega
              have hne2 : sbk ≠ ob := by have := LZ.out; omega
              by_cases hkI : kk = I
              · subst hkI
                clear hov
                cases ov
                all_goals
                  go_wp2_with fail
                  go_roundw
                  case rel =>
                    refine ⟨kk + 1, by omega, by go_num, Lib.hid (FnAt.ext ((HFZ.out.set hkm _).set hkm _) fun q hq => ?_), Lib.hid ((HKZ.out.put rfl _).put rfl _)⟩
                    by_cases e : q = kk
                    · subst e; simp
                    · by_cases e2 : q < kk
                      · simp [e, e2, show q < kk + 1 by omega]
                      · simp [e, e2, show ¬ q < kk + 1 by omega]
                  case measure => simp [intOf]; omega
              · have d4 : ((kk : Int) == (I : Int)) = false := by rw [beq_eq_false_iff_ne]; omega
                have HKI := Lib.hid hkI
                have hlt : ov = true → sn kk + 1 < m := fun h => by
                  have h1 := bnd_next (n := nn) (j := jj) (z := sn kk) hkm (hov.trans h) hno2.out (by rw [HII.out]; exact hkI) ((HSN.out kk hkm).2 (hov.trans h))
                  have h2 := bnd_lt (n := nn + 1) hkm
                  omega
                clear hov
                cases ov
                · clear hlt
                  go_wp2_with fail
                  go_roundw
                  case rel =>
                    refine ⟨kk + 1, by omega, by go_num, Lib.hid (FnAt.ext (HFZ.out.set hkm _) fun q hq => ?_), Lib.hid (HKZ.out.put rfl _)⟩
                    by_cases e : q = kk
                    · subst e; simp [HKI.out]
                    · by_cases e2 : q < kk
                      · simp [e, e2, show q < kk + 1 by omega]
                      · simp [e, e2, show ¬ q < kk + 1 by omega]
                  case measure => simp [intOf]; omega
                · have hlt2 : (sn kk : Int) + 1 < m := by have := hlt rfl; omega
                  clear hlt
                  go_wp2_with fail
                  go_roundw
                  case rel =>
                    refine ⟨kk + 1, by omega, by go_num, Lib.hid (FnAt.ext (HFZ.out.set hkm _) fun q hq => ?_), Lib.hid (HKZ.out.put rfl _)⟩
                    by_cases e : q = kk
                    · subst e; simp [HKI.out]
                    · by_cases e2 : q < kk
                      · simp [e, e2, show q < kk + 1 by omega]
                      · simp [e, e2, show ¬ q < kk + 1 by omega]
                  case measure => simp [intOf]; omega
            · have d3 : decide (kk < m) = false := by simp; omega
              go_wp2_with fail
              go_roundw
              case rel =>
                have hkm2 : kk = m := by omega
                have hz := HKZ.out.size
                refine ⟨nn + 1, by omega, by go_num, Lib.hid ⟨updN nx I (nx I + 1), fun q => if q = I then 0 else sn q + 1, HTN.out.keep HKZ.out (by have := LZ.out; omega) (by have := hGS.out; omega) (by have := LZ.out; omega) (by have := LZ.out; omega) (fun q hq a h1 h2 e => by have := hHH.out q hq; omega), HFZ.out.ext fun q hq => by rw [if_pos (by omega)], FXN.out.keep HKZ.out (by omega), fun q hq => ?_, fun q hq => ?_⟩, FOZ, Lib.hid (HBN.out.trans (HKZ.out.below HBN.out.size (fun q e => by have := LZ.out; omega))), Lib.hid (Nat.le_trans HZN.out hz)⟩
                · by_cases e : q = I
                  · subst e
                    have h1 := (HN.out q hq).1
                    have h2 := HRI.out
                    have e1 : updN nx q (nx q + 1) q = nx q + 1 := by simp [updN]
                    rw [e1]
                    omega
                  · have h1 := HN.out q hq
                    have e1 : updN nx I (nx I + 1) q = nx q := by simp [updN, e]
                    rw [e1]
                    omega
                · dsimp only
                  by_cases e : q = I
                  · rw [if_pos e]
                    exact ⟨by omega, fun _ => Nat.zero_le _⟩
                  · rw [if_neg e]
                    have h1 := HSN.out q hq
                    exact ⟨by omega, fun ho => bnd_next (j := jj) hq ho hno2.out (by rw [HII.out]; exact e) (h1.2 ho)⟩
              case measure => simp [intOf]; omega
        · have d2 : decide (nn < R) = false := by simp; omega
          have HEND : Hid (∃ nx : Nat → Nat, FairT wr w.heap.size (w.heap.size + 1 + 1) (w.heap.size + 1) gs m lo hi p (sentF n rd R) nx valF nn ∧ ∀ q, q < m → nx q ≤ sentF n rd R q) := Lib.hid (by
            obtain ⟨nx, sn, h1, _, _, h2, _⟩ := HFA.out
            exact ⟨nx, h1, fun q hq => (h2 q hq).2⟩)
          obtain ⟨nx, hT, hN⟩ := HEND.out
          have HT := Lib.hid hT
          have HN := Lib.hid hN
          clear hT hN
          go_wp2_with fail
          refine (try_fair hS.out HT.out hm1 (by omega) (by omega) (fun q hq => ⟨by unfold sentF; split <;> omega, HN.out q hq⟩) (fun q hq => by have := hHH.out q hq; have := HZ.out; omega) cap).mono ?_
          rintro e wy ⟨⟨i, v, ok, rfl, hok⟩, hK⟩
          have HBY : Hid (Below w.heap.size w wy) := Lib.hid (HB.out.trans (hK.below HB.out.size (fun q hq => by
            rcases hq with e | e | ⟨q', hq', e1, e2⟩
            · omega
            · omega
            · have := hHH.out q' hq'; omega)))
          clear hK
          cases ok
          all_goals
            first
              | (have hi1 : i = -1 := by simpa using hok
                 subst hi1)
              | skip
            clear hok
            go_wp2_with (go_at_call 11; refine (works_choice _).mono ?_; rintro e we ⟨rfl, hbe⟩)
            go_ret
            exact ⟨rfl, HBY.out.trans (hbe.mono HBY.out.size)⟩
end Go.Proofs.Ytdbllffkpkkggaa
