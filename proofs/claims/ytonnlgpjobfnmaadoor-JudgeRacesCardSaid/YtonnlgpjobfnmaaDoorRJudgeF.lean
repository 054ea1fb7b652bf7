/- judge.clocks: the walk. Conditions: a log that may be judged, of 2048 entries at most. -/
import Derived.Test.YtonnlgpjobfnmaaDoorRJudgeE
import Derived.Test.YtonnlgpjobfnmaaDoorRBuild
import Derived.Deep.DeepCutAuto
namespace Go.Proofs.YtonnlgpjobfnmaaDoor
open Go.RowKit
set_option maxRecDepth 100000

theorem wpStill_load_mid {P : Program} {ops : Array Oper} {w : World} {Q : Act → Prop} {a : Act} {op : Oper} {rest : List Oper} (hgd : op.guard = none) (ty : TypeId) (x : Operand) (ho : op.op = .load ty x)
    (b o : Nat) (hx : a.eval x = .pointer (some ⟨b, o, none⟩)) (cs : List Value) (d : TypeDesc) (hc : w.rangeAt b o cs) (hu : P.underlying ty = some d) (hd : d.isRow = true) (hi : (P.info? ty).map (·.size) = some cs.length)
    (h : wpStill P ops w Q rest (a.put op.dst (.agg cs.toArray))) : wpStill P ops w Q (op :: rest) a := by
  refine wpStill_step fun K hK => ?_
  simp only [Region.wanted, hgd, if_true]
  unfold Oper.still execOp
  simp only [ho, hx, Instr.loadAt, Instr.sureAddr, Sem.run_bind, Sem.run_pure, Result.andThen_ok, run_loadVar_mid w b o ty cs d hc hu hd hi, Oper.stillUpon_value]
  exact hK _ h
theorem wpStill_load_mid' {P : Program} {ops : Array Oper} {w : World} {Q : Act → Prop} {a : Act} {op : Oper} {rest : List Oper} (hw : Region.wanted op (yielded ops a.tmps) = true) (ty : TypeId) (x : Operand) (ho : op.op = .load ty x)
    (b o : Nat) (hx : a.eval x = .pointer (some ⟨b, o, none⟩)) (cs : List Value) (d : TypeDesc) (hc : w.rangeAt b o cs) (hu : P.underlying ty = some d) (hd : d.isRow = true) (hi : (P.info? ty).map (·.size) = some cs.length)
    (h : wpStill P ops w Q rest (a.put op.dst (.agg cs.toArray))) : wpStill P ops w Q (op :: rest) a := by
  refine wpStill_step fun K hK => ?_
  rw [if_pos hw]
  unfold Oper.still execOp
  simp only [ho, hx, Instr.loadAt, Instr.sureAddr, Sem.run_bind, Sem.run_pure, Result.andThen_ok, run_loadVar_mid w b o ty cs d hc hu hd hi, Oper.stillUpon_value]
  exact hK _ h
def ClocksPost (L : List Acc) (w : World) (e : Ending) (w' : World) : Prop :=
  ∃ v, e = .returned v ∧ Below w.heap.size w w' ∧ w'.ownsRow (w.heap.size + 2) 109 64 v L.length (flat (clocksOf L))
set_option maxHeartbeats 8000000 in
theorem clocks_any (b : Option Addr) (cap : Nat) (L : List Acc) (w : World) (h : LogAt w w.heap.size b L) (hm : mayLog L = true) (hl : L.length ≤ 2048) :
    Calls Tryd.prog 64 #[.slice b L.length cap] w (ClocksPost L w) := by
  obtain ⟨i0, hi0, hz0, hz1, hz2⟩ := info_parts infoC
  have hmm := @run_makeMap Tryd.prog
  obtain ⟨w2, hmk, ho2, hg2⟩ := run_makeSlice_owned (P := Tryd.prog) ((w.alloc (.cells Tryd.zeroCells147 147)).alloc (.map #[] 0)) (w.heap.size + 2) 105 109 i0 _ 64 Tryd.underlying105 hi0 hz0 hz1 .i64 .i64 L.length (by omega) (by rw [hz2]; omega) (by unfold maxLen; omega) (by simp)
  have HST := Lib.hid (CkRel.start L ho2 hg2)
  have hsz2 : ((w.alloc (.cells Tryd.zeroCells147 147)).alloc (.map #[] 0)).heap.size = w.heap.size + 1 + 1 := by simp
  rw [hsz2] at hmk HST
  clear ho2 hg2 hsz2
  have H := Lib.hid h
  have HM := Lib.hid hm
  have hsm := h.small
  clear h hm
  go_enter Tryd.func64, Tryd.ntmps64
  go_wp2_with fail
  clear hmk
  go_loopw [5, 16] (fun v i wr => ∃ k : Nat, i = .int .i64 k ∧ Hid (CkRel L w wr k v)) (fun _ i _ => L.length - (intOf i).toNat)
  case atStart => exact ⟨0, rfl, HST⟩
  case round =>
    obtain ⟨k, rfl, HR⟩ := hrel
    have hk := HR.out.le
    by_cases hlt : k < L.length
    · obtain ⟨a, ha⟩ : ∃ a, L[k]? = some a := ⟨L[k], List.getElem?_eq_getElem hlt⟩
      obtain ⟨g, off, rfl, hg, hA⟩ := (H.out.of HR.out.low).at_ k a ha
      obtain ⟨h0, h1, h2, h3, h4, h5, h6, h7⟩ := hA
      have hmay : a.may = true := List.all_eq_true.1 HM.out a (List.mem_of_getElem? ha)
      have hmc := may_cases hmay
      obtain ⟨t, ht⟩ := Int.eq_ofNat_of_zero_le hmc.1.1
      rw [ht] at h0
      have ht64 : (t : Int) < 64 := by omega
      have HA := Lib.hid ha
      have HT := Lib.hid ht
      clear ha ht
      have hx : decide (k < L.length) = true := by simpa using hlt
      have hc64 : i64in a.cell := (H.out.wf a (List.mem_of_getElem? HA.out)).2.2.1
      have hlk := (HR.out.cells.kept (Kept.of_below (S := fun _ => False) ((Below.refl _ _).alloc (Nat.le_refl _) (.cells #[.int .i64 t, .int .i8 a.op, .int .i64 a.cell, .int .i64 a.arg, .int .i64 a.new, .int .i64 a.was, .int .i64 a.now, .bool a.ok] 71))) (fun h => h)).look a.cell hc64
      have HT1 := Lib.hid (HR.out.th.kept (Kept.of_below (S := fun _ => False) ((Below.refl _ _).alloc (Nat.le_refl _) (.cells #[.int .i64 t, .int .i8 a.op, .int .i64 a.cell, .int .i64 a.arg, .int .i64 a.new, .int .i64 a.was, .int .i64 a.now, .bool a.ok] 71))) (fun h => h))
      have HMC := Lib.hid hmc
      have hop : (a.op = 2 ∨ a.op = 7 ∨ a.op = 8) ∨ ((a.op != 2) = true ∧ (a.op != 7) = true ∧ (a.op != 8) = true) := by simp; omega
      clear hmc hmay hc64
      rcases hop with (ho | ho | ho) | ⟨ho1, ho2, ho3⟩
      all_goals first
        | (have HO := Lib.hid ho
           rw [ho] at h1 hlk HT1
           clear ho)
        | (have HTK : Hid (a.takes = true) := Lib.hid (by unfold Acc.takes; rw [ho1, ho2, ho3]; rfl))
      all_goals go_wp2_with (go_at_call 80; refine (take_th HT1.out (by omega) _).mono ?_; rintro e w3 ⟨rfl, hk3, ht3⟩; have HK3 := Lib.hid hk3; have HT3 := Lib.hid ht3; clear hk3 ht3)
      all_goals first
        | (have HT4 : Hid (ThAt w3 w.heap.size (updc (cksAt (L.take k)).th t ((cksAt (L.take k)).own0 a))) := Lib.hid (by rw [own0_take HT.out HTK.out]; exact HT3.out)
           have HK4 : Hid (Kept (· = w.heap.size) wr w3) := Lib.hid (((Kept.refl _ _).alloc _).trans HK3.out)
           have HBX : Hid (∃ oo, a.op = oo ∧ BoxAt w3 wr.heap.size a oo t) := Lib.hid ⟨_, rfl, HK3.out.blk (Blk.new _ _ _) (by have := HR.out.th.lt; omega)⟩
           clear ho1 ho2 ho3)
        | (obtain ⟨w3, hw3⟩ : ∃ w3, w3 = wr.alloc (.cells #[.int .i64 t, .int .i8 2, .int .i64 a.cell, .int .i64 a.arg, .int .i64 a.new, .int .i64 a.was, .int .i64 a.now, .bool a.ok] 71) := ⟨_, rfl⟩
           rw [← hw3] at HT1 ⊢
           have HK4 : Hid (Kept (· = w.heap.size) wr w3) := Lib.hid (by rw [hw3]; exact (Kept.refl _ _).alloc _)
           have HBX : Hid (∃ oo, a.op = oo ∧ BoxAt w3 wr.heap.size a oo t) := Lib.hid ⟨_, HO.out, by rw [hw3]; exact Blk.new _ _ _⟩
           have HT4 : Hid (ThAt w3 w.heap.size (updc (cksAt (L.take k)).th t ((cksAt (L.take k)).own0 a))) := Lib.hid (by
             rw [own0_not HT.out (by rw [takes_of HO.out]; rfl)]
             exact HT1.out.congr (fun i j _ _ => by unfold updc; split <;> simp_all))
           clear hw3)
        | (obtain ⟨w3, hw3⟩ : ∃ w3, w3 = wr.alloc (.cells #[.int .i64 t, .int .i8 7, .int .i64 a.cell, .int .i64 a.arg, .int .i64 a.new, .int .i64 a.was, .int .i64 a.now, .bool a.ok] 71) := ⟨_, rfl⟩
           rw [← hw3] at HT1 ⊢
           have HK4 : Hid (Kept (· = w.heap.size) wr w3) := Lib.hid (by rw [hw3]; exact (Kept.refl _ _).alloc _)
           have HBX : Hid (∃ oo, a.op = oo ∧ BoxAt w3 wr.heap.size a oo t) := Lib.hid ⟨_, HO.out, by rw [hw3]; exact Blk.new _ _ _⟩
           have HT4 : Hid (ThAt w3 w.heap.size (updc (cksAt (L.take k)).th t ((cksAt (L.take k)).own0 a))) := Lib.hid (by
             rw [own0_not HT.out (by rw [takes_of HO.out]; rfl)]
             exact HT1.out.congr (fun i j _ _ => by unfold updc; split <;> simp_all))
           clear hw3)
        | (obtain ⟨w3, hw3⟩ : ∃ w3, w3 = wr.alloc (.cells #[.int .i64 t, .int .i8 8, .int .i64 a.cell, .int .i64 a.arg, .int .i64 a.new, .int .i64 a.was, .int .i64 a.now, .bool a.ok] 71) := ⟨_, rfl⟩
           rw [← hw3] at HT1 ⊢
           have HK4 : Hid (Kept (· = w.heap.size) wr w3) := Lib.hid (by rw [hw3]; exact (Kept.refl _ _).alloc _)
           have HBX : Hid (∃ oo, a.op = oo ∧ BoxAt w3 wr.heap.size a oo t) := Lib.hid ⟨_, HO.out, by rw [hw3]; exact Blk.new _ _ _⟩
           have HT4 : Hid (ThAt w3 w.heap.size (updc (cksAt (L.take k)).th t ((cksAt (L.take k)).own0 a))) := Lib.hid (by
             rw [own0_not HT.out (by rw [takes_of HO.out]; rfl)]
             exact HT1.out.congr (fun i j _ _ => by unfold updc; split <;> simp_all))
           clear hw3)
      all_goals
        obtain ⟨y, hy⟩ : ∃ y, y = (cksAt (L.take k)).own0 a t := ⟨_, rfl⟩
        have hyb := Cks.bd_own0 (cksAt_bd (L.take k)) a t
        rw [← hy] at hyb
        have hy0 : 0 ≤ y := hyb.1
        have hy1 : y ≤ 2048 := by have := hyb.2; rw [List.length_take] at this; omega
        have hcy : w3.cell? ⟨w.heap.size, t * 64 + t, none⟩ = some (.int .i64 y) := by rw [HT4.out.cell (by omega) (by omega)]; unfold updc; rw [if_pos rfl, hy]
        obtain ⟨oo, hoo, hbx⟩ := HBX.out
        first | rw [HO.out] at hoo | skip
        subst hoo
        clear h0 h1 h2 h3 h4 h5 h6 h7 hg
        obtain ⟨b0, b1, b2, b6, b7⟩ := hbx.cells
        have HBX4 := Lib.hid hbx
        clear hbx
        have hcz := HT4.out.frozen (t * 64 + t)
        have HY := Lib.hid hy
        clear hy hyb hlk
        go_still_tail 9, (by kernel_rfl)
        change wpList _ _ _ _ _ w3.drew
        go_upto_region 12 with (fail)
        obtain ⟨w5, hw5⟩ : ∃ w5, w5 = (w3.setCell ⟨w.heap.size, t * 64 + t, none⟩ (.int .i64 (y + 1))).drew := ⟨_, rfl⟩
        rw [← hw5]
        have HT5 : Hid (ThAt w5 w.heap.size (updc (cksAt (L.take k)).th t ((cksAt (L.take k)).own a))) := Lib.hid (by rw [hw5]; exact th_own HT.out (by omega) HY.out HT4.out)
        have HK5 : Hid (Kept (· = w.heap.size) wr w5) := Lib.hid (by rw [hw5]; exact (HK4.out.set (p := ⟨w.heap.size, t * 64 + t, none⟩) rfl (.int .i64 (y + 1))).drew)
        have HBX5 : Hid (BoxAt w5 wr.heap.size a _ t) := Lib.hid (by rw [hw5]; exact HBX4.out.far (by have := HR.out.th.lt; show wr.heap.size ≠ w.heap.size; omega) _)
        have HRG : Hid (w5.rangeAt w.heap.size (t * 64) (clkL ((cksAt (L.take k)).own a))) := Lib.hid (by have h := HT5.out.range (i := t) (by omega); rwa [show updc (cksAt (L.take k)).th t ((cksAt (L.take k)).own a) t = (cksAt (L.take k)).own a from if_pos rfl] at h)
        have HI1 : Hid ((Tryd.prog.info? 109).map (·.size) = some (clkL ((cksAt (L.take k)).own a)).length) := Lib.hid (by rw [clkL_len]; exact info109)
        have HOW : Hid (World.ownsRow (w5.alloc (.cells (clkL ((cksAt (L.take k)).own a)).toArray 109)) (w.heap.size + 2) 109 64 _ k (flat (clocksOf (L.take k)))) := Lib.hid (own_kept (own_kept HR.out.own HK5.out (fun g hg => by omega)) (Kept.of_below (S := fun _ => False) ((Below.refl _ _).alloc (Nat.le_refl _) _)) (fun _ _ h => h))
        have NB : Hid (Blk (w5.alloc (.cells (clkL ((cksAt (L.take k)).own a)).toArray 109)) w5.heap.size 109 (clkL ((cksAt (L.take k)).own a)).toArray) := Lib.hid (Blk.new _ _ _)
        have N4 : Hid (w.heap.size + 2 ≤ (w5.alloc (.cells (clkL ((cksAt (L.take k)).own a)).toArray 109)).heap.size) := Lib.hid (by have := HR.out.size; have := HK5.out.size; simp; omega)
        clear hw5 b0 b1 b2 b6 b7 hcy hcz
        go_upto_region 13 with (first
          | (refine wpList_load_mid (op := ⟨some 55, .load 109 (.tmp 54), _, _, _, _⟩) rfl _ _ rfl w.heap.size (t * 64) rfl (clkL ((cksAt (L.take k)).own a)) _ HRG.out Tryd.underlying109 rfl HI1.out ?_)
          | (refine wpList_buildSlice_one (op := ⟨some 56, .buildSlice 105 1 #[(0, .tmp 55)], _, _, _, _⟩) rfl _ 109 _ rfl (clkL ((cksAt (L.take k)).own a)).toArray rfl i0 _ Tryd.underlying105 hi0 hz0 (by simp [clkL_len, hz1]) (by simp [clkL_len]) (by simp [clkL_len]) ?_)
          | (at_builtin; refine wpList_append_lies _ rfl _ _ 105 rfl (w.heap.size + 2) 109 i0 _ 64 512 Tryd.underlying105 hi0 hz0 hz1 hz2 rfl (by decide) _ k _ rfl HOW.out ⟨w5.heap.size, 0, none⟩ 1 1 (clkL ((cksAt (L.take k)).own a)) rfl (by rw [clkL_len]) (World.news_of_block NB.out) (clkL_one _) (by omega) (by unfold maxLen; omega) (by omega) N4.out _ rfl ?_; intro gg cap2 w6 hown hgrow hat hlt6; have HAPP := Lib.hid (ck_app HR.out HK5.out HT5.out HBX5.out hgrow hown); clear hown hgrow hat hlt6))
      all_goals
        obtain ⟨b0, b1, b2, b6, b7⟩ := HAPP.out.box.cells
        have HR6 : Hid (w6.rangeAt w.heap.size (t * 64) (clkL ((cksAt (L.take k)).own a))) := Lib.hid (by have h := HAPP.out.th.range (i := t) (by omega); rwa [show updc (cksAt (L.take k)).th t ((cksAt (L.take k)).own a) t = (cksAt (L.take k)).own a from if_pos rfl] at h)
        have HC64 : Hid (i64in a.cell) := Lib.hid (H.out.wf a (List.mem_of_getElem? HA.out)).2.2.1
        obtain ⟨D, hd1, hd2, hd3⟩ := HAPP.out.cells
        have hD1 := Lib.hid hd1
        have hD2 := Lib.hid hd2
        have hD3 := Lib.hid hd3
        clear hd1 hd2 hd3
      · go_wp2_with fail
        refine wp_region_still_tail 6 (by kernel_rfl) (by kernel_rfl) ?_
        simp only [List.take_succ_cons, List.take_zero, List.drop_succ_cons, List.drop_zero]
        still_step
        still_step
        still_step
        still_step
        still_step
        refine wpStill_load_mid rfl _ _ rfl w.heap.size (t * 64) rfl (clkL ((cksAt (L.take k)).own a)) _ HR6.out Tryd.underlying109 rfl HI1.out ?_
        refine wpStill_nil ?_
        change wpList _ _ _ _ _ w6.drew
        go_wp2_with (at_mapUpdate; refine wpList_mapUpdate_own _ rfl _ _ _ 148 rfl 3 109 (Maps.int_keyed Tryd.underlying3) Tryd.underlying148 clkR (w.heap.size + 1) k D rfl hD1.out.drew (by unfold maxLen; omega) _ _ (.int .i64 a.cell) rfl rfl (Maps.keyOf_int_mk Tryd.underlying3 (wf_i64 HC64.out)) (clkD ((cksAt (L.take k)).own a)) [] (clkR_mk _) ?_; intro w7 hown7 hgrow7; have HO7 := Lib.hid hown7; have HG7 := Lib.hid hgrow7; clear hown7 hgrow7)
        go_roundw
        case rel =>
          have k7 : Kept (fun q => q = w.heap.size + 1) w6 w7 := (Kept.refl _ _).drew.grown HG7.out rfl
          exact ⟨k + 1, by rw [Int.natCast_add]; rfl, Lib.hid (ck_end HA.out HAPP.out k7 (fun q hq => .inr hq) (HAPP.out.th.kept k7 (by omega)) (fun i j _ _ => by rw [next_th HT.out (fun hh => by rw [HO.out] at hh; omega)]) (CellsIn.put hD2.out hD3.out HO7.out) (next_cell' (by rw [gives_of HO.out]; rfl)).symm)⟩
        case measure => simp [intOf]; omega
      · have hn : a.now = -1 ∨ 0 ≤ a.now := by have := HMC.out; have := HO.out; omega
        rcases hn with hn | hn
        · rw [hn] at b6
          have HN := Lib.hid hn
          clear hn
          go_wp2_with fail
          go_roundw
          case rel => exact ⟨k + 1, by rw [Int.natCast_add]; rfl, Lib.hid (ck_end HA.out HAPP.out (Kept.refl (fun _ => False) _) (fun q hq => hq.elim) HAPP.out.th (fun i j _ _ => by rw [next_th HT.out (fun hh => by rw [HN.out] at hh; omega)]) (HAPP.out.cells.mono (Nat.le_succ _)) (next_cell (by rw [gives_of HO.out]; rfl)).symm)⟩
          case measure => simp [intOf]; omega
        · obtain ⟨n, hn2⟩ := Int.eq_ofNat_of_zero_le hn
          rw [hn2] at b6
          have hn64 : (n : Int) < 64 := by have := HMC.out; have := HO.out; omega
          have HN := Lib.hid hn2
          clear hn hn2
          go_wp2_with fail
          refine wp_region_still_tail 6 (by kernel_rfl) (by kernel_rfl) ?_
          simp only [List.take_succ_cons, List.take_zero, List.drop_succ_cons, List.drop_zero]
          still_step
          still_step
          still_step
          still_step
          still_step
          refine wpStill_load_mid rfl _ _ rfl w.heap.size (t * 64) rfl (clkL ((cksAt (L.take k)).own a)) _ HR6.out Tryd.underlying109 rfl HI1.out ?_
          refine wpStill_nil ?_
          change wpList _ _ _ _ _ w6.drew
          have HT6 : Hid (ThAt w6.drew w.heap.size (updc (cksAt (L.take k)).th t ((cksAt (L.take k)).own a))) := Lib.hid HAPP.out.th
          go_wp2_with (go_at_call 80; refine (take_th HT6.out (by omega) _).mono ?_; rintro e w7 ⟨rfl, hk7, ht7⟩; have HK7 := Lib.hid hk7; have HT7 := Lib.hid ht7; clear hk7 ht7)
          go_roundw
          case rel =>
            have k7 : Kept (fun q => q = w.heap.size) w6 w7 := (Kept.refl _ _).drew.trans HK7.out
            exact ⟨k + 1, by rw [Int.natCast_add]; rfl, Lib.hid (ck_end HA.out HAPP.out k7 (fun q hq => .inl hq) HT7.out (fun i j _ _ => by rw [next_go HT.out HO.out HN.out]) ((HAPP.out.cells.mono (Nat.le_succ _)).kept k7 (by omega)) (next_cell (by rw [gives_of HO.out]; rfl)).symm)⟩
          case measure => simp [intOf]; omega
      · go_wp2_with fail
        go_roundw
        case rel => exact ⟨k + 1, by rw [Int.natCast_add]; rfl, Lib.hid (ck_end HA.out HAPP.out (Kept.refl (fun _ => False) _) (fun q hq => hq.elim) HAPP.out.th (fun i j _ _ => by rw [next_th HT.out (fun hh => by rw [HO.out] at hh; omega)]) (HAPP.out.cells.mono (Nat.le_succ _)) (next_cell (by rw [gives_of HO.out]; rfl)).symm)⟩
        case measure => simp [intOf]; omega
      · have hop : a.op = 1 ∨ a.op = 3 ∨ a.op = 4 ∨ a.op = 5 ∨ a.op = 6 := by
          have h1 := HTK.out
          have h2 := HMC.out.1
          unfold Acc.takes at h1
          simp at h1
          omega
        rcases hop with ho | ho | ho | ho | ho
        all_goals
          have HO := Lib.hid ho
          rw [ho] at b1
          clear ho
        · go_wp2_with fail
          go_roundw
          case rel => exact ⟨k + 1, by rw [Int.natCast_add]; rfl, Lib.hid (ck_end HA.out HAPP.out (Kept.refl (fun _ => False) _) (fun q hq => hq.elim) HAPP.out.th (fun i j _ _ => by rw [next_th HT.out (fun hh => by rw [HO.out] at hh; omega)]) (HAPP.out.cells.mono (Nat.le_succ _)) (next_cell (by rw [gives_of HO.out]; rfl)).symm)⟩
          case measure => simp [intOf]; omega
        · by_cases hok : a.ok = true
          · rw [hok] at b7
            go_wp2_with fail
            refine wp_region_still_tail 6 (by kernel_rfl) (by kernel_rfl) ?_
            simp only [List.take_succ_cons, List.take_zero, List.drop_succ_cons, List.drop_zero]
            still_step
            still_step
            still_step
            still_step
            still_step
            refine wpStill_load_mid rfl _ _ rfl w.heap.size (t * 64) rfl (clkL ((cksAt (L.take k)).own a)) _ HR6.out Tryd.underlying109 rfl HI1.out ?_
            refine wpStill_nil ?_
            change wpList _ _ _ _ _ w6.drew
            go_wp2_with (at_mapUpdate; refine wpList_mapUpdate_own _ rfl _ _ _ 148 rfl 3 109 (Maps.int_keyed Tryd.underlying3) Tryd.underlying148 clkR (w.heap.size + 1) k D rfl hD1.out.drew (by unfold maxLen; omega) _ _ (.int .i64 a.cell) rfl rfl (Maps.keyOf_int_mk Tryd.underlying3 (wf_i64 HC64.out)) (clkD ((cksAt (L.take k)).own a)) [] (clkR_mk _) ?_; intro w7 hown7 hgrow7; have HO7 := Lib.hid hown7; have HG7 := Lib.hid hgrow7; clear hown7 hgrow7)
            go_roundw
            case rel =>
              have k7 : Kept (fun q => q = w.heap.size + 1) w6 w7 := (Kept.refl _ _).drew.grown HG7.out rfl
              exact ⟨k + 1, by rw [Int.natCast_add]; rfl, Lib.hid (ck_end HA.out HAPP.out k7 (fun q hq => .inr hq) (HAPP.out.th.kept k7 (by omega)) (fun i j _ _ => by rw [next_th HT.out (fun hh => by rw [HO.out] at hh; omega)]) (CellsIn.put hD2.out hD3.out HO7.out) (next_cell' (by rw [gives_of HO.out]; simp [hok])).symm)⟩
            case measure => simp [intOf]; omega
          · have hok : a.ok = false := by simpa using hok
            rw [hok] at b7
            go_wp2_with fail
            go_roundw
            case rel => exact ⟨k + 1, by rw [Int.natCast_add]; rfl, Lib.hid (ck_end HA.out HAPP.out (Kept.refl (fun _ => False) _) (fun q hq => hq.elim) HAPP.out.th (fun i j _ _ => by rw [next_th HT.out (fun hh => by rw [HO.out] at hh; omega)]) (HAPP.out.cells.mono (Nat.le_succ _)) (next_cell (by rw [gives_of HO.out]; simp [hok])).symm)⟩
            case measure => simp [intOf]; omega
        · go_wp2_with fail
          refine wp_region_still_tail 6 (by kernel_rfl) (by kernel_rfl) ?_
          simp only [List.take_succ_cons, List.take_zero, List.drop_succ_cons, List.drop_zero]
          still_step
          still_step
          still_step
          still_step
          still_step
          refine wpStill_load_mid rfl _ _ rfl w.heap.size (t * 64) rfl (clkL ((cksAt (L.take k)).own a)) _ HR6.out Tryd.underlying109 rfl HI1.out ?_
          refine wpStill_nil ?_
          change wpList _ _ _ _ _ w6.drew
          go_wp2_with (at_mapUpdate; refine wpList_mapUpdate_own _ rfl _ _ _ 148 rfl 3 109 (Maps.int_keyed Tryd.underlying3) Tryd.underlying148 clkR (w.heap.size + 1) k D rfl hD1.out.drew (by unfold maxLen; omega) _ _ (.int .i64 a.cell) rfl rfl (Maps.keyOf_int_mk Tryd.underlying3 (wf_i64 HC64.out)) (clkD ((cksAt (L.take k)).own a)) [] (clkR_mk _) ?_; intro w7 hown7 hgrow7; have HO7 := Lib.hid hown7; have HG7 := Lib.hid hgrow7; clear hown7 hgrow7)
          go_roundw
          case rel =>
            have k7 : Kept (fun q => q = w.heap.size + 1) w6 w7 := (Kept.refl _ _).drew.grown HG7.out rfl
            exact ⟨k + 1, by rw [Int.natCast_add]; rfl, Lib.hid (ck_end HA.out HAPP.out k7 (fun q hq => .inr hq) (HAPP.out.th.kept k7 (by omega)) (fun i j _ _ => by rw [next_th HT.out (fun hh => by rw [HO.out] at hh; omega)]) (CellsIn.put hD2.out hD3.out HO7.out) (next_cell' (by rw [gives_of HO.out]; rfl)).symm)⟩
          case measure => simp [intOf]; omega
        · go_wp2_with fail
          refine wp_region_still_tail 6 (by kernel_rfl) (by kernel_rfl) ?_
          simp only [List.take_succ_cons, List.take_zero, List.drop_succ_cons, List.drop_zero]
          still_step
          still_step
          still_step
          still_step
          still_step
          refine wpStill_load_mid rfl _ _ rfl w.heap.size (t * 64) rfl (clkL ((cksAt (L.take k)).own a)) _ HR6.out Tryd.underlying109 rfl HI1.out ?_
          refine wpStill_nil ?_
          change wpList _ _ _ _ _ w6.drew
          go_wp2_with (at_mapUpdate; refine wpList_mapUpdate_own _ rfl _ _ _ 148 rfl 3 109 (Maps.int_keyed Tryd.underlying3) Tryd.underlying148 clkR (w.heap.size + 1) k D rfl hD1.out.drew (by unfold maxLen; omega) _ _ (.int .i64 a.cell) rfl rfl (Maps.keyOf_int_mk Tryd.underlying3 (wf_i64 HC64.out)) (clkD ((cksAt (L.take k)).own a)) [] (clkR_mk _) ?_; intro w7 hown7 hgrow7; have HO7 := Lib.hid hown7; have HG7 := Lib.hid hgrow7; clear hown7 hgrow7)
          go_roundw
          case rel =>
            have k7 : Kept (fun q => q = w.heap.size + 1) w6 w7 := (Kept.refl _ _).drew.grown HG7.out rfl
            exact ⟨k + 1, by rw [Int.natCast_add]; rfl, Lib.hid (ck_end HA.out HAPP.out k7 (fun q hq => .inr hq) (HAPP.out.th.kept k7 (by omega)) (fun i j _ _ => by rw [next_th HT.out (fun hh => by rw [HO.out] at hh; omega)]) (CellsIn.put hD2.out hD3.out HO7.out) (next_cell' (by rw [gives_of HO.out]; rfl)).symm)⟩
          case measure => simp [intOf]; omega
        · go_wp2_with fail
          go_roundw
          case rel => exact ⟨k + 1, by rw [Int.natCast_add]; rfl, Lib.hid (ck_end HA.out HAPP.out (Kept.refl (fun _ => False) _) (fun q hq => hq.elim) HAPP.out.th (fun i j _ _ => by rw [next_th HT.out (fun hh => by rw [HO.out] at hh; omega)]) (HAPP.out.cells.mono (Nat.le_succ _)) (next_cell (by rw [gives_of HO.out]; rfl)).symm)⟩
          case measure => simp [intOf]; omega
    · have hx : decide (k < L.length) = false := by simpa using hlt
      have hke : k = L.length := by omega
      have HE := Lib.hid hke
      clear hke
      go_wp2_with fail
      go_ret
      refine ⟨_, rfl, HR.out.low, ?_⟩
      have h := HR.out.own
      rw [HE.out, List.take_length] at h
      exact h
end Go.Proofs.YtonnlgpjobfnmaaDoor
