/- The bag's test over lists of races: what it leaves. Conditions: what the bag's cells hold; the lists lie apart. (Printed by gen_bagc.py.) -/
import Derived.Test.YtonnlgpjobfnmaaDoorRBagB
import Derived.Test.YtonnlgpjobfnmaaDoorRJudgeUb
namespace Go.Proofs.YtonnlgpjobfnmaaDoor
open Go.RowKit
set_option maxRecDepth 100000
def kRaces : Kind := ⟨87, 79, 50, 8, 2, fun _ m i v => v = if i % 2 = 0 then .int .i64 (numF (m : Nat) ((i / 2 : Nat) : Int)) else .int .i64 0⟩
theorem kRaces_ok : kRaces.Ok := ⟨by decide, by decide, by decide, by decide, fun h _ => h⟩
def Ph3RelB (k : Nat) (W : World) (i : Value) (wr : World) : Prop := ∃ n : Nat, n ≤ k ∧ i = .int .i64 n ∧ Below W.heap.size W wr
theorem infoRs : (Tryd.prog.info? 79).map (fun i => (i.zero, i.size, i.bytes)) = some (some (.slice none 0 0), 1, 24) := by kernel_rfl
set_option maxHeartbeats 1600000 in
theorem apartRacesK (bg bi : Nat) (P : BagP) (Ls : List Lst) (base : Nat) (hN : Ls.length ≤ 1000) (hlen : ∀ (m : Nat) (L : Lst), Ls[m]? = some L → L.len ≤ 1000000) (w0 : World) (hbase : base ≤ w0.heap.size) (h0 : KPh1 kRaces bg bi P Ls base w0 0 0 w0) :
    Calls Tryd.prog 57 #[.pointer (some ⟨bg, 0, none⟩)] w0 (KPost kRaces bg bi P Ls w0) := by
  have HL := Lib.hid hlen
  have H0 := Lib.hid h0
  have HAP := Lib.hid h0.ls.apart
  have HLB : Hid (∀ (m : Nat) (L : Lst), Ls[m]? = some L → L.b = none → L.len = 0) := Lib.hid fun m L hm hb => by
    rcases h0.ls.ok m L hm with ⟨_, h, _⟩ | ⟨g, _, h, _⟩
    · exact h
    · rw [hb] at h; cases h
  have c0 : w0.cell? ⟨bg, 8, none⟩ = some (.slice (some ⟨bi, 0, none⟩) Ls.length P.cap) := h0.bag.c1
  clear hlen h0
  go_enter Tryd.func57, Tryd.ntmps57
  go_wp2_with fail
  go_loopw [3, 4] (fun i _ wr => KOut1 kRaces bg bi P Ls base w0 i wr) (fun i _ _ => Ls.length - (intOf i).toNat)
  case atStart => exact ⟨0, Nat.zero_le _, rfl, H0.out⟩
  case round =>
    obtain ⟨n, hn, rfl, hp⟩ := hrel
    have HP := Lib.hid hp
    have c1 : wr.cell? ⟨bg, 8, none⟩ = some (.slice (some ⟨bi, 0, none⟩) Ls.length P.cap) := hp.bag.c1
    clear hp
    by_cases hlt : n < Ls.length
    · have hx : decide (n < Ls.length) = true := by simpa using hlt
      have hxi : decide ((n : Int) < (Ls.length : Int)) = true := by simp; omega
      obtain ⟨L, hL⟩ : ∃ L, Ls[n]? = some L := ⟨Ls[n], List.getElem?_eq_getElem hlt⟩
      have HLn := Lib.hid hL
      have hL6 := HL.out n L hL
      clear hL
      go_wp2_with fail
      go_loopw [4] (fun i wr => KInn1 kRaces bg bi P Ls base w0 n L i wr) (fun i _ => L.len - (intOf i).toNat)
      case atStart => exact ⟨0, Nat.zero_le _, rfl, HP.out⟩
      case round =>
        obtain ⟨j, hj, rfl, hp2⟩ := hrel
        have HP2 := Lib.hid hp2
        have c2 : wr.cell? ⟨bg, 8, none⟩ = some (.slice (some ⟨bi, 0, none⟩) Ls.length P.cap) := hp2.bag.c1
        have c3 := hp2.bag.cm HLn.out
        clear hp2
        by_cases hlj : j < L.len
        · have hy : decide (j < L.len) = true := by simpa using hlj
          have hyi : decide ((j : Int) < (L.len : Int)) = true := by simp; omega
          obtain ⟨g, cs, hgb, hgb2, hB0, hs0, hlc, _⟩ := (HP2.out.ls.ok n L HLn.out).some (by omega)
          have hB : Blk wr g 87 cs := hB0
          have hs : cs.size = L.cap * 2 := hs0
          have HBK := Lib.hid hB
          have HSZ := Lib.hid hs
          have c4 : wr.cell? ⟨g, j * 2, none⟩ = some (cs[j * 2]'(by omega)) := by rw [hB.cell, Array.getElem?_eq_getElem]
          have f4 := hB.frozen (j * 2)
          have c5 : wr.cell? ⟨g, j * 2 + 1, none⟩ = some (cs[j * 2 + 1]'(by omega)) := by rw [hB.cell, Array.getElem?_eq_getElem]
          have f5 := hB.frozen (j * 2 + 1)
          have had : L.ad = some ⟨g, 0, none⟩ := by unfold Lst.ad; rw [hgb]; rfl
          rw [had] at c3
          clear hB hB0
          have hnum := fun W => num_same (n : Int) (j : Int) W
          obtain ⟨x, hx0⟩ : ∃ x, x = numF (n : Int) (j : Int) := ⟨_, rfl⟩
          rw [← hx0] at hnum
          have HX0 := Lib.hid hx0
          clear hx0
          go_upto_region 7 with (fail)
          refine wp_region_still_tail 13 (by kernel_rfl) (by kernel_rfl) ?_
          simp only [List.take_succ_cons, List.take_zero, List.drop_succ_cons, List.drop_zero]
          repeat still_step
          still_call (hnum _)
          still_step
          still_step
          refine wpStill_nil ?_
          change wpList _ _ _ _ _ wr.drew
          go_wp2_with fail
          refine ⟨⟨j + 1, hlj, by rw [Int.natCast_add]; rfl, ?_⟩, by simp [intOf]; omega⟩
          have HBK2 : Blk ((wr.setCell ⟨g, j * 2, none⟩ (.int .i64 x)).setCell ⟨g, j * 2 + 1, none⟩ (.int .i64 0)) g 87 ((cs.setIfInBounds (j * 2) (.int .i64 x)).setIfInBounds (j * 2 + 1) (.int .i64 0)) := (HBK.out.set_ _ _).set_ _ _
          refine KPh1.step (w := wr) (w' := ((wr.setCell ⟨g, j * 2, none⟩ (.int .i64 x)).setCell ⟨g, j * 2 + 1, none⟩ (.int .i64 0)).drew) (cs := cs) (cs' := (cs.setIfInBounds (j * 2) (.int .i64 x)).setIfInBounds (j * 2 + 1) (.int .i64 0)) kRaces_ok HP2.out HLn.out hgb HBK.out HBK2 (by simp) (fun i hi => ?_) (fun i h1 h2 => ?_) ((Kept.set (S := fun q => q = g) (p := ⟨g, j * 2, none⟩) (Kept.refl _ _) rfl _).set (p := ⟨g, j * 2 + 1, none⟩) rfl _).drew
          · have hi : i < j * 2 ∨ (j + 1) * 2 ≤ i := hi
            rw [Array.getElem?_setIfInBounds_ne (by omega), Array.getElem?_setIfInBounds_ne (by omega)]
          · have h1 : j * 2 ≤ i := h1
            have h2 : i < (j + 1) * 2 := h2
            have hsz := HSZ.out
            rcases (show i = j * 2 ∨ i = j * 2 + 1 by omega) with rfl | rfl
            · refine ⟨.int .i64 x, by rw [Array.getElem?_setIfInBounds_ne (by omega), Array.getElem?_setIfInBounds_self_of_lt (by omega)], ?_⟩
              show Value.int .i64 x = if j * 2 % 2 = 0 then .int .i64 (numF (n : Nat) ((j * 2 / 2 : Nat) : Int)) else .int .i64 0
              rw [if_pos (by omega), Nat.mul_div_cancel _ (by omega), HX0.out]
            · refine ⟨.int .i64 0, Array.getElem?_setIfInBounds_self_of_lt (by simp; omega), ?_⟩
              show Value.int .i64 0 = if (j * 2 + 1) % 2 = 0 then .int .i64 (numF (n : Nat) (((j * 2 + 1) / 2 : Nat) : Int)) else .int .i64 0
              rw [if_neg (by omega)]
        · obtain rfl : j = L.len := by omega
          have hy : decide (L.len < L.len) = false := by simp
          go_wp2_with fail
          exact ⟨⟨n + 1, hlt, by rw [Int.natCast_add]; rfl, KPh1.next HP2.out HLn.out (Nat.le_refl _)⟩, by simp [intOf]; omega⟩
    · obtain rfl : n = Ls.length := by omega
      have hx : decide (Ls.length < Ls.length) = false := by simp
      clear c0
      go_wp2_with fail
      obtain ⟨b2, hb2⟩ : ∃ b2, b2 = wr.heap.size := ⟨_, rfl⟩
      have HP2 : Hid (KPh2 kRaces bg bi P Ls base b2 w0 0 (.slice none 0 0) (.slice none 0 0) wr) := Lib.hid (by rw [hb2]; exact KPh2.start HP.out hbase)
      clear hb2 c1
      go_loopw [7, 5, 6, 8, 9] (fun i vo vm _ _ wr => KOut2 kRaces bg bi P Ls base b2 w0 i vo vm wr) (fun i _ _ _ _ _ => Ls.length - (intOf i).toNat)
      case atStart => exact ⟨0, Nat.zero_le _, rfl, HP2.out⟩
      case round =>
        clear HP2 HP
        obtain ⟨n, hn, rfl, hp⟩ := hrel
        have HP := Lib.hid hp
        have c1 : wr.cell? ⟨bg, 8, none⟩ = some (.slice (some ⟨bi, 0, none⟩) Ls.length P.cap) := hp.bag.c1
        clear hp
        by_cases hlt : n < Ls.length
        · have hx : decide (n < Ls.length) = true := by simpa using hlt
          have hxi : decide ((n : Int) < (Ls.length : Int)) = true := by simp; omega
          obtain ⟨L, hL⟩ : ∃ L, Ls[n]? = some L := ⟨Ls[n], List.getElem?_eq_getElem hlt⟩
          have HLn := Lib.hid hL
          have hL6 := HL.out n L hL
          have c3 := HP.out.bag.cm hL
          clear hL
          obtain ⟨xs, hxs, hxk⟩ := HP.out.os
          have HXS := Lib.hid hxs
          have HXK := Lib.hid hxk
          clear hxs hxk
          have H8 := Lib.hid (HP.out.todo n L HLn.out (Nat.le_refl _))
          obtain ⟨ws, hws⟩ : ∃ ws, ws = wr := ⟨_, rfl⟩
          subst hws
          obtain ⟨vo, hvo⟩ : ∃ vo, vo = u5 := ⟨_, rfl⟩
          subst hvo
          obtain ⟨vm, hvm⟩ : ∃ vm, vm = u6 := ⟨_, rfl⟩
          subst hvm
          obtain ⟨ji, hji, hjiz, hjis, hjib⟩ := info_parts infoRace
          obtain ⟨js, hjs, hjsz, hjss, hjsb⟩ := info_parts infoRs
          go_wp2_with fail
          go_loopw [8, 9, 5] (fun v8 v9 v5 wr => KIn2 kRaces base b2 n L vo xs ws v8 v9 v5 wr) (fun _ v9 _ _ => L.len + 70 - (intOf v9).toNat)
          case atStart => exact ⟨L.len, Nat.le_refl _, by omega, rfl, H8.out, .inl ⟨rfl, rfl, rfl, rfl⟩⟩
          case round =>
            obtain ⟨i, hi1, hi2, rfl, ⟨ys, h8, m8⟩, hcase⟩ := hrel
            have H8i := Lib.hid h8
            have M8i := Lib.hid m8
            have HCA := Lib.hid hcase
            have HKE := Lib.hid hcase.kept
            have hsz : ws.heap.size ≤ wr.heap.size := hcase.kept.size
            clear h8 m8 hcase
            have hbag : KBag kRaces wr bg bi P Ls := KIn2.bag kRaces_ok HP.out HXS.out HLn.out HKE.out
            have c1 : wr.cell? ⟨bg, 8, none⟩ = some (.slice (some ⟨bi, 0, none⟩) Ls.length P.cap) := hbag.c1
            have c3 := hbag.cm HLn.out
            have HBG := Lib.hid hbag
            clear hbag
            by_cases hli : i < L.len + 70
            · have hy : decide (i < L.len + 70) = true := by simpa using hli
              have hyi : decide ((i : Int) < (L.len : Int) + 70) = true := by simp; omega
              have hi6 : i < 1000070 := by omega
              have hnum := fun W => num_same (n : Int) (i : Int) W
              obtain ⟨x, hx0⟩ : ∃ x, x = numF (n : Int) (i : Int) := ⟨_, rfl⟩
              rw [← hx0] at hnum
              have HX0 := Lib.hid hx0
              clear hx0
              have hwb : base ≤ wr.heap.size := by have := HP.out.low.2.2; omega
              have HRW : Hid (World.ownsRow (wr.alloc (.cells #[.int .i64 x, .int .i64 0] 87)) base 87 2 u8 i ys) := Lib.hid (H8i.out.alloc (.cells #[.int .i64 x, .int .i64 0] 87))
              go_upto_region 17 with (first
                | (go_at_call 40; refine (hnum _).mono ?_; rintro e w3 ⟨rfl, rfl⟩)
                | (at_builtin; refine wpList_append_keep rfl _ _ 79 rfl base 87 ji _ 2 16 Tryd.underlying79 hji hjiz hjis hjib rfl (by decide) _ i ys rfl HRW.out ⟨w3.heap.size, 0, none⟩ 1 1 [.int .i64 x, .int .i64 0] rfl rfl (World.news_of_block (heap_alloc_new _ _)) (by simp [Value.oneCell']) (by unfold maxLen; omega) (by omega) (by simp; omega) ?_; intro v8 w8 r1 r2 r3 r4 r5; have R1 := Lib.hid r1; have HB8 := Lib.hid (KIn2.app HP.out HLn.out kRaces_ok H8i.out HCA.out (Below.refl _ _) r2 r3 r4 r5); clear r1 r2 r3 r4 r5))
              have hbag8 := KIn2.bag kRaces_ok HP.out HXS.out HLn.out HB8.out.kept
              have c1' : w8.cell? ⟨bg, 8, none⟩ = some (.slice (some ⟨bi, 0, none⟩) Ls.length P.cap) := hbag8.c1
              have c3' := hbag8.cm HLn.out
              clear hbag8
              obtain ⟨q8, cap8, rfl, _, hq8⟩ := R1.out.form (by omega)
              have HNW : Hid (∀ c v, [Value.int .i64 x, .int .i64 0][c]? = some v → kRaces.Mk w8 n (i * kRaces.sz + c) v) := Lib.hid (fun c v hv => by
                rcases c with _ | _ | c
                · obtain rfl : Value.int .i64 x = v := by simpa using hv
                  show Value.int .i64 x = if (i * 2 + 0) % 2 = 0 then .int .i64 (numF (n : Nat) (((i * 2 + 0) / 2 : Nat) : Int)) else .int .i64 0
                  rw [if_pos (by omega), Nat.add_zero, Nat.mul_div_cancel _ (by omega), HX0.out]
                · obtain rfl : Value.int .i64 0 = v := by simpa using hv
                  show Value.int .i64 0 = if (i * 2 + 1) % 2 = 0 then .int .i64 (numF (n : Nat) (((i * 2 + 1) / 2 : Nat) : Int)) else .int .i64 0
                  rw [if_neg (by omega)]
                · simp at hv)
              by_cases hie : i = L.len
              · have hz : decide ((i : Int) = (L.len : Int)) = true := by simp; omega
                have hz2 : decide (i = L.len) = true := by simp; omega
                subst hie
                have hvo8 : w8.ownsRow b2 79 1 vo n xs := row_same HXS.out fun q cs hq hB => by
                  obtain ⟨_, _, _, hwr⟩ := (HCA.out.resolve_right fun h => by have := h.1; omega)
                  subst hwr
                  refine HB8.out.blk q hB.lt fun e => ?_
                  obtain ⟨_, cs', hB'⟩ := row_tyN H8i.out q e
                  exact Blk.ne_ hB hB' (by decide) rfl
                have HV8 := Lib.hid hvo8
                have HV9 := Lib.hid (hvo8.alloc (.cells #[.slice (some ⟨q8, 0, none⟩) (L.len + 1) cap8] 79))
                have hu5 := (HCA.out.resolve_right fun h => by have := h.1; omega).2.2.1
                have hu8 := (HCA.out.resolve_right fun h => by have := h.1; omega).2.1
                have hwrs := (HCA.out.resolve_right fun h => by have := h.1; omega).2.2.2
                subst hu5
                have hb28 : b2 ≤ w8.heap.size := by have := HP.out.low.2.2.1; have := HB8.out.kept.size; omega
                clear hvo8
                go_wp2_with (at_builtin; refine wpList_append_keep rfl _ _ 43 rfl b2 79 js _ 1 24 Tryd.underlying43 hjs hjsz hjss hjsb rfl (by decide) _ n xs rfl HV9.out ⟨w8.heap.size, 0, none⟩ 1 1 [.slice (some ⟨q8, 0, none⟩) (L.len + 1) cap8] rfl rfl (World.news_of_block (heap_alloc_new _ _)) (by simp [Value.oneCell']) (by unfold maxLen; omega) (by omega) (by simp; omega) ?_; intro v9 w9 r1 r2 r3 r4 r5; have S1 := Lib.hid r1; have S2 := Lib.hid r2; have S4 := Lib.hid r4; clear r1 r2 r3 r4 r5)
                subst hu8 hwrs
                exact ⟨KIn2.nextA kRaces_ok H8i.out M8i.out HV8.out R1.out HNW.out HB8.out S1.out S2.out S4.out, by first | (simp [intOf]; done) | (simp [intOf]; omega)⟩
              · have hz : decide ((i : Int) = (L.len : Int)) = false := by simp; omega
                have hz2 : decide (i = L.len) = false := by simp; omega
                go_wp2_with fail
                exact ⟨KIn2.nextB kRaces_ok hli H8i.out M8i.out HCA.out hie R1.out HNW.out HB8.out, by simp [intOf]; omega⟩
            · obtain rfl : i = L.len + 70 := by omega
              have hy : decide (L.len + 70 < L.len + 70) = false := by simp
              have hyi : decide ((L.len : Int) + 70 < (L.len : Int) + 70) = false := by simp
              obtain ⟨q8, cap8, rfl, _, hq8⟩ := H8i.out.form (by omega)
              have hk1 := HKE.out
              obtain ⟨zs, hys, hyk⟩ := HP.out.ms
              have HYS := Lib.hid hys
              have HYK := Lib.hid hyk
              have hvm : wr.ownsRow b2 79 1 vm n zs := row_same hys fun q cs hq hB => hk1.block q hB.lt fun hh => by
                rcases hh with hh | hh
                · obtain ⟨⟨c, hc⟩, _⟩ := HP.out.mks n L HLn.out q hh
                  exact Blk.ne_ hc hB (by decide) rfl
                · exact HP.out.dis q hh hq
              have HV9 := Lib.hid (hvm.alloc (.cells #[.slice (some ⟨q8, 0, none⟩) (L.len + 70) cap8] 79))
              have hb2r : b2 ≤ wr.heap.size := by have := HP.out.low.2.2.1; have := hk1.size; omega
              clear hk1 hvm hys hyk
              go_wp2_with (at_builtin; refine wpList_append_keep rfl _ _ 43 rfl b2 79 js _ 1 24 Tryd.underlying43 hjs hjsz hjss hjsb rfl (by decide) _ n zs rfl HV9.out ⟨wr.heap.size, 0, none⟩ 1 1 [.slice (some ⟨q8, 0, none⟩) (L.len + 70) cap8] rfl rfl (World.news_of_block (heap_alloc_new _ _)) (by simp [Value.oneCell']) (by unfold maxLen; omega) (by omega) (by simp; omega) ?_; intro v9 w9 r1 r2 r3 r4 r5; have S1 := Lib.hid r1; have S2 := Lib.hid r2; have S4 := Lib.hid r4; clear r1 r2 r3 r4 r5)
              exact ⟨⟨n + 1, hlt, by rw [Int.natCast_add]; rfl, KPh2.next kRaces_ok HAP.out HP.out HXS.out HXK.out HYS.out HYK.out HLn.out H8i.out M8i.out HCA.out S1.out S2.out S4.out⟩, by simp [intOf]; omega⟩
        · obtain rfl : n = Ls.length := by omega
          have hx : decide (Ls.length < Ls.length) = false := by simp
          obtain ⟨W, hW⟩ : ∃ W, W = wr := ⟨_, rfl⟩
          subst hW
          have HB := Lib.hid HP.out.kept
          obtain ⟨xs, hxs, hxk⟩ := HP.out.os
          obtain ⟨ys, hys, hyk⟩ := HP.out.ms
          obtain ⟨ao, co, rfl⟩ := row_shp hxs
          obtain ⟨am, cm, rfl⟩ := row_shp hys
          have HXS := Lib.hid hxs
          have HXK := Lib.hid hxk
          have HYS := Lib.hid hys
          have HYK := Lib.hid hyk
          clear hxs hxk hys hyk
          go_wp2_with fail
          go_loopw [10, 11, 12, 13] (fun i _ _ _ wr => Ph3RelB Ls.length W i wr) (fun i _ _ _ _ => Ls.length - (intOf i).toNat)
          case atStart => exact ⟨0, Nat.zero_le _, rfl, Below.refl _ _⟩
          case round =>
            obtain ⟨n, hn, rfl, hwn⟩ := hrel
            by_cases hlt : n < Ls.length
            · have hx : decide (n < Ls.length) = true := by simpa using hlt
              have hxi : decide ((n : Int) < (Ls.length : Int)) = true := by simp; omega
              obtain ⟨L, hL⟩ : ∃ L, Ls[n]? = some L := ⟨Ls[n], List.getElem?_eq_getElem hlt⟩
              have hL6 := HL.out n L hL
              have c3 := HP.out.bag.cm hL
              obtain ⟨go, _, e1, _, hgo⟩ := HXS.out.form (by omega)
              obtain ⟨gm, _, e2, _, hgm⟩ := HYS.out.form (by omega)
              injection e1 with e1 _ e3
              injection e2 with e2 _ e4
              subst e1 e2 e3 e4
              obtain ⟨x1, hx1⟩ : ∃ x, xs[n]? = some x := ⟨xs[n]'(by have := HXS.out.1; omega), List.getElem?_eq_getElem _⟩
              obtain ⟨y1, hy1⟩ : ∃ x, ys[n]? = some x := ⟨ys[n]'(by have := HYS.out.1; omega), List.getElem?_eq_getElem _⟩
              obtain ⟨q1, d1, rfl, ⟨_, hB1⟩, _, hm1⟩ := HXK.out n L x1 hL hx1
              obtain ⟨q2, d2, rfl, ⟨_, hB2⟩, _, hm2⟩ := HYK.out n L y1 hL hy1
              have co1 := (HXS.out.cellAt n (by omega)).trans hx1
              have cm1 := (HYS.out.cellAt n (by omega)).trans hy1
              have HM1 := Lib.hid hm1
              have HM2 := Lib.hid hm2
              have HO1 := Lib.hid (HP.out.mks n L hL)
              have HLn := Lib.hid hL
              clear hm1 hm2 hx1 hy1 hL hB1 hB2
              have UPN := Lib.hid (fun (W2 : World) (hb : Below W.heap.size W W2) (q o : Nat) (v : Value) (h : W.cell? ⟨q, o, none⟩ = some v) => (hb.cell (p := ⟨q, o, none⟩) (World.block_lt_of_cell? W _ h)).trans h)
              have HC1 := Lib.hid c1
              have HC3 := Lib.hid c3
              have HCO := Lib.hid co1
              have HCM := Lib.hid cm1
              have cm1 := UPN.out _ hwn _ _ _ cm1
              clear c1 c3 co1
              go_wp2_with fail
              go_loopw [11, 12, 13] (fun i _ _ x => Ph3RelB (L.len + 70) W i x) (fun i _ _ _ => L.len + 70 - (intOf i).toNat)
              case atStart => exact ⟨0, Nat.zero_le _, rfl, hwn⟩
              case round =>
                obtain ⟨i, hi, rfl, hwr⟩ := hrel
                have cm2 := UPN.out _ hwr _ _ _ HCM.out
                by_cases hli : i < L.len + 70
                · have hy : decide (i < L.len + 70) = true := by simpa using hli
                  have hyi : decide ((i : Int) < (L.len : Int) + 70) = true := by simp; omega
                  have hnum := fun W => num_same (n : Int) (i : Int) W
                  have hbx := hwr.size
                  have HWR := Lib.hid hwr
                  have HD2 : Hid (W.cell? ⟨q2, i * 2, none⟩ = some (.int .i64 (numF (n : Int) (i : Int)))) := Lib.hid (by obtain ⟨v, e1, rfl⟩ := HM2.out (i * 2) (by show i * 2 < (L.len + 70) * 2; omega); rw [if_pos (by omega), Nat.mul_div_cancel _ (by omega)] at e1; exact e1)
                  have HD3 : Hid (W.cell? ⟨q2, i * 2 + 1, none⟩ = some (.int .i64 0)) := Lib.hid (by obtain ⟨v, e1, rfl⟩ := HM2.out (i * 2 + 1) (by show i * 2 + 1 < (L.len + 70) * 2; omega); rw [if_neg (by omega)] at e1; exact e1)
                  have d1 : i < L.len + 1 → W.cell? ⟨q1, i * 2, none⟩ = some (.int .i64 (numF (n : Int) (i : Int))) ∧ W.cell? ⟨q1, i * 2 + 1, none⟩ = some (.int .i64 0) := fun h => by
                    obtain ⟨v, e1, rfl⟩ := HM1.out (i * 2) (by show i * 2 < (L.len + 1) * 2; omega)
                    obtain ⟨v, e2, rfl⟩ := HM1.out (i * 2 + 1) (by show i * 2 + 1 < (L.len + 1) * 2; omega)
                    rw [if_pos (by omega), Nat.mul_div_cancel _ (by omega)] at e1
                    rw [if_neg (by omega)] at e2
                    exact ⟨e1, e2⟩
                  have d0 : ∀ g, L.b = some g → i < L.len → W.cell? ⟨g, i * 2, none⟩ = some (.int .i64 (numF (n : Int) (i : Int))) ∧ W.cell? ⟨g, i * 2 + 1, none⟩ = some (.int .i64 0) := fun g hg h => by
                    obtain ⟨v, e1, rfl⟩ := (HO1.out g hg).2 (i * 2) (by show i * 2 < L.len * 2; omega)
                    obtain ⟨v, e2, rfl⟩ := (HO1.out g hg).2 (i * 2 + 1) (by show i * 2 + 1 < L.len * 2; omega)
                    rw [if_pos (by omega), Nat.mul_div_cancel _ (by omega)] at e1
                    rw [if_neg (by omega)] at e2
                    exact ⟨e1, e2⟩
                  have HD0 := Lib.hid d0
                  have HD1 := Lib.hid d1
                  have hnumq := fun W => num_any (n : Int) (i : Int) W
                  obtain ⟨x, hxn⟩ : ∃ x, x = numF (n : Int) (i : Int) := ⟨_, rfl⟩
                  rw [← hxn] at hnumq HD0 HD1 HD2
                  have d2 := UPN.out wr hwr _ _ _ HD2.out
                  have d3 := UPN.out wr hwr _ _ _ HD3.out
                  have hsW := hwr.size
                  clear d0 d1 hnum hxn hwr
                  go_upto_region 27 with (fail)
                  obtain ⟨w2, hw2⟩ : ∃ w2, w2 = wr.alloc (.cells #[.int .i64 x, .int .i64 0] 87) := ⟨_, rfl⟩
                  have HX2 : Hid (Blk w2 wr.heap.size 87 #[.int .i64 x, .int .i64 0]) := Lib.hid (by rw [hw2]; exact Blk.new _ _ _)
                  have HW2 : Hid (Below W.heap.size W w2) := Lib.hid (by rw [hw2]; exact HWR.out.alloc hsW _)
                  obtain ⟨bx, hbx⟩ : ∃ bx, bx = wr.heap.size := ⟨_, rfl⟩
                  rw [← hbx] at HX2 hsW
                  rw [← hw2, ← hbx]
                  clear hw2 hbx d2 d3 cm2
                  have c1 := UPN.out w2 HW2.out _ _ _ HC1.out
                  have c3 := UPN.out w2 HW2.out _ _ _ HC3.out
                  have co1 := UPN.out w2 HW2.out _ _ _ HCO.out
                  have b0 : w2.cell? ⟨bx, 0, none⟩ = some (.int .i64 x) := HX2.out.cell 0
                  have b1 : w2.cell? ⟨bx, 1, none⟩ = some (.int .i64 0) := HX2.out.cell 1
                  have fb0 := HX2.out.frozen 0
                  have fb1 := HX2.out.frozen 1
                  rcases Nat.lt_trichotomy i L.len with h | h | h
                  · have hz : decide (i < L.len) = true := by simpa using h
                    have hzi : decide ((i : Int) < (L.len : Int)) = true := by simp; omega
                    have hz2 : decide (i = L.len) = false := by simp; omega
                    have hz3 : decide ((i : Int) = (L.len : Int)) = false := by simp; omega
                    obtain ⟨g, hg⟩ : ∃ g, L.b = some g := by
                      cases hb : L.b with
                      | some g => exact ⟨g, rfl⟩
                      | none =>
                        have := HLB.out n L HLn.out hb
                        omega
                    have had : L.ad = some ⟨g, 0, none⟩ := by unfold Lst.ad; rw [hg]; rfl
                    rw [had] at c3
                    have HG := Lib.hid hg
                    have e3 := UPN.out w2 HW2.out _ _ _ (HD0.out g hg h).1
                    have e4 := UPN.out w2 HW2.out _ _ _ (HD0.out g hg h).2
                    clear hg had
                    go_upto_region 29 with (fail)
                    obtain ⟨w3, hw3⟩ : ∃ w3, w3 = (w2.setCell ⟨bx, 0, none⟩ (.int .i64 x)).setCell ⟨bx, 1, none⟩ (.int .i64 0) := ⟨_, rfl⟩
                    have HX3 : Hid (Blk w3 bx 87 #[.int .i64 x, .int .i64 0]) := Lib.hid (by rw [hw3]; exact (HX2.out.set_ 0 _).set_ 1 _)
                    have HW3 : Hid (Below W.heap.size W w3) := Lib.hid (by rw [hw3]; exact (HW2.out.setCell (p := ⟨bx, 0, none⟩) hsW _).setCell (p := ⟨bx, 1, none⟩) hsW _)
                    rw [← hw3]
                    clear hw3 c1 c3 co1 b0 b1 fb0 fb1 e3 e4 HX2 HW2
                    have c1 := UPN.out w3 HW3.out _ _ _ HC1.out
                    have b0 : w3.cell? ⟨bx, 0, none⟩ = some (.int .i64 x) := HX3.out.cell 0
                    have b1 : w3.cell? ⟨bx, 1, none⟩ = some (.int .i64 0) := HX3.out.cell 1
                    have fb0 := HX3.out.frozen 0
                    have fb1 := HX3.out.frozen 1
                    have c3 := UPN.out w3 HW3.out _ _ _ HC3.out
                    go_upto_region 31 with (fail)
                    have cm3 := UPN.out w3 HW3.out _ _ _ HCM.out
                    have d2 := UPN.out w3 HW3.out _ _ _ HD2.out
                    have d3 := UPN.out w3 HW3.out _ _ _ HD3.out
                    go_quiet ((go_at_call 40; exact quiet_left (hnumq _)))
                    go_upto_region 33 with (fail)
                    obtain ⟨w4, hw4⟩ : ∃ w4, w4 = ((w3.drewN nq).setCell ⟨bx, 0, none⟩ (.int .i64 x)).setCell ⟨bx, 1, none⟩ (.int .i64 0) := ⟨_, rfl⟩
                    have HX4 : Hid (Blk w4 bx 87 #[.int .i64 x, .int .i64 0]) := Lib.hid (by rw [hw4]; have h3 : Blk (w3.drewN nq) bx 87 #[.int .i64 x, .int .i64 0] := HX3.out; exact (h3.set_ 0 _).set_ 1 _)
                    have HW4 : Hid (Below W.heap.size W w4) := Lib.hid (by rw [hw4]; exact ((below_drewN HW3.out nq).setCell (p := ⟨bx, 0, none⟩) hsW _).setCell (p := ⟨bx, 1, none⟩) hsW _)
                    rw [← hw4]
                    clear hw4 b0 b1 fb0 fb1 cm3 d2 d3
                    have r0 : w4.cell? ⟨bx, 0, none⟩ = some (.int .i64 x) := HX4.out.cell 0
                    have r1 : w4.cell? ⟨bx, 1, none⟩ = some (.int .i64 0) := HX4.out.cell 1
                    go_quiet ((go_at_call 40; exact quiet_left (hnumq _)))
                    go_wp2_with fail
                    exact ⟨⟨_, hli, by first | rfl | simp, below_drewN HW4.out _⟩, by first | (simp [intOf]; done) | (simp [intOf]; omega)⟩
                  · subst h
                    have hz : decide (L.len < L.len) = false := by simp
                    have e3 := UPN.out w2 HW2.out _ _ _ (HD1.out (by omega)).1
                    have e4 := UPN.out w2 HW2.out _ _ _ (HD1.out (by omega)).2
                    go_upto_region 31 with (fail)
                    obtain ⟨w3, hw3⟩ : ∃ w3, w3 = (w2.setCell ⟨bx, 0, none⟩ (.int .i64 x)).setCell ⟨bx, 1, none⟩ (.int .i64 0) := ⟨_, rfl⟩
                    have HX3 : Hid (Blk w3 bx 87 #[.int .i64 x, .int .i64 0]) := Lib.hid (by rw [hw3]; exact (HX2.out.set_ 0 _).set_ 1 _)
                    have HW3 : Hid (Below W.heap.size W w3) := Lib.hid (by rw [hw3]; exact (HW2.out.setCell (p := ⟨bx, 0, none⟩) hsW _).setCell (p := ⟨bx, 1, none⟩) hsW _)
                    rw [← hw3]
                    clear hw3 c1 c3 co1 b0 b1 fb0 fb1 e3 e4 HX2 HW2
                    have c1 := UPN.out w3 HW3.out _ _ _ HC1.out
                    have b0 : w3.cell? ⟨bx, 0, none⟩ = some (.int .i64 x) := HX3.out.cell 0
                    have b1 : w3.cell? ⟨bx, 1, none⟩ = some (.int .i64 0) := HX3.out.cell 1
                    have fb0 := HX3.out.frozen 0
                    have fb1 := HX3.out.frozen 1
                    have cm3 := UPN.out w3 HW3.out _ _ _ HCM.out
                    have d2 := UPN.out w3 HW3.out _ _ _ HD2.out
                    have d3 := UPN.out w3 HW3.out _ _ _ HD3.out
                    go_quiet ((go_at_call 40; exact quiet_left (hnumq _)))
                    go_upto_region 33 with (fail)
                    obtain ⟨w4, hw4⟩ : ∃ w4, w4 = ((w3.drewN nq).setCell ⟨bx, 0, none⟩ (.int .i64 x)).setCell ⟨bx, 1, none⟩ (.int .i64 0) := ⟨_, rfl⟩
                    have HX4 : Hid (Blk w4 bx 87 #[.int .i64 x, .int .i64 0]) := Lib.hid (by rw [hw4]; have h3 : Blk (w3.drewN nq) bx 87 #[.int .i64 x, .int .i64 0] := HX3.out; exact (h3.set_ 0 _).set_ 1 _)
                    have HW4 : Hid (Below W.heap.size W w4) := Lib.hid (by rw [hw4]; exact ((below_drewN HW3.out nq).setCell (p := ⟨bx, 0, none⟩) hsW _).setCell (p := ⟨bx, 1, none⟩) hsW _)
                    rw [← hw4]
                    clear hw4 b0 b1 fb0 fb1 cm3 d2 d3
                    have r0 : w4.cell? ⟨bx, 0, none⟩ = some (.int .i64 x) := HX4.out.cell 0
                    have r1 : w4.cell? ⟨bx, 1, none⟩ = some (.int .i64 0) := HX4.out.cell 1
                    go_quiet ((go_at_call 40; exact quiet_left (hnumq _)))
                    go_wp2_with fail
                    exact ⟨⟨_, hli, by first | rfl | simp, below_drewN HW4.out _⟩, by first | (simp [intOf]; done) | (simp [intOf]; omega)⟩
                  · have hz : decide (i < L.len) = false := by simp; omega
                    have hzi : decide ((i : Int) < (L.len : Int)) = false := by simp; omega
                    have hz2 : decide (i = L.len) = false := by simp; omega
                    have hz3 : decide ((i : Int) = (L.len : Int)) = false := by simp; omega
                    go_upto_region 31 with (fail)
                    obtain ⟨w3, hw3⟩ : ∃ w3, w3 = w2 := ⟨_, rfl⟩
                    subst hw3
                    have HX3 := Lib.hid HX2.out
                    have HW3 := Lib.hid HW2.out
                    clear HX2 HW2
                    have cm3 := UPN.out w3 HW3.out _ _ _ HCM.out
                    have d2 := UPN.out w3 HW3.out _ _ _ HD2.out
                    have d3 := UPN.out w3 HW3.out _ _ _ HD3.out
                    go_quiet ((go_at_call 40; exact quiet_left (hnumq _)))
                    go_upto_region 33 with (fail)
                    obtain ⟨w4, hw4⟩ : ∃ w4, w4 = ((w3.drewN nq).setCell ⟨bx, 0, none⟩ (.int .i64 x)).setCell ⟨bx, 1, none⟩ (.int .i64 0) := ⟨_, rfl⟩
                    have HX4 : Hid (Blk w4 bx 87 #[.int .i64 x, .int .i64 0]) := Lib.hid (by rw [hw4]; have h3 : Blk (w3.drewN nq) bx 87 #[.int .i64 x, .int .i64 0] := HX3.out; exact (h3.set_ 0 _).set_ 1 _)
                    have HW4 : Hid (Below W.heap.size W w4) := Lib.hid (by rw [hw4]; exact ((below_drewN HW3.out nq).setCell (p := ⟨bx, 0, none⟩) hsW _).setCell (p := ⟨bx, 1, none⟩) hsW _)
                    rw [← hw4]
                    clear hw4 b0 b1 fb0 fb1 cm3 d2 d3
                    have r0 : w4.cell? ⟨bx, 0, none⟩ = some (.int .i64 x) := HX4.out.cell 0
                    have r1 : w4.cell? ⟨bx, 1, none⟩ = some (.int .i64 0) := HX4.out.cell 1
                    go_quiet ((go_at_call 40; exact quiet_left (hnumq _)))
                    go_wp2_with fail
                    exact ⟨⟨_, hli, by first | rfl | simp, below_drewN HW4.out _⟩, by first | (simp [intOf]; done) | (simp [intOf]; omega)⟩
                · obtain rfl : i = L.len + 70 := by omega
                  have hy : decide (L.len + 70 < L.len + 70) = false := by simp
                  have hyi : decide ((L.len : Int) + 70 < (L.len : Int) + 70) = false := by simp
                  go_wp2_with fail
                  exact ⟨⟨n + 1, hlt, by rw [Int.natCast_add]; rfl, hwr⟩, by first | (simp [intOf]; done) | (simp [intOf]; omega)⟩
            · obtain rfl : n = Ls.length := by omega
              have hx : decide (Ls.length < Ls.length) = false := by simp
              go_wp2_with fail
              go_ret
              exact ⟨rfl, HB.out.trans (Kept.of_below hwn), HP.out.bag.same (hwn.block bg HP.out.bag.bag.1.lt) (by obtain ⟨c, h3, _⟩ := HP.out.bag.row; exact hwn.block bi h3.lt)⟩
end Go.Proofs.YtonnlgpjobfnmaaDoor
