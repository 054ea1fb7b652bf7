/- JudgeClocks' walk. Conditions: what the log's cells hold; Go's table of the powers of ten. -/
import Derived.Test.YtonnlgpjobfnmaaDoorKLawN
import Derived.Test.YtonnlgpjobfnmaaDoorKJudgeW
namespace Go.Proofs.YtonnlgpjobfnmaaDoor
open Go.RowKit
set_option maxRecDepth 100000
theorem wideL_front {w : World} {B : Nat} {b : Option Addr} {X : List Acc} (h : LogAt w B b (wideA X)) : LogAt w B b X :=
  ⟨by have := h.small; rw [wideA_len] at this; omega, fun c hc => h.wf c (by unfold wideA; exact List.mem_append_left _ hc), fun i c hc => h.at_ i c (by rw [wideA_lo (List.getElem?_eq_some_iff.1 hc).1]; exact hc)⟩
theorem orows_shape {w : World} {base : Nat} {v : Value} {Xs : List (List Int)} (h : ORows w base v Xs) (hX : ∀ X, X ∈ Xs → X.length ≤ 1000000) : ∃ a c vs, v = .slice a Xs.length c ∧ vs.length = Xs.length ∧ w.ownsRow base 27 1 v Xs.length vs ∧ RowsAt w a Xs ∧ SlcAt w a vs ∧ Owned w base 3 1 vs := by
  obtain ⟨vs, h1, h2, h3⟩ := h
  obtain ⟨a, c, e⟩ := row_shp h1
  subst e
  have hl : vs.length = Xs.length := by have := h1.1; omega
  have hx : ∀ {i : Nat} {x : Value}, vs[i]? = some x → ∃ X, Xs[i]? = some X := fun {i x} h => ⟨Xs[i]'(by have := (List.getElem?_eq_some_iff.1 h).1; omega), List.getElem?_eq_getElem _⟩
  have hf : ∀ i, i < Xs.length → ∃ g, a = some ⟨g, 0, none⟩ ∧ g < w.heap.size := fun i hi => by
    obtain ⟨g, _, e, _, hg⟩ := h1.form (by omega)
    injection e with e _ _
    exact ⟨g, e, hg⟩
  refine ⟨a, c, vs, rfl, hl, h1, fun i X hX0 => ?_, fun i x hx0 => ?_, ⟨fun i x hx0 => ?_, h3⟩⟩
  · have hi := (List.getElem?_eq_some_iff.1 hX0).1
    obtain ⟨g, e, _⟩ := hf i hi
    obtain ⟨x, hx0⟩ : ∃ x, vs[i]? = some x := ⟨vs[i]'(by omega), List.getElem?_eq_getElem _⟩
    have ho := h2 i X x hX0 hx0
    obtain ⟨ax, cx, ex⟩ := row_shp ho
    subst ex
    refine ⟨g, ax, cx, e, ?_, fun k y hy => ?_⟩
    · subst e
      exact (h1.cellAt i (by omega)).trans hx0
    · have hk := (List.getElem?_eq_some_iff.1 hy).1
      obtain ⟨g2, _, e2, _, _⟩ := ho.form (by omega)
      injection e2 with e2 _ _
      subst e2
      exact ⟨g2, 0, rfl, by rw [Nat.zero_add, ho.cellAt k (by omega), List.getElem?_map, hy]; rfl⟩
  · obtain ⟨X, hX0⟩ := hx hx0
    have hi := (List.getElem?_eq_some_iff.1 hX0).1
    obtain ⟨g, e, hg⟩ := hf i hi
    subst e
    obtain ⟨ax, cx, ex⟩ := row_shp (h2 i X x hX0 hx0)
    exact ⟨g, ax, _, cx, rfl, ex, (h1.cellAt i (by omega)).trans hx0, hg⟩
  · obtain ⟨X, hX0⟩ := hx hx0
    exact ⟨_, _, h2 i X x hX0 hx0, hX X (List.mem_of_getElem? hX0)⟩
theorem Owned.mono {w : World} {base b' sz : Nat} {e : TypeId} {vs : List Value} (h : Owned w base e sz vs) (hb : b' ≤ base) : Owned w b' e sz vs := ⟨fun i x hx => by obtain ⟨n, ys, h1, h2⟩ := h.own i x hx; exact ⟨n, ys, own_mono h1 hb, h2⟩, h.apart⟩
theorem Owned.below {w w' : World} {base sz : Nat} {e : TypeId} {vs : List Value} (h : Owned w base e sz vs) (hb : Below w.heap.size w w') : Owned w' base e sz vs := h.same fun q _ _ hB => hb.block q hB.lt
theorem SlcAt.of {w w' : World} {a : Option Addr} {vs : List Value} (h : SlcAt w a vs) (hb : Below w.heap.size w w') : SlcAt w' a vs := fun i v hv => by
  obtain ⟨g, ax, lx, cx, e1, e2, e3, e4⟩ := h i v hv
  exact ⟨g, ax, lx, cx, e1, e2, (hb.cell (p := ⟨g, i, none⟩) e4).trans e3, Nat.lt_of_lt_of_le e4 hb.size⟩
theorem owned_two {w : World} {base mid sz n m : Nat} {e : TypeId} {x y : Value} {xs ys : List Value} (h1 : w.ownsRow base e sz x n xs) (h2 : w.ownsRow base e sz y m ys) (hn : n ≤ 1000000) (hm : m ≤ 1000000) (hx : ∀ q, x.ownBlock = some q → q < mid) (hy : ∀ q, y.ownBlock = some q → mid ≤ q) : Owned w base e sz [x, y] := by
  refine Owned.app (xs := [x]) (ys := [y]) (mid := mid) ⟨fun i z hz => ?_, fun i j a b q ha hb _ _ => ?_⟩ ⟨fun i z hz => ?_, fun i j a b q ha hb _ _ => ?_⟩ (fun z q hz hq => ?_) fun z q hz hq => ?_
  · rcases i with _ | i
    · obtain rfl : x = z := by simpa using hz
      exact ⟨n, xs, h1, hn⟩
    · simp at hz
  · have := (List.getElem?_eq_some_iff.1 ha).1
    have := (List.getElem?_eq_some_iff.1 hb).1
    simp at *
    omega
  · rcases i with _ | i
    · obtain rfl : y = z := by simpa using hz
      exact ⟨m, ys, h2, hm⟩
    · simp at hz
  · have := (List.getElem?_eq_some_iff.1 ha).1
    have := (List.getElem?_eq_some_iff.1 hb).1
    simp at *
    omega
  · obtain rfl : z = x := by simpa using hz
    exact hx q hq
  · obtain rfl : z = y := by simpa using hz
    exact hy q hq
theorem bagS_new (w : World) : BagS (w.alloc (.cells nil14 50)) w.heap.size (w.heap.size + 1) nil14 (.slice none 0 0) (.slice none 0 0) [] [] :=
  ⟨Blk.new _ _ _, rfl, nil14_at 1 (by omega), nil14_at 11 (by omega), World.ownsRow_nil _ _ _ _, World.ownsRow_nil _ _ _ _, ⟨by omega, by simp⟩, fun k hk _ _ => nil14_at k hk, fun _ => rfl⟩
theorem cksR_small {L : List Acc} : ∀ X, X ∈ cksR L → X.length ≤ 1000000 := fun X hX => by
  unfold cksR at hX
  split at hX
  · rename_i hm
    obtain ⟨c, _, rfl⟩ := List.mem_map.1 hX
    rw [clkN_len]
    have := threads_bd L hm
    omega
  · simp at hX
theorem cksR_le {L : List Acc} : (cksR L).length ≤ L.length := by
  unfold cksR
  split
  · rw [List.length_map, clocksOf_len]; exact Nat.le_refl _
  · simp
theorem aheadAns_form (L : List Acc) (a b : Int) : ∃ (x : Bool) (e : Int), aheadAns L a b = .tuple #[.bool x, .int .i64 e] := by
  unfold aheadAns
  split
  · exact ⟨_, _, rfl⟩
  · split <;> exact ⟨_, _, rfl⟩
theorem longA_any (b : Option Addr) (cap n : Nat) (w : World) : Calls Tryd.prog 25 #[.slice b n cap] w fun e w' => e = .returned (.bool (decide (2048 < n))) ∧ w' = w := by
  go_enter Tryd.func25, Tryd.ntmps25
  go_wp2_with fail
  refine bodyPost_ret (results_tmp rfl _ _ _) rfl ⟨?_, rfl⟩
  simp [go_sem]
  omega
set_option maxHeartbeats 1600000 in
theorem clk_long (b : Option Addr) (cap n : Nat) (i j : Int) (hl : 2048 < n) (w : World) (hT : Tens w) :
    Calls Tryd.prog 6 #[.slice b n cap, .int .i64 i, .int .i64 j] w (LawPost w) := by
  have HT := Lib.hid hT
  have hd : decide (2048 < n) = true := by simpa using hl
  clear hT
  go_enter Tryd.func6, Tryd.ntmps6
  go_wp2_with (first
    | (go_at_call 25; refine (longA_any b cap n _).mono ?_; rintro e w1 ⟨he, hw1⟩; rw [hd] at he; subst he hw1)
    | (go_at_call 10; go_must (refine (lives_any _ HT.out).mono ?_); rintro e w9 ⟨rfl, hk9⟩; have HK9 := Lib.hid hk9; clear hk9))
  exact bodyPost_ret (results_tmp rfl _ _ _) rfl ⟨rfl, HK9.out⟩
set_option maxHeartbeats 4000000 in
theorem clk_some (b : Option Addr) (cap : Nat) (L : List Acc) (i j : Int) (hl : L.length ≤ 2048) (w : World) (hC : LogAt w w.heap.size b L) (hT : Tens w) :
    Calls Tryd.prog 6 #[.slice b L.length cap, .int .i64 i, .int .i64 j] w (LawPost w) := by
  have HT := Lib.hid hT
  have HC := Lib.hid hC
  have hd : decide (2048 < L.length) = false := by simpa using hl
  have HWC := Lib.hid (wideA_any b cap L.length L rfl (by omega) w hC)
  clear hT hC
  go_enter Tryd.func6, Tryd.ntmps6
  go_upto_region 4 with (first
    | (go_at_call 25; refine (longA_any b cap _ _).mono ?_; rintro e wl ⟨he, hwl⟩; rw [hd] at he; subst he; subst wl)
    | (go_at_call 26; refine HWC.out.mono ?_; rintro e w2 ⟨rfl, hw2, hb2⟩; have HW := Lib.hid hw2; have HB2 := Lib.hid hb2; clear hw2 hb2))
  have hs2 := HB2.out.size
  have HCW : Hid (∀ W, Below w2.heap.size w2 W → LogAt W W.heap.size (some ⟨w.heap.size, 0, none⟩) L) := Lib.hid fun W hW => ((wideL_front HW.out).of hW).mono hW.size
  have HIW : Hid (∀ W, Below w2.heap.size w2 W → LogAt W W.heap.size b L) := Lib.hid fun W hW => ((HC.out.of HB2.out).of (hW.mono hs2)).mono (Nat.le_trans hs2 hW.size)
  have HL2 := Lib.hid (jclocks_any _ (L.length + 64) L w2 (HCW.out w2 (Below.refl _ _)) hl)
  obtain ⟨er, her⟩ : ∃ er : Int, er = if mayLog L = true then 0 else 31 := ⟨_, rfl⟩
  have HER := Lib.hid her
  clear her
  go_upto_region 5 with (go_at_call 27; refine HL2.out.mono ?_; rintro e w3 ⟨v3, he, hv3, hb3⟩; rw [← HER.out] at he; subst he; have HB3 := Lib.hid hb3; have HV3 := Lib.hid hv3; clear hb3 hv3)
  have hs3 := HB3.out.size
  have HL3 := Lib.hid (jclocks_any _ (L.length + 64) L w3 (HCW.out w3 HB3.out) hl)
  go_upto_region 6 with (go_at_call 27; refine HL3.out.mono ?_; rintro e w4 ⟨v4, he, hv4, hb4⟩; rw [← HER.out] at he; subst he; have HB4 := Lib.hid hb4; have HV4 := Lib.hid hv4; clear hb4 hv4)
  have hs4 := HB4.out.size
  have HB24 : Hid (Below w2.heap.size w2 w4) := Lib.hid (HB3.out.trans (HB4.out.mono hs3))
  have HR4 := Lib.hid (rclocks_any b cap L w4 (HIW.out w4 HB24.out) hl)
  go_upto_region 7 with (go_at_call 28; refine HR4.out.mono ?_; rintro e w5 ⟨a5, c5, he, hv5, hb5⟩; rw [← HER.out] at he; subst he; have HB5 := Lib.hid hb5; have HV5 := Lib.hid hv5; clear hb5 hv5)
  have hs5 := HB5.out.size
  have HB25 : Hid (Below w2.heap.size w2 w5) := Lib.hid (HB24.out.trans (HB5.out.mono (Nat.le_trans hs3 hs4)))
  have HA5 := Lib.hid (ahead2 _ (L.length + 64) L i j w5 (HCW.out w5 HB25.out) hl)
  obtain ⟨ba, ea, hba⟩ := aheadAns_form L i j
  have HBA := Lib.hid hba
  clear hba
  go_upto_region 8 with (go_at_call 23; refine HA5.out.mono ?_; rintro e w6 ⟨he, hb6⟩; rw [HBA.out] at he; subst he; have HB6 := Lib.hid hb6; clear hb6)
  have hs6 := HB6.out.size
  have HB26 : Hid (Below w2.heap.size w2 w6) := Lib.hid (HB25.out.trans (HB6.out.mono (by omega)))
  have HA6 := Lib.hid (rahead2 b cap L i j w6 (HIW.out w6 HB26.out) hl)
  go_upto_region 9 with (go_at_call 29; refine HA6.out.mono ?_; rintro e w7 ⟨he, hb7⟩; rw [HBA.out] at he; subst he; have HB7 := Lib.hid hb7; clear hb7)
  have hs7 := HB7.out.size
  have HB57 : Hid (Below w5.heap.size w5 w7) := Lib.hid (HB6.out.trans (HB7.out.mono hs6))
  have HB27 : Hid (Below w2.heap.size w2 w7) := Lib.hid (HB25.out.trans (HB57.out.mono (by omega)))
  have hXl := cksR_le (L := L)
  have hXs := Lib.hid (cksR_small (L := L))
  obtain ⟨Xs, hXs0⟩ : ∃ Xs, Xs = cksR L := ⟨_, rfl⟩
  rw [← hXs0] at HV3 HV4 HV5 hXl hXs
  rw [← hXs0]
  clear hXs0 HER
  obtain ⟨a3, c3, vs3, rfl, hl3, ho3, hr3, hsl3, how3⟩ := orows_shape HV3.out hXs.out
  obtain ⟨a4, c4, vs4, rfl, hl4, ho4, hr4, hsl4, how4⟩ := orows_shape HV4.out hXs.out
  have HB47 : Hid (Below w4.heap.size w4 w7) := Lib.hid (HB5.out.trans (HB57.out.mono hs5))
  have HB37 : Hid (Below w3.heap.size w3 w7) := Lib.hid (HB4.out.trans (HB47.out.mono hs4))
  have HX1 := Lib.hid (eqRows_same a3 a5 c3 c5 Xs.length Xs rfl (by omega) hXs.out w7 (hr3.of HB37.out) (HV5.out.of HB57.out))
  have HX2 := Lib.hid fun W (hW : Below w7.heap.size w7 W) => eqRows_same a4 a5 c4 c5 Xs.length Xs rfl (by omega) hXs.out W ((hr4.of HB47.out).of hW) ((HV5.out.of HB57.out).of hW)
  have HX3 := Lib.hid fun W (hW : Below w2.heap.size w2 W) => eqAccs_same (some ⟨w.heap.size, 0, none⟩) b (L.length + 64) cap L.length _ _ L rfl (by omega) W (HCW.out W hW) (HIW.out W hW)
  have HX4 := Lib.hid fun W (hW : Below w2.heap.size w2 W) => spareA_any w.heap.size L.length L rfl (by omega) W ((HW.out.of hW).mono hW.size)
  have HO3 := Lib.hid ho3
  have HO4 := Lib.hid ho4
  have HS3 := Lib.hid (hsl3.of HB37.out)
  have HS4 := Lib.hid (hsl4.of HB47.out)
  have HW3 := Lib.hid how3
  have HW4 := Lib.hid how4
  have HL3' := Lib.hid hl3
  have HL4' := Lib.hid hl4
  clear ho3 ho4 hr3 hr4 hsl3 hsl4 how3 how4 HV3 HV4 HV5 hl3 hl4 HWC HL2 HL3 HR4 HA5 HA6 hd
  go_upto_region 10 with (go_at_call 30; refine HX1.out.mono ?_; rintro e w8 ⟨he, n8, hw8⟩; subst he; have HB8 : Hid (Below w7.heap.size w7 w8) := Lib.hid (by rw [hw8]; exact below_drewN (Below.refl _ _) _); clear hw8 HX1)
  have HY2 := Lib.hid (HX2.out w8 HB8.out)
  refine HY2.out.mono ?_; rintro e w9 ⟨he, n9, hw9⟩; subst he; have HB9 : Hid (Below w7.heap.size w7 w9) := Lib.hid (by rw [hw9]; exact below_drewN HB8.out _); have HY3 := Lib.hid (HX3.out w9 (HB27.out.trans (HB9.out.mono (by omega)))); clear hw9 HY2 HX2
  go_upto_region 10 with fail
  refine HY3.out.mono ?_; rintro e w10 ⟨he, n10, hw10⟩; subst he; have HB10 : Hid (Below w7.heap.size w7 w10) := Lib.hid (by rw [hw10]; exact below_drewN HB9.out _); have HY4 := Lib.hid (HX4.out w10 (HB27.out.trans (HB10.out.mono (by omega)))); clear hw10 HY3
  go_upto_region 10 with fail
  refine HY4.out.mono ?_; rintro e w11 ⟨he, hw11⟩; subst he; have HB11 : Hid (Below w7.heap.size w7 w11) := Lib.hid (HB10.out.trans (hw11.mono HB10.out.size)); clear hw11 HY4 HX4 HB8 HB9 HB10
  go_upto_region 12 with fail
  obtain ⟨wa, hwa⟩ : ∃ wa, wa = w11.alloc (.cells nil14 50) := ⟨_, rfl⟩
  have HSA : Hid (BagS wa w11.heap.size (w11.heap.size + 1) nil14 (.slice none 0 0) (.slice none 0 0) [] []) := Lib.hid (by rw [hwa]; exact bagS_new w11)
  have HBA : Hid (Below w11.heap.size w11 wa) := Lib.hid (by rw [hwa]; exact (Below.refl _ _).alloc (Nat.le_refl _) _)
  unfold nil14 at hwa
  rw [← hwa]
  clear hwa
  have hs11 := HB11.out.size
  have HB7a : Hid (Below w7.heap.size w7 wa) := Lib.hid (HB11.out.trans (HBA.out.mono hs11))
  have HA1 := Lib.hid (addRows_any w11.heap.size _ nil14 _ _ [] [] vs3 (by simp) (by simp) a3 Xs.length c3 HL3'.out (by omega) wa HSA.out (HS3.out.of HB7a.out) (fun g off e => by have := (HO3.out.lt g (by rw [e]; rfl)).2; omega))
  go_upto_region 13 with (go_at_call 33; refine HA1.out.mono ?_; rintro e wb ⟨he, hbb, csb, v1b, v11b, hSb⟩; subst he; have HBB := Lib.hid hbb; have HSB := Lib.hid hSb; clear hbb hSb HA1)
  have HB7b : Hid (Below w7.heap.size w7 wb) := Lib.hid (HB7a.out.trans (HBB.out.mono hs11))
  have HA2 := Lib.hid (addRows_any w11.heap.size _ csb _ _ _ _ vs4 (by simp; omega) (by simp) a4 Xs.length c4 HL4'.out (by omega) wb HSB.out (HS4.out.of HB7b.out) (fun g off e => by have := (HO4.out.lt g (by rw [e]; rfl)).2; omega))
  go_upto_region 14 with (go_at_call 33; refine HA2.out.mono ?_; rintro e wc ⟨he, hbc, csc, v1c, v11c, hSc⟩; subst he; have HBC := Lib.hid hbc; have HSC := Lib.hid hSc; clear hbc hSc HA2)
  have HB7c : Hid (Below w7.heap.size w7 wc) := Lib.hid (HB7b.out.trans (HBC.out.mono hs11))
  have HB2c : Hid (Below w2.heap.size w2 wc) := Lib.hid (HB27.out.trans (HB7c.out.mono (by omega)))
  have HB3c : Hid (Below w3.heap.size w3 wc) := Lib.hid (HB37.out.trans (HB7c.out.mono (by omega)))
  have HB4c : Hid (Below w4.heap.size w4 wc) := Lib.hid (HB47.out.trans (HB7c.out.mono (by omega)))
  have HOW : Hid (Owned wc w2.heap.size 3 1 ((([] ++ vs3.take 400).take 400 ++ vs4.take 400).take 400)) := Lib.hid (by
    refine Owned.take (Owned.app (mid := w3.heap.size) (Owned.take (Owned.take (HW3.out.below HB3c.out) 400) 400) (((HW4.out.below HB4c.out).mono (by omega)).take 400) (fun x q hx hq => ?_) fun y q hy hq => ?_) 400
    · have hx := List.mem_of_mem_take (List.mem_of_mem_take hx)
      obtain ⟨k, hk⟩ := List.getElem?_of_mem hx
      obtain ⟨_, _, ho, _⟩ := HW3.out.own k x hk
      exact (ho.lt q hq).2
    · have hy := List.mem_of_mem_take hy
      obtain ⟨k, hk⟩ := List.getElem?_of_mem hy
      obtain ⟨_, _, ho, _⟩ := HW4.out.own k y hk
      exact (ho.lt q hq).1)
  have HOW2 : Hid (Owned wc w2.heap.size 27 1 (([] ++ [Value.slice a3 Xs.length c3]) ++ [.slice a4 Xs.length c4])) := Lib.hid (owned_two (mid := w3.heap.size) (row_same HO3.out fun q _ _ hB => HB3c.out.block q hB.lt) (own_mono (row_same HO4.out fun q _ _ hB => HB4c.out.block q hB.lt) hs3) (by omega) (by omega) (fun q hq => (HO3.out.lt q hq).2) fun q hq => (HO4.out.lt q hq).1)
  have hzc := HB2c.out.size
  have HAP := Lib.hid (apart_rows w11.heap.size _ w2.heap.size csc _ _ _ _ wc HSC.out HOW.out HOW2.out (by simp; omega) (by simp) (by simp) hzc)
  have HTW : Hid (∀ W, Below w2.heap.size w2 W → Tens W) := Lib.hid fun W hW => HT.out.below (HB2.out.trans (hW.mono hs2))
  have HBW : Hid (∀ W, Below w2.heap.size w2 W → Below w.heap.size w W) := Lib.hid fun W hW => HB2.out.trans (hW.mono hs2)
  clear HOW HOW2 HSC HSB HSA
  go_wp2_with (first
    | (go_at_call 18; refine HAP.out.mono ?_; rintro e wd ⟨he, hd1⟩; subst he; have HBD : Hid (Below w2.heap.size w2 wd) := Lib.hid (HB2c.out.trans hd1); clear hd1 HAP; have HX5 := Lib.hid (HX3.out wd HBD.out))
    | (go_at_call 31; refine HX5.out.mono ?_; rintro e we ⟨he, ne, hwe⟩; subst he; have HBE : Hid (Below w2.heap.size w2 we) := Lib.hid (by rw [hwe]; exact below_drewN HBD.out _); clear hwe HX5; have HLV := Lib.hid (lives_any we (HTW.out we HBE.out)))
    | (go_at_call 10; refine HLV.out.mono ?_; rintro e wf ⟨he, hf⟩; subst he; have HBF : Hid (Below w2.heap.size w2 wf) := Lib.hid (HBE.out.trans (hf.mono HBE.out.size)); clear hf HLV))
  exact bodyPost_ret (results_tmp rfl _ _ _) rfl ⟨rfl, HBW.out wf HBF.out⟩
theorem clk_law (b : Option Addr) (cap n : Nat) (L : List Acc) (hn : L.length = n) (i j : Int) (w : World) (hC : LogAt w w.heap.size b L) (hT : Tens w) :
    Calls Tryd.prog 6 #[.slice b n cap, .int .i64 i, .int .i64 j] w (LawPost w) := by
  by_cases h : 2048 < n
  · exact clk_long b cap n i j h w hT
  · subst hn
    exact clk_some b cap L i j (by omega) w hC hT
end Go.Proofs.YtonnlgpjobfnmaaDoor
