/- ref26.Clocks, ref26.ahead, ref26.Ahead: what they answer. Conditions: a log of 2048 entries at most. -/
import Derived.Test.YtonnlgpjobfnmaaDoorRRefE
import Derived.Test.YtonnlgpjobfnmaaDoorRLinK
namespace Go.Proofs.YtonnlgpjobfnmaaDoor
open Go.RowKit
set_option maxRecDepth 100000
/-- A slice reads as a list of lists of ints. -/
def RowsAt (w : World) (a : Option Addr) (Xs : List (List Int)) : Prop :=
  ∀ (i : Nat) X, Xs[i]? = some X → ∃ g ax cx, a = some ⟨g, 0, none⟩ ∧ w.cell? ⟨g, i, none⟩ = some (.slice ax X.length cx) ∧ IntsAt w ax X
theorem RowsAt.of {w w' : World} {a : Option Addr} {Xs : List (List Int)} (h : RowsAt w a Xs) (hb : Below w.heap.size w w') : RowsAt w' a Xs := fun i X hX => by
  obtain ⟨g, ax, cx, e, hc, hI⟩ := h i X hX
  exact ⟨g, ax, cx, e, (hb.cell (p := ⟨g, i, none⟩) (World.block_lt_of_cell? w _ hc)).trans hc, hI.of hb⟩
/-- The clocks as lists. -/
def cksR (L : List Acc) : List (List Int) := if mayLog L then (clocksOf L).map (clkN (threads L).toNat) else []
theorem cksR_len {L : List Acc} (h : mayLog L = true) : (cksR L).length = L.length := by unfold cksR; rw [if_pos h, List.length_map, clocksOf_len]
theorem rows_of {w : World} {base n : Nat} {ex : Option Nat} {v : Value} {xs : List Value} {L : List Acc} (hm : mayLog L = true) (h : w.ownsRow base 27 1 v n xs) (hg : ∀ (i : Nat) c x, (clocksOf L)[i]? = some c → xs[i]? = some x → Gd w ex x (clkN (threads L).toNat c)) (hn : n = L.length) : ∃ a cap, v = .slice a n cap ∧ RowsAt w a (cksR L) := by
  obtain ⟨a, cap, rfl⟩ := row_shp h
  refine ⟨a, cap, rfl, fun i X hX => ?_⟩
  unfold cksR at hX
  rw [if_pos hm, List.getElem?_map] at hX
  obtain ⟨c, hc, rfl⟩ := Option.map_eq_some_iff.1 hX
  have hi : i < n := by have := (List.getElem?_eq_some_iff.1 hc).1; rw [clocksOf_len] at this; omega
  obtain ⟨g, _, e, _, _⟩ := h.form (by omega)
  injection e with e _ _
  subst e
  obtain ⟨x, hx⟩ : ∃ x, xs[i]? = some x := ⟨xs[i]'(by have := h.1; omega), List.getElem?_eq_getElem _⟩
  obtain ⟨ax, cx, rfl, hg'⟩ := id (hg i c x hc hx)
  exact ⟨g, ax, cx, rfl, (h.cellAt i (by omega)).trans hx, (Gd.ints (hg i c _ hc hx)).2⟩
def RClocksPost (L : List Acc) (w : World) (e : Ending) (w' : World) : Prop :=
  ∃ a cap, e = .returned (.tuple #[.slice a (cksR L).length cap, .int .i64 (if mayLog L then 0 else 31)]) ∧ RowsAt w' a (cksR L) ∧ Below w.heap.size w w'
set_option maxHeartbeats 1600000 in
theorem rclocks_any (b : Option Addr) (cap : Nat) (L : List Acc) (w : World) (h : LogAt w w.heap.size b L) (hl : L.length ≤ 2048) :
    Calls Tryd.prog 28 #[.slice b L.length cap] w (RClocksPost L w) := by
  have H := Lib.hid h
  clear h
  cases hm : mayLog L with
  | false =>
    have HM := Lib.hid hm
    clear hm
    go_enter Tryd.func28, Tryd.ntmps28
    go_wp2_with (go_at_call 66; refine (rmay_any b cap L _ H.out).mono ?_; rintro e w1 ⟨he, hb1⟩; rw [HM.out] at he; subst he; have HB1 := Lib.hid hb1; clear hb1)
    refine bodyPost_ret (v := .tuple #[.slice none 0 0, .int .i64 31]) (by simp [results, Tryd.results28, go_sem]) rfl ⟨none, 0, ?_, fun i X hX => ?_, HB1.out⟩
    · unfold cksR; rw [if_neg (by rw [HM.out]; simp), if_neg (by rw [HM.out]; simp)]; rfl
    · unfold cksR at hX; rw [if_neg (by rw [HM.out]; simp)] at hX; simp at hX
  | true =>
    have HM := Lib.hid hm
    clear hm
    go_enter Tryd.func28, Tryd.ntmps28
    go_wp2_with (first
      | (go_at_call 66; refine (rmay_any b cap L _ H.out).mono ?_; rintro e w1 ⟨he, hb1⟩; rw [HM.out] at he; subst he; have HB1 := Lib.hid hb1; clear hb1)
      | (go_at_call 67; refine (rall_any b cap L _ ((H.out.of HB1.out).mono HB1.out.size) HM.out hl).mono ?_; rintro e w2 ⟨v, ex, xs, rfl, hb2, ho2, hg2⟩; obtain ⟨a, c, rfl, hR⟩ := rows_of HM.out ho2 hg2 rfl; have HB2 := Lib.hid (HB1.out.trans (hb2.mono HB1.out.size)); have HR := Lib.hid hR; clear hb2 ho2 hg2 hR))
    refine bodyPost_ret (v := .tuple #[.slice a L.length c, .int .i64 0]) (by simp [results, Tryd.results28, go_sem]) rfl ⟨a, c, ?_, HR.out, HB2.out⟩
    rw [cksR_len HM.out, if_pos HM.out]
def RaheadPost (x : Bool) (w : World) (e : Ending) (w' : World) : Prop := e = .returned (.bool x) ∧ ∃ n, w' = w.drewN n
set_option maxHeartbeats 1600000 in
theorem rahead_any (b a : Option Addr) (cap cap2 B : Nat) (L : List Acc) (i j : Nat) (hi : i < L.length) (hj : j < L.length) (hm : mayLog L = true) (w : World) (h : LogAt w B b L) (hR : RowsAt w a (cksR L)) :
    Calls Tryd.prog 68 #[.slice b L.length cap, .slice a L.length cap2, .int .i64 i, .int .i64 j] w (RaheadPost (aheadB L i j) w) := by
  obtain ⟨ai, hai⟩ : ∃ ai, L[i]? = some ai := ⟨L[i]'hi, List.getElem?_eq_getElem hi⟩
  obtain ⟨t, ht, ht64, hth⟩ := th_lt hm hai
  have htn : t < (threads L).toNat := by have := (threads_ge (List.mem_of_getElem? hai)).1; omega
  obtain ⟨g, off, rfl, _, hA⟩ := h.at_ i ai hai
  have h0 := hA.1
  rw [ht] at h0
  have hcR : ∀ k, k < L.length → (cksR L)[k]? = some (clkN (threads L).toNat (clkAt L k)) := fun k hk => by
    unfold cksR
    rw [if_pos hm, List.getElem?_map, clkAt_of hk]
    rfl
  obtain ⟨g1, ax, cx, e1, c1, I1⟩ := hR i _ (hcR i hi)
  obtain ⟨g2, ay, cy, e2, c2, I2⟩ := hR j _ (hcR j hj)
  rw [e1] at e2
  injection e2 with e2
  injection e2 with e2
  subst e1 e2
  obtain ⟨gx, ox, rfl, d1⟩ := I1 t _ (clkN_at htn)
  obtain ⟨gy, oy, rfl, d2⟩ := I2 t _ (clkN_at htn)
  rw [clkN_len] at c1 c2
  obtain ⟨n, hn⟩ : ∃ n, n = (threads L).toNat := ⟨_, rfl⟩
  rw [← hn] at c1 c2 htn
  have HAB : Hid (aheadB L i j = decide (i ≠ j ∧ clkAt L i t ≤ clkAt L j t)) := Lib.hid (by unfold aheadB; rw [hth])
  obtain ⟨x, hx⟩ : ∃ x, x = clkAt L i t := ⟨_, rfl⟩
  obtain ⟨y, hy⟩ : ∃ y, y = clkAt L j t := ⟨_, rfl⟩
  rw [← hx] at d1 HAB
  rw [← hy] at d2 HAB
  clear hA hai ht hth hcR I1 I2 h hR hm hn hx hy ht64
  go_enter Tryd.func68, Tryd.ntmps68
  by_cases hij : i = j
  · subst hij
    have hne : ((i : Int) != (i : Int)) = false := by simp
    go_upto_region 2 with fail
    refine wp_region_quiet_lit (by kernel_rfl) (by kernel_rfl) ?_
    refine wpQuiet_cut 3 _ _ (fun K hK => ?_)
    simp only [List.take_succ_cons, List.take_zero]
    iterate 3 go_big_quiet_step (fail)
    refine wpQuiet_nil ?_
    refine hK _ ?_
    clear hK K
    refine wpQuiet_strike 15 rfl rfl _ rfl (by kernel_rfl) ?_
    simp only [List.take_succ_cons, List.take_zero, List.drop_succ_cons, List.drop_zero, skipsA]
    go_simp
    refine wpQuiet_cut 2 _ _ (fun K hK => ?_)
    simp only [List.take_succ_cons, List.take_zero]
    iterate 2 go_big_quiet_step (fail)
    refine wpQuiet_nil ?_
    refine hK _ ?_
    clear hK K
    refine wpQuiet_nil ?_
    intro nq
    go_wp2_with fail
    refine bodyPost_ret (v := .bool false) (by simp [results, Tryd.results68, go_sem]) rfl ⟨?_, nq, by first | rfl | simp⟩
    rw [HAB.out]
    simp
  · have hne : ((i : Int) != (j : Int)) = true := by simp; omega
    go_upto_region 2 with fail
    go_quiet (fail)
    go_wp2_with fail
    refine bodyPost_ret (v := .bool (decide (x ≤ y))) (by simp [results, Tryd.results68, go_sem]) rfl ⟨?_, _, rfl⟩
    rw [HAB.out]
    simp [hij]
set_option maxHeartbeats 1600000 in
theorem rahead2 (b : Option Addr) (cap : Nat) (L : List Acc) (i j : Int) (w : World) (h : LogAt w w.heap.size b L) (hl : L.length ≤ 2048) :
    Calls Tryd.prog 29 #[.slice b L.length cap, .int .i64 i, .int .i64 j] w (AheadPost L i j w) := by
  have H := Lib.hid h
  clear h
  cases hm : mayLog L with
  | false =>
    have HM := Lib.hid hm
    clear hm
    go_enter Tryd.func29, Tryd.ntmps29
    go_wp2_with (go_at_call 66; refine (rmay_any b cap L _ H.out).mono ?_; rintro e w1 ⟨he, hb1⟩; rw [HM.out] at he; subst he; have HB1 := Lib.hid hb1; clear hb1)
    exact bodyPost_ret (v := .tuple #[.bool false, .int .i64 31]) (by simp [results, Tryd.results29, go_sem]) rfl ⟨ahead_no HM.out, HB1.out⟩
  | true =>
    have HM := Lib.hid hm
    clear hm
    by_cases hr : 0 ≤ i ∧ i < L.length ∧ 0 ≤ j ∧ j < L.length
    · obtain ⟨r1, r2, r3, r4⟩ := hr
      obtain ⟨i, rfl⟩ := Int.eq_ofNat_of_zero_le r1
      obtain ⟨j, rfl⟩ := Int.eq_ofNat_of_zero_le r3
      clear r1 r3
      have x1 : decide (L.length ≤ i) = false := by simp; omega
      have x2 : decide (L.length ≤ j) = false := by simp; omega
      have hi : i < L.length := by omega
      have hj : j < L.length := by omega
      go_enter Tryd.func29, Tryd.ntmps29
      go_upto_region 5 with (go_at_call 66; refine (rmay_any b cap L _ H.out).mono ?_; rintro e w1 ⟨he, hb1⟩; rw [HM.out] at he; subst he; have HB1 := Lib.hid hb1; clear hb1)
      go_wp2_with (first
        | (go_at_call 67; refine (rall_any b cap L _ ((H.out.of HB1.out).mono HB1.out.size) HM.out hl).mono ?_; rintro e w2 ⟨v, ex, xs, rfl, hb2, ho2, hg2⟩; obtain ⟨a, c, rfl, hR⟩ := rows_of HM.out ho2 hg2 rfl; have HB2 := Lib.hid (HB1.out.trans (hb2.mono HB1.out.size)); have HRA := Lib.hid (rahead_any b a cap c _ L i j hi hj HM.out w2 (H.out.of HB2.out) hR); clear hb2 ho2 hg2 hR)
        | (go_at_call 68; refine HRA.out.mono ?_; rintro e w3 ⟨rfl, n3, hw3⟩; have HB3 : Hid (Below w.heap.size w w3) := Lib.hid (by rw [hw3]; exact below_drewN HB2.out _); clear hw3 HRA))
      exact bodyPost_ret (v := .tuple #[.bool (aheadB L i j), .int .i64 0]) (by simp [results, Tryd.results29, go_sem]) rfl ⟨ahead_in HM.out hi hj rfl, HB3.out⟩
    · go_enter Tryd.func29, Tryd.ntmps29
      go_wp2_with (go_at_call 66; refine (rmay_any b cap L _ H.out).mono ?_; rintro e w1 ⟨he, hb1⟩; rw [HM.out] at he; subst he; have HB1 := Lib.hid hb1; clear hb1)
      all_goals exact bodyPost_ret (v := .tuple #[.bool false, .int .i64 1]) (by simp [results, Tryd.results29, go_sem]) rfl ⟨ahead_out HM.out hr, HB1.out⟩
end Go.Proofs.YtonnlgpjobfnmaaDoor
