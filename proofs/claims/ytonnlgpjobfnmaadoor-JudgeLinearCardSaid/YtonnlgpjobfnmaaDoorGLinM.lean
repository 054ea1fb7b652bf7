/- The reference's search. Conditions: what the search's cells hold. -/
import Derived.Test.YtonnlgpjobfnmaaDoorGLinMb
namespace Go.Proofs.YtonnlgpjobfnmaaDoor
open Go.RowKit
set_option maxRecDepth 100000
def RPost (base bs : Nat) (k : Int) (hb : Option Addr) (n0 hcap : Nat) (H : List Cal) (r : Nat) (mem : List (Nat × List Int)) (ans : Option (List Nat)) (w : World) (e : Ending) (w' : World) : Prop :=
  ∃ mem' vb' vh' v', e = .returned (.tuple #[v', .bool ans.isSome]) ∧ SrchAt w' base bs k hb n0 hcap H mem' vb' vh' ∧ mem'.length ≤ mem.length + nods r ∧ FrS base bs w w' ∧ (∀ e, e ∈ mem' → Lin k H (mustOf H) e.1 e.2 = none ∧ e.2.length ≤ 1000) ∧
    w'.ownsRow base 3 1 v' (ans.getD []).length ((ans.getD []).map fun i => Value.int .i64 (i : Nat)) ∧ (ans = none → v' = .slice none 0 0) ∧ (ans.getD []).length ≤ r
def OvRel (H : List Cal) (d n0 : Nat) (w : World) (o i : Value) (wr : World) : Prop := ∃ j : Nat, j ≤ n0 ∧ i = .int .i64 j ∧ o = .bool (overF H d j) ∧ wr = w
def MeRel (n : Nat) (w : World) (i : Value) (wr : World) : Prop := ∃ j nd : Nat, j ≤ n ∧ i = .int .i64 j ∧ wr = w.drewN nd
def nsub : Nat → Nat
  | 0 => 0
  | r + 1 => nods r
def ExRel (base bs : Nat) (k : Int) (hb : Option Addr) (n0 hcap : Nat) (H : List Cal) (r d : Nat) (hs : List Int) (mem : List (Nat × List Int)) (w : World) (i : Value) (wr : World) : Prop :=
  ∃ (j : Nat) (mem' : List (Nat × List Int)) (vb' vh' : Value), j ≤ n0 ∧ i = .int .i64 j ∧ SrchAt wr base bs k hb n0 hcap H mem' vb' vh' ∧ mem'.length ≤ mem.length + unset d j * nsub r ∧ FrS base bs w wr ∧ (∀ e, e ∈ mem' → Lin k H (mustOf H) e.1 e.2 = none ∧ e.2.length ≤ 1000) ∧ ∀ m, m < j → linAt k H (mustOf H) d hs m = none
theorem infoMl : (Tryd.prog.info? 54).map (fun i => (i.zero, i.size, i.bytes)) = some (some (.slice none 0 0), 1, 24) := by kernel_rfl
theorem nsub_le {u r : Nat} (h : u ≤ r) : u * nsub r + 1 ≤ nods r := by
  cases r with
  | zero => simp [nsub, nods]
  | succ r =>
    have h1 : u * nods r ≤ (r + 1) * nods r := Nat.mul_le_mul_right _ h
    simp only [nsub, nods]
    omega
theorem drewN_nums {w : World} {B : Nat} {a : Option Addr} {hs : List Int} (h : NumsAt w B a hs) (n : Nat) : NumsAt (w.drewN n) B a hs := ⟨h.wf, h.at_⟩
theorem ex_more {k : Int} {H : List Cal} {must d : Nat} {hs : List Int} {j : Nat} (h : ∀ m, m < j → linAt k H must d hs m = none) (hj : linAt k H must d hs j = none) : ∀ m, m < j + 1 → linAt k H must d hs m = none := fun m hm => by
  by_cases e : m = j
  · rw [e]; exact hj
  · exact h m (by omega)
theorem doesF_one' {k : Int} {hs : List Int} {c : Cal} (hk : 2 < k) : (doesF k hs c).1.length = 1 := by
  unfold doesF
  rw [if_neg (by omega)]
  simp only []
  repeat' split
  all_goals rfl
theorem un_child {d j r : Nat} (hj : j < 12) (hbit : d.testBit j = false) (hr : unset d 12 ≤ r) : ∃ r', r = r' + 1 ∧ unset (bitSet d j) 12 ≤ r' ∧ unset d j ≤ r' := by
  have h1 := cnt_bitSet hj hbit
  have h2 := unset_12 d
  have h3 := unset_12 (bitSet d j)
  have h4 : unset d (j + 1) = unset d j + 1 := by simp [unset, hbit]
  have h5 := unset_mono d (12 - (j + 1)) (j + 1)
  rw [show j + 1 + (12 - (j + 1)) = 12 by omega, h4] at h5
  exact ⟨r - 1, by omega, by omega, by omega⟩
theorem rstep_go {k : Int} {H : List Cal} {d j : Nat} {hs : List Int} {c : Cal} {z : Int} {ob : Bool} (h : okStep k H d hs j c = true) (hz : z = (doesF k hs c).2.ans) (ho : ob = (doesF k hs c).2.ok) : c.fin = -1 ∨ (z = c.ans ∧ ob = c.ok) := by
  unfold okStep at h
  simp only [Bool.and_eq_true, Bool.or_eq_true, decide_eq_true_eq] at h
  rcases h.2 with h | h
  · exact .inl h
  · obtain ⟨h1, h2⟩ := (does_same k hs c).1 h
    exact .inr ⟨hz.trans h1, ho.trans h2⟩
theorem rstep_no {k : Int} {H : List Cal} {d j : Nat} {hs : List Int} {c : Cal} {z : Int} {ob : Bool} (hb : d.testBit j = false) (hl : ¬ lateB H d c = true) (h : ¬ okStep k H d hs j c = true) (hz : z = (doesF k hs c).2.ans) (ho : ob = (doesF k hs c).2.ok) : ¬ c.fin = -1 ∧ ¬ (z = c.ans ∧ ob = c.ok) := by
  have hl : lateB H d c = false := by simpa using hl
  unfold okStep at h
  simp only [hb, hl, Bool.not_false, Bool.true_and, Bool.or_eq_true, decide_eq_true_eq, not_or] at h
  refine ⟨h.1, fun ⟨h1, h2⟩ => h.2 ?_⟩
  exact (does_same k hs c).2 ⟨hz.symm.trans h1, ho.symm.trans h2⟩
theorem sret2 {act : Act} {w : World} {v b : Value} (h6 : act.tmps.getD 6 undef = v) (h7 : act.tmps.getD 7 undef = b) (hd : act.defers = []) {R : Ending → World → Prop} (h : R (.returned (.tuple #[v, b])) w) : bodyPost Tryd.prog Tryd.f48 R .ret act w := by
  refine bodyPost_ret (v := .tuple #[act.tmps.getD 6 undef, act.tmps.getD 7 undef]) (by simp [results, Tryd.results48, go_sem]) hd ?_
  rw [h6, h7]
  exact h
set_option maxHeartbeats 16000000 in
theorem rfrom_walk (base bs : Nat) (k : Int) (hk : 1 ≤ k ∧ k ≤ 4) (hb : Option Addr) (n0 hcap : Nat) (H : List Cal) (hn0 : H.length = n0) (hH : n0 ≤ 12) (hright : ∀ c, c ∈ H → rightF k c = true) (r d : Nat) (hd : d < 4096) (hr : unset d 12 ≤ r) (hs : List Int) (v : Value) (hl : hs.length + r ≤ 1000) (h1 : 2 < k → hs.length ≤ 1)
    (mem : List (Nat × List Int)) (hm : mem.length + nods r ≤ 4000000000) (vb vh : Value) (w : World) (hS : SrchAt w base bs k hb n0 hcap H mem vb vh) (hv : ThingAt w v hs) (hdead : ∀ e, e ∈ mem → Lin k H (mustOf H) e.1 e.2 = none ∧ e.2.length ≤ 1000)
    (ih : ∀ r', r = r' + 1 → ∀ (d' : Nat) (hs' : List Int) (v' : Value) (mem' : List (Nat × List Int)) (vb' vh' : Value) (w' : World), d' < 4096 → unset d' 12 ≤ r' → hs'.length + r' ≤ 1000 → (2 < k → hs'.length ≤ 1) → mem'.length + nods r' ≤ 4000000000 → SrchAt w' base bs k hb n0 hcap H mem' vb' vh' → ThingAt w' v' hs' → (∀ e, e ∈ mem' → Lin k H (mustOf H) e.1 e.2 = none ∧ e.2.length ≤ 1000) →
      Calls Tryd.prog 48 #[.pointer (some ⟨bs, 0, none⟩), .int .i64 d', v'] w' (RPost base bs k hb n0 hcap H r' mem' (Lin k H (mustOf H) d' hs') w')) :
    Calls Tryd.prog 48 #[.pointer (some ⟨bs, 0, none⟩), .int .i64 d, v] w (RPost base bs k hb n0 hcap H r mem (Lin k H (mustOf H) d hs) w) := by
  obtain ⟨i0, hi0, hiz, his, hib⟩ := info_parts infoCal
  obtain ⟨a, cap, rfl, hcap', hnone, hN⟩ := hv
  have HV : Hid (ThingAt w (.slice a hs.length cap) hs) := Lib.hid ⟨a, cap, rfl, hcap', hnone, hN⟩
  obtain ⟨ab, capb, rfl⟩ := row_shp hS.been
  obtain ⟨ys, hys, hyk⟩ := hS.holds
  obtain ⟨ah, caph, rfl⟩ := row_shp hys
  have HS := Lib.hid hS
  have HYS := Lib.hid hys
  have HYK := Lib.hid hyk
  have HD := Lib.hid hdead
  have HIH := Lib.hid ih
  have HR := Lib.hid hright
  have c1 : w.cell? ⟨bs, 1, none⟩ = some (.slice hb n0 hcap) := hS.s.cell 1
  have c2 : w.cell? ⟨bs, 2, none⟩ = some (.slice ab mem.length capb) := hS.s.cell 2
  have c3 : w.cell? ⟨bs, 3, none⟩ = some (.slice ah mem.length caph) := hS.s.cell 3
  have HM := Lib.hid hm
  have hml : mem.length ≤ 4000000000 := by have := nods_pos r; omega
  clear hS hys hyk hdead ih hright hnone hN hm
  go_enter Tryd.func48, Tryd.ntmps48
  go_wp2_with fail
  go_loopw [8, 9] (fun o i wr => OvRel H d n0 w o i wr) (fun _ i _ => n0 - (intOf i).toNat)
  case atStart => exact ⟨0, Nat.zero_le _, rfl, rfl, rfl⟩
  case round =>
    obtain ⟨j, hj, rfl, rfl, rfl⟩ := hrel
    by_cases hlt : j < n0
    · have hx : decide (j < n0) = true := by simpa using hlt
      have hxj : decide ((j : Int) < (n0 : Int)) = true := by simp; omega
      obtain ⟨c, hc⟩ : ∃ c, H[j]? = some c := ⟨H[j]'(by omega), List.getElem?_eq_getElem (by omega)⟩
      obtain ⟨g, off, rfl, _, hA⟩ := HS.out.calls.at_ j c hc
      obtain ⟨p0, p1, p2, p3, p4, p5, p6⟩ := hA
      obtain ⟨y, hy, hy0, hyq⟩ := bit_facts d j hd (by omega)
      have hov : overF H d (j + 1) = (overF H d j && (d.testBit j || decide (c.fin = -1))) := by rw [overF, hc]
      have HOV := Lib.hid hov
      clear hov p0 p1 p2 p3 p4 p5 hc
      cases ho : overF H d j with
      | false =>
        go_wp2_with fail
        exact ⟨⟨j + 1, by omega, by rw [Int.natCast_add]; rfl, by rw [HOV.out, ho]; rfl, rfl⟩, by simp [intOf]; omega⟩
      | true =>
        cases hbit : d.testBit j with
        | true =>
          rw [hbit] at hy0 hyq
          simp only [Bool.not_true] at hy0 hyq
          have hy5 : ¬ y = 0 := by simpa using hy0
          have hy3 : (y != 0) = true := by simpa using hy5
          have hy4 : decide (¬ y = 0) = true := by simpa using hy5
          go_wp2_with fail
          exact ⟨⟨j + 1, by omega, by rw [Int.natCast_add]; rfl, by rw [HOV.out, ho, hbit]; rfl, rfl⟩, by simp [intOf]; omega⟩
        | false =>
          rw [hbit] at hy0 hyq
          simp only [Bool.not_false] at hy0 hyq
          obtain rfl : y = 0 := by simpa using hy0
          clear hy0 hyq
          go_wp2_with fail
          refine ⟨⟨j + 1, by omega, by rw [Int.natCast_add]; rfl, ?_, rfl⟩, by simp [intOf]; omega⟩
          rw [HOV.out, ho, hbit]
          rfl
    · obtain rfl : n0 = j := by omega
      have hx : decide (n0 < n0) = false := by simp
      have hover : overF H d n0 = decide (d &&& mustOf H = mustOf H) := by rw [← hn0]; exact overF_must H d
      by_cases hdone : d &&& mustOf H = mustOf H
      · rw [decide_eq_true hdone] at hover
        rw [hover]
        go_wp2_with fail
        refine sret2 rfl rfl rfl ?_
        rw [Lin_done hdone]
        exact ⟨mem, _, _, .slice none 0 0, rfl, HS.out, by omega, FrS.refl _ _ _, HD.out, World.ownsRow_nil _ _ _ _, (fun h => by cases h), Nat.zero_le _⟩
      · rw [decide_eq_false hdone] at hover
        rw [hover]
        have HDN := Lib.hid hdone
        clear hdone hover
        go_wp2_with fail
        go_loopw [10] (fun i x => MeRel mem.length wr i x) (fun i _ => mem.length - (intOf i).toNat)
        case atStart => exact ⟨0, 0, Nat.zero_le _, rfl, rfl⟩
        case round =>
          obtain ⟨j, nd, hj, rfl, rfl⟩ := hrel
          by_cases hlt : j < mem.length
          · have hx : decide (j < mem.length) = true := by simpa using hlt
            have hxj : decide ((j : Int) < (mem.length : Int)) = true := by simp; omega
            obtain ⟨e0, he0⟩ : ∃ e, mem[j]? = some e := ⟨mem[j], List.getElem?_eq_getElem hlt⟩
            obtain ⟨gb, _, eb, _, hgb⟩ := HS.out.been.form (by omega)
            obtain ⟨gh, _, eh, _, hgh⟩ := HYS.out.form (by omega)
            injection eb with eb _ eb2
            injection eh with eh _ eh2
            subst eb eh eb2 eh2
            have cb := HS.out.been.cellAt j (by omega)
            rw [List.getElem?_map, he0] at cb
            obtain ⟨y0, hy0⟩ : ∃ x, ys[j]? = some x := ⟨ys[j]'(by have := HYS.out.1; omega), List.getElem?_eq_getElem _⟩
            have ch := (HYS.out.cellAt j (by omega)).trans hy0
            obtain ⟨ay, cy, rfl, _, _, hNy⟩ := HYK.out j e0 y0 he0 hy0
            have HNY := Lib.hid hNy
            have HE0 := Lib.hid he0
            obtain ⟨av, cv, ev, _, _, hNv⟩ := HV.out
            injection ev with ev1 _ ev2
            subst ev1 ev2
            have HNV := Lib.hid hNv
            clear hNy he0 hy0 hNv
            simp only [Option.map_some] at cb
            obtain ⟨e1, e2⟩ := e0
            simp only at cb ch
            have hle := (HD.out _ (List.mem_of_getElem? HE0.out)).2
            have HSA : Hid (∀ m, Calls Tryd.prog 76 #[.slice ay e2.length cy, .slice a hs.length cap] (wr.drewN m) (SamePost e2 hs (wr.drewN m))) := Lib.hid fun m => same_any ay a cy cap _ _ e2 hs _ _ rfl rfl (by simp only at hle; omega) (by omega) _ (drewN_nums HNY.out m) (drewN_nums HNV.out m)
            clear hle
            by_cases hed : e1 = d
            · subst hed
              by_cases hee : e2 = hs
              · obtain rfl : hs = e2 := hee.symm
                clear hee
                have hdec : decide (hs = hs) = true := by simp
                go_wp2_with (go_at_call 76; refine (HSA.out _).mono ?_; rintro e w2 ⟨he, n2, rfl⟩; rw [hdec] at he; subst he)
                refine sret2 rfl rfl rfl ?_
                have hno := (HD.out _ (List.mem_of_getElem? HE0.out)).1
                simp only at hno
                rw [hno]
                exact ⟨mem, _, _, .slice none 0 0, rfl, HS.out.below (below_drewN (Below.refl _ _) _), by omega, FrS.of_below (below_drewN (Below.refl _ _) _), HD.out, World.ownsRow_nil _ _ _ _, (fun _ => rfl), Nat.zero_le _⟩
              · have hdec : decide (e2 = hs) = false := by simpa using hee
                clear hee
                go_wp2_with (go_at_call 76; refine (HSA.out _).mono ?_; rintro e w2 ⟨he, n2, rfl⟩; rw [hdec] at he; subst he)
                exact ⟨⟨j + 1, _, by omega, by rw [Int.natCast_add]; rfl, by first | rfl | simp⟩, by simp [intOf]; omega⟩
            · have hed1 : decide ((e1 : Int) = (d : Int)) = false := by simp; omega
              have hed2 : ((e1 : Int) == (d : Int)) = false := by simp; omega
              have hed3 : decide (e1 = d) = false := by simpa using hed
              clear hed
              go_wp2_with fail
              exact ⟨⟨j + 1, _, by omega, by rw [Int.natCast_add]; rfl, by first | rfl | simp⟩, by simp [intOf]; omega⟩
          · obtain rfl : j = mem.length := by omega
            have hx : decide (mem.length < mem.length) = false := by simp
            obtain ⟨W, hW⟩ : ∃ W, W = wr.drewN nd := ⟨_, rfl⟩
            rw [← hW]
            have HBW : Hid (Below wr.heap.size wr W) := Lib.hid (by rw [hW]; exact below_drewN (Below.refl _ _) _)
            have HSW : Hid (SrchAt W base bs k hb n0 hcap H mem (.slice ab mem.length capb) (.slice ah mem.length caph)) := Lib.hid (HS.out.below HBW.out)
            have c2W := HSW.out.s.cell 2
            have c1W := HSW.out.s.cell 1
            obtain ⟨w0, hw0⟩ : ∃ w0, w0 = wr := ⟨_, rfl⟩
            subst hw0
            clear hW c1 c2 c3
            go_wp2_with fail
            go_loopw [11, 12, 13, 14, 15, 16, 17] (fun i _ _ _ _ _ _ x => ExRel base bs k hb n0 hcap H r d hs mem w0 i x) (fun i _ _ _ _ _ _ _ => n0 - (intOf i).toNat)
            case atStart => exact ⟨0, mem, _, _, Nat.zero_le _, rfl, HSW.out, by simp [unset], FrS.of_below HBW.out, HD.out, by intro m hm; omega⟩
            case round =>
              clear HSW HBW c2W c1W
              obtain ⟨j, mem', vb', vh', hj, rfl, hS', hm', hF', hD', hno⟩ := hrel
              have HS' := Lib.hid hS'
              have HM' := Lib.hid hm'
              have HF' := Lib.hid hF'
              have HD' := Lib.hid hD'
              have HNO := Lib.hid hno
              have c1 : wr.cell? ⟨bs, 1, none⟩ = some (.slice hb n0 hcap) := hS'.s.cell 1
              have c0 : wr.cell? ⟨bs, 0, none⟩ = some (.int .i64 k) := hS'.s.cell 0
              clear hS' hm' hF' hD' hno
              by_cases hlt : j < n0
              · have hx : decide (j < n0) = true := by simpa using hlt
                have hxj : decide ((j : Int) < (n0 : Int)) = true := by simp; omega
                obtain ⟨c, hc⟩ : ∃ c, H[j]? = some c := ⟨H[j]'(by omega), List.getElem?_eq_getElem (by omega)⟩
                have HCJ := Lib.hid hc
                have HFR := Lib.hid (free_any bs _ _ _ hb hcap base H n0 hn0 hH d hd j c hc wr HS'.out.s HS'.out.calls)
                obtain ⟨g, off, hga, _, hA⟩ := HS'.out.calls.at_ j c hc
                subst hga
                obtain ⟨p0, p1, p2, p3, p4, p5, p6⟩ := hA
                obtain ⟨y, hy, hy0, hyq⟩ := bit_facts d j hd (by omega)
                clear hc
                cases hbit : d.testBit j with
                | true =>
                  rw [hbit] at hy0 hyq
                  simp only [Bool.not_true] at hy0 hyq
                  have hy5 : ¬ y = 0 := by simpa using hy0
                  have hy3 : (y != 0) = true := by simpa using hy5
                  have hy4 : decide (¬ y = 0) = true := by simpa using hy5
                  go_wp2_with fail
                  exact ⟨⟨j + 1, mem', vb', vh', by omega, by rw [Int.natCast_add]; rfl, HS'.out, by have := HM'.out; simpa [unset, hbit] using this, HF'.out, HD'.out, ex_more HNO.out (linAt_no HCJ.out (by simp [okStep, hbit]))⟩, by simp [intOf]; omega⟩
                | false =>
                  rw [hbit] at hy0 hyq
                  simp only [Bool.not_false] at hy0 hyq
                  obtain rfl : y = 0 := by simpa using hy0
                  clear hy0 hyq
                  have HBT : Hid (d.testBit j = false) := Lib.hid hbit
                  by_cases hlate : lateB H d c = true
                  · go_wp2_with (go_at_call 77; refine HFR.out.mono ?_; rintro e w2 ⟨he, n2, rfl⟩; obtain rfl : e = .returned (.bool false) := (by rw [he, hlate]; rfl))
                    exact ⟨⟨j + 1, mem', vb', vh', by omega, by rw [Int.natCast_add]; rfl, HS'.out.below (below_drewN (Below.refl _ _) _), by have := HM'.out; simp only [unset, hbit]; have e : (unset d j + 1) * nsub r = unset d j * nsub r + nsub r := Nat.succ_mul _ _; simp only [Bool.false_eq_true, if_false]; omega, HF'.out.trans (FrS.of_below (below_drewN (Below.refl _ _) _)), HD'.out, ex_more HNO.out (linAt_no HCJ.out (by simp [okStep, hlate]))⟩, by simp [intOf]; omega⟩
                  · go_upto_region 17 with (go_at_call 77; refine HFR.out.mono ?_; rintro e w2 ⟨he, n2, hw2⟩; obtain rfl : e = .returned (.bool true) := (by rw [he, Bool.eq_false_iff.2 hlate]; rfl); have HW2 := Lib.hid hw2; clear hw2)
                    have HB2 : Hid (Below wr.heap.size wr w2) := Lib.hid (by rw [HW2.out]; exact below_drewN (Below.refl _ _) n2)
                    have HS2 := Lib.hid (HS'.out.below HB2.out)
                    clear p0 p1 p2 p3 p4 p5 p6 c0 c1
                    obtain ⟨g', off', hga, hgb, hA⟩ := HS2.out.calls.at_ j c HCJ.out
                    injection hga with hga
                    injection hga with e1 e2
                    subst e1 e2
                    obtain ⟨p0, p1, p2, p3, p4, p5, p6⟩ := hA
                    have c1 : w2.cell? ⟨bs, 1, none⟩ = some (.slice (some ⟨g, off, none⟩) n0 hcap) := HS2.out.s.cell 1
                    go_upto_region 18 with (fail)
                    obtain ⟨w3, hw3⟩ : ∃ w3, w3 = w2.alloc (.cells (calA c) 58) := ⟨_, rfl⟩
                    have hw3' := hw3
                    unfold calA at hw3'
                    rw [← hw3']
                    clear hw3'
                    have HB3 : Hid (Below wr.heap.size wr w3) := Lib.hid (by rw [hw3]; exact HB2.out.alloc HB2.out.size _)
                    have HC3 : Hid (Blk w3 w2.heap.size 58 (calA c)) := Lib.hid (by rw [hw3]; exact Blk.new w2 _ _)
                    clear hw3 p0 p1 p2 p3 p4 p5 p6
                    have HS3 := Lib.hid (HS'.out.below HB3.out)
                    have c03 : w3.cell? ⟨bs, 0, none⟩ = some (.int .i64 k) := HS3.out.s.cell 0
                    have p0 : w3.cell? ⟨w2.heap.size, 0, none⟩ = some (.int .i8 c.op) := HC3.out.cell 0
                    have p1 : w3.cell? ⟨w2.heap.size, 1, none⟩ = some (.int .i64 c.arg) := HC3.out.cell 1
                    have p2 : w3.cell? ⟨w2.heap.size, 2, none⟩ = some (.int .i64 c.new) := HC3.out.cell 2
                    have p3 : w3.cell? ⟨w2.heap.size, 3, none⟩ = some (.int .i64 c.ans) := HC3.out.cell 3
                    have p4 : w3.cell? ⟨w2.heap.size, 4, none⟩ = some (.bool c.ok) := HC3.out.cell 4
                    have p5 : w3.cell? ⟨w2.heap.size, 5, none⟩ = some (.int .i64 c.beg) := HC3.out.cell 5
                    have p6 : w3.cell? ⟨w2.heap.size, 6, none⟩ = some (.int .i64 c.fin) := HC3.out.cell 6
                    have HB4 : Hid (Below wr.heap.size wr w3.drew) := Lib.hid HB3.out.drew
                    have HT4 : Hid (ThingAt w3.drew (.slice a hs.length cap) hs) := Lib.hid (FrS.thing HV.out ⟨_, HS.out.s⟩ (HF'.out.trans (FrS.of_below HB4.out)))
                    have HDO := Lib.hid (rdo_any k hk _ hs c (HR.out c (List.mem_of_getElem? HCJ.out)) (HS'.out.calls.wf c (List.mem_of_getElem? HCJ.out)) w3.drew (by omega) h1 HT4.out)
                    obtain ⟨z, hz⟩ : ∃ z, z = (doesF k hs c).2.ans := ⟨_, rfl⟩
                    obtain ⟨ob, hob⟩ : ∃ ob, ob = (doesF k hs c).2.ok := ⟨_, rfl⟩
                    have HZ := Lib.hid hz
                    have HOB := Lib.hid hob
                    clear hz hob
                    go_region_with (go_at_call 78; rw [show (#[Value.int .i8 c.op, .int .i64 c.arg, .int .i64 c.new, .int .i64 c.ans, .bool c.ok, .int .i64 c.beg, .int .i64 c.fin] : Array Value) = calA c from rfl]; refine HDO.out.mono ?_; rintro e w5 ⟨v5, rfl, ht5, hb5⟩; rw [← HZ.out, ← HOB.out]; have HT5 := Lib.hid ht5; have HB5 : Hid (Below wr.heap.size wr w5) := Lib.hid (HB4.out.trans (hb5.mono HB4.out.size)); have HC5 : Hid (Blk w5 w2.heap.size 58 (calA c)) := Lib.hid ((show Blk w3.drew w2.heap.size 58 (calA c) from HC3.out).below hb5 HC3.out.lt); clear ht5 hb5)
                    all_goals
                      go_upto_region 19 with (fail)
                      clear p0 p1 p2 p3 p4 p5 p6 c03
                      have HS5 := Lib.hid (HS'.out.below HB5.out)
                      have p3 : w5.cell? ⟨w2.heap.size, 3, none⟩ = some (.int .i64 c.ans) := HC5.out.cell 3
                      have p4 : w5.cell? ⟨w2.heap.size, 4, none⟩ = some (.bool c.ok) := HC5.out.cell 4
                      have p6 : w5.cell? ⟨w2.heap.size, 6, none⟩ = some (.int .i64 c.fin) := HC5.out.cell 6
                      have hbits := HBT.out
                      by_cases hok : okStep k H d hs j c = true
                      · have hgo : c.fin = -1 ∨ (z = c.ans ∧ ob = c.ok) := rstep_go hok HZ.out HOB.out
                        obtain ⟨r', rfl, hr1, hr2⟩ := un_child (by omega) hbits hr
                        have hdl : (doesF k hs c).1.length + r' ≤ 1000 := by have := doesF_len k hs c; omega
                        have hnn : mem'.length + nods r' ≤ 4000000000 := by
                          have h1 := HM'.out
                          have h2 := HM.out
                          have h3 : unset d j * nods r' ≤ r' * nods r' := Nat.mul_le_mul_right _ hr2
                          have h4 : (r' + 1) * nods r' = r' * nods r' + nods r' := Nat.succ_mul _ _
                          simp only [nods] at h2
                          simp only [nsub] at h1
                          omega
                        have HCH := Lib.hid (HIH.out r' rfl (bitSet d j) (doesF k hs c).1 v5 mem' vb' vh' w5 (bitSet_lt hd (by omega)) hr1 hdl (fun hk2 => Nat.le_of_eq (doesF_one' hk2)) hnn HS5.out HT5.out HD'.out)
                        obtain ⟨ans, hans⟩ : ∃ x, x = Lin k H (mustOf H) (bitSet d j) (doesF k hs c).1 := ⟨_, rfl⟩
                        rw [← hans] at HCH
                        have HAN := Lib.hid hans
                        clear hans hnn hdl
                        have HHI := Lib.hid hok
                        clear hok
                        have hjj : bits .or .i64 (d : Int) (wrap64 (2 ^ j)) = ((bitSet d j : Nat) : Int) := by rw [or_shift hd (by omega)]; rfl
                        by_cases hf : c.fin = -1
                        · have hf1 : decide (c.fin = -1) = true := by simpa using hf
                          have hf2 : (c.fin == -1) = true := by simpa using hf
                          have hf3 : (c.fin != -1) = false := by simpa using hf
                          have hf4 : decide (¬ c.fin = -1) = false := by simpa using hf
                          clear hgo hf
                          go_upto_region 20 with (fail)
                          cases ans with
                          | none =>
                            go_wp2_with (go_at_call 48; refine HCH.out.mono ?_; rintro e w7 ⟨mem7, vb7, vh7, v7, he7, hS7, hm7, hF7, hD7, hv7, hn7, hl7⟩; obtain rfl : e = .returned (.tuple #[v7, .bool false]) := he7; have HS7 := Lib.hid hS7; have HM7 := Lib.hid hm7; have HF7 := Lib.hid hF7; have HD7 := Lib.hid hD7; clear hS7 hm7 hF7 hD7 hv7 hn7)
                            refine ⟨⟨j + 1, mem7, vb7, vh7, by omega, by rw [Int.natCast_add]; rfl, HS7.out, ?_, (HF'.out.trans (FrS.of_below HB5.out)).trans HF7.out, HD7.out, ex_more HNO.out (by unfold linAt; rw [HCJ.out]; simp only []; rw [if_pos HHI.out, ← HAN.out]; rfl)⟩, by simp [intOf]; omega⟩
                            have h1 := HM'.out
                            have h2 := HM7.out
                            have e : (unset d j + 1) * nods r' = unset d j * nods r' + nods r' := Nat.succ_mul _ _
                            simp only [unset, hbits, Bool.false_eq_true, if_false, nsub] at h1 ⊢
                            omega
                          | some l =>
                            go_upto_region 22 with (go_at_call 48; refine HCH.out.mono ?_; rintro e w7 ⟨mem7, vb7, vh7, v7, he7, hS7, hm7, hF7, hD7, hv7, hn7, hl7⟩; obtain rfl : e = .returned (.tuple #[v7, .bool true]) := he7; have HS7 := Lib.hid hS7; have HM7 := Lib.hid hm7; have HF7 := Lib.hid hF7; have HD7 := Lib.hid hD7; have HV7 : Hid (w7.ownsRow base 3 1 v7 l.length (l.map fun i => Value.int .i64 (i : Nat))) := Lib.hid hv7; have hl7 : l.length ≤ r' := hl7; clear hS7 hm7 hF7 hD7 hv7 hn7)
                            have hb7 : base ≤ w7.heap.size := HS7.out.low.2
                            go_wp2_with (at_builtin; refine wpList_onto rfl _ _ rfl base j l w7 rfl hb7 v7 (by omega) HV7.out rfl rfl ?_; intro v8 w8 h1 h2; have HV8 := Lib.hid h1; have HB8 := Lib.hid h2; clear h1 h2)
                            refine sret2 rfl rfl rfl ?_
                            have hL : Lin k H (mustOf H) d hs = some (j :: l) := Lin_some (by omega) hd HDN.out (by omega) HNO.out (by unfold linAt; rw [HCJ.out]; simp only []; rw [if_pos HHI.out, ← HAN.out]; rfl)
                            rw [hL]
                            refine ⟨mem7, vb7, vh7, v8, rfl, HS7.out.below HB8.out, ?_, ((HF'.out.trans (FrS.of_below HB5.out)).trans HF7.out).trans (FrS.of_below HB8.out), HD7.out, HV8.out, (fun h => by cases h), by simp; omega⟩
                            have h1 := HM'.out
                            have h2 := HM7.out
                            have h3 : unset d j * nods r' ≤ r' * nods r' := Nat.mul_le_mul_right _ hr2
                            have h4 : (r' + 1) * nods r' = r' * nods r' + nods r' := Nat.succ_mul _ _
                            simp only [nsub] at h1
                            simp only [nods]
                            omega
                        · have hf1 : decide (c.fin = -1) = false := by simpa using hf
                          have hf2 : (c.fin == -1) = false := by simpa using hf
                          have hf3 : (c.fin != -1) = true := by simpa using hf
                          have hf4 : decide (¬ c.fin = -1) = true := by simpa using hf
                          have hzo := hgo.resolve_left hf
                          have ho1 : (ob == c.ok) = true := by simpa using hzo.2
                          have ho2 : (ob != c.ok) = false := by simpa using hzo.2
                          have ho3 : decide (ob = c.ok) = true := by simpa using hzo.2
                          have hz1 : decide (z = c.ans) = true := by simpa using hzo.1
                          have hz2 : (z == c.ans) = true := by simpa using hzo.1
                          have hz3 : (z != c.ans) = false := by simpa using hzo.1
                          clear hgo hf hzo
                          go_upto_region 20 with (fail)
                          cases ans with
                          | none =>
                            go_wp2_with (go_at_call 48; refine HCH.out.mono ?_; rintro e w7 ⟨mem7, vb7, vh7, v7, he7, hS7, hm7, hF7, hD7, hv7, hn7, hl7⟩; obtain rfl : e = .returned (.tuple #[v7, .bool false]) := he7; have HS7 := Lib.hid hS7; have HM7 := Lib.hid hm7; have HF7 := Lib.hid hF7; have HD7 := Lib.hid hD7; clear hS7 hm7 hF7 hD7 hv7 hn7)
                            refine ⟨⟨j + 1, mem7, vb7, vh7, by omega, by rw [Int.natCast_add]; rfl, HS7.out, ?_, (HF'.out.trans (FrS.of_below HB5.out)).trans HF7.out, HD7.out, ex_more HNO.out (by unfold linAt; rw [HCJ.out]; simp only []; rw [if_pos HHI.out, ← HAN.out]; rfl)⟩, by simp [intOf]; omega⟩
                            have h1 := HM'.out
                            have h2 := HM7.out
                            have e : (unset d j + 1) * nods r' = unset d j * nods r' + nods r' := Nat.succ_mul _ _
                            simp only [unset, hbits, Bool.false_eq_true, if_false, nsub] at h1 ⊢
                            omega
                          | some l =>
                            go_upto_region 22 with (go_at_call 48; refine HCH.out.mono ?_; rintro e w7 ⟨mem7, vb7, vh7, v7, he7, hS7, hm7, hF7, hD7, hv7, hn7, hl7⟩; obtain rfl : e = .returned (.tuple #[v7, .bool true]) := he7; have HS7 := Lib.hid hS7; have HM7 := Lib.hid hm7; have HF7 := Lib.hid hF7; have HD7 := Lib.hid hD7; have HV7 : Hid (w7.ownsRow base 3 1 v7 l.length (l.map fun i => Value.int .i64 (i : Nat))) := Lib.hid hv7; have hl7 : l.length ≤ r' := hl7; clear hS7 hm7 hF7 hD7 hv7 hn7)
                            have hb7 : base ≤ w7.heap.size := HS7.out.low.2
                            go_wp2_with (at_builtin; refine wpList_onto rfl _ _ rfl base j l w7 rfl hb7 v7 (by omega) HV7.out rfl rfl ?_; intro v8 w8 h1 h2; have HV8 := Lib.hid h1; have HB8 := Lib.hid h2; clear h1 h2)
                            refine sret2 rfl rfl rfl ?_
                            have hL : Lin k H (mustOf H) d hs = some (j :: l) := Lin_some (by omega) hd HDN.out (by omega) HNO.out (by unfold linAt; rw [HCJ.out]; simp only []; rw [if_pos HHI.out, ← HAN.out]; rfl)
                            rw [hL]
                            refine ⟨mem7, vb7, vh7, v8, rfl, HS7.out.below HB8.out, ?_, ((HF'.out.trans (FrS.of_below HB5.out)).trans HF7.out).trans (FrS.of_below HB8.out), HD7.out, HV8.out, (fun h => by cases h), by simp; omega⟩
                            have h1 := HM'.out
                            have h2 := HM7.out
                            have h3 : unset d j * nods r' ≤ r' * nods r' := Nat.mul_le_mul_right _ hr2
                            have h4 : (r' + 1) * nods r' = r' * nods r' + nods r' := Nat.succ_mul _ _
                            simp only [nsub] at h1
                            simp only [nods]
                            omega
                      · have hgo : ¬ c.fin = -1 ∧ ¬ (z = c.ans ∧ ob = c.ok) := rstep_no hbits hlate hok HZ.out HOB.out
                        obtain ⟨hf, hzo⟩ := hgo
                        have hf1 : decide (c.fin = -1) = false := by simpa using hf
                        have hf2 : (c.fin == -1) = false := by simpa using hf
                        have hf3 : (c.fin != -1) = true := by simpa using hf
                        have hf4 : decide (¬ c.fin = -1) = true := by simpa using hf
                        have hend : ExRel base bs k (some ⟨g, off, none⟩) n0 hcap H r d hs mem w0 (.int .i64 ((j : Int) + 1)) w5 := by
                          refine ⟨j + 1, mem', vb', vh', by omega, by rw [Int.natCast_add]; rfl, HS5.out, ?_, HF'.out.trans (FrS.of_below HB5.out), HD'.out, ex_more HNO.out (linAt_no HCJ.out (by simpa using hok))⟩
                          have := HM'.out
                          have e : (unset d j + 1) * nsub r = unset d j * nsub r + nsub r := Nat.succ_mul _ _
                          simp only [unset, hbits, Bool.false_eq_true, if_false]
                          omega
                        have HEND := Lib.hid hend
                        clear hend hf hok
                        by_cases hza : z = c.ans
                        · have hoc : ¬ ob = c.ok := fun e => hzo ⟨hza, e⟩
                          have hz1 : decide (z = c.ans) = true := by simpa using hza
                          have hz2 : (z == c.ans) = true := by simpa using hza
                          have hz3 : (z != c.ans) = false := by simpa using hza
                          have ho1 : (ob == c.ok) = false := by simpa using hoc
                          have ho2 : (ob != c.ok) = true := by simpa using hoc
                          have ho3 : decide (ob = c.ok) = false := by simpa using hoc
                          subst hza
                          clear hzo hoc
                          go_wp2_with fail
                          exact ⟨HEND.out, by simp [intOf]; omega⟩
                        · have hz1 : decide (z = c.ans) = false := by simpa using hza
                          have hz2 : (z == c.ans) = false := by simpa using hza
                          have hz3 : (z != c.ans) = true := by simpa using hza
                          clear hzo hza
                          go_wp2_with fail
                          exact ⟨HEND.out, by simp [intOf]; omega⟩
              · obtain rfl : n0 = j := by omega
                have hx : decide (n0 < n0) = false := by simp
                obtain ⟨j0, hj0, hjz, hjs, hjb⟩ := info_parts infoInt
                obtain ⟨m0, hm0, hmz, hms, hmb⟩ := info_parts infoMl
                obtain ⟨ab', capb', rfl⟩ := row_shp HS'.out.been
                have c2 : wr.cell? ⟨bs, 2, none⟩ = some (.slice ab' mem'.length capb') := HS'.out.s.cell 2
                have hun : unset d n0 ≤ r := by
                  have h5 := unset_mono d (12 - n0) n0
                  rw [show n0 + (12 - n0) = 12 by omega] at h5
                  omega
                have hlen : mem'.length + 1 ≤ mem.length + nods r := by
                  have h1 := HM'.out
                  have h2 := nsub_le hun
                  omega
                have hlen2 : mem'.length + 1 ≤ 4000000000 := by have := HM.out; omega
                have HLEN := Lib.hid hlen
                clear hlen hun
                have hlow := HS'.out.low.2
                have HR1 := Lib.hid (HS'.out.been.alloc (.cells #[.int .i64 (d : Nat)] 3))
                go_upto_region 24 with (at_builtin; refine wpList_append_own _ rfl _ _ 27 rfl base 3 j0 _ 1 8 Tryd.underlying27 hj0 hjz hjs hjb rfl (by decide) _ mem'.length _ rfl HR1.out ⟨wr.heap.size, 0, none⟩ 1 1 [.int .i64 (d : Nat)] rfl rfl (World.news_of_block (heap_alloc_new _ _)) (by simp [Value.oneCell']) (by unfold maxLen; omega) (by omega) (by simp; omega) ?_; intro v8 w8 r1 r2 _; obtain ⟨g8, cap8, rfl, _, _⟩ := r1.form (by omega); have R1 := Lib.hid r1; have R2 := Lib.hid r2; have hb8 := grow_blk HS'.out.been HS'.out.low.1 r2 HS'.out.s; have c8 : w8.cell? ⟨bs, 2, none⟩ = some (.slice ab' mem'.length capb') := hb8.cell 2; have f8 := hb8.frozen 2; clear hb8 r1 r2)
                obtain ⟨ys9, hH9, hF9⟩ := half_put HS'.out R1.out R2.out
                obtain ⟨w9, hw9⟩ : ∃ w9, w9 = w8.setCell ⟨bs, 2, none⟩ (.slice (some ⟨g8, 0, none⟩) (mem'.length + 1) cap8) := ⟨_, rfl⟩
                rw [← hw9] at hH9 hF9 ⊢
                obtain ⟨ah', caph', rfl⟩ := row_shp hH9.row
                have HH9 := Lib.hid hH9
                have HF9 := Lib.hid hF9
                clear hw9 hH9 hF9 c2 c8 f8
                have c3 : w9.cell? ⟨bs, 3, none⟩ = some (.slice ah' mem'.length caph') := HH9.out.s.cell 3
                have HT9 : Hid (ThingAt w9 (.slice a hs.length cap) hs) := Lib.hid (FrS.thing HV.out ⟨_, HS.out.s⟩ (HF'.out.trans HF9.out))
                have hlow9 := HH9.out.low.2
                have HR2 := Lib.hid (HH9.out.row.alloc (.cells #[.slice a hs.length cap] 54))
                go_wp2_with (at_builtin; refine wpList_append_own _ rfl _ _ 37 rfl base 54 m0 _ 1 24 Tryd.underlying37 hm0 hmz hms hmb rfl (by decide) _ mem'.length _ rfl HR2.out ⟨w9.heap.size, 0, none⟩ 1 1 [.slice a hs.length cap] rfl rfl (World.news_of_block (heap_alloc_new _ _)) (by simp [Value.oneCell']) (by unfold maxLen; omega) (by omega) (by simp; omega) ?_; intro v10 w10 r1 r2 _; obtain ⟨g10, cap10, rfl, _, _⟩ := r1.form (by omega); have R3 := Lib.hid r1; have R4 := Lib.hid r2; have hb10 := grow_blk HH9.out.row HH9.out.low.1 r2 HH9.out.s; have c10 : w10.cell? ⟨bs, 3, none⟩ = some (.slice ah' mem'.length caph') := hb10.cell 3; have f10 := hb10.frozen 3; clear hb10 r1 r2)
                refine sret2 rfl rfl rfl ?_
                obtain ⟨hS11, hF11⟩ := whole_put HH9.out HT9.out R3.out R4.out
                have hL : Lin k H (mustOf H) d hs = none := Lin_none (by omega) hd HDN.out (fun i hi => HNO.out i (by omega))
                rw [hL]
                refine ⟨_, _, _, .slice none 0 0, rfl, hS11, ?_, (HF'.out.trans HF9.out).trans hF11, fun e he => ?_, World.ownsRow_nil _ _ _ _, (fun _ => rfl), Nat.zero_le _⟩
                · have := HLEN.out
                  simpa using this
                · rcases List.mem_append.1 he with he | he
                  · exact HD'.out e he
                  · rw [List.mem_singleton.1 he]
                    exact ⟨hL, by simp only; omega⟩
end Go.Proofs.YtonnlgpjobfnmaaDoor
