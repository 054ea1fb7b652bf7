/- Joined of the texts RaceA, RaceB; what each proves, and its conditions, stand ahead of it. -/
import Derived.Test.YtonnlgpjobfnmaaDoorRRefF
import Derived.Test.YtonnlgpjobfnmaaDoorRJudgeX
import Derived.Test.YtonnlgpjobfnmaaDoorRJudgeUb
import Derived.Test.YtonnlgpjobfnmaaDoorRBagO
/- ref26.touch, ref26.Races: what they answer. Conditions: a log of 2048 entries at most. -/
namespace Go.Proofs.YtonnlgpjobfnmaaDoor
open Go.RowKit
set_option maxRecDepth 100000
def TouchPost (x : Bool) (w : World) (e : Ending) (w' : World) : Prop := e = .returned (.bool x) ∧ Below w.heap.size w w'
set_option maxHeartbeats 1600000 in
theorem rtouch_any (a : Acc) (w : World) : Calls Tryd.prog 69 #[.agg #[.int .i64 a.th, .int .i8 a.op, .int .i64 a.cell, .int .i64 a.arg, .int .i64 a.new, .int .i64 a.was, .int .i64 a.now, .bool a.ok]] w (TouchPost (touchB a) w) := by
  have HZ : Hid (∀ o : Obj, Below w.heap.size w (w.alloc o)) := Lib.hid fun o => (Below.refl _ _).alloc (Nat.le_refl _) o
  go_enter Tryd.func69, Tryd.ntmps69
  go_wp2_with fail
  all_goals
    refine bodyPost_ret (results_tmp rfl _ _ _) rfl ⟨?_, HZ.out _⟩
    first
      | (simp_all [touchB]; done)
      | (simp_all [touchB]; by_cases h1 : a.new = 1 <;> simp_all)
def refHit (L : List Acc) (a b : Nat) : Bool := touchB (accAt L a) && touchB (accAt L b) && decide ((accAt L a).arg = (accAt L b).arg) && !(decide ((accAt L a).new = 0) && decide ((accAt L b).new = 0)) && !aheadB L a b && !aheadB L b a
def raceR (L : List Acc) (b : Nat) : Option (Nat × Nat) := ((List.range b).find? fun a => refHit L a b).map fun a => (a, b)
theorem find_filter {α : Type} (p q : α → Bool) : ∀ l : List α, (l.filter p).find? q = l.find? fun x => p x && q x
  | [] => rfl
  | x :: l => by
    rw [List.filter_cons]
    cases hp : p x with
    | true =>
      rw [if_pos rfl, List.find?_cons, List.find?_cons, find_filter p q l]
      simp [hp]
    | false =>
      rw [if_neg (by simp), List.find?_cons, find_filter p q l]
      simp [hp]
theorem find_congr' {α : Type} {p q : α → Bool} : ∀ {l : List α}, (∀ x, x ∈ l → p x = q x) → l.find? p = l.find? q
  | [], _ => rfl
  | x :: l, h => by
    rw [List.find?_cons, List.find?_cons, h x (by simp), find_congr' fun y hy => h y (by simp [hy])]
theorem touch_new {a : Acc} (h : touchB a = true) : a.new = 0 ∨ a.new = 1 := by
  unfold touchB at h
  simp at h
  exact h.2
theorem raceR_eq {L : List Acc} {b : Nat} (hb : b < L.length) : raceR L b = raceAt L b := by
  unfold raceR raceAt
  by_cases ht : touchB (accAt L b) = true
  · rw [if_pos ht]
    unfold slotsTo
    rw [find_filter]
    congr 1
    refine find_congr' fun a ha => ?_
    have hab : a < b := by simpa using ha
    have hba : aheadB L b a = false := by
      rw [← Bool.not_eq_true]
      intro h
      have := ahead_lt hb (by omega) h
      omega
    unfold refHit hitB
    rw [hba, ht]
    have hah : aheadB L a b = decide (clkAt L a (thAt L a) ≤ clkAt L b (thAt L a)) := by
      unfold aheadB
      have : a ≠ b := by omega
      simp [this]
    rw [hah]
    have hnb := touch_new ht
    cases hta : touchB (accAt L a) with
    | false => simp
    | true =>
      have hna := touch_new hta
      by_cases h1 : (accAt L a).arg = (accAt L b).arg
      · rcases hna with h2 | h2 <;> rcases hnb with h3 | h3 <;> simp [h1, h2, h3]
      · simp [h1]
  · have hf : ((List.range b).find? fun a => refHit L a b) = none := by
      rw [List.find?_eq_none]
      intro a _
      unfold refHit
      simp [ht]
    rw [hf, if_neg ht]
    rfl
theorem find_hit {L : List Acc} {j k : Nat} (hj : j < k) (hn : ∀ a, a < j → refHit L a k = false) (h : refHit L j k = true) : raceR L k = some (j, k) := by
  unfold raceR
  have : (List.range k).find? (fun a => refHit L a k) = some j := by
    rw [List.find?_range_eq_some]
    exact ⟨h, by simpa using hj, fun a ha => by rw [hn a ha]; rfl⟩
  rw [this]
  rfl
theorem find_miss {L : List Acc} {k : Nat} (hn : ∀ a, a < k → refHit L a k = false) : raceR L k = none := by
  unfold raceR
  have : (List.range k).find? (fun a => refHit L a k) = none := by
    rw [List.find?_eq_none]
    intro a ha
    rw [hn a (by simpa using ha)]
    simp
  rw [this]
  rfl
end Go.Proofs.YtonnlgpjobfnmaaDoor
/- ref26.Races: what it answers. Conditions: a log of 2048 entries at most. -/
namespace Go.Proofs.YtonnlgpjobfnmaaDoor
open Go.RowKit
set_option maxRecDepth 100000
theorem touch_any (c : Value) (a : Acc) (hc : c = .agg #[.int .i64 a.th, .int .i8 a.op, .int .i64 a.cell, .int .i64 a.arg, .int .i64 a.new, .int .i64 a.was, .int .i64 a.now, .bool a.ok]) (x : Bool) (hx : touchB a = x) (w : World) : Calls Tryd.prog 69 #[c] w (TouchPost x w) := by
  subst hc hx
  exact rtouch_any a w
/-- A world in which nothing old has turned. -/
structure BW (w : World) where
  val : World
  low : Below w.heap.size w val
instance bw_some (w : World) : Nonempty (BW w) := ⟨⟨w, Below.refl _ _⟩⟩
theorem wp_region_quietB {P : Program} {id : Nat} {Q : Exit → Act → World → Prop} {a : Act} {w : World} {l : List Oper} (hm : P.follows .mixedOrders = true) (hB : Region.lexB .any l.toArray = true)
    (h : wpQuiet P l.toArray (fun w' => ∃ x : BW w, w' = x.val) (fun a' => ∀ w', (∃ x : BW w, w' = x.val) → Q .normal a' w') l a) : (Code.region id l.toArray true).wp P Q a w :=
  wp_region_quiet (C := fun w' => ∃ x : BW w, w' = x.val) hm hB ⟨⟨_, (Below.refl _ w).drew⟩, rfl⟩ (by simpa using h)
theorem touch_in {wr : World} {x : BW wr} (c : Value) (a : Acc) (hc : c = .agg #[.int .i64 a.th, .int .i8 a.op, .int .i64 a.cell, .int .i64 a.arg, .int .i64 a.new, .int .i64 a.was, .int .i64 a.now, .bool a.ok]) (t : Bool) (ht : touchB a = t) :
    Calls Tryd.prog 69 #[c] x.val fun e w' => e = .returned (.bool t) ∧ ∃ y : BW wr, w' = y.val :=
  (touch_any c a hc t ht x.val).mono fun _ w' ⟨he, hb⟩ => ⟨he, ⟨w', x.low.trans (hb.mono x.low.size)⟩, rfl⟩
theorem acc_in {wr : World} {g o : Nat} {a : Acc} (h : AccAt wr g o a) (hg : g < wr.heap.size) (x : BW wr) : AccAt x.val g o a := h.of x.low hg
/-- Where the outer loop stands. -/
def RRaceRel (L : List Acc) (w2 : World) (vo i : Value) (wr : World) : Prop :=
  ∃ k : Nat, k ≤ L.length ∧ i = .int .i64 k ∧ Below w2.heap.size w2 wr ∧ wr.ownsRow w2.heap.size 87 2 vo (racesTo L k).length (flatR (racesTo L k))
def RRaceIn (L : List Acc) (k : Nat) (wo : World) (vo u5 i : Value) (wr : World) : Prop :=
  ∃ j : Nat, j ≤ k ∧ i = .int .i64 j ∧ u5 = vo ∧ Below wo.heap.size wo wr ∧ ∀ a, a < j → refHit L a k = false
theorem no_more {L : List Acc} {j k : Nat} (h : ∀ a, a < j → refHit L a k = false) (hj : refHit L j k = false) : ∀ a, a < j + 1 → refHit L a k = false := fun a ha => by
  by_cases e : a = j
  · subst e; exact hj
  · exact h a (by omega)
set_option maxHeartbeats 8000000 in
theorem rraces_yes (b : Option Addr) (cap : Nat) (L : List Acc) (w : World) (h : LogAt w w.heap.size b L) (hl : L.length ≤ 2048) (hm : mayLog L = true) :
    Calls Tryd.prog 35 #[.slice b L.length cap] w (RacesPost L w) := by
  have H := Lib.hid h
  have HM := Lib.hid hm
  obtain ⟨j0, hj0, hjz0, hjz1, hjz2⟩ := info_parts infoRace
  clear h hm
  go_enter Tryd.func35, Tryd.ntmps35
  go_upto_region 6 with (first
    | (go_at_call 66; refine (rmay_any b cap L _ H.out).mono ?_; rintro e w1 ⟨he, hb1⟩; rw [HM.out] at he; subst he; have HB1 := Lib.hid hb1; clear hb1)
    | (go_at_call 67; refine (rall_any b cap L _ ((H.out.of HB1.out).mono HB1.out.size) HM.out hl).mono ?_; rintro e w2 ⟨v, ex, xs, rfl, hb2, ho2, hg2⟩; obtain ⟨a, c, rfl, hR⟩ := rows_of HM.out ho2 hg2 rfl; have HB2 := Lib.hid (HB1.out.trans (hb2.mono HB1.out.size)); have HR := Lib.hid hR; clear hb2 ho2 hg2 hR))
  have hs2 := HB2.out.size
  have HLW : Hid (∀ W, Below w2.heap.size w2 W → LogAt W W.heap.size b L) := Lib.hid fun W hW => ((H.out.of HB2.out).of (hW.mono hs2)).mono (Nat.le_trans hs2 hW.size)
  go_loopw [5, 6, 7] (fun vo i _ wr => RRaceRel L w2 vo i wr) (fun _ i _ _ => L.length - (intOf i).toNat)
  case atStart => exact ⟨0, Nat.zero_le _, rfl, Below.refl _ _, World.ownsRow_nil _ _ _ _⟩
  case round =>
    obtain ⟨k, hk, rfl, hb, ho⟩ := hrel
    have HBO := Lib.hid hb
    have HO := Lib.hid ho
    have hbs := hb.size
    clear hb ho
    by_cases hlt : k < L.length
    · have hx : decide (k < L.length) = true := by simpa using hlt
      have hxi : decide ((k : Int) < (L.length : Int)) = true := by simp; omega
      obtain ⟨wo, hwo⟩ : ∃ wo, wo = wr := ⟨_, rfl⟩
      subst hwo
      obtain ⟨vo, hvo⟩ : ∃ vo, vo = u5 := ⟨_, rfl⟩
      subst hvo
      obtain ⟨y, hy⟩ : ∃ y, L[k]? = some y := ⟨L[k], List.getElem?_eq_getElem hlt⟩
      have hay : accAt L k = y := by unfold accAt; rw [hy]; rfl
      have HY := Lib.hid hy
      have HAY := Lib.hid hay
      clear hy hay
      go_wp2_with fail
      go_loopw [5, 7] (fun u5 i wr => RRaceIn L k wo vo u5 i wr) (fun _ i _ => k - (intOf i).toNat)
      case atStart => exact ⟨0, Nat.zero_le _, rfl, rfl, Below.refl _ _, fun a ha => by omega⟩
      case round =>
        obtain ⟨j, hj, rfl, rfl, hbi, hno⟩ := hrel
        have HBI := Lib.hid hbi
        have HNO := Lib.hid hno
        have hbis := hbi.size
        clear hbi hno
        by_cases hjk : j < k
        · have hz : decide (j < k) = true := by simpa using hjk
          have hzi : decide ((j : Int) < (k : Int)) = true := by simp; omega
          have hjl : j < L.length := by omega
          obtain ⟨x, hx0⟩ : ∃ x, L[j]? = some x := ⟨L[j], List.getElem?_eq_getElem hjl⟩
          have hax : accAt L j = x := by unfold accAt; rw [hx0]; rfl
          have HAX := Lib.hid hax
          have HBW : Hid (Below w2.heap.size w2 wr) := Lib.hid (HBO.out.trans (HBI.out.mono hbs))
          obtain ⟨g, off, rfl, hg, hp⟩ := (HLW.out wr HBW.out).at_ j x hx0
          obtain ⟨g2, off2, e2, hg2, hq⟩ := (HLW.out wr HBW.out).at_ k y HY.out
          injection e2 with e2
          injection e2 with e3 e4
          subst e3 e4
          have hp := acc_in hp hg
          have hq := acc_in hq hg
          have p0 := fun z => (hp z).1
          have p1 := fun z => (hp z).2.1
          have p2 := fun z => (hp z).2.2.1
          have p3 := fun z => (hp z).2.2.2.1
          have p4 := fun z => (hp z).2.2.2.2.1
          have p5 := fun z => (hp z).2.2.2.2.2.1
          have p6 := fun z => (hp z).2.2.2.2.2.2.1
          have p7 := fun z => (hp z).2.2.2.2.2.2.2
          have q0 := fun z => (hq z).1
          have q1 := fun z => (hq z).2.1
          have q2 := fun z => (hq z).2.2.1
          have q3 := fun z => (hq z).2.2.2.1
          have q4 := fun z => (hq z).2.2.2.2.1
          have q5 := fun z => (hq z).2.2.2.2.2.1
          have q6 := fun z => (hq z).2.2.2.2.2.2.1
          have q7 := fun z => (hq z).2.2.2.2.2.2.2
          clear hp hq
          clear hx0 hax
          cases htx : touchB x with
          | false =>
            have HTX := Lib.hid htx
            clear htx
            have HNH : Hid (refHit L j k = false) := Lib.hid (by unfold refHit; rw [HAX.out, HAY.out]; simp [HTX.out])
            go_upto_region 11 with fail
            refine wp_region_quietB (by kernel_rfl) (by kernel_rfl) ?_
            refine wpQuiet_cut 6 _ _ (fun K hK => ?_)
            simp only [List.take_succ_cons, List.take_zero]
            iterate 6 go_big_quiet_step ((go_at_call 69; exact touch_in _ x rfl _ HTX.out))
            refine wpQuiet_nil ?_
            refine hK _ ?_
            clear hK K
            refine wpQuiet_strike 6 rfl rfl _ rfl (by kernel_rfl) ?_
            simp only [List.take_succ_cons, List.take_zero, List.drop_succ_cons, List.drop_zero, skipsA]
            go_simp
            refine wpQuiet_cut 1 _ _ (fun K hK => ?_)
            simp only [List.take_succ_cons, List.take_zero]
            iterate 1 go_big_quiet_step (fail)
            refine wpQuiet_nil ?_
            refine hK _ ?_
            clear hK K
            refine wpQuiet_strike 11 rfl rfl _ rfl (by kernel_rfl) ?_
            simp only [List.take_succ_cons, List.take_zero, List.drop_succ_cons, List.drop_zero, skipsA]
            go_simp
            refine wpQuiet_cut 1 _ _ (fun K hK => ?_)
            simp only [List.take_succ_cons, List.take_zero]
            iterate 1 go_big_quiet_step (fail)
            refine wpQuiet_nil ?_
            refine hK _ ?_
            clear hK K
            refine wpQuiet_strike 14 rfl rfl _ rfl (by kernel_rfl) ?_
            simp only [List.take_succ_cons, List.take_zero, List.drop_succ_cons, List.drop_zero, skipsA]
            go_simp
            refine wpQuiet_cut 1 _ _ (fun K hK => ?_)
            simp only [List.take_succ_cons, List.take_zero]
            iterate 1 go_big_quiet_step (fail)
            refine wpQuiet_nil ?_
            refine hK _ ?_
            clear hK K
            refine wpQuiet_nil ?_
            first
              | (intro w5 hw5; obtain ⟨⟨w6, hb6⟩, e6⟩ := hw5; have hb5 : Below wr.heap.size wr w5 := (by rw [e6]; exact hb6); clear e6 hb6 w6)
              | (rintro ⟨w5, hb5⟩)
            try dsimp only
            have HB5 := Lib.hid hb5
            clear hb5 p0 p1 p2 p3 p4 p5 p6 p7 q0 q1 q2 q3 q4 q5 q6 q7
            go_wp2_with fail
            exact ⟨⟨j + 1, by omega, by rw [Int.natCast_add]; rfl, rfl, HBI.out.trans (HB5.out.mono hbis), no_more HNO.out (HNH.out)⟩, by simp [intOf]; omega⟩
          | true =>
            have HTX := Lib.hid htx
            clear htx
            cases hty : touchB y with
            | false =>
              have HTY := Lib.hid hty
              clear hty
              have HNH : Hid (refHit L j k = false) := Lib.hid (by unfold refHit; rw [HAX.out, HAY.out]; simp [HTY.out])
              go_upto_region 11 with fail
              refine wp_region_quietB (by kernel_rfl) (by kernel_rfl) ?_
              refine wpQuiet_cut 6 _ _ (fun K hK => ?_)
              simp only [List.take_succ_cons, List.take_zero]
              iterate 6 go_big_quiet_step ((go_at_call 69; exact touch_in _ x rfl _ HTX.out))
              refine wpQuiet_nil ?_
              refine hK _ ?_
              clear hK K
              refine wpQuiet_cut 8 _ _ (fun K hK => ?_)
              simp only [List.take_succ_cons, List.take_zero, List.drop_succ_cons, List.drop_zero]
              iterate 8 go_big_quiet_step ((go_at_call 69; exact touch_in _ y rfl _ HTY.out))
              refine wpQuiet_nil ?_
              refine hK _ ?_
              clear hK K
              refine wpQuiet_strike 11 rfl rfl _ rfl (by kernel_rfl) ?_
              simp only [List.take_succ_cons, List.take_zero, List.drop_succ_cons, List.drop_zero, skipsA]
              go_simp
              refine wpQuiet_cut 1 _ _ (fun K hK => ?_)
              simp only [List.take_succ_cons, List.take_zero]
              iterate 1 go_big_quiet_step (fail)
              refine wpQuiet_nil ?_
              refine hK _ ?_
              clear hK K
              refine wpQuiet_strike 14 rfl rfl _ rfl (by kernel_rfl) ?_
              simp only [List.take_succ_cons, List.take_zero, List.drop_succ_cons, List.drop_zero, skipsA]
              go_simp
              refine wpQuiet_cut 1 _ _ (fun K hK => ?_)
              simp only [List.take_succ_cons, List.take_zero]
              iterate 1 go_big_quiet_step (fail)
              refine wpQuiet_nil ?_
              refine hK _ ?_
              clear hK K
              refine wpQuiet_nil ?_
              first
                | (intro w5 hw5; obtain ⟨⟨w6, hb6⟩, e6⟩ := hw5; have hb5 : Below wr.heap.size wr w5 := (by rw [e6]; exact hb6); clear e6 hb6 w6)
                | (rintro ⟨w5, hb5⟩)
              try dsimp only
              have HB5 := Lib.hid hb5
              clear hb5 p0 p1 p2 p3 p4 p5 p6 p7 q0 q1 q2 q3 q4 q5 q6 q7
              go_wp2_with fail
              exact ⟨⟨j + 1, by omega, by rw [Int.natCast_add]; rfl, rfl, HBI.out.trans (HB5.out.mono hbis), no_more HNO.out (HNH.out)⟩, by simp [intOf]; omega⟩
            | true =>
              have HTY := Lib.hid hty
              clear hty
              by_cases hag : x.arg = y.arg
              · have a1 : (x.arg == y.arg) = true := by simpa using hag
                have a2 : (x.arg != y.arg) = false := by simpa using hag
                have a3 : decide (x.arg = y.arg) = true := by simpa using hag
                have HAG := Lib.hid hag
                clear hag
                by_cases hnx : x.new = 0
                · by_cases hny : y.new = 0
                  · have nx1 : (x.new == 0) = true := by simpa using hnx
                    have nx2 : decide (x.new = 0) = true := by simpa using hnx
                    have HNX := Lib.hid hnx
                    clear hnx
                    have ny1 : (y.new == 0) = true := by simpa using hny
                    have ny2 : decide (y.new = 0) = true := by simpa using hny
                    have HNY := Lib.hid hny
                    clear hny
                    have HNH : Hid (refHit L j k = false) := Lib.hid (by unfold refHit; rw [HAX.out, HAY.out]; simp [HAG.out, HNX.out, HNY.out])
                    go_upto_region 11 with fail
                    refine wp_region_quietB (by kernel_rfl) (by kernel_rfl) ?_
                    refine wpQuiet_cut 6 _ _ (fun K hK => ?_)
                    simp only [List.take_succ_cons, List.take_zero]
                    iterate 6 go_big_quiet_step ((go_at_call 69; exact touch_in _ x rfl _ HTX.out))
                    refine wpQuiet_nil ?_
                    refine hK _ ?_
                    clear hK K
                    refine wpQuiet_cut 8 _ _ (fun K hK => ?_)
                    simp only [List.take_succ_cons, List.take_zero, List.drop_succ_cons, List.drop_zero]
                    iterate 8 go_big_quiet_step ((go_at_call 69; exact touch_in _ y rfl _ HTY.out))
                    refine wpQuiet_nil ?_
                    refine hK _ ?_
                    clear hK K
                    refine wpQuiet_cut 13 _ _ (fun K hK => ?_)
                    simp only [List.take_succ_cons, List.take_zero, List.drop_succ_cons, List.drop_zero]
                    iterate 13 go_big_quiet_step (fail)
                    refine wpQuiet_nil ?_
                    refine hK _ ?_
                    clear hK K
                    refine wpQuiet_cut 16 _ _ (fun K hK => ?_)
                    simp only [List.take_succ_cons, List.take_zero, List.drop_succ_cons, List.drop_zero]
                    iterate 16 go_big_quiet_step (fail)
                    refine wpQuiet_nil ?_
                    refine hK _ ?_
                    clear hK K
                    refine wpQuiet_nil ?_
                    first
                      | (intro w5 hw5; obtain ⟨⟨w6, hb6⟩, e6⟩ := hw5; have hb5 : Below wr.heap.size wr w5 := (by rw [e6]; exact hb6); clear e6 hb6 w6)
                      | (rintro ⟨w5, hb5⟩)
                    try dsimp only
                    have HB5 := Lib.hid hb5
                    clear hb5 p0 p1 p2 p3 p4 p5 p6 p7 q0 q1 q2 q3 q4 q5 q6 q7
                    go_wp2_with fail
                    exact ⟨⟨j + 1, by omega, by rw [Int.natCast_add]; rfl, rfl, HBI.out.trans (HB5.out.mono hbis), no_more HNO.out (HNH.out)⟩, by simp [intOf]; omega⟩
                  · have nx1 : (x.new == 0) = true := by simpa using hnx
                    have nx2 : decide (x.new = 0) = true := by simpa using hnx
                    have HNX := Lib.hid hnx
                    clear hnx
                    have ny1 : (y.new == 0) = false := by simpa using hny
                    have ny2 : decide (y.new = 0) = false := by simpa using hny
                    have HNY := Lib.hid hny
                    clear hny
                    go_upto_region 11 with fail
                    refine wp_region_quietB (by kernel_rfl) (by kernel_rfl) ?_
                    refine wpQuiet_cut 6 _ _ (fun K hK => ?_)
                    simp only [List.take_succ_cons, List.take_zero]
                    iterate 6 go_big_quiet_step ((go_at_call 69; exact touch_in _ x rfl _ HTX.out))
                    refine wpQuiet_nil ?_
                    refine hK _ ?_
                    clear hK K
                    refine wpQuiet_cut 8 _ _ (fun K hK => ?_)
                    simp only [List.take_succ_cons, List.take_zero, List.drop_succ_cons, List.drop_zero]
                    iterate 8 go_big_quiet_step ((go_at_call 69; exact touch_in _ y rfl _ HTY.out))
                    refine wpQuiet_nil ?_
                    refine hK _ ?_
                    clear hK K
                    refine wpQuiet_cut 13 _ _ (fun K hK => ?_)
                    simp only [List.take_succ_cons, List.take_zero, List.drop_succ_cons, List.drop_zero]
                    iterate 13 go_big_quiet_step (fail)
                    refine wpQuiet_nil ?_
                    refine hK _ ?_
                    clear hK K
                    refine wpQuiet_cut 16 _ _ (fun K hK => ?_)
                    simp only [List.take_succ_cons, List.take_zero, List.drop_succ_cons, List.drop_zero]
                    iterate 16 go_big_quiet_step (fail)
                    refine wpQuiet_nil ?_
                    refine hK _ ?_
                    clear hK K
                    refine wpQuiet_nil ?_
                    first
                      | (intro w5 hw5; obtain ⟨⟨w6, hb6⟩, e6⟩ := hw5; have hb5 : Below wr.heap.size wr w5 := (by rw [e6]; exact hb6); clear e6 hb6 w6)
                      | (rintro ⟨w5, hb5⟩)
                    try dsimp only
                    have HB5 := Lib.hid hb5
                    clear hb5 p0 p1 p2 p3 p4 p5 p6 p7 q0 q1 q2 q3 q4 q5 q6 q7
                    have hs5 := HB5.out.size
                    have HB5W : Hid (Below w2.heap.size w2 w5) := Lib.hid (HBW.out.trans (HB5.out.mono (by omega)))
                    have HR5 : Hid (RowsAt w5 a (cksR L)) := Lib.hid (HR.out.of HB5W.out)
                    have HA1 := Lib.hid (rahead_any (some ⟨g, off, none⟩) a cap c _ L j k hjl hlt HM.out w5 (HLW.out w5 HB5W.out) HR5.out)
                    cases hah : aheadB L j k with
                    | true =>
                      have HAH := Lib.hid hah
                      rw [hah] at HA1
                      clear hah
                      have HNH : Hid (refHit L j k = false) := Lib.hid (by unfold refHit; rw [HAH.out]; simp)
                      go_wp2_with (go_at_call 68; refine HA1.out.mono ?_; rintro e w6 ⟨rfl, n6, hw6⟩; have HB6 : Hid (Below w5.heap.size w5 w6) := Lib.hid (by rw [hw6]; exact below_drewN (Below.refl _ _) _); clear hw6 HA1)
                      exact ⟨⟨j + 1, by omega, by rw [Int.natCast_add]; rfl, rfl, HBI.out.trans ((HB5.out.trans (HB6.out.mono HB5.out.size)).mono hbis), no_more HNO.out HNH.out⟩, by simp [intOf]; omega⟩
                    | false =>
                      have hba : aheadB L k j = false := by
                        rw [← Bool.not_eq_true]
                        intro h
                        have := ahead_lt hlt hjl h
                        omega
                      have HHIT : Hid (refHit L j k = true) := Lib.hid (by unfold refHit; rw [HAX.out, HAY.out, hah, hba, HTX.out, HTY.out]; simp [HAG.out, HNY.out])
                      rw [hah] at HA1
                      clear hah
                      have HBA := Lib.hid hba
                      clear hba
                      have HRK : Hid (racesTo L (k + 1) = racesTo L k ++ [(j, k)]) := Lib.hid (by rw [racesTo_succ, ← raceR_eq hlt, find_hit hjk HNO.out HHIT.out]; rfl)
                      go_upto_region 12 with fail
                      go_wp2_with (go_at_call 68; refine HA1.out.mono ?_; rintro e w6 ⟨rfl, n6, hw6⟩; have HB6 : Hid (Below w5.heap.size w5 w6) := Lib.hid (by rw [hw6]; exact below_drewN (Below.refl _ _) _); clear hw6 HA1)
                      have HB6W : Hid (Below w2.heap.size w2 w6) := Lib.hid (HB5W.out.trans (HB6.out.mono HB5W.out.size))
                      have HA2 := Lib.hid (rahead_any (some ⟨g, off, none⟩) a cap c _ L k j hlt hjl HM.out w6 (HLW.out w6 HB6W.out) (HR.out.of HB6W.out))
                      rw [HBA.out] at HA2
                      refine HA2.out.mono ?_
                      rintro e w7 ⟨rfl, n7, hw7⟩
                      have HB7 : Hid (Below w6.heap.size w6 w7) := Lib.hid (by rw [hw7]; exact below_drewN (Below.refl _ _) _)
                      clear hw7 HA2
                      have hs6 := HB6.out.size
                      have hs7 := HB7.out.size
                      have HBO7 : Hid (Below wo.heap.size wo w7) := Lib.hid (HBI.out.trans (((HB5.out.trans (HB6.out.mono hs5)).trans (HB7.out.mono (by omega))).mono hbis))
                      have HO7 : Hid (w7.ownsRow w2.heap.size 87 2 u5 (racesTo L k).length (flatR (racesTo L k))) := Lib.hid (row_sameN HO.out fun q _ _ hB => HBO7.out.block q hB.lt)
                      have HRL : Hid ((racesTo L k).length ≤ 2048) := Lib.hid (by have := racesTo_len L k; omega)
                      go_wp2_with (at_builtin; refine wpList_append_own _ rfl _ _ 79 rfl w2.heap.size 87 j0 _ 2 16 Tryd.underlying79 hj0 hjz0 hjz1 hjz2 rfl (by decide) u5 (racesTo L k).length (flatR (racesTo L k)) rfl (HO7.out.alloc _) ⟨w7.heap.size, 0, none⟩ 1 1 [.int .i64 (j : Nat), .int .i64 (k : Nat)] rfl rfl (World.news_of_block (heap_alloc_new w7 _)) (by simp [Value.oneCell']) (by have := HRL.out; unfold maxLen; omega) (by have := HRL.out; omega) (by simp; omega) ?_; intro v10 w10 hown10 hgrow10 _; have HO10 := Lib.hid hown10; have HG10 := Lib.hid hgrow10; clear hown10 hgrow10)
                      refine ⟨⟨k + 1, by omega, by rw [Int.natCast_add]; rfl, ?_, ?_⟩, by simp [intOf]; omega⟩
                      · have kk : Kept (fun q => u5.ownBlock = some q) w7 w10 := ((Kept.refl _ w7).alloc _).trans ⟨HG10.out.os, HG10.out.tape, HG10.out.output, HG10.out.size, fun q hq hs => HG10.out.block q hq fun e => hs e.symm⟩
                        exact (HBO.out.trans (HBO7.out.mono hbs)).trans (kk.below (by omega) fun q hq => (HO.out.lt q hq).1)
                      · rw [HRK.out, flatR_snoc, List.length_append]
                        exact HO10.out
                · have nx1 : (x.new == 0) = false := by simpa using hnx
                  have nx2 : decide (x.new = 0) = false := by simpa using hnx
                  have HNX := Lib.hid hnx
                  clear hnx
                  go_upto_region 11 with fail
                  refine wp_region_quietB (by kernel_rfl) (by kernel_rfl) ?_
                  refine wpQuiet_cut 6 _ _ (fun K hK => ?_)
                  simp only [List.take_succ_cons, List.take_zero]
                  iterate 6 go_big_quiet_step ((go_at_call 69; exact touch_in _ x rfl _ HTX.out))
                  refine wpQuiet_nil ?_
                  refine hK _ ?_
                  clear hK K
                  refine wpQuiet_cut 8 _ _ (fun K hK => ?_)
                  simp only [List.take_succ_cons, List.take_zero, List.drop_succ_cons, List.drop_zero]
                  iterate 8 go_big_quiet_step ((go_at_call 69; exact touch_in _ y rfl _ HTY.out))
                  refine wpQuiet_nil ?_
                  refine hK _ ?_
                  clear hK K
                  refine wpQuiet_cut 13 _ _ (fun K hK => ?_)
                  simp only [List.take_succ_cons, List.take_zero, List.drop_succ_cons, List.drop_zero]
                  iterate 13 go_big_quiet_step (fail)
                  refine wpQuiet_nil ?_
                  refine hK _ ?_
                  clear hK K
                  refine wpQuiet_cut 7 _ _ (fun K hK => ?_)
                  simp only [List.take_succ_cons, List.take_zero, List.drop_succ_cons, List.drop_zero]
                  iterate 7 go_big_quiet_step (fail)
                  refine wpQuiet_nil ?_
                  refine hK _ ?_
                  clear hK K
                  refine wpQuiet_strike 6 rfl rfl _ rfl (by kernel_rfl) ?_
                  simp only [List.take_succ_cons, List.take_zero, List.drop_succ_cons, List.drop_zero, skipsA]
                  go_simp
                  refine wpQuiet_cut 2 _ _ (fun K hK => ?_)
                  simp only [List.take_succ_cons, List.take_zero]
                  iterate 2 go_big_quiet_step (fail)
                  refine wpQuiet_nil ?_
                  refine hK _ ?_
                  clear hK K
                  refine wpQuiet_nil ?_
                  first
                    | (intro w5 hw5; obtain ⟨⟨w6, hb6⟩, e6⟩ := hw5; have hb5 : Below wr.heap.size wr w5 := (by rw [e6]; exact hb6); clear e6 hb6 w6)
                    | (rintro ⟨w5, hb5⟩)
                  try dsimp only
                  have HB5 := Lib.hid hb5
                  clear hb5 p0 p1 p2 p3 p4 p5 p6 p7 q0 q1 q2 q3 q4 q5 q6 q7
                  have hs5 := HB5.out.size
                  have HB5W : Hid (Below w2.heap.size w2 w5) := Lib.hid (HBW.out.trans (HB5.out.mono (by omega)))
                  have HR5 : Hid (RowsAt w5 a (cksR L)) := Lib.hid (HR.out.of HB5W.out)
                  have HA1 := Lib.hid (rahead_any (some ⟨g, off, none⟩) a cap c _ L j k hjl hlt HM.out w5 (HLW.out w5 HB5W.out) HR5.out)
                  cases hah : aheadB L j k with
                  | true =>
                    have HAH := Lib.hid hah
                    rw [hah] at HA1
                    clear hah
                    have HNH : Hid (refHit L j k = false) := Lib.hid (by unfold refHit; rw [HAH.out]; simp)
                    go_wp2_with (go_at_call 68; refine HA1.out.mono ?_; rintro e w6 ⟨rfl, n6, hw6⟩; have HB6 : Hid (Below w5.heap.size w5 w6) := Lib.hid (by rw [hw6]; exact below_drewN (Below.refl _ _) _); clear hw6 HA1)
                    exact ⟨⟨j + 1, by omega, by rw [Int.natCast_add]; rfl, rfl, HBI.out.trans ((HB5.out.trans (HB6.out.mono HB5.out.size)).mono hbis), no_more HNO.out HNH.out⟩, by simp [intOf]; omega⟩
                  | false =>
                    have hba : aheadB L k j = false := by
                      rw [← Bool.not_eq_true]
                      intro h
                      have := ahead_lt hlt hjl h
                      omega
                    have HHIT : Hid (refHit L j k = true) := Lib.hid (by unfold refHit; rw [HAX.out, HAY.out, hah, hba, HTX.out, HTY.out]; simp [HAG.out, HNX.out])
                    rw [hah] at HA1
                    clear hah
                    have HBA := Lib.hid hba
                    clear hba
                    have HRK : Hid (racesTo L (k + 1) = racesTo L k ++ [(j, k)]) := Lib.hid (by rw [racesTo_succ, ← raceR_eq hlt, find_hit hjk HNO.out HHIT.out]; rfl)
                    go_upto_region 12 with fail
                    go_wp2_with (go_at_call 68; refine HA1.out.mono ?_; rintro e w6 ⟨rfl, n6, hw6⟩; have HB6 : Hid (Below w5.heap.size w5 w6) := Lib.hid (by rw [hw6]; exact below_drewN (Below.refl _ _) _); clear hw6 HA1)
                    have HB6W : Hid (Below w2.heap.size w2 w6) := Lib.hid (HB5W.out.trans (HB6.out.mono HB5W.out.size))
                    have HA2 := Lib.hid (rahead_any (some ⟨g, off, none⟩) a cap c _ L k j hlt hjl HM.out w6 (HLW.out w6 HB6W.out) (HR.out.of HB6W.out))
                    rw [HBA.out] at HA2
                    refine HA2.out.mono ?_
                    rintro e w7 ⟨rfl, n7, hw7⟩
                    have HB7 : Hid (Below w6.heap.size w6 w7) := Lib.hid (by rw [hw7]; exact below_drewN (Below.refl _ _) _)
                    clear hw7 HA2
                    have hs6 := HB6.out.size
                    have hs7 := HB7.out.size
                    have HBO7 : Hid (Below wo.heap.size wo w7) := Lib.hid (HBI.out.trans (((HB5.out.trans (HB6.out.mono hs5)).trans (HB7.out.mono (by omega))).mono hbis))
                    have HO7 : Hid (w7.ownsRow w2.heap.size 87 2 u5 (racesTo L k).length (flatR (racesTo L k))) := Lib.hid (row_sameN HO.out fun q _ _ hB => HBO7.out.block q hB.lt)
                    have HRL : Hid ((racesTo L k).length ≤ 2048) := Lib.hid (by have := racesTo_len L k; omega)
                    go_wp2_with (at_builtin; refine wpList_append_own _ rfl _ _ 79 rfl w2.heap.size 87 j0 _ 2 16 Tryd.underlying79 hj0 hjz0 hjz1 hjz2 rfl (by decide) u5 (racesTo L k).length (flatR (racesTo L k)) rfl (HO7.out.alloc _) ⟨w7.heap.size, 0, none⟩ 1 1 [.int .i64 (j : Nat), .int .i64 (k : Nat)] rfl rfl (World.news_of_block (heap_alloc_new w7 _)) (by simp [Value.oneCell']) (by have := HRL.out; unfold maxLen; omega) (by have := HRL.out; omega) (by simp; omega) ?_; intro v10 w10 hown10 hgrow10 _; have HO10 := Lib.hid hown10; have HG10 := Lib.hid hgrow10; clear hown10 hgrow10)
                    refine ⟨⟨k + 1, by omega, by rw [Int.natCast_add]; rfl, ?_, ?_⟩, by simp [intOf]; omega⟩
                    · have kk : Kept (fun q => u5.ownBlock = some q) w7 w10 := ((Kept.refl _ w7).alloc _).trans ⟨HG10.out.os, HG10.out.tape, HG10.out.output, HG10.out.size, fun q hq hs => HG10.out.block q hq fun e => hs e.symm⟩
                      exact (HBO.out.trans (HBO7.out.mono hbs)).trans (kk.below (by omega) fun q hq => (HO.out.lt q hq).1)
                    · rw [HRK.out, flatR_snoc, List.length_append]
                      exact HO10.out
              · have HNH : Hid (refHit L j k = false) := Lib.hid (by unfold refHit; rw [HAX.out, HAY.out]; simp [hag])
                have a1 : (x.arg == y.arg) = false := by simpa using hag
                have a2 : (x.arg != y.arg) = true := by simpa using hag
                have a3 : decide (x.arg = y.arg) = false := by simpa using hag
                clear hag
                go_upto_region 11 with fail
                refine wp_region_quietB (by kernel_rfl) (by kernel_rfl) ?_
                refine wpQuiet_cut 6 _ _ (fun K hK => ?_)
                simp only [List.take_succ_cons, List.take_zero]
                iterate 6 go_big_quiet_step ((go_at_call 69; exact touch_in _ x rfl _ HTX.out))
                refine wpQuiet_nil ?_
                refine hK _ ?_
                clear hK K
                refine wpQuiet_cut 8 _ _ (fun K hK => ?_)
                simp only [List.take_succ_cons, List.take_zero, List.drop_succ_cons, List.drop_zero]
                iterate 8 go_big_quiet_step ((go_at_call 69; exact touch_in _ y rfl _ HTY.out))
                refine wpQuiet_nil ?_
                refine hK _ ?_
                clear hK K
                refine wpQuiet_cut 13 _ _ (fun K hK => ?_)
                simp only [List.take_succ_cons, List.take_zero, List.drop_succ_cons, List.drop_zero]
                iterate 13 go_big_quiet_step (fail)
                refine wpQuiet_nil ?_
                refine hK _ ?_
                clear hK K
                refine wpQuiet_strike 14 rfl rfl _ rfl (by kernel_rfl) ?_
                simp only [List.take_succ_cons, List.take_zero, List.drop_succ_cons, List.drop_zero, skipsA]
                go_simp
                refine wpQuiet_cut 1 _ _ (fun K hK => ?_)
                simp only [List.take_succ_cons, List.take_zero]
                iterate 1 go_big_quiet_step (fail)
                refine wpQuiet_nil ?_
                refine hK _ ?_
                clear hK K
                refine wpQuiet_nil ?_
                first
                  | (intro w5 hw5; obtain ⟨⟨w6, hb6⟩, e6⟩ := hw5; have hb5 : Below wr.heap.size wr w5 := (by rw [e6]; exact hb6); clear e6 hb6 w6)
                  | (rintro ⟨w5, hb5⟩)
                try dsimp only
                have HB5 := Lib.hid hb5
                clear hb5 p0 p1 p2 p3 p4 p5 p6 p7 q0 q1 q2 q3 q4 q5 q6 q7
                go_wp2_with fail
                exact ⟨⟨j + 1, by omega, by rw [Int.natCast_add]; rfl, rfl, HBI.out.trans (HB5.out.mono hbis), no_more HNO.out (HNH.out)⟩, by simp [intOf]; omega⟩
        · have hz : decide (j < k) = false := by simpa using hjk
          have hzi : decide ((j : Int) < (k : Int)) = false := by simp; omega
          have HRK : Hid (racesTo L (k + 1) = racesTo L k) := Lib.hid (by rw [racesTo_succ, ← raceR_eq hlt, find_miss fun a ha => HNO.out a (by omega)]; simp)
          go_wp2_with fail
          refine ⟨⟨k + 1, by omega, by rw [Int.natCast_add]; rfl, HBO.out.trans (HBI.out.mono hbs), ?_⟩, by simp [intOf]; omega⟩
          rw [HRK.out]
          exact row_sameN HO.out fun q _ _ hB => HBI.out.block q hB.lt
    · obtain rfl : k = L.length := by omega
      have hx : decide (L.length < L.length) = false := by simp
      have hxi : decide ((L.length : Int) < (L.length : Int)) = false := by simp
      go_wp2_with fail
      refine bodyPost_ret (v := .tuple #[u5, .int .i64 0]) (by simp [results, Tryd.results35, go_sem]) rfl ⟨HB2.out.trans (HBO.out.mono hs2), u5, ?_, ?_⟩
      · rw [if_pos HM.out]
      · unfold racesOf
        rw [if_pos HM.out]
        exact own_mono HO.out hs2
set_option maxHeartbeats 1600000 in
theorem rraces_any (b : Option Addr) (cap : Nat) (L : List Acc) (w : World) (h : LogAt w w.heap.size b L) (hl : L.length ≤ 2048) :
    Calls Tryd.prog 35 #[.slice b L.length cap] w (RacesPost L w) := by
  cases hm : mayLog L with
  | false =>
    have H := Lib.hid h
    have HM := Lib.hid hm
    clear h hm
    go_enter Tryd.func35, Tryd.ntmps35
    go_wp2_with (go_at_call 66; refine (rmay_any b cap L _ H.out).mono ?_; rintro e w1 ⟨he, hb1⟩; rw [HM.out] at he; subst he; have HB1 := Lib.hid hb1; clear hb1)
    exact bodyPost_ret (v := .tuple #[.slice none 0 0, .int .i64 31]) (by simp [results, Tryd.results35, go_sem]) rfl (RacesPost.no HM.out HB1.out)
  | true => exact rraces_yes b cap L w h hl hm
end Go.Proofs.YtonnlgpjobfnmaaDoor
