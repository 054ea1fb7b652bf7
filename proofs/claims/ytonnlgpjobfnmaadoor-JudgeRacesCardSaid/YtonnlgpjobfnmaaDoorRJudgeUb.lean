/- judge.Races. Conditions: what the slice's cells hold. -/
import Derived.Test.YtonnlgpjobfnmaaDoorRJudgeUa
import Derived.Test.YtonnlgpjobfnmaaDoorRJudgeL
import Derived.Deep.RegionHeld3
import Derived.Deep.AppendLies
namespace Go.Proofs.YtonnlgpjobfnmaaDoor
open Go.RowKit
set_option maxRecDepth 100000

def racesOf (L : List Acc) : List (Nat × Nat) := if mayLog L then racesTo L L.length else []
def RacesPost (L : List Acc) (w : World) (e : Ending) (w' : World) : Prop :=
  Below w.heap.size w w' ∧ ∃ v, e = .returned (.tuple #[v, .int .i64 (if mayLog L then 0 else 31)]) ∧ w'.ownsRow w.heap.size 87 2 v (racesOf L).length (flatR (racesOf L))
theorem RacesPost.no {L : List Acc} {w w' : World} (h : mayLog L = false) (hb : Below w.heap.size w w') : RacesPost L w (.returned (.tuple #[.slice none 0 0, .int .i64 31])) w' :=
  ⟨hb, .slice none 0 0, by rw [h]; rfl, by unfold racesOf; rw [h]; exact World.ownsRow_nil _ _ _ _⟩
/-- The races of the first k entries are found. -/
def RRel (L : List Acc) (w0 : World) (M : Nat) (vc : Value) (i o : Value) (wr : World) : Prop :=
  ∃ k : Nat, k ≤ L.length ∧ i = .int .i64 k ∧ Below w0.heap.size w0 wr ∧ wr.ownsRow (w0.heap.size + 2) 109 64 vc L.length (flat (clocksOf L)) ∧ GrpIn wr M k (slotsTo L k) ∧ wr.ownsRow w0.heap.size 87 2 o (racesTo L k).length (flatR (racesTo L k))
theorem row_form {w : World} {base n : Nat} {e : TypeId} {v : Value} {xs : List Value} (h : w.ownsRow base e 1 v n xs) : ∃ a cap, v = .slice a n cap ∧ ∀ (j : Nat) (u : Value), xs[j]? = some u → ∃ g, a = some ⟨g, 0, none⟩ ∧ g < w.heap.size ∧ w.cell? ⟨g, j, none⟩ = some u := by
  have h0 := h
  obtain ⟨hl, ⟨rfl, rfl⟩ | ⟨g, cap, cur, rfl, hb, hc, hk⟩⟩ := h
  · refine ⟨none, 0, rfl, fun j u hu => ?_⟩
    have : xs = [] := by simpa using hl
    subst this
    simp at hu
  · refine ⟨_, cap, rfl, fun j u hu => ⟨g, rfl, (Array.getElem?_eq_some_iff.1 hc).1, ?_⟩⟩
    have hj : j < xs.length := (List.getElem?_eq_some_iff.1 hu).1
    rw [h0.cellAt j (by omega), hu]
theorem own_blk {w : World} {base n size : Nat} {e : TypeId} {v : Value} {xs : List Value} (h : w.ownsRow base e size v n xs) {q : Nat} (hq : v.ownBlock = some q) : base ≤ q ∧ ∃ cs, w.heap[q]? = some (.cells cs e (0, 0)) := by
  obtain ⟨_, ⟨rfl, _⟩ | ⟨g, cap, cur, rfl, hb, hc, _⟩⟩ := h
  · cases hq
  · simp only [Value.ownBlock] at hq
    injection hq with hq
    subst hq
    exact ⟨hb, cur, hc⟩
theorem infoInt : (Tryd.prog.info? 3).map (fun i => (i.zero, i.size, i.bytes)) = some (some (.int .i64 0), 1, 8) := by kernel_rfl
theorem held_heap {wz w7 : World} {o : Obj} {row : Option Nat} {q : Nat} (hg : ((wz.alloc o).drew).grownBy w7 row) (hq : q < wz.heap.size) (hne : row ≠ some q) : w7.heap[q]? = wz.drew.heap[q]? :=
  (hg.block q (by simp; omega) (Ne.symm hne)).trans ((((Below.refl _ wz).alloc (Nat.le_refl _) o).drew).block q hq)
theorem held_cell {wz w7 : World} {o : Obj} {row : Option Nat} {p : Addr} {v : Value} (hg : ((wz.alloc o).drew).grownBy w7 row) (hq : p.block < wz.heap.size) (hne : row ≠ some p.block) (h : wz.cell? p = some v) : w7.cell? p = some v :=
  (World.cell?_of_block (held_heap hg hq hne)).trans h
theorem kept_group {wz w7 w8 : World} {o : Obj} {row : Option Nat} {M : Nat} (h7 : ((wz.alloc o).drew).grownBy w7 row) (h8 : w7.grownBy w8 (some M)) : Kept (fun q => some q = row ∨ q = M) wz w8 := by
  have h1 : Kept (fun q => some q = row ∨ q = M) wz (wz.alloc o).drew := ((Kept.refl _ wz).alloc o).drew
  have h2 : Kept (fun q => some q = row ∨ q = M) (wz.alloc o).drew w7 := ⟨h7.os, h7.tape, h7.output, h7.size, fun q hq hs => h7.block q hq fun e => hs (.inl e)⟩
  have h3 : Kept (fun q => some q = row ∨ q = M) w7 w8 := ⟨h8.os, h8.tape, h8.output, h8.size, fun q hq hs => h8.block q hq fun e => hs (.inr (Option.some.inj e))⟩
  exact (h1.trans h2).trans h3
theorem below_group {w wz w8 : World} {row : Option Nat} {M : Nat} (h : Below w.heap.size w wz) (k : Kept (fun q => some q = row ∨ q = M) wz w8) (hr : ∀ q, row = some q → w.heap.size ≤ q) (hM : w.heap.size ≤ M) : Below w.heap.size w w8 :=
  h.trans (k.below h.size fun q hq => by
    rcases hq with hq | hq
    · exact hr q hq.symm
    · omega)
theorem own_same {w w' : World} {S : Nat → Prop} {base n size : Nat} {e : TypeId} {v : Value} {xs : List Value} (h : w.ownsRow base e size v n xs) (kk : Kept S w w') (ht : ∀ q cs, w.heap[q]? = some (.cells cs e (0, 0)) → ¬ S q) : w'.ownsRow base e size v n xs := by
  obtain ⟨h1, h2 | ⟨g, cap, cur, h3, h4, h5, h6⟩⟩ := h
  · exact ⟨h1, .inl h2⟩
  · exact ⟨h1, .inr ⟨g, cap, cur, h3, h4, (kk.block g (Array.getElem?_eq_some_iff.1 h5).1 (ht g cur h5)).trans h5, h6⟩⟩
theorem GrpIn.nocells {w : World} {M n : Nat} {f : Int → List Nat} (h : GrpIn w M n f) {cs : Array Value} {e : TypeId} {fr : Nat × Nat} (hq : w.heap[M]? = some (.cells cs e fr)) : False := by
  obtain ⟨D, ⟨es, clock, hb, _⟩, _⟩ := h
  rw [hb] at hq
  cases hq
theorem infoRace : (Tryd.prog.info? 87).map (fun i => (i.zero, i.size, i.bytes)) = some (some (.agg #[.int .i64 0, .int .i64 0]), 2, 16) := by kernel_rfl
theorem race_kept {wz w3 w10 : World} {o : Obj} {row : Option Nat} (h3 : Below wz.drew.heap.size wz.drew w3) (h10 : (w3.alloc o).grownBy w10 row) : Kept (fun q => some q = row) wz w10 := by
  have h1 : Kept (fun q => some q = row) wz (w3.alloc o) := ((Kept.refl _ wz).drew.trans (Kept.of_below h3)).alloc o
  exact h1.trans ⟨h10.os, h10.tape, h10.output, h10.size, fun q hq hs => h10.block q hq hs⟩
def skipsB (ops : Array Oper) : List Oper → Act → Bool
  | [], _ => true
  | o :: l, a => !Region.wanted o (yielded ops a.tmps) && skipsB ops l (a.put o.dst undef)
def skipsA : List Oper → Act → Act
  | [], a => a
  | o :: l, a => skipsA l (a.put o.dst undef)
theorem wpStill_skips {P : Program} {ops : Array Oper} {w : World} {Q : Act → Prop} : ∀ (l rest : List Oper) (a : Act), skipsB ops l a = true → wpStill P ops w Q rest (skipsA l a) → wpStill P ops w Q (l ++ rest) a
  | [], _, _, _, h => h
  | o :: l, rest, a, hs, h => by
    simp only [skipsB, Bool.and_eq_true, Bool.not_eq_true'] at hs
    show wpStill P ops w Q (o :: (l ++ rest)) a
    unfold wpStill
    rw [if_neg (by rw [hs.1]; simp)]
    exact wpStill_skips l rest _ hs.2 h
theorem wpStill_move_skips {P : Program} {ops : Array Oper} {w : World} {Q : Act → Prop} {a : Act} {op : Oper} {rest : List Oper} (n : Nat) (hw : Region.wanted op (yielded ops a.tmps) = true) (x : Operand) (ho : op.op = .move x) (hs : skipsB ops (rest.take n) (a.put op.dst (a.eval x)) = true)
    (h : wpStill P ops w Q (rest.drop n) (skipsA (rest.take n) (a.put op.dst (a.eval x)))) : wpStill P ops w Q (op :: rest) a := by
  have h2 := wpStill_skips (rest.take n) (rest.drop n) _ hs h
  rw [List.take_append_drop] at h2
  unfold wpStill
  rw [if_pos hw]
  unfold Oper.still execOp
  simp only [ho, Sem.run_pure]
  exact ⟨rfl, h2⟩
theorem find_at {p : Nat → Bool} {a : Nat} : ∀ (l : List Nat) (j : Nat), l[j]? = some a → p a = true → (∀ i b, i < j → l[i]? = some b → p b = false) → l.find? p = some a
  | [], j, h, _, _ => by simp at h
  | x :: l, 0, h, hp, _ => by
    simp only [List.getElem?_cons_zero, Option.some.injEq] at h
    subst h
    simp [hp]
  | x :: l, j + 1, h, hp, hn => by
    have hx : p x = false := hn 0 x (by omega) (by simp)
    rw [List.find?_cons, hx]
    exact find_at l j (by simpa using h) hp fun i b hi hb => hn (i + 1) b (by omega) (by simpa using hb)
theorem find_no {p : Nat → Bool} : ∀ (l : List Nat), (∀ (i b : Nat), l[i]? = some b → p b = false) → l.find? p = none
  | [], _ => rfl
  | x :: l, hn => by
    rw [List.find?_cons, hn 0 x (by simp)]
    exact find_no l fun i b hb => hn (i + 1) b (by simpa using hb)
theorem raceAt_hit {L : List Acc} {k a j : Nat} {x : Acc} (hx : L[k]? = some x) (ht : touchB x = true) (ha : (slotsTo L k x.arg)[j]? = some a) (hh : hitB L a k = true) (hn : ∀ (i b : Nat), i < j → (slotsTo L k x.arg)[i]? = some b → hitB L b k = false) : (raceAt L k).toList = [(a, k)] := by
  unfold raceAt
  rw [accAt_of hx, if_pos ht, find_at _ j ha hh hn]
  rfl
theorem raceAt_no {L : List Acc} {k : Nat} {x : Acc} (hx : L[k]? = some x) (ht : touchB x = true) (hn : ∀ (i b : Nat), (slotsTo L k x.arg)[i]? = some b → hitB L b k = false) : (raceAt L k).toList = [] := by
  unfold raceAt
  rw [accAt_of hx, if_pos ht, find_no _ hn]
  rfl
theorem raceAt_not {L : List Acc} {k : Nat} {x : Acc} (hx : L[k]? = some x) (ht : touchB x = false) : (raceAt L k).toList = [] := by
  unfold raceAt
  rw [accAt_of hx, ht]
  rfl
theorem slotsTo_not {L : List Acc} {k : Nat} {x : Acc} (hx : L[k]? = some x) (ht : touchB x = false) : slotsTo L (k + 1) = slotsTo L k := by
  funext y
  rw [slotsTo_succ, accAt_of hx, ht]
  rfl
theorem slotsTo_put {L : List Acc} {k : Nat} {x : Acc} (hx : L[k]? = some x) (ht : touchB x = true) : (fun y => if y = x.arg then slotsTo L k x.arg ++ [k] else slotsTo L k y) = slotsTo L (k + 1) := by
  funext y
  rw [slotsTo_succ, accAt_of hx, ht]
  by_cases e : y = x.arg
  · subst e
    simp
  · rw [if_neg e, if_neg (by simp only [Bool.true_and, decide_eq_true_eq]; exact fun h => e h.symm)]
theorem RRel.more {L : List Acc} {w0 : World} {M : Nat} {vc o : Value} {wr : World} {k : Nat} {l : List (Nat × Nat)} (hk : k < L.length) (h1 : Below w0.heap.size w0 wr) (h2 : wr.ownsRow (w0.heap.size + 2) 109 64 vc L.length (flat (clocksOf L))) (h3 : GrpIn wr M (k + 1) (slotsTo L (k + 1))) (hl : (raceAt L k).toList = l) (h4 : wr.ownsRow w0.heap.size 87 2 o (racesTo L k ++ l).length (flatR (racesTo L k ++ l))) :
    RRel L w0 M vc (.int .i64 ((k : Int) + 1)) o wr :=
  ⟨k + 1, hk, by rw [Int.natCast_add]; rfl, h1, h2, h3, by rw [racesTo_succ, hl]; exact h4⟩
/-- So many earlier touches do not race. -/
def IRel (L : List Acc) (k : Nat) (zs : List Nat) (w0 : World) (i : Value) (wr : World) : Prop :=
  ∃ j : Nat, j ≤ zs.length ∧ i = .int .i64 j ∧ Below w0.heap.size w0 wr ∧ ∀ (i b : Nat), i < j → zs[i]? = some b → hitB L b k = false
theorem IRel.more {L : List Acc} {k j a : Nat} {zs : List Nat} {w0 wr : World} (ha : zs[j]? = some a) (hb : Below w0.heap.size w0 wr) (hn : ∀ (i b : Nat), i < j → zs[i]? = some b → hitB L b k = false) (hh : hitB L a k = false) : IRel L k zs w0 (.int .i64 ((j : Int) + 1)) wr :=
  ⟨j + 1, (List.getElem?_eq_some_iff.1 ha).1, by rw [Int.natCast_add]; rfl, hb, fun i b hi hb' => by
    by_cases e : i = j
    · rw [e, ha] at hb'
      injection hb' with hb'
      rw [← hb']
      exact hh
    · exact hn i b (by omega) hb'⟩
theorem hit_le {L : List Acc} {a k t : Nat} (ht : thAt L a = t) (h : clkAt L a t ≤ clkAt L k t) : hitB L a k = false := by
  unfold hitB
  rw [ht, decide_eq_true h]
  simp
theorem hit_old {L : List Acc} {a k : Nat} {x xa : Acc} (hx : L[k]? = some x) (hxa : L[a]? = some xa) (h1 : x.new = 0) (h2 : ¬ xa.new = 1) : hitB L a k = false := by
  unfold hitB
  rw [accAt_of hx, accAt_of hxa, decide_eq_false (by omega : ¬ x.new = 1), decide_eq_false h2]
  rfl
theorem hit_yes {L : List Acc} {a k t : Nat} {x xa : Acc} (hx : L[k]? = some x) (hxa : L[a]? = some xa) (h1 : x.new = 1 ∨ xa.new = 1) (ht : thAt L a = t) (h : ¬ clkAt L a t ≤ clkAt L k t) : hitB L a k = true := by
  unfold hitB
  rw [accAt_of hx, accAt_of hxa, ht, decide_eq_false h]
  rcases h1 with h1 | h1 <;> simp [h1]
set_option maxHeartbeats 8000000 in
theorem races_any (b : Option Addr) (cap : Nat) (L : List Acc) (w : World) (h : LogAt w w.heap.size b L) (hl : L.length ≤ 2048) :
    Calls Tryd.prog 34 #[.slice b L.length cap] w (RacesPost L w) := by
  have H := Lib.hid h
  clear h
  cases hm : mayLog L with
  | false =>
    have HM := Lib.hid hm
    clear hm
    go_enter Tryd.func34, Tryd.ntmps34
    go_wp2_with fail
    refine (may_any b cap L _ H.out).mono ?_
    rintro e w1 ⟨rfl, hb⟩
    have HB := Lib.hid hb
    clear hb
    unfold mayAns
    rw [if_neg (by rw [HM.out]; simp)]
    go_wp2_with fail
    exact bodyPost_ret (v := .tuple #[.slice none 0 0, .int .i64 31]) (by simp [results, Tryd.results34, go_sem]) rfl (RacesPost.no HM.out HB.out)
  | true =>
    have HM := Lib.hid hm
    clear hm
    have hmm := @run_makeMap Tryd.prog
    obtain ⟨i0, hi0, hz0, hz1, hz2⟩ := info_parts infoInt
    obtain ⟨j0, hj0, hjz0, hjz1, hjz2⟩ := info_parts infoRace
    go_enter Tryd.func34, Tryd.ntmps34
    go_wp2_with fail
    refine (may_any b cap L _ H.out).mono ?_
    rintro e w1 ⟨rfl, hb⟩
    have HB := Lib.hid hb
    clear hb
    unfold mayAns
    rw [if_pos HM.out]
    go_wp2_with fail
    refine (clocks_any b cap L _ ((H.out.of HB.out).mono HB.out.size) HM.out hl).mono ?_
    rintro e w2 ⟨vc, rfl, hb2, ho2⟩
    have HB2 := Lib.hid (HB.out.trans (hb2.mono HB.out.size))
    have HO2 : Hid (w2.ownsRow (w.heap.size + 2) 109 64 vc L.length (flat (clocksOf L))) := Lib.hid (by
      obtain ⟨h1, h2 | ⟨g, cap, cur, h3, h4, h5⟩⟩ := ho2
      · exact ⟨h1, .inl h2⟩
      · exact ⟨h1, .inr ⟨g, cap, cur, h3, Nat.le_trans (by have := HB.out.size; omega) h4, h5⟩⟩)
    clear hb2 ho2
    go_wp2_with fail
    have hsm : L.length ≤ 9223372036854775807 := by omega
    go_loopw [25, 8] (fun i o wr => RRel L w w2.heap.size vc i o wr) (fun i _ _ => L.length - (intOf i).toNat)
    case atStart => exact ⟨0, Nat.zero_le _, rfl, HB2.out.alloc HB2.out.size _, HO2.out.alloc _, GrpIn.made w2, World.ownsRow_nil _ _ _ _⟩
    case round =>
      obtain ⟨k, hk, rfl, hbel, hvc, hgr, hor⟩ := hrel
      obtain ⟨ov, rfl⟩ : ∃ ov, ov = u8 := ⟨u8, rfl⟩
      have HBE := Lib.hid hbel
      have HVC := Lib.hid hvc
      have HGR := Lib.hid hgr
      have HOR := Lib.hid hor
      clear hbel hvc hgr hor
      by_cases hlt : k < L.length
      · have hx : decide (k < L.length) = true := by simpa using hlt
        obtain ⟨x, hxk⟩ : ∃ x, L[k]? = some x := ⟨L[k], List.getElem?_eq_getElem hlt⟩
        obtain ⟨g, off, hga, hg, hA⟩ := (H.out.of HBE.out).at_ k x hxk
        subst hga
        obtain ⟨g0, g1, g2, g3, g4, g5, g6, g7⟩ := hA
        have HX := Lib.hid hxk
        clear hxk
        by_cases ht : touchB x = true
        · have ht0 := ht
          unfold touchB at ht0
          simp only [Bool.and_eq_true, Bool.or_eq_true, decide_eq_true_eq] at ht0
          obtain ⟨h8, hn⟩ := ht0
          have H8 := Lib.hid h8
          have HN := Lib.hid hn
          have HT := Lib.hid ht
          have HXW : Hid x.wf := Lib.hid (H.out.wf x (List.mem_of_getElem? HX.out))
          clear h8 hn ht
          go_upto_region 10 with (fail)
          obtain ⟨W, hW⟩ : ∃ W, W = wr.alloc (.cells #[.int .i64 x.th, .int .i8 x.op, .int .i64 x.cell, .int .i64 x.arg, .int .i64 x.new, .int .i64 x.was, .int .i64 x.now, .bool x.ok] 71) := ⟨_, rfl⟩
          rw [← hW]
          have BW : Below wr.heap.size wr W := by rw [hW]; exact (Below.refl _ wr).alloc (Nat.le_refl _) _
          have BX : Blk W wr.heap.size 71 #[.int .i64 x.th, .int .i8 x.op, .int .i64 x.cell, .int .i64 x.arg, .int .i64 x.new, .int .i64 x.was, .int .i64 x.now, .bool x.ok] := by rw [hW]; exact Blk.new _ _ _
          have p1 : W.cell? ⟨wr.heap.size, 1, none⟩ = some (.int .i8 8) := by rw [BX.cell 1, ← H8.out]; rfl
          have p3 : W.cell? ⟨wr.heap.size, 3, none⟩ = some (.int .i64 x.arg) := BX.cell 3
          have p4 : W.cell? ⟨wr.heap.size, 4, none⟩ = some (.int .i64 x.new) := BX.cell 4
          have HBX := Lib.hid BX
          have HBW : Hid (Below w.heap.size w W) := Lib.hid (HBE.out.trans (BW.mono HBE.out.size))
          have HVW : Hid (W.ownsRow (w.heap.size + 2) 109 64 vc L.length (flat (clocksOf L))) := Lib.hid (own_kept HVC.out (Kept.of_below (S := fun _ => False) BW) (fun _ _ h => h))
          have HOW : Hid (W.ownsRow w.heap.size 87 2 ov (racesTo L k).length (flatR (racesTo L k))) := Lib.hid (own_kept HOR.out (Kept.of_below (S := fun _ => False) BW) (fun _ _ h => h))
          have HGW : Hid (GrpIn W w2.heap.size k (slotsTo L k)) := Lib.hid (HGR.out.kept (Kept.of_below (S := fun _ => False) BW) id (fun _ _ _ _ h => h))
          clear hW BW BX g0 g1 g2 g3 g4 g5 g6 g7
          obtain ⟨v, hlook, hrow, hlen, _⟩ := HGW.out.look (by unfold maxLen; omega) x.arg HXW.out.2.2.2.1
          obtain ⟨za, zc, rfl, hz⟩ := row_form hrow
          have HZ := Lib.hid hz
          have HLEN := Lib.hid (slotsTo_len L k x.arg)
          clear hrow hz
          obtain ⟨O, cap2, rfl, _, _⟩ := HVW.out.form (by omega)
          rcases HN.out with hn | hn
          · rw [hn] at p4
            have HNW := Lib.hid hn
            clear hn
            go_wp2_with fail
            have hsm2 : (slotsTo L k x.arg).length ≤ 9223372036854775807 := by have := HLEN.out; omega
            go_loopw [48, 8] (fun i o wr => IRel L k (slotsTo L k x.arg) W i wr ∧ ov = o) (fun i _ _ => (slotsTo L k x.arg).length - (intOf i).toNat)
            case atStart => exact ⟨⟨0, Nat.zero_le _, rfl, Below.refl _ _, fun i b hi => by omega⟩, rfl⟩
            case round =>
              obtain ⟨⟨j, hj, rfl, hbz, hno⟩, rfl⟩ := hrel
              have HBZ := Lib.hid hbz
              have HNO := Lib.hid hno
              clear hbz hno hlook
              rename World => wz
              by_cases hjl : j < (slotsTo L k x.arg).length
              · have hjx : decide (j < (slotsTo L k x.arg).length) = true := by simpa using hjl
                obtain ⟨a, haj⟩ : ∃ a, (slotsTo L k x.arg)[j]? = some a := ⟨_, List.getElem?_eq_getElem hjl⟩
                have hak : a < k := slotsTo_lt (List.mem_of_getElem? haj)
                have haL : a < L.length := by omega
                obtain ⟨zg, hzg, hzl, hzc⟩ := HZ.out j (.int .i64 (a : Nat)) (by rw [List.getElem?_map, haj]; rfl)
                subst hzg
                have r0 : wz.cell? ⟨zg, j, none⟩ = some (.int .i64 (a : Nat)) := (HBZ.out.cell (p := ⟨zg, j, none⟩) hzl).trans hzc
                have r4 : wz.cell? ⟨wr.heap.size, 4, none⟩ = some (.int .i64 0) := (HBZ.out.cell (p := ⟨wr.heap.size, 4, none⟩) HBX.out.lt).trans p4
                obtain ⟨xa, hxa⟩ : ∃ xa, L[a]? = some xa := ⟨L[a]'(by omega), List.getElem?_eq_getElem (by omega)⟩
                have HBY : Hid (Below w.heap.size w wz) := Lib.hid (HBW.out.trans (HBZ.out.mono HBW.out.size))
                obtain ⟨ga, offa, hga, _, hA⟩ := (H.out.of HBY.out).at_ a xa hxa
                injection hga with hga
                injection hga with hg1 hg2
                subst hg1 hg2
                obtain ⟨t, ht, ht64, hth⟩ := th_lt HM.out hxa
                have s0 := hA.1
                have s4 := hA.2.2.2.2.1
                rw [ht] at s0
                have R1 := Lib.hid (own_range (own_kept HVW.out (Kept.of_below (S := fun _ => False) HBZ.out) (fun _ _ h => h)) (clocksOf_len L) (clkAt_of (i := a) (by omega)))
                have R2 := Lib.hid (own_range (own_kept HVW.out (Kept.of_below (S := fun _ => False) HBZ.out) (fun _ _ h => h)) (clocksOf_len L) (clkAt_of (i := k) (by omega)))
                have hi1 : Hid ((Tryd.prog.info? 109).map (·.size) = some (clkL (clkAt L a)).length) := Lib.hid (by rw [clkL_len]; exact info109)
                have hi2 : Hid ((Tryd.prog.info? 109).map (·.size) = some (clkL (clkAt L k)).length) := Lib.hid (by rw [clkL_len]; exact info109)
                have HTH := Lib.hid hth
                have HXA := Lib.hid hxa
                have HAJ := Lib.hid haj
                clear hA ht hth hxa haj hzc
                by_cases hxn : xa.new = 1
                · rw [hxn] at s4
                  have HXN := Lib.hid hxn
                  clear hxn
                  by_cases hle : clkAt L a t ≤ clkAt L k t
                  · have HLE := Lib.hid hle
                    clear hle
                    go_upto_region 14 with (fail)
                    refine wp_region_still_tail 25 (by kernel_rfl) (by kernel_rfl) ?_
                    simp only [List.take_succ_cons, List.take_zero, List.drop_succ_cons, List.drop_zero]
                    iterate 20 still_step
                    refine wpStill_load_mid' rfl _ _ rfl O (a * 64) rfl (clkL (clkAt L a)) _ R1.out Tryd.underlying109 rfl hi1.out ?_
                    iterate 3 still_step
                    refine wpStill_load_mid' rfl _ _ rfl O (k * 64) rfl (clkL (clkAt L k)) _ R2.out Tryd.underlying109 rfl hi2.out ?_
                    refine wpStill_nil ?_
                    change wpList _ _ _ _ _ wz.drew
                    go_wp2_with (go_at_call 65; refine (ahead_any t ht64 _ _ _).mono ?_; rintro e w3 ⟨he, hb3⟩; rw [decide_eq_true HLE.out] at he; subst he; have HB3 := Lib.hid hb3; clear hb3)
                    exact ⟨⟨IRel.more HAJ.out (HBZ.out.drew.trans (HB3.out.mono HBZ.out.size)) HNO.out (hit_le HTH.out HLE.out), rfl⟩, by simp [intOf]; omega⟩
                  · have HLE := Lib.hid hle
                    clear hle
                    go_upto_region 14 with (fail)
                    refine wp_region_still_tail 25 (by kernel_rfl) (by kernel_rfl) ?_
                    simp only [List.take_succ_cons, List.take_zero, List.drop_succ_cons, List.drop_zero]
                    iterate 20 still_step
                    refine wpStill_load_mid' rfl _ _ rfl O (a * 64) rfl (clkL (clkAt L a)) _ R1.out Tryd.underlying109 rfl hi1.out ?_
                    iterate 3 still_step
                    refine wpStill_load_mid' rfl _ _ rfl O (k * 64) rfl (clkL (clkAt L k)) _ R2.out Tryd.underlying109 rfl hi2.out ?_
                    refine wpStill_nil ?_
                    change wpList _ _ _ _ _ wz.drew
                    have HOZ0 : Hid (wz.ownsRow w.heap.size 87 2 ov (racesTo L k).length (flatR (racesTo L k))) := Lib.hid (own_kept HOW.out (Kept.of_below (S := fun _ => False) HBZ.out) (fun _ _ h => h))
                    have HNB : Hid (¬ some wr.heap.size = ov.ownBlock) := Lib.hid (fun e => by
                      obtain ⟨_, cs', h1⟩ := own_blk HOZ0.out e.symm
                      have h2 := HBX.out.below HBZ.out HBX.out.lt
                      rw [h2] at h1
                      injection h1 with h1
                      injection h1 with _ h1
                      exact absurd h1 (by decide))
                    have HNI : Hid (∀ q cs fr, wz.heap[q]? = some (.cells cs 3 fr) → ¬ some q = ov.ownBlock) := Lib.hid (fun q cs fr hq e => by
                      obtain ⟨_, cs', h1⟩ := own_blk HOZ0.out e.symm
                      rw [h1] at hq
                      injection hq with hq
                      injection hq with _ hq
                      exact absurd hq (by decide))
                    have HNM : Hid (¬ some w2.heap.size = ov.ownBlock) := Lib.hid (fun e => by
                      obtain ⟨_, cs', h1⟩ := own_blk HOZ0.out e.symm
                      exact (HGW.out.kept (Kept.of_below (S := fun _ => False) HBZ.out) id (fun _ _ _ _ h => h)).nocells h1)
                    have HRL : Hid ((racesTo L k).length ≤ 2048) := Lib.hid (by have := racesTo_len L k; omega)
                    go_upto_region 17 with (first
                      | (go_at_call 65; refine (ahead_any t ht64 _ _ _).mono ?_; rintro e w3 ⟨he, hb3⟩; rw [decide_eq_false HLE.out] at he; subst he; have HB3 := Lib.hid hb3; have HO3 : Hid (w3.ownsRow w.heap.size 87 2 ov (racesTo L k).length (flatR (racesTo L k))) := Lib.hid (own_kept (World.ownsRow.drew HOZ0.out) (Kept.of_below (S := fun _ => False) hb3) (fun _ _ h => h)); clear hb3)
                      | (at_builtin; refine wpList_append_own _ rfl _ _ 79 rfl w.heap.size 87 j0 _ 2 16 Tryd.underlying79 hj0 hjz0 hjz1 hjz2 rfl (by decide) ov (racesTo L k).length (flatR (racesTo L k)) rfl (HO3.out.alloc _) ⟨w3.heap.size, 0, none⟩ 1 1 [.int .i64 (a : Nat), .int .i64 (k : Nat)] rfl rfl (World.news_of_block (heap_alloc_new w3 _)) (by simp [Value.oneCell']) (by have := HRL.out; unfold maxLen; omega) (by have := HRL.out; omega) (by have h1 := HB3.out.size; have h2 := HBZ.out.size; have h3 := HBW.out.size; simp; simp at h1; omega) ?_; intro v10 w10 hown10 hgrow10 _; have HO10 := Lib.hid hown10; have HKR : Hid (Kept (fun q => some q = ov.ownBlock) wz w10) := Lib.hid (race_kept HB3.out hgrow10); clear hown10 hgrow10))
                    have HBXZ := Lib.hid (HKR.out.blk (HBX.out.below HBZ.out HBX.out.lt) HNB.out)
                    have HBEZ : Hid (Below w.heap.size w w10) := Lib.hid ((HBW.out.trans (HBZ.out.mono HBW.out.size)).trans (HKR.out.below (Nat.le_trans HBW.out.size HBZ.out.size) (fun q hq => (own_blk HOZ0.out hq.symm).1)))
                    have HRA := Lib.hid (raceAt_hit HX.out HT.out HAJ.out (hit_yes HX.out HXA.out (.inr HXN.out) HTH.out (by have := HLE.out; omega)) HNO.out)
                    have HGZ : Hid (GrpIn w10.drew w2.heap.size k (slotsTo L k)) := Lib.hid ((HGW.out.kept (Kept.of_below (S := fun _ => False) HBZ.out) id (fun _ _ _ _ h => h)).kept HKR.out.drew HNM.out HNI.out)
                    have HVZ : Hid (w10.ownsRow (w.heap.size + 2) 109 64 (.slice (some ⟨O, 0, none⟩) L.length cap2) L.length (flat (clocksOf L))) := Lib.hid (own_same (own_kept HVW.out (Kept.of_below (S := fun _ => False) HBZ.out) (fun _ _ h => h)) HKR.out (fun q cs hq hs => by
                      obtain ⟨_, cs', h1⟩ := own_blk HOZ0.out hs.symm
                      rw [h1] at hq
                      injection hq with hq
                      injection hq with _ hq
                      exact absurd hq (by decide)))
                    have HOZ : Hid (w10.ownsRow w.heap.size 87 2 v10 (racesTo L k ++ [(a, k)]).length (flatR (racesTo L k ++ [(a, k)]))) := Lib.hid (by rw [flatR_snoc, List.length_append]; exact HO10.out)
                    have q3 : w10.cell? ⟨wr.heap.size, 3, none⟩ = some (.int .i64 x.arg) := HBXZ.out.cell 3
                    obtain ⟨v2, hlook, hrow, hlen, hback⟩ := HGZ.out.look (by unfold maxLen; omega) x.arg HXW.out.2.2.2.1
                    have hob : ∀ q, v2.ownBlock = some q → w2.heap.size + 1 ≤ q ∧ ∃ cs, w10.heap[q]? = some (.cells cs 3 (0, 0)) := fun q hq => own_blk hrow hq
                    have hne1 : v2.ownBlock ≠ some wr.heap.size := fun e => by
                      obtain ⟨_, cs, h1⟩ := hob _ e
                      have h2 := HBXZ.out
                      rw [h2] at h1
                      injection h1 with h1
                      injection h1 with _ h1
                      exact absurd h1 (by decide)
                    have hne2 : v2.ownBlock ≠ some w2.heap.size := fun e => by have := (hob _ e).1; omega
                    have hms : w2.heap.size < w10.heap.size := HGZ.out.lt
                    have HN3 : Hid (wr.heap.size ≠ w2.heap.size) := Lib.hid (by have h1 := HGR.out.lt; omega)
                    have HRO := Lib.hid hrow
                    have HBK := Lib.hid hback
                    have HOB := Lib.hid hob
                    have HXL : Hid (wr.heap.size < w10.heap.size) := Lib.hid HBXZ.out.lt
                    have HSM := Lib.hid (fun (w' : World) (h : w'.heap[w2.heap.size]? = w10.drew.heap[w2.heap.size]?) => HGZ.out.same x.arg HXW.out.2.2.2.1 h hlook)
                    have HMK : Hid ((slotsTo L k x.arg).length ≤ 2048) := Lib.hid (by have := HLEN.out; omega)
                    clear hlook hrow hback hlen hob
                    have hlk1 := HSM.out w10.drew rfl
                    have hlk2 := HSM.out (w10.alloc (.cells #[.int .i64 (k : Nat)] 3)).drew (((((Below.refl _ w10).alloc (Nat.le_refl _) _).drew).block _ hms))
                    go_region_held3 (fun w' => w'.cell? ⟨wr.heap.size, 3, none⟩ = some (.int .i64 x.arg))
                      (first
                        | exact q3
                        | exact ((((Below.refl _ w10).alloc (Nat.le_refl _) _).drew).cell (p := ⟨wr.heap.size, 3, none⟩) HXL.out).trans q3
                        | exact held_cell HG7.out HXL.out hne1 q3
                        | exact (World.cell?_of_block (HW8.out.block _ (Nat.lt_of_lt_of_le HXL.out (Nat.le_trans (by simp) HG7.out.size)) (fun e => HN3.out (Option.some.inj e)))).trans (held_cell HG7.out HXL.out hne1 q3))
                      (first
                        | (refine step_append_lies _ (by rfl) _ _ _ (by rfl) (w2.heap.size + 1) 3 i0 _ 1 8 Tryd.underlying27 hi0 hz0 hz1 hz2 rfl (by omega) v2 (slotsTo L k x.arg).length ((slotsTo L k x.arg).map fun i => .int .i64 (i : Nat)) (by rfl) ((HRO.out.alloc _).drew) ⟨w10.heap.size, 0, none⟩ 1 1 [.int .i64 (k : Nat)] (by rfl) (by rfl) (World.news_of_block (cs := #[.int .i64 (k : Nat)]) (t := 3) (fr := (0, 0)) (heap_alloc_new w10 _)) (by simp [Value.oneCell']) (by omega) (by have := HMK.out; unfold maxLen; omega) (by have := HMK.out; omega) (by simp; omega) (w10.heap.size + 1) (by simp) ?_; intro gg cap7 w7 hown7 hgrow7 hat7 hlt7; obtain ⟨w8, hrun8, hg8, hgrow8⟩ := HBK.out w7 _ k ((World.grownBy_alloc w10.drew _ _).trans hgrow7) (by omega) hown7 (hat7.imp (fun h => h.symm) (fun h => .inr (by rw [h]; rfl))); have HG7 := Lib.hid hgrow7; have HG8 := Lib.hid hg8; have HW8 := Lib.hid hgrow8; clear hown7 hgrow7 hat7 hlt7 hg8 hgrow8))
                    all_goals
                      go_wp2_with fail
                      have KK := kept_group HG7.out HW8.out
                      refine ⟨RRel.more hlt (below_group HBEZ.out KK (fun q hq => by have := (HOB.out q hq).1; have := HB2.out.size; omega) HB2.out.size) (own_same HVZ.out KK (fun q cs hq hs => ?_)) (by rw [← slotsTo_put HX.out HT.out]; exact HG8.out) HRA.out (own_same HOZ.out KK (fun q cs hq hs => ?_)), by simp [intOf]; omega⟩
                      all_goals
                        rcases hs with hs | hs
                        · obtain ⟨_, cs', h1⟩ := HOB.out q hs.symm
                          rw [h1] at hq
                          injection hq with hq
                          injection hq with _ hq
                          exact absurd hq (by decide)
                        · subst hs
                          exact HGZ.out.nocells hq
                · go_upto_region 14 with (fail)
                  go_quiet (fail)
                  go_wp2_with fail
                  exact ⟨⟨IRel.more HAJ.out ⟨HBZ.out.os, HBZ.out.tape, HBZ.out.output, HBZ.out.size, HBZ.out.block⟩ HNO.out (hit_old HX.out HXA.out HNW.out hxn), rfl⟩, by simp [intOf]; omega⟩
              · have hjx : decide (j < (slotsTo L k x.arg).length) = false := by simpa using hjl
                go_upto_region 17 with (fail)
                have HBXZ := Lib.hid (HBX.out.below HBZ.out HBX.out.lt)
                have HBEZ : Hid (Below w.heap.size w wz) := Lib.hid (HBW.out.trans (HBZ.out.mono HBW.out.size))
                have HRA := Lib.hid (raceAt_no HX.out HT.out (fun i b hb => HNO.out i b (by have h1 := (List.getElem?_eq_some_iff.1 hb).1; omega) hb))
                have HGZ : Hid (GrpIn wz.drew w2.heap.size k (slotsTo L k)) := Lib.hid (HGW.out.kept (Kept.of_below (S := fun _ => False) HBZ.out).drew id (fun _ _ _ _ h => h))
                have HVZ : Hid (wz.ownsRow (w.heap.size + 2) 109 64 (.slice (some ⟨O, 0, none⟩) L.length cap2) L.length (flat (clocksOf L))) := Lib.hid (own_kept HVW.out (Kept.of_below (S := fun _ => False) HBZ.out) (fun _ _ h => h))
                have HOZ : Hid (wz.ownsRow w.heap.size 87 2 ov (racesTo L k ++ []).length (flatR (racesTo L k ++ []))) := Lib.hid (by rw [List.append_nil]; exact own_kept HOW.out (Kept.of_below (S := fun _ => False) HBZ.out) (fun _ _ h => h))
                have q3 : wz.cell? ⟨wr.heap.size, 3, none⟩ = some (.int .i64 x.arg) := (HBZ.out.cell (p := ⟨wr.heap.size, 3, none⟩) HBX.out.lt).trans p3
                obtain ⟨v2, hlook, hrow, hlen, hback⟩ := HGZ.out.look (by unfold maxLen; omega) x.arg HXW.out.2.2.2.1
                have hob : ∀ q, v2.ownBlock = some q → w2.heap.size + 1 ≤ q ∧ ∃ cs, wz.heap[q]? = some (.cells cs 3 (0, 0)) := fun q hq => own_blk hrow hq
                have hne1 : v2.ownBlock ≠ some wr.heap.size := fun e => by
                  obtain ⟨_, cs, h1⟩ := hob _ e
                  have h2 := HBXZ.out
                  rw [h2] at h1
                  injection h1 with h1
                  injection h1 with _ h1
                  exact absurd h1 (by decide)
                have hne2 : v2.ownBlock ≠ some w2.heap.size := fun e => by have := (hob _ e).1; omega
                have hms : w2.heap.size < wz.heap.size := HGZ.out.lt
                have HN3 : Hid (wr.heap.size ≠ w2.heap.size) := Lib.hid (by have h1 := HGR.out.lt; omega)
                have HRO := Lib.hid hrow
                have HBK := Lib.hid hback
                have HOB := Lib.hid hob
                have HXL : Hid (wr.heap.size < wz.heap.size) := Lib.hid HBXZ.out.lt
                have HSM := Lib.hid (fun (w' : World) (h : w'.heap[w2.heap.size]? = wz.drew.heap[w2.heap.size]?) => HGZ.out.same x.arg HXW.out.2.2.2.1 h hlook)
                have HMK : Hid ((slotsTo L k x.arg).length ≤ 2048) := Lib.hid (by have := HLEN.out; omega)
                clear hlook hrow hback hlen hob
                have hlk1 := HSM.out wz.drew rfl
                have hlk2 := HSM.out (wz.alloc (.cells #[.int .i64 (k : Nat)] 3)).drew (((((Below.refl _ wz).alloc (Nat.le_refl _) _).drew).block _ hms))
                go_region_held3 (fun w' => w'.cell? ⟨wr.heap.size, 3, none⟩ = some (.int .i64 x.arg))
                  (first
                    | exact q3
                    | exact ((((Below.refl _ wz).alloc (Nat.le_refl _) _).drew).cell (p := ⟨wr.heap.size, 3, none⟩) HXL.out).trans q3
                    | exact held_cell HG7.out HXL.out hne1 q3
                    | exact (World.cell?_of_block (HW8.out.block _ (Nat.lt_of_lt_of_le HXL.out (Nat.le_trans (by simp) HG7.out.size)) (fun e => HN3.out (Option.some.inj e)))).trans (held_cell HG7.out HXL.out hne1 q3))
                  (first
                    | (refine step_append_lies _ (by rfl) _ _ _ (by rfl) (w2.heap.size + 1) 3 i0 _ 1 8 Tryd.underlying27 hi0 hz0 hz1 hz2 rfl (by omega) v2 (slotsTo L k x.arg).length ((slotsTo L k x.arg).map fun i => .int .i64 (i : Nat)) (by rfl) ((HRO.out.alloc _).drew) ⟨wz.heap.size, 0, none⟩ 1 1 [.int .i64 (k : Nat)] (by rfl) (by rfl) (World.news_of_block (cs := #[.int .i64 (k : Nat)]) (t := 3) (fr := (0, 0)) (heap_alloc_new wz _)) (by simp [Value.oneCell']) (by omega) (by have := HMK.out; unfold maxLen; omega) (by have := HMK.out; omega) (by simp; omega) (wz.heap.size + 1) (by simp) ?_; intro gg cap7 w7 hown7 hgrow7 hat7 hlt7; obtain ⟨w8, hrun8, hg8, hgrow8⟩ := HBK.out w7 _ k ((World.grownBy_alloc wz.drew _ _).trans hgrow7) (by omega) hown7 (hat7.imp (fun h => h.symm) (fun h => .inr (by rw [h]; rfl))); have HG7 := Lib.hid hgrow7; have HG8 := Lib.hid hg8; have HW8 := Lib.hid hgrow8; clear hown7 hgrow7 hat7 hlt7 hg8 hgrow8))
                all_goals
                  go_wp2_with fail
                  have KK := kept_group HG7.out HW8.out
                  refine ⟨RRel.more hlt (below_group HBEZ.out KK (fun q hq => by have := (HOB.out q hq).1; have := HB2.out.size; omega) HB2.out.size) (own_same HVZ.out KK (fun q cs hq hs => ?_)) (by rw [← slotsTo_put HX.out HT.out]; exact HG8.out) HRA.out (own_same HOZ.out KK (fun q cs hq hs => ?_)), by simp [intOf]; omega⟩
                  all_goals
                    rcases hs with hs | hs
                    · obtain ⟨_, cs', h1⟩ := HOB.out q hs.symm
                      rw [h1] at hq
                      injection hq with hq
                      injection hq with _ hq
                      exact absurd hq (by decide)
                    · subst hs
                      exact HGZ.out.nocells hq
          · rw [hn] at p4
            have HNW := Lib.hid hn
            clear hn
            go_wp2_with fail
            have hsm2 : (slotsTo L k x.arg).length ≤ 9223372036854775807 := by have := HLEN.out; omega
            go_loopw [48, 8] (fun i o wr => IRel L k (slotsTo L k x.arg) W i wr ∧ ov = o) (fun i _ _ => (slotsTo L k x.arg).length - (intOf i).toNat)
            case atStart => exact ⟨⟨0, Nat.zero_le _, rfl, Below.refl _ _, fun i b hi => by omega⟩, rfl⟩
            case round =>
              obtain ⟨⟨j, hj, rfl, hbz, hno⟩, rfl⟩ := hrel
              have HBZ := Lib.hid hbz
              have HNO := Lib.hid hno
              clear hbz hno hlook
              rename World => wz
              by_cases hjl : j < (slotsTo L k x.arg).length
              · have hjx : decide (j < (slotsTo L k x.arg).length) = true := by simpa using hjl
                obtain ⟨a, haj⟩ : ∃ a, (slotsTo L k x.arg)[j]? = some a := ⟨_, List.getElem?_eq_getElem hjl⟩
                have hak : a < k := slotsTo_lt (List.mem_of_getElem? haj)
                have haL : a < L.length := by omega
                obtain ⟨zg, hzg, hzl, hzc⟩ := HZ.out j (.int .i64 (a : Nat)) (by rw [List.getElem?_map, haj]; rfl)
                subst hzg
                have r0 : wz.cell? ⟨zg, j, none⟩ = some (.int .i64 (a : Nat)) := (HBZ.out.cell (p := ⟨zg, j, none⟩) hzl).trans hzc
                have r4 : wz.cell? ⟨wr.heap.size, 4, none⟩ = some (.int .i64 1) := (HBZ.out.cell (p := ⟨wr.heap.size, 4, none⟩) HBX.out.lt).trans p4
                obtain ⟨xa, hxa⟩ : ∃ xa, L[a]? = some xa := ⟨L[a]'(by omega), List.getElem?_eq_getElem (by omega)⟩
                have HBY : Hid (Below w.heap.size w wz) := Lib.hid (HBW.out.trans (HBZ.out.mono HBW.out.size))
                obtain ⟨ga, offa, hga, _, hA⟩ := (H.out.of HBY.out).at_ a xa hxa
                injection hga with hga
                injection hga with hg1 hg2
                subst hg1 hg2
                obtain ⟨t, ht, ht64, hth⟩ := th_lt HM.out hxa
                have s0 := hA.1
                have s4 := hA.2.2.2.2.1
                rw [ht] at s0
                have R1 := Lib.hid (own_range (own_kept HVW.out (Kept.of_below (S := fun _ => False) HBZ.out) (fun _ _ h => h)) (clocksOf_len L) (clkAt_of (i := a) (by omega)))
                have R2 := Lib.hid (own_range (own_kept HVW.out (Kept.of_below (S := fun _ => False) HBZ.out) (fun _ _ h => h)) (clocksOf_len L) (clkAt_of (i := k) (by omega)))
                have hi1 : Hid ((Tryd.prog.info? 109).map (·.size) = some (clkL (clkAt L a)).length) := Lib.hid (by rw [clkL_len]; exact info109)
                have hi2 : Hid ((Tryd.prog.info? 109).map (·.size) = some (clkL (clkAt L k)).length) := Lib.hid (by rw [clkL_len]; exact info109)
                have HTH := Lib.hid hth
                have HXA := Lib.hid hxa
                have HAJ := Lib.hid haj
                clear hA ht hth hxa haj hzc
                by_cases hle : clkAt L a t ≤ clkAt L k t
                · have HLE := Lib.hid hle
                  clear hle
                  go_upto_region 14 with (fail)
                  refine wp_region_still_tail 25 (by kernel_rfl) (by kernel_rfl) ?_
                  simp only [List.take_succ_cons, List.take_zero, List.drop_succ_cons, List.drop_zero]
                  iterate 3 still_step
                  refine wpStill_move_skips 6 rfl _ rfl (by kernel_rfl) ?_
                  simp only [List.take_succ_cons, List.take_zero, List.drop_succ_cons, List.drop_zero, skipsA]
                  go_simp
                  iterate 10 still_step
                  refine wpStill_load_mid' rfl _ _ rfl O (a * 64) rfl (clkL (clkAt L a)) _ R1.out Tryd.underlying109 rfl hi1.out ?_
                  iterate 3 still_step
                  refine wpStill_load_mid' rfl _ _ rfl O (k * 64) rfl (clkL (clkAt L k)) _ R2.out Tryd.underlying109 rfl hi2.out ?_
                  refine wpStill_nil ?_
                  change wpList _ _ _ _ _ wz.drew
                  go_wp2_with (go_at_call 65; refine (ahead_any t ht64 _ _ _).mono ?_; rintro e w3 ⟨he, hb3⟩; rw [decide_eq_true HLE.out] at he; subst he; have HB3 := Lib.hid hb3; clear hb3)
                  exact ⟨⟨IRel.more HAJ.out (HBZ.out.drew.trans (HB3.out.mono HBZ.out.size)) HNO.out (hit_le HTH.out HLE.out), rfl⟩, by simp [intOf]; omega⟩
                · have HLE := Lib.hid hle
                  clear hle
                  go_upto_region 14 with (fail)
                  refine wp_region_still_tail 25 (by kernel_rfl) (by kernel_rfl) ?_
                  simp only [List.take_succ_cons, List.take_zero, List.drop_succ_cons, List.drop_zero]
                  iterate 3 still_step
                  refine wpStill_move_skips 6 rfl _ rfl (by kernel_rfl) ?_
                  simp only [List.take_succ_cons, List.take_zero, List.drop_succ_cons, List.drop_zero, skipsA]
                  go_simp
                  iterate 10 still_step
                  refine wpStill_load_mid' rfl _ _ rfl O (a * 64) rfl (clkL (clkAt L a)) _ R1.out Tryd.underlying109 rfl hi1.out ?_
                  iterate 3 still_step
                  refine wpStill_load_mid' rfl _ _ rfl O (k * 64) rfl (clkL (clkAt L k)) _ R2.out Tryd.underlying109 rfl hi2.out ?_
                  refine wpStill_nil ?_
                  change wpList _ _ _ _ _ wz.drew
                  have HOZ0 : Hid (wz.ownsRow w.heap.size 87 2 ov (racesTo L k).length (flatR (racesTo L k))) := Lib.hid (own_kept HOW.out (Kept.of_below (S := fun _ => False) HBZ.out) (fun _ _ h => h))
                  have HNB : Hid (¬ some wr.heap.size = ov.ownBlock) := Lib.hid (fun e => by
                    obtain ⟨_, cs', h1⟩ := own_blk HOZ0.out e.symm
                    have h2 := HBX.out.below HBZ.out HBX.out.lt
                    rw [h2] at h1
                    injection h1 with h1
                    injection h1 with _ h1
                    exact absurd h1 (by decide))
                  have HNI : Hid (∀ q cs fr, wz.heap[q]? = some (.cells cs 3 fr) → ¬ some q = ov.ownBlock) := Lib.hid (fun q cs fr hq e => by
                    obtain ⟨_, cs', h1⟩ := own_blk HOZ0.out e.symm
                    rw [h1] at hq
                    injection hq with hq
                    injection hq with _ hq
                    exact absurd hq (by decide))
                  have HNM : Hid (¬ some w2.heap.size = ov.ownBlock) := Lib.hid (fun e => by
                    obtain ⟨_, cs', h1⟩ := own_blk HOZ0.out e.symm
                    exact (HGW.out.kept (Kept.of_below (S := fun _ => False) HBZ.out) id (fun _ _ _ _ h => h)).nocells h1)
                  have HRL : Hid ((racesTo L k).length ≤ 2048) := Lib.hid (by have := racesTo_len L k; omega)
                  go_upto_region 17 with (first
                    | (go_at_call 65; refine (ahead_any t ht64 _ _ _).mono ?_; rintro e w3 ⟨he, hb3⟩; rw [decide_eq_false HLE.out] at he; subst he; have HB3 := Lib.hid hb3; have HO3 : Hid (w3.ownsRow w.heap.size 87 2 ov (racesTo L k).length (flatR (racesTo L k))) := Lib.hid (own_kept (World.ownsRow.drew HOZ0.out) (Kept.of_below (S := fun _ => False) hb3) (fun _ _ h => h)); clear hb3)
                    | (at_builtin; refine wpList_append_own _ rfl _ _ 79 rfl w.heap.size 87 j0 _ 2 16 Tryd.underlying79 hj0 hjz0 hjz1 hjz2 rfl (by decide) ov (racesTo L k).length (flatR (racesTo L k)) rfl (HO3.out.alloc _) ⟨w3.heap.size, 0, none⟩ 1 1 [.int .i64 (a : Nat), .int .i64 (k : Nat)] rfl rfl (World.news_of_block (heap_alloc_new w3 _)) (by simp [Value.oneCell']) (by have := HRL.out; unfold maxLen; omega) (by have := HRL.out; omega) (by have h1 := HB3.out.size; have h2 := HBZ.out.size; have h3 := HBW.out.size; simp; simp at h1; omega) ?_; intro v10 w10 hown10 hgrow10 _; have HO10 := Lib.hid hown10; have HKR : Hid (Kept (fun q => some q = ov.ownBlock) wz w10) := Lib.hid (race_kept HB3.out hgrow10); clear hown10 hgrow10))
                  have HBXZ := Lib.hid (HKR.out.blk (HBX.out.below HBZ.out HBX.out.lt) HNB.out)
                  have HBEZ : Hid (Below w.heap.size w w10) := Lib.hid ((HBW.out.trans (HBZ.out.mono HBW.out.size)).trans (HKR.out.below (Nat.le_trans HBW.out.size HBZ.out.size) (fun q hq => (own_blk HOZ0.out hq.symm).1)))
                  have HRA := Lib.hid (raceAt_hit HX.out HT.out HAJ.out (hit_yes HX.out HXA.out (.inl HNW.out) HTH.out (by have := HLE.out; omega)) HNO.out)
                  have HGZ : Hid (GrpIn w10.drew w2.heap.size k (slotsTo L k)) := Lib.hid ((HGW.out.kept (Kept.of_below (S := fun _ => False) HBZ.out) id (fun _ _ _ _ h => h)).kept HKR.out.drew HNM.out HNI.out)
                  have HVZ : Hid (w10.ownsRow (w.heap.size + 2) 109 64 (.slice (some ⟨O, 0, none⟩) L.length cap2) L.length (flat (clocksOf L))) := Lib.hid (own_same (own_kept HVW.out (Kept.of_below (S := fun _ => False) HBZ.out) (fun _ _ h => h)) HKR.out (fun q cs hq hs => by
                    obtain ⟨_, cs', h1⟩ := own_blk HOZ0.out hs.symm
                    rw [h1] at hq
                    injection hq with hq
                    injection hq with _ hq
                    exact absurd hq (by decide)))
                  have HOZ : Hid (w10.ownsRow w.heap.size 87 2 v10 (racesTo L k ++ [(a, k)]).length (flatR (racesTo L k ++ [(a, k)]))) := Lib.hid (by rw [flatR_snoc, List.length_append]; exact HO10.out)
                  have q3 : w10.cell? ⟨wr.heap.size, 3, none⟩ = some (.int .i64 x.arg) := HBXZ.out.cell 3
                  obtain ⟨v2, hlook, hrow, hlen, hback⟩ := HGZ.out.look (by unfold maxLen; omega) x.arg HXW.out.2.2.2.1
                  have hob : ∀ q, v2.ownBlock = some q → w2.heap.size + 1 ≤ q ∧ ∃ cs, w10.heap[q]? = some (.cells cs 3 (0, 0)) := fun q hq => own_blk hrow hq
                  have hne1 : v2.ownBlock ≠ some wr.heap.size := fun e => by
                    obtain ⟨_, cs, h1⟩ := hob _ e
                    have h2 := HBXZ.out
                    rw [h2] at h1
                    injection h1 with h1
                    injection h1 with _ h1
                    exact absurd h1 (by decide)
                  have hne2 : v2.ownBlock ≠ some w2.heap.size := fun e => by have := (hob _ e).1; omega
                  have hms : w2.heap.size < w10.heap.size := HGZ.out.lt
                  have HN3 : Hid (wr.heap.size ≠ w2.heap.size) := Lib.hid (by have h1 := HGR.out.lt; omega)
                  have HRO := Lib.hid hrow
                  have HBK := Lib.hid hback
                  have HOB := Lib.hid hob
                  have HXL : Hid (wr.heap.size < w10.heap.size) := Lib.hid HBXZ.out.lt
                  have HSM := Lib.hid (fun (w' : World) (h : w'.heap[w2.heap.size]? = w10.drew.heap[w2.heap.size]?) => HGZ.out.same x.arg HXW.out.2.2.2.1 h hlook)
                  have HMK : Hid ((slotsTo L k x.arg).length ≤ 2048) := Lib.hid (by have := HLEN.out; omega)
                  clear hlook hrow hback hlen hob
                  have hlk1 := HSM.out w10.drew rfl
                  have hlk2 := HSM.out (w10.alloc (.cells #[.int .i64 (k : Nat)] 3)).drew (((((Below.refl _ w10).alloc (Nat.le_refl _) _).drew).block _ hms))
                  go_region_held3 (fun w' => w'.cell? ⟨wr.heap.size, 3, none⟩ = some (.int .i64 x.arg))
                    (first
                      | exact q3
                      | exact ((((Below.refl _ w10).alloc (Nat.le_refl _) _).drew).cell (p := ⟨wr.heap.size, 3, none⟩) HXL.out).trans q3
                      | exact held_cell HG7.out HXL.out hne1 q3
                      | exact (World.cell?_of_block (HW8.out.block _ (Nat.lt_of_lt_of_le HXL.out (Nat.le_trans (by simp) HG7.out.size)) (fun e => HN3.out (Option.some.inj e)))).trans (held_cell HG7.out HXL.out hne1 q3))
                    (first
                      | (refine step_append_lies _ (by rfl) _ _ _ (by rfl) (w2.heap.size + 1) 3 i0 _ 1 8 Tryd.underlying27 hi0 hz0 hz1 hz2 rfl (by omega) v2 (slotsTo L k x.arg).length ((slotsTo L k x.arg).map fun i => .int .i64 (i : Nat)) (by rfl) ((HRO.out.alloc _).drew) ⟨w10.heap.size, 0, none⟩ 1 1 [.int .i64 (k : Nat)] (by rfl) (by rfl) (World.news_of_block (cs := #[.int .i64 (k : Nat)]) (t := 3) (fr := (0, 0)) (heap_alloc_new w10 _)) (by simp [Value.oneCell']) (by omega) (by have := HMK.out; unfold maxLen; omega) (by have := HMK.out; omega) (by simp; omega) (w10.heap.size + 1) (by simp) ?_; intro gg cap7 w7 hown7 hgrow7 hat7 hlt7; obtain ⟨w8, hrun8, hg8, hgrow8⟩ := HBK.out w7 _ k ((World.grownBy_alloc w10.drew _ _).trans hgrow7) (by omega) hown7 (hat7.imp (fun h => h.symm) (fun h => .inr (by rw [h]; rfl))); have HG7 := Lib.hid hgrow7; have HG8 := Lib.hid hg8; have HW8 := Lib.hid hgrow8; clear hown7 hgrow7 hat7 hlt7 hg8 hgrow8))
                  all_goals
                    go_wp2_with fail
                    have KK := kept_group HG7.out HW8.out
                    refine ⟨RRel.more hlt (below_group HBEZ.out KK (fun q hq => by have := (HOB.out q hq).1; have := HB2.out.size; omega) HB2.out.size) (own_same HVZ.out KK (fun q cs hq hs => ?_)) (by rw [← slotsTo_put HX.out HT.out]; exact HG8.out) HRA.out (own_same HOZ.out KK (fun q cs hq hs => ?_)), by simp [intOf]; omega⟩
                    all_goals
                      rcases hs with hs | hs
                      · obtain ⟨_, cs', h1⟩ := HOB.out q hs.symm
                        rw [h1] at hq
                        injection hq with hq
                        injection hq with _ hq
                        exact absurd hq (by decide)
                      · subst hs
                        exact HGZ.out.nocells hq
              · have hjx : decide (j < (slotsTo L k x.arg).length) = false := by simpa using hjl
                go_upto_region 17 with (fail)
                have HBXZ := Lib.hid (HBX.out.below HBZ.out HBX.out.lt)
                have HBEZ : Hid (Below w.heap.size w wz) := Lib.hid (HBW.out.trans (HBZ.out.mono HBW.out.size))
                have HRA := Lib.hid (raceAt_no HX.out HT.out (fun i b hb => HNO.out i b (by have h1 := (List.getElem?_eq_some_iff.1 hb).1; omega) hb))
                have HGZ : Hid (GrpIn wz.drew w2.heap.size k (slotsTo L k)) := Lib.hid (HGW.out.kept (Kept.of_below (S := fun _ => False) HBZ.out).drew id (fun _ _ _ _ h => h))
                have HVZ : Hid (wz.ownsRow (w.heap.size + 2) 109 64 (.slice (some ⟨O, 0, none⟩) L.length cap2) L.length (flat (clocksOf L))) := Lib.hid (own_kept HVW.out (Kept.of_below (S := fun _ => False) HBZ.out) (fun _ _ h => h))
                have HOZ : Hid (wz.ownsRow w.heap.size 87 2 ov (racesTo L k ++ []).length (flatR (racesTo L k ++ []))) := Lib.hid (by rw [List.append_nil]; exact own_kept HOW.out (Kept.of_below (S := fun _ => False) HBZ.out) (fun _ _ h => h))
                have q3 : wz.cell? ⟨wr.heap.size, 3, none⟩ = some (.int .i64 x.arg) := (HBZ.out.cell (p := ⟨wr.heap.size, 3, none⟩) HBX.out.lt).trans p3
                obtain ⟨v2, hlook, hrow, hlen, hback⟩ := HGZ.out.look (by unfold maxLen; omega) x.arg HXW.out.2.2.2.1
                have hob : ∀ q, v2.ownBlock = some q → w2.heap.size + 1 ≤ q ∧ ∃ cs, wz.heap[q]? = some (.cells cs 3 (0, 0)) := fun q hq => own_blk hrow hq
                have hne1 : v2.ownBlock ≠ some wr.heap.size := fun e => by
                  obtain ⟨_, cs, h1⟩ := hob _ e
                  have h2 := HBXZ.out
                  rw [h2] at h1
                  injection h1 with h1
                  injection h1 with _ h1
                  exact absurd h1 (by decide)
                have hne2 : v2.ownBlock ≠ some w2.heap.size := fun e => by have := (hob _ e).1; omega
                have hms : w2.heap.size < wz.heap.size := HGZ.out.lt
                have HN3 : Hid (wr.heap.size ≠ w2.heap.size) := Lib.hid (by have h1 := HGR.out.lt; omega)
                have HRO := Lib.hid hrow
                have HBK := Lib.hid hback
                have HOB := Lib.hid hob
                have HXL : Hid (wr.heap.size < wz.heap.size) := Lib.hid HBXZ.out.lt
                have HSM := Lib.hid (fun (w' : World) (h : w'.heap[w2.heap.size]? = wz.drew.heap[w2.heap.size]?) => HGZ.out.same x.arg HXW.out.2.2.2.1 h hlook)
                have HMK : Hid ((slotsTo L k x.arg).length ≤ 2048) := Lib.hid (by have := HLEN.out; omega)
                clear hlook hrow hback hlen hob
                have hlk1 := HSM.out wz.drew rfl
                have hlk2 := HSM.out (wz.alloc (.cells #[.int .i64 (k : Nat)] 3)).drew (((((Below.refl _ wz).alloc (Nat.le_refl _) _).drew).block _ hms))
                go_region_held3 (fun w' => w'.cell? ⟨wr.heap.size, 3, none⟩ = some (.int .i64 x.arg))
                  (first
                    | exact q3
                    | exact ((((Below.refl _ wz).alloc (Nat.le_refl _) _).drew).cell (p := ⟨wr.heap.size, 3, none⟩) HXL.out).trans q3
                    | exact held_cell HG7.out HXL.out hne1 q3
                    | exact (World.cell?_of_block (HW8.out.block _ (Nat.lt_of_lt_of_le HXL.out (Nat.le_trans (by simp) HG7.out.size)) (fun e => HN3.out (Option.some.inj e)))).trans (held_cell HG7.out HXL.out hne1 q3))
                  (first
                    | (refine step_append_lies _ (by rfl) _ _ _ (by rfl) (w2.heap.size + 1) 3 i0 _ 1 8 Tryd.underlying27 hi0 hz0 hz1 hz2 rfl (by omega) v2 (slotsTo L k x.arg).length ((slotsTo L k x.arg).map fun i => .int .i64 (i : Nat)) (by rfl) ((HRO.out.alloc _).drew) ⟨wz.heap.size, 0, none⟩ 1 1 [.int .i64 (k : Nat)] (by rfl) (by rfl) (World.news_of_block (cs := #[.int .i64 (k : Nat)]) (t := 3) (fr := (0, 0)) (heap_alloc_new wz _)) (by simp [Value.oneCell']) (by omega) (by have := HMK.out; unfold maxLen; omega) (by have := HMK.out; omega) (by simp; omega) (wz.heap.size + 1) (by simp) ?_; intro gg cap7 w7 hown7 hgrow7 hat7 hlt7; obtain ⟨w8, hrun8, hg8, hgrow8⟩ := HBK.out w7 _ k ((World.grownBy_alloc wz.drew _ _).trans hgrow7) (by omega) hown7 (hat7.imp (fun h => h.symm) (fun h => .inr (by rw [h]; rfl))); have HG7 := Lib.hid hgrow7; have HG8 := Lib.hid hg8; have HW8 := Lib.hid hgrow8; clear hown7 hgrow7 hat7 hlt7 hg8 hgrow8))
                all_goals
                  go_wp2_with fail
                  have KK := kept_group HG7.out HW8.out
                  refine ⟨RRel.more hlt (below_group HBEZ.out KK (fun q hq => by have := (HOB.out q hq).1; have := HB2.out.size; omega) HB2.out.size) (own_same HVZ.out KK (fun q cs hq hs => ?_)) (by rw [← slotsTo_put HX.out HT.out]; exact HG8.out) HRA.out (own_same HOZ.out KK (fun q cs hq hs => ?_)), by simp [intOf]; omega⟩
                  all_goals
                    rcases hs with hs | hs
                    · obtain ⟨_, cs', h1⟩ := HOB.out q hs.symm
                      rw [h1] at hq
                      injection hq with hq
                      injection hq with _ hq
                      exact absurd hq (by decide)
                    · subst hs
                      exact HGZ.out.nocells hq
        · have htf : touchB x = false := by simpa using ht
          have BO : Hid (∀ o, RRel L w w2.heap.size vc (.int .i64 ((k : Int) + 1)) ov (wr.alloc o)) := Lib.hid (fun o => RRel.more hlt (HBE.out.alloc HBE.out.size _) (own_kept HVC.out ((Kept.refl (fun _ => False) wr).alloc o) (fun _ _ h => h)) (by rw [slotsTo_not HX.out htf]; exact (HGR.out.kept ((Kept.refl (fun _ => False) wr).alloc o) id (fun _ _ _ _ h => h)).mono (Nat.le_succ _)) (raceAt_not HX.out htf) (by rw [List.append_nil]; exact own_kept HOR.out ((Kept.refl (fun _ => False) wr).alloc o) (fun _ _ h => h)))
          by_cases h8 : x.op = 8
          · have hn : ¬ x.new = 0 ∧ ¬ x.new = 1 := by
              unfold touchB at htf
              simp only [h8, decide_true, Bool.true_and, Bool.or_eq_false_iff, decide_eq_false_iff_not] at htf
              exact htf
            obtain ⟨n0, n1⟩ := hn
            have m0 : (x.new != 0) = true := by simpa using n0
            have m1 : (x.new != 1) = true := by simpa using n1
            clear ht htf n0 n1
            go_wp2_with fail
            exact ⟨BO.out _, by simp [intOf]; omega⟩
          · have m8 : (x.op != 8) = true := by simpa using h8
            clear ht htf h8
            go_wp2_with fail
            exact ⟨BO.out _, by simp [intOf]; omega⟩
      · have hx : decide (k < L.length) = false := by simpa using hlt
        go_wp2_with fail
        have e : k = L.length := by omega
        subst e
        refine bodyPost_ret (v := .tuple #[ov, .int .i64 0]) (by simp [results, Tryd.results34, go_sem]) rfl ⟨HBE.out, ov, by rw [HM.out]; rfl, ?_⟩
        unfold racesOf
        rw [HM.out]
        exact HOR.out
end Go.Proofs.YtonnlgpjobfnmaaDoor
