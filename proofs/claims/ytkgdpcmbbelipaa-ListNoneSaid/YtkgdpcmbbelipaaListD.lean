/- The contracts of (*List[int64]).Close and Each, called free, and ListNone's 'works'. Conditions: the pointer leads to a list that New made, or is nil, or to a bare list. -/
import Derived.Test.YtkgdpcmbbelipaaListC
namespace Go.Proofs.Ytkgdpcmbbelipaa
open Go.RowKit Go.MuLone
set_option maxRecDepth 100000

theorem close_nil (w : World) : Calls Try.prog 8 #[.pointer none, .pointer none] w fun e w' => e = .returned (.tuple #[.slice none 0 0, .int .i64 2]) ∧ w = w' := by
  go_enter Try.func8, Try.ntmps8
  go_wp2_with (go_at_call 28; refine (made_nil _).mono ?_; rintro e w' ⟨rfl, rfl⟩)
  go_ret2
  exact ⟨rfl, rfl⟩
theorem close_bare (l : Nat) (w : World) (h : w.cell? ⟨l, 1, none⟩ = some (.pointer none)) : Calls Try.prog 8 #[.pointer (some ⟨l, 0, none⟩), .pointer none] w fun e w' => e = .returned (.tuple #[.slice none 0 0, .int .i64 2]) ∧ w = w' := by
  have H := Lib.hid h
  clear h
  go_enter Try.func8, Try.ntmps8
  go_wp2_with (go_at_call 28; refine (made_bare l _ H.out).mono ?_; rintro e w' ⟨rfl, rfl⟩)
  go_ret2
  exact ⟨rfl, rfl⟩
theorem each_nil (w : World) : Calls Try.prog 9 #[.pointer none, .pointer none] w fun e w' => e = .returned (.tuple #[.slice none 0 0, .bool false, .int .i64 2]) ∧ w = w' := by
  go_enter Try.func9, Try.ntmps9
  go_wp2_with (go_at_call 28; refine (made_nil _).mono ?_; rintro e w' ⟨rfl, rfl⟩)
  go_ret3
  exact ⟨rfl, rfl⟩
theorem each_bare (l : Nat) (w : World) (h : w.cell? ⟨l, 1, none⟩ = some (.pointer none)) : Calls Try.prog 9 #[.pointer (some ⟨l, 0, none⟩), .pointer none] w fun e w' => e = .returned (.tuple #[.slice none 0 0, .bool false, .int .i64 2]) ∧ w = w' := by
  have H := Lib.hid h
  clear h
  go_enter Try.func9, Try.ntmps9
  go_wp2_with (go_at_call 28; refine (made_bare l _ H.out).mono ?_; rintro e w' ⟨rfl, rfl⟩)
  go_ret3
  exact ⟨rfl, rfl⟩
/-- The world behind a Close. -/
theorem closed_at {l c1 c2 p n : Nat} {last head : Int} {cs : Array Value} {w : World} (h : ListAt w l c1 c2 p last head n cs) (y : Int) : ListAt (w.setCell ⟨c2, 0, none⟩ (.int .i64 y)) l c1 c2 p last y n cs := by
  obtain ⟨hl, i1, i2, hp, hcs, hne⟩ := h
  exact ⟨hl.far (p := ⟨c2, 0, none⟩) (Blk.ne_ hl i2 (by decide)) _, Blk.far i1 (p := ⟨c2, 0, none⟩) hne _, i2.set _, hp.far (p := ⟨c2, 0, none⟩) (Blk.ne_ hp i2 (by decide)) _, hcs, hne⟩
theorem close_closed (l c1 c2 p : Nat) (last : Int) (n : Nat) (cs : Array Value) (w : World) (h : ListAt w l c1 c2 p last (-1) n cs) :
    Calls Try.prog 8 #[.pointer (some ⟨l, 0, none⟩), .pointer none] w fun e w' => e = .returned (.tuple #[.slice none 0 0, .int .i64 13]) ∧ w.setCell ⟨c2, 0, none⟩ (.int .i64 (-1)) = w' := by
  obtain ⟨hl, i1, i2, hp, hcs, hne⟩ := h
  have l1 := hl.cell 1
  have I2 := Lib.hid i2
  have L1 := Lib.hid l1
  simp at l1
  clear hl i1 i2 hp hcs hne
  go_enter Try.func8, Try.ntmps8
  go_wp2_with (first | (go_at_call 28; refine (made_yes l c2 _ L1.out).mono ?_; rintro e w' ⟨rfl, rfl⟩) | (go_at_call 31; refine (cell_swap c2 _ _ _ I2.out).mono ?_; rintro e w' ⟨rfl, rfl⟩))
  go_ret2
  exact ⟨rfl, rfl⟩
def ClosePost (w : World) (c2 : Nat) (vs : List Int) (e : Ending) (w' : World) : Prop :=
  ∃ v, e = .returned (.tuple #[v, .int .i64 0]) ∧ w'.ownsRow w.heap.size 2 1 v vs.length (vs.reverse.map (Value.int .i64)) ∧ Below w.heap.size (w.setCell ⟨c2, 0, none⟩ (.int .i64 (-1))) w'
set_option maxHeartbeats 1000000 in
theorem close_ok (l c1 c2 p : Nat) (last : Int) (k n : Nat) (cs : Array Value) (vs : List Int) (w : World) (h : ListAt w l c1 c2 p last k n cs) (hc : Chain cs k vs) (hv : vs.length ≤ 100000) (hn : n ≤ 100000) :
    Calls Try.prog 8 #[.pointer (some ⟨l, 0, none⟩), .pointer none] w (ClosePost w c2 vs) := by
  have HA := Lib.hid (closed_at h (-1))
  obtain ⟨hl, i1, i2, hp, hcs, hne⟩ := h
  have l1 := hl.cell 1
  have I2 := Lib.hid i2
  have L1 := Lib.hid l1
  have HC := Lib.hid hc
  have hh : ((k : Int) == -1) = false := by rw [beq_eq_false_iff_ne]; omega
  simp at l1
  clear hl i1 i2 hp hcs hne hc
  go_enter Try.func8, Try.ntmps8
  go_wp2_with (first | (go_at_call 28; refine (made_yes l c2 _ L1.out).mono ?_; rintro e w' ⟨rfl, rfl⟩) | (go_at_call 31; refine (cell_swap c2 _ _ _ I2.out).mono ?_; rintro e w' ⟨rfl, rfl⟩))
  refine (row_any l c1 c2 p last (-1) n cs k vs _ HA.out HC.out hv hn).mono ?_
  rintro e w1 ⟨v, rfl, hown, hb⟩
  have HO := Lib.hid hown
  have HB := Lib.hid hb
  clear hown hb
  go_wp2
  go_ret2
  exact ⟨v, rfl, by simpa using HO.out, by simpa using HB.out⟩
theorem add_go {l c1 c2 p : Nat} {last head : Nat} {n : Nat} {cs : Array Value} {v : Int} {w : World} (k : Int) (hk : k = last + 1) (h : ListAt w l c1 c2 p last head n cs) (hroom : last + 1 < n) (hb : last < 1000000) :
    Calls Try.prog 7 #[.pointer (some ⟨l, 0, none⟩), .pointer none, .int .i64 v] w fun e w' => e = .returned (.tuple #[.int .i64 k, .int .i64 0]) ∧ addWorld w c1 c2 p last head v = w' := by
  subst hk; exact add_ok l c1 c2 p last head n cs v w h hroom hb
theorem addWorld_below {B : Nat} {a w : World} (h : Below B a w) {c1 c2 p last : Nat} {head v : Int} (h1 : B ≤ c1) (h2 : B ≤ c2) (h3 : B ≤ p) : Below B a (addWorld w c1 c2 p last head v) :=
  (((h.setCell (p := ⟨c1, 0, none⟩) h1 _).setCell (p := ⟨p, _, none⟩) h3 _).setCell (p := ⟨p, _, none⟩) h3 _).setCell (p := ⟨c2, 0, none⟩) h2 _
/-- What is asked ahead of works' last line: the row that Close gave. -/
theorem two_of_own {w w' : World} {B c2 : Nat} {v : Value} (h : w.ownsRow B 2 1 v 2 [.int .i64 7, .int .i64 8]) (hc : c2 < B) (hw : w.setCell ⟨c2, 0, none⟩ (.int .i64 (-1)) = w') :
    ∃ g cap, v = .slice (some ⟨g, 0, none⟩) 2 cap ∧ w'.cell? ⟨g, 0, none⟩ = some (.int .i64 7) ∧ w'.cell? ⟨g, 1, none⟩ = some (.int .i64 8) := by
  obtain ⟨hl, h⟩ := h
  rcases h with ⟨_, h0⟩ | ⟨g, cap, cur, rfl, hB, hb, hnc, hcm, hcs, ht⟩
  · cases h0
  · subst hw
    have hb' := Blk.far (g := g) (cs := cur) (t := 2) hb (p := ⟨c2, 0, none⟩) (by simp; omega) (.int .i64 (-1))
    refine ⟨g, cap, rfl, ?_, ?_⟩
    · rw [hb'.cell]
      have := congrArg (fun l : List Value => l[0]?) ht
      simpa using this
    · rw [hb'.cell]
      have := congrArg (fun l : List Value => l[1]?) ht
      simpa using this
theorem IsCell.lt {w : World} {b : Nat} {x : Int} (h : IsCell w b x) : b < w.heap.size := Blk.lt h
theorem listAt_below {l c1 c2 p n : Nat} {last head : Int} {cs : Array Value} {w w' : World} (h : ListAt w l c1 c2 p last head n cs) (hb : Below w.heap.size w w') : ListAt w' l c1 c2 p last head n cs := by
  obtain ⟨hl, i1, i2, hp, hcs, hne⟩ := h
  exact ⟨hl.below hb hl.lt, Blk.below i1 hb i1.lt, Blk.below i2 hb i2.lt, hp.below hb hp.lt, hcs, hne⟩
theorem last_at {l c1 c2 p n : Nat} {last head : Int} {cs : Array Value} {w : World} (h : ListAt w l c1 c2 p last head n cs) (y : Int) : ListAt (w.setCell ⟨c1, 0, none⟩ (.int .i64 y)) l c1 c2 p y head n cs := by
  obtain ⟨hl, i1, i2, hp, hcs, hne⟩ := h
  exact ⟨hl.far (p := ⟨c1, 0, none⟩) (Blk.ne_ hl i1 (by decide)) _, i1.set _, Blk.far i2 (p := ⟨c1, 0, none⟩) (fun e => hne e.symm) _, hp.far (p := ⟨c1, 0, none⟩) (Blk.ne_ hp i1 (by decide)) _, hcs, hne⟩
theorem chain_two {l c1 c2 p : Nat} {w : World} {a b : Int} {cs : Array Value} (h : ListAt w l c1 c2 p a b 3 cs) :
    Chain ((((cs.setIfInBounds 2 (.int .i64 7)).setIfInBounds 3 (.int .i64 0)).setIfInBounds 4 (.int .i64 8)).setIfInBounds 5 (.int .i64 1)) 2 [8, 7] := by
  have hs : cs.size = 6 := h.2.2.2.2.1
  refine .cons (k' := 1) (by decide) (by simp [hs]) (by simp [hs]) (.cons (k' := 0) (by decide) (by simp [hs]) (by simp [hs]) .nil)

set_option maxHeartbeats 1000000 in
theorem works_true (w : World) : Calls Try.prog 10 #[] w fun e w' => e = .returned (.bool true) ∧ Below w.heap.size w w' := by
  go_enter Try.func10, Try.ntmps10
  go_wp2_with fail
  refine (list_new 2 (by omega) w).mono ?_
  rintro e w1 ⟨l, c1, c2, p, rfl, hb, h1, h2, h3, h4, hA⟩
  have HB := Lib.hid hb
  have HA := Lib.hid hA
  have H1 := Lib.hid h1
  have H2 := Lib.hid h2
  have H3 := Lib.hid h3
  have H4 := Lib.hid h4
  clear hb h1 h2 h3 h4 hA
  go_wp2_with fail
  refine (add_go (last := 0) (head := 0) 1 (by omega) HA.out (by omega) (by omega)).mono ?_
  rintro e w2 ⟨rfl, hw⟩
  have HA2 := Lib.hid (hw ▸ addWorld_at l c1 c2 p 0 0 3 _ 7 w1 HA.out)
  have HB2 := Lib.hid (hw ▸ addWorld_below (last := 0) (head := 0) (v := 7) HB.out H2.out H3.out H4.out)
  clear hw
  go_wp2_with fail
  refine (add_go (last := 1) (head := 1) 2 (by omega) HA2.out (by omega) (by omega)).mono ?_
  rintro e w3 ⟨rfl, hw⟩
  have HA3 := Lib.hid (hw ▸ addWorld_at l c1 c2 p 1 1 3 _ 8 w2 HA2.out)
  have HB3 := Lib.hid (hw ▸ addWorld_below (last := 1) (head := 1) (v := 8) HB2.out H2.out H3.out H4.out)
  clear hw
  go_wp2_with fail
  refine (add_full l c1 c2 p 2 2 3 _ 9 w3 HA3.out (by omega) (by omega)).mono ?_
  rintro e w4 ⟨rfl, hw⟩
  have HA4 := Lib.hid (hw ▸ last_at HA3.out _)
  have HB4 := Lib.hid (hw ▸ HB3.out.setCell (p := ⟨c1, 0, none⟩) H2.out (.int .i64 (2 + 1)))
  clear hw
  go_wp2_with fail
  refine (close_ok l c1 c2 p _ 2 3 _ [8, 7] w4 HA4.out (chain_two HA.out) (by simp) (by omega)).mono ?_
  rintro e w5 ⟨v, rfl, hown, hb5⟩
  have HO := Lib.hid hown
  have HB5 := Lib.hid ((HB4.out.setCell (p := ⟨c2, 0, none⟩) H3.out (.int .i64 (-1))).trans (hb5.mono HB4.out.size))
  have HA5 := Lib.hid (listAt_below (closed_at HA4.out (-1)) (by simpa using hb5))
  have HC2 := Lib.hid (HA4.out.2.2.1.lt)
  clear hown hb5
  go_wp2_with fail
  refine (close_closed l c1 c2 p _ 3 _ w5 HA5.out).mono ?_
  rintro e w6 ⟨rfl, hw⟩
  obtain ⟨g, cap, rfl, q0, q1⟩ := two_of_own HO.out HC2.out hw
  have HB6 := Lib.hid (hw ▸ HB5.out.setCell (p := ⟨c2, 0, none⟩) H3.out (.int .i64 (-1)))
  clear hw
  go_wp2
  go_ret
  exact ⟨rfl, HB6.out⟩
end Go.Proofs.Ytkgdpcmbbelipaa
