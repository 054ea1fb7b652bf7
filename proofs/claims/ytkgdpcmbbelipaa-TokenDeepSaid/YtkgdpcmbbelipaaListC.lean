/- slices.Reverse at []int64, over a block that is known: the first n cells are turned round, nothing else. Conditions: the slice begins at the block's head. -/
import Derived.Test.YtkgdpcmbbelipaaListB
import Derived.LoopTactic
import Derived.ChangeAlike
import Derived.RegionTactic
namespace Go.Proofs.Ytkgdpcmbbelipaa
open Go.RowKit Go.MuLone
set_option maxRecDepth 100000

/-- Behind k rounds of the exchange, of n cells: what cell t holds, first being z. -/
def revAt (z : Nat → Int) (n k t : Nat) : Int := if t < k ∨ n ≤ t + k then z (n - 1 - t) else z t
def RevBlk (w0 w : World) (g n : Nat) (cur : Array Value) (z : Nat → Int) (k : Nat) : Prop :=
  w0.grownBy w (some g) ∧ ∃ cs, Blk w g 2 cs ∧ cs.size = cur.size ∧ (∀ t, t < n → cs[t]? = some (.int .i64 (revAt z n k t))) ∧ ∀ t, n ≤ t → cs[t]? = cur[t]?
theorem grown_drew {a w : World} {row : Option Nat} (h : a.grownBy w row) : a.grownBy w.drew row := ⟨h.os, h.tape, h.output, h.size, h.block⟩
theorem grown_set {a w : World} {g : Nat} (h : a.grownBy w (some g)) {p : Addr} (hp : p.block = g) (u : Value) : a.grownBy (w.setCell p u) (some g) :=
  ⟨h.os, h.tape, h.output, by simpa [World.setCell] using h.size, fun i hi hne => (Below.heap_setCell w p u i (by
    rintro rfl
    exact hne (by rw [hp]))).trans (h.block i hi hne)⟩
theorem RevBlk.start {w : World} {g n : Nat} {cur : Array Value} {z : Nat → Int} (hb : Blk w g 2 cur) (hz : ∀ t, t < n → cur[t]? = some (.int .i64 (z t))) : RevBlk w w g n cur z 0 :=
  ⟨World.grownBy.refl w _, cur, hb, rfl, fun t ht => by rw [hz t ht, revAt, if_neg (by omega)], fun _ _ => rfl⟩
theorem RevBlk.next {w0 w : World} {g n k j : Nat} {cur : Array Value} {z : Nat → Int} (h : RevBlk w0 w g n cur z k) (hn : n ≤ cur.size) (hj : k + j + 1 = n) (hlt : k < j) :
    RevBlk w0 ((w.drew.setCell ⟨g, k, none⟩ (.int .i64 (z j))).setCell ⟨g, j, none⟩ (.int .i64 (z k))) g n cur z (k + 1) := by
  obtain ⟨hg, cs, hb, hs, hz, ho⟩ := h
  refine ⟨grown_set (grown_set (grown_drew hg) rfl _) rfl _, _, (Blk.set_ (Blk.set_ (w := w.drew) hb k _) j _), by simpa using hs, fun t ht => ?_, fun t ht => ?_⟩
  · have hts : t < cs.size := by omega
    by_cases e1 : t = j
    · subst e1
      rw [Array.getElem?_setIfInBounds_self_of_lt (by simpa using hts), revAt, if_pos (by omega)]
      rw [show n - 1 - t = k from by omega]
    · rw [Array.getElem?_setIfInBounds_ne (fun e => e1 e.symm)]
      by_cases e2 : t = k
      · subst e2
        rw [Array.getElem?_setIfInBounds_self_of_lt hts, revAt, if_pos (by omega)]
        rw [show n - 1 - t = j from by omega]
      · rw [Array.getElem?_setIfInBounds_ne (fun e => e2 e.symm), hz t ht]
        unfold revAt
        by_cases e3 : t < k ∨ n ≤ t + k
        · rw [if_pos e3, if_pos (by omega)]
        · rw [if_neg e3, if_neg (by omega)]
  · rw [Array.getElem?_setIfInBounds_ne (by omega), Array.getElem?_setIfInBounds_ne (by omega)]
    exact ho t ht
theorem RevBlk.lo {w0 w : World} {g n k j : Nat} {cur : Array Value} {z : Nat → Int} (h : RevBlk w0 w g n cur z k) (hj : k + j + 1 = n) (hlt : k < j) : w.cell? ⟨g, k, none⟩ = some (.int .i64 (z k)) := by
  obtain ⟨hg, cs, hb, hs, hz, ho⟩ := h
  rw [hb.cell, hz k (by omega), revAt, if_neg (by omega)]
theorem RevBlk.hi {w0 w : World} {g n k j : Nat} {cur : Array Value} {z : Nat → Int} (h : RevBlk w0 w g n cur z k) (hj : k + j + 1 = n) (hlt : k < j) : w.cell? ⟨g, j, none⟩ = some (.int .i64 (z j)) := by
  obtain ⟨hg, cs, hb, hs, hz, ho⟩ := h
  rw [hb.cell, hz j (by omega), revAt, if_neg (by omega)]
theorem RevBlk.fz {w0 w : World} {g n k : Nat} {cur : Array Value} {z : Nat → Int} (h : RevBlk w0 w g n cur z k) (i : Nat) : w.frozen? ⟨g, i, none⟩ = false := by
  obtain ⟨hg, cs, hb, hs, hz, ho⟩ := h
  exact hb.frozen i
/-- The first n cells of block g are turned round. -/
def Reversed (w0 : World) (g n : Nat) (cur : Array Value) (z : Nat → Int) (e : Ending) (w : World) : Prop :=
  e = .returned (.tuple #[]) ∧ w0.grownBy w (some g) ∧ ∃ cs, Blk w g 2 cs ∧ cs.size = cur.size ∧ (∀ t, t < n → cs[t]? = some (.int .i64 (z (n - 1 - t)))) ∧ ∀ t, n ≤ t → cs[t]? = cur[t]?
theorem RevBlk.done {w0 w : World} {g n k j : Nat} {cur : Array Value} {z : Nat → Int} (h : RevBlk w0 w g n cur z k) (hj : k + j + 1 = n) (hge : ¬ k < j) (hk : k ≤ j + 1) : Reversed w0 g n cur z (.returned (.tuple #[])) w := by
  obtain ⟨hg, cs, hb, hs, hz, ho⟩ := h
  refine ⟨rfl, hg, cs, hb, hs, fun t ht => ?_, ho⟩
  rw [hz t ht]
  unfold revAt
  by_cases e3 : t < k ∨ n ≤ t + k
  · rw [if_pos e3]
  · rw [if_neg e3, show n - 1 - t = t from by omega]

set_option maxHeartbeats 1000000 in
theorem reverse_pos (g n c : Nat) (cur : Array Value) (z : Nat → Int) (w : World) (hb : Blk w g 2 cur) (hz : ∀ t, t < n → cur[t]? = some (.int .i64 (z t))) (hn : n ≤ cur.size) (h0 : 0 < n) (hmax : n ≤ 1000000) :
    Calls Try.prog 51 #[.slice (some ⟨g, 0, none⟩) n c] w (Reversed w g n cur z) := by
  have H0 := Lib.hid (RevBlk.start hb hz)
  have HN := Lib.hid hn
  obtain ⟨n', rfl⟩ : ∃ n', n = n' + 1 := ⟨n - 1, by omega⟩
  clear hb hz hn h0
  go_enter Try.func51, Try.ntmps51
  go_wp2
  go_loopw [2, 3] (fun i j wr => ∃ k jj : Nat, k + jj + 1 = n' + 1 ∧ k ≤ jj + 1 ∧ i = .int .i64 k ∧ j = .int .i64 jj ∧ Hid (RevBlk w wr g (n' + 1) cur z k)) (fun i _ _ => n' + 1 - (intOf i).toNat)
  case atStart => exact ⟨0, n', by omega, by omega, rfl, rfl, H0⟩
  case round =>
    obtain ⟨k, jj, hj, hk, rfl, rfl, hR⟩ := hrel
    by_cases hlt : k < jj
    · have c1 := hR.out.lo hj hlt
      have c2 := hR.out.hi hj hlt
      have f1 := hR.out.fz k
      have f2 := hR.out.fz jj
      have hx : decide ((k : Int) < jj) = true := by simp; omega
      have hb1 : ((k : Int) < (n' : Int) + 1) := by omega
      have hb2 : ((jj : Int) < (n' : Int) + 1) := by omega
      go_wp2
      go_region
      all_goals go_wp2
      all_goals go_roundw
      case rel => exact ⟨k + 1, jj - 1, by omega, by omega, by go_num, by rw [show ((jj - 1 : Nat) : Int) = (jj : Int) - 1 from by omega], Lib.hid (hR.out.next HN.out hj hlt)⟩
      case measure => simp [intOf]; omega
    · have hx : decide ((k : Int) < jj) = false := by simp; omega
      go_wp2
      go_end0
      exact hR.out.done hj hlt hk
theorem reverse_zero (a : Option Addr) (c : Nat) (w : World) :
    Calls Try.prog 51 #[.slice a 0 c] w fun e w' => e = .returned (.tuple #[]) ∧ w = w' := by
  go_enter Try.func51, Try.ntmps51
  go_wp2
  refine wp_loop_rounds 1 ?_
  rw [rounds_succ]
  go_wp2
  go_end0
  exact ⟨rfl, rfl⟩

theorem own_reverse {B : Nat} {v : Value} {n : Nat} {xs : List Int} {w : World} (hown : w.ownsRow B 2 1 v n (xs.map (Value.int .i64))) (hn : n ≤ 1000000) :
    Calls Try.prog 51 #[v] w fun e w' => e = .returned (.tuple #[]) ∧ w'.ownsRow B 2 1 v n (xs.reverse.map (Value.int .i64)) ∧ w.grownBy w' v.ownBlock := by
  obtain ⟨hl, h⟩ := hown
  rcases h with ⟨rfl, rfl⟩ | ⟨g, cap, cur, rfl, hB, hb, hnc, hcm, hcs, ht⟩
  · refine (reverse_zero none 0 w).mono ?_
    rintro e w' ⟨rfl, rfl⟩
    have : xs = [] := by simpa using hl
    subst this
    exact ⟨rfl, ⟨rfl, .inl ⟨rfl, rfl⟩⟩, World.grownBy.refl w _⟩
  · have hlen : xs.length = n := by simpa using hl
    rcases Nat.eq_zero_or_pos n with rfl | h0
    · have : xs = [] := by simpa using hl
      subst this
      refine (reverse_zero _ cap w).mono ?_
      rintro e w' ⟨rfl, rfl⟩
      exact ⟨rfl, ⟨rfl, .inr ⟨g, cap, cur, rfl, hB, hb, hnc, hcm, hcs, ht⟩⟩, World.grownBy.refl w _⟩
    · have hz : ∀ t, t < n → cur[t]? = some (.int .i64 (xs.getD t 0)) := by
        intro t ht'
        have : (cur.toList.take (n * 1))[t]? = some (.int .i64 (xs.getD t 0)) := by
          rw [ht, List.getElem?_map, List.getD_eq_getElem?_getD, List.getElem?_eq_getElem (by omega)]
          rfl
        rw [List.getElem?_take_of_lt (by omega)] at this
        simpa using this
      refine (reverse_pos g n cap cur (fun t => xs.getD t 0) w hb hz (by omega) h0 hn).mono ?_
      rintro e w' ⟨rfl, hg, cs, hb', hs, hz', ho⟩
      refine ⟨rfl, ⟨by simp [hlen], .inr ⟨g, cap, cs, rfl, hB, hb', hnc, hcm, by omega, ?_⟩⟩, hg⟩
      apply List.ext_getElem?
      intro t
      by_cases e : t < n
      · rw [List.getElem?_take_of_lt (by omega), Array.getElem?_toList, hz' t e, List.getElem?_map, List.getElem?_reverse (by omega), List.getElem?_eq_getElem (by omega)]
        show some (Value.int .i64 (xs.getD (n - 1 - t) 0)) = some (Value.int .i64 xs[xs.length - 1 - t])
        have hi : n - 1 - t = xs.length - 1 - t := by omega
        rw [hi, List.getD_eq_getElem?_getD, List.getElem?_eq_getElem (by omega)]
        rfl
      · rw [List.getElem?_eq_none (by simp; omega), List.getElem?_eq_none (by simp; omega)]
/-- From place k on: the values that are put on, the last one first. -/
inductive Chain (cs : Array Value) : Nat → List Int → Prop
  | nil : Chain cs 0 []
  | cons {k k' : Nat} {v : Int} {vs : List Int} : k ≠ 0 → cs[k * 2]? = some (.int .i64 v) → cs[k * 2 + 1]? = some (.int .i64 k') → Chain cs k' vs → Chain cs k (v :: vs)
def RowPost (w : World) (vs : List Int) (e : Ending) (w' : World) : Prop :=
  ∃ v, e = .returned v ∧ w'.ownsRow w.heap.size 2 1 v vs.length (vs.reverse.map (Value.int .i64)) ∧ Below w.heap.size w w'
def RowRel (w : World) (cs : Array Value) (all : List Int) (kv rv : Value) (wr : World) : Prop :=
  ∃ (k : Nat) (left done : List Int), kv = .int .i64 k ∧ Chain cs k left ∧ done ++ left = all ∧ wr.ownsRow w.heap.size 2 1 rv done.length (done.map (Value.int .i64)) ∧ Below w.heap.size w wr
def rowLen : Value → Nat
  | .slice _ n _ => n
  | _ => 0
theorem own_len {w : World} {B e size n : Nat} {v : Value} {xs : List Value} (h : w.ownsRow B e size v n xs) : rowLen v = n := by
  obtain ⟨_, h⟩ := h
  rcases h with ⟨rfl, rfl⟩ | ⟨g, cap, cur, rfl, _⟩ <;> rfl
theorem infoInt64 : (Try.prog.info? 2).map (fun i => (i.zero, i.size, i.bytes)) = some (some (.int .i64 0), 1, 8) := by kernel_rfl

set_option maxHeartbeats 1000000 in
theorem row_any (l c1 c2 p : Nat) (last head : Int) (n : Nat) (cs : Array Value) (k : Nat) (vs : List Int) (w : World) (h : ListAt w l c1 c2 p last head n cs) (hc : Chain cs k vs) (hv : vs.length ≤ 100000) (_hn : n ≤ 100000) :
    Calls Try.prog 32 #[.pointer (some ⟨l, 0, none⟩), .int .i64 k] w (RowPost w vs) := by
  obtain ⟨hl, i1, i2, hp, hcs, hne⟩ := h
  obtain ⟨i0, hi0, hz0, hz1, hz2⟩ := info_parts infoInt64
  have ll := hl.lt
  have pl := hp.lt
  have H0 := Lib.hid (show RowRel w cs vs (.int .i64 k) (.slice none 0 0) w from ⟨k, vs, [], rfl, hc, rfl, World.ownsRow_nil _ _ _ _, Below.refl _ _⟩)
  have HL := Lib.hid hl
  have HP := Lib.hid hp
  have HS := Lib.hid hcs
  clear hl i1 i2 hp hne hc hcs
  go_enter Try.func32, Try.ntmps32
  go_wp2
  go_loopw [1, 5] (fun kv rv wr => Hid (RowRel w cs vs kv rv wr)) (fun _ rv _ => vs.length + 1 - rowLen rv)
  case atStart => exact H0
  case round =>
    obtain ⟨kk, left, done, rfl, hch, hdl, hown, hbw⟩ := hrel.out
    have HD := Lib.hid hdl
    have HB := Lib.hid hbw
    have HO := Lib.hid hown
    clear hrel hdl hbw hown
    cases hch with
    | nil =>
      have hx : ((((0 : Nat) : Int)) != 0) = false := by rfl
      go_wp2_with fail
      have hdone : done = vs := by simpa using HD.out
      subst hdone
      refine (own_reverse HO.out (by omega)).mono ?_
      rintro e w1 ⟨rfl, hown1, hg1⟩
      have HO1 := Lib.hid hown1
      have HG1 := Lib.hid hg1
      clear hown1 hg1
      go_wp2
      go_ret
      exact ⟨_, rfl, HO1.out, HB.out.grown HG1.out HB.out.size (fun g hg => by
        obtain ⟨_, h⟩ := HO.out
        rcases h with ⟨rfl, _⟩ | ⟨g', cap, cur, rfl, hB, _⟩
        · cases hg
        · cases hg; exact hB)⟩
    | @cons _ k' v vs' hk h1 h2 h3 =>
      have hlt : kk < n := by
        have := (Array.getElem?_eq_some_iff.1 h1).1
        have := HS.out
        omega
      have hx : ((kk : Int) != 0) = true := by rw [bne_iff_ne]; omega
      have hbl := HL.out.below HB.out ll
      have hbp := HP.out.below HB.out pl
      have m2 := hbl.cell 2
      have q0 := (hbp.cell (kk * 2)).trans h1
      have q1 := (hbp.cell (kk * 2 + 1)).trans h2
      simp at m2
      have HC := Lib.hid h3
      have HSZ := Lib.hid HB.out.size
      clear h1 h2 h3 hbl hbp
      have hk0 : (0 : Int) ≤ kk := by omega
      go_wp2_with (at_builtin; refine wpList_append_own _ rfl _ _ 31 rfl w.heap.size 2 i0 (.int .i64 0) 1 8 Try.underlying31 hi0 hz0 hz1 hz2 rfl (by decide) _ _ _ rfl (HO.out.alloc _) ⟨wr.heap.size, 0, none⟩ 1 1 [.int .i64 v] rfl rfl ?c1 ?c2 ?c3 ?c4 ?c5 ?_)
      case c1 =>
        intro j u hj
        match j, hj with
        | 0, hj => simp at hj; subst hj; simp [Addr.add]
      case c2 => intro u hu; simp at hu; subst hu; rfl
      case c3 => unfold maxLen; have := HD.out; subst this; simp at hv; omega
      case c4 => have := HD.out; subst this; simp at hv; omega
      case c5 => have := HSZ.out; simp; omega
      intro v' w1 hown' hgrow _
      have hbw1 : Below w.heap.size w w1 := (HB.out.alloc HB.out.size _).grown hgrow (by have := HB.out.size; simp; omega) (fun g hg => by
        obtain ⟨_, h⟩ := HO.out
        rcases h with ⟨e1, _⟩ | ⟨g', cap, cur, e1, hB, _⟩
        · rw [e1] at hg; cases hg
        · rw [e1] at hg; cases hg; exact hB)
      have HB1 := Lib.hid hbw1
      have HO1 := Lib.hid hown'
      have HLEN := Lib.hid (own_len hown')
      have HLEN0 := Lib.hid (own_len HO.out)
      have hbl1 := HL.out.below hbw1 ll
      have hbp1 := HP.out.below hbw1 pl
      have n2 := hbl1.cell 2
      have p1 := (hbp1.cell (kk * 2 + 1)).trans ((HP.out.below HB.out pl).cell (kk * 2 + 1) ▸ q1)
      simp at n2
      clear hown' hgrow hbw1 hbl1 hbp1 m2 q0 q1
      go_wp2
      go_roundw
      case rel => exact Lib.hid ⟨k', vs', done ++ [v], rfl, HC.out, by rw [← HD.out]; simp, by simpa using HO1.out, HB1.out⟩
      case measure => have h1 := HLEN.out; have h2 := HLEN0.out; have h3 := HD.out; subst h3; simp; omega
end Go.Proofs.Ytkgdpcmbbelipaa
