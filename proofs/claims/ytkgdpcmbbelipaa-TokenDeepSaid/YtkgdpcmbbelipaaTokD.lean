/- row and Close at token's entry, called free, for at most two entries. Conditions: what the blocks hold. -/
import Derived.Test.YtkgdpcmbbelipaaTokC
import Derived.Deep.AppendLies
namespace Go.Proofs.Ytkgdpcmbbelipaa
open Go.RowKit Go.MuLone
set_option maxRecDepth 100000

theorem entVals_append (es fs : List Ent) : entVals (es ++ fs) = entVals es ++ entVals fs := by simp [entVals]
theorem own_reverseE {B : Nat} {v : Value} {n : Nat} {es : List Ent} {w : World} (hown : w.ownsRow B 78 2 v n (entVals es)) (hn : n ≤ 2) (hf : ∀ e ∈ es, FnVal e.2) :
    Calls Try.prog 67 #[v] w fun e w' => e = .returned (.tuple #[]) ∧ w'.ownsRow B 78 2 v n (entVals es.reverse) ∧ w.grownBy w' v.ownBlock := by
  have hl := hown.1
  rw [entVals_len] at hl
  have hsl : ∃ a c, v = .slice a n c := by
    rcases hown.2 with ⟨rfl, rfl⟩ | ⟨g, cap, cur, rfl, _⟩
    · exact ⟨_, _, rfl⟩
    · exact ⟨_, _, rfl⟩
  by_cases h1 : n ≤ 1
  · obtain ⟨a, c, rfl⟩ := hsl
    refine (reverseE_less a n c h1 w).mono ?_
    rintro e w' ⟨rfl, rfl⟩
    have hrev : es.reverse = es := by
      match es, hl with
      | [], _ => rfl
      | [x], _ => rfl
      | x :: y :: z, hl => simp at hl; omega
    exact ⟨rfl, by rw [hrev]; exact hown, World.grownBy.refl w _⟩
  · obtain rfl : n = 2 := by omega
    match es, hl with
    | [(a, f), (b, h)], _ =>
      rcases hown.2 with ⟨_, h0⟩ | ⟨g, cap, cur, rfl, hB, hb, hnc, hcm, hcs, ht⟩
      · omega
      · have hq : ∀ j, j < 4 → cur[j]? = (entVals [(a, f), (b, h)])[j]? := fun j hj => by
          rw [← ht, List.getElem?_take, if_pos hj, Array.getElem?_toList]
        refine (reverseE_two g cap cur a b f h (hf (a, f) (by simp)) (hf (b, h) (by simp)) w hb ((hq 0 (by omega)).trans rfl) ((hq 1 (by omega)).trans rfl) ((hq 2 (by omega)).trans rfl) ((hq 3 (by omega)).trans rfl)).mono ?_
        rintro e w' ⟨rfl, hs⟩
        have hb1 : Blk (w.setCell ⟨g, 0, none⟩ (.pointer b)) g 78 _ := Blk.set_ hb 0 (.pointer b)
        have hb2 : Blk ((w.setCell ⟨g, 0, none⟩ (.pointer b)).setCell ⟨g, 1, none⟩ h) g 78 _ := hb1.set_ 1 h
        have hb3 : Blk (((w.setCell ⟨g, 0, none⟩ (.pointer b)).setCell ⟨g, 1, none⟩ h).setCell ⟨g, 2, none⟩ (.pointer a)) g 78 _ := hb2.set_ 2 (.pointer a)
        have hb4 : Blk ((((w.setCell ⟨g, 0, none⟩ (.pointer b)).setCell ⟨g, 1, none⟩ h).setCell ⟨g, 2, none⟩ (.pointer a)).setCell ⟨g, 3, none⟩ f) g 78 _ := hb3.set_ 3 f
        have hb5 := hs.blk hb4
        have g1 : w.grownBy (w.setCell ⟨g, 0, none⟩ (.pointer b)) (some g) := grown_set (World.grownBy.refl w _) (p := ⟨g, 0, none⟩) rfl _
        have g2 : w.grownBy ((w.setCell ⟨g, 0, none⟩ (.pointer b)).setCell ⟨g, 1, none⟩ h) (some g) := grown_set g1 (p := ⟨g, 1, none⟩) rfl _
        have g3 : w.grownBy (((w.setCell ⟨g, 0, none⟩ (.pointer b)).setCell ⟨g, 1, none⟩ h).setCell ⟨g, 2, none⟩ (.pointer a)) (some g) := grown_set g2 (p := ⟨g, 2, none⟩) rfl _
        have h4 : w.grownBy ((((w.setCell ⟨g, 0, none⟩ (.pointer b)).setCell ⟨g, 1, none⟩ h).setCell ⟨g, 2, none⟩ (.pointer a)).setCell ⟨g, 3, none⟩ f) (some g) := grown_set g3 (p := ⟨g, 3, none⟩) rfl _
        have hg : w.grownBy w' (some g) := ⟨hs.2.1.trans h4.os, hs.2.2.1.trans h4.tape, hs.2.2.2.trans h4.output, by rw [hs.1]; exact h4.size, fun k hk hne => by rw [hs.1]; exact h4.block k hk hne⟩
        clear hb1 hb2 hb3 hb4 g1 g2 g3 h4 hs
        refine ⟨rfl, ⟨rfl, .inr ⟨g, cap, _, rfl, hB, hb5, hnc, hcm, by simpa using hcs, ?_⟩⟩, hg⟩
        have hsz : 4 ≤ cur.size := by omega
        apply List.ext_getElem?
        intro t
        by_cases h4 : t < 4
        · rw [List.getElem?_take_of_lt (by omega), Array.getElem?_toList]
          rcases (show t = 0 ∨ t = 1 ∨ t = 2 ∨ t = 3 by omega) with rfl | rfl | rfl | rfl
          · rw [Array.getElem?_setIfInBounds_ne (by omega), Array.getElem?_setIfInBounds_ne (by omega), Array.getElem?_setIfInBounds_ne (by omega), Array.getElem?_setIfInBounds_self_of_lt (by omega)]; rfl
          · rw [Array.getElem?_setIfInBounds_ne (by omega), Array.getElem?_setIfInBounds_ne (by omega), Array.getElem?_setIfInBounds_self_of_lt (by simp; omega)]; rfl
          · rw [Array.getElem?_setIfInBounds_ne (by omega), Array.getElem?_setIfInBounds_self_of_lt (by simp; omega)]; rfl
          · rw [Array.getElem?_setIfInBounds_self_of_lt (by simp; omega)]; rfl
        · rw [List.getElem?_eq_none (Nat.le_trans (List.length_take_le _ _) (by omega)), List.getElem?_eq_none (by simp [entVals]; omega)]

/-- From place k on: the entries that are put on, the last one first. -/
inductive ChainE (cs : Array Value) : Nat → List Ent → Prop
  | nil : ChainE cs 0 []
  | cons {k k' : Nat} {a : Option Addr} {f : Value} {vs : List Ent} : k ≠ 0 → FnVal f → cs[k * 3]? = some (.pointer a) → cs[k * 3 + 1]? = some f → cs[k * 3 + 2]? = some (.int .i64 k') → ChainE cs k' vs → ChainE cs k ((a, f) :: vs)
theorem ChainE.fn {cs : Array Value} {k : Nat} {vs : List Ent} (h : ChainE cs k vs) : ∀ e ∈ vs, FnVal e.2 := by
  induction h with
  | nil => intro e he; cases he
  | cons _ hf _ _ _ _ ih =>
    intro e he
    rcases List.mem_cons.1 he with rfl | he
    · exact hf
    · exact ih e he
def RowPostE (w : World) (vs : List Ent) (e : Ending) (w' : World) : Prop :=
  ∃ v, e = .returned v ∧ w'.ownsRow w.heap.size 78 2 v vs.length (entVals vs.reverse) ∧ Below w.heap.size w w'
def RowRelE (w : World) (cs : Array Value) (all : List Ent) (kv rv : Value) (wr : World) : Prop :=
  ∃ (k : Nat) (left done : List Ent), kv = .int .i64 k ∧ ChainE cs k left ∧ done ++ left = all ∧ wr.ownsRow w.heap.size 78 2 rv done.length (entVals done) ∧ Below w.heap.size w wr

set_option maxHeartbeats 2000000 in
theorem row_anyE (l c1 c2 p : Nat) (last head : Int) (n : Nat) (cs : Array Value) (k : Nat) (vs : List Ent) (w : World) (h : ListAtE w l c1 c2 p last head n cs) (hc : ChainE cs k vs) (hv : vs.length ≤ 2) :
    Calls Try.prog 53 #[.pointer (some ⟨l, 0, none⟩), .int .i64 k] w (RowPostE w vs) := by
  obtain ⟨hl, i1, i2, hp, hcs, hne⟩ := h
  obtain ⟨i0, hi0, hz0, hz1, hz2⟩ := info_parts infoEntry
  have ll := hl.lt
  have pl := hp.lt
  have HFN := Lib.hid hc.fn
  have H0 := Lib.hid (show RowRelE w cs vs (.int .i64 k) (.slice none 0 0) w from ⟨k, vs, [], rfl, hc, rfl, World.ownsRow_nil _ _ _ _, Below.refl _ _⟩)
  have HL := Lib.hid hl
  have HP := Lib.hid hp
  have HS := Lib.hid hcs
  clear hl i1 i2 hp hne hc hcs
  go_enter Try.func53, Try.ntmps53
  go_wp2
  go_loopw [1, 5] (fun kv rv wr => Hid (RowRelE w cs vs kv rv wr)) (fun _ rv _ => vs.length + 1 - rowLen rv)
  case atStart => exact H0
  case round =>
    obtain ⟨kk, left, done, rfl, hch, hdl, hown, hbw⟩ := hrel.out
    have HD := Lib.hid hdl
    have HB := Lib.hid hbw
    have HO := Lib.hid hown
    clear hrel hdl hbw hown
    cases hch with
    | nil =>
      have hx : ((((0 : Nat) : Int)) != 0) = false := by rfl
      go_wp2_with fail
      have hdone : done = vs := by simpa using HD.out
      subst hdone
      refine (own_reverseE HO.out (by omega) HFN.out).mono ?_
      rintro e w1 ⟨rfl, hown1, hg1⟩
      have HO1 := Lib.hid hown1
      have HG1 := Lib.hid hg1
      clear hown1 hg1
      go_wp2
      go_ret
      exact ⟨_, rfl, HO1.out, HB.out.grown HG1.out HB.out.size (fun g hg => (HO.out.lt g hg).1)⟩
    | @cons _ k' a f vs' hk hfn h1 h2 h4 h3 =>
      have hlt : kk < n := by
        have := (Array.getElem?_eq_some_iff.1 h1).1
        have := HS.out
        omega
      have hx : ((kk : Int) != 0) = true := by rw [bne_iff_ne]; omega
      have hbl := HL.out.below HB.out ll
      have hbp := HP.out.below HB.out pl
      have m2 := hbl.cell 2
      have q0 := (hbp.cell (kk * 3)).trans h1
      have q1 := (hbp.cell (kk * 3 + 1)).trans h2
      have q2 := (hbp.cell (kk * 3 + 2)).trans h4
      simp at m2
      have HC := Lib.hid h3
      have HSZ := Lib.hid HB.out.size
      have HQ2 := Lib.hid h4
      have ONE : Hid (f.oneCell' = true) := Lib.hid (by rcases hfn with rfl | ⟨fn, cap, rfl⟩ <;> rfl)
      clear h1 h2 h3 h4 hbl hbp hfn
      have hk0 : (0 : Int) ≤ kk := by omega
      have hki : (kk : Int) < n := by omega
      go_wp2_with (at_builtin; refine wpList_append_own _ rfl _ _ 80 rfl w.heap.size 78 i0 (.agg #[.pointer none, .nilFunc]) 2 16 Try.underlying80 hi0 hz0 hz1 hz2 rfl (by decide) _ _ _ rfl (HO.out.alloc _) ⟨wr.heap.size, 0, none⟩ 1 1 [.pointer a, f] rfl rfl ?c1 ?c2 ?c3 ?c4 ?c5 ?_)
      case c1 => exact World.news_of_block (Blk.new wr 78 #[.pointer a, f])
      case c2 => intro u hu; simp at hu; rcases hu with rfl | rfl; rfl; exact ONE.out
      case c3 => unfold maxLen; have := HD.out; subst this; simp at hv; omega
      case c4 => have := HD.out; subst this; simp at hv; omega
      case c5 => have := HSZ.out; simp; omega
      intro v' w1 hown' hgrow _
      have hbw1 : Below w.heap.size w w1 := (HB.out.alloc HB.out.size _).grown hgrow (by have := HB.out.size; simp; omega) (fun g hg => (HO.out.lt g hg).1)
      have HB1 := Lib.hid hbw1
      have HO1 := Lib.hid hown'
      have HLEN := Lib.hid (own_len hown')
      have HLEN0 := Lib.hid (own_len HO.out)
      have hbl1 := HL.out.below hbw1 ll
      have hbp1 := HP.out.below hbw1 pl
      have n2 := hbl1.cell 2
      have p1 := (hbp1.cell (kk * 3 + 2)).trans HQ2.out
      simp at n2
      clear hown' hgrow hbw1 hbl1 hbp1 m2 q0 q1 q2
      go_wp2
      go_roundw
      case rel => exact Lib.hid ⟨k', vs', done ++ [(a, f)], rfl, HC.out, by rw [← HD.out]; simp, by rw [entVals_append]; simpa [entVals] using HO1.out, HB1.out⟩
      case measure => have h1 := HLEN.out; have h2 := HLEN0.out; have h3 := HD.out; subst h3; simp; omega
end Go.Proofs.Ytkgdpcmbbelipaa
