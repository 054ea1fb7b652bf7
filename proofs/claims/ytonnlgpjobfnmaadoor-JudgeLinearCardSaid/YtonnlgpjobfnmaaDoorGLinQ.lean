/- Joined of the texts LinF, LinP, LinQ; what each proves, and its conditions, stand ahead of it. -/
import Derived.Test.YtonnlgpjobfnmaaDoorGLinC
import Derived.Test.YtonnlgpjobfnmaaDoorGLinD
import Derived.Test.YtonnlgpjobfnmaaDoorGLinO
/- The bag: a list is added; its whole test, where it holds lists of ints alone. (Partly printed by gen_apart.py.) Conditions: what the bag's cells hold. -/
namespace Go.Proofs.YtonnlgpjobfnmaaDoor
open Go.RowKit
set_option maxRecDepth 100000
def AddPost (bg n : Nat) (cs : Array Value) (b2 : Nat) (v : Value) (xs : List Value) (w : World) (e : Ending) (w' : World) : Prop :=
  e = .returned (.tuple #[]) ∧ ∃ v', Blk w' bg 50 (cs.setIfInBounds 1 v') ∧ w'.ownsRow b2 27 1 v' (n + 1) (xs ++ [v]) ∧ Kept (fun q => q = bg ∨ (∃ v0, cs[1]? = some v0 ∧ v0.ownBlock = some q)) w w'
theorem add_bag {w w9 : World} {bg b2 n : Nat} {cs : Array Value} {v0 : Value} {xs : List Value} {o : Obj} (hb : Blk w bg 50 cs) (hr : w.ownsRow b2 27 1 v0 n xs) (r2 : (w.alloc o).grownBy w9 v0.ownBlock) : Blk w9 bg 50 cs :=
  ((r2.block bg (by simp; have := hb.lt; omega) fun e => by
    obtain ⟨_, cs', hB'⟩ := row_ty hr bg e.symm
    exact Blk.ne_ hb hB' (by decide) rfl).trans (Below.heap_alloc w o bg hb.lt)).trans hb
set_option maxHeartbeats 1600000 in
theorem addInts_any (bg b2 n : Nat) (cs : Array Value) (v0 : Value) (xs : List Value) (a : Option Addr) (len cap : Nat) (w : World) (hb : Blk w bg 50 cs) (h1 : cs[1]? = some v0) (hr : w.ownsRow b2 27 1 v0 n xs) (hn : n < 400) (hb2 : b2 ≤ w.heap.size) :
    Calls Tryd.prog 17 #[.pointer (some ⟨bg, 0, none⟩), .slice a len cap] w (AddPost bg n cs b2 (.slice a len cap) xs w) := by
  obtain ⟨js, hjs, hjsz, hjss, hjsb⟩ := info_parts infoMs
  obtain ⟨a0, c0, rfl⟩ := row_shp hr
  have c1 : w.cell? ⟨bg, 1, none⟩ = some (.slice a0 n c0) := by rw [hb.cell]; exact h1
  have f1 := hb.frozen 1
  have hx : decide (n < 400) = true := by simpa using hn
  have hxi : decide ((n : Int) < 400) = true := by simp; omega
  have HB := Lib.hid hb
  have HR := Lib.hid (hr.alloc (.cells #[.slice a len cap] 27))
  have HR0 := Lib.hid hr
  have H1 := Lib.hid h1
  have hbl := hb.lt
  clear hb hr h1
  go_enter Tryd.func17, Tryd.ntmps17
  go_wp2_with (at_builtin; refine wpList_append_keep rfl _ _ 36 rfl b2 27 js _ 1 24 Tryd.underlying36 hjs hjsz hjss hjsb rfl (by decide) _ n xs rfl HR.out ⟨w.heap.size, 0, none⟩ 1 1 [.slice a len cap] rfl rfl (World.news_of_block (heap_alloc_new _ _)) (by simp [Value.oneCell']) (by unfold maxLen; omega) (by omega) (by simp; omega) ?_; intro v9 w9 r1 r2 r3 r4 r5; obtain ⟨g9, cap9, rfl, _, _⟩ := r1.form (by omega); have S1 := Lib.hid r1; have S2 := Lib.hid r2; have hB9 : Blk w9 bg 50 cs := add_bag HB.out HR0.out r2; have HB9 := Lib.hid hB9; have c9 : w9.cell? ⟨bg, 1, none⟩ = some (.slice a0 n c0) := (by rw [hB9.cell]; exact H1.out); have f9 := hB9.frozen 1; clear r1 r2 r3 r4 r5 hB9)
  refine bodyPost_end (results_none rfl _ _ _) rfl ⟨rfl, _, HB9.out.set_ 1 _, row_same S1.out fun q cs' hq hB => Below.heap_setCell _ _ _ q fun e => ?_, ?_⟩
  · have e : q = bg := e
    subst e
    exact Blk.ne_ hB HB9.out (by decide) rfl
  · have hz : (w.alloc (.cells #[.slice a len cap] 27)).heap.size = w.heap.size + 1 := by simp
    have hz2 := S2.out.size
    have hk : Kept (fun q => q = bg ∨ (∃ v0, cs[1]? = some v0 ∧ v0.ownBlock = some q)) w w9 := ⟨S2.out.os, S2.out.tape, S2.out.output, by omega, fun q hq hS => (S2.out.block q (by omega) fun e => hS (.inr ⟨_, H1.out, e.symm⟩)).trans (Below.heap_alloc w _ q hq)⟩
    exact hk.set (p := ⟨bg, 1, none⟩) (.inl rfl) _
set_option maxHeartbeats 1600000 in
theorem apart_ints (bg bi : Nat) (P : BagP) (Ls : List Lst) (base : Nat) (hN : Ls.length ≤ 1000) (hlen : ∀ (m : Nat) (L : Lst), Ls[m]? = some L → L.len ≤ 1000000) (w0 : World) (hbase : base ≤ w0.heap.size) (h0 : Ph1 bg bi P Ls base w0 0 0 w0) (hnil : ∀ k, k < 14 → k ≠ 1 → P.cs[k]? = some (.slice none 0 0)) :
    Calls Tryd.prog 18 #[.pointer (some ⟨bg, 0, none⟩)] w0 fun e w' => e = .returned (.bool true) ∧ Below base w0 w' := by
  have HI := Lib.hid (apartInts_any bg bi P Ls base hN hlen w0 hbase h0)
  have HNI := Lib.hid hnil
  have c0 : w0.cell? ⟨bg, 0, none⟩ = some (.slice none 0 0) := by rw [h0.bag.bag.1.cell]; exact hnil 0 (by omega) (by omega)
  have HC0 := Lib.hid c0
  clear hnil h0 hlen hbase c0
  go_enter Tryd.func18, Tryd.ntmps18
  go_wp2_with (first
    | (go_at_call 49; refine (nilBytes bg _ HC0.out).mono ?_; rintro e w1 ⟨rfl, rfl⟩)
    | (go_at_call 50; refine HI.out.mono ?_; rintro e w2 ⟨rfl, hbel, hbag⟩; have HBL := Lib.hid hbel; have HBG := Lib.hid hbag; clear hbel hbag)
    | (go_at_call 51; refine (nilLongs bg _ (by rw [HBG.out.bag.1.cell]; exact HNI.out 2 (by omega) (by omega))).mono ?_; rintro e w3 ⟨rfl, rfl⟩)
    | (go_at_call 52; refine (nilSmalls bg _ (by rw [HBG.out.bag.1.cell]; exact HNI.out 3 (by omega) (by omega))).mono ?_; rintro e w3 ⟨rfl, rfl⟩)
    | (go_at_call 53; refine (nilBools bg _ (by rw [HBG.out.bag.1.cell]; exact HNI.out 4 (by omega) (by omega))).mono ?_; rintro e w3 ⟨rfl, rfl⟩)
    | (go_at_call 54; refine (nilTexts bg _ (by rw [HBG.out.bag.1.cell]; exact HNI.out 5 (by omega) (by omega))).mono ?_; rintro e w3 ⟨rfl, rfl⟩)
    | (go_at_call 55; refine (nilAccesses bg _ (by rw [HBG.out.bag.1.cell]; exact HNI.out 6 (by omega) (by omega))).mono ?_; rintro e w3 ⟨rfl, rfl⟩)
    | (go_at_call 56; refine (nilCalls bg _ (by rw [HBG.out.bag.1.cell]; exact HNI.out 7 (by omega) (by omega))).mono ?_; rintro e w3 ⟨rfl, rfl⟩)
    | (go_at_call 57; refine (nilRaces bg _ (by rw [HBG.out.bag.1.cell]; exact HNI.out 8 (by omega) (by omega))).mono ?_; rintro e w3 ⟨rfl, rfl⟩)
    | (go_at_call 58; refine (nilFlowNodes bg _ (by rw [HBG.out.bag.1.cell]; exact HNI.out 9 (by omega) (by omega))).mono ?_; rintro e w3 ⟨rfl, rfl⟩)
    | (go_at_call 59; refine (nilEnds bg _ (by rw [HBG.out.bag.1.cell]; exact HNI.out 10 (by omega) (by omega))).mono ?_; rintro e w3 ⟨rfl, rfl⟩)
    | (go_at_call 60; refine (nilRows bg _ (by rw [HBG.out.bag.1.cell]; exact HNI.out 11 (by omega) (by omega))).mono ?_; rintro e w3 ⟨rfl, rfl⟩)
    | (go_at_call 61; refine (nilLongRows bg _ (by rw [HBG.out.bag.1.cell]; exact HNI.out 12 (by omega) (by omega))).mono ?_; rintro e w3 ⟨rfl, rfl⟩)
    | (go_at_call 62; refine (nilLets bg _ (by rw [HBG.out.bag.1.cell]; exact HNI.out 13 (by omega) (by omega))).mono ?_; rintro e w3 ⟨rfl, rfl⟩))
  go_ret
  exact ⟨rfl, HBL.out⟩
end Go.Proofs.YtonnlgpjobfnmaaDoor
/- JudgeLinear's walk: the guards that answer at once. Conditions: what the calls' cells hold; Go's table of the powers of ten. -/
namespace Go.Proofs.YtonnlgpjobfnmaaDoor
open Go.RowKit
set_option maxRecDepth 100000
def LawPost (w : World) (e : Ending) (w' : World) : Prop := e = .returned (.bool true) ∧ Below w.heap.size w w'
theorem long_any (n : Nat) (w : World) : Calls Tryd.prog 8 #[.int .i64 n] w fun e w' => e = .returned (.bool (decide (2147483647 < n))) ∧ w' = w := by
  go_enter Tryd.func8, Tryd.ntmps8
  go_wp2_with fail
  refine bodyPost_ret (results_tmp rfl _ _ _) rfl ⟨?_, rfl⟩
  simp [go_sem]
  omega
set_option maxHeartbeats 1600000 in
theorem law_long (k : Int) (b : Option Addr) (cap n : Nat) (hl : 2147483647 < n) (w : World) (hT : Tens w) :
    Calls Tryd.prog 3 #[.int .i64 k, .slice b n cap] w (LawPost w) := by
  have HT := Lib.hid hT
  have hd : decide (2147483647 < n) = true := by simpa using hl
  clear hT
  go_enter Tryd.func3, Tryd.ntmps3
  go_wp2_with (first
    | (go_at_call 8; refine (long_any n _).mono ?_; rintro e w1 ⟨he, hw1⟩; rw [hd] at he; subst he hw1)
    | (go_at_call 10; go_must (refine (lives_any _ HT.out).mono ?_); rintro e w9 ⟨rfl, hk9⟩; have HK9 := Lib.hid hk9; clear hk9))
  exact bodyPost_ret (results_tmp rfl _ _ _) rfl ⟨rfl, HK9.out⟩
end Go.Proofs.YtonnlgpjobfnmaaDoor
/- JudgeLinear's walk: what it leans on. Conditions: what the calls' cells hold; Go's table of the powers of ten. -/
namespace Go.Proofs.YtonnlgpjobfnmaaDoor
open Go.RowKit
set_option maxRecDepth 100000
theorem wide_front {w : World} {B : Nat} {b : Option Addr} {X : List Cal} (h : CallsAt w B b (wideC X)) : CallsAt w B b X :=
  ⟨fun c hc => h.wf c (by unfold wideC; exact List.mem_append_left _ hc), fun i c hc => h.at_ i c (by rw [wideC_lo (List.getElem?_eq_some_iff.1 hc).1]; exact hc)⟩
theorem wide_lt {w : World} {B : Nat} {b : Option Addr} {X : List Cal} (h : CallsAt w B b (wideC X)) : ∀ g off, b = some ⟨g, off, none⟩ → g < B := fun g off e => by
  obtain ⟨g', off', e', hg, _⟩ := h.at_ X.length _ (wideC_hi (Nat.le_refl _) (by omega))
  rw [e] at e'
  injection e' with e'
  injection e' with e'
  omega
theorem linear_n {k : Int} (hk : i64of k) {H : List Cal} {n : Nat} (hn : H.length = n) (b : Option Addr) (cap : Nat) (hcap : n ≤ 2147483647) (w : World) (hC : CallsAt w w.heap.size b H) (hb : ∀ g off, b = some ⟨g, off, none⟩ → g < w.heap.size) (hT : Tens w) :
    Calls Tryd.prog 12 #[.int .i64 k, .slice b n cap] w (LinPost k H w) := by
  subst hn
  exact linear_any k hk b cap H (by omega) w hC hb hT
theorem own_ints {w : World} {base n cap : Nat} {a : Option Addr} {l : List Nat} (h : w.ownsRow base 3 1 (.slice a n cap) n (l.map fun i => Value.int .i64 (i : Nat))) : IntsAt w a (l.map fun i : Nat => (i : Int)) := fun i x hx => by
  have hl : l.length = n := by simpa using h.1
  have hi : i < n := by have := (List.getElem?_eq_some_iff.1 hx).1; simp at this; omega
  obtain ⟨g, _, e, _, hg⟩ := h.form (by omega)
  injection e with e _ _
  subst e
  have hc := h.cellAt i (by omega)
  rw [List.getElem?_map] at hx hc
  obtain ⟨y, hy, rfl⟩ := Option.map_eq_some_iff.1 hx
  rw [hy] at hc
  exact ⟨g, 0, rfl, by rw [Nat.zero_add]; exact hc⟩
theorem lst_of_row {w : World} {base n cap : Nat} {a : Option Addr} {xs : List Value} (h : w.ownsRow base 3 1 (.slice a n cap) n xs) : ∃ L : Lst, L.val = .slice a n cap ∧ L.len = n ∧ LOk w base L ∧ ∀ g, L.b = some g → base ≤ g ∧ g < w.heap.size := by
  obtain ⟨h1, ⟨h2, h3⟩ | ⟨g, cap', cur, h3, h4, h5, h6, h7, h8, h9⟩⟩ := h
  · injection h2 with e1 e2 e3
    subst e1 e2 e3
    exact ⟨⟨none, 0, 0⟩, rfl, rfl, .inl ⟨rfl, rfl, rfl⟩, fun g hg => by cases hg⟩
  · injection h3 with e1 e2 e3
    subst e1 e3
    exact ⟨⟨some g, n, cap⟩, rfl, rfl, .inr ⟨g, cur, rfl, h4, h5, by simpa using h8, h6, h7⟩, fun g' hg => by
      injection hg with hg
      subst hg
      exact ⟨h4, (Array.getElem?_eq_some_iff.1 h5).1⟩⟩
theorem ph1_of_bag {w : World} {bg base b2 : Nat} {cs : Array Value} {v : Value} {Ls : List Lst} (hb : Blk w bg 50 cs) (hv : cs[1]? = some v) (hr : w.ownsRow b2 27 1 v Ls.length (Ls.map Lst.val)) (h0 : 0 < Ls.length) (hls : LsOk w base Ls) :
    ∃ bi P, P.cs = cs ∧ Ph1 bg bi P Ls base w 0 0 w := by
  obtain ⟨h1, ⟨_, h3⟩ | ⟨g, cap', cur, h3, h4, h5, h6, h7, h8, h9⟩⟩ := hr
  · omega
  · subst h3
    refine ⟨g, ⟨cap', cs⟩, rfl, ⟨⟨hb, hv⟩, cur, h5, fun m L hm => ?_⟩, hls, Below.refl _ _, fun m L j g' hm hj hn => by omega⟩
    have hlt : m < Ls.length := (List.getElem?_eq_some_iff.1 hm).1
    have e : (cur.toList.take (Ls.length * 1))[m]? = some L.val := by rw [h9, List.getElem?_map, hm]; rfl
    rw [List.getElem?_take_of_lt (by omega), Array.getElem?_toList] at e
    exact e
theorem lsOk_two {w : World} {base S : Nat} {L1 L2 : Lst} (h1 : LOk w base L1) (h2 : LOk w base L2) (a1 : ∀ g, L1.b = some g → g < S) (a2 : ∀ g, L2.b = some g → S ≤ g) : LsOk w base [L1, L2] := by
  refine ⟨fun m L hm => ?_, fun m m' L L' g hm hm' hg hg' => ?_⟩
  · rcases m with _ | _ | m
    · obtain rfl : L1 = L := by simpa using hm
      exact h1
    · obtain rfl : L2 = L := by simpa using hm
      exact h2
    · simp at hm
  · rcases m with _ | _ | m <;> rcases m' with _ | _ | m'
    · rfl
    · obtain rfl : L1 = L := by simpa using hm
      obtain rfl : L2 = L' := by simpa using hm'
      have := a1 g hg
      have := a2 g hg'
      omega
    · simp at hm'
    · obtain rfl : L2 = L := by simpa using hm
      obtain rfl : L1 = L' := by simpa using hm'
      have := a2 g hg
      have := a1 g hg'
      omega
    · rfl
    · simp at hm'
    · simp at hm
    · simp at hm
    · simp at hm
theorem linOf_len (k : Int) (H : List Cal) : ((linOf k H).1.getD []).length ≤ 4096 := by
  unfold linOf
  split
  · simp
  · split
    · simp
    · split
      · cases e : Lin k H (mustOf H) 0 (begins k) with
        | none => simp
        | some l => exact Lin_len e
      · simp
theorem LOk.mono {w : World} {base b' : Nat} {L : Lst} (h : LOk w base L) (hb : b' ≤ base) : LOk w b' L := by
  rcases h with h | ⟨g, cs, h1, h2, h3⟩
  · exact .inl h
  · exact .inr ⟨g, cs, h1, Nat.le_trans hb h2, h3⟩
/-- The cells of a bag that is empty. -/
def nil14 : Array Value := #[.slice none 0 0, .slice none 0 0, .slice none 0 0, .slice none 0 0, .slice none 0 0, .slice none 0 0, .slice none 0 0, .slice none 0 0, .slice none 0 0, .slice none 0 0, .slice none 0 0, .slice none 0 0, .slice none 0 0, .slice none 0 0]
theorem nil14_at : ∀ k, k < 14 → nil14[k]? = some (.slice none 0 0) := by
  intro k hk
  rcases (show k = 0 ∨ k = 1 ∨ k = 2 ∨ k = 3 ∨ k = 4 ∨ k = 5 ∨ k = 6 ∨ k = 7 ∨ k = 8 ∨ k = 9 ∨ k = 10 ∨ k = 11 ∨ k = 12 ∨ k = 13 by omega) with rfl | rfl | rfl | rfl | rfl | rfl | rfl | rfl | rfl | rfl | rfl | rfl | rfl | rfl <;> rfl
theorem nil14_set (v : Value) : (nil14.setIfInBounds 1 v)[1]? = some v := rfl
theorem nil14_set2 (v u : Value) : ((nil14.setIfInBounds 1 v).setIfInBounds 1 u)[1]? = some u := rfl
theorem nil14_else {v u : Value} {k : Nat} (hk : k < 14) (h : k ≠ 1) : ((nil14.setIfInBounds 1 v).setIfInBounds 1 u)[k]? = some (.slice none 0 0) := by
  rw [Array.getElem?_setIfInBounds_ne (fun e => h e.symm), Array.getElem?_setIfInBounds_ne (fun e => h e.symm), nil14_at k hk]
theorem add_below {bg B : Nat} {cs : Array Value} {v0 : Value} {xs : List Value} {b2 n : Nat} {w w' : World} (h1 : cs[1]? = some v0) (hr : w.ownsRow b2 27 1 v0 n xs) (hk : Kept (fun q => q = bg ∨ (∃ v0, cs[1]? = some v0 ∧ v0.ownBlock = some q)) w w') (hB : B ≤ w.heap.size) (hg : B ≤ bg) (h2 : B ≤ b2) : Below B w w' :=
  hk.below hB fun q hq => by
    rcases hq with rfl | ⟨v, hv, ho⟩
    · exact hg
    · rw [h1] at hv
      injection hv with hv
      subst hv
      exact Nat.le_trans h2 (hr.lt q ho).1
end Go.Proofs.YtonnlgpjobfnmaaDoor
