/- The bag: a list is added; its whole test, where it holds lists of ints alone. (Partly printed by gen_apart.py.) Conditions: what the bag's cells hold. -/
import Derived.Test.YtonnlgpjobfnmaaDoorRLinC
import Derived.Test.YtonnlgpjobfnmaaDoorRLinD
namespace Go.Proofs.YtonnlgpjobfnmaaDoor
open Go.RowKit
set_option maxRecDepth 100000
def AddPost (bg n : Nat) (cs : Array Value) (b2 : Nat) (v : Value) (xs : List Value) (w : World) (e : Ending) (w' : World) : Prop :=
  e = .returned (.tuple #[]) ∧ ∃ v', Blk w' bg 50 (cs.setIfInBounds 1 v') ∧ w'.ownsRow b2 27 1 v' (n + 1) (xs ++ [v]) ∧ Kept (fun q => q = bg ∨ (∃ v0, cs[1]? = some v0 ∧ v0.ownBlock = some q)) w w'
theorem add_bag {w w9 : World} {bg b2 n : Nat} {cs : Array Value} {v0 : Value} {xs : List Value} {o : Obj} (hb : Blk w bg 50 cs) (hr : w.ownsRow b2 27 1 v0 n xs) (r2 : (w.alloc o).grownBy w9 v0.ownBlock) : Blk w9 bg 50 cs :=
  ((r2.block bg (by simp; have := hb.lt; omega) fun e => by
    obtain ⟨_, cs', hB'⟩ := row_ty hr bg e.symm
    exact Blk.ne_ hb hB' (by decide) rfl).trans (Below.heap_alloc w o bg hb.lt)).trans hb
set_option maxHeartbeats 1600000 in
theorem addInts_any (bg b2 n : Nat) (cs : Array Value) (v0 : Value) (xs : List Value) (a : Option Addr) (len cap : Nat) (w : World) (hb : Blk w bg 50 cs) (h1 : cs[1]? = some v0) (hr : w.ownsRow b2 27 1 v0 n xs) (hn : n < 400) (hb2 : b2 ≤ w.heap.size) :
    Calls Tryd.prog 17 #[.pointer (some ⟨bg, 0, none⟩), .slice a len cap] w (AddPost bg n cs b2 (.slice a len cap) xs w) := by
  obtain ⟨js, hjs, hjsz, hjss, hjsb⟩ := info_parts infoMs
  obtain ⟨a0, c0, rfl⟩ := row_shp hr
  have c1 : w.cell? ⟨bg, 1, none⟩ = some (.slice a0 n c0) := by rw [hb.cell]; exact h1
  have f1 := hb.frozen 1
  have hx : decide (n < 400) = true := by simpa using hn
  have hxi : decide ((n : Int) < 400) = true := by simp; omega
  have HB := Lib.hid hb
  have HR := Lib.hid (hr.alloc (.cells #[.slice a len cap] 27))
  have HR0 := Lib.hid hr
  have H1 := Lib.hid h1
  have hbl := hb.lt
  clear hb hr h1
  go_enter Tryd.func17, Tryd.ntmps17
  go_wp2_with (at_builtin; refine wpList_append_keep rfl _ _ 36 rfl b2 27 js _ 1 24 Tryd.underlying36 hjs hjsz hjss hjsb rfl (by decide) _ n xs rfl HR.out ⟨w.heap.size, 0, none⟩ 1 1 [.slice a len cap] rfl rfl (World.news_of_block (heap_alloc_new _ _)) (by simp [Value.oneCell']) (by unfold maxLen; omega) (by omega) (by simp; omega) ?_; intro v9 w9 r1 r2 r3 r4 r5; obtain ⟨g9, cap9, rfl, _, _⟩ := r1.form (by omega); have S1 := Lib.hid r1; have S2 := Lib.hid r2; have hB9 : Blk w9 bg 50 cs := add_bag HB.out HR0.out r2; have HB9 := Lib.hid hB9; have c9 : w9.cell? ⟨bg, 1, none⟩ = some (.slice a0 n c0) := (by rw [hB9.cell]; exact H1.out); have f9 := hB9.frozen 1; clear r1 r2 r3 r4 r5 hB9)
  refine bodyPost_end (results_none rfl _ _ _) rfl ⟨rfl, _, HB9.out.set_ 1 _, row_same S1.out fun q cs' hq hB => Below.heap_setCell _ _ _ q fun e => ?_, ?_⟩
  · have e : q = bg := e
    subst e
    exact Blk.ne_ hB HB9.out (by decide) rfl
  · have hz : (w.alloc (.cells #[.slice a len cap] 27)).heap.size = w.heap.size + 1 := by simp
    have hz2 := S2.out.size
    have hk : Kept (fun q => q = bg ∨ (∃ v0, cs[1]? = some v0 ∧ v0.ownBlock = some q)) w w9 := ⟨S2.out.os, S2.out.tape, S2.out.output, by omega, fun q hq hS => (S2.out.block q (by omega) fun e => hS (.inr ⟨_, H1.out, e.symm⟩)).trans (Below.heap_alloc w _ q hq)⟩
    exact hk.set (p := ⟨bg, 1, none⟩) (.inl rfl) _
set_option maxHeartbeats 1600000 in
theorem apart_ints (bg bi : Nat) (P : BagP) (Ls : List Lst) (base : Nat) (hN : Ls.length ≤ 1000) (hlen : ∀ (m : Nat) (L : Lst), Ls[m]? = some L → L.len ≤ 1000000) (w0 : World) (hbase : base ≤ w0.heap.size) (h0 : Ph1 bg bi P Ls base w0 0 0 w0) (hnil : ∀ k, k < 14 → k ≠ 1 → P.cs[k]? = some (.slice none 0 0)) :
    Calls Tryd.prog 18 #[.pointer (some ⟨bg, 0, none⟩)] w0 fun e w' => e = .returned (.bool true) ∧ Below base w0 w' := by
  have HI := Lib.hid (apartInts_any bg bi P Ls base hN hlen w0 hbase h0)
  have HNI := Lib.hid hnil
  have c0 : w0.cell? ⟨bg, 0, none⟩ = some (.slice none 0 0) := by rw [h0.bag.bag.1.cell]; exact hnil 0 (by omega) (by omega)
  have HC0 := Lib.hid c0
  clear hnil h0 hlen hbase c0
  go_enter Tryd.func18, Tryd.ntmps18
  go_wp2_with (first
    | (go_at_call 49; refine (nilBytes bg _ HC0.out).mono ?_; rintro e w1 ⟨rfl, rfl⟩)
    | (go_at_call 50; refine HI.out.mono ?_; rintro e w2 ⟨rfl, hbel, hbag⟩; have HBL := Lib.hid hbel; have HBG := Lib.hid hbag; clear hbel hbag)
    | (go_at_call 51; refine (nilLongs bg _ (by rw [HBG.out.bag.1.cell]; exact HNI.out 2 (by omega) (by omega))).mono ?_; rintro e w3 ⟨rfl, rfl⟩)
    | (go_at_call 52; refine (nilSmalls bg _ (by rw [HBG.out.bag.1.cell]; exact HNI.out 3 (by omega) (by omega))).mono ?_; rintro e w3 ⟨rfl, rfl⟩)
    | (go_at_call 53; refine (nilBools bg _ (by rw [HBG.out.bag.1.cell]; exact HNI.out 4 (by omega) (by omega))).mono ?_; rintro e w3 ⟨rfl, rfl⟩)
    | (go_at_call 54; refine (nilTexts bg _ (by rw [HBG.out.bag.1.cell]; exact HNI.out 5 (by omega) (by omega))).mono ?_; rintro e w3 ⟨rfl, rfl⟩)
    | (go_at_call 55; refine (nilAccesses bg _ (by rw [HBG.out.bag.1.cell]; exact HNI.out 6 (by omega) (by omega))).mono ?_; rintro e w3 ⟨rfl, rfl⟩)
    | (go_at_call 56; refine (nilCalls bg _ (by rw [HBG.out.bag.1.cell]; exact HNI.out 7 (by omega) (by omega))).mono ?_; rintro e w3 ⟨rfl, rfl⟩)
    | (go_at_call 57; refine (nilRaces bg _ (by rw [HBG.out.bag.1.cell]; exact HNI.out 8 (by omega) (by omega))).mono ?_; rintro e w3 ⟨rfl, rfl⟩)
    | (go_at_call 58; refine (nilFlowNodes bg _ (by rw [HBG.out.bag.1.cell]; exact HNI.out 9 (by omega) (by omega))).mono ?_; rintro e w3 ⟨rfl, rfl⟩)
    | (go_at_call 59; refine (nilEnds bg _ (by rw [HBG.out.bag.1.cell]; exact HNI.out 10 (by omega) (by omega))).mono ?_; rintro e w3 ⟨rfl, rfl⟩)
    | (go_at_call 60; refine (nilRows bg _ (by rw [HBG.out.bag.1.cell]; exact HNI.out 11 (by omega) (by omega))).mono ?_; rintro e w3 ⟨rfl, rfl⟩)
    | (go_at_call 61; refine (nilLongRows bg _ (by rw [HBG.out.bag.1.cell]; exact HNI.out 12 (by omega) (by omega))).mono ?_; rintro e w3 ⟨rfl, rfl⟩)
    | (go_at_call 62; refine (nilLets bg _ (by rw [HBG.out.bag.1.cell]; exact HNI.out 13 (by omega) (by omega))).mono ?_; rintro e w3 ⟨rfl, rfl⟩))
  go_ret
  exact ⟨rfl, HBL.out⟩
end Go.Proofs.YtonnlgpjobfnmaaDoor
