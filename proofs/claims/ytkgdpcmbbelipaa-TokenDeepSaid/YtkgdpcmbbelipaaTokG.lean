/- Tokens: a Child of one that is cancelled, OnCancel, the function that TokenDeep lays. Conditions: what the blocks hold. -/
import Derived.Test.YtkgdpcmbbelipaaTokF
import Derived.Deep.RegionWith
namespace Go.Proofs.Ytkgdpcmbbelipaa
open Go.RowKit Go.MuLone
set_option maxRecDepth 100000

/-- A child that begins cancelled. -/
def LateChild (w : World) (d x : Int) (e : Ending) (w' : World) : Prop :=
  ∃ (k2 : Tk) (cs2 : Array Value), e = .returned (.tuple #[.pointer (some ⟨k2.T, 0, none⟩), .int .i64 0]) ∧ k2.lo = w.heap.size ∧ k2.hi ≤ w'.heap.size ∧ k2.At w' (d + 1) x 0 (-1) cs2 ∧ Kept (fun _ => False) w w'
section
variable {k : Tk} {w : World} {x last head : Int} {cs : Array Value}
set_option maxHeartbeats 2000000 in
theorem child_late {d : Nat} (h : k.At w d x last (-1) cs) (hd : d < 64) (hk : k.hi ≤ w.heap.size) : Calls Try.prog 13 #[.pointer (some ⟨k.T, 0, none⟩), .pointer none] w (LateChild w d x) := by
  have H := Lib.hid h.made0
  have HA := Lib.hid h
  have HK := Lib.hid hk
  have m2 := h.made2
  have hd1 : ((d : Int) == 64) = false := by rw [beq_eq_false_iff_ne]; omega
  clear h hk
  go_enter Try.func13, Try.ntmps13
  go_wp2_with (go_at_call 34; refine (made_yesT _ _ _ H.out).mono ?_; rintro e w' ⟨rfl, rfl⟩)
  refine (tok_new w).mono ?_
  rintro e w1 ⟨k2, cs2, rfl, h1, h2, h3, h4⟩
  have K1 : Hid (Kept (fun _ => False) w w1) := Lib.hid (Kept.of_below h3)
  have HA1 := Lib.hid (HA.out.keep K1.out (fun _ _ h => h))
  have HC1 := Lib.hid h4
  have LO := Lib.hid h1
  have HI := Lib.hid h2
  clear h1 h2 h3 h4
  have n2 := HA1.out.made2
  have n3 := HC1.out.made2
  have nz := HC1.out.1.frozen 2
  have HC2 := Lib.hid (HC1.out.depth ((d : Int) + 1))
  have hs1 := K1.out.size
  have K2 : Hid (Kept (fun q => w.heap.size ≤ q) w1 (w1.setCell ⟨k2.T, 2, none⟩ (.int .i64 ((d : Int) + 1)))) := Lib.hid ⟨rfl, rfl, rfl, by simp, fun q _ hq2 => heap_set_ne w1 ⟨k2.T, 2, none⟩ _ q (fun hh => hq2 (by have := HC1.out.2.2.2.2.2.1.1; have := LO.out; have hh2 : k2.T = q := hh; omega))⟩
  have FAR : Hid (∀ q, k.has q → ¬ w.heap.size ≤ q) := Lib.hid (fun q hq hq2 => by have := hq.2; have := HK.out; omega)
  have HA2 := Lib.hid (HA1.out.keep K2.out FAR.out)
  have p1 := HA2.out.made1
  go_wp2_with fail
  refine (addE_closed k.L k.c1 k.c2 k.P last 65 cs (some ⟨k2.T, 0, none⟩) .nilFunc (.inl rfl) _ HA2.out.2.2.1).mono ?_
  rintro e w3 ⟨rfl, hw3⟩
  have K3 : Hid (Kept (fun _ => False) (w1.setCell ⟨k2.T, 2, none⟩ (.int .i64 ((d : Int) + 1))) w3) := Lib.hid (hw3 ▸ Kept.of_below ((Below.refl _ _).alloc (Nat.le_refl _) _))
  clear hw3
  have HA3 := Lib.hid (HA2.out.keep K3.out (fun _ _ h => h))
  have HC3 := Lib.hid (HC2.out.keep K3.out (fun _ _ h => h))
  have a0 := HA3.out.made0
  have b0 := HC3.out.made0
  have HR := Lib.hid HA3.out.2.1
  have HR2 := Lib.hid HC3.out.2.1
  have HRW : Hid (∀ n, IsCell (w3.drewN n) k.R x) := Lib.hid fun _ => HR.out
  have HRW2 : Hid (∀ n, IsCell (w3.drewN n) k2.R 0) := Lib.hid fun _ => HR2.out
  go_wp2_with fail
  go_region_with (first | (go_at_call 26; refine (cell_load _ x _ (HRW.out 1)).mono ?_; rintro e w' ⟨rfl, rfl⟩) | (go_at_call 36; refine (cell_store _ 0 x _ (HRW2.out 1)).mono ?_; rintro e w4 ⟨rfl, hw4⟩))
  all_goals
    have HC4 : Hid (k2.At w4 (d + 1) x 0 0 cs2) := Lib.hid (hw4 ▸ (HC3.out.same (SameHeap.drewN _ _)).reason x)
    have K4 : Hid (Kept (fun q => w.heap.size ≤ q) w3 w4) := Lib.hid (hw4 ▸ Kept.set (Kept.same (SameHeap.drewN _ _)) (by have := HC1.out.2.2.2.2.2.2.1.1; have := LO.out; omega) _)
    clear hw4
    have b1 := HC4.out.made1
    go_wp2_with fail
    refine (close_okE k2.L k2.c1 k2.c2 k2.P 0 0 65 cs2 [] _ HC4.out.2.2.1 .nil (by simp)).mono ?_
    rintro e w5 ⟨v5, rfl, _, hb5⟩
    have HC5 := Lib.hid ((HC4.out.close (-1)).keep (Kept.of_below (S := fun _ => False) (hb5.mono (by simp))) (fun _ _ h => h))
    have K5 : Hid (Kept (fun q => w.heap.size ≤ q) w4 w5) := Lib.hid ((Kept.set (Kept.refl _ _) (by have := HC1.out.2.2.2.2.2.2.2.2.2.1.1; have := LO.out; omega) _).trans (Kept.of_below (hb5.mono (by simp))))
    clear hb5
    go_wp2
    go_ret2
    have hs3 := K3.out.size
    have hs4 := K4.out.size
    have hs5 := K5.out.size
    have ka := ((((K1.out.mono (fun _ h => h.elim)).trans K2.out).trans (K3.out.mono (fun _ h => h.elim))).trans K4.out).trans K5.out
    refine ⟨k2, cs2, rfl, LO.out, ?_, HC5.out, ⟨ka.os, ka.tape, ka.output, ka.size, fun q hq _ => ka.block q hq (by omega)⟩⟩
    simp at hs3
    rw [HI.out]
    omega
/-- One function more. -/
theorem on_ok {l hd : Nat} {d : Int} (n : FuncId) (c : Array Value) (h : k.At w d x l hd cs) (hl : l < 64) :
    Calls Try.prog 14 #[.pointer (some ⟨k.T, 0, none⟩), .pointer none, .func (.func n) #[] c] w fun e w' => e = .returned (.int .i64 0) ∧ k.At w' d x (l + 1) (l + 1) (addedE cs l none (.func (.func n) #[] c) hd) ∧ Kept k.has w w' := by
  have H := Lib.hid h.made0
  have HA := Lib.hid h
  have hq := fn_not n c
  have m1 := h.made1
  clear h
  go_enter Try.func14, Try.ntmps14
  go_wp2_with (go_at_call 34; refine (made_yesT _ _ _ H.out).mono ?_; rintro e w' ⟨rfl, rfl⟩)
  refine (addE_ok k.L k.c1 k.c2 k.P l hd 65 cs none (.func (.func n) #[] c) (.inr ⟨n, c, rfl⟩) _ HA.out.2.2.1 (by omega) (by omega)).mono ?_
  rintro e w3 ⟨rfl, hs⟩
  have HA3 := Lib.hid (((HA.out.alloc (entBox none (.func (.func n) #[] c))).add none (.func (.func n) #[] c)).same hs)
  have K3 : Hid (Kept k.has w w3) := Lib.hid ((kept_add (Kept.of_below ((Below.refl _ _).alloc (Nat.le_refl _) _)) HA.out.2.2.2.2.2.2.2.2.1 HA.out.2.2.2.2.2.2.2.2.2.1 HA.out.2.2.2.2.2.2.2.2.2.2).trans (Kept.same hs))
  clear hs
  go_wp2_with fail
  go_ret
  exact ⟨rfl, HA3.out, K3.out⟩
end
end Go.Proofs.Ytkgdpcmbbelipaa
