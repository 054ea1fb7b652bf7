/- works of layer 21: it answers true, and what was there is as it was. No condition. -/
import Derived.Test.YtdbllffkpkkggaaChoiceF
namespace Go.Proofs.Ytdbllffkpkkggaa
open Go.RowKit Go.MuLone
set_option maxRecDepth 100000
set_option maxHeartbeats 4000000 in
theorem works_choice (w : World) :
    Calls Try.prog 11 #[] w fun e w' => e = .returned (.bool true) ∧ Below w.heap.size w w' := by
  have HBELL := Lib.hid (isCell_new w 0)
  go_enter Try.func11, Try.ntmps11
  go_wp2_with (go_at_call 5; refine (cell_new _ _).mono ?_; rintro e w' ⟨rfl, rfl⟩)
  refine (pipe_new 2 (by omega) (by omega) (by decide +kernel) w.heap.size _).mono ?_
  rintro e w2 ⟨pa, ia, oa, bsa, va, rfl, hla, hMa⟩
  have KA : Hid (Below (w.heap.size + 1) (w.alloc (cellObj 0)) w2) := Lib.hid (hMa.1.mono (by simp))
  have PA : Hid (PipeIn w2 (w.heap.size + 1) w2.heap.size w.heap.size pa 0 0 0 0 1) := Lib.hid (by have h := PipeIn.of_making hMa hla; simpa using h)
  have L2 : Hid (w.heap.size + 1 ≤ w2.heap.size) := Lib.hid (by have h := hMa.1.size; simpa using h)
  clear hla hMa
  have BE2 := Lib.hid (show IsCell w2 w.heap.size 0 from Blk.below HBELL.out KA.out (by omega))
  go_wp2_with fail
  refine (pipe_new 2 (by omega) (by omega) (by decide +kernel) w.heap.size _).mono ?_
  rintro e w3 ⟨pb, ib, ob, bsb, vb, rfl, hlb, hMb⟩
  have KB := Lib.hid hMb.1
  have PB := Lib.hid (PipeIn.of_making hMb hlb)
  have L3 : Hid (w2.heap.size ≤ w3.heap.size) := Lib.hid hMb.1.size
  clear hlb hMb
  have PA3 := Lib.hid (PA.out.keep (Kept.of_below (S := fun _ => False) KB.out) (fun _ _ _ h => h))
  have BE3 := Lib.hid (show IsCell w3 w.heap.size 0 from Blk.below BE2.out KB.out (Blk.lt BE2.out))
  go_wp2_with fail
  refine (choice_new w.heap.size _).mono ?_
  rintro e w4 ⟨rfl, hw4⟩
  have KC : Hid (Kept (fun _ => False) w3 w4) := Lib.hid (hw4 ▸ Kept.of_below (((Below.refl _ _).alloc (Nat.le_refl _) _).alloc (by simp) _))
  have HT : Hid (IsCell w4 w3.heap.size 0) := Lib.hid (hw4 ▸ Blk.alloc (isCell_new w3 0) _)
  have HC : Hid (ChoiceAt w4 (w3.heap.size + 1) w.heap.size w3.heap.size) := Lib.hid (hw4 ▸ Blk.new' _ _ _ _ (by simp))
  have L4 : Hid (w4.heap.size = w3.heap.size + 2) := Lib.hid (by rw [← hw4]; simp)
  clear hw4
  have PA4 := Lib.hid (PA3.out.keep KC.out (fun _ _ _ h => h))
  have PB4 := Lib.hid (PB.out.keep KC.out (fun _ _ _ h => h))
  have BE4 := Lib.hid (KC.out.cell BE3.out (fun h => h))
  go_wp2_with fail
  refine (pipeIn_send 5 PA4.out BE4.out (by omega)).mono ?_
  rintro e w5 ⟨rfl, h1, h2, h3⟩
  have PA5 := Lib.hid h1
  have BE5 := Lib.hid h2
  have K5 := Lib.hid h3
  clear h1 h2 h3
  have T5 : Hid (∀ q, w2.heap.size ≤ q → ¬ Touched (w.heap.size + 1) w2.heap.size w.heap.size q) := Lib.hid (by intro q hq; have := L2.out; unfold Touched; omega)
  have PB5 := Lib.hid (PB4.out.keep K5.out (fun q hq _ => T5.out q hq))
  have HT5 := Lib.hid (K5.out.cell HT.out (T5.out _ L3.out))
  have HC5 := Lib.hid (show ChoiceAt w5 _ _ _ from K5.out.blk HC.out (T5.out _ (by have := L3.out; omega)))
  go_wp2_with fail
  refine (pipeIn_send 6 PB5.out BE5.out (by have := L2.out; omega)).mono ?_
  rintro e w6 ⟨rfl, h1, h2, h3⟩
  have PB6 := Lib.hid h1
  have BE6 := Lib.hid h2
  have K6 := Lib.hid h3
  clear h1 h2 h3
  have T6 : Hid (∀ q, w3.heap.size ≤ q → ¬ Touched w2.heap.size w3.heap.size w.heap.size q) := Lib.hid (by intro q hq; have := L2.out; have := L3.out; unfold Touched; omega)
  have T6' : Hid (∀ q, w.heap.size + 1 ≤ q → q < w2.heap.size → ¬ Touched w2.heap.size w3.heap.size w.heap.size q) := Lib.hid (by intro q hq hq2; unfold Touched; omega)
  have PA6 := Lib.hid (PA5.out.keep K6.out T6'.out)
  have HT6 := Lib.hid (K6.out.cell HT5.out (T6.out _ (Nat.le_refl _)))
  have HC6 := Lib.hid (show ChoiceAt w6 _ _ _ from K6.out.blk HC5.out (T6.out _ (by omega)))
  have L6 : Hid (w3.heap.size + 2 ≤ w6.heap.size) := Lib.hid (by have := L4.out; have := K5.out.size; have := K6.out.size; omega)
  go_wp2_with fail
  have K7 : Hid (Kept (fun _ => False) w6 (w6.alloc (.cells (pairCells pa pb) 36))) := Lib.hid (Kept.of_below ((Below.refl _ _).alloc (Nat.le_refl _) _))
  have HG7 := Lib.hid (Blk.new w6 36 (pairCells pa pb))
  have PA7 := Lib.hid (PA6.out.keep K7.out (fun _ _ _ h => h))
  have PB7 := Lib.hid (PB6.out.keep K7.out (fun _ _ _ h => h))
  have BE7 := Lib.hid (K7.out.cell BE6.out (fun h => h))
  have HT7 := Lib.hid (K7.out.cell HT6.out (fun h => h))
  have HC7 := Lib.hid (show ChoiceAt _ _ _ _ from K7.out.blk HC6.out (fun h => h))
  have TT : Hid (∀ q, (q ≠ w3.heap.size) → (w2.heap.size ≤ q) → ¬ (q = w3.heap.size ∨ Touched (w.heap.size + 1) w2.heap.size w.heap.size q)) := Lib.hid (by intro q h1 h2; have := L2.out; unfold Touched; omega)
  refine (select_hit 0 0 _ 5 (.inl ⟨rfl, rfl⟩) (w3.heap.size + 1) w.heap.size w3.heap.size w6.heap.size 2 pa pb pa _ _ _ HC7.out HT7.out BE7.out HG7.out PA7.out.bell PB7.out.bell PA7.out (.inl ⟨rfl, rfl⟩) (by have := L2.out; have := L3.out; omega) (by omega) (by omega) (by have := L3.out; omega) (by have := L6.out; omega)).mono ?_
  rintro e w8 ⟨rfl, h1, h2, h3, h4⟩
  have PA8 := Lib.hid h1
  have BE8 := Lib.hid h2
  have HT8 : Hid (IsCell w8 w3.heap.size 1) := Lib.hid (by have h5 : wrap64 (0 + 1) = 1 := (by decide +kernel); rw [h5] at h3; exact h3)
  have K8 := Lib.hid h4
  clear h1 h2 h3 h4
  have PB8 := Lib.hid (PB7.out.keep K8.out (fun q hq hq2 => TT.out q (by omega) hq))
  have HC8 := Lib.hid (show ChoiceAt _ _ _ _ from K8.out.blk HC7.out (TT.out _ (by omega) (by have := L3.out; omega)))
  have HG8 := Lib.hid (K8.out.blk HG7.out (TT.out _ (by have := L6.out; omega) (by have := L3.out; have := L6.out; omega)))
  go_wp2_with fail
  have TU : Hid (∀ q, (q ≠ w3.heap.size) → w.heap.size + 1 ≤ q → (q < w2.heap.size ∨ w3.heap.size ≤ q) → ¬ (q = w3.heap.size ∨ Touched w2.heap.size w3.heap.size w.heap.size q)) := Lib.hid (by intro q h1 h2 h3; have := L2.out; unfold Touched; omega)
  refine (select_hit 1 1 _ 6 (.inr ⟨rfl, rfl⟩) (w3.heap.size + 1) w.heap.size w3.heap.size w6.heap.size 2 pa pb pb _ _ _ HC8.out HT8.out BE8.out HG8.out PA8.out.bell PB8.out.bell PB8.out (.inr ⟨rfl, rfl⟩) (by have := L2.out; have := L3.out; omega) (by omega) (by have := L2.out; omega) (by omega) (by have := L6.out; omega)).mono ?_
  rintro e w9 ⟨rfl, h1, h2, h3, h4⟩
  have PB9 := Lib.hid h1
  have BE9 := Lib.hid h2
  have HT9 := Lib.hid h3
  have K9 := Lib.hid h4
  clear h1 h2 h3 h4
  have PA9 := Lib.hid (PA8.out.keep K9.out (fun q hq hq2 => TU.out q (by have := L3.out; omega) hq (.inl hq2)))
  have HC9 := Lib.hid (show ChoiceAt _ _ _ _ from K9.out.blk HC8.out (TU.out _ (by omega) (by have := L3.out; have := L2.out; omega) (.inr (by omega))))
  have HG9 := Lib.hid (K9.out.blk HG8.out (TU.out _ (by have := L6.out; omega) (by have := L3.out; have := L6.out; have := L2.out; omega) (.inr (by have := L6.out; omega))))
  go_wp2_with fail
  have QA : Hid (∀ w1, Below w9.heap.size (w9.setCell ⟨w3.heap.size, 0, none⟩ (.int .i64 3)) w1 → Quiet w1 pa) := Lib.hid fun w1 h1 => PipeIn.quiet ((PA9.out.keep (Kept.set (S := fun q => q = w3.heap.size) (Kept.refl _ _) (g := w3.heap.size) rfl _) (fun q _ hq2 => by have := L3.out; omega)).keep (Kept.of_below (S := fun _ => False) (h1.mono (by simp))) (fun _ _ _ h => h))
  have QB : Hid (∀ w1, Below w9.heap.size (w9.setCell ⟨w3.heap.size, 0, none⟩ (.int .i64 3)) w1 → Quiet w1 pb) := Lib.hid fun w1 h1 => PipeIn.quiet ((PB9.out.keep (Kept.set (S := fun q => q = w3.heap.size) (Kept.refl _ _) (g := w3.heap.size) rfl _) (fun q _ hq2 => by omega)).keep (Kept.of_below (S := fun _ => False) (h1.mono (by simp))) (fun _ _ _ h => h))
  refine (try_miss _ _ (by decide +kernel) (w3.heap.size + 1) w.heap.size w3.heap.size w6.heap.size 2 pa pb _ HC9.out HT9.out BE9.out HG9.out PA9.out.bell PB9.out.bell QA.out QB.out (by have := L6.out; omega)).mono ?_
  rintro e wz ⟨rfl, hkz⟩
  have KZ := Lib.hid hkz
  clear hkz
  go_wp2
  go_ret
  refine ⟨rfl, ?_⟩
  have l2 := L2.out
  have l3 := L3.out
  have l4 := L4.out
  have l5 := K5.out.size
  have l6 := K6.out.size
  have l7 := K7.out.size
  have l8 := K8.out.size
  have l9 := K9.out.size
  exact ((((((((((Below.refl _ _).alloc (Nat.le_refl _) _).trans (KA.out.mono (by omega))).trans (KB.out.mono (by omega))).trans (KC.out.below (by omega) (fun _ h => h.elim))).trans (K5.out.below (by omega) (fun q h => by unfold Touched at h; omega))).trans (K6.out.below (by omega) (fun q h => by unfold Touched at h; omega))).trans
    (K7.out.below (by omega) (fun _ h => h.elim))).trans (K8.out.below (by omega) (fun q h => by unfold Touched at h; omega))).trans (K9.out.below (by omega) (fun q h => by unfold Touched at h; omega))).trans (KZ.out.below (by omega) (fun q h => by omega))
end Go.Proofs.Ytdbllffkpkkggaa
