/- works of layer 11: it answers true, and what was there is as it was. No condition. -/
import Derived.Test.YtkgdpcmbbelipaaTokK
namespace Go.Proofs.Ytkgdpcmbbelipaa
open Go.RowKit Go.MuLone
set_option maxRecDepth 100000

theorem cancel_leaf {k : Tk} {w : World} {d last : Int} {cs : Array Value} {y : Int} (hy : 1 ≤ y) (h : k.At w d 0 last (0 : Nat) cs) :
    Calls Try.prog 16 #[.pointer (some ⟨k.T, 0, none⟩), .pointer none, .int .i64 y] w fun e w' => e = .returned (.bool true) ∧ k.At w' d y last (-1) cs ∧ Kept k.has w w' := by
  refine (cancel_does (vs := []) (I := fun _ w1 => k.At w1 d y last (-1) cs ∧ Kept k.has w w1) hy h .nil (by simp) (by simp) ⟨fun i w1 o h => ⟨h.1.alloc _, kept_alloc h.2 _⟩, fun i t ht => by simp at ht, fun i a b c ht => by simp at ht⟩ (fun w1 h1 h2 => ⟨h1, h2⟩)).mono ?_
  rintro e w1 ⟨rfl, h⟩
  exact ⟨rfl, h⟩
theorem cancel_child {k : Tk} {w : World} {d last : Int} {hd t : Nat} {cs : Array Value} {y : Int} (hy : 1 ≤ y) (h : k.At w d 0 last hd cs) (hc : ChainE cs hd [(some ⟨t, 0, none⟩, .nilFunc)]) (J : World → Prop) (hJ : ∀ w1 o, J w1 → J (w1.alloc o))
    (hch : ∀ w1, k.At w1 d y last (-1) cs → Kept k.has w w1 → Calls Try.prog 16 #[.pointer (some ⟨t, 0, none⟩), .pointer none, .int .i64 y] w1 fun e w' => (∃ b, e = .returned (.bool b)) ∧ k.At w' d y last (-1) cs ∧ J w' ∧ Kept (fun q => q < w.heap.size) w1 w') :
    Calls Try.prog 16 #[.pointer (some ⟨k.T, 0, none⟩), .pointer none, .int .i64 y] w fun e w' => e = .returned (.bool true) ∧ k.At w' d y last (-1) cs ∧ J w' := by
  refine (cancel_does (vs := [(some ⟨t, 0, none⟩, .nilFunc)]) (I := fun i w1 => match i with
    | 0 => k.At w1 d y last (-1) cs ∧ Kept k.has w w1
    | _ => k.At w1 d y last (-1) cs ∧ J w1) hy h hc (by simp) (by intro e he; simp at he; subst he; exact .inl ⟨t, rfl⟩) ⟨?_, ?_, ?_⟩ (fun w1 h1 h2 => ⟨h1, h2⟩)).mono ?_
  · intro i w1 o h
    match i, h with
    | 0, h => exact ⟨h.1.alloc _, kept_alloc h.2 _⟩
    | i + 1, h => exact ⟨h.1.alloc _, hJ _ _ h.2⟩
  · intro i t' ht w1 h
    match i, ht, h with
    | 0, ht, h =>
      simp at ht
      subst ht
      refine (hch w1 h.1 h.2).mono ?_
      rintro e w2 ⟨hb, h1, h2, h3⟩
      exact ⟨hb, ⟨h1, h2⟩, h3⟩
    | i + 1, ht, _ => simp at ht
  · intro i a b c ht
    match i, ht with
    | 0, ht => simp at ht
    | i + 1, ht => simp at ht
  · rintro e w1 ⟨rfl, h⟩
    exact ⟨rfl, h⟩
theorem added_one {k : Tk} {w : World} {d x last head : Int} {cs : Array Value} (h : k.At w d x last head cs) (t : Nat) : ChainE (addedE cs 0 (some ⟨t, 0, none⟩) .nilFunc (0 : Nat)) 1 [(some ⟨t, 0, none⟩, .nilFunc)] := by
  have hs : cs.size = 65 * 3 := h.2.2.1.2.2.2.2.1
  refine .cons (k' := 0) (by decide) (.inl rfl) ?_ ?_ ?_ .nil
  · simp [addedE, Array.getElem?_setIfInBounds]; omega
  · simp [addedE, Array.getElem?_setIfInBounds]; omega
  · simp [addedE, Array.getElem?_setIfInBounds]; omega
theorem tk_apart {k k2 : Tk} (h : k.hi ≤ k2.lo) : ∀ q, k2.has q → ¬ k.has q := fun q h1 h2 => by have := h1.1; have := h2.2; omega
theorem tk_apart' {k k2 : Tk} (h : k.hi ≤ k2.lo) : ∀ q, k.has q → ¬ k2.has q := fun q h1 h2 => by have := h1.2; have := h2.1; omega

set_option maxHeartbeats 4000000 in
theorem works_token (w : World) : Calls Try.prog 19 #[] w fun e w' => e = .returned (.bool true) ∧ Below w.heap.size w w' := by
  go_enter Try.func19, Try.ntmps19
  go_wp2_with fail
  refine (tok_new w).mono ?_
  rintro e w1 ⟨a, csa, rfl, a1, a2, a3, a4⟩
  have AL := Lib.hid a1
  have AH := Lib.hid a2
  have K1 : Hid (Kept (fun q => w.heap.size ≤ q) w w1) := Lib.hid (Kept.of_below a3)
  have A1 := Lib.hid a4
  clear a1 a2 a3 a4
  go_wp2_with fail
  refine (child_ok (d := 0) (l := 0) (head := 0) A1.out (by omega) (by omega) (by rw [AH.out]; exact Nat.le_refl _)).mono ?_
  rintro e w2 ⟨b, csb, rfl, b1, b2, b3, b4, b5⟩
  have BL := Lib.hid b1
  have BH := Lib.hid b2
  have B2 := Lib.hid b3
  have A2 := Lib.hid b4
  have K2 := Lib.hid b5
  clear b1 b2 b3 b4 b5
  have AB : Hid (a.hi ≤ b.lo) := Lib.hid (by rw [AH.out, BL.out]; exact Nat.le_refl _)
  go_wp2_with fail
  refine (child_ok (d := 1) (l := 0) (head := 0) B2.out (by omega) (by omega) BH.out).mono ?_
  rintro e w3 ⟨c, csc, rfl, c1, c2, c3, c4, c5⟩
  have CL := Lib.hid c1
  have CH := Lib.hid c2
  have C3 := Lib.hid c3
  have B3 := Lib.hid c4
  have K3 := Lib.hid c5
  clear c1 c2 c3 c4 c5
  have BC : Hid (b.hi ≤ c.lo) := Lib.hid (by rw [CL.out]; exact BH.out)
  have AC : Hid (a.hi ≤ c.lo) := Lib.hid (by have := K2.out.size; rw [CL.out, AH.out]; omega)
  have A3 := Lib.hid (A2.out.keep K3.out (tk_apart' AB.out))
  have GB : Hid (∀ q, b.has q → w.heap.size ≤ q) := Lib.hid (fun q hq => by have := hq.1; have := BL.out; have := K1.out.size; omega)
  have GC : Hid (∀ q, c.has q → w.heap.size ≤ q) := Lib.hid (fun q hq => by have := hq.1; have := CL.out; have := K1.out.size; have := K2.out.size; omega)
  have GA : Hid (∀ q, a.has q → w.heap.size ≤ q) := Lib.hid (fun q hq => by have := hq.1; have := AL.out; omega)
  have LTC : Hid (∀ q, c.has q → q < w3.heap.size) := Lib.hid (fun q hq => by have := hq.2; have := CH.out; omega)
  go_wp2_with fail
  refine (cancel_child (y := 3) (hd := 1) (by omega) B3.out (added_one B2.out c.T) (fun w' => c.At w' (1 + 1) 3 0 (-1) csc ∧ Kept (fun q => b.has q ∨ c.has q) w3 w') (fun w1 o h => ⟨h.1.alloc _, kept_alloc h.2 _⟩) ?_).mono ?_
  · intro w1 h1 h2
    refine (cancel_leaf (y := 3) (by omega) (C3.out.keep h2 (tk_apart BC.out))).mono ?_
    rintro e w2 ⟨rfl, h3, h4⟩
    exact ⟨⟨_, rfl⟩, h1.keep h4 (tk_apart' BC.out), ⟨h3, (h2.mono (fun _ h => .inl h)).trans (h4.mono (fun _ h => .inr h))⟩, h4.mono LTC.out⟩
  rintro e w4 ⟨rfl, hB4, hC4, hk4⟩
  have B4 := Lib.hid hB4
  have C4 := Lib.hid hC4
  have K4 := Lib.hid hk4
  clear hB4 hC4 hk4
  have A4 := Lib.hid (A3.out.keep K4.out (fun q hq hq2 => hq2.elim (tk_apart' AB.out q hq) (tk_apart' AC.out q hq)))
  go_wp2_with fail
  refine (cancel_child (y := 5) (hd := 1) (by omega) A4.out (added_one A1.out b.T) (fun w' => Kept a.has w4 w') (fun w1 o h => kept_alloc h _) ?_).mono ?_
  · intro w1 h1 h2
    refine (cancel_again 5 (by omega) (x := 3) (by omega) (B4.out.keep h2 (tk_apart AB.out))).mono ?_
    rintro e w2 ⟨rfl, rfl⟩
    exact ⟨⟨_, rfl⟩, h1, h2, Kept.refl _ _⟩
  rintro e w5 ⟨rfl, hA5, hk5⟩
  have A5 := Lib.hid hA5
  have K5 := Lib.hid hk5
  clear hA5 hk5
  have B5 := Lib.hid (B4.out.keep K5.out (tk_apart AB.out))
  have C5 := Lib.hid (C4.out.keep K5.out (tk_apart AC.out))
  go_wp2_with fail
  refine (cancel_again 7 (by omega) (x := 5) (by omega) A5.out).mono ?_
  rintro e w' ⟨rfl, rfl⟩
  go_wp2_with fail
  refine (child_late (d := 0) A5.out (by omega) (by have := AH.out; have := K2.out.size; have := K3.out.size; have := K4.out.size; have := K5.out.size; omega)).mono ?_
  rintro e w6 ⟨f, csf, rfl, f1, f2, f3, f4⟩
  have F6 := Lib.hid f3
  have K6 := Lib.hid f4
  clear f1 f2 f3 f4
  have A6 := Lib.hid (A5.out.keep K6.out (fun _ _ h => h))
  have B6 := Lib.hid (B5.out.keep K6.out (fun _ _ h => h))
  have C6 := Lib.hid (C5.out.keep K6.out (fun _ _ h => h))
  go_wp2_with fail
  refine (tok_reason A6.out).mono ?_
  rintro e w' ⟨rfl, rfl⟩
  go_wp2_with fail
  refine (tok_reason B6.out).mono ?_
  rintro e w' ⟨rfl, rfl⟩
  go_wp2_with fail
  refine (tok_reason C6.out).mono ?_
  rintro e w' ⟨rfl, rfl⟩
  go_wp2_with fail
  refine (tok_reason F6.out).mono ?_
  rintro e w' ⟨rfl, rfl⟩
  go_wp2_with fail
  refine (tok_wait (by decide) F6.out).mono ?_
  rintro e w' ⟨rfl, rfl⟩
  go_wp2
  go_ret
  refine ⟨rfl, ?_⟩
  have kk : Kept (fun q => w.heap.size ≤ q) w w6 := ((((K1.out.trans (K2.out.mono GA.out)).trans (K3.out.mono GB.out)).trans (K4.out.mono (fun q h => h.elim (GB.out q) (GC.out q)))).trans (K5.out.mono GA.out)).trans (K6.out.mono (fun _ h => h.elim))
  exact kk.below (Nat.le_refl _) (fun _ h => h)
end Go.Proofs.Ytkgdpcmbbelipaa
