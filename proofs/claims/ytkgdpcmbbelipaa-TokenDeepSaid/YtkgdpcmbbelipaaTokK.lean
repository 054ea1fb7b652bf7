/- Cancel down TokenDeep's chain: what it leaves. Conditions: what the blocks hold. -/
import Derived.Test.YtkgdpcmbbelipaaTokJ
namespace Go.Proofs.Ytkgdpcmbbelipaa
open Go.RowKit Go.MuLone
set_option maxRecDepth 100000
variable {D : Deep} {w w' : World}

theorem Deep.BookAt.alloc {ord : Nat} {ac : Array Value} (h : D.BookAt w ord ac) (o : Obj) : D.BookAt (w.alloc o) ord ac := h.keep (Kept.of_below (S := fun _ => False) ((Below.refl _ _).alloc (Nat.le_refl _) o)) (fun h => h) (fun h => h) (fun h => h) (fun _ _ h => h)
theorem kept_alloc {S : Nat → Prop} {w0 : World} (h : Kept S w0 w) (o : Obj) : Kept S w0 (w.alloc o) := h.trans (Kept.of_below ((Below.refl _ _).alloc (Nat.le_refl _) o))
theorem sof_lt (A : D.Apart) {ord : Nat} {ac : Array Value} (h : D.BookAt w ord ac) (j q : Nat) (hs : D.Sof j q) : q < w.heap.size := by
  rcases hs with ⟨i, _, hi, hq⟩ | rfl | rfl
  · have := (A.oo i hi).1
    have := h.1.1.lt
    have := hq.2
    omega
  · exact h.1.1.lt
  · exact h.1.2.2.1.lt
theorem sof_mono {j k q : Nat} (hjk : j ≤ k) (h : D.Sof k q) : D.Sof j q := h.imp (fun ⟨i, h1, h2⟩ => ⟨i, by omega, h2⟩) id
theorem og_far (A : D.Apart) {i q : Nat} (hi : i ≤ D.d) (hq : (D.tk i).has q) : ¬ (q = D.o ∨ q = D.g) := by
  have := (A.oo i hi).1
  have := (A.oo i hi).2.2.1
  have := hq.2
  omega
theorem tk_far (A : D.Apart) {i j q : Nat} (hij : i < j) (hi : i ≤ D.d) (hq : (D.tk i).has q) : ¬ D.Sof j q := by
  rintro (⟨b, h1, h2, h3⟩ | h)
  · have := A.up i b (by omega) h2
    have := hq.2
    have := h3.1
    omega
  · exact og_far A hi hq h
theorem tk_far' (A : D.Apart) {i j q : Nat} (hij : j < i) (hi : i ≤ D.d) (hq : (D.tk i).has q) : ¬ (D.tk j).has q := fun h => by
  have := A.up j i hij hi
  have := hq.1
  have := h.2
  omega
theorem book_far (A : D.Apart) {j : Nat} (hj : j ≤ D.d) : ¬ (D.tk j).has D.o ∧ ¬ (D.tk j).has D.c ∧ ¬ (D.tk j).has D.g ∧ ∀ i, i ≤ D.d → ¬ (D.tk j).has (D.ii i) := by
  obtain ⟨a1, a2, a3, a4⟩ := A.oo j hj
  refine ⟨fun h => ?_, fun h => ?_, fun h => ?_, fun i hi h => ?_⟩
  · have := h.2; omega
  · have := h.2; omega
  · have := h.2; omega
  · have := h.2; have := a4 i hi; omega
theorem marked_own {j ord : Nat} {ac : Array Value} (hj : j ≤ D.d) (hs : ac.size = D.d + 1) (hd : j = D.d) : D.Marked j ord ac (ac.setIfInBounds j (.int .i64 ((ord + 1 : Nat) : Int))) := by
  refine ⟨by simp, fun i => ?_⟩
  by_cases hi : i = j
  · subst hi
    rw [if_pos ⟨Nat.le_refl _, hj⟩, Array.getElem?_setIfInBounds_self_of_lt (by omega)]
    congr 3
    omega
  · rw [Array.getElem?_setIfInBounds_ne (by omega), if_neg (by omega)]
theorem marked_more {j ord m : Nat} {ac ac1 : Array Value} (hj : j + m + 1 = D.d) (hs : ac.size = D.d + 1) (h : D.Marked (j + 1) ord ac ac1) : D.Marked j ord ac (ac1.setIfInBounds j (.int .i64 ((ord + m + 1 + 1 : Nat) : Int))) := by
  obtain ⟨h1, h2⟩ := h
  refine ⟨by simpa using h1, fun i => ?_⟩
  by_cases hi : i = j
  · subst hi
    rw [if_pos ⟨Nat.le_refl _, by omega⟩, Array.getElem?_setIfInBounds_self_of_lt (by omega)]
    congr 3
    omega
  · rw [Array.getElem?_setIfInBounds_ne (by omega), h2 i]
    by_cases hij : j + 1 ≤ i ∧ i ≤ D.d
    · rw [if_pos hij, if_pos (by omega)]
    · rw [if_neg hij, if_neg (by omega)]

def Gone (D : Deep) (y : Int) (j m ord : Nat) (ac : Array Value) (w : World) (e : Ending) (w' : World) : Prop :=
  e = .returned (.bool true) ∧ (∀ i, j ≤ i → i ≤ D.d → D.Dead w' y i) ∧ (∃ ac', D.BookAt w' (ord + m + 1) ac' ∧ D.Marked j ord ac ac') ∧ Kept (D.Sof j) w w'
theorem cancel_last (A : D.Apart) (y : Int) (hy : 1 ≤ y) (ord : Nat) (ac : Array Value) (ho : ord + 1 < 1000) (hs : ac.size = D.d + 1) (hl : D.Lives w D.d) (hb : D.BookAt w ord ac) :
    Calls Try.prog 16 #[.pointer (some ⟨(D.tk D.d).T, 0, none⟩), .pointer none, .int .i64 y] w (Gone D y D.d 0 ord ac w) := by
  have he : D.ents D.d = [(none, D.fnv D.d)] := by unfold Deep.ents; rw [if_neg (by omega)]
  have hl' := hl
  unfold Deep.Lives at hl'
  have hch := A.chain D.d (Nat.le_refl _)
  have hbf := book_far A (Nat.le_refl D.d)
  refine (cancel_does (I := fun i w1 => match i with
    | 0 => D.Dead w1 y D.d ∧ D.BookAt w1 ord ac ∧ Kept (D.Sof D.d) w w1
    | _ => D.Dead w1 y D.d ∧ (∃ ac', D.BookAt w1 (ord + 0 + 1) ac' ∧ D.Marked D.d ord ac ac') ∧ Kept (D.Sof D.d) w w1) hy hl' hch (ents_len_le _) (ents_ok _) ⟨?_, ?_, ?_⟩ ?_).mono ?_
  · intro i w1 o h
    match i, h with
    | 0, ⟨h1, h2, h3⟩ => exact ⟨h1.alloc _, h2.alloc _, kept_alloc h3 _⟩
    | i + 1, ⟨h1, ⟨ac', h2, h4⟩, h3⟩ => exact ⟨h1.alloc _, ⟨ac', h2.alloc _, h4⟩, kept_alloc h3 _⟩
  · intro i t ht
    rw [he] at ht
    match i, ht with
    | 0, ht => simp at ht
    | i + 1, ht => simp at ht
  · intro i a b c ht w1 h
    rw [he] at ht
    match i, ht, h with
    | 0, ht, ⟨h1, h2, h3⟩ =>
      simp [Deep.fnv] at ht
      obtain ⟨rfl, rfl, rfl⟩ := ht
      refine (deep_fn A y h2 (Nat.le_refl _) (by omega)).mono ?_
      rintro e w2 ⟨rfl, hb2, hk2⟩
      have hk3 : Kept (D.Sof D.d) w1 w2 := hk2.mono (fun q hq => .inr hq)
      exact ⟨rfl, ⟨h1.keep hk2 (fun q hq => og_far A (Nat.le_refl _) hq), ⟨_, hb2, marked_own (Nat.le_refl _) hs rfl⟩, h3.trans hk3⟩, hk2.mono (fun q hq => sof_lt A hb D.d q (.inr hq))⟩
    | i + 1, ht, _ => simp at ht
  · intro w1 h1 h2
    exact ⟨h1, hb.keep h2 hbf.1 hbf.2.1 hbf.2.2.1 hbf.2.2.2, h2.mono (fun q hq => .inl ⟨D.d, Nat.le_refl _, Nat.le_refl _, hq⟩)⟩
  · rintro e w1 ⟨rfl, h⟩
    rw [he] at h
    obtain ⟨h1, h2, h3⟩ := h
    refine ⟨rfl, fun i hi1 hi2 => ?_, h2, h3⟩
    obtain rfl : i = D.d := by omega
    exact h1
theorem cancel_chain (A : D.Apart) (y : Int) (hy : 1 ≤ y) : ∀ (m j : Nat), j + m = D.d → ∀ (w : World) (ord : Nat) (ac : Array Value), ord + m + 1 < 1000 → ac.size = D.d + 1 → (∀ i, j ≤ i → i ≤ D.d → D.Lives w i) → D.BookAt w ord ac →
    Calls Try.prog 16 #[.pointer (some ⟨(D.tk j).T, 0, none⟩), .pointer none, .int .i64 y] w (Gone D y j m ord ac w) := by
  intro m
  induction m with
  | zero =>
    intro j hj w ord ac ho hs hl hb
    obtain rfl : j = D.d := by omega
    exact cancel_last A y hy ord ac ho hs (hl _ (Nat.le_refl _) (Nat.le_refl _)) hb
  | succ m ih =>
    intro j hj w ord ac ho hs hl hb
    have hjd : j ≤ D.d := by omega
    have he : D.ents j = [(none, D.fnv j), (some ⟨(D.tk (j + 1)).T, 0, none⟩, .nilFunc)] := by unfold Deep.ents; rw [if_pos (by omega)]
    have hl' := hl j (Nat.le_refl _) hjd
    unfold Deep.Lives at hl'
    have hch := A.chain j hjd
    have hbf := book_far A hjd
    refine (cancel_does (I := fun i w1 => match i with
      | 0 => D.Dead w1 y j ∧ (∀ i, j + 1 ≤ i → i ≤ D.d → D.Lives w1 i) ∧ D.BookAt w1 ord ac ∧ Kept (D.Sof j) w w1
      | 1 => D.Dead w1 y j ∧ (∀ i, j + 1 ≤ i → i ≤ D.d → D.Dead w1 y i) ∧ (∃ ac', D.BookAt w1 (ord + m + 1) ac' ∧ D.Marked (j + 1) ord ac ac') ∧ Kept (D.Sof j) w w1
      | _ => D.Dead w1 y j ∧ (∀ i, j + 1 ≤ i → i ≤ D.d → D.Dead w1 y i) ∧ (∃ ac', D.BookAt w1 (ord + (m + 1) + 1) ac' ∧ D.Marked j ord ac ac') ∧ Kept (D.Sof j) w w1) hy hl' hch (ents_len_le _) (ents_ok _) ⟨?_, ?_, ?_⟩ ?_).mono ?_
    · intro i w1 o h
      match i, h with
      | 0, ⟨h1, h2, h3, h4⟩ => exact ⟨h1.alloc _, fun i a b => (h2 i a b).alloc _, h3.alloc _, kept_alloc h4 _⟩
      | 1, ⟨h1, h2, ⟨ac', h3, h5⟩, h4⟩ => exact ⟨h1.alloc _, fun i a b => (h2 i a b).alloc _, ⟨ac', h3.alloc _, h5⟩, kept_alloc h4 _⟩
      | i + 2, ⟨h1, h2, ⟨ac', h3, h5⟩, h4⟩ => exact ⟨h1.alloc _, fun i a b => (h2 i a b).alloc _, ⟨ac', h3.alloc _, h5⟩, kept_alloc h4 _⟩
    · intro i t ht w1 h
      rw [he] at ht
      match i, ht, h with
      | 0, ht, ⟨h1, h2, h3, h4⟩ =>
        simp at ht
        subst ht
        refine (ih (j + 1) (by omega) w1 ord ac (by omega) hs h2 h3).mono ?_
        rintro e w2 ⟨rfl, g1, g2, g3⟩
        exact ⟨⟨true, rfl⟩, ⟨h1.keep g3 (fun q hq => tk_far A (Nat.lt_succ_self j) hjd hq), g1, g2, h4.trans (g3.mono (fun q hq => sof_mono (Nat.le_succ j) hq))⟩, g3.mono (fun q hq => sof_lt A hb (j + 1) q hq)⟩
      | 1, ht, _ => simp at ht
      | i + 2, ht, _ => simp at ht
    · intro i a b c ht w1 h
      rw [he] at ht
      match i, ht, h with
      | 0, ht, _ => simp at ht
      | 1, ht, ⟨h1, h2, ⟨ac1, h3, h5⟩, h4⟩ =>
        simp [Deep.fnv] at ht
        obtain ⟨rfl, rfl, rfl⟩ := ht
        refine (deep_fn A y h3 hjd (by omega)).mono ?_
        rintro e w2 ⟨rfl, hb2, hk2⟩
        have hk3 : Kept (D.Sof j) w1 w2 := hk2.mono (fun q hq => .inr hq)
        exact ⟨rfl, ⟨h1.keep hk2 (fun q hq => og_far A hjd hq), fun i a b => (h2 i a b).keep hk2 (fun q hq => og_far A b hq), ⟨_, hb2, marked_more (by omega) hs h5⟩, h4.trans hk3⟩, hk2.mono (fun q hq => sof_lt A hb j q (.inr hq))⟩
      | i + 2, ht, _ => simp at ht
    · intro w1 h1 h2
      exact ⟨h1, fun i a b => (hl i (by omega) b).keep h2 (fun q hq => tk_far' A (by omega) b hq), hb.keep h2 hbf.1 hbf.2.1 hbf.2.2.1 hbf.2.2.2, h2.mono (fun q hq => .inl ⟨j, Nat.le_refl _, hjd, hq⟩)⟩
    · rintro e w1 ⟨rfl, h⟩
      rw [he] at h
      obtain ⟨h1, h2, h3, h4⟩ := h
      refine ⟨rfl, fun i hi1 hi2 => ?_, h3, h4⟩
      by_cases hij : i = j
      · subst hij; exact h1
      · exact h2 i (by omega) hi2
end Go.Proofs.Ytkgdpcmbbelipaa
