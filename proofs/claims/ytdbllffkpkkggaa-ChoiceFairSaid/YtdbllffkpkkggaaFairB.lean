/- A pipe of 64 places, told by how many were sent and received. Conditions: what the blocks hold. -/
import Derived.Test.YtdbllffkpkkggaaFairA
namespace Go.Proofs.Ytdbllffkpkkggaa
open Go.RowKit Go.MuLone
set_option maxRecDepth 100000

/-- What the turn of place k holds where s were sent and r received. -/
def turnOf (s r k : Nat) : Int := if k < r then (k : Int) + 64 else if k < s then (k : Int) + 1 else k
def updI (f : Nat → Int) (a : Nat) (z : Int) : Nat → Int := fun b => if b = a then z else f b
theorem updI_same (f : Nat → Int) (a : Nat) (z : Int) : updI f a z a = z := by simp [updI]
theorem updI_ne (f : Nat → Int) {a b : Nat} (z : Int) (h : b ≠ a) : updI f a z b = f b := by simp [updI, h]
/-- The cells of a pipe: bk 0 in, bk 1 out, bk (2 k + 2) the turn, bk (2 k + 3) the slot of place k. -/
def CellsB (w : World) (bk : Nat → Nat) (f : Nat → Int) : Prop := ∀ a, a < 130 → IsCell w (bk a) (f a)
def InjB (bk : Nat → Nat) : Prop := ∀ a b, a < 130 → b < 130 → bk a = bk b → a = b
theorem CellsB.set {w : World} {bk : Nat → Nat} {f : Nat → Int} (h : CellsB w bk f) (hi : InjB bk) {a : Nat} (ha : a < 130) (z : Int) : CellsB (w.setCell ⟨bk a, 0, none⟩ (.int .i64 z)) bk (updI f a z) := fun b hb => by
  by_cases e : b = a
  · subst e; rw [updI_same]; exact (h b hb).set z
  · rw [updI_ne _ _ e]; exact (h b hb).far (fun hh => e (hi _ _ hb ha hh)) _
theorem CellsB.far {w : World} {bk : Nat → Nat} {f : Nat → Int} (h : CellsB w bk f) {b : Nat} (hb : ∀ a, a < 130 → bk a ≠ b) (v : Value) : CellsB (w.setCell ⟨b, 0, none⟩ v) bk f := fun a ha => (h a ha).far (hb a ha) v
/-- The pipe in block p: its blocks lie from lo to hi, its bell is bl; s were sent, r received, the k-th one was val k. -/
def PipeS (w : World) (lo hi bl p s r : Nat) (val : Nat → Int) : Prop :=
  ∃ (g c : Nat) (bk : Nat → Nat) (f : Nat → Int), (∀ k, k < 64 → PipeK w p (bk 0) (bk 1) bl g c k (bk (2 * k + 2)) (bk (2 * k + 3))) ∧ CellsB w bk f ∧ InjB bk ∧
    f 0 = 2 * (s : Int) ∧ f 1 = r ∧ (∀ k, k < 64 → f (2 * k + 2) = turnOf s r k) ∧ (∀ k, r ≤ k → k < s → f (2 * k + 3) = val k) ∧
    lo ≤ p ∧ p < hi ∧ lo ≤ g ∧ g < hi ∧ ∀ a, a < 130 → lo ≤ bk a ∧ bk a < hi
theorem PipeK.keep {S : Nat → Prop} {w w' : World} {p i o bl g c k t s : Nat} (h : PipeK w p i o bl g c k t s) (kp : Kept S w w') (h1 : ¬ S p) (h2 : ¬ S g) : PipeK w' p i o bl g c k t s := by
  obtain ⟨a, cs, b, r⟩ := h
  exact ⟨kp.blk a h1, cs, kp.blk b h2, r⟩
theorem PipeS.keep {S : Nat → Prop} {w w' : World} {lo hi bl p s r : Nat} {val : Nat → Int} (h : PipeS w lo hi bl p s r val) (k : Kept S w w') (hs : ∀ q, lo ≤ q → q < hi → ¬ S q) : PipeS w' lo hi bl p s r val := by
  obtain ⟨g, c, bk, f, h1, h2, h3, h4, h5, h6, h7, h8, h9, h10, h11, h12⟩ := h
  exact ⟨g, c, bk, f, fun j hj => (h1 j hj).keep k (hs _ h8 h9) (hs _ h10 h11), fun a ha => k.cell (h2 a ha) (hs _ (h12 a ha).1 (h12 a ha).2), h3, h4, h5, h6, h7, h8, h9, h10, h11, h12⟩
theorem PipeS.bell {w : World} {lo hi bl p s r : Nat} {val : Nat → Int} (h : PipeS w lo hi bl p s r val) : HasBell w p bl := by
  obtain ⟨g, c, bk, f, h1, _⟩ := h
  obtain ⟨a, _⟩ := h1 0 (by omega)
  exact ⟨bk 0, (a.cell 0).trans rfl, (a.cell 2).trans rfl⟩
theorem PipeS.lt {w : World} {lo hi bl p s r : Nat} {val : Nat → Int} (h : PipeS w lo hi bl p s r val) : p < w.heap.size := by
  obtain ⟨g, c, bk, f, h1, _⟩ := h
  exact (h1 0 (by omega)).1.lt

theorem place_at : ∀ (bs : List (Nat × Nat)) (k : Nat), (placeBlocks bs)[2 * k]? = bs[k]?.map (·.1) ∧ (placeBlocks bs)[2 * k + 1]? = bs[k]?.map (·.2)
  | [], k => by simp [placeBlocks]
  | b :: bs, 0 => by simp [placeBlocks]
  | b :: bs, k + 1 => by
    have h := place_at bs k
    have e : placeBlocks (b :: bs) = b.1 :: b.2 :: placeBlocks bs := by simp [placeBlocks]
    rw [e]
    have h1 : 2 * (k + 1) = 2 * k + 1 + 1 := by omega
    have h2 : 2 * (k + 1) + 1 = 2 * k + 1 + 1 + 1 := by omega
    rw [h2, h1]
    simpa using h
theorem val_at : ∀ (bs : List (Nat × Nat)) (k : Nat), (placeVals bs)[k * 2]? = bs[k]?.map (fun b => .pointer (some ⟨b.1, 0, none⟩)) ∧ (placeVals bs)[k * 2 + 1]? = bs[k]?.map (fun b => .pointer (some ⟨b.2, 0, none⟩))
  | [], k => by simp [placeVals]
  | b :: bs, 0 => by simp [placeVals]
  | b :: bs, k + 1 => by
    have h := val_at bs k
    have e : placeVals (b :: bs) = .pointer (some ⟨b.1, 0, none⟩) :: .pointer (some ⟨b.2, 0, none⟩) :: placeVals bs := by simp [placeVals]
    rw [e]
    have h1 : (k + 1) * 2 = k * 2 + 1 + 1 := by omega
    have h2 : (k + 1) * 2 + 1 = k * 2 + 1 + 1 + 1 := by omega
    rw [h2, h1]
    simpa using h
theorem placeBlocks_length (bs : List (Nat × Nat)) : (placeBlocks bs).length = 2 * bs.length := by
  induction bs with
  | nil => simp [placeBlocks]
  | cons b bs ih =>
    have e : placeBlocks (b :: bs) = b.1 :: b.2 :: placeBlocks bs := by simp [placeBlocks]
    rw [e]; simp [ih]; omega
theorem placeVals_length (bs : List (Nat × Nat)) : (placeVals bs).length = 2 * bs.length := by
  induction bs with
  | nil => simp [placeVals]
  | cons b bs ih =>
    have e : placeVals (b :: bs) = .pointer (some ⟨b.1, 0, none⟩) :: .pointer (some ⟨b.2, 0, none⟩) :: placeVals bs := by simp [placeVals]
    rw [e]; simp [ih]; omega

/-- A new pipe of 64 places. -/
theorem PipeS.of_making {w0 w : World} {p i o bl : Nat} {bs : List (Nat × Nat)} {v : Value} (h : Making w0 w p i o (.pointer (some ⟨bl, 0, none⟩)) bs v) (hb : bs.length = 64) (val : Nat → Int) : PipeS w w0.heap.size w.heap.size bl p 0 0 val := by
  obtain ⟨h1, h2, h3, h4, h5, h6, h7, h8, h9⟩ := h
  obtain ⟨_, ⟨_, hh⟩ | ⟨g, cap, cs, rfl, hx1, hx2, hx3, hx4, hx5⟩⟩ := h6
  · omega
  · have hlen : (i :: o :: placeBlocks bs).length = 130 := by simp [placeBlocks_length, hb]
    have hbk : ∀ a, a < 130 → (i :: o :: placeBlocks bs)[a]? = some ((i :: o :: placeBlocks bs).getD a 0) := fun a ha => by
      rw [List.getD_eq_getElem?_getD, List.getElem?_eq_getElem (by omega)]; rfl
    have hpl : ∀ k (hk : k < 64), (i :: o :: placeBlocks bs).getD (2 * k + 2) 0 = (bs[k]'(by omega)).1 ∧ (i :: o :: placeBlocks bs).getD (2 * k + 3) 0 = (bs[k]'(by omega)).2 := fun k hk => by
      obtain ⟨a, b⟩ := place_at bs k
      rw [List.getElem?_eq_getElem (show k < bs.length by omega)] at a b
      refine ⟨?_, ?_⟩
      · rw [List.getD_eq_getElem?_getD, List.getElem?_cons_succ, List.getElem?_cons_succ, a]; rfl
      · rw [List.getD_eq_getElem?_getD, List.getElem?_cons_succ, List.getElem?_cons_succ, b]; rfl
    have hcs : ∀ j, j < 128 → cs[j]? = (placeVals bs)[j]? := fun j hj => by
      rw [← hx5.2, List.getElem?_take, if_pos (by simp [hb]; omega), Array.getElem?_toList]
    refine ⟨g, cap, fun a => (i :: o :: placeBlocks bs).getD a 0, fun a => if a < 2 then 0 else if a % 2 = 0 then ((a - 2) / 2 : Nat) else 0, ?_, ?_, ?_, by simp, by simp, ?_, ?_, h3, h2.lt, hx1, Blk.lt hx2, ?_⟩
    · intro k hk
      obtain ⟨a, b⟩ := hpl k hk
      obtain ⟨va, vb⟩ := val_at bs k
      rw [List.getElem?_eq_getElem (show k < bs.length by omega)] at va vb
      refine ⟨by rw [hb] at h2; exact h2, cs, hx2, ?_, ?_⟩
      · show _ = some (Value.pointer (some ⟨(i :: o :: placeBlocks bs).getD (2 * k + 2) 0, 0, none⟩))
        rw [a, hcs _ (by omega), va]; rfl
      · show _ = some (Value.pointer (some ⟨(i :: o :: placeBlocks bs).getD (2 * k + 3) 0, 0, none⟩))
        rw [b, hcs _ (by omega), vb]; rfl
    · intro a ha
      show IsCell w ((i :: o :: placeBlocks bs).getD a 0) (if a < 2 then 0 else if a % 2 = 0 then ((a - 2) / 2 : Nat) else 0)
      rcases (show a = 0 ∨ a = 1 ∨ 2 ≤ a by omega) with rfl | rfl | h2a
      · exact h4
      · exact h5
      · obtain ⟨k, hk | hk⟩ : ∃ k, a = 2 * k + 2 ∨ a = 2 * k + 3 := ⟨(a - 2) / 2, by omega⟩
        · subst hk
          rw [(hpl k (by omega)).1, if_neg (by omega), if_pos (by omega), show (2 * k + 2 - 2) / 2 = k by omega]
          exact (h7 k _ _ (List.getElem?_eq_getElem (by omega))).1
        · subst hk
          rw [(hpl k (by omega)).2, if_neg (by omega), if_neg (by omega)]
          exact (h7 k _ _ (List.getElem?_eq_getElem (by omega))).2
    · intro a b ha hb' e
      have ea := hbk a ha
      have eb := hbk b hb'
      have e' : (i :: o :: placeBlocks bs).getD a 0 = (i :: o :: placeBlocks bs).getD b 0 := e
      exact (List.getElem?_inj (show a < (i :: o :: placeBlocks bs).length by omega) h8).1 (ea.trans ((congrArg some e').trans eb.symm))
    · intro k hk
      show (if 2 * k + 2 < 2 then (0 : Int) else if (2 * k + 2) % 2 = 0 then ((2 * k + 2 - 2) / 2 : Nat) else 0) = turnOf 0 0 k
      rw [if_neg (by omega), if_pos (by omega), show (2 * k + 2 - 2) / 2 = k by omega]
      simp [turnOf]
    · intro k _ hk; omega
    · intro a ha
      exact h9 _ (List.mem_of_getElem? (hbk a ha))

section
variable {w : World} {lo hi bl p s r : Nat} {val : Nat → Int} {x : Int}
theorem wrap64_small (z : Int) (h1 : 0 ≤ z) (h2 : z < 4294967296) : wrap64 z = z := by unfold wrap64; omega
theorem PipeS.send (v : Int) (hs : s < 63) (hr : r ≤ s) (h : PipeS w lo hi bl p s r val) (hb : IsCell w bl x) (hlo : bl < lo) :
    Calls Try.prog 8 #[.pointer (some ⟨p, 0, none⟩), .pointer none, .int .i64 v] w fun e w' => e = .returned (.int .i8 1) ∧ PipeS w' lo hi bl p (s + 1) r (fun k => if k = s then v else val k) ∧ IsCell w' bl (wrap64 (x + 1)) ∧ Kept (Touched lo hi bl) w w' := by
  obtain ⟨g, c, bk, f, h1, h2, h3, h4, h5, h6, h7, h8, h9, h10, h11, h12⟩ := h
  have ci : IsCell w (bk 0) (2 * (s : Int)) := h4 ▸ h2 0 (by omega)
  have ct : IsCell w (bk (2 * s + 2)) s := by
    have := h2 (2 * s + 2) (by omega)
    rw [h6 s (by omega)] at this
    have e : turnOf s r s = s := by unfold turnOf; rw [if_neg (by omega), if_neg (by omega)]
    rwa [e] at this
  have cs := h2 (2 * s + 3) (by omega)
  have ne : ∀ a b, a < 130 → b < 130 → a ≠ b → bk a ≠ bk b := fun a b ha hb hab e => hab (h3 a b ha hb e)
  have nb : ∀ a, a < 130 → bk a ≠ bl := fun a ha e => by have := (h12 a ha).1; omega
  refine (send_k p (bk 0) (bk 1) bl g c s (bk (2 * s + 2)) (bk (2 * s + 3)) (by omega) (2 * (s : Int)) v _ x ((by decide +kernel : ∀ k : Fin 64, bits BinOp.and IntKind.i64 (2 * (k.val : Int)) 1 = 0) ⟨s, by omega⟩)
    ((by decide +kernel : ∀ k : Fin 64, (2 * (k.val : Int)).tdiv 2 = k.val) ⟨s, by omega⟩) (by omega) (by omega) w (h1 s (by omega)) ci ct cs hb (ne _ _ (by omega) (by omega) (by omega)) (ne _ _ (by omega) (by omega) (by omega)) (nb _ (by omega)) (ne _ _ (by omega) (by omega) (by omega)) (nb _ (by omega)) (nb _ (by omega))).mono ?_
  rintro e w' ⟨rfl, hs'⟩
  have hq := fun a ha => (h12 a ha)
  have k : Kept (Touched lo hi bl) w (sentK w (bk 0) bl (bk (2 * s + 2)) (bk (2 * s + 3)) (2 * (s : Int)) v s x) := by
    unfold sentK
    exact ((((Kept.refl _ _).set (.inr (hq _ (by omega))) _).set (.inr (hq _ (by omega))) _).set (.inr (hq _ (by omega))) _).set (.inl rfl) _
  have f1 := (((h2.set h3 (a := 0) (by omega) (2 * (s : Int) + 2)).set h3 (a := 2 * s + 3) (by omega) v).set h3 (a := 2 * s + 2) (by omega) ((s : Int) + 1)).far nb (.int .i64 (wrap64 (x + 1)))
  have fp : ∀ j, j < 64 → PipeK (sentK w (bk 0) bl (bk (2 * s + 2)) (bk (2 * s + 3)) (2 * (s : Int)) v s x) p (bk 0) (bk 1) bl g c j (bk (2 * j + 2)) (bk (2 * j + 3)) := fun j hj =>
    ((((h1 j hj).set ci _).set (cs.far (ne _ _ (by omega) (by omega) (by omega)) _) _).set ((ct.far (ne _ _ (by omega) (by omega) (by omega)) _).far (ne _ _ (by omega) (by omega) (by omega)) _) _).set (((hb.far (fun e => nb 0 (by omega) e.symm) _).far (fun e => nb _ (by omega) e.symm) _).far (fun e => nb _ (by omega) e.symm) _) _
  have f6 : IsCell (sentK w (bk 0) bl (bk (2 * s + 2)) (bk (2 * s + 3)) (2 * (s : Int)) v s x) bl (wrap64 (x + 1)) := IsCell.set (((hb.far (fun e => nb 0 (by omega) e.symm) _).far (fun e => nb _ (by omega) e.symm) _).far (fun e => nb _ (by omega) e.symm) _) _
  refine ⟨rfl, ⟨g, c, bk, _, fun j hj => (fp j hj).same hs', fun a ha => hs'.cell (f1 a ha), h3, ?_, ?_, ?_, ?_, h8, h9, h10, h11, h12⟩, hs'.cell f6, k.trans (Kept.same hs')⟩
  · rw [updI_ne _ _ (by omega), updI_ne _ _ (by omega), updI_same]; omega
  · rw [updI_ne _ _ (by omega), updI_ne _ _ (by omega), updI_ne _ _ (by omega), h5]
  · intro j hj
    by_cases hjs : j = s
    · subst hjs
      rw [updI_same]
      unfold turnOf; rw [if_neg (by omega), if_pos (by omega)]
    · rw [updI_ne _ _ (by omega), updI_ne _ _ (by omega), updI_ne _ _ (by omega), h6 j hj]
      unfold turnOf
      by_cases a : j < r
      · rw [if_pos a, if_pos a]
      · rw [if_neg a, if_neg a]
        by_cases b : j < s
        · rw [if_pos b, if_pos (by omega)]
        · rw [if_neg b, if_neg (by omega)]
  · intro j hj hjs
    by_cases hjs2 : j = s
    · subst hjs2
      rw [updI_ne _ _ (by omega), updI_same]; simp
    · rw [updI_ne _ _ (by omega), updI_ne _ _ (by omega), updI_ne _ _ (by omega), h7 j hj (by omega)]; simp [hjs2]
theorem PipeS.recv (hs : s < 64) (hr : r < s) (h : PipeS w lo hi bl p s r val) (hb : IsCell w bl x) (hlo : bl < lo) :
    Calls Try.prog 31 #[.pointer (some ⟨p, 0, none⟩), .pointer none] w fun e w' => e = .returned (.tuple #[.int .i64 (val r), .int .i8 1]) ∧ PipeS w' lo hi bl p s (r + 1) val ∧ IsCell w' bl (wrap64 (x + 1)) ∧ Kept (Touched lo hi bl) w w' := by
  obtain ⟨g, c, bk, f, h1, h2, h3, h4, h5, h6, h7, h8, h9, h10, h11, h12⟩ := h
  have co : IsCell w (bk 1) r := h5 ▸ h2 1 (by omega)
  have ct : IsCell w (bk (2 * r + 2)) ((r : Int) + 1) := by
    have := h2 (2 * r + 2) (by omega)
    rw [h6 r (by omega)] at this
    have e : turnOf s r r = (r : Int) + 1 := by unfold turnOf; rw [if_neg (by omega), if_pos (by omega)]
    rwa [e] at this
  have cs : IsCell w (bk (2 * r + 3)) (val r) := h7 r (Nat.le_refl _) hr ▸ h2 (2 * r + 3) (by omega)
  have ne : ∀ a b, a < 130 → b < 130 → a ≠ b → bk a ≠ bk b := fun a b ha hb hab e => hab (h3 a b ha hb e)
  have nb : ∀ a, a < 130 → bk a ≠ bl := fun a ha e => by have := (h12 a ha).1; omega
  refine (recv_k p (bk 0) (bk 1) bl g c r (bk (2 * r + 2)) (bk (2 * r + 3)) (by omega) (val r) x w (h1 r (by omega)) co ct cs hb (ne _ _ (by omega) (by omega) (by omega)) (ne _ _ (by omega) (by omega) (by omega)) (nb _ (by omega)) (nb _ (by omega))).mono ?_
  rintro e w' ⟨rfl, hs'⟩
  have hq := fun a ha => (h12 a ha)
  have k : Kept (Touched lo hi bl) w (recvK w (bk 1) bl (bk (2 * r + 2)) r x) := by
    unfold recvK
    exact (((Kept.refl _ _).set (.inr (hq _ (by omega))) _).set (.inr (hq _ (by omega))) _).set (.inl rfl) _
  have f1 := ((h2.set h3 (a := 1) (by omega) ((r : Int) + 1)).set h3 (a := 2 * r + 2) (by omega) ((r : Int) + 64)).far nb (.int .i64 (wrap64 (x + 1)))
  have fp : ∀ j, j < 64 → PipeK (recvK w (bk 1) bl (bk (2 * r + 2)) r x) p (bk 0) (bk 1) bl g c j (bk (2 * j + 2)) (bk (2 * j + 3)) := fun j hj =>
    (((h1 j hj).set co _).set (ct.far (ne _ _ (by omega) (by omega) (by omega)) _) _).set ((hb.far (fun e => nb _ (by omega) e.symm) _).far (fun e => nb _ (by omega) e.symm) _) _
  have f6 : IsCell (recvK w (bk 1) bl (bk (2 * r + 2)) r x) bl (wrap64 (x + 1)) := IsCell.set ((hb.far (fun e => nb _ (by omega) e.symm) _).far (fun e => nb _ (by omega) e.symm) _) _
  refine ⟨rfl, ⟨g, c, bk, _, fun j hj => (fp j hj).same hs', fun a ha => hs'.cell (f1 a ha), h3, ?_, ?_, ?_, ?_, h8, h9, h10, h11, h12⟩, hs'.cell f6, k.trans (Kept.same hs')⟩
  · rw [updI_ne _ _ (by omega), updI_ne _ _ (by omega), h4]
  · rw [updI_ne _ _ (by omega), updI_same]; omega
  · intro j hj
    by_cases hjs : j = r
    · subst hjs
      rw [updI_same]
      unfold turnOf; rw [if_pos (by omega)]
    · rw [updI_ne _ _ (by omega), updI_ne _ _ (by omega), h6 j hj]
      unfold turnOf
      by_cases a : j < r
      · rw [if_pos a, if_pos (show j < r + 1 by omega)]
      · rw [if_neg a, if_neg (show ¬ j < r + 1 by omega)]
  · intro j hj hjs
    rw [updI_ne _ _ (by omega), updI_ne _ _ (by omega), h7 j (by omega) hjs]
theorem PipeS.none (hs : s < 64) (hr : r = s) (h : PipeS w lo hi bl p s r val) :
    Calls Try.prog 31 #[.pointer (some ⟨p, 0, none⟩), .pointer none] w fun e w' => e = .returned (.tuple #[.int .i64 0, .int .i8 2]) ∧ SameHeap w w' := by
  subst hr
  obtain ⟨g, c, bk, f, h1, h2, h3, h4, h5, h6, h7, h8, h9, h10, h11, h12⟩ := h
  have ci : IsCell w (bk 0) (2 * (r : Int)) := h4 ▸ h2 0 (by omega)
  have co : IsCell w (bk 1) r := h5 ▸ h2 1 (by omega)
  have ct : IsCell w (bk (2 * r + 2)) r := by
    have := h2 (2 * r + 2) (by omega)
    rw [h6 r (by omega)] at this
    have e : turnOf r r r = r := by unfold turnOf; rw [if_neg (by omega), if_neg (by omega)]
    rwa [e] at this
  exact none_k p (bk 0) (bk 1) bl g c r (bk (2 * r + 2)) (bk (2 * r + 3)) hs w (h1 r hs) co ct ci
end
end Go.Proofs.Ytdbllffkpkkggaa
