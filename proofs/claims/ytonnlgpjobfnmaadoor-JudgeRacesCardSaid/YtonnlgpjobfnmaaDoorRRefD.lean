/- ref26.All: what holds at the head of its loop. Conditions: a log that may be judged, of 2048 entries at most. -/
import Derived.Test.YtonnlgpjobfnmaaDoorRRefC
import Derived.Test.YtonnlgpjobfnmaaDoorRJudgeG
namespace Go.Proofs.YtonnlgpjobfnmaaDoor
open Go.RowKit
set_option maxRecDepth 100000
def clkN (n : Nat) (c : Clk) : List Int := (List.range n).map c
theorem clkN_len (n : Nat) (c : Clk) : (clkN n c).length = n := by simp [clkN]
theorem clkN_at {n : Nat} {c : Clk} {i : Nat} (h : i < n) : (clkN n c)[i]? = some (c i) := by simp [clkN, h]
theorem clkN_getD {n : Nat} {c : Clk} {i : Nat} (h : i < n) : (clkN n c).getD i 0 = c i := by rw [List.getD_eq_getElem?_getD, clkN_at h]; rfl
theorem clkN_congr {n : Nat} {c d : Clk} (h : ∀ j, j < n → c j = d j) : clkN n c = clkN n d := by
  apply List.map_congr_left
  intro j hj
  exact h j (by simpa using hj)
theorem clkN_set {n : Nat} {c : Clk} {t : Nat} {x : Int} : (clkN n c).set t x = clkN n (fun j => if j = t then x else c j) := by
  apply List.ext_getElem?
  intro j
  by_cases hj : j < n
  · by_cases e : t = j
    · subst e
      rw [List.getElem?_set_self (by rw [clkN_len]; exact hj), clkN_at hj, if_pos rfl]
    · rw [List.getElem?_set_ne e, clkN_at hj, clkN_at hj, if_neg (fun h => e h.symm)]
  · rw [List.getElem?_eq_none (by simp [clkN_len]; omega), List.getElem?_eq_none (by simp [clkN_len]; omega)]
/-- What the book says of a cell: its clock, or nothing: noughts. -/
def BkRel (n : Nat) (X : List Int) (c : Clk) : Prop := X = clkN n c ∨ (X = [] ∧ ∀ j, j < n → c j = 0)
theorem takeF_nil {n : Nat} {c : Clk} : takeF (clkN n c) [] = clkN n c := by
  unfold takeF
  apply List.ext_getElem?
  intro j
  by_cases hj : j < n
  · simp [clkN, hj]
  · simp [clkN, hj]
theorem takeF_two {n : Nat} {c d : Clk} : takeF (clkN n c) (clkN n d) = clkN n (cmax c d) := by
  unfold takeF
  apply List.ext_getElem?
  intro j
  by_cases hj : j < n
  · rw [clkN_at hj, List.getElem?_map, List.getElem?_range (by rw [clkN_len]; exact hj)]
    simp only [Option.map_some]
    rw [if_pos (by rw [clkN_len]; exact hj), clkN_getD hj, clkN_getD hj]
    rfl
  · rw [List.getElem?_eq_none (by simp [clkN_len]; omega), List.getElem?_eq_none (by simp [clkN_len]; omega)]
theorem takeF_rel {n : Nat} {c d : Clk} {Y : List Int} (h : BkRel n Y d) (h0 : ∀ j, j < n → 0 ≤ c j) : takeF (clkN n c) Y = clkN n (cmax c d) := by
  rcases h with rfl | ⟨rfl, h⟩
  · exact takeF_two
  · rw [takeF_nil]
    refine clkN_congr fun j hj => ?_
    unfold cmax
    have := h j hj
    have := h0 j hj
    omega
theorem BkRel.len {n : Nat} {X : List Int} {c : Clk} (h : BkRel n X c) : X.length ≤ n := by
  rcases h with rfl | ⟨rfl, _⟩
  · rw [clkN_len]; exact Nat.le_refl _
  · simp
/-- The threads' lists, the book, the lists that are answered. -/
structure AllAt (B : Nat) (w0 wr : World) (n Tb bk : Nat) (vc vk : Value) (M : List (Int × List Int)) (f : Nat → Clk) (cs : List Clk) (vo : Value) : Prop where
  low : Below B w0 wr
  le : B ≤ wr.heap.size
  tb : B ≤ Tb ∧ B ≤ bk
  book : BookAt wr B bk vc vk M
  ths : ∃ ts, Blk wr Tb 27 ts ∧ ts.size = n ∧ ∀ i, i < n → ∃ x, ts[i]? = some x ∧ Gd wr vc.ownBlock x (clkN n (f i))
  out : ∃ xs, wr.ownsRow B 27 1 vo cs.length xs ∧ ∀ (i : Nat) c x, cs[i]? = some c → xs[i]? = some x → Gd wr vc.ownBlock x (clkN n c)
  n1 : vk.ownBlock ≠ some Tb
  n2 : vo.ownBlock ≠ some Tb
  n3 : ∀ q, vk.ownBlock = some q → vo.ownBlock ≠ some q
section
variable {B n Tb bk : Nat} {w0 wr w' : World} {vc vk vo x : Value} {M : List (Int × List Int)} {f : Nat → Clk} {cs : List Clk}
theorem AllAt.same (h : AllAt B w0 wr n Tb bk vc vk M f cs vo) (k : Kept (fun _ => False) wr w') : AllAt B w0 w' n Tb bk vc vk M f cs vo := by
  have gk : ∀ {x X}, Gd wr vc.ownBlock x X → Gd w' vc.ownBlock x X := fun hg => hg.kept k (fun _ _ h _ => h.elim) (fun q hq => .inl hq)
  refine ⟨h.low.trans (k.below h.le (fun _ h => h.elim)), Nat.le_trans h.le k.size, h.tb, h.book.same k, ?_, ?_, h.n1, h.n2, h.n3⟩
  · obtain ⟨ts, h1, h2, h3⟩ := h.ths
    exact ⟨ts, k.blk h1 id, h2, fun i hi => by obtain ⟨x, hx, hg⟩ := h3 i hi; exact ⟨x, hx, gk hg⟩⟩
  · obtain ⟨xs, h1, h2⟩ := h.out
    exact ⟨xs, row_same h1 fun q cs _ hB => k.block q hB.lt id, fun i c x hc hx => gk (h2 i c x hc hx)⟩
theorem kept_of_below {a b : World} (h : Below a.heap.size a b) : Kept (fun _ => False) a b := Kept.of_below h
/-- A thread's list is laid anew. -/
theorem AllAt.thread (h : AllAt B w0 wr n Tb bk vc vk M f cs vo) {i : Nat} (hi : i < n) {c : Clk} (hg : Gd wr vc.ownBlock x (clkN n c)) : AllAt B w0 (wr.setCell ⟨Tb, i, none⟩ x) n Tb bk vc vk M (updc f i c) cs vo := by
  obtain ⟨ts, h1, h2, h3⟩ := h.ths
  have kk : Kept (fun q => q = Tb) wr (wr.setCell ⟨Tb, i, none⟩ x) := Kept.set (S := fun q => q = Tb) (p := ⟨Tb, i, none⟩) (Kept.refl _ wr) rfl x
  have gk : ∀ {y X}, Gd wr vc.ownBlock y X → Gd (wr.setCell ⟨Tb, i, none⟩ x) vc.ownBlock y X := fun hy => hy.kept kk (fun q cs e hB => by subst e; exact absurd rfl (Blk.ne_ hB h1 (by decide))) (fun q hq => .inl hq)
  obtain ⟨xs, o1, o2⟩ := h.out
  obtain ⟨b1, b2, ys, b3, b4⟩ := h.book
  refine ⟨h.low.setCell (p := ⟨Tb, i, none⟩) h.tb.1 x, by simpa using h.le, h.tb, ⟨kk.blk b1 (Blk.ne_ b1 h1 (by decide)), row_same b2 fun q cs _ hB => kk.block q hB.lt (Blk.ne_ hB h1 (by decide)), ys, row_same b3 fun q cs hq hB => kk.block q hB.lt fun e => h.n1 (e ▸ hq), fun j p y hp hy => gk (b4 j p y hp hy)⟩, ⟨_, h1.set_ i x, by simpa using h2, fun j hj => ?_⟩, ⟨xs, row_same o1 fun q cs hq hB => kk.block q hB.lt fun e => h.n2 (e ▸ hq), fun j c y hc hy => gk (o2 j c y hc hy)⟩, h.n1, h.n2, h.n3⟩
  unfold updc
  by_cases e : j = i
  · subst e
    rw [if_pos rfl]
    exact ⟨x, Array.getElem?_setIfInBounds_self_of_lt (by omega), gk hg⟩
  · rw [if_neg e, Array.getElem?_setIfInBounds_ne (fun h => e h.symm)]
    obtain ⟨y, hy, hgy⟩ := h3 j hj
    exact ⟨y, hy, gk hgy⟩
/-- One list more is answered. -/
theorem AllAt.app (h : AllAt B w0 wr n Tb bk vc vk M f cs vo) {o : Obj} {w8 : World} {v8 : Value} {c : Clk} {xs : List Value} (hg : Gd wr vc.ownBlock x (clkN n c)) (hxs : wr.ownsRow B 27 1 vo cs.length xs ∧ ∀ (i : Nat) c x, cs[i]? = some c → xs[i]? = some x → Gd wr vc.ownBlock x (clkN n c))
    (r1 : w8.ownsRow B 27 1 v8 (cs.length + 1) (xs ++ [x])) (r2 : (wr.alloc o).grownBy w8 vo.ownBlock) (r4 : ∀ q, v8.ownBlock = some q → vo.ownBlock = some q ∨ (wr.alloc o).heap.size ≤ q) : AllAt B w0 w8 n Tb bk vc vk M f (cs ++ [c]) v8 := by
  have kk : Kept (fun q => vo.ownBlock = some q) wr w8 := ((Kept.refl _ wr).alloc o).trans ⟨r2.os, r2.tape, r2.output, r2.size, fun q hq hs => r2.block q hq fun e => hs e.symm⟩
  have hvo := row_ty hxs.1
  have gk : ∀ {y X}, Gd wr vc.ownBlock y X → Gd w8 vc.ownBlock y X := fun hy => hy.kept kk (fun q cs e hB => by obtain ⟨_, cs', hB'⟩ := hvo q e; exact absurd rfl (Blk.ne_ hB hB' (by decide))) (fun q hq => .inl hq)
  obtain ⟨ts, h1, h2, h3⟩ := h.ths
  obtain ⟨b1, b2, ys, b3, b4⟩ := h.book
  have hz : (wr.alloc o).heap.size = wr.heap.size + 1 := by simp
  have hlt := row_ty b3
  refine ⟨h.low.trans (kk.below h.le fun q hq => (hvo q hq).1), Nat.le_trans h.le kk.size, h.tb, ⟨kk.blk b1 fun e => ?_, row_same b2 fun q cs _ hB => kk.block q hB.lt fun e => ?_, ys, row_same b3 fun q cs hq hB => kk.block q hB.lt fun e => h.n3 q hq e, fun j p y hp hy => gk (b4 j p y hp hy)⟩, ⟨ts, kk.blk h1 fun e => h.n2 e, h2, fun i hi => by obtain ⟨y, hy, hgy⟩ := h3 i hi; exact ⟨y, hy, gk hgy⟩⟩, ⟨xs ++ [x], by rw [List.length_append]; exact r1, fun i d y hd hy => ?_⟩, h.n1, fun e => ?_, fun q hq e => ?_⟩
  · obtain ⟨_, cs', hB'⟩ := hvo bk e
    exact Blk.ne_ b1 hB' (by decide) rfl
  · obtain ⟨_, cs', hB'⟩ := hvo q e
    exact Blk.ne_ hB hB' (by decide) rfl
  · have hl : xs.length = cs.length := by have := hxs.1.1; omega
    rcases getElem_snoc rfl hd with ⟨hj, hd⟩ | ⟨hj, rfl⟩
    · rw [List.getElem?_append_left (by omega)] at hy
      exact gk (hxs.2 i d y hd hy)
    · rw [List.getElem?_append_right (by omega), hj, hl] at hy
      simp at hy
      subst hy
      exact gk hg
  · rcases r4 Tb e with e | e
    · exact h.n2 e
    · have := h1.lt
      omega
  · rcases r4 q e with e | e
    · exact h.n3 q hq e
    · obtain ⟨_, cs', hB'⟩ := hlt q hq
      have := hB'.lt
      omega
/-- The book is written. -/
theorem AllAt.set (h : AllAt B w0 wr n Tb bk vc vk M f cs vo) {vc' vk' : Value} {c : Int} {X : List Int} (p : SetPost B bk vc vk M c X wr vc' vk' w') : AllAt B w0 w' n Tb bk vc' vk' (setF M c X) f cs vo := by
  obtain ⟨b1, b2, ys, b3, b4⟩ := h.book
  obtain ⟨ts, h1, h2, h3⟩ := h.ths
  obtain ⟨xs, o1, o2⟩ := h.out
  have hvc := row_ty b2
  have hvk := row_ty b3
  have hvo := row_ty o1
  have hS : ∀ q cs, (q = bk ∨ vc.ownBlock = some q ∨ vk.ownBlock = some q) → Blk wr q 3 cs → vc.ownBlock = some q := fun q cs hq hB => by
    rcases hq with e | e | e
    · subst e; exact absurd rfl (Blk.ne_ hB b1 (by decide))
    · exact e
    · obtain ⟨_, cs', hB'⟩ := hvk q e
      exact absurd rfl (Blk.ne_ hB hB' (by decide))
  have gk : ∀ {y X}, Gd wr vc.ownBlock y X → Gd w' vc'.ownBlock y X := fun hy => hy.kept p.kept hS p.cells
  have hrow : ∀ q cs, Blk wr q 27 cs → vk.ownBlock ≠ some q → w'.heap[q]? = wr.heap[q]? := fun q cs hB hne => p.kept.block q hB.lt fun hq => by
    rcases hq with e | e | e
    · subst e; exact Blk.ne_ hB b1 (by decide) rfl
    · obtain ⟨_, cs', hB'⟩ := hvc q e
      exact Blk.ne_ hB hB' (by decide) rfl
    · exact hne e
  refine ⟨h.low.trans (p.kept.below h.le fun q hq => ?_), Nat.le_trans h.le p.kept.size, h.tb, p.book, ⟨ts, (hrow Tb ts h1 h.n1).trans h1, h2, fun i hi => by obtain ⟨y, hy, hgy⟩ := h3 i hi; exact ⟨y, hy, gk hgy⟩⟩, ⟨xs, row_same o1 fun q cs hq hB => hrow q cs hB fun e => h.n3 q e hq, fun i d y hd hy => gk (o2 i d y hd hy)⟩, fun e => ?_, h.n2, fun q hq e => ?_⟩
  · rcases hq with e | e | e
    · subst e; exact h.tb.2
    · exact (hvc q e).1
    · exact (hvk q e).1
  · rcases p.rows Tb e with e | e
    · exact h.n1 e
    · have := h1.lt
      omega
  · rcases p.rows q hq with e2 | e2
    · exact h.n3 q e2 e
    · obtain ⟨_, cs', hB'⟩ := hvo q e
      have := hB'.lt
      omega
end
end Go.Proofs.YtonnlgpjobfnmaaDoor
