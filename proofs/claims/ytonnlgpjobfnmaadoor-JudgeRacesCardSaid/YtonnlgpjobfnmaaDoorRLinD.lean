/- The bag's test over lists of ints: each is written full, gone on with, looked at. Conditions: what the bag's cells hold; the lists lie apart. -/
import Derived.Test.YtonnlgpjobfnmaaDoorRLinE
namespace Go.Proofs.YtonnlgpjobfnmaaDoor
open Go.RowKit
set_option maxRecDepth 100000
/-- A list that was answered: its block, if it has one; its length; its room. -/
structure Lst where
  b : Option Nat
  len : Nat
  cap : Nat
def Lst.ad (L : Lst) : Option Addr := L.b.map fun g => ⟨g, 0, none⟩
def Lst.val (L : Lst) : Value := .slice L.ad L.len L.cap
def LOk (w : World) (base : Nat) (L : Lst) : Prop :=
  (L.b = none ∧ L.len = 0 ∧ L.cap = 0) ∨ ∃ g cs, L.b = some g ∧ base ≤ g ∧ Blk w g 3 cs ∧ cs.size = L.cap ∧ L.len ≤ L.cap ∧ L.cap ≤ maxLen
structure LsOk (w : World) (base : Nat) (Ls : List Lst) : Prop where
  ok : ∀ (m : Nat) (L : Lst), Ls[m]? = some L → LOk w base L
  apart : ∀ (m m' : Nat) (L L' : Lst) (g : Nat), Ls[m]? = some L → Ls[m']? = some L' → L.b = some g → L'.b = some g → m = m'
/-- What the bag's cells are; the room of its row. -/
structure BagP where
  cap : Nat
  cs : Array Value
/-- The bag holds these lists. -/
structure BagI (w : World) (bg bi : Nat) (capI : BagP) (Ls : List Lst) : Prop where
  bag : Blk w bg 50 capI.cs ∧ capI.cs[1]? = some (.slice (some ⟨bi, 0, none⟩) Ls.length capI.cap)
  row : ∃ cs, Blk w bi 27 cs ∧ ∀ (m : Nat) (L : Lst), Ls[m]? = some L → cs[m]? = some L.val
theorem BagI.kept {S : Nat → Prop} {w w' : World} {bg bi : Nat} {capI : BagP} {Ls : List Lst} (h : BagI w bg bi capI Ls) (k : Kept S w w') (hS : ∀ q, S q → ∃ cs, Blk w q 3 cs) : BagI w' bg bi capI Ls := by
  obtain ⟨⟨h1, h2⟩, ⟨cs', h3, h4⟩⟩ := h
  refine ⟨⟨k.blk h1 fun hh => ?_, h2⟩, ⟨cs', k.blk h3 fun hh => ?_, h4⟩⟩
  · obtain ⟨c, hc⟩ := hS _ hh
    exact Blk.ne_ h1 hc (by decide) rfl
  · obtain ⟨c, hc⟩ := hS _ hh
    exact Blk.ne_ h3 hc (by decide) rfl
theorem BagI.c1 {w : World} {bg bi : Nat} {capI : BagP} {Ls : List Lst} (h : BagI w bg bi capI Ls) : w.cell? ⟨bg, 1, none⟩ = some (.slice (some ⟨bi, 0, none⟩) Ls.length capI.cap) := by
  obtain ⟨⟨h1, h2⟩, _⟩ := h
  rw [h1.cell]
  exact h2
theorem BagI.cm {w : World} {bg bi : Nat} {capI : BagP} {Ls : List Lst} (h : BagI w bg bi capI Ls) {m : Nat} {L : Lst} (hm : Ls[m]? = some L) : w.cell? ⟨bi, m, none⟩ = some (.slice L.ad L.len L.cap) := by
  obtain ⟨_, ⟨cs, h1, h2⟩⟩ := h
  rw [h1.cell]
  exact h2 m L hm
/-- Up to list n, place i, the marks stand. -/
structure Ph1 (bg bi : Nat) (capI : BagP) (Ls : List Lst) (base : Nat) (w0 : World) (n i : Nat) (w : World) : Prop where
  bag : BagI w bg bi capI Ls
  ls : LsOk w base Ls
  below : Below base w0 w
  marks : ∀ (m : Nat) (L : Lst) (j g : Nat), Ls[m]? = some L → j < L.len → (m < n ∨ m = n ∧ j < i) → L.b = some g → w.cell? ⟨g, j, none⟩ = some (.int .i64 (numF m j))
theorem Ph1.drew {bg bi : Nat} {capI : BagP} {Ls : List Lst} {base : Nat} {w0 : World} {n i : Nat} {w : World} (h : Ph1 bg bi capI Ls base w0 n i w) : Ph1 bg bi capI Ls base w0 n i w.drew :=
  ⟨⟨h.bag.bag, h.bag.row⟩, ⟨h.ls.ok, h.ls.apart⟩, h.below.drew, h.marks⟩
theorem Ph1.next {bg bi : Nat} {capI : BagP} {Ls : List Lst} {base : Nat} {w0 : World} {n i : Nat} {w : World} {L : Lst} (h : Ph1 bg bi capI Ls base w0 n i w) (hL : Ls[n]? = some L) (hi : L.len ≤ i) : Ph1 bg bi capI Ls base w0 (n + 1) 0 w :=
  ⟨h.bag, h.ls, h.below, fun m L' j g hm hj hn hg => h.marks m L' j g hm hj (by
    rcases hn with hn | ⟨_, hn⟩
    · by_cases e : m = n
      · subst e
        obtain rfl : L = L' := Option.some.inj (hL.symm.trans hm)
        exact .inr ⟨rfl, by omega⟩
      · exact .inl (by omega)
    · omega) hg⟩
theorem LOk.some {w : World} {base : Nat} {L : Lst} (h : LOk w base L) (hl : 0 < L.len) : ∃ g cs, L.b = some g ∧ base ≤ g ∧ Blk w g 3 cs ∧ cs.size = L.cap ∧ L.len ≤ L.cap ∧ L.cap ≤ maxLen := by
  rcases h with ⟨_, h, _⟩ | h
  · omega
  · exact h
theorem LsOk.kept {w w' : World} {base : Nat} {Ls : List Lst} (h : LsOk w base Ls) (hb : ∀ (g : Nat) (cs : Array Value), Blk w g 3 cs → ∃ cs', Blk w' g 3 cs' ∧ cs'.size = cs.size) : LsOk w' base Ls :=
  ⟨fun m L hm => by
    rcases h.ok m L hm with h0 | ⟨g, cs, h1, h2, h3, h4, h5⟩
    · exact .inl h0
    · obtain ⟨cs', h6, h7⟩ := hb g cs h3
      exact .inr ⟨g, cs', h1, h2, h6, h7.trans h4, h5⟩, h.apart⟩
theorem int_set {w : World} {g i : Nat} {u : Value} {q : Nat} {cs : Array Value} (h : Blk w q 3 cs) : ∃ cs', Blk (w.setCell ⟨g, i, none⟩ u) q 3 cs' ∧ cs'.size = cs.size := by
  by_cases e : q = g
  · subst e
    exact ⟨_, h.set_ i u, by simp⟩
  · exact ⟨cs, h.far (by simpa using e) u, rfl⟩
theorem Ph1.step {bg bi : Nat} {capI : BagP} {Ls : List Lst} {base : Nat} {w0 : World} {n i : Nat} {w : World} {L : Lst} {g : Nat} (h : Ph1 bg bi capI Ls base w0 n i w) (hL : Ls[n]? = some L) (hi : i < L.len) (hg : L.b = some g) :
    Ph1 bg bi capI Ls base w0 n (i + 1) (w.setCell ⟨g, i, none⟩ (.int .i64 (numF n i))) := by
  obtain ⟨g', cs, e, hb, hB, hs, hlc, _⟩ := (h.ls.ok n L hL).some (by omega)
  obtain rfl : g = g' := Option.some.inj (hg.symm.trans e)
  refine ⟨h.bag.kept ((Kept.refl (fun q => q = g) w).set (p := ⟨g, i, none⟩) rfl _) (fun q e => by subst e; exact ⟨cs, hB⟩), h.ls.kept fun q cs hq => int_set hq, h.below.setCell (p := ⟨g, i, none⟩) hb _, fun m L' j g' hm hj hn hg' => ?_⟩
  by_cases e : m = n ∧ j = i
  · obtain ⟨rfl, rfl⟩ := e
    obtain rfl : L = L' := Option.some.inj (hL.symm.trans hm)
    obtain rfl : g = g' := Option.some.inj (hg.symm.trans hg')
    rw [(hB.set_ j _).cell, Array.getElem?_setIfInBounds_self_of_lt (by omega)]
  · have h1 := h.marks m L' j g' hm hj (by omega) hg'
    by_cases e2 : g' = g
    · subst e2
      have := h.ls.apart m n L' L g' hm hL hg' hg
      subst this
      have hji : ¬ i = j := fun e3 => e ⟨rfl, e3.symm⟩
      rw [(hB.set_ i _).cell, Array.getElem?_setIfInBounds_ne hji, ← hB.cell]
      exact h1
    · rw [World.cell?_of_block (Below.heap_setCell w ⟨g, i, none⟩ _ g' e2)]
      exact h1
theorem num_same (n i : Int) (w : World) : Calls Tryd.prog 40 #[.int .i64 n, .int .i64 i] w fun e w' => e = .returned (.int .i64 (numF n i)) ∧ w' = w := (num_any n i w).mono fun _ _ h => ⟨h.1, h.2.symm⟩
/-- Marks 0 to k of list m. -/
def marksL (m k : Nat) : List Value := (List.range k).map fun (j : Nat) => (Value.int .i64 (numF (m : Int) (j : Int)))
theorem marksL_len (m k : Nat) : (marksL m k).length = k := by simp [marksL]
theorem marksL_at {m k j : Nat} (h : j < k) : (marksL m k)[j]? = some (.int .i64 (numF m j)) := by simp [marksL, h]
theorem marksL_more (m k : Nat) : marksL m (k + 1) = marksL m k ++ [.int .i64 (numF m k)] := by simp [marksL, List.range_succ]
/-- A slice that is kept: k marks of list m, in a block that no list from n on has. -/
def Kpt (Ls : List Lst) (w : World) (n m k : Nat) (x : Value) : Prop :=
  ∃ q c, x = .slice (some ⟨q, 0, none⟩) k c ∧ (∃ cs, Blk w q 3 cs) ∧ (∀ (k' : Nat) (L' : Lst), Ls[k']? = some L' → n ≤ k' → L'.b ≠ some q) ∧ ∀ j, j < k → w.cell? ⟨q, j, none⟩ = some (.int .i64 (numF m j))
def OwnCells (w : World) (m : Nat) (L : Lst) : Prop := ∀ g, L.b = some g → (∃ cs, Blk w g 3 cs) ∧ ∀ j, j < L.len → w.cell? ⟨g, j, none⟩ = some (.int .i64 (numF m j))
structure Ph2 (bg bi : Nat) (capI : BagP) (Ls : List Lst) (base b2 : Nat) (w0 : World) (n : Nat) (vo vm : Value) (w : World) : Prop where
  bag : BagI w bg bi capI Ls
  below : Below base w0 w
  low : bi < b2 ∧ base ≤ b2 ∧ b2 ≤ w.heap.size
  todo : ∀ (m : Nat) (L : Lst), Ls[m]? = some L → n ≤ m → w.ownsRow base 3 1 L.val L.len (marksL m L.len)
  mks : ∀ (m : Nat) (L : Lst), Ls[m]? = some L → OwnCells w m L
  os : ∃ xs, w.ownsRow b2 27 1 vo n xs ∧ ∀ (m : Nat) (L : Lst) (x : Value), Ls[m]? = some L → xs[m]? = some x → Kpt Ls w n m (L.len + 1) x
  ms : ∃ xs, w.ownsRow b2 27 1 vm n xs ∧ ∀ (m : Nat) (L : Lst) (x : Value), Ls[m]? = some L → xs[m]? = some x → Kpt Ls w n m (L.len + 70) x
  dis : ∀ q, vo.ownBlock = some q → vm.ownBlock ≠ some q
theorem Ph2.below_size {bg bi : Nat} {capI : BagP} {Ls : List Lst} {base b2 : Nat} {w0 : World} {n : Nat} {vo vm : Value} {w : World} (h : Ph2 bg bi capI Ls base b2 w0 n vo vm w) : base ≤ w.heap.size := by have := h.low.2; omega
theorem Ph2.start {bg bi : Nat} {capI : BagP} {Ls : List Lst} {base : Nat} {w0 w : World} (h : Ph1 bg bi capI Ls base w0 Ls.length 0 w) (hb : base ≤ w0.heap.size) : Ph2 bg bi capI Ls base w.heap.size w0 0 (.slice none 0 0) (.slice none 0 0) w := by
  have hmk : ∀ (m : Nat) (L : Lst), Ls[m]? = some L → OwnCells w m L := fun m L hm g hg => by
    rcases h.ls.ok m L hm with ⟨h0, _⟩ | ⟨g', cs, h1, h2, h3, h4, h5⟩
    · rw [h0] at hg; cases hg
    · obtain rfl : g = g' := Option.some.inj (hg.symm.trans h1)
      exact ⟨⟨cs, h3⟩, fun j hj => h.marks m L j g hm hj (.inl (List.getElem?_eq_some_iff.1 hm).1) hg⟩
  obtain ⟨cs, hrow, _⟩ := h.bag.row
  refine ⟨h.bag, h.below, ⟨hrow.lt, Nat.le_trans hb h.below.size, Nat.le_refl _⟩, fun m L hm _ => ?_, hmk, ⟨[], World.ownsRow_nil _ _ _ _, fun m L x _ hx => by simp at hx⟩, ⟨[], World.ownsRow_nil _ _ _ _, fun m L x _ hx => by simp at hx⟩, fun q hq => by simp [Value.ownBlock] at hq⟩
  rcases h.ls.ok m L hm with ⟨h0, h1, h2⟩ | ⟨g, cs, h1, h2, h3, h4, h5, h6⟩
  · have e : L.val = .slice none 0 0 := by simp [Lst.val, Lst.ad, h0, h1, h2]
    rw [e, h1]
    exact World.ownsRow_nil _ _ _ _
  · have e : L.val = .slice (some ⟨g, 0, none⟩) L.len L.cap := by simp [Lst.val, Lst.ad, h1]
    refine ⟨by rw [marksL_len, Nat.mul_one], .inr ⟨g, L.cap, cs, e, h2, h3, h5, h6, by omega, ?_⟩⟩
    apply List.ext_getElem?
    intro j
    rw [Nat.mul_one]
    by_cases hj : j < L.len
    · have := (hmk m L hm g h1).2 j hj
      rw [h3.cell] at this
      rw [List.getElem?_take_of_lt hj, Array.getElem?_toList, this, marksL_at hj]
    · rw [List.getElem?_eq_none (by simp; omega), List.getElem?_eq_none (by rw [marksL_len]; omega)]
theorem In2.bag {bg bi : Nat} {capI : BagP} {Ls : List Lst} {base b2 : Nat} {w0 ws wr : World} {n : Nat} {vo vm : Value} {L : Lst} {xs : List Value} (h : Ph2 bg bi capI Ls base b2 w0 n vo vm ws) (hx : ws.ownsRow b2 27 1 vo n xs) (hL : Ls[n]? = some L) (k : Kept (fun q => L.b = some q ∨ vo.ownBlock = some q) ws wr) : BagI wr bg bi capI Ls := by
  obtain ⟨⟨h1, h2⟩, ⟨cs', h3, h4⟩⟩ := h.bag
  have hint : ∀ q, L.b = some q → ∃ c, Blk ws q 3 c := fun q hq => (h.mks n L hL q hq).1
  have hrow : ∀ q, vo.ownBlock = some q → b2 ≤ q ∧ ∃ c, Blk ws q 27 c := fun q hq => by
    rcases hx.2 with ⟨e, _⟩ | ⟨g, cap, cur, e, hb, hg, _⟩
    · rw [e] at hq; cases hq
    · rw [e] at hq
      have : g = q := by simpa [Value.ownBlock] using hq
      subst this
      exact ⟨hb, cur, hg⟩
  refine ⟨⟨k.blk h1 fun hh => ?_, h2⟩, ⟨cs', k.blk h3 fun hh => ?_, h4⟩⟩
  · rcases hh with hh | hh
    · obtain ⟨c, hc⟩ := hint _ hh
      exact Blk.ne_ h1 hc (by decide) rfl
    · obtain ⟨_, c, hc⟩ := hrow _ hh
      exact Blk.ne_ h1 hc (by decide) rfl
  · rcases hh with hh | hh
    · obtain ⟨c, hc⟩ := hint _ hh
      exact Blk.ne_ h3 hc (by decide) rfl
    · have := (hrow _ hh).1
      have := h.low.1
      omega
/-- Where the loop stands that goes on with a list. -/
def In2 (base b2 : Nat) (n : Nat) (L : Lst) (vo : Value) (xs : List Value) (ws : World) (v8 v9 v5 : Value) (wr : World) : Prop :=
  ∃ i : Nat, L.len ≤ i ∧ i ≤ L.len + 70 ∧ v9 = .int .i64 i ∧ wr.ownsRow base 3 1 v8 i (marksL n i) ∧
    ((i = L.len ∧ v8 = L.val ∧ v5 = vo ∧ wr = ws) ∨
     (L.len < i ∧ Kept (fun q => L.b = some q ∨ vo.ownBlock = some q) ws wr ∧ (∀ q, v8.ownBlock = some q → L.b = some q ∨ ws.heap.size ≤ q) ∧ (∀ q, v5.ownBlock = some q → vo.ownBlock = some q ∨ ws.heap.size ≤ q) ∧ OwnCells wr n L ∧
      ∃ q1 c1, wr.ownsRow b2 27 1 v5 (n + 1) (xs ++ [.slice (some ⟨q1, 0, none⟩) (L.len + 1) c1]) ∧ (∃ cs, Blk wr q1 3 cs) ∧ (L.b = some q1 ∨ ws.heap.size ≤ q1) ∧ ∀ j, j < L.len + 1 → wr.cell? ⟨q1, j, none⟩ = some (.int .i64 (numF n j))))
theorem own_val (L : Lst) : L.val.ownBlock = L.b := by
  unfold Lst.val Lst.ad Value.ownBlock
  cases L.b <;> rfl
/-- One mark more. -/
theorem In2.app {bg bi : Nat} {capI : BagP} {Ls : List Lst} {base b2 : Nat} {w0 ws wr w8 : World} {n i : Nat} {vo vm u8 u5 v8 : Value} {L : Lst} {xs : List Value} {o : Obj} (h : Ph2 bg bi capI Ls base b2 w0 n vo vm ws) (hx : ws.ownsRow b2 27 1 vo n xs) (hL : Ls[n]? = some L) (h8 : wr.ownsRow base 3 1 u8 i (marksL n i))
    (hc : (i = L.len ∧ u8 = L.val ∧ u5 = vo ∧ wr = ws) ∨
     (L.len < i ∧ Kept (fun q => L.b = some q ∨ vo.ownBlock = some q) ws wr ∧ (∀ q, u8.ownBlock = some q → L.b = some q ∨ ws.heap.size ≤ q) ∧ (∀ q, u5.ownBlock = some q → vo.ownBlock = some q ∨ ws.heap.size ≤ q) ∧ OwnCells wr n L ∧
      ∃ q1 c1, wr.ownsRow b2 27 1 u5 (n + 1) (xs ++ [.slice (some ⟨q1, 0, none⟩) (L.len + 1) c1]) ∧ (∃ cs, Blk wr q1 3 cs) ∧ (L.b = some q1 ∨ ws.heap.size ≤ q1) ∧ ∀ j, j < L.len + 1 → wr.cell? ⟨q1, j, none⟩ = some (.int .i64 (numF n j))))
    (r2 : (wr.alloc o).grownBy w8 u8.ownBlock) (r3 : ∀ q j, u8.ownBlock = some q → j < i * 1 → w8.cell? ⟨q, j, none⟩ = (wr.alloc o).cell? ⟨q, j, none⟩) (r4 : ∀ q, v8.ownBlock = some q → u8.ownBlock = some q ∨ (wr.alloc o).heap.size ≤ q) (r5 : ∀ q, u8.ownBlock = some q → ∃ cs, w8.heap[q]? = some (.cells cs 3 (0, 0))) :
    Kept (fun q => L.b = some q ∨ vo.ownBlock = some q) ws w8 ∧ (∀ q, v8.ownBlock = some q → L.b = some q ∨ ws.heap.size ≤ q) ∧ OwnCells w8 n L ∧
      (∀ q, q < wr.heap.size → u8.ownBlock ≠ some q → w8.heap[q]? = wr.heap[q]?) ∧ (∀ q j, q < wr.heap.size → (∃ cs, Blk wr q 3 cs) → j < i → w8.cell? ⟨q, j, none⟩ = wr.cell? ⟨q, j, none⟩ ∧ ∃ cs, Blk w8 q 3 cs) := by
  have hk : Kept (fun q => L.b = some q ∨ vo.ownBlock = some q) ws wr := by
    rcases hc with ⟨_, _, _, rfl⟩ | ⟨_, hk, _⟩
    · exact Kept.refl _ _
    · exact hk
  have hu : ∀ q, u8.ownBlock = some q → L.b = some q ∨ ws.heap.size ≤ q := by
    rcases hc with ⟨_, rfl, _, _⟩ | ⟨_, _, hu, _⟩
    · intro q hq
      rw [own_val] at hq
      exact .inl hq
    · exact hu
  have hoc : OwnCells wr n L := by
    rcases hc with ⟨_, _, _, rfl⟩ | ⟨_, _, _, _, hoc, _⟩
    · exact h.mks n L hL
    · exact hoc
  have hli : L.len ≤ i := by rcases hc with ⟨h, _⟩ | ⟨h, _⟩ <;> omega
  have hblk : ∀ q, q < wr.heap.size → u8.ownBlock ≠ some q → w8.heap[q]? = wr.heap[q]? := fun q hq hne => (r2.block q (by simp; omega) (fun e => hne e.symm)).trans (Below.heap_alloc wr o q hq)
  have hz : wr.heap.size ≤ w8.heap.size := by have := r2.size; simp at this; omega
  have hint : ∀ q j, q < wr.heap.size → (∃ cs, Blk wr q 3 cs) → j < i → w8.cell? ⟨q, j, none⟩ = wr.cell? ⟨q, j, none⟩ ∧ ∃ cs, Blk w8 q 3 cs := fun q j hq hB hj => by
    by_cases e : u8.ownBlock = some q
    · refine ⟨?_, r5 q e⟩
      rw [r3 q j e (by omega)]
      exact World.cell?_of_block (a := ⟨q, j, none⟩) (Below.heap_alloc wr o q hq)
    · obtain ⟨cs, hB⟩ := hB
      exact ⟨World.cell?_of_block (a := ⟨q, j, none⟩) (hblk q hq e), cs, (hblk q hq e).trans hB⟩
  refine ⟨⟨r2.os.trans hk.os, r2.tape.trans hk.tape, r2.output.trans hk.output, Nat.le_trans hk.size hz, fun q hq hS => ?_⟩, fun q hq => ?_, fun g hg => ?_, hblk, hint⟩
  · rw [hblk q (Nat.lt_of_lt_of_le hq hk.size) fun e => ?_]
    · exact hk.block q hq hS
    · rcases hu q e with h1 | h1
      · exact hS (.inl h1)
      · omega
  · rcases r4 q hq with h1 | h1
    · exact hu q h1
    · simp at h1
      have := hk.size
      exact .inr (by omega)
  · obtain ⟨hB, hcell⟩ := hoc g hg
    have hgl : g < wr.heap.size := by obtain ⟨cs, hB⟩ := hB; exact hB.lt
    refine ⟨?_, fun j hj => ?_⟩
    · by_cases e : u8.ownBlock = some g
      · exact r5 g e
      · obtain ⟨cs, hB⟩ := hB
        exact ⟨cs, (hblk g hgl e).trans hB⟩
    · rw [(hint g j hgl hB (by omega)).1]
      exact hcell j hj
theorem row_shp {w : World} {base n size : Nat} {e : TypeId} {v : Value} {xs : List Value} (h : w.ownsRow base e size v n xs) : ∃ a cap, v = .slice a n cap := by
  obtain ⟨_, ⟨rfl, rfl⟩ | ⟨g, cap, cur, hv, _⟩⟩ := h
  · exact ⟨_, _, rfl⟩
  · exact ⟨_, _, hv⟩
theorem row_ty {w : World} {base n : Nat} {e : TypeId} {v : Value} {xs : List Value} (h : w.ownsRow base e 1 v n xs) : ∀ q, v.ownBlock = some q → base ≤ q ∧ ∃ cs, Blk w q e cs := fun q hq => by
  rcases h.2 with ⟨e, _⟩ | ⟨g, cap, cur, e, hb, hg, _⟩
  · rw [e] at hq; cases hq
  · rw [e] at hq
    have : g = q := by simpa [Value.ownBlock] using hq
    subst this
    exact ⟨hb, cur, hg⟩
theorem row_same {w w' : World} {base n : Nat} {e : TypeId} {v : Value} {xs : List Value} (h : w.ownsRow base e 1 v n xs) (hk : ∀ q cs, v.ownBlock = some q → Blk w q e cs → w'.heap[q]? = w.heap[q]?) : w'.ownsRow base e 1 v n xs := by
  obtain ⟨h1, h2 | ⟨g, cap, cur, hv, hb, hg, h3⟩⟩ := h
  · exact ⟨h1, .inl h2⟩
  · exact ⟨h1, .inr ⟨g, cap, cur, hv, hb, (hk g cur (by rw [hv]; rfl) hg).trans hg, h3⟩⟩
theorem In2.nextB {base b2 : Nat} {ws wr w8 : World} {n i q8 cap8 : Nat} {vo u8 u5 : Value} {L : Lst} {xs : List Value} {x : Int} (hx : x = numF (n : Int) (i : Int)) (hli : i < L.len + 70) (h8 : wr.ownsRow base 3 1 u8 i (marksL n i))
    (hc : (i = L.len ∧ u8 = L.val ∧ u5 = vo ∧ wr = ws) ∨
     (L.len < i ∧ Kept (fun q => L.b = some q ∨ vo.ownBlock = some q) ws wr ∧ (∀ q, u8.ownBlock = some q → L.b = some q ∨ ws.heap.size ≤ q) ∧ (∀ q, u5.ownBlock = some q → vo.ownBlock = some q ∨ ws.heap.size ≤ q) ∧ OwnCells wr n L ∧
      ∃ q1 c1, wr.ownsRow b2 27 1 u5 (n + 1) (xs ++ [.slice (some ⟨q1, 0, none⟩) (L.len + 1) c1]) ∧ (∃ cs, Blk wr q1 3 cs) ∧ (L.b = some q1 ∨ ws.heap.size ≤ q1) ∧ ∀ j, j < L.len + 1 → wr.cell? ⟨q1, j, none⟩ = some (.int .i64 (numF n j))))
    (hie : ¬ i = L.len) (r1 : w8.ownsRow base 3 1 (.slice (some ⟨q8, 0, none⟩) (i + 1) cap8) (i + 1) (marksL n i ++ [.int .i64 x]))
    (hb : Kept (fun q => L.b = some q ∨ vo.ownBlock = some q) ws w8 ∧ (∀ q, (Value.slice (some ⟨q8, 0, none⟩) (i + 1) cap8).ownBlock = some q → L.b = some q ∨ ws.heap.size ≤ q) ∧ OwnCells w8 n L ∧
      (∀ q, q < wr.heap.size → u8.ownBlock ≠ some q → w8.heap[q]? = wr.heap[q]?) ∧ (∀ q j, q < wr.heap.size → (∃ cs, Blk wr q 3 cs) → j < i → w8.cell? ⟨q, j, none⟩ = wr.cell? ⟨q, j, none⟩ ∧ ∃ cs, Blk w8 q 3 cs)) :
    In2 base b2 n L vo xs ws (.slice (some ⟨q8, 0, none⟩) (i + 1) cap8) (.int .i64 ((i : Int) + 1)) u5 w8 := by
  obtain ⟨k1, k2, k3, k4, k5⟩ := hb
  rcases hc with ⟨e, _⟩ | ⟨h1, h2, h3, h4, h5, q1, c1, h6, h7, h9, h10⟩
  · exact absurd e hie
  subst hx
  have hq1 : q1 < wr.heap.size := by obtain ⟨cs, hB⟩ := h7; exact hB.lt
  have key := fun j (hj : j < i) => k5 q1 j hq1 h7 hj
  refine ⟨i + 1, by omega, by omega, by rw [Int.natCast_add]; rfl, by rw [marksL_more]; exact r1, .inr ⟨by omega, k1, k2, h4, k3, q1, c1, row_same h6 fun q cs hq hB => k4 q hB.lt fun e => ?_, (key 0 (by omega)).2, h9, fun j hj => ?_⟩⟩
  · obtain ⟨_, cs', hB'⟩ := row_ty h8 q e
    exact Blk.ne_ hB hB' (by decide) rfl
  · rw [(key j (by omega)).1]
    exact h10 j hj
theorem In2.nextA {base b2 : Nat} {ws w8 w9 : World} {n q8 cap8 : Nat} {vo v9 : Value} {L : Lst} {xs : List Value} {x : Int} {o : Obj} (hx : x = numF (n : Int) (L.len : Int)) (hvo : w8.ownsRow b2 27 1 vo n xs)
    (r1 : w8.ownsRow base 3 1 (.slice (some ⟨q8, 0, none⟩) (L.len + 1) cap8) (L.len + 1) (marksL n L.len ++ [.int .i64 x]))
    (hb : Kept (fun q => L.b = some q ∨ vo.ownBlock = some q) ws w8 ∧ (∀ q, (Value.slice (some ⟨q8, 0, none⟩) (L.len + 1) cap8).ownBlock = some q → L.b = some q ∨ ws.heap.size ≤ q) ∧ OwnCells w8 n L)
    (s1 : w9.ownsRow b2 27 1 v9 (n + 1) (xs ++ [.slice (some ⟨q8, 0, none⟩) (L.len + 1) cap8])) (s2 : (w8.alloc o).grownBy w9 vo.ownBlock) (s4 : ∀ q, v9.ownBlock = some q → vo.ownBlock = some q ∨ (w8.alloc o).heap.size ≤ q) :
    In2 base b2 n L vo xs ws (.slice (some ⟨q8, 0, none⟩) (L.len + 1) cap8) (.int .i64 ((L.len : Int) + 1)) v9 w9 := by
  obtain ⟨k1, k2, k3⟩ := hb
  subst hx
  have hblk : ∀ q, q < w8.heap.size → vo.ownBlock ≠ some q → w9.heap[q]? = w8.heap[q]? := fun q hq hne => (s2.block q (by simp; omega) (fun e => hne e.symm)).trans (Below.heap_alloc w8 o q hq)
  have hint : ∀ q cs, Blk w8 q 3 cs → w9.heap[q]? = w8.heap[q]? := fun q cs hB => hblk q hB.lt fun e => by
    obtain ⟨_, cs', hB'⟩ := row_ty hvo q e
    exact Blk.ne_ hB hB' (by decide) rfl
  have hz : w8.heap.size ≤ w9.heap.size := by have := s2.size; simp at this; omega
  have r9 := row_same r1 fun q cs _ hB => hint q cs hB
  rw [← marksL_more] at r9
  obtain ⟨hbq, cq, hBq⟩ := row_ty r9 q8 rfl
  refine ⟨L.len + 1, by omega, by omega, by rw [Int.natCast_add]; rfl, r9, .inr ⟨by omega, ⟨s2.os.trans k1.os, s2.tape.trans k1.tape, s2.output.trans k1.output, Nat.le_trans k1.size hz, fun q hq hS => ?_⟩, k2, fun q hq => ?_, fun g hg => ?_, q8, cap8, s1, ⟨cq, hBq⟩, k2 q8 rfl, fun j hj => ?_⟩⟩
  · rw [hblk q (Nat.lt_of_lt_of_le hq k1.size) fun e => hS (.inr e)]
    exact k1.block q hq hS
  · rcases s4 q hq with h1 | h1
    · exact .inl h1
    · simp at h1
      have := k1.size
      exact .inr (by omega)
  · obtain ⟨⟨cs, hB⟩, hc⟩ := k3 g hg
    refine ⟨⟨cs, (hint g cs hB).trans hB⟩, fun j hj => ?_⟩
    rw [World.cell?_of_block (a := ⟨g, j, none⟩) (hint g cs hB)]
    exact hc j hj
  · rw [r9.cellAt j (by omega), marksL_at hj]
theorem Kpt.same {Ls : List Lst} {w w' : World} {n n' m k : Nat} {x : Value} (h : Kpt Ls w n m k x) (hn : n ≤ n') (hk : ∀ q cs, (∀ (k' : Nat) (L' : Lst), Ls[k']? = some L' → n ≤ k' → L'.b ≠ some q) → Blk w q 3 cs → w'.heap[q]? = w.heap[q]?) : Kpt Ls w' n' m k x := by
  obtain ⟨q, c, e, ⟨cs, hB⟩, h1, h2⟩ := h
  have hq := hk q cs h1 hB
  exact ⟨q, c, e, ⟨cs, hq.trans hB⟩, fun k' L' hL hk' => h1 k' L' hL (Nat.le_trans hn hk'), fun j hj => by rw [World.cell?_of_block (a := ⟨q, j, none⟩) hq]; exact h2 j hj⟩
theorem getElem_snoc {α : Type} {xs : List α} {y x : α} {n m : Nat} (hl : xs.length = n) (h : (xs ++ [y])[m]? = some x) : (m < n ∧ xs[m]? = some x) ∨ (m = n ∧ y = x) := by
  rcases Nat.lt_or_ge m xs.length with h1 | h1
  · rw [List.getElem?_append_left h1] at h
    exact .inl ⟨by omega, h⟩
  · rw [List.getElem?_append_right h1] at h
    have h2 := (List.getElem?_eq_some_iff.1 h).1
    simp at h2
    have e : m = xs.length := by omega
    subst e
    simp at h
    exact .inr ⟨hl, h⟩
theorem Ph2.next {bg bi : Nat} {capI : BagP} {Ls : List Lst} {base b2 : Nat} {w0 ws wr w9 : World} {n q8 cap8 : Nat} {vo vm u5 v9 : Value} {L : Lst} {xs ys : List Value} {o : Obj} (hap : ∀ (m m' : Nat) (L L' : Lst) (g : Nat), Ls[m]? = some L → Ls[m']? = some L' → L.b = some g → L'.b = some g → m = m')
    (h : Ph2 bg bi capI Ls base b2 w0 n vo vm ws) (hx : ws.ownsRow b2 27 1 vo n xs) (hxk : ∀ (m : Nat) (L : Lst) (x : Value), Ls[m]? = some L → xs[m]? = some x → Kpt Ls ws n m (L.len + 1) x) (hy : ws.ownsRow b2 27 1 vm n ys) (hyk : ∀ (m : Nat) (L : Lst) (x : Value), Ls[m]? = some L → ys[m]? = some x → Kpt Ls ws n m (L.len + 70) x)
    (hL : Ls[n]? = some L) (h8 : wr.ownsRow base 3 1 (.slice (some ⟨q8, 0, none⟩) (L.len + 70) cap8) (L.len + 70) (marksL n (L.len + 70)))
    (k1 : Kept (fun q => L.b = some q ∨ vo.ownBlock = some q) ws wr) (k2 : L.b = some q8 ∨ ws.heap.size ≤ q8) (k4 : ∀ q, u5.ownBlock = some q → vo.ownBlock = some q ∨ ws.heap.size ≤ q) (k3 : OwnCells wr n L)
    (k5 : ∃ q1 c1, wr.ownsRow b2 27 1 u5 (n + 1) (xs ++ [.slice (some ⟨q1, 0, none⟩) (L.len + 1) c1]) ∧ (∃ cs, Blk wr q1 3 cs) ∧ (L.b = some q1 ∨ ws.heap.size ≤ q1) ∧ ∀ j, j < L.len + 1 → wr.cell? ⟨q1, j, none⟩ = some (.int .i64 (numF n j)))
    (s1 : w9.ownsRow b2 27 1 v9 (n + 1) (ys ++ [.slice (some ⟨q8, 0, none⟩) (L.len + 70) cap8])) (s2 : (wr.alloc o).grownBy w9 vm.ownBlock) (s4 : ∀ q, v9.ownBlock = some q → vm.ownBlock = some q ∨ (wr.alloc o).heap.size ≤ q) :
    Ph2 bg bi capI Ls base b2 w0 (n + 1) u5 v9 w9 := by
  obtain ⟨q1, c1, k6, ⟨cs1, k7⟩, k8, k9⟩ := k5
  have hvo := row_ty hx
  have hvm := row_ty hy
  have hblk : ∀ q, q < wr.heap.size → vm.ownBlock ≠ some q → w9.heap[q]? = wr.heap[q]? := fun q hq hne => (s2.block q (by simp; omega) (fun e => hne e.symm)).trans (Below.heap_alloc wr o q hq)
  have hzr : wr.heap.size ≤ w9.heap.size := by have := s2.size; simp at this; omega
  have hvmr : ∀ q, vm.ownBlock = some q → wr.heap[q]? = ws.heap[q]? := fun q hq => by
    obtain ⟨_, cs, hB⟩ := hvm q hq
    refine k1.block q hB.lt fun hh => ?_
    rcases hh with hh | hh
    · obtain ⟨⟨c, hc⟩, _⟩ := h.mks n L hL q hh
      exact Blk.ne_ hc hB (by decide) rfl
    · exact h.dis q hh hq
  -- blocks of ints in the world behind the loop stand
  have hintr : ∀ q cs, Blk wr q 3 cs → w9.heap[q]? = wr.heap[q]? := fun q cs hB => hblk q hB.lt fun e => by
    obtain ⟨_, cs', hB'⟩ := hvm q e
    have h1 := (hvmr q e).trans hB'
    exact Blk.ne_ hB (show Blk wr q 27 cs' from h1) (by decide) rfl
  -- blocks of ints in the world ahead of it, that are not the list's, stand
  have hints : ∀ q cs, L.b ≠ some q → Blk ws q 3 cs → w9.heap[q]? = ws.heap[q]? := fun q cs hne hB => by
    have e1 := k1.block q hB.lt fun hh => by
      rcases hh with hh | hh
      · exact hne hh
      · obtain ⟨_, cs', hB'⟩ := hvo q hh
        exact Blk.ne_ hB hB' (by decide) rfl
    exact (hintr q cs (e1.trans hB)).trans e1
  have hother : ∀ (m : Nat) (L' : Lst) (g : Nat), Ls[m]? = some L' → m ≠ n → L'.b = some g → L.b ≠ some g := fun m L' g hm hne hg e => hne (hap m n L' L g hm hL hg e)
  have hnew : ∀ (k' : Nat) (L' : Lst) (q : Nat), Ls[k']? = some L' → n + 1 ≤ k' → (L.b = some q ∨ ws.heap.size ≤ q) → L'.b ≠ some q := fun k' L' q hk hlt hq e => by
    rcases hq with hq | hq
    · exact hother k' L' q hk (by omega) e hq
    · obtain ⟨⟨c, hc⟩, _⟩ := h.mks k' L' hk q e
      have := hc.lt
      omega
  have hxl : xs.length = n := by have := hx.1; omega
  have hyl : ys.length = n := by have := hy.1; omega
  have h89 := row_same h8 fun q cs _ hB => hintr q cs hB
  obtain ⟨_, cs8, hB8⟩ := row_ty h8 q8 rfl
  have hbr := In2.bag h hx hL k1
  refine ⟨?_, ?_, ⟨h.low.1, h.low.2.1, by have := h.low.2.2; have := k1.size; omega⟩, fun m L' hm hlt => ?_, fun m L' hm => ?_, ⟨_, row_same k6 fun q cs hq hB => hblk q hB.lt fun e => ?_, fun m L' x hm hx' => ?_⟩, ⟨_, s1, fun m L' x hm hx' => ?_⟩, fun q hq e => ?_⟩
  · obtain ⟨⟨h1, h2⟩, ⟨cs', h3, h4⟩⟩ := hbr
    refine ⟨⟨(hblk bg h1.lt fun e => ?_).trans h1, h2⟩, ⟨cs', (hblk bi h3.lt fun e => ?_).trans h3, h4⟩⟩
    · obtain ⟨_, cs', hB'⟩ := hvm bg e
      exact Blk.ne_ h1 (show Blk wr bg 27 cs' from (hvmr bg e).trans hB') (by decide) rfl
    · have := (hvm bi e).1
      have := h.low.1
      omega
  · have b1 : Below base w0 wr := h.below.trans (k1.below h.below_size fun q hh => by
      rcases hh with hh | hh
      · have := (row_ty (h.todo n L hL (Nat.le_refl _)) q (by rw [own_val]; exact hh)).1
        exact this
      · have := (hvo q hh).1
        have := h.low.2.1
        omega)
    exact ⟨s2.os.trans b1.os, s2.tape.trans b1.tape, s2.output.trans b1.output, Nat.le_trans b1.size hzr, fun q hq => by
      have hbz : base ≤ wr.heap.size := by have := h.low.2; have := k1.size; omega
      rw [hblk q (by omega) fun e => ?_]
      · exact b1.block q hq
      · have := (hvm q e).1
        have := h.low.2.1
        omega⟩
  · refine row_same (h.todo m L' hm (by omega)) fun q cs hq hB => ?_
    rw [own_val] at hq
    exact hints q cs (hother m L' q hm (by omega) hq) hB
  · intro g hg
    by_cases e : m = n
    · subst e
      obtain rfl : L = L' := Option.some.inj (hL.symm.trans hm)
      obtain ⟨⟨cs, hB⟩, hc⟩ := k3 g hg
      exact ⟨⟨cs, (hintr g cs hB).trans hB⟩, fun j hj => by rw [World.cell?_of_block (a := ⟨g, j, none⟩) (hintr g cs hB)]; exact hc j hj⟩
    · obtain ⟨⟨cs, hB⟩, hc⟩ := h.mks m L' hm g hg
      have hq := hints g cs (hother m L' g hm e hg) hB
      exact ⟨⟨cs, hq.trans hB⟩, fun j hj => by rw [World.cell?_of_block (a := ⟨g, j, none⟩) hq]; exact hc j hj⟩
  · obtain ⟨_, cs', hB'⟩ := hvm q e
    rcases k4 q hq with h1 | h1
    · exact h.dis q h1 e
    · have := hB'.lt
      omega
  · rcases getElem_snoc hxl hx' with ⟨_, h1⟩ | ⟨rfl, rfl⟩
    · exact (hxk m L' x hm h1).same (by omega) fun q cs hne hB => hints q cs (hne n L hL (Nat.le_refl _)) hB
    · obtain rfl : L = L' := Option.some.inj (hL.symm.trans hm)
      exact ⟨q1, c1, rfl, ⟨cs1, (hintr q1 cs1 k7).trans k7⟩, fun k' L' hk' hlt => hnew k' L' q1 hk' hlt k8, fun j hj => by rw [World.cell?_of_block (a := ⟨q1, j, none⟩) (hintr q1 cs1 k7)]; exact k9 j hj⟩
  · rcases getElem_snoc hyl hx' with ⟨_, h1⟩ | ⟨rfl, rfl⟩
    · exact (hyk m L' x hm h1).same (by omega) fun q cs hne hB => hints q cs (hne n L hL (Nat.le_refl _)) hB
    · obtain rfl : L = L' := Option.some.inj (hL.symm.trans hm)
      exact ⟨q8, cap8, rfl, ⟨cs8, (hintr q8 cs8 hB8).trans hB8⟩, fun k' L' hk' hlt => hnew k' L' q8 hk' hlt k2, fun j hj => by rw [h89.cellAt j (by omega), marksL_at hj]⟩
  · have hq1 := k6.lt q hq
    rcases s4 q e with h1 | h1
    · obtain ⟨_, cs', hB'⟩ := hvm q h1
      rcases k4 q hq with h2 | h2
      · exact h.dis q h2 h1
      · have := hB'.lt
        omega
    · simp at h1
      omega
def Ph3Rel (k : Nat) (W : World) (i : Value) (wr : World) : Prop := ∃ n : Nat, n ≤ k ∧ i = .int .i64 n ∧ wr = W
theorem infoMi : (Tryd.prog.info? 3).map (fun i => (i.zero, i.size, i.bytes)) = some (some (.int .i64 0), 1, 8) := by kernel_rfl
theorem infoMs : (Tryd.prog.info? 27).map (fun i => (i.zero, i.size, i.bytes)) = some (some (.slice none 0 0), 1, 24) := by kernel_rfl
def Ph2Out (bg bi : Nat) (capI : BagP) (Ls : List Lst) (base b2 : Nat) (w0 : World) (i vo vm : Value) (wr : World) : Prop := ∃ n : Nat, n ≤ Ls.length ∧ i = .int .i64 n ∧ Ph2 bg bi capI Ls base b2 w0 n vo vm wr
def Ph1Out (bg bi : Nat) (capI : BagP) (Ls : List Lst) (base : Nat) (w0 : World) (i : Value) (wr : World) : Prop := ∃ n : Nat, n ≤ Ls.length ∧ i = .int .i64 n ∧ Ph1 bg bi capI Ls base w0 n 0 wr
def Ph1In (bg bi : Nat) (capI : BagP) (Ls : List Lst) (base : Nat) (w0 : World) (n : Nat) (L : Lst) (i : Value) (wr : World) : Prop := ∃ j : Nat, j ≤ L.len ∧ i = .int .i64 j ∧ Ph1 bg bi capI Ls base w0 n j wr
set_option maxHeartbeats 1600000 in
theorem apartInts_any (bg bi : Nat) (capI : BagP) (Ls : List Lst) (base : Nat) (hN : Ls.length ≤ 1000) (hlen : ∀ (m : Nat) (L : Lst), Ls[m]? = some L → L.len ≤ 1000000) (w0 : World) (hbase : base ≤ w0.heap.size) (h0 : Ph1 bg bi capI Ls base w0 0 0 w0) :
    Calls Tryd.prog 50 #[.pointer (some ⟨bg, 0, none⟩)] w0 fun e w' => e = .returned (.bool true) ∧ Below base w0 w' ∧ BagI w' bg bi capI Ls := by
  have HL := Lib.hid hlen
  have H0 := Lib.hid h0
  have HAP := Lib.hid h0.ls.apart
  have HLB : Hid (∀ (m : Nat) (L : Lst), Ls[m]? = some L → L.b = none → L.len = 0) := Lib.hid fun m L hm hb => by
    rcases h0.ls.ok m L hm with ⟨_, h, _⟩ | ⟨g, _, h, _⟩
    · exact h
    · rw [hb] at h; cases h
  have c0 := h0.bag.c1
  clear hlen h0
  go_enter Tryd.func50, Tryd.ntmps50
  go_wp2_with fail
  go_loopw [3, 4] (fun i _ wr => Ph1Out bg bi capI Ls base w0 i wr) (fun i _ _ => Ls.length - (intOf i).toNat)
  case atStart => exact ⟨0, Nat.zero_le _, rfl, H0.out⟩
  case round =>
    obtain ⟨n, hn, rfl, hp⟩ := hrel
    have HP := Lib.hid hp
    have c1 := hp.bag.c1
    clear hp
    by_cases hlt : n < Ls.length
    · have hx : decide (n < Ls.length) = true := by simpa using hlt
      have hxi : decide ((n : Int) < (Ls.length : Int)) = true := by simp; omega
      obtain ⟨L, hL⟩ : ∃ L, Ls[n]? = some L := ⟨Ls[n], List.getElem?_eq_getElem hlt⟩
      have HLn := Lib.hid hL
      have hL6 := HL.out n L hL
      clear hL
      go_wp2_with fail
      go_loopw [4] (fun i wr => Ph1In bg bi capI Ls base w0 n L i wr) (fun i _ => L.len - (intOf i).toNat)
      case atStart => exact ⟨0, Nat.zero_le _, rfl, HP.out⟩
      case round =>
        obtain ⟨j, hj, rfl, hp2⟩ := hrel
        have HP2 := Lib.hid hp2
        have c2 := hp2.bag.c1
        have c3 := hp2.bag.cm HLn.out
        clear hp2
        by_cases hlj : j < L.len
        · have hy : decide (j < L.len) = true := by simpa using hlj
          have hyi : decide ((j : Int) < (L.len : Int)) = true := by simp; omega
          obtain ⟨g, cs, hgb, hgb2, hB, hs, hlc, _⟩ := (HP2.out.ls.ok n L HLn.out).some (by omega)
          have c4 : wr.cell? ⟨g, j, none⟩ = some (cs[j]'(by omega)) := by rw [hB.cell, Array.getElem?_eq_getElem]
          have f4 := hB.frozen j
          have had : L.ad = some ⟨g, 0, none⟩ := by unfold Lst.ad; rw [hgb]; rfl
          rw [had] at c3
          clear hB
          have hnum := fun W => num_same (n : Int) (j : Int) W
          obtain ⟨x, hx0⟩ : ∃ x, x = numF (n : Int) (j : Int) := ⟨_, rfl⟩
          rw [← hx0] at hnum
          have HX0 := Lib.hid hx0
          clear hx0
          go_upto_region 7 with (fail)
          refine wp_region_still_tail 12 (by kernel_rfl) (by kernel_rfl) ?_
          simp only [List.take_succ_cons, List.take_zero, List.drop_succ_cons, List.drop_zero]
          repeat still_step
          still_call (hnum _)
          still_step
          refine wpStill_nil ?_
          change wpList _ _ _ _ _ wr.drew
          go_wp2_with fail
          refine ⟨⟨j + 1, hlj, by rw [Int.natCast_add]; rfl, ?_⟩, by simp [intOf]; omega⟩
          rw [HX0.out]
          exact Ph1.step HP2.out.drew HLn.out hlj hgb
        · obtain rfl : j = L.len := by omega
          have hy : decide (L.len < L.len) = false := by simp
          go_wp2_with fail
          exact ⟨⟨n + 1, hlt, by rw [Int.natCast_add]; rfl, Ph1.next HP2.out HLn.out (Nat.le_refl _)⟩, by simp [intOf]; omega⟩
    · obtain rfl : n = Ls.length := by omega
      have hx : decide (Ls.length < Ls.length) = false := by simp
      clear c0
      go_wp2_with fail
      obtain ⟨b2, hb2⟩ : ∃ b2, b2 = wr.heap.size := ⟨_, rfl⟩
      have HP2 : Hid (Ph2 bg bi capI Ls base b2 w0 0 (.slice none 0 0) (.slice none 0 0) wr) := Lib.hid (by rw [hb2]; exact Ph2.start HP.out hbase)
      clear hb2 c1
      go_loopw [7, 5, 6, 8, 9] (fun i vo vm _ _ wr => Ph2Out bg bi capI Ls base b2 w0 i vo vm wr) (fun i _ _ _ _ _ => Ls.length - (intOf i).toNat)
      case atStart => exact ⟨0, Nat.zero_le _, rfl, HP2.out⟩
      case round =>
        clear HP2 HP
        obtain ⟨n, hn, rfl, hp⟩ := hrel
        have HP := Lib.hid hp
        have c1 := hp.bag.c1
        clear hp
        by_cases hlt : n < Ls.length
        · have hx : decide (n < Ls.length) = true := by simpa using hlt
          have hxi : decide ((n : Int) < (Ls.length : Int)) = true := by simp; omega
          obtain ⟨L, hL⟩ : ∃ L, Ls[n]? = some L := ⟨Ls[n], List.getElem?_eq_getElem hlt⟩
          have HLn := Lib.hid hL
          have hL6 := HL.out n L hL
          have c3 := HP.out.bag.cm hL
          clear hL
          obtain ⟨xs, hxs, hxk⟩ := HP.out.os
          have HXS := Lib.hid hxs
          have HXK := Lib.hid hxk
          clear hxs hxk
          have h8 := HP.out.todo n L HLn.out (Nat.le_refl _)
          have H8 := Lib.hid h8
          clear h8
          obtain ⟨ws, hws⟩ : ∃ ws, ws = wr := ⟨_, rfl⟩
          subst hws
          obtain ⟨vo, hvo⟩ : ∃ vo, vo = u5 := ⟨_, rfl⟩
          subst hvo
          obtain ⟨vm, hvm⟩ : ∃ vm, vm = u6 := ⟨_, rfl⟩
          subst hvm
          obtain ⟨ji, hji, hjiz, hjis, hjib⟩ := info_parts infoMi
          obtain ⟨js, hjs, hjsz, hjss, hjsb⟩ := info_parts infoMs
          go_wp2_with fail
          go_loopw [8, 9, 5] (fun v8 v9 v5 wr => In2 base b2 n L vo xs ws v8 v9 v5 wr) (fun _ v9 _ _ => L.len + 70 - (intOf v9).toNat)
          case atStart => exact ⟨L.len, Nat.le_refl _, by omega, rfl, H8.out, .inl ⟨rfl, rfl, rfl, rfl⟩⟩
          case round =>
            obtain ⟨i, hi1, hi2, rfl, h8, hcase⟩ := hrel
            have H8i := Lib.hid h8
            clear h8
            have hsz : ws.heap.size ≤ wr.heap.size := by
              rcases hcase with ⟨_, _, _, rfl⟩ | ⟨_, hk, _⟩
              · exact Nat.le_refl _
              · exact hk.size
            have hkeep : Kept (fun q => L.b = some q ∨ vo.ownBlock = some q) ws wr := by
              rcases hcase with ⟨_, _, _, rfl⟩ | ⟨_, hk, _⟩
              · exact Kept.refl _ _
              · exact hk
            have HKE := Lib.hid hkeep
            clear hkeep
            have hbag : BagI wr bg bi capI Ls := In2.bag HP.out HXS.out HLn.out HKE.out
            have c1 := hbag.c1
            have c3 := hbag.cm HLn.out
            have HBG := Lib.hid hbag
            clear hbag
            have HCA := Lib.hid hcase
            clear hcase
            by_cases hli : i < L.len + 70
            · have hy : decide (i < L.len + 70) = true := by simpa using hli
              have hyi : decide ((i : Int) < (L.len : Int) + 70) = true := by simp; omega
              have hi6 : i < 1000070 := by omega
              have hnum := fun W => num_same (n : Int) (i : Int) W
              obtain ⟨x, hx0⟩ : ∃ x, x = numF (n : Int) (i : Int) := ⟨_, rfl⟩
              rw [← hx0] at hnum
              have HX0 := Lib.hid hx0
              clear hx0
              have hwb : base ≤ wr.heap.size := by have := HP.out.low.2; omega
              have hrow := H8i.out.alloc (.cells #[.int .i64 x] 3)
              have HRW := Lib.hid hrow
              clear hrow
              go_upto_region 17 with (first
                | (go_at_call 40; refine (hnum _).mono ?_; rintro e w3 ⟨rfl, rfl⟩)
                | (at_builtin; refine wpList_append_keep rfl _ _ 27 rfl base 3 ji _ 1 8 Tryd.underlying27 hji hjiz hjis hjib rfl (by decide) _ i (marksL n i) rfl HRW.out ⟨w3.heap.size, 0, none⟩ 1 1 [.int .i64 x] rfl rfl (World.news_of_block (heap_alloc_new _ _)) (by simp [Value.oneCell']) (by unfold maxLen; omega) (by omega) (by simp; omega) ?_; intro v8 w8 r1 r2 r3 r4 r5; have R1 := Lib.hid r1; have hb8 := In2.app HP.out HXS.out HLn.out H8i.out HCA.out r2 r3 r4 r5; have HB8 := Lib.hid hb8; clear r1 r2 r3 r4 r5 hb8))
              have hbag8 := In2.bag HP.out HXS.out HLn.out HB8.out.1
              have c1' := hbag8.c1
              have c3' := hbag8.cm HLn.out
              clear hbag8
              obtain ⟨q8, cap8, rfl, _, hq8⟩ := R1.out.form (by omega)
              by_cases hie : i = L.len
              · have hz : decide ((i : Int) = (L.len : Int)) = true := by simp; omega
                have hz2 : decide (i = L.len) = true := by simp; omega
                subst hie
                have hvo8 : w8.ownsRow b2 27 1 vo n xs := row_same HXS.out fun q cs hq hB => by
                  obtain ⟨_, _, _, hwr⟩ := (HCA.out.resolve_right fun h => by omega)
                  subst hwr
                  refine HB8.out.2.2.2.1 q hB.lt fun e => ?_
                  obtain ⟨_, cs', hB'⟩ := row_ty H8i.out q e
                  exact Blk.ne_ hB hB' (by decide) rfl
                have HV8 := Lib.hid hvo8
                have HV9 := Lib.hid (hvo8.alloc (.cells #[.slice (some ⟨q8, 0, none⟩) (L.len + 1) cap8] 27))
                have hu5 := (HCA.out.resolve_right fun h => by omega).2.2.1
                subst hu5
                have hb28 : b2 ≤ w8.heap.size := by have := HP.out.low.2.2; have := HB8.out.1.size; omega
                clear hvo8
                go_wp2_with (at_builtin; refine wpList_append_keep rfl _ _ 36 rfl b2 27 js _ 1 24 Tryd.underlying36 hjs hjsz hjss hjsb rfl (by decide) _ n xs rfl HV9.out ⟨w8.heap.size, 0, none⟩ 1 1 [.slice (some ⟨q8, 0, none⟩) (L.len + 1) cap8] rfl rfl (World.news_of_block (heap_alloc_new _ _)) (by simp [Value.oneCell']) (by unfold maxLen; omega) (by omega) (by simp; omega) ?_; intro v9 w9 r1 r2 r3 r4 r5; have S1 := Lib.hid r1; have S2 := Lib.hid r2; have S4 := Lib.hid r4; clear r1 r2 r3 r4 r5)
                exact ⟨In2.nextA HX0.out HV8.out R1.out ⟨HB8.out.1, HB8.out.2.1, HB8.out.2.2.1⟩ S1.out S2.out S4.out, by first | (simp [intOf]; done) | (simp [intOf]; omega)⟩
              · have hz : decide ((i : Int) = (L.len : Int)) = false := by simp; omega
                have hz2 : decide (i = L.len) = false := by simp; omega
                go_wp2_with fail
                exact ⟨In2.nextB HX0.out hli H8i.out HCA.out hie R1.out HB8.out, by simp [intOf]; omega⟩
            · obtain rfl : i = L.len + 70 := by omega
              have hy : decide (L.len + 70 < L.len + 70) = false := by simp
              have hyi : decide ((L.len : Int) + 70 < (L.len : Int) + 70) = false := by simp
              obtain ⟨_, hk1, hk2, hk4, hk3, hk5⟩ := HCA.out.resolve_left fun h => by have := h.1; omega
              obtain ⟨q8, cap8, rfl, _, hq8⟩ := H8i.out.form (by omega)
              obtain ⟨ys, hys, hyk⟩ := HP.out.ms
              have HYS := Lib.hid hys
              have HYK := Lib.hid hyk
              have hvm : wr.ownsRow b2 27 1 vm n ys := row_same hys fun q cs hq hB => hk1.block q hB.lt fun hh => by
                rcases hh with hh | hh
                · obtain ⟨⟨c, hc⟩, _⟩ := HP.out.mks n L HLn.out q hh
                  exact Blk.ne_ hc hB (by decide) rfl
                · exact HP.out.dis q hh hq
              have HV9 := Lib.hid (hvm.alloc (.cells #[.slice (some ⟨q8, 0, none⟩) (L.len + 70) cap8] 27))
              have hb2r : b2 ≤ wr.heap.size := by have := HP.out.low.2.2; have := hk1.size; omega
              have HK1 := Lib.hid hk1
              have HK2 := Lib.hid hk2
              have HK3 := Lib.hid hk3
              have HK4 := Lib.hid hk4
              have HK5 := Lib.hid hk5
              clear hk1 hk2 hk3 hk4 hk5 hvm hys hyk
              go_wp2_with (at_builtin; refine wpList_append_keep rfl _ _ 36 rfl b2 27 js _ 1 24 Tryd.underlying36 hjs hjsz hjss hjsb rfl (by decide) _ n ys rfl HV9.out ⟨wr.heap.size, 0, none⟩ 1 1 [.slice (some ⟨q8, 0, none⟩) (L.len + 70) cap8] rfl rfl (World.news_of_block (heap_alloc_new _ _)) (by simp [Value.oneCell']) (by unfold maxLen; omega) (by omega) (by simp; omega) ?_; intro v9 w9 r1 r2 r3 r4 r5; have S1 := Lib.hid r1; have S2 := Lib.hid r2; have S4 := Lib.hid r4; clear r1 r2 r3 r4 r5)
              exact ⟨⟨n + 1, hlt, by rw [Int.natCast_add]; rfl, Ph2.next HAP.out HP.out HXS.out HXK.out HYS.out HYK.out HLn.out H8i.out HK1.out (HK2.out q8 rfl) HK4.out HK3.out HK5.out S1.out S2.out S4.out⟩, by simp [intOf]; omega⟩
        · obtain rfl : n = Ls.length := by omega
          have hx : decide (Ls.length < Ls.length) = false := by simp
          obtain ⟨W, hW⟩ : ∃ W, W = wr := ⟨_, rfl⟩
          subst hW
          have HB := Lib.hid HP.out.below
          obtain ⟨xs, hxs, hxk⟩ := HP.out.os
          obtain ⟨ys, hys, hyk⟩ := HP.out.ms
          obtain ⟨ao, co, rfl⟩ := row_shp hxs
          obtain ⟨am, cm, rfl⟩ := row_shp hys
          have HXS := Lib.hid hxs
          have HXK := Lib.hid hxk
          have HYS := Lib.hid hys
          have HYK := Lib.hid hyk
          clear hxs hxk hys hyk
          go_wp2_with fail
          go_loopw [10, 11, 12, 13] (fun i _ _ _ wr => Ph3Rel Ls.length W i wr) (fun i _ _ _ _ => Ls.length - (intOf i).toNat)
          case atStart => exact ⟨0, Nat.zero_le _, rfl, rfl⟩
          case round =>
            obtain ⟨n, hn, rfl, rfl⟩ := hrel
            by_cases hlt : n < Ls.length
            · have hx : decide (n < Ls.length) = true := by simpa using hlt
              have hxi : decide ((n : Int) < (Ls.length : Int)) = true := by simp; omega
              obtain ⟨L, hL⟩ : ∃ L, Ls[n]? = some L := ⟨Ls[n], List.getElem?_eq_getElem hlt⟩
              have hL6 := HL.out n L hL
              have c3 := HP.out.bag.cm hL
              obtain ⟨go, _, e1, _, hgo⟩ := HXS.out.form (by omega)
              obtain ⟨gm, _, e2, _, hgm⟩ := HYS.out.form (by omega)
              injection e1 with e1 _ e3
              injection e2 with e2 _ e4
              subst e1 e2 e3 e4
              obtain ⟨x1, hx1⟩ : ∃ x, xs[n]? = some x := ⟨xs[n]'(by have := HXS.out.1; omega), List.getElem?_eq_getElem _⟩
              obtain ⟨y1, hy1⟩ : ∃ x, ys[n]? = some x := ⟨ys[n]'(by have := HYS.out.1; omega), List.getElem?_eq_getElem _⟩
              obtain ⟨q1, d1, rfl, ⟨_, hB1⟩, _, hm1⟩ := HXK.out n L x1 hL hx1
              obtain ⟨q2, d2, rfl, ⟨_, hB2⟩, _, hm2⟩ := HYK.out n L y1 hL hy1
              have co1 := (HXS.out.cellAt n (by omega)).trans hx1
              have cm1 := (HYS.out.cellAt n (by omega)).trans hy1
              have HM1 := Lib.hid hm1
              have HM2 := Lib.hid hm2
              have HO1 := Lib.hid (HP.out.mks n L hL)
              have HLn := Lib.hid hL
              clear hm1 hm2 hx1 hy1 hL hB1 hB2
              go_wp2_with fail
              go_loopw [11, 12, 13] (fun i _ _ x => Ph3Rel (L.len + 70) wr i x) (fun i _ _ _ => L.len + 70 - (intOf i).toNat)
              case atStart => exact ⟨0, Nat.zero_le _, rfl, rfl⟩
              case round =>
                obtain ⟨i, hi, rfl, rfl⟩ := hrel
                by_cases hli : i < L.len + 70
                · have hy : decide (i < L.len + 70) = true := by simpa using hli
                  have hyi : decide ((i : Int) < (L.len : Int) + 70) = true := by simp; omega
                  have hnum := fun W => num_same (n : Int) (i : Int) W
                  have d2 := HM2.out i hli
                  have d1 := HM1.out i
                  have d0 := fun g hg => (HO1.out g hg).2 i
                  generalize numF (n : Int) (i : Int) = x at hnum d2 d1 d0
                  rcases Nat.lt_trichotomy i L.len with h | h | h
                  · have hz : decide (i < L.len) = true := by simpa using h
                    have hzi : decide ((i : Int) < (L.len : Int)) = true := by simp; omega
                    have hz2 : decide (i = L.len) = false := by simp; omega
                    have hz3 : decide ((i : Int) = (L.len : Int)) = false := by simp; omega
                    obtain ⟨g, hg⟩ : ∃ g, L.b = some g := by
                      cases hb : L.b with
                      | some g => exact ⟨g, rfl⟩
                      | none =>
                        have := HLB.out n L HLn.out hb
                        omega
                    have had : L.ad = some ⟨g, 0, none⟩ := by unfold Lst.ad; rw [hg]; rfl
                    rw [had] at c3
                    have d3 := d0 g hg h
                    clear d0 d1
                    go_wp2_with (go_at_call 40; refine (hnum _).mono ?_; rintro e w3 ⟨rfl, rfl⟩)
                    exact ⟨⟨i + 1, hli, by rw [Int.natCast_add]; rfl, rfl⟩, by first | (simp [intOf]; done) | (simp [intOf]; omega)⟩
                  · subst h
                    have hz : decide (L.len < L.len) = false := by simp
                    have d3 := d1 (by omega)
                    clear d0 d1
                    go_wp2_with (go_at_call 40; refine (hnum _).mono ?_; rintro e w3 ⟨rfl, rfl⟩)
                    exact ⟨⟨L.len + 1, hli, by rw [Int.natCast_add]; rfl, rfl⟩, by first | (simp [intOf]; done) | (simp [intOf]; omega)⟩
                  · have hz : decide (i < L.len) = false := by simp; omega
                    have hzi : decide ((i : Int) < (L.len : Int)) = false := by simp; omega
                    have hz2 : decide (i = L.len) = false := by simp; omega
                    have hz3 : decide ((i : Int) = (L.len : Int)) = false := by simp; omega
                    clear d0 d1
                    go_wp2_with (go_at_call 40; refine (hnum _).mono ?_; rintro e w3 ⟨rfl, rfl⟩)
                    exact ⟨⟨i + 1, hli, by rw [Int.natCast_add]; rfl, rfl⟩, by first | (simp [intOf]; done) | (simp [intOf]; omega)⟩
                · obtain rfl : i = L.len + 70 := by omega
                  have hy : decide (L.len + 70 < L.len + 70) = false := by simp
                  have hyi : decide ((L.len : Int) + 70 < (L.len : Int) + 70) = false := by simp
                  go_wp2_with fail
                  exact ⟨⟨n + 1, hlt, by rw [Int.natCast_add]; rfl, rfl⟩, by first | (simp [intOf]; done) | (simp [intOf]; omega)⟩
            · obtain rfl : n = Ls.length := by omega
              have hx : decide (Ls.length < Ls.length) = false := by simp
              go_wp2_with fail
              go_ret
              exact ⟨rfl, HB.out, HP.out.bag⟩
end Go.Proofs.YtonnlgpjobfnmaaDoor
