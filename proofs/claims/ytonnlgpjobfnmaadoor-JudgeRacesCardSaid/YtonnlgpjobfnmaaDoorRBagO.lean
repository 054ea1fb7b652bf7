/- Joined of the texts BagA, BagO; what each proves, and its conditions, stand ahead of it. -/
import Derived.Test.YtonnlgpjobfnmaaDoorRLinF
import Derived.Test.YtonnlgpjobfnmaaDoorRAccA
/- The bag's test, for lists of whatever kind: what holds at the heads of its loops. Conditions: what the bag's cells hold; the lists lie apart. -/
namespace Go.Proofs.YtonnlgpjobfnmaaDoor
open Go.RowKit
set_option maxRecDepth 100000
/-- A kind of lists: the type of an element, of a list, of the bag; the bag's field; how many cells an element has; what a mark's cell holds. -/
structure Kind where
  E : TypeId
  S : TypeId
  G : TypeId
  idx : Nat
  sz : Nat
  Mk : World → Nat → Nat → Value → Prop
/-- Blocks of other types stand. -/
def KStay (K : Kind) (w w' : World) : Prop := ∀ q t cs, Blk w q t cs → t ≠ K.E → t ≠ K.S → w'.heap[q]? = w.heap[q]?
theorem KStay.refl (K : Kind) (w : World) : KStay K w w := fun _ _ _ _ _ _ => rfl
theorem KStay.trans {K : Kind} {a b c : World} (h : KStay K a b) (k : KStay K b c) : KStay K a c := fun q t cs hB h1 h2 => by
  have e := h q t cs hB h1 h2
  exact (k q t cs (e.trans hB) h1 h2).trans e
theorem KStay.of_kept {K : Kind} {S : Nat → Prop} {a b : World} (k : Kept S a b) (hS : ∀ q, S q → (∃ cs, Blk a q K.E cs) ∨ ∃ cs, Blk a q K.S cs) : KStay K a b := fun q t cs hB h1 h2 => k.block q hB.lt fun hq => by
  rcases hS q hq with ⟨c, hc⟩ | ⟨c, hc⟩
  · exact Blk.ne_ hB hc h1 rfl
  · exact Blk.ne_ hB hc h2 rfl
structure Kind.Ok (K : Kind) : Prop where
  es : K.E ≠ K.S
  ge : K.G ≠ K.E
  gs : K.G ≠ K.S
  pos : 0 < K.sz
  keep : ∀ {w w' : World} {m i : Nat} {v : Value}, K.Mk w m i v → KStay K w w' → K.Mk w' m i v
theorem row_tyN {w : World} {base n sz : Nat} {e : TypeId} {v : Value} {xs : List Value} (h : w.ownsRow base e sz v n xs) : ∀ q, v.ownBlock = some q → base ≤ q ∧ ∃ cs, Blk w q e cs := fun q hq => by
  rcases h.2 with ⟨e, _⟩ | ⟨g, cap, cur, e, hb, hg, _⟩
  · rw [e] at hq; cases hq
  · rw [e] at hq
    have : g = q := by simpa [Value.ownBlock] using hq
    subst this
    exact ⟨hb, cur, hg⟩
theorem row_sameN {w w' : World} {base n sz : Nat} {e : TypeId} {v : Value} {xs : List Value} (h : w.ownsRow base e sz v n xs) (hk : ∀ q cs, v.ownBlock = some q → Blk w q e cs → w'.heap[q]? = w.heap[q]?) : w'.ownsRow base e sz v n xs := by
  obtain ⟨h1, h2 | ⟨g, cap, cur, hv, hb, hg, h3⟩⟩ := h
  · exact ⟨h1, .inl h2⟩
  · exact ⟨h1, .inr ⟨g, cap, cur, hv, hb, (hk g cur (by rw [hv]; rfl) hg).trans hg, h3⟩⟩
def MkL (K : Kind) (w : World) (m : Nat) (xs : List Value) : Prop := ∀ i v, xs[i]? = some v → K.Mk w m i v
theorem MkL.keep {K : Kind} {w w' : World} {m : Nat} {xs : List Value} (ok : K.Ok) (h : MkL K w m xs) (k : KStay K w w') : MkL K w' m xs := fun i v hv => ok.keep (h i v hv) k
def KOk (K : Kind) (w : World) (base : Nat) (L : Lst) : Prop :=
  (L.b = none ∧ L.len = 0 ∧ L.cap = 0) ∨ ∃ g cs, L.b = some g ∧ base ≤ g ∧ Blk w g K.E cs ∧ cs.size = L.cap * K.sz ∧ L.len ≤ L.cap ∧ L.cap ≤ maxLen
structure KLs (K : Kind) (w : World) (base : Nat) (Ls : List Lst) : Prop where
  ok : ∀ (m : Nat) (L : Lst), Ls[m]? = some L → KOk K w base L
  apart : ∀ (m m' : Nat) (L L' : Lst) (g : Nat), Ls[m]? = some L → Ls[m']? = some L' → L.b = some g → L'.b = some g → m = m'
/-- The lists' own blocks. -/
def LB (Ls : List Lst) (q : Nat) : Prop := ∃ (m : Nat) (L : Lst), Ls[m]? = some L ∧ L.b = some q
/-- The bag holds these lists. -/
structure KBag (K : Kind) (w : World) (bg bi : Nat) (P : BagP) (Ls : List Lst) : Prop where
  bag : Blk w bg K.G P.cs ∧ P.cs[K.idx]? = some (.slice (some ⟨bi, 0, none⟩) Ls.length P.cap)
  row : ∃ cs, Blk w bi K.S cs ∧ ∀ (m : Nat) (L : Lst), Ls[m]? = some L → cs[m]? = some L.val
section
variable {K : Kind} {w w' w0 ws wr wa w8 w9 : World} {bg bi base b2 n i : Nat} {P : BagP} {Ls : List Lst} {L : Lst}
theorem KBag.same (h : KBag K w bg bi P Ls) (h1 : w'.heap[bg]? = w.heap[bg]?) (h2 : w'.heap[bi]? = w.heap[bi]?) : KBag K w' bg bi P Ls := by
  obtain ⟨⟨a, b⟩, ⟨cs, c, d⟩⟩ := h
  exact ⟨⟨h1.trans a, b⟩, ⟨cs, h2.trans c, d⟩⟩
theorem KBag.kept {S : Nat → Prop} (ok : K.Ok) (h : KBag K w bg bi P Ls) (k : Kept S w w') (hS : ∀ q, S q → ∃ cs, Blk w q K.E cs) : KBag K w' bg bi P Ls := by
  obtain ⟨cs', h3, _⟩ := h.row
  refine h.same (k.block bg h.bag.1.lt fun hh => ?_) (k.block bi h3.lt fun hh => ?_)
  · obtain ⟨c, hc⟩ := hS _ hh
    exact Blk.ne_ h.bag.1 hc ok.ge rfl
  · obtain ⟨c, hc⟩ := hS _ hh
    exact Blk.ne_ h3 hc (fun e => ok.es e.symm) rfl
theorem KBag.c1 (h : KBag K w bg bi P Ls) : w.cell? ⟨bg, K.idx, none⟩ = some (.slice (some ⟨bi, 0, none⟩) Ls.length P.cap) := by
  obtain ⟨⟨h1, h2⟩, _⟩ := h
  rw [h1.cell]
  exact h2
theorem KBag.cm (h : KBag K w bg bi P Ls) {m : Nat} (hm : Ls[m]? = some L) : w.cell? ⟨bi, m, none⟩ = some (.slice L.ad L.len L.cap) := by
  obtain ⟨_, ⟨cs, h1, h2⟩⟩ := h
  rw [h1.cell]
  exact h2 m L hm
theorem KOk.some (h : KOk K w base L) (hl : 0 < L.len) : ∃ g cs, L.b = some g ∧ base ≤ g ∧ Blk w g K.E cs ∧ cs.size = L.cap * K.sz ∧ L.len ≤ L.cap ∧ L.cap ≤ maxLen := by
  rcases h with ⟨_, h, _⟩ | h
  · omega
  · exact h
theorem KLs.blk (h : KLs K w base Ls) {q : Nat} (hq : LB Ls q) : base ≤ q ∧ ∃ cs, Blk w q K.E cs := by
  obtain ⟨m, L, hm, hq⟩ := hq
  rcases h.ok m L hm with ⟨h0, _⟩ | ⟨g, cs, h1, h2, h3, _⟩
  · rw [h0] at hq; cases hq
  · rw [h1] at hq
    injection hq with hq
    subst hq
    exact ⟨h2, cs, h3⟩
theorem KLs.kept (h : KLs K w base Ls) (hb : ∀ (g : Nat) (cs : Array Value), LB Ls g → Blk w g K.E cs → ∃ cs', Blk w' g K.E cs' ∧ cs'.size = cs.size) : KLs K w' base Ls :=
  ⟨fun m L hm => by
    rcases h.ok m L hm with h0 | ⟨g, cs, h1, h2, h3, h4, h5⟩
    · exact .inl h0
    · obtain ⟨cs', h6, h7⟩ := hb g cs ⟨m, L, hm, h1⟩ h3
      exact .inr ⟨g, cs', h1, h2, h6, h7.trans h4, h5⟩, h.apart⟩
end
/-- Up to list n, place j, the marks stand. -/
structure KPh1 (K : Kind) (bg bi : Nat) (P : BagP) (Ls : List Lst) (base : Nat) (w0 : World) (n j : Nat) (w : World) : Prop where
  bag : KBag K w bg bi P Ls
  ls : KLs K w base Ls
  kept : Kept (LB Ls) w0 w
  marks : ∀ (m : Nat) (L : Lst) (i g : Nat), Ls[m]? = some L → i < L.len * K.sz → (m < n ∨ m = n ∧ i < j * K.sz) → L.b = some g → ∃ v, w.cell? ⟨g, i, none⟩ = some v ∧ K.Mk w m i v
section
variable {K : Kind} {w w' w0 ws wr wa w8 w9 : World} {bg bi base b2 n i j g : Nat} {P : BagP} {Ls : List Lst} {L : Lst}
theorem KPh1.start (h : KBag K w bg bi P Ls) (h1 : KLs K w base Ls) : KPh1 K bg bi P Ls base w 0 0 w :=
  ⟨h, h1, Kept.refl _ _, fun m L i g _ _ h _ => by omega⟩
theorem KPh1.same (ok : K.Ok) (h : KPh1 K bg bi P Ls base w0 n j w) (k : Kept (fun _ => False) w w') : KPh1 K bg bi P Ls base w0 n j w' := by
  have hs : KStay K w w' := KStay.of_kept k fun _ h => h.elim
  refine ⟨h.bag.kept ok k fun _ h => h.elim, h.ls.kept fun g cs _ hB => ⟨cs, k.blk hB id, rfl⟩, h.kept.trans (k.mono fun _ h => h.elim), fun m L i g hm hi hn hg => ?_⟩
  obtain ⟨v, h1, h2⟩ := h.marks m L i g hm hi hn hg
  obtain ⟨_, cs, hB⟩ := h.ls.blk ⟨m, L, hm, hg⟩
  exact ⟨v, (World.cell?_of_block (a := ⟨g, i, none⟩) (k.block g hB.lt id)).trans h1, ok.keep h2 hs⟩
theorem KPh1.next (h : KPh1 K bg bi P Ls base w0 n i w) (hL : Ls[n]? = some L) (hi : L.len ≤ i) : KPh1 K bg bi P Ls base w0 (n + 1) 0 w :=
  ⟨h.bag, h.ls, h.kept, fun m L' j g hm hj hn hg => h.marks m L' j g hm hj (by
    rcases hn with hn | ⟨_, hn⟩
    · by_cases e : m = n
      · subst e
        obtain rfl : L = L' := Option.some.inj (hL.symm.trans hm)
        exact .inr ⟨rfl, Nat.lt_of_lt_of_le hj (Nat.mul_le_mul_right _ hi)⟩
      · exact .inl (by omega)
    · omega) hg⟩
/-- One mark more. -/
theorem KPh1.step {cs cs' : Array Value} (ok : K.Ok) (h : KPh1 K bg bi P Ls base w0 n j w) (hL : Ls[n]? = some L) (hg : L.b = some g) (hB : Blk w g K.E cs) (hB' : Blk w' g K.E cs') (hs : cs'.size = cs.size)
    (hout : ∀ i, (i < j * K.sz ∨ (j + 1) * K.sz ≤ i) → cs'[i]? = cs[i]?) (hin : ∀ i, j * K.sz ≤ i → i < (j + 1) * K.sz → ∃ v, cs'[i]? = some v ∧ K.Mk w' n i v) (k : Kept (fun q => q = g) w w') : KPh1 K bg bi P Ls base w0 n (j + 1) w' := by
  have hst : KStay K w w' := KStay.of_kept k fun q e => .inl (by subst e; exact ⟨cs, hB⟩)
  refine ⟨h.bag.kept ok k fun q e => by subst e; exact ⟨cs, hB⟩, h.ls.kept fun q c _ hq => ?_, h.kept.trans (k.mono fun q e => by subst e; exact ⟨n, L, hL, hg⟩), fun m L' i g' hm hi hn hg' => ?_⟩
  · by_cases e : q = g
    · subst e
      have := hq.symm.trans hB
      injection this with this
      injection this with this
      subst this
      exact ⟨cs', hB', hs⟩
    · exact ⟨c, k.blk hq e, rfl⟩
  · by_cases e : m = n ∧ j * K.sz ≤ i
    · obtain ⟨rfl, hji⟩ := e
      obtain rfl : L = L' := Option.some.inj (hL.symm.trans hm)
      obtain rfl : g = g' := Option.some.inj (hg.symm.trans hg')
      obtain ⟨v, h1, h2⟩ := hin i hji (by rcases hn with hn | ⟨_, hn⟩ <;> omega)
      exact ⟨v, by rw [hB'.cell]; exact h1, h2⟩
    · have hn' : m < n ∨ m = n ∧ i < j * K.sz := by
        rcases hn with hn | ⟨h1, hn⟩
        · exact .inl hn
        · exact .inr ⟨h1, by
            rcases Nat.lt_or_ge i (j * K.sz) with h2 | h2
            · exact h2
            · exact absurd ⟨h1, h2⟩ e⟩
      obtain ⟨v, h1, h2⟩ := h.marks m L' i g' hm hi hn' hg'
      refine ⟨v, ?_, ok.keep h2 hst⟩
      by_cases e2 : g' = g
      · subst e2
        have := h.ls.apart m n L' L g' hm hL hg' hg
        subst this
        have hlt : i < j * K.sz := by rcases hn' with h3 | ⟨_, h3⟩ <;> omega
        rw [hB'.cell, hout i (.inl hlt), ← hB.cell]
        exact h1
      · obtain ⟨_, c, hc⟩ := h.ls.blk ⟨m, L', hm, hg'⟩
        exact (World.cell?_of_block (a := ⟨g', i, none⟩) (k.block g' hc.lt e2)).trans h1
end
/-- A slice that is kept: k marks of list m, in a block that no list from n on has. -/
def KKpt (K : Kind) (Ls : List Lst) (w : World) (n m k : Nat) (x : Value) : Prop :=
  ∃ q c, x = .slice (some ⟨q, 0, none⟩) k c ∧ (∃ cs, Blk w q K.E cs) ∧ (∀ (k' : Nat) (L' : Lst), Ls[k']? = some L' → n ≤ k' → L'.b ≠ some q) ∧ ∀ i, i < k * K.sz → ∃ v, w.cell? ⟨q, i, none⟩ = some v ∧ K.Mk w m i v
def KOwn (K : Kind) (w : World) (m : Nat) (L : Lst) : Prop := ∀ g, L.b = some g → (∃ cs, Blk w g K.E cs) ∧ ∀ i, i < L.len * K.sz → ∃ v, w.cell? ⟨g, i, none⟩ = some v ∧ K.Mk w m i v
def KRow (K : Kind) (w : World) (base : Nat) (v : Value) (k m : Nat) : Prop := ∃ xs, w.ownsRow base K.E K.sz v k xs ∧ MkL K w m xs
structure KPh2 (K : Kind) (bg bi : Nat) (P : BagP) (Ls : List Lst) (base b2 : Nat) (w0 : World) (n : Nat) (vo vm : Value) (w : World) : Prop where
  bag : KBag K w bg bi P Ls
  kept : Kept (LB Ls) w0 w
  low : bi < b2 ∧ w0.heap.size ≤ b2 ∧ b2 ≤ w.heap.size ∧ base ≤ b2
  todo : ∀ (m : Nat) (L : Lst), Ls[m]? = some L → n ≤ m → KRow K w base L.val L.len m
  mks : ∀ (m : Nat) (L : Lst), Ls[m]? = some L → KOwn K w m L
  os : ∃ xs, w.ownsRow b2 K.S 1 vo n xs ∧ ∀ (m : Nat) (L : Lst) (x : Value), Ls[m]? = some L → xs[m]? = some x → KKpt K Ls w n m (L.len + 1) x
  ms : ∃ xs, w.ownsRow b2 K.S 1 vm n xs ∧ ∀ (m : Nat) (L : Lst) (x : Value), Ls[m]? = some L → xs[m]? = some x → KKpt K Ls w n m (L.len + 70) x
  dis : ∀ q, vo.ownBlock = some q → vm.ownBlock ≠ some q
/-- Where the loop stands that goes on with a list: nothing was added, or something. -/
def KCase (K : Kind) (b2 n : Nat) (L : Lst) (vo : Value) (xs : List Value) (ws : World) (i : Nat) (v8 v5 : Value) (wr : World) : Prop :=
  (i = L.len ∧ v8 = L.val ∧ v5 = vo ∧ wr = ws) ∨
  (L.len < i ∧ Kept (fun q => L.b = some q ∨ vo.ownBlock = some q) ws wr ∧ (∀ q, v8.ownBlock = some q → L.b = some q ∨ ws.heap.size ≤ q) ∧ (∀ q, v5.ownBlock = some q → vo.ownBlock = some q ∨ ws.heap.size ≤ q) ∧ KOwn K wr n L ∧
    ∃ q1 c1, wr.ownsRow b2 K.S 1 v5 (n + 1) (xs ++ [.slice (some ⟨q1, 0, none⟩) (L.len + 1) c1]) ∧ (∃ cs, Blk wr q1 K.E cs) ∧ (L.b = some q1 ∨ ws.heap.size ≤ q1) ∧ ∀ i, i < (L.len + 1) * K.sz → ∃ v, wr.cell? ⟨q1, i, none⟩ = some v ∧ K.Mk wr n i v)
def KIn2 (K : Kind) (base b2 : Nat) (n : Nat) (L : Lst) (vo : Value) (xs : List Value) (ws : World) (v8 v9 v5 : Value) (wr : World) : Prop :=
  ∃ i : Nat, L.len ≤ i ∧ i ≤ L.len + 70 ∧ v9 = .int .i64 i ∧ KRow K wr base v8 i n ∧ KCase K b2 n L vo xs ws i v8 v5 wr
/-- What one append more has left. -/
structure KApp (K : Kind) (n : Nat) (L : Lst) (vo : Value) (ws wr w8 : World) (i : Nat) (u8 v8 : Value) : Prop where
  kept : Kept (fun q => L.b = some q ∨ vo.ownBlock = some q) ws w8
  own : ∀ q, v8.ownBlock = some q → L.b = some q ∨ ws.heap.size ≤ q
  cells : KOwn K w8 n L
  blk : ∀ q, q < wr.heap.size → u8.ownBlock ≠ some q → w8.heap[q]? = wr.heap[q]?
  old : ∀ q j, q < wr.heap.size → (∃ cs, Blk wr q K.E cs) → j < i * K.sz → w8.cell? ⟨q, j, none⟩ = wr.cell? ⟨q, j, none⟩ ∧ ∃ cs, Blk w8 q K.E cs
  stay : KStay K wr w8
section
variable {K : Kind} {w w' w0 ws wr wa w8 w9 : World} {bg bi base b2 n i j g : Nat} {P : BagP} {Ls : List Lst} {L : Lst} {vo vm u8 u5 v5 v8 v9 : Value} {xs ys : List Value} {o : Obj}
theorem KPh2.start (h : KPh1 K bg bi P Ls base w0 Ls.length 0 w) (hb : base ≤ w0.heap.size) : KPh2 K bg bi P Ls base w.heap.size w0 0 (.slice none 0 0) (.slice none 0 0) w := by
  have hmk : ∀ (m : Nat) (L : Lst), Ls[m]? = some L → KOwn K w m L := fun m L hm g hg => by
    obtain ⟨_, cs, hB⟩ := h.ls.blk ⟨m, L, hm, hg⟩
    exact ⟨⟨cs, hB⟩, fun i hi => h.marks m L i g hm hi (.inl (List.getElem?_eq_some_iff.1 hm).1) hg⟩
  obtain ⟨cs, hrow, _⟩ := h.bag.row
  refine ⟨h.bag, h.kept, ⟨hrow.lt, h.kept.size, Nat.le_refl _, Nat.le_trans hb h.kept.size⟩, fun m L hm _ => ?_, hmk, ⟨[], World.ownsRow_nil _ _ _ _, fun m L x _ hx => by simp at hx⟩, ⟨[], World.ownsRow_nil _ _ _ _, fun m L x _ hx => by simp at hx⟩, fun q hq => by simp [Value.ownBlock] at hq⟩
  rcases h.ls.ok m L hm with ⟨h0, h1, h2⟩ | ⟨g, cs, h1, h2, h3, h4, h5, h6⟩
  · have e : L.val = .slice none 0 0 := by simp [Lst.val, Lst.ad, h0, h1, h2]
    rw [e, h1]
    exact ⟨[], World.ownsRow_nil _ _ _ _, fun i v hv => by simp at hv⟩
  · have e : L.val = .slice (some ⟨g, 0, none⟩) L.len L.cap := by simp [Lst.val, Lst.ad, h1]
    have hle : L.len * K.sz ≤ cs.size := by rw [h4]; exact Nat.mul_le_mul_right _ h5
    refine ⟨cs.toList.take (L.len * K.sz), ⟨by simp; omega, .inr ⟨g, L.cap, cs, e, h2, h3, h5, h6, h4, rfl⟩⟩, fun i v hv => ?_⟩
    have hi : i < L.len * K.sz := by have := (List.getElem?_eq_some_iff.1 hv).1; simp at this; omega
    obtain ⟨v', c1, c2⟩ := (hmk m L hm g h1).2 i hi
    rw [List.getElem?_take_of_lt hi, Array.getElem?_toList, ← h3.cell, c1] at hv
    injection hv with hv
    subst hv
    exact c2
theorem KIn2.bag (ok : K.Ok) (h : KPh2 K bg bi P Ls base b2 w0 n vo vm ws) (hx : ws.ownsRow b2 K.S 1 vo n xs) (hL : Ls[n]? = some L) (k : Kept (fun q => L.b = some q ∨ vo.ownBlock = some q) ws wr) : KBag K wr bg bi P Ls := by
  obtain ⟨⟨h1, h2⟩, ⟨cs', h3, h4⟩⟩ := h.bag
  have hint : ∀ q, L.b = some q → ∃ c, Blk ws q K.E c := fun q hq => (h.mks n L hL q hq).1
  have hrow := row_tyN hx
  refine ⟨⟨k.blk h1 fun hh => ?_, h2⟩, ⟨cs', k.blk h3 fun hh => ?_, h4⟩⟩
  · rcases hh with hh | hh
    · obtain ⟨c, hc⟩ := hint _ hh
      exact Blk.ne_ h1 hc ok.ge rfl
    · obtain ⟨_, c, hc⟩ := hrow _ hh
      exact Blk.ne_ h1 hc ok.gs rfl
  · rcases hh with hh | hh
    · obtain ⟨c, hc⟩ := hint _ hh
      exact Blk.ne_ h3 hc (fun e => ok.es e.symm) rfl
    · have := (hrow _ hh).1
      have := h.low.1
      omega
theorem KCase.kept (hc : KCase K b2 n L vo xs ws i v8 v5 wr) : Kept (fun q => L.b = some q ∨ vo.ownBlock = some q) ws wr := by
  rcases hc with ⟨_, _, _, rfl⟩ | ⟨_, hk, _⟩
  · exact Kept.refl _ _
  · exact hk
theorem KIn2.app (h : KPh2 K bg bi P Ls base b2 w0 n vo vm ws) (hL : Ls[n]? = some L) (ok : K.Ok) (h8 : wr.ownsRow base K.E K.sz u8 i ys)
    (hc : KCase K b2 n L vo xs ws i u8 u5 wr) (ha : Below wr.heap.size wr wa) (r2 : (wa.alloc o).grownBy w8 u8.ownBlock) (r3 : ∀ q j, u8.ownBlock = some q → j < i * K.sz → w8.cell? ⟨q, j, none⟩ = (wa.alloc o).cell? ⟨q, j, none⟩)
    (r4 : ∀ q, v8.ownBlock = some q → u8.ownBlock = some q ∨ (wa.alloc o).heap.size ≤ q) (r5 : ∀ q, u8.ownBlock = some q → ∃ cs, w8.heap[q]? = some (.cells cs K.E (0, 0))) : KApp K n L vo ws wr w8 i u8 v8 := by
  have hk := hc.kept
  have hu : ∀ q, u8.ownBlock = some q → L.b = some q ∨ ws.heap.size ≤ q := by
    rcases hc with ⟨_, rfl, _, _⟩ | ⟨_, _, hu, _⟩
    · intro q hq
      rw [own_val] at hq
      exact .inl hq
    · exact hu
  have hoc : KOwn K wr n L := by
    rcases hc with ⟨_, _, _, rfl⟩ | ⟨_, _, _, _, hoc, _⟩
    · exact h.mks n L hL
    · exact hoc
  have hli : L.len ≤ i := by rcases hc with ⟨h, _⟩ | ⟨h, _⟩ <;> omega
  have hza := ha.size
  have hao : ∀ q, q < wr.heap.size → (wa.alloc o).heap[q]? = wr.heap[q]? := fun q hq => (Below.heap_alloc wa o q (by omega)).trans (ha.block q hq)
  have hblk : ∀ q, q < wr.heap.size → u8.ownBlock ≠ some q → w8.heap[q]? = wr.heap[q]? := fun q hq hne => (r2.block q (by simp; omega) (fun e => hne e.symm)).trans (hao q hq)
  have hz : wr.heap.size ≤ w8.heap.size := by have := r2.size; simp at this; omega
  have hint : ∀ q j, q < wr.heap.size → (∃ cs, Blk wr q K.E cs) → j < i * K.sz → w8.cell? ⟨q, j, none⟩ = wr.cell? ⟨q, j, none⟩ ∧ ∃ cs, Blk w8 q K.E cs := fun q j hq hB hj => by
    by_cases e : u8.ownBlock = some q
    · refine ⟨?_, r5 q e⟩
      rw [r3 q j e hj]
      exact World.cell?_of_block (a := ⟨q, j, none⟩) (hao q hq)
    · obtain ⟨cs, hB⟩ := hB
      exact ⟨World.cell?_of_block (a := ⟨q, j, none⟩) (hblk q hq e), cs, (hblk q hq e).trans hB⟩
  have hst : KStay K wr w8 := fun q t cs hB h1 h2 => hblk q hB.lt fun e => by
    obtain ⟨_, c, hc⟩ := row_tyN h8 q e
    exact Blk.ne_ hB hc h1 rfl
  refine ⟨⟨r2.os.trans (ha.os.trans hk.os), r2.tape.trans (ha.tape.trans hk.tape), r2.output.trans (ha.output.trans hk.output), Nat.le_trans hk.size hz, fun q hq hS => ?_⟩, fun q hq => ?_, fun g hg => ?_, hblk, hint, hst⟩
  · rw [hblk q (Nat.lt_of_lt_of_le hq hk.size) fun e => ?_]
    · exact hk.block q hq hS
    · rcases hu q e with h1 | h1
      · exact hS (.inl h1)
      · omega
  · rcases r4 q hq with h1 | h1
    · exact hu q h1
    · simp at h1
      have := hk.size
      exact .inr (by omega)
  · obtain ⟨hB, hcell⟩ := hoc g hg
    have hgl : g < wr.heap.size := by obtain ⟨cs, hB⟩ := hB; exact hB.lt
    refine ⟨?_, fun j hj => ?_⟩
    · by_cases e : u8.ownBlock = some g
      · exact r5 g e
      · obtain ⟨cs, hB⟩ := hB
        exact ⟨cs, (hblk g hgl e).trans hB⟩
    · obtain ⟨v, c1, c2⟩ := hcell j hj
      exact ⟨v, (hint g j hgl hB (Nat.lt_of_lt_of_le hj (Nat.mul_le_mul_right _ hli))).1.trans c1, ok.keep c2 hst⟩
/-- The row behind an append. -/
theorem KRow.more {news : List Value} (ok : K.Ok) (h8 : wr.ownsRow base K.E K.sz u8 i ys) (hm : MkL K wr n ys) (hst : KStay K wr w8) (r1 : w8.ownsRow base K.E K.sz v8 (i + 1) (ys ++ news)) (hn : ∀ c v, news[c]? = some v → K.Mk w8 n (i * K.sz + c) v) : KRow K w8 base v8 (i + 1) n := by
  have hl : ys.length = i * K.sz := h8.1
  refine ⟨_, r1, fun k v hv => ?_⟩
  rcases Nat.lt_or_ge k ys.length with h1 | h1
  · rw [List.getElem?_append_left h1] at hv
    exact ok.keep (hm k v hv) hst
  · rw [List.getElem?_append_right h1] at hv
    have := hn _ v hv
    rwa [← hl, show ys.length + (k - ys.length) = k by omega] at this
theorem KIn2.nextB {q8 cap8 : Nat} {news : List Value} (ok : K.Ok) (hli : i < L.len + 70) (h8 : wr.ownsRow base K.E K.sz u8 i ys) (hm : MkL K wr n ys)
    (hc : KCase K b2 n L vo xs ws i u8 u5 wr) (hie : ¬ i = L.len) (r1 : w8.ownsRow base K.E K.sz (.slice (some ⟨q8, 0, none⟩) (i + 1) cap8) (i + 1) (ys ++ news)) (hn : ∀ c v, news[c]? = some v → K.Mk w8 n (i * K.sz + c) v)
    (hb : KApp K n L vo ws wr w8 i u8 (.slice (some ⟨q8, 0, none⟩) (i + 1) cap8)) :
    KIn2 K base b2 n L vo xs ws (.slice (some ⟨q8, 0, none⟩) (i + 1) cap8) (.int .i64 ((i : Int) + 1)) u5 w8 := by
  rcases hc with ⟨e, _⟩ | ⟨h1, h2, h3, h4, h5, q1, c1, h6, h7, h9, h10⟩
  · exact absurd e hie
  have hq1 : q1 < wr.heap.size := by obtain ⟨cs, hB⟩ := h7; exact hB.lt
  have hp := ok.pos
  have hle : (L.len + 1) * K.sz ≤ i * K.sz := Nat.mul_le_mul_right _ (by omega)
  have hle0 : 0 < i * K.sz := Nat.mul_pos (by omega) hp
  refine ⟨i + 1, by omega, by omega, by rw [Int.natCast_add]; rfl, KRow.more ok h8 hm hb.stay r1 hn, .inr ⟨by omega, hb.kept, hb.own, h4, hb.cells, q1, c1, row_same h6 fun q cs hq hB => hb.blk q hB.lt fun e => ?_, (hb.old q1 0 hq1 h7 hle0).2, h9, fun k hk => ?_⟩⟩
  · obtain ⟨_, cs', hB'⟩ := row_tyN h8 q e
    exact Blk.ne_ hB hB' (fun e => ok.es e.symm) rfl
  · obtain ⟨v, c2, c3⟩ := h10 k hk
    exact ⟨v, (hb.old q1 k hq1 h7 (by omega)).1.trans c2, ok.keep c3 hb.stay⟩
theorem KIn2.nextA {q8 cap8 : Nat} {news : List Value} (ok : K.Ok) (h8 : ws.ownsRow base K.E K.sz L.val L.len ys) (hm : MkL K ws n ys) (hvo : w8.ownsRow b2 K.S 1 vo n xs)
    (r1 : w8.ownsRow base K.E K.sz (.slice (some ⟨q8, 0, none⟩) (L.len + 1) cap8) (L.len + 1) (ys ++ news)) (hn : ∀ c v, news[c]? = some v → K.Mk w8 n (L.len * K.sz + c) v)
    (hb : KApp K n L vo ws ws w8 L.len L.val (.slice (some ⟨q8, 0, none⟩) (L.len + 1) cap8))
    (s1 : w9.ownsRow b2 K.S 1 v9 (n + 1) (xs ++ [.slice (some ⟨q8, 0, none⟩) (L.len + 1) cap8])) (s2 : (w8.alloc o).grownBy w9 vo.ownBlock) (s4 : ∀ q, v9.ownBlock = some q → vo.ownBlock = some q ∨ (w8.alloc o).heap.size ≤ q) :
    KIn2 K base b2 n L vo xs ws (.slice (some ⟨q8, 0, none⟩) (L.len + 1) cap8) (.int .i64 ((L.len : Int) + 1)) v9 w9 := by
  have hblk : ∀ q, q < w8.heap.size → vo.ownBlock ≠ some q → w9.heap[q]? = w8.heap[q]? := fun q hq hne => (s2.block q (by simp; omega) (fun e => hne e.symm)).trans (Below.heap_alloc w8 o q hq)
  have hvt := row_tyN hvo
  have hint : ∀ q cs, Blk w8 q K.E cs → w9.heap[q]? = w8.heap[q]? := fun q cs hB => hblk q hB.lt fun e => by
    obtain ⟨_, cs', hB'⟩ := hvt q e
    exact Blk.ne_ hB hB' ok.es rfl
  have hst : KStay K w8 w9 := fun q t cs hB h1 h2 => hblk q hB.lt fun e => by
    obtain ⟨_, cs', hB'⟩ := hvt q e
    exact Blk.ne_ hB hB' h2 rfl
  have hz : w8.heap.size ≤ w9.heap.size := by have := s2.size; simp at this; omega
  obtain ⟨zs, r8, m8⟩ := KRow.more ok h8 hm hb.stay r1 hn
  have r9 := row_sameN r8 fun q cs _ hB => hint q cs hB
  have m9 := m8.keep ok hst
  obtain ⟨hbq, cq, hBq⟩ := row_tyN r9 q8 rfl
  have hk := hb.kept
  refine ⟨L.len + 1, by omega, by omega, by rw [Int.natCast_add]; rfl, ⟨zs, r9, m9⟩, .inr ⟨by omega, ⟨s2.os.trans hk.os, s2.tape.trans hk.tape, s2.output.trans hk.output, Nat.le_trans hk.size hz, fun q hq hS => ?_⟩, hb.own, fun q hq => ?_, fun g hg => ?_, q8, cap8, s1, ⟨cq, hBq⟩, hb.own q8 rfl, fun k hk => ?_⟩⟩
  · rw [hblk q (Nat.lt_of_lt_of_le hq hk.size) fun e => hS (.inr e)]
    exact hk.block q hq hS
  · rcases s4 q hq with h1 | h1
    · exact .inl h1
    · simp at h1
      have := hk.size
      exact .inr (by omega)
  · obtain ⟨⟨cs, hB⟩, hc⟩ := hb.cells g hg
    refine ⟨⟨cs, (hint g cs hB).trans hB⟩, fun k hk => ?_⟩
    obtain ⟨v, c1, c2⟩ := hc k hk
    exact ⟨v, (World.cell?_of_block (a := ⟨g, k, none⟩) (hint g cs hB)).trans c1, ok.keep c2 hst⟩
  · have hl := r9.1
    obtain ⟨v, hv⟩ : ∃ v, zs[k]? = some v := ⟨zs[k]'(by omega), List.getElem?_eq_getElem _⟩
    exact ⟨v, (r9.cellAt k hk).trans hv, m9 k v hv⟩
theorem KKpt.same {n' m k : Nat} {x : Value} (ok : K.Ok) (h : KKpt K Ls w n m k x) (hn : n ≤ n') (hst : KStay K w w') (hk : ∀ q cs, (∀ (k' : Nat) (L' : Lst), Ls[k']? = some L' → n ≤ k' → L'.b ≠ some q) → Blk w q K.E cs → w'.heap[q]? = w.heap[q]?) : KKpt K Ls w' n' m k x := by
  obtain ⟨q, c, e, ⟨cs, hB⟩, h1, h2⟩ := h
  have hq := hk q cs h1 hB
  exact ⟨q, c, e, ⟨cs, hq.trans hB⟩, fun k' L' hL hk' => h1 k' L' hL (Nat.le_trans hn hk'), fun i hi => by obtain ⟨v, c1, c2⟩ := h2 i hi; exact ⟨v, (World.cell?_of_block (a := ⟨q, i, none⟩) hq).trans c1, ok.keep c2 hst⟩⟩
theorem KPh2.next {q8 cap8 : Nat} {zs : List Value} (ok : K.Ok) (hap : ∀ (m m' : Nat) (L L' : Lst) (g : Nat), Ls[m]? = some L → Ls[m']? = some L' → L.b = some g → L'.b = some g → m = m')
    (h : KPh2 K bg bi P Ls base b2 w0 n vo vm ws) (hx : ws.ownsRow b2 K.S 1 vo n xs) (hxk : ∀ (m : Nat) (L : Lst) (x : Value), Ls[m]? = some L → xs[m]? = some x → KKpt K Ls ws n m (L.len + 1) x) (hy : ws.ownsRow b2 K.S 1 vm n ys) (hyk : ∀ (m : Nat) (L : Lst) (x : Value), Ls[m]? = some L → ys[m]? = some x → KKpt K Ls ws n m (L.len + 70) x)
    (hL : Ls[n]? = some L) (h8 : wr.ownsRow base K.E K.sz (.slice (some ⟨q8, 0, none⟩) (L.len + 70) cap8) (L.len + 70) zs) (h8m : MkL K wr n zs)
    (hc : KCase K b2 n L vo xs ws (L.len + 70) (.slice (some ⟨q8, 0, none⟩) (L.len + 70) cap8) u5 wr)
    (s1 : w9.ownsRow b2 K.S 1 v9 (n + 1) (ys ++ [.slice (some ⟨q8, 0, none⟩) (L.len + 70) cap8])) (s2 : (wr.alloc o).grownBy w9 vm.ownBlock) (s4 : ∀ q, v9.ownBlock = some q → vm.ownBlock = some q ∨ (wr.alloc o).heap.size ≤ q) :
    KPh2 K bg bi P Ls base b2 w0 (n + 1) u5 v9 w9 := by
  obtain ⟨_, k1, k2, k4, k3, q1, c1, k6, ⟨cs1, k7⟩, k8, k9⟩ := hc.resolve_left fun h => by have := h.1; omega
  have k2 := k2 q8 rfl
  have hvo := row_tyN hx
  have hvm := row_tyN hy
  have hblk : ∀ q, q < wr.heap.size → vm.ownBlock ≠ some q → w9.heap[q]? = wr.heap[q]? := fun q hq hne => (s2.block q (by simp; omega) (fun e => hne e.symm)).trans (Below.heap_alloc wr o q hq)
  have hzr : wr.heap.size ≤ w9.heap.size := by have := s2.size; simp at this; omega
  have hvmr : ∀ q, vm.ownBlock = some q → wr.heap[q]? = ws.heap[q]? := fun q hq => by
    obtain ⟨_, cs, hB⟩ := hvm q hq
    refine k1.block q hB.lt fun hh => ?_
    rcases hh with hh | hh
    · obtain ⟨⟨c, hc⟩, _⟩ := h.mks n L hL q hh
      exact Blk.ne_ hc hB ok.es rfl
    · exact h.dis q hh hq
  have hst1 : KStay K ws wr := KStay.of_kept k1 fun q hh => by
    rcases hh with hh | hh
    · exact .inl (h.mks n L hL q hh).1
    · exact .inr (hvo q hh).2
  have hst2 : KStay K wr w9 := fun q t cs hB h1 h2 => hblk q hB.lt fun e => by
    obtain ⟨_, cs', hB'⟩ := hvm q e
    exact Blk.ne_ hB (show Blk wr q K.S cs' from (hvmr q e).trans hB') h2 rfl
  have hst := hst1.trans hst2
  -- blocks of elements in the world behind the loop stand
  have hintr : ∀ q cs, Blk wr q K.E cs → w9.heap[q]? = wr.heap[q]? := fun q cs hB => hblk q hB.lt fun e => by
    obtain ⟨_, cs', hB'⟩ := hvm q e
    exact Blk.ne_ hB (show Blk wr q K.S cs' from (hvmr q e).trans hB') ok.es rfl
  -- blocks of elements in the world ahead of it, that are not the list's, stand
  have hints : ∀ q cs, L.b ≠ some q → Blk ws q K.E cs → w9.heap[q]? = ws.heap[q]? := fun q cs hne hB => by
    have e1 := k1.block q hB.lt fun hh => by
      rcases hh with hh | hh
      · exact hne hh
      · obtain ⟨_, cs', hB'⟩ := hvo q hh
        exact Blk.ne_ hB hB' ok.es rfl
    exact (hintr q cs (e1.trans hB)).trans e1
  have hother : ∀ (m : Nat) (L' : Lst) (g : Nat), Ls[m]? = some L' → m ≠ n → L'.b = some g → L.b ≠ some g := fun m L' g hm hne hg e => hne (hap m n L' L g hm hL hg e)
  have hnew : ∀ (k' : Nat) (L' : Lst) (q : Nat), Ls[k']? = some L' → n + 1 ≤ k' → (L.b = some q ∨ ws.heap.size ≤ q) → L'.b ≠ some q := fun k' L' q hk hlt hq e => by
    rcases hq with hq | hq
    · exact hother k' L' q hk (by omega) e hq
    · obtain ⟨⟨c, hc⟩, _⟩ := h.mks k' L' hk q e
      have := hc.lt
      omega
  have hxl : xs.length = n := by have := hx.1; omega
  have hyl : ys.length = n := by have := hy.1; omega
  have h89 := row_sameN h8 fun q cs _ hB => hintr q cs hB
  have m89 := h8m.keep ok hst2
  obtain ⟨_, cs8, hB8⟩ := row_tyN h8 q8 rfl
  have hbr := KIn2.bag ok h hx hL k1
  refine ⟨?_, ?_, ⟨h.low.1, h.low.2.1, by have := h.low.2.2.1; have := k1.size; omega, h.low.2.2.2⟩, fun m L' hm hlt => ?_, fun m L' hm => ?_, ⟨_, row_same k6 fun q cs hq hB => hblk q hB.lt fun e => ?_, fun m L' x hm hx' => ?_⟩, ⟨_, s1, fun m L' x hm hx' => ?_⟩, fun q hq e => ?_⟩
  · obtain ⟨cs', h3, h4⟩ := hbr.row
    refine hbr.same (hblk bg hbr.bag.1.lt fun e => ?_) (hblk bi h3.lt fun e => ?_)
    · obtain ⟨_, cs', hB'⟩ := hvm bg e
      exact Blk.ne_ hbr.bag.1 (show Blk wr bg K.S cs' from (hvmr bg e).trans hB') ok.gs rfl
    · have := (hvm bi e).1
      have := h.low.1
      omega
  · have b1 : Kept (LB Ls) w0 wr := ⟨k1.os.trans h.kept.os, k1.tape.trans h.kept.tape, k1.output.trans h.kept.output, Nat.le_trans h.kept.size k1.size, fun q hq hS => by
      rw [k1.block q (Nat.lt_of_lt_of_le hq h.kept.size) fun hh => ?_]
      · exact h.kept.block q hq hS
      · rcases hh with hh | hh
        · exact hS ⟨n, L, hL, hh⟩
        · have := (hvo q hh).1
          have := h.low.2.1
          omega⟩
    exact ⟨s2.os.trans b1.os, s2.tape.trans b1.tape, s2.output.trans b1.output, Nat.le_trans b1.size hzr, fun q hq hS => by
      rw [hblk q (Nat.lt_of_lt_of_le hq b1.size) fun e => ?_]
      · exact b1.block q hq hS
      · have := (hvm q e).1
        have := h.low.2.1
        omega⟩
  · obtain ⟨ts, t1, t2⟩ := h.todo m L' hm (by omega)
    refine ⟨ts, row_sameN t1 fun q cs hq hB => ?_, t2.keep ok hst⟩
    rw [own_val] at hq
    exact hints q cs (hother m L' q hm (by omega) hq) hB
  · intro g hg
    by_cases e : m = n
    · subst e
      obtain rfl : L = L' := Option.some.inj (hL.symm.trans hm)
      obtain ⟨⟨cs, hB⟩, hc⟩ := k3 g hg
      exact ⟨⟨cs, (hintr g cs hB).trans hB⟩, fun i hi => by obtain ⟨v, d1, d2⟩ := hc i hi; exact ⟨v, (World.cell?_of_block (a := ⟨g, i, none⟩) (hintr g cs hB)).trans d1, ok.keep d2 hst2⟩⟩
    · obtain ⟨⟨cs, hB⟩, hc⟩ := h.mks m L' hm g hg
      have hq := hints g cs (hother m L' g hm e hg) hB
      exact ⟨⟨cs, hq.trans hB⟩, fun i hi => by obtain ⟨v, d1, d2⟩ := hc i hi; exact ⟨v, (World.cell?_of_block (a := ⟨g, i, none⟩) hq).trans d1, ok.keep d2 hst⟩⟩
  · obtain ⟨_, cs', hB'⟩ := hvm q e
    rcases k4 q hq with h1 | h1
    · exact h.dis q h1 e
    · have := hB'.lt
      omega
  · rcases getElem_snoc hxl hx' with ⟨_, h1⟩ | ⟨rfl, rfl⟩
    · exact (hxk m L' x hm h1).same ok (by omega) hst fun q cs hne hB => hints q cs (hne n L hL (Nat.le_refl _)) hB
    · obtain rfl : L = L' := Option.some.inj (hL.symm.trans hm)
      exact ⟨q1, c1, rfl, ⟨cs1, (hintr q1 cs1 k7).trans k7⟩, fun k' L' hk' hlt => hnew k' L' q1 hk' hlt k8, fun i hi => by obtain ⟨v, d1, d2⟩ := k9 i hi; exact ⟨v, (World.cell?_of_block (a := ⟨q1, i, none⟩) (hintr q1 cs1 k7)).trans d1, ok.keep d2 hst2⟩⟩
  · rcases getElem_snoc hyl hx' with ⟨_, h1⟩ | ⟨rfl, rfl⟩
    · exact (hyk m L' x hm h1).same ok (by omega) hst fun q cs hne hB => hints q cs (hne n L hL (Nat.le_refl _)) hB
    · obtain rfl : L = L' := Option.some.inj (hL.symm.trans hm)
      refine ⟨q8, cap8, rfl, ⟨cs8, (hintr q8 cs8 hB8).trans hB8⟩, fun k' L' hk' hlt => hnew k' L' q8 hk' hlt k2, fun i hi => ?_⟩
      have hl := h89.1
      obtain ⟨v, hv⟩ : ∃ v, zs[i]? = some v := ⟨zs[i]'(by omega), List.getElem?_eq_getElem _⟩
      exact ⟨v, (h89.cellAt i hi).trans hv, m89 i v hv⟩
  · have hq1 := k6.lt q hq
    rcases s4 q e with h1 | h1
    · obtain ⟨_, cs', hB'⟩ := hvm q h1
      rcases k4 q hq with h2 | h2
      · exact h.dis q h2 h1
      · have := hB'.lt
        omega
    · simp at h1
      omega
end
end Go.Proofs.YtonnlgpjobfnmaaDoor
/- Lists of one's own, as the bag's test wants them; what a law of this layer leaves; an empty bag's cells; a log's helpers. No conditions beyond what stands in each. -/
namespace Go.Proofs.YtonnlgpjobfnmaaDoor
open Go.RowKit
set_option maxRecDepth 100000
def lstOf : Value → Lst
  | .slice a n c => ⟨a.map (·.block), n, c⟩
  | _ => ⟨none, 0, 0⟩
/-- Lists of one's own, of elements of one type, apart from each other. -/
structure Owned (w : World) (base : Nat) (e : TypeId) (sz : Nat) (vs : List Value) : Prop where
  own : ∀ (i : Nat) x, vs[i]? = some x → ∃ n ys, w.ownsRow base e sz x n ys ∧ n ≤ 1000000
  apart : ∀ (i j : Nat) x y q, vs[i]? = some x → vs[j]? = some y → x.ownBlock = some q → y.ownBlock = some q → i = j
theorem Owned.same {w w' : World} {base sz : Nat} {e : TypeId} {vs : List Value} (h : Owned w base e sz vs) (hk : ∀ q cs, base ≤ q → Blk w q e cs → w'.heap[q]? = w.heap[q]?) : Owned w' base e sz vs :=
  ⟨fun i x hx => by obtain ⟨n, ys, h1, h2⟩ := h.own i x hx; exact ⟨n, ys, row_sameN h1 fun q cs hq hB => hk q cs (h1.lt q hq).1 hB, h2⟩, h.apart⟩
theorem Owned.take {w : World} {base sz : Nat} {e : TypeId} {vs : List Value} (h : Owned w base e sz vs) (k : Nat) : Owned w base e sz (vs.take k) := by
  have hx : ∀ {i : Nat} {x : Value}, (vs.take k)[i]? = some x → vs[i]? = some x := fun {i x} h => by
    have hi : i < k := by have := (List.getElem?_eq_some_iff.1 h).1; simp at this; omega
    rwa [List.getElem?_take_of_lt hi] at h
  exact ⟨fun i x h1 => h.own i x (hx h1), fun i j x y q h1 h2 => h.apart i j x y q (hx h1) (hx h2)⟩
theorem Owned.app {w : World} {base mid sz : Nat} {e : TypeId} {xs ys : List Value} (h1 : Owned w base e sz xs) (h2 : Owned w base e sz ys) (hx : ∀ x q, x ∈ xs → x.ownBlock = some q → q < mid) (hy : ∀ y q, y ∈ ys → y.ownBlock = some q → mid ≤ q) : Owned w base e sz (xs ++ ys) := by
  have cases : ∀ {i : Nat} {x : Value}, (xs ++ ys)[i]? = some x → (i < xs.length ∧ xs[i]? = some x) ∨ (xs.length ≤ i ∧ ys[i - xs.length]? = some x) := fun {i x} h => by
    rcases Nat.lt_or_ge i xs.length with hi | hi
    · rw [List.getElem?_append_left hi] at h
      exact .inl ⟨hi, h⟩
    · rw [List.getElem?_append_right hi] at h
      exact .inr ⟨hi, h⟩
  refine ⟨fun i x h => ?_, fun i j x y q hi hj hq hq' => ?_⟩
  · rcases cases h with ⟨_, h⟩ | ⟨_, h⟩
    · exact h1.own _ x h
    · exact h2.own _ x h
  · rcases cases hi with ⟨a, hi⟩ | ⟨a, hi⟩ <;> rcases cases hj with ⟨b, hj⟩ | ⟨b, hj⟩
    · exact h1.apart i j x y q hi hj hq hq'
    · have := hx x q (List.mem_of_getElem? hi) hq
      have := hy y q (List.mem_of_getElem? hj) hq'
      omega
    · have := hy x q (List.mem_of_getElem? hi) hq
      have := hx y q (List.mem_of_getElem? hj) hq'
      omega
    · have := h2.apart _ _ x y q hi hj hq hq'
      omega
theorem lst_val {w : World} {base n sz : Nat} {e : TypeId} {x : Value} {ys : List Value} (h : w.ownsRow base e sz x n ys) : (lstOf x).val = x ∧ (lstOf x).len = n ∧ (lstOf x).b = x.ownBlock := by
  rcases h.2 with ⟨rfl, hl⟩ | ⟨g, cap, cur, rfl, _⟩
  · exact ⟨rfl, hl.symm, rfl⟩
  · exact ⟨rfl, rfl, rfl⟩
theorem kls_of {K : Kind} {w : World} {base : Nat} {vs : List Value} (h : Owned w base K.E K.sz vs) : KLs K w base (vs.map lstOf) := by
  refine ⟨fun m L hm => ?_, fun m m' L L' g hm hm' hg hg' => ?_⟩
  · rw [List.getElem?_map] at hm
    obtain ⟨x, hx, rfl⟩ := Option.map_eq_some_iff.1 hm
    obtain ⟨n, ys, ho, _⟩ := h.own m x hx
    rcases ho.2 with ⟨rfl, hl⟩ | ⟨g, cap, cur, rfl, h4, h5, h6, h7, h8, _⟩
    · exact .inl ⟨rfl, rfl, rfl⟩
    · exact .inr ⟨g, cur, rfl, h4, h5, h8, h6, h7⟩
  · rw [List.getElem?_map] at hm hm'
    obtain ⟨x, hx, rfl⟩ := Option.map_eq_some_iff.1 hm
    obtain ⟨y, hy, rfl⟩ := Option.map_eq_some_iff.1 hm'
    obtain ⟨_, _, ho, _⟩ := h.own m x hx
    obtain ⟨_, _, ho', _⟩ := h.own m' y hy
    rw [(lst_val ho).2.2] at hg
    rw [(lst_val ho').2.2] at hg'
    exact h.apart m m' x y g hx hy hg hg'
theorem kbag_of {K : Kind} {w : World} {bg base b2 : Nat} {cs : Array Value} {v : Value} {vs : List Value} (hb : Blk w bg K.G cs) (hc : cs[K.idx]? = some v) (hr : w.ownsRow b2 K.S 1 v vs.length vs) (h0 : 0 < vs.length) (h : Owned w base K.E K.sz vs) : ∃ bi P, P.cs = cs ∧ KBag K w bg bi P (vs.map lstOf) := by
  obtain ⟨h1, ⟨_, h3⟩ | ⟨g, cap', cur, h3, h4, h5, h6, h7, h8, h9⟩⟩ := hr
  · omega
  · subst h3
    refine ⟨g, ⟨cap', cs⟩, rfl, ⟨hb, by rw [List.length_map]; exact hc⟩, cur, h5, fun m L hm => ?_⟩
    rw [List.getElem?_map] at hm
    obtain ⟨x, hx, rfl⟩ := Option.map_eq_some_iff.1 hm
    obtain ⟨n, ys, ho, _⟩ := h.own m x hx
    rw [(lst_val ho).1, ← hx, ← h9, List.getElem?_take_of_lt, Array.getElem?_toList]
    have := (List.getElem?_eq_some_iff.1 hx).1
    omega
theorem owned_len {w : World} {base sz : Nat} {e : TypeId} {vs : List Value} (h : Owned w base e sz vs) : ∀ (m : Nat) (L : Lst), (vs.map lstOf)[m]? = some L → L.len ≤ 1000000 := fun m L hm => by
  rw [List.getElem?_map] at hm
  obtain ⟨x, hx, rfl⟩ := Option.map_eq_some_iff.1 hm
  obtain ⟨n, ys, ho, hn⟩ := h.own m x hx
  rw [(lst_val ho).2.1]
  exact hn
theorem owned_lb {K : Kind} {w : World} {base q : Nat} {vs : List Value} (h : Owned w base K.E K.sz vs) (hq : LB (vs.map lstOf) q) : base ≤ q := ((kls_of (K := K) h).blk hq).1
def LawPost (w : World) (e : Ending) (w' : World) : Prop := e = .returned (.bool true) ∧ Below w.heap.size w w'
/-- The cells of a bag that is empty. -/
def nil14 : Array Value := #[.slice none 0 0, .slice none 0 0, .slice none 0 0, .slice none 0 0, .slice none 0 0, .slice none 0 0, .slice none 0 0, .slice none 0 0, .slice none 0 0, .slice none 0 0, .slice none 0 0, .slice none 0 0, .slice none 0 0, .slice none 0 0]
theorem nil14_at : ∀ k, k < 14 → nil14[k]? = some (.slice none 0 0) := by
  intro k hk
  rcases (show k = 0 ∨ k = 1 ∨ k = 2 ∨ k = 3 ∨ k = 4 ∨ k = 5 ∨ k = 6 ∨ k = 7 ∨ k = 8 ∨ k = 9 ∨ k = 10 ∨ k = 11 ∨ k = 12 ∨ k = 13 by omega) with rfl | rfl | rfl | rfl | rfl | rfl | rfl | rfl | rfl | rfl | rfl | rfl | rfl | rfl <;> rfl
theorem wideL_front {w : World} {B : Nat} {b : Option Addr} {X : List Acc} (h : LogAt w B b (wideA X)) : LogAt w B b X :=
  ⟨by have := h.small; rw [wideA_len] at this; omega, fun c hc => h.wf c (by unfold wideA; exact List.mem_append_left _ hc), fun i c hc => h.at_ i c (by rw [wideA_lo (List.getElem?_eq_some_iff.1 hc).1]; exact hc)⟩
theorem Owned.mono {w : World} {base b' sz : Nat} {e : TypeId} {vs : List Value} (h : Owned w base e sz vs) (hb : b' ≤ base) : Owned w b' e sz vs := ⟨fun i x hx => by obtain ⟨n, ys, h1, h2⟩ := h.own i x hx; exact ⟨n, ys, own_mono h1 hb, h2⟩, h.apart⟩
theorem Owned.below {w w' : World} {base sz : Nat} {e : TypeId} {vs : List Value} (h : Owned w base e sz vs) (hb : Below w.heap.size w w') : Owned w' base e sz vs := h.same fun q _ _ hB => hb.block q hB.lt
theorem owned_two {w : World} {base mid sz n m : Nat} {e : TypeId} {x y : Value} {xs ys : List Value} (h1 : w.ownsRow base e sz x n xs) (h2 : w.ownsRow base e sz y m ys) (hn : n ≤ 1000000) (hm : m ≤ 1000000) (hx : ∀ q, x.ownBlock = some q → q < mid) (hy : ∀ q, y.ownBlock = some q → mid ≤ q) : Owned w base e sz [x, y] := by
  refine Owned.app (xs := [x]) (ys := [y]) (mid := mid) ⟨fun i z hz => ?_, fun i j a b q ha hb _ _ => ?_⟩ ⟨fun i z hz => ?_, fun i j a b q ha hb _ _ => ?_⟩ (fun z q hz hq => ?_) fun z q hz hq => ?_
  · rcases i with _ | i
    · obtain rfl : x = z := by simpa using hz
      exact ⟨n, xs, h1, hn⟩
    · simp at hz
  · have := (List.getElem?_eq_some_iff.1 ha).1
    have := (List.getElem?_eq_some_iff.1 hb).1
    simp at *
    omega
  · rcases i with _ | i
    · obtain rfl : y = z := by simpa using hz
      exact ⟨m, ys, h2, hm⟩
    · simp at hz
  · have := (List.getElem?_eq_some_iff.1 ha).1
    have := (List.getElem?_eq_some_iff.1 hb).1
    simp at *
    omega
  · obtain rfl : z = x := by simpa using hz
    exact hx q hq
  · obtain rfl : z = y := by simpa using hz
    exact hy q hq
theorem longA_any (b : Option Addr) (cap n : Nat) (w : World) : Calls Tryd.prog 25 #[.slice b n cap] w fun e w' => e = .returned (.bool (decide (2048 < n))) ∧ w' = w := by
  go_enter Tryd.func25, Tryd.ntmps25
  go_wp2_with fail
  refine bodyPost_ret (results_tmp rfl _ _ _) rfl ⟨?_, rfl⟩
  simp [go_sem]
  omega
end Go.Proofs.YtonnlgpjobfnmaaDoor
