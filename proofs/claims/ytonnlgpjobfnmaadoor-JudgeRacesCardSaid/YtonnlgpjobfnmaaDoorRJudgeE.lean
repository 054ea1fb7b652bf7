/- judge.clocks: what holds at the head of its loop. Conditions: a log that may be judged, of 2048 entries at most. -/
import Derived.Test.YtonnlgpjobfnmaaDoorRJudgeD
import Derived.Test.YtonnlgpjobfnmaaDoorRJudgeB
import Derived.Laws.MakeOwn
namespace Go.Proofs.YtonnlgpjobfnmaaDoor
open Go.RowKit
set_option maxRecDepth 100000

theorem zero147 : Tryd.zeroCells147 = Array.replicate 4096 (.int .i64 0) := by kernel_rfl
theorem infoC : (Tryd.prog.info? 109).map (fun i => (i.zero, i.size, i.bytes)) = some (some (.agg (clkL czero).toArray), 64, 512) := by kernel_rfl
def flat (cs : List Clk) : List Value := cs.flatMap clkL
theorem flat_len (cs : List Clk) : (flat cs).length = cs.length * 64 := by
  induction cs with
  | nil => rfl
  | cons c cs ih => simp only [flat, List.flatMap_cons, List.length_append, clkL_len, List.length_cons] at *; omega
theorem flat_snoc (cs : List Clk) (c : Clk) : flat (cs ++ [c]) = flat cs ++ clkL c := by simp [flat]
/-- The threads' clocks as they lie in block T. -/
def ThAt (w : World) (T : Nat) (f : Nat → Clk) : Prop := ∃ cs, Blk w T 147 cs ∧ cs.size = 4096 ∧ ∀ i j, i < 64 → j < 64 → cs[i * 64 + j]? = some (.int .i64 (f i j))
theorem ThAt.kept {w w' : World} {T : Nat} {f : Nat → Clk} {S : Nat → Prop} (h : ThAt w T f) (k : Kept S w w') (hs : ¬ S T) : ThAt w' T f := by
  obtain ⟨cs, h1, h2⟩ := h
  exact ⟨cs, k.blk h1 hs, h2⟩
def updc (f : Nat → Clk) (t : Nat) (c : Clk) : Nat → Clk := fun i => if i = t then c else f i
theorem ThAt.cell {w : World} {T : Nat} {f : Nat → Clk} (h : ThAt w T f) {i j : Nat} (hi : i < 64) (hj : j < 64) : w.cell? ⟨T, i * 64 + j, none⟩ = some (.int .i64 (f i j)) := by
  obtain ⟨cs, h1, _, h2⟩ := h
  rw [h1.cell, h2 i j hi hj]
theorem ThAt.frozen {w : World} {T : Nat} {f : Nat → Clk} (h : ThAt w T f) (o : Nat) : w.frozen? ⟨T, o, none⟩ = false := by
  obtain ⟨cs, h1, _, _⟩ := h
  exact h1.frozen o
theorem ThAt.range {w : World} {T : Nat} {f : Nat → Clk} (h : ThAt w T f) {i : Nat} (hi : i < 64) : w.rangeAt T (i * 64) (clkL (f i)) := clkL_cells fun _ hj => h.cell hi hj
theorem ThAt.lt {w : World} {T : Nat} {f : Nat → Clk} (h : ThAt w T f) : T < w.heap.size := by
  obtain ⟨cs, h1, _, _⟩ := h
  exact h1.lt
theorem ThAt.congr {w : World} {T : Nat} {f g : Nat → Clk} (h : ThAt w T f) (e : ∀ i j, i < 64 → j < 64 → f i j = g i j) : ThAt w T g := by
  obtain ⟨cs, h1, h2, h3⟩ := h
  exact ⟨cs, h1, h2, fun i j hi hj => by rw [h3 i j hi hj, e i j hi hj]⟩
theorem ThAt.set {w : World} {T : Nat} {f : Nat → Clk} (h : ThAt w T f) {i j : Nat} (hi : i < 64) (hj : j < 64) (x : Int) : ThAt (w.setCell ⟨T, i * 64 + j, none⟩ (.int .i64 x)) T (updc f i (fun k => if k = j then x else f i k)) := by
  obtain ⟨cs, h1, h2, h3⟩ := h
  refine ⟨_, h1.set_ _ _, by simpa using h2, fun i' j' hi' hj' => ?_⟩
  unfold updc
  by_cases e : i' = i ∧ j' = j
  · obtain ⟨rfl, rfl⟩ := e
    rw [Array.getElem?_setIfInBounds_self_of_lt (by omega), if_pos rfl, if_pos rfl]
  · rw [Array.getElem?_setIfInBounds_ne (by omega), h3 i' j' hi' hj']
    by_cases e1 : i' = i
    · subst e1
      rw [if_pos rfl, if_neg (by omega)]
    · rw [if_neg e1]
def TakeTh (T i : Nat) (f : Nat → Clk) (d : Clk) (w : World) (e : Ending) (w' : World) : Prop := e = .returned (.tuple #[]) ∧ Kept (· = T) w w' ∧ ThAt w' T (updc f i (cmax (f i) d))
theorem take_th {T : Nat} {f : Nat → Clk} {w : World} (h : ThAt w T f) {i : Nat} (hi : i < 64) (d : Clk) : Calls Tryd.prog 80 #[.pointer (some ⟨T, i * 64, none⟩), .agg (clkL d).toArray] w (TakeTh T i f d w) := by
  obtain ⟨cs, h1, h2, h3⟩ := h
  refine (take_any T (i * 64) _ cs (f i) d w h1 (fun j hj => h3 i j hi hj)).mono ?_
  rintro e w' ⟨rfl, hk, cs', hb, hs, hr, ho⟩
  refine ⟨rfl, hk, cs', hb, hs.trans h2, fun i' j hi' hj => ?_⟩
  unfold updc
  by_cases e : i' = i
  · subst e
    rw [hr j hj, if_pos rfl]
  · rw [ho _ (by omega), h3 i' j hi' hj, if_neg e]
theorem own0_take {s : Cks} {a : Acc} {t : Nat} (ht : a.th = t) (h : a.takes = true) : s.own0 a = cmax (s.th t) (s.cell a.cell) := by unfold Cks.own0; rw [if_pos h, ht, Int.toNat_natCast]
theorem own0_not {s : Cks} {a : Acc} {t : Nat} (ht : a.th = t) (h : a.takes = false) : s.own0 a = s.th t := by unfold Cks.own0; rw [if_neg (by rw [h]; simp), ht, Int.toNat_natCast]
theorem takes_of {a : Acc} {o : Int} (h : a.op = o) : a.takes = (o != 2 && o != 7 && o != 8) := by unfold Acc.takes; rw [h]
theorem gives_of {a : Acc} {o : Int} (h : a.op = o) : a.gives = (o == 2 || o == 4 || o == 5 || (o == 3 && a.ok)) := by unfold Acc.gives; rw [h]
theorem th_own {s : Cks} {a : Acc} {t : Nat} {w : World} {T : Nat} {y : Int} (ht : a.th = t) (ht64 : t < 64) (hy : y = s.own0 a t) (h : ThAt w T (updc s.th t (s.own0 a))) : ThAt (w.setCell ⟨T, t * 64 + t, none⟩ (.int .i64 (y + 1))).drew T (updc s.th t (s.own a)) := by
  have h2 := h.set ht64 ht64 (y + 1)
  refine ThAt.congr (f := _) h2 fun i j _ _ => ?_
  unfold updc Cks.own
  rw [ht, Int.toNat_natCast]
  by_cases e : i = t
  · subst e
    simp only [if_true]
    by_cases e2 : j = i
    · subst e2; rw [if_pos rfl, if_pos rfl, hy]
    · rw [if_neg e2, if_neg e2]
  · rw [if_neg e, if_neg e, if_neg e]
theorem own_kept {w w' : World} {S : Nat → Prop} {base n size : Nat} {e : TypeId} {v : Value} {xs : List Value} (h : w.ownsRow base e size v n xs) (k : Kept S w w') (hs : ∀ g, base ≤ g → ¬ S g) : w'.ownsRow base e size v n xs := by
  refine ⟨h.1, ?_⟩
  rcases h.2 with hn | ⟨g, cap, cur, rfl, hb, hgg, rest⟩
  · exact .inl hn
  · exact .inr ⟨g, cap, cur, rfl, hb, k.blk hgg (hs g hb), rest⟩
/-- A loop's own copy of an entry: block q. -/
def BoxAt (w : World) (q : Nat) (a : Acc) (o : Int) (t : Nat) : Prop := Blk w q 71 #[.int .i64 t, .int .i8 o, .int .i64 a.cell, .int .i64 a.arg, .int .i64 a.new, .int .i64 a.was, .int .i64 a.now, .bool a.ok]
theorem BoxAt.cells {w : World} {q : Nat} {a : Acc} {o : Int} {t : Nat} (h : BoxAt w q a o t) : w.cell? ⟨q, 0, none⟩ = some (.int .i64 t) ∧ w.cell? ⟨q, 1, none⟩ = some (.int .i8 o) ∧ w.cell? ⟨q, 2, none⟩ = some (.int .i64 a.cell) ∧ w.cell? ⟨q, 6, none⟩ = some (.int .i64 a.now) ∧ w.cell? ⟨q, 7, none⟩ = some (.bool a.ok) :=
  ⟨(Blk.cell h 0).trans rfl, (Blk.cell h 1).trans rfl, (Blk.cell h 2).trans rfl, (Blk.cell h 6).trans rfl, (Blk.cell h 7).trans rfl⟩
/-- At the head of clocks' loop: the first k entries are done. -/
structure CkRel (L : List Acc) (w0 w : World) (k : Nat) (v : Value) : Prop where
  le : k ≤ L.length
  low : Below w0.heap.size w0 w
  th : ThAt w w0.heap.size (cksAt (L.take k)).th
  cells : CellsIn w (w0.heap.size + 1) k (cksAt (L.take k)).cell
  own : w.ownsRow (w0.heap.size + 2) 109 64 v k (flat (clocksOf (L.take k)))
  size : w0.heap.size + 2 ≤ w.heap.size
theorem CkRel.start (L : List Acc) {w w' : World} {v : Value} (ho : w'.ownsRow (w.heap.size + 2) 109 64 v 0 []) (hg : ((w.alloc (.cells Tryd.zeroCells147 147)).alloc (.map #[] 0)).grownBy w' none) : CkRel L w w' 0 v := by
  have kg : Kept (fun _ => False) ((w.alloc (.cells Tryd.zeroCells147 147)).alloc (.map #[] 0)) w' := ⟨hg.os, hg.tape, hg.output, hg.size, fun q hq _ => hg.block q hq (by simp)⟩
  have hsz := hg.size
  simp at hsz
  refine ⟨Nat.zero_le _, ((((Below.refl _ _).alloc (Nat.le_refl _) _).alloc (by simp) _).trans (kg.below (by simp; omega) (fun _ h => h.elim))), ?_, ?_, by simpa [clocksOf, cksAll, flat] using ho, by omega⟩
  · refine ⟨Tryd.zeroCells147, kg.blk ((Blk.new _ _ _).alloc _) (fun h => h), by rw [zero147]; simp, fun i j hi hj => ?_⟩
    rw [zero147]
    simp only [List.take_zero, cksAt, List.foldl_nil, cks0, czero]
    rw [Array.getElem?_replicate, if_pos (by omega)]
  · have h := CellsIn.made (w.alloc (.cells Tryd.zeroCells147 147))
    simp only [World.size_alloc] at h
    exact h.kept kg (fun h => h)
theorem clkL_one (c : Clk) : ∀ u ∈ clkL c, u.oneCell' = true := by
  intro u hu
  obtain ⟨j, hj, rfl⟩ := List.mem_map.1 hu
  rfl
/-- What holds behind the append. -/
structure CkApp (L : List Acc) (w0 wr w6 : World) (k : Nat) (a : Acc) (o : Int) (t : Nat) (f : Nat → Clk) (v' : Value) : Prop where
  low : Below w0.heap.size w0 w6
  th : ThAt w6 w0.heap.size f
  box : BoxAt w6 wr.heap.size a o t
  cells : CellsIn w6 (w0.heap.size + 1) k (cksAt (L.take k)).cell
  own : w6.ownsRow (w0.heap.size + 2) 109 64 v' (k + 1) (flat (clocksOf (L.take k)) ++ clkL ((cksAt (L.take k)).own a))
  size : w0.heap.size + 2 ≤ w6.heap.size
theorem ck_app {L : List Acc} {w0 wr w5 w6 : World} {k : Nat} {v v' : Value} {a : Acc} {o : Int} {t : Nat} {f : Nat → Clk} {ob : Obj} (HR : CkRel L w0 wr k v) (K : Kept (· = w0.heap.size) wr w5) (HT : ThAt w5 w0.heap.size f) (HB : BoxAt w5 wr.heap.size a o t)
    (hg : (w5.alloc ob).grownBy w6 v.ownBlock) (ho : w6.ownsRow (w0.heap.size + 2) 109 64 v' (k + 1) (flat (clocksOf (L.take k)) ++ clkL ((cksAt (L.take k)).own a))) : CkApp L w0 wr w6 k a o t f v' := by
  have kg : Kept (fun q => some q = v.ownBlock) w5 w6 := (Kept.of_below ((Below.refl _ _).alloc (Nat.le_refl _) ob)).trans ⟨hg.os, hg.tape, hg.output, hg.size, fun q hq hs => hg.block q hq hs⟩
  have hsz := HR.size
  have hs5 := K.size
  have hs6 := kg.size
  have hob : ∀ q, some q = v.ownBlock → w0.heap.size + 2 ≤ q ∧ q < wr.heap.size := fun q hq => HR.own.lt q hq.symm
  refine ⟨(HR.low.trans (K.below (by omega) (fun q hq => by omega))).trans (kg.below (by omega) (fun q hq => by have := hob q hq; omega)), HT.kept kg (fun hq => by have := hob _ hq; omega), kg.blk HB (fun hq => by have := hob _ hq; omega), ?_, ho, by omega⟩
  exact (HR.cells.kept K (by omega)).kept kg (fun hq => by have := hob _ hq; omega)
/-- The round's end, whatever was done behind the append. -/
theorem ck_end {L : List Acc} {w0 wr w6 w7 : World} {k : Nat} {a : Acc} {o : Int} {t : Nat} {f g : Nat → Clk} {c : Int → Clk} {v' : Value} {S : Nat → Prop} (HA : L[k]? = some a) (HP : CkApp L w0 wr w6 k a o t f v') (K : Kept S w6 w7) (hS : ∀ q, S q → q = w0.heap.size ∨ q = w0.heap.size + 1)
    (HT : ThAt w7 w0.heap.size g) (hg : ∀ i j, i < 64 → j < 64 → g i j = ((cksAt (L.take k)).next a).th i j) (HC : CellsIn w7 (w0.heap.size + 1) (k + 1) c) (hc : c = ((cksAt (L.take k)).next a).cell) : CkRel L w0 w7 (k + 1) v' := by
  have hlt : k < L.length := (List.getElem?_eq_some_iff.1 HA).1
  refine ⟨hlt, HP.low.trans (K.below (by have := HP.size; omega) (fun q hq => by rcases hS q hq with h | h <;> omega)), ?_, ?_, ?_, by have := K.size; have := HP.size; omega⟩
  · rw [cksAt_take HA]; exact HT.congr hg
  · rw [cksAt_take HA, ← hc]; exact HC
  · rw [clocksOf_take HA, flat_snoc]
    exact own_kept HP.own K (fun q hq hs => by rcases hS q hs with h | h <;> omega)
theorem CellsIn.mono {w : World} {M n n' : Nat} {f : Int → Clk} (h : CellsIn w M n f) (hn : n ≤ n') : CellsIn w M n' f := by
  obtain ⟨D, h1, h2, h3⟩ := h
  exact ⟨D, h1.mono hn, h2, h3⟩
theorem next_th {s : Cks} {a : Acc} {t : Nat} (ht : a.th = t) (h : ¬ (a.op = 7 ∧ 0 ≤ a.now)) : (s.next a).th = updc s.th t (s.own a) := by
  funext i
  simp only [Cks.next]
  rw [if_neg (fun hh => h ⟨hh.1, hh.2.1⟩), ht, Int.toNat_natCast]
  rfl
theorem next_cell {s : Cks} {a : Acc} (h : a.gives = false) : (s.next a).cell = s.cell := by
  funext x
  simp only [Cks.next]
  rw [if_neg (by rw [h]; simp)]
theorem next_cell' {s : Cks} {a : Acc} (h : a.gives = true) : (s.next a).cell = fun y => if y = a.cell then s.own a else s.cell y := by
  funext x
  simp only [Cks.next, h, true_and]
theorem next_go {s : Cks} {a : Acc} {t n : Nat} (ht : a.th = t) (hop : a.op = 7) (hn : a.now = n) : (s.next a).th = updc (updc s.th t (s.own a)) n (cmax (updc s.th t (s.own a) n) (s.own a)) := by
  funext i
  simp only [Cks.next]
  rw [hop, hn, ht, Int.toNat_natCast, Int.toNat_natCast]
  unfold updc
  by_cases e : i = n
  · subst e
    rw [if_pos ⟨rfl, by omega, rfl⟩, if_pos rfl]
  · rw [if_neg (fun hh => e hh.2.2), if_neg e]
end Go.Proofs.YtonnlgpjobfnmaaDoor
