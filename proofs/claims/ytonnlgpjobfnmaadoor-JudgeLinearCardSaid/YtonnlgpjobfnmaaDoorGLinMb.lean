/- Joined of the texts LinMa, LinMb; what each proves, and its conditions, stand ahead of it. -/
import Derived.Test.YtonnlgpjobfnmaaDoorGLinL
import Derived.Laws.OwnMore
/- One number and a list of one's own behind it. No conditions. -/
namespace Go.Proofs.YtonnlgpjobfnmaaDoor
open Go.RowKit
set_option maxRecDepth 100000
theorem wpList_onto {w : World} {ops : Array Oper} {rest : List Oper} {o : Oper} {act : Act} {Q : Exit → Act → World → Prop} (hgd : o.guard = none) (s x : Operand)
    (ho : o.op = .call { callee := .builtin .append, args := #[s, x], argTypes := #[27, 27] }) (base j : Nat) (l : List Nat) (w0 : World) (hw : w = w0.alloc (.cells #[.int .i64 (j : Nat)] 3)) (hb : base ≤ w0.heap.size) (v : Value) (hl : l.length ≤ 1000000)
    (h : w0.ownsRow base 3 1 v l.length (l.map fun i => Value.int .i64 (i : Nat)))
    (e1 : act.eval s = .slice (some ⟨w0.heap.size, 0, none⟩) 1 1) (e2 : act.eval x = v)
    (hK : ∀ v' w', w'.ownsRow base 3 1 v' (j :: l).length ((j :: l).map fun i => Value.int .i64 (i : Nat)) → Below w0.heap.size w0 w' → wpList Tryd.prog ops Q rest (act.put o.dst v') w') : wpList Tryd.prog ops Q (o :: rest) act w := by
  obtain ⟨i0, hi0, hiz, his, hib⟩ := info_parts infoInt
  have hB : Below w0.heap.size w0 w := by rw [hw]; exact (Below.refl _ w0).alloc (Nat.le_refl _) _
  have hnew : w.heap[w0.heap.size]? = some (.cells #[.int .i64 (j : Nat)] 3 (0, 0)) := by rw [hw]; exact heap_alloc_new _ _
  have hone : w.ownsRow w0.heap.size 3 1 (.slice (some ⟨w0.heap.size, 0, none⟩) 1 1) 1 [.int .i64 (j : Nat)] := ⟨rfl, .inr ⟨w0.heap.size, 1, _, rfl, Nat.le_refl _, hnew, Nat.le_refl _, by unfold maxLen; omega, rfl, rfl⟩⟩
  have hown := h
  rcases h.2 with ⟨rfl, hn⟩ | ⟨g, cap, cur, rfl, hbg, hg, hnc, hcm, hcs, htake⟩
  · obtain rfl : l = [] := List.eq_nil_of_length_eq_zero hn
    refine wpList_plain hgd fun K hK' => ?_
    have hcell : w.cell? ⟨w0.heap.size, 0, none⟩ = some (.int .i64 (j : Nat)) := by simp [World.cell?, hnew]
    unfold Oper.wp
    simp [execOp, ho, resolve, invoke, builtin, e1, e2, Builtin.append_, run_underlying Tryd.underlying27, sizeOf, typeInfo, hi0, Builtin.lenOf, Builtin.firstCells, loadCells]
    exact hK' _ _ (hK _ _ (own_mono hone hb) hB)
  · have hwl : ∀ a : Nat, (l.map fun i => Value.int .i64 (i : Nat))[a]? = none ∨ True := fun _ => .inr trivial
    have hcells : ∀ a u, (l.map fun i => Value.int .i64 (i : Nat))[a]? = some u → w.cell? ((⟨g, 0, none⟩ : Addr).add a) = some u := (by rw [hw]; exact (hown.alloc (.cells #[.int .i64 (j : Nat)] 3)).cells (g := g) rfl)
    refine wpList_append_own _ hgd s x 27 ho w0.heap.size 3 i0 _ 1 8 Tryd.underlying27 hi0 hiz his hib rfl (by decide) (.slice (some ⟨w0.heap.size, 0, none⟩) 1 1) 1 [.int .i64 (j : Nat)] e1 hone ⟨g, 0, none⟩ l.length cap (l.map fun i => Value.int .i64 (i : Nat)) e2 (by simp) hcells (by simp [Value.oneCell']) (by unfold maxLen; omega) (by omega) hB.size ?_
    intro v1 w1 h1 h2 _
    refine hK v1 w1 ?_ ?_
    · have h3 := own_mono h1 hb
      simpa [Nat.add_comm] using h3
    · refine hB.trans ?_
      exact ⟨h2.os, h2.tape, h2.output, h2.size, fun q hq => h2.block q (Nat.lt_of_lt_of_le hq hB.size) (by simp [Value.ownBlock]; omega)⟩
end Go.Proofs.YtonnlgpjobfnmaaDoor
/- The reference's search: a pair is laid aside. Conditions: what the search's cells hold. -/
namespace Go.Proofs.YtonnlgpjobfnmaaDoor
open Go.RowKit
set_option maxRecDepth 100000
theorem frs_grow {base bs n : Nat} {e : TypeId} {w w1 : World} {v : Value} {xs : List Value} {o : Obj} (hown : w.ownsRow base e 1 v n xs) (he : e = 3 ∨ e = 54) (g : (w.alloc o).grownBy w1 v.ownBlock) : FrS base bs w w1 := by
  have hz : (w.alloc o).heap.size = w.heap.size + 1 := by simp
  have hz2 := g.size
  refine ⟨g.os, g.tape, g.output, by omega, fun q hq hS => (g.block q (by omega) fun e1 => hS ?_).trans (Below.heap_alloc w o q hq)⟩
  obtain ⟨hb, cs, hB⟩ := row_ty hown q e1.symm
  rcases he with rfl | rfl
  · exact .inr (.inl ⟨hb, cs, _, hB⟩)
  · exact .inr (.inr ⟨hb, cs, _, hB⟩)
theorem grow_blk {base bs n : Nat} {e t : TypeId} {w w1 : World} {v : Value} {xs : List Value} {o : Obj} {cs : Array Value} (hown : w.ownsRow base e 1 v n xs) (hbs : bs < base) (g : (w.alloc o).grownBy w1 v.ownBlock) (hB : Blk w bs t cs) : Blk w1 bs t cs := by
  have hz : (w.alloc o).heap.size = w.heap.size + 1 := by simp
  have hl := hB.lt
  refine ((g.block bs (by omega) fun e1 => ?_).trans (Below.heap_alloc w o bs hl)).trans hB
  have := (row_ty hown bs e1.symm).1
  omega
theorem frs_set {base bs i : Nat} {w w1 : World} (f : FrS base bs w w1) (v : Value) : FrS base bs w (w1.setCell ⟨bs, i, none⟩ v) := f.set (p := ⟨bs, i, none⟩) (.inl rfl) v
theorem frs_calls {w w' : World} {base bs : Nat} {hb : Option Addr} {H : List Cal} (h : CallsAt w base hb H) (hlow : base ≤ w.heap.size) (far : ∀ g off, hb = some ⟨g, off, none⟩ → g ≠ bs) (f : FrS base bs w w') : CallsAt w' base hb H :=
  callsAt_keep h fun g off e hg => f.block g (by omega) fun hh => by
    rcases hh with hh | ⟨h1, _⟩ | ⟨h1, _⟩
    · exact far g off e hh
    · omega
    · omega
/-- A row of another type of cells stands, where a row has grown and the search's block is written. -/
theorem row_grow {base bs i n m : Nat} {e e' : TypeId} {w w1 : World} {v v' u : Value} {xs ys : List Value} {o : Obj} (hown : w.ownsRow base e 1 v n xs) (hr : w.ownsRow base e' 1 v' m ys) (hne : e' ≠ e) (hbs : bs < base) (g : (w.alloc o).grownBy w1 v.ownBlock) : (w1.setCell ⟨bs, i, none⟩ u).ownsRow base e' 1 v' m ys := by
  have hz : (w.alloc o).heap.size = w.heap.size + 1 := by simp
  refine row_same hr fun q cs hq hB => ?_
  have h1 := (row_ty hr q hq).1
  have hl := hB.lt
  refine (Below.heap_setCell _ _ _ q fun e1 => ?_).trans ((g.block q (by omega) fun e1 => ?_).trans (Below.heap_alloc w o q hl))
  · have e1 : q = bs := e1
    omega
  · obtain ⟨_, cs2, hB2⟩ := row_ty hown q e1.symm
    exact Blk.ne_ hB hB2 hne rfl
theorem row_set {base bs i n : Nat} {e : TypeId} {w : World} {v u : Value} {xs : List Value} (hown : w.ownsRow base e 1 v n xs) (hbs : bs < base) : (w.setCell ⟨bs, i, none⟩ u).ownsRow base e 1 v n xs :=
  row_same hown fun q cs hq hB => Below.heap_setCell _ _ _ q fun e1 => by
    have e1 : q = bs := e1
    have := (row_ty hown q hq).1
    omega
/-- Between the two stores. -/
structure HalfAt (w : World) (base bs : Nat) (k : Int) (hb : Option Addr) (n0 hcap : Nat) (H : List Cal) (mem : List (Nat × List Int)) (d : Nat) (v1 vh : Value) (ys : List Value) : Prop where
  s : Blk w bs 100 #[.int .i64 k, .slice hb n0 hcap, v1, vh]
  calls : CallsAt w base hb H
  far : ∀ g off, hb = some ⟨g, off, none⟩ → g ≠ bs
  been : w.ownsRow base 3 1 v1 (mem.length + 1) (mem.map (fun e => Value.int .i64 (e.1 : Nat)) ++ [.int .i64 (d : Nat)])
  row : w.ownsRow base 54 1 vh mem.length ys
  things : ∀ (i : Nat) (e : Nat × List Int) (y : Value), mem[i]? = some e → ys[i]? = some y → ThingAt w y e.2
  low : bs < base ∧ base ≤ w.heap.size
theorem half_put {w w1 : World} {base bs : Nat} {k : Int} {hb : Option Addr} {n0 hcap : Nat} {H : List Cal} {mem : List (Nat × List Int)} {d : Nat} {vb vh v1 : Value} {o : Obj} (h : SrchAt w base bs k hb n0 hcap H mem vb vh)
    (r : w1.ownsRow base 3 1 v1 (mem.length + 1) (mem.map (fun e => Value.int .i64 (e.1 : Nat)) ++ [.int .i64 (d : Nat)])) (g : (w.alloc o).grownBy w1 vb.ownBlock) :
    ∃ ys, HalfAt (w1.setCell ⟨bs, 2, none⟩ v1) base bs k hb n0 hcap H mem d v1 vh ys ∧ FrS base bs w (w1.setCell ⟨bs, 2, none⟩ v1) := by
  obtain ⟨ys, h1, h2⟩ := h.holds
  have f : FrS base bs w (w1.setCell ⟨bs, 2, none⟩ v1) := frs_set (frs_grow h.been (.inl rfl) g) v1
  exact ⟨ys, ⟨(grow_blk h.been h.low.1 g h.s).set_ 2 v1, frs_calls h.calls h.low.2 h.far f, h.far, row_set r h.low.1, row_grow h.been h1 (by decide) h.low.1 g, fun i e y hi hy => FrS.thing (h2 i e y hi hy) ⟨_, h.s⟩ f, h.low.1, Nat.le_trans h.low.2 f.size⟩, f⟩
theorem whole_put {w w1 : World} {base bs : Nat} {k : Int} {hb : Option Addr} {n0 hcap : Nat} {H : List Cal} {mem : List (Nat × List Int)} {d : Nat} {hs : List Int} {v1 vh v2 v : Value} {ys : List Value} {o : Obj} (h : HalfAt w base bs k hb n0 hcap H mem d v1 vh ys) (ht : ThingAt w v hs)
    (r : w1.ownsRow base 54 1 v2 (mem.length + 1) (ys ++ [v])) (g : (w.alloc o).grownBy w1 vh.ownBlock) :
    SrchAt (w1.setCell ⟨bs, 3, none⟩ v2) base bs k hb n0 hcap H (mem ++ [(d, hs)]) v1 v2 ∧ FrS base bs w (w1.setCell ⟨bs, 3, none⟩ v2) := by
  have f : FrS base bs w (w1.setCell ⟨bs, 3, none⟩ v2) := frs_set (frs_grow h.row (.inr rfl) g) v2
  have hyl : ys.length = mem.length := by have := h.row.1; omega
  refine ⟨⟨(grow_blk h.row h.low.1 g h.s).set_ 3 v2, frs_calls h.calls h.low.2 h.far f, h.far, ?_, ⟨ys ++ [v], ?_, fun i e y hi hy => ?_⟩, h.low.1, Nat.le_trans h.low.2 f.size⟩, f⟩
  · have h1 := row_grow (i := 3) (u := v2) h.row h.been (by decide) h.low.1 g
    simpa using h1
  · have h1 := row_set (i := 3) (u := v2) r h.low.1
    simpa using h1
  · refine FrS.thing ?_ ⟨_, h.s⟩ f
    by_cases hl : i < mem.length
    · rw [List.getElem?_append_left hl] at hi
      rw [List.getElem?_append_left (by omega)] at hy
      exact h.things i e y hi hy
    · rw [List.getElem?_append_right (by omega)] at hi
      rw [List.getElem?_append_right (by omega), hyl] at hy
      have h0 : i - mem.length = 0 := by
        have := (List.getElem?_eq_some_iff.1 hi).1
        simp at this
        omega
      rw [h0] at hi hy
      simp at hi hy
      subst hi hy
      exact ht
end Go.Proofs.YtonnlgpjobfnmaaDoor
