/- A slice of one struct or array, written out: what buildSlice makes. No conditions. -/
import Derived.WalkKit
namespace Go.Proofs.YtonnlgpjobfnmaaDoor
open Go.RowKit

theorem foldl_set (l : List Value) : ∀ (k : Nat) (base : Array Value), ((l.zipIdx k).foldl (fun cs x => cs.setIfInBounds (0 + x.2) x.1) base).size = base.size ∧
    ∀ i, i < base.size → ((l.zipIdx k).foldl (fun cs x => cs.setIfInBounds (0 + x.2) x.1) base)[i]? = if k ≤ i ∧ i < k + l.length then l[i - k]? else base[i]? := by
  induction l with
  | nil => intro k base; exact ⟨rfl, fun i hi => by rw [if_neg (by simp)]; rfl⟩
  | cons c l ih =>
    intro k base
    have h := ih (k + 1) (base.setIfInBounds (0 + k) c)
    simp only [List.zipIdx_cons, List.foldl_cons]
    refine ⟨by rw [h.1]; simp, fun i hi => ?_⟩
    rw [h.2 i (by simpa using hi)]
    by_cases e : i = k
    · subst e
      rw [if_neg (by omega), if_pos (by simp), Nat.sub_self, Nat.zero_add, Array.getElem?_setIfInBounds_self_of_lt hi]
      rfl
    · rw [Array.getElem?_setIfInBounds_ne (by omega)]
      by_cases e2 : k + 1 ≤ i ∧ i < k + 1 + l.length
      · rw [if_pos e2, if_pos (by simp; omega), show i - k = (i - (k + 1)) + 1 by omega, List.getElem?_cons_succ]
      · rw [if_neg e2, if_neg (by simp; omega)]
theorem fill_one {c base : Array Value} (h : base.size = c.size) : Instr.fill (fun i => some (i * c.size, c.size)) base [(0, .agg c)] = some c := by
  have hf := foldl_set c.toList 0 base
  have e : (c.zipIdx.foldl (fun cs x => cs.setIfInBounds (0 + x.2) x.1) base) = c := by
    rw [← Array.foldl_toList, Array.toList_zipIdx]
    apply Array.ext_getElem?
    intro i
    by_cases hi : i < base.size
    · rw [hf.2 i hi, if_pos ⟨Nat.zero_le _, by simp; omega⟩, Nat.sub_zero, Array.getElem?_toList]
    · rw [Array.getElem?_eq_none (by rw [hf.1]; omega), Array.getElem?_eq_none (by omega)]
  simp only [Instr.fill, Value.cells, Nat.zero_mul, ne_eq, not_true_eq_false, decide_false, Bool.false_or, gt_iff_lt, decide_eq_true_eq]
  rw [if_neg (by omega)]
  exact congrArg some e
theorem run_buildSlice_one {P : Program} (t e : TypeId) (i : TypeInfo) (z c : Array Value) (ht : P.underlying t = some (.slice e)) (hi : P.info? e = some i) (hz : i.zero = some (.agg z)) (hs : i.size = c.size) (h0 : 0 < c.size) (hb : c.size ≤ 16777216) (w : World) :
    (Instr.buildSlice t 1 #[(0, .agg c)]).run P w = .ok (.slice (some ⟨w.heap.size, 0, none⟩) 1 1) (w.alloc (.cells c e)) := by
  have hzr : (zeroValue e).run P w = .ok (.agg z) w := by simp [zeroValue, typeInfo, hi, hz]
  have hsz : (sizeOf e).run P w = .ok c.size w := by simp [sizeOf, typeInfo, hi, hs]
  have hf := fill_one (c := c) (base := (Array.range (1 * c.size)).map (fun j => z[j % z.size]!)) (by simp)
  simp only [Instr.buildSlice, Sem.run_bind, run_underlying ht, Result.andThen_ok, hsz, Nat.one_mul] at hf ⊢
  rw [if_neg (by omega)]
  rw [if_neg (by omega)]
  simp only [Sem.run_bind, hzr, Result.andThen_ok, Sem.run_pure, Value.cells]
  rw [hf]
  rfl
theorem wpList_buildSlice_one {P : Program} {ops : Array Oper} {rest : List Oper} {op : Oper} {a : Act} {w : World} {Q : Exit → Act → World → Prop} (hgd : op.guard = none) (t e : TypeId) (x : Operand) (ho : op.op = .buildSlice t 1 #[(0, x)]) (c : Array Value) (hx : a.eval x = .agg c)
    (i : TypeInfo) (z : Array Value) (ht : P.underlying t = some (.slice e)) (hi : P.info? e = some i) (hz : i.zero = some (.agg z)) (hs : i.size = c.size) (h0 : 0 < c.size) (hb : c.size ≤ 16777216)
    (h : wpList P ops Q rest (a.put op.dst (.slice (some ⟨w.heap.size, 0, none⟩) 1 1)) (w.alloc (.cells c e))) : wpList P ops Q (op :: rest) a w := by
  refine wpList_plain hgd fun _ hK => ?_
  unfold Oper.wp execOp
  simp only [ho, List.map_toArray, List.map_cons, List.map_nil, hx, Sem.run_bind, run_buildSlice_one t e i z c ht hi hz hs h0 hb w, Result.andThen_ok, Sem.run_pure, Oper.upon_value]
  exact hK _ _ h
end Go.Proofs.YtonnlgpjobfnmaaDoor
