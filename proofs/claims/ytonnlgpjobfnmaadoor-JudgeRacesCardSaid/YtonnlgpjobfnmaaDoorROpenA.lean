/- A slice of accesses among the arguments: what it reads as; its rows. No conditions. -/
import Derived.Test.YtonnlgpjobfnmaaDoorRJudgeB
import Derived.Deep.Slices
import Derived.Deep.Fields
import Derived.ChangeSame
import Derived.ChangeArms
namespace Go.Proofs.YtonnlgpjobfnmaaDoor
open Go.ChangeShapes Go.WideShapes Go.Deep Go.RowKit
section
variable {H : Type} {enc : TypeId × Value → H} {P : Program} {w : World} {base : Nat} {spare : Nat → Bool} {held : Bool}
theorem open_slice_fields {t e : TypeId} {fs : Array Field} {fuel : Nat} {cs : List Value} {x : DataW H × List MemPlace} (ht : P.underlying t = some (.slice e)) (he : P.underlying e = some (.struct fs))
    (hone : oneCellFields P fs = true) (hC : P.cellsOf e = fs.size) (h : DataW.trod enc P w base spare held fuel t cs = some x) :
    (cs = [.slice none 0 0] ∧ x = (.nil, [])) ∨
    ∃ (a : Addr) (len cap m : Nat) (D : Nat → DataW H) (Pl : Nat → List MemPlace), cs = [.slice (some a) len cap] ∧ base ≤ a.block ∧ len ≤ cap ∧ cap ≤ maxLen ∧ m = (if spare a.block then cap else len) ∧
      x = (.slice ((List.range len).map D) ((List.range (m - len)).map fun j => D (len + j)), MemPlace.row a (m * fs.size) ++ (List.range m).flatMap Pl) ∧
      ∀ i, i < m → ∃ (ys : List (DataW H × List MemPlace)) (n : Nat), D i = .agg (ys.map (·.1)) ∧ Pl i = ys.flatMap (·.2) ∧ ys.length = fs.size ∧
        ∀ (j : Nat) (f : Field), fs[j]? = some f → ∃ (v : Value) (y : DataW H × List MemPlace), w.cell? (a.add (i * fs.size + j)) = some v ∧ ys[j]? = some y ∧ DataW.trod enc P w base spare held n f.type [v] = some y := by
  rcases open_slice ht h with h0 | ⟨a, len, cap, m, n, D, Pl, hcs, hb, hl, hm, hmm, hx, hi⟩
  · exact .inl h0
  · refine .inr ⟨a, len, cap, m, D, Pl, hcs, hb, hl, hm, hmm, by rw [hC] at hx; exact hx, fun i him => ?_⟩
    obtain ⟨cs', hc, ht'⟩ := hi i him
    rw [hC] at hc
    obtain ⟨ys, n', hn', hy, hlen, hyl, hf⟩ := DataW.trod_struct he ht'
    obtain ⟨_, hcl, hat⟩ := World.cells?_some hc
    simp only [Prod.mk.injEq] at hy
    refine ⟨ys, n', hy.1, hy.2, hyl, fun j f hj => ?_⟩
    obtain ⟨ho, hk⟩ := hone_of hone j f hj
    have hjl : j < fs.size := (Array.getElem?_eq_some_iff.1 hj).1
    have hcell := hat j hjl
    have hv : cs'[j]? = some (cs'[j]'(by omega)) := List.getElem?_eq_getElem (by omega)
    have h1 := hf j f hj
    rw [ho, hk] at h1
    have hone' : (cs'.drop j).take 1 = [cs'[j]'(by omega)] := by
      rw [List.drop_eq_getElem_cons (by omega)]
      rfl
    rw [hone'] at h1
    have hys : ys[j]? = some (ys[j]'(by omega)) := List.getElem?_eq_getElem (by omega)
    refine ⟨_, _, ?_, hys, h1.trans hys⟩
    rw [← Go.Deep.add_add, hcell, hv]
end
theorem list_of {α : Type} {Q : Nat → α → Prop} : ∀ (n : Nat), (∀ i, i < n → ∃ a, Q i a) → ∃ L : List α, L.length = n ∧ ∀ i a, L[i]? = some a → Q i a
  | 0, _ => ⟨[], rfl, fun i a h => by simp at h⟩
  | n + 1, h => by
    obtain ⟨L, hl, hL⟩ := list_of n fun i hi => h i (by omega)
    obtain ⟨x, hx⟩ := h n (by omega)
    refine ⟨L ++ [x], by simp [hl], fun i a ha => ?_⟩
    rcases Nat.lt_or_ge i n with hi | hi
    · rw [List.getElem?_append_left (by omega)] at ha
      exact hL i a ha
    · rw [List.getElem?_append_right (by omega)] at ha
      have e : i = n := by
        have := (List.getElem?_eq_some_iff.1 ha).1
        simp at this
        omega
      subst e
      rw [hl, Nat.sub_self] at ha
      simp only [List.getElem?_cons_zero, Option.some.injEq] at ha
      subst ha
      exact hx
theorem i64in_wf {x : Int} (h : (Lit.int .i64 x).wf = true) : i64in x := by simpa [Lit.wf, IntKind.min, IntKind.max, IntKind.signed, IntKind.bits, i64in] using h
theorem i8in_wf {x : Int} (h : (Lit.int .i8 x).wf = true) : -128 ≤ x ∧ x ≤ 127 := by simpa [Lit.wf, IntKind.min, IntKind.max, IntKind.signed, IntKind.bits] using h
theorem cells71 : Tryd.prog.cellsOf 71 = 8 := by kernel_rfl
/-- A slice of accesses that came in reads as a log. -/
theorem open_accs {H : Type} {enc : TypeId × Value → H} {w : World} {a0 : Option Addr} {len cap fuel : Nat} {x : DataW H × List MemPlace}
    (h : DataW.trod enc Tryd.prog w 0 (fun _ => true) true fuel 64 [.slice a0 len cap] = some x) : ∃ L : List Acc, L.length = len ∧ len ≤ cap ∧ cap ≤ maxLen ∧ LogAt w w.heap.size a0 L ∧ (∀ g off, a0 = some ⟨g, off, none⟩ → 0 < len → g < w.heap.size) := by
  rcases open_slice_fields Tryd.underlying64 Tryd.underlying71 (by kernel_rfl) cells71 h with ⟨hcs, _⟩ | ⟨a, len', cap', m, D, Pl, hcs, _, hl, hm, hmm, _, hi⟩
  · injection hcs with hcs
    injection hcs with h1 h2 h3
    subst h1 h2 h3
    exact ⟨[], rfl, Nat.le_refl _, by unfold maxLen; omega, ⟨by simp, (fun a ha => by cases ha), (fun i a ha => by simp at ha)⟩, fun g off e => by cases e⟩
  · injection hcs with hcs
    injection hcs with h1 h2 h3
    subst h1 h2 h3
    simp only [if_true] at hmm
    subst hmm
    have hacc : ∀ i, i < len → ∃ c : Acc, c.wf ∧ ∃ g off, some a = some ⟨g, off, none⟩ ∧ g < w.heap.size ∧ AccAt w g (off + i * 8) c := fun i him => by
      obtain ⟨ys, n, _, _, _, hf⟩ := hi i (by omega)
      obtain ⟨v0, y0, c0, _, t0⟩ := hf 0 _ rfl
      obtain ⟨v1, y1, c1, _, t1⟩ := hf 1 _ rfl
      obtain ⟨v2, y2, c2, _, t2⟩ := hf 2 _ rfl
      obtain ⟨v3, y3, c3, _, t3⟩ := hf 3 _ rfl
      obtain ⟨v4, y4, c4, _, t4⟩ := hf 4 _ rfl
      obtain ⟨v5, y5, c5, _, t5⟩ := hf 5 _ rfl
      obtain ⟨v6, y6, c6, _, t6⟩ := hf 6 _ rfl
      obtain ⟨v7, y7, c7, _, t7⟩ := hf 7 _ rfl
      obtain ⟨n0, e0, _, w0⟩ := DataW.trod_int Tryd.underlying3 t0
      obtain ⟨n1, e1, _, w1⟩ := DataW.trod_int Tryd.underlying56 t1
      obtain ⟨n2, e2, _, w2⟩ := DataW.trod_int Tryd.underlying3 t2
      obtain ⟨n3, e3, _, w3⟩ := DataW.trod_int Tryd.underlying2 t3
      obtain ⟨n4, e4, _, w4⟩ := DataW.trod_int Tryd.underlying2 t4
      obtain ⟨n5, e5, _, w5⟩ := DataW.trod_int Tryd.underlying2 t5
      obtain ⟨n6, e6, _, w6⟩ := DataW.trod_int Tryd.underlying2 t6
      obtain ⟨b7, e7, _⟩ := DataW.trod_bool Tryd.underlying4 t7
      injection e0 with e0
      injection e1 with e1
      injection e2 with e2
      injection e3 with e3
      injection e4 with e4
      injection e5 with e5
      injection e6 with e6
      injection e7 with e7
      subst e0 e1 e2 e3 e4 e5 e6 e7
      obtain ⟨g, off, spot⟩ := a
      have hs : spot = none := by
        by_cases h0 : i * 8 + 0 = 0
        · have h1 := World.cell?_spot c0
          have h0' : i * 8 = 0 := by omega
          simpa [Addr.add, h0'] using h1
        · obtain ⟨ys', n', _, _, _, hf'⟩ := hi 0 (by omega)
          obtain ⟨v0', y0', c0', _, _⟩ := hf' 0 _ rfl
          have h1 := World.cell?_spot c0'
          simpa [Addr.add] using h1
      subst hs
      have hadd : ∀ k, (⟨g, off, none⟩ : Addr).add (i * 8 + k) = ⟨g, off + i * 8 + k, none⟩ := fun k => by simp [Addr.add, Nat.add_assoc]
      have hlt : g < w.heap.size := by have := World.block_lt_of_cell? w _ c0; rwa [show (#[_, _, _, _, _, _, _, _] : Array Field).size = 8 from rfl, hadd 0] at this
      refine ⟨⟨n0, n1, n2, n3, n4, n5, n6, b7⟩, ⟨i64in_wf w0, i8in_wf w1, i64in_wf w2, i64in_wf w3, i64in_wf w4, i64in_wf w5, i64in_wf w6⟩, g, off, rfl, hlt, ?_⟩
      exact ⟨(hadd 0) ▸ c0, (hadd 1) ▸ c1, (hadd 2) ▸ c2, (hadd 3) ▸ c3, (hadd 4) ▸ c4, (hadd 5) ▸ c5, (hadd 6) ▸ c6, (hadd 7) ▸ c7⟩
    obtain ⟨L, hL, hQ⟩ := list_of len hacc
    refine ⟨L, hL, hl, hm, ⟨by unfold maxLen at hm; omega, fun c hc => ?_, fun i c hc => (hQ i c hc).2⟩, fun g off e h0 => ?_⟩
    · obtain ⟨i, hi'⟩ := List.getElem?_of_mem hc
      exact (hQ i c hi').1
    · obtain ⟨c, _, g', off', e', hg, _⟩ := hacc 0 h0
      rw [e] at e'
      injection e' with e'
      injection e' with e1
      omega
end Go.Proofs.YtonnlgpjobfnmaaDoor
