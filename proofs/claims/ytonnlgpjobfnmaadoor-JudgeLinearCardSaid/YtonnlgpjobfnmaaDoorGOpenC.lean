/- A slice of calls, a slice of bytes among the arguments: what they read as. No conditions. -/
import Derived.Test.YtonnlgpjobfnmaaDoorGOpenA
import Derived.Test.YtonnlgpjobfnmaaDoorGFindJ
namespace Go.Proofs.YtonnlgpjobfnmaaDoor
open Go.ChangeShapes Go.WideShapes Go.Deep Go.RowKit
theorem cells58 : Tryd.prog.cellsOf 58 = 7 := by kernel_rfl
theorem cellsU8 : Tryd.prog.cellsOf 5 = 1 := by kernel_rfl
/-- A slice of calls that came in reads as a list of calls. -/
theorem open_cals {H : Type} {enc : TypeId × Value → H} {w : World} {a0 : Option Addr} {len cap fuel : Nat} {x : DataW H × List MemPlace}
    (h : DataW.trod enc Tryd.prog w 0 (fun _ => true) true fuel 22 [.slice a0 len cap] = some x) : ∃ L : List Cal, L.length = len ∧ len ≤ cap ∧ cap ≤ maxLen ∧ CallsAt w w.heap.size a0 L := by
  rcases open_slice_fields Tryd.underlying22 Tryd.underlying58 (by kernel_rfl) cells58 h with ⟨hcs, _⟩ | ⟨a, len', cap', m, D, Pl, hcs, _, hl, hm, hmm, _, hi⟩
  · injection hcs with hcs
    injection hcs with h1 h2 h3
    subst h1 h2 h3
    exact ⟨[], rfl, Nat.le_refl _, by unfold maxLen; omega, ⟨(fun a ha => by cases ha), (fun i a ha => by simp at ha)⟩⟩
  · injection hcs with hcs
    injection hcs with h1 h2 h3
    subst h1 h2 h3
    simp only [if_true] at hmm
    subst hmm
    have hacc : ∀ i, i < len → ∃ c : Cal, c.wf ∧ ∃ g off, some a = some ⟨g, off, none⟩ ∧ g < w.heap.size ∧ CalAt w g (off + i * 7) c := fun i him => by
      obtain ⟨ys, n, _, _, _, hf⟩ := hi i (by omega)
      obtain ⟨v0, y0, c0, _, t0⟩ := hf 0 _ rfl
      obtain ⟨v1, y1, c1, _, t1⟩ := hf 1 _ rfl
      obtain ⟨v2, y2, c2, _, t2⟩ := hf 2 _ rfl
      obtain ⟨v3, y3, c3, _, t3⟩ := hf 3 _ rfl
      obtain ⟨v4, y4, c4, _, t4⟩ := hf 4 _ rfl
      obtain ⟨v5, y5, c5, _, t5⟩ := hf 5 _ rfl
      obtain ⟨v6, y6, c6, _, t6⟩ := hf 6 _ rfl
      obtain ⟨n0, e0, _, w0⟩ := DataW.trod_int Tryd.underlying56 t0
      obtain ⟨n1, e1, _, w1⟩ := DataW.trod_int Tryd.underlying2 t1
      obtain ⟨n2, e2, _, w2⟩ := DataW.trod_int Tryd.underlying2 t2
      obtain ⟨n3, e3, _, w3⟩ := DataW.trod_int Tryd.underlying2 t3
      obtain ⟨b4, e4, _⟩ := DataW.trod_bool Tryd.underlying4 t4
      obtain ⟨n5, e5, _, w5⟩ := DataW.trod_int Tryd.underlying3 t5
      obtain ⟨n6, e6, _, w6⟩ := DataW.trod_int Tryd.underlying3 t6
      injection e0 with e0
      injection e1 with e1
      injection e2 with e2
      injection e3 with e3
      injection e4 with e4
      injection e5 with e5
      injection e6 with e6
      subst e0 e1 e2 e3 e4 e5 e6
      obtain ⟨g, off, spot⟩ := a
      have hs : spot = none := by
        by_cases h0 : i * 7 + 0 = 0
        · have h1 := World.cell?_spot c0
          have h0' : i * 7 = 0 := by omega
          simpa [Addr.add, h0'] using h1
        · obtain ⟨ys', n', _, _, _, hf'⟩ := hi 0 (by omega)
          obtain ⟨v0', y0', c0', _, _⟩ := hf' 0 _ rfl
          have h1 := World.cell?_spot c0'
          simpa [Addr.add] using h1
      subst hs
      have hadd : ∀ k, (⟨g, off, none⟩ : Addr).add (i * 7 + k) = ⟨g, off + i * 7 + k, none⟩ := fun k => by simp [Addr.add, Nat.add_assoc]
      have hlt : g < w.heap.size := by have := World.block_lt_of_cell? w _ c0; rwa [show (#[_, _, _, _, _, _, _] : Array Field).size = 7 from rfl, hadd 0] at this
      refine ⟨⟨n0, n1, n2, n3, b4, n5, n6⟩, ⟨i8in_wf w0, i64in_wf w1, i64in_wf w2, i64in_wf w3, i64in_wf w5, i64in_wf w6⟩, g, off, rfl, hlt, ?_⟩
      exact ⟨(hadd 0) ▸ c0, (hadd 1) ▸ c1, (hadd 2) ▸ c2, (hadd 3) ▸ c3, (hadd 4) ▸ c4, (hadd 5) ▸ c5, (hadd 6) ▸ c6⟩
    obtain ⟨L, hL, hQ⟩ := list_of len hacc
    refine ⟨L, hL, hl, hm, ⟨fun c hc => ?_, fun i c hc => (hQ i c hc).2⟩⟩
    obtain ⟨i, hi'⟩ := List.getElem?_of_mem hc
    exact (hQ i c hi').1
theorem u8in_wf {x : Int} (h : (Lit.int .u8 x).wf = true) : 0 ≤ x ∧ x ≤ 255 := by simpa [Lit.wf, IntKind.min, IntKind.max, IntKind.signed, IntKind.bits] using h
/-- A slice of bytes that came in. -/
theorem open_u8s {H : Type} {enc : TypeId × Value → H} {w : World} {a0 : Option Addr} {len cap fuel : Nat} {x : DataW H × List MemPlace}
    (h : DataW.trod enc Tryd.prog w 0 (fun _ => true) true fuel 53 [.slice a0 len cap] = some x) : ∃ L : List Int, L.length = len ∧ len ≤ cap ∧ cap ≤ maxLen ∧ BytesAt w w.heap.size a0 L := by
  rcases open_ints Tryd.underlying53 Tryd.underlying5 cellsU8 h with ⟨hcs, _⟩ | ⟨a, len', cap', zs, hcs, _, hl, hm, hz, _, hc, hw⟩
  · injection hcs with hcs
    injection hcs with h1 h2 h3
    subst h1 h2 h3
    exact ⟨[], rfl, Nat.le_refl _, by unfold maxLen; omega, ⟨(fun a ha => by cases ha), (fun i a ha => by simp at ha)⟩⟩
  · injection hcs with hcs
    injection hcs with h1 h2 h3
    subst h1 h2 h3
    simp only [if_true] at hz
    refine ⟨zs.take len, by simp; omega, hl, hm, ⟨fun x hx => u8in_wf (hw x (List.mem_of_mem_take hx)), fun i x hx => ?_⟩⟩
    have hi : i < len := by have := (List.getElem?_eq_some_iff.1 hx).1; simp at this; omega
    have hx' : zs[i]? = some x := by rwa [List.getElem?_take_of_lt hi] at hx
    have h0 := hc i (by omega)
    rw [List.getD_eq_getElem?_getD, hx'] at h0
    obtain ⟨g, off, spot⟩ := a
    have hs : spot = none := by
      have h1 := World.cell?_spot (hc 0 (by omega))
      simpa [Addr.add] using h1
    subst hs
    have hadd : (⟨g, off, none⟩ : Addr).add i = ⟨g, off + i, none⟩ := by simp [Addr.add]
    rw [hadd] at h0
    exact ⟨g, off, rfl, World.block_lt_of_cell? w _ h0, h0⟩
end Go.Proofs.YtonnlgpjobfnmaaDoor
