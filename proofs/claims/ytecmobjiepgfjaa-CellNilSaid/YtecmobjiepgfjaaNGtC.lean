/- A thread is begun: what stands in the run. -/
import Derived.Test.YtecmobjiepgfjaaNGtB
import Derived.Test.YtecmobjiepgfjaaNGtF
import Derived.Test.YtecmobjiepgfjaaNMem
import Derived.BigRegion
import Derived.BigQuiet
import Derived.Deep.RegionLaw
import Derived.Deep.RegionWith
import Derived.Deep.AppendLies
import Derived.Laws.EntriesVeiled
namespace Go.Proofs.Ytecmobjiepgfjaa
open Go.Conc Go.RowKit
open Go.ConcN (upd upd_same upd_ne)
set_option linter.unusedSimpArgs false
set_option linter.unusedVariables false
set_option maxRecDepth 100000
/-- A text without its first n statements. -/
def Code.from : Code → Nat → Code
  | c, 0 => c
  | .seq _ b, n + 1 => Code.from b n
  | c, _ => c
theorem infoThread : (Try.prog.info? 33).map (fun i => (i.zero, i.size, i.bytes)) = some (some (.pointer none), 1, 8) := by kernel_rfl
theorem infoBool : (Try.prog.info? 4).map (fun i => (i.zero, i.size, i.bytes)) = some (some (.bool false), 1, 1) := by kernel_rfl
theorem parts_of {o : Option TypeInfo} {z : Option Value} {s b : Nat} (h : o.map (fun i => (i.zero, i.size, i.bytes)) = some (z, s, b)) : ∃ i, o = some i ∧ i.zero = z ∧ i.size = s ∧ i.bytes = b := by
  obtain ⟨i, h1, h2⟩ := Option.map_eq_some_iff.1 h
  simp only [Prod.mk.injEq] at h2
  exact ⟨i, h1, h2.1, h2.2.1, h2.2.2⟩
theorem cell_obj {z : World} {b : Nat} {cs : Array Value} {t : TypeId} {f : Nat × Nat} (h : z.heap[b]? = some (.cells cs t f)) (k : Nat) : z.cell? (th b k) = cs[k]? := by simp [World.cell?, h]
theorem frozen_obj {z : World} {b : Nat} {cs : Array Value} {t : TypeId} (h : z.heap[b]? = some (.cells cs t (0, 0))) (k : Nat) : z.frozen? (th b k) = false := by simp [World.frozen?, h]
theorem own_heap {w w' : World} {N : Nat} {e : TypeId} {size : Nat} {v : Value} {n : Nat} {xs : List Value} (h : w.ownsRow N e size v n xs) (hb : ∀ g, v.ownBlock = some g → w'.heap[g]? = w.heap[g]?) : w'.ownsRow N e size v n xs := by
  refine ⟨h.1, ?_⟩
  rcases h.2 with hn | ⟨g, cap, cur, rfl, hb', hgg, rest⟩
  · exact .inl hn
  · exact .inr ⟨g, cap, cur, rfl, hb', by rw [hb g rfl]; exact hgg, rest⟩
theorem heap_set_ne {w : World} {b k r : Nat} {v : Value} (h : r ≠ b) : (w.setCell (th b k) v).heap[r]? = w.heap[r]? := by
  rw [heap_setCell]
  have : ¬ r = b := h
  simp only [this, if_false]
  cases w.heap[r]? <;> rfl
theorem heap_set_self {w : World} {b k : Nat} {v : Value} {cs : Array Value} {t : TypeId} {f : Nat × Nat} (h : w.heap[b]? = some (.cells cs t f)) : (w.setCell (th b k) v).heap[b]? = some (.cells (cs.setIfInBounds k v) t f) := by
  rw [heap_setCell, h]; simp [th]
theorem size_set (w : World) (a : Addr) (v : Value) : (w.setCell a v).heap.size = w.heap.size := by simp [World.setCell]
/-- The struct of a run. -/
def runObj (vT vM vL vW vR vF : Value) (stops : Bool) : Array Value := #[vT, vM, vL, vW, vR, vF, .bool stops]
theorem heap_alloc' (w : World) (o : Obj) : (w.alloc o).heap = w.heap.push o := rfl
theorem heap_drew' (w : World) : w.drew.heap = w.heap := rfl
theorem cell_alloc_old {w : World} {a : Addr} {v : Value} {o : Obj} (h : w.cell? a = some v) : (w.alloc o).cell? a = some v := by
  have hlt := cell_lt h
  unfold World.cell? World.alloc at *
  simp only [Array.getElem?_push]
  rw [if_neg (Nat.ne_of_lt hlt)]; exact h
set_option maxHeartbeats 4000000 in
theorem begin_p3 {Post : Value → World → Prop} {C : Ctx} {z : World} {c : Frame} {cs : List Frame} {N rb rv fv tv tb : Nat} {vf : Value} {u6 u7 u8 u9 u10 u11 u12 u13 u14 u16 u17 u18 u19 u20 u21 u22 u23 u24 u25 vT vM vL vW vR vF : Value} {stops : Bool} {fls : List Value}
    (hr : z.heap[rb]? = some (.cells (runObj vT vM vL vW vR vF stops) 179 (0, 0))) (hF : z.ownsRow N 4 1 vF fls.length fls) (hN : N ≤ z.heap.size) (hnF : vF.ownBlock ≠ some rb) (hnv : vF.ownBlock ≠ some rv) (hm : fls.length < 64)
    (c1 : z.cell? (th rv 0) = some (P0 rb))
    (hend : ∀ y vF' u26 u27 u28 u29 u30 u31 u32 u33 u34, y.heap[rb]? = some (.cells (runObj vT vM vL vW vR vF' stops) 179 (0, 0)) → y.ownsRow N 4 1 vF' (fls.length + 1) (fls ++ [.bool false]) → (vF'.ownBlock = vF.ownBlock ∨ ∃ g, vF'.ownBlock = some g ∧ z.heap.size ≤ g) → z.heap.size ≤ y.heap.size → (∀ r, r < z.heap.size → r ≠ rb → some r ≠ vF.ownBlock → y.heap[r]? = z.heap[r]?) →
      JG Try.prog Post C (G ((base 130).at ⟨#[P0 rb, vf, P0 rv, P0 fv, .pointer none, P0 tv, u6, u7, u8, u9, u10, u11, u12, u13, u14, P0 tb, u16, u17, u18, u19, u20, u21, u22, u23, u24, u25, u26, u27, u28, u29, u30, u31, u32, u33, u34, undef, undef, undef, undef], []⟩ [.code (Code.from (Try.f130.body.getD .skip) 4)]) (c :: cs)) y) :
    JG Try.prog Post C (G ((base 130).at ⟨#[P0 rb, vf, P0 rv, P0 fv, .pointer none, P0 tv, u6, u7, u8, u9, u10, u11, u12, u13, u14, P0 tb, u16, u17, u18, u19, u20, u21, u22, u23, u24, u25, undef, undef, undef, undef, undef, undef, undef, undef, undef, undef, undef, undef, undef], []⟩ [.code (Code.from (Try.f130.body.getD .skip) 3)]) (c :: cs)) z := by
  simp only [Try.f130, Option.getD_some, Code.from] at hend ⊢
  obtain ⟨i0, hi0, hz0, hz1, hz2⟩ := parts_of infoBool
  refine JG.seq ?_
  refine JG.code (closedG _) (by kernel_rfl) rfl (.inr (by kernel_rfl)) rfl (fun K R hK hR τ => ?_)
  replace hK := Lib.hid hK
  replace hend := Lib.hid hend
  clear hR
  obtain ⟨y, hy⟩ : ∃ y, y = under z τ 0 := ⟨_, rfl⟩
  have hyh : y.heap = z.heap := by rw [hy]; rfl
  rw [← hy]
  replace hr : y.heap[rb]? = some (.cells (runObj vT vM vL vW vR vF stops) 179 (0, 0)) := by rw [hyh]; exact hr
  have k0 : y.cell? (th rb 5) = some vF := cell_obj hr 5
  have f0 : y.frozen? (th rb 5) = false := frozen_obj hr 5
  have k1 : y.cell? (th rv 0) = some (P0 rb) := by rw [hy]; exact c1
  have HOT : Hid (((y.alloc (.cells #[.bool false] 4)).drew).ownsRow N 4 1 vF fls.length fls) := Lib.hid (((by rw [hy]; exact hF : y.ownsRow N 4 1 vF fls.length fls).alloc _).drew)
  have hN' : N ≤ y.heap.size := by rw [hyh]; exact hN
  have e0 : rb < y.heap.size := cell_lt k0
  have e1 : rb < y.heap.size + 1 := by omega
  have e2 : rv < y.heap.size := cell_lt k1
  have e3 : rv < y.heap.size + 1 := by omega
  have HY := Lib.hid hyh
  have HR := Lib.hid hr
  clear hy hyh hr c1 hF hN
  have m1 : Hid (fls.length + 1 ≤ maxLen) := Lib.hid (by unfold maxLen; omega)
  have m2 : Hid ((fls.length + 1) * 1 ≤ 140737488355328) := Lib.hid (by omega)
  go_region_law (first
    | (refine step_append_lies _ (by rfl) _ _ _ (by rfl) N 4 i0 _ 1 1 Try.underlying59 hi0 hz0 hz1 hz2 rfl (by omega) vF fls.length fls (by rfl) HOT.out ⟨y.heap.size, 0, none⟩ 1 1 [.bool false] (by rfl) (by rfl) (World.news_of_block (cs := #[.bool false]) (t := 4) (fr := (0, 0)) (heap_alloc_new y _)) (by simp [Value.oneCell']) (by omega) m1.out m2.out (by simp; omega) (y.heap.size + 1) (by simp) ?_
       intro g cap w' HG1 HG2 HG3 HG4
       have HB := Lib.hid HG2
       have HO := Lib.hid HG1
       have HG := Lib.hid HG3
       clear HG1 HG2 HG3 HG4
       have g0 : w'.heap[rb]? = some (.cells (runObj vT vM vL vW vR vF stops) 179 (0, 0)) := by
         rw [HB.out.block rb (by simp; omega) (fun e => hnF e.symm), heap_drew', heap_alloc', Array.getElem?_push, if_neg (by omega)]; exact HR.out
       have HQ := Lib.hid g0
       have q0 : w'.cell? (th rb 5) = some vF := cell_obj g0 5
       have q1 : w'.frozen? (th rb 5) = false := frozen_obj g0 5
       have q2 : w'.cell? (th rv 0) = some (P0 rb) := HB.out.cell (cell_alloc_old k1) (fun e => hnv e.symm)
       clear g0))
  all_goals (
    show K _ _
    refine hK.out _ _ (hend.out _ (.slice (some ⟨g, 0, none⟩) (fls.length + 1) cap) _ _ _ _ _ _ _ _ _ ?_ ?_ ?_ ?_ ?_)
    · rw [heap_set_self HQ.out]; rfl
    · refine own_heap HO.out fun g' hg' => heap_set_ne ?_
      obtain rfl : g = g' := by simpa [Value.ownBlock] using hg'
      rintro rfl
      rcases HG.out with h | h
      · exact hnF h
      · omega
    · rcases HG.out with h | h
      · exact .inl h.symm
      · exact .inr ⟨g, rfl, by rw [← HY.out]; omega⟩
    · rw [size_set, ← HY.out]; have := HB.out.size; simp at this; omega
    · intro r h1 h2 h3
      rw [← HY.out] at h1 ⊢
      rw [heap_set_ne h2, HB.out.block r (by simp; omega) h3, heap_drew', heap_alloc', Array.getElem?_push, if_neg (by omega)])
/-- Where a thread stands in its run. -/
structure Begun (z y : World) (N rb : Nat) (vT vF vT' vF' vM vL vW vR : Value) (stops : Bool) (ths fls : List Value) (tb : Nat) : Prop where
  obj : y.heap[rb]? = some (.cells (runObj vT' vM vL vW vR vF' stops) 179 (0, 0))
  ths : y.ownsRow N 33 1 vT' (ths.length + 1) (ths ++ [P0 tb])
  fls : y.ownsRow N 4 1 vF' (fls.length + 1) (fls ++ [.bool false])
  tnew : vT'.ownBlock = vT.ownBlock ∨ ∃ g, vT'.ownBlock = some g ∧ z.heap.size ≤ g
  fnew : vF'.ownBlock = vF.ownBlock ∨ ∃ g, vF'.ownBlock = some g ∧ z.heap.size ≤ g
  size : z.heap.size ≤ y.heap.size
  block : ∀ r, r < z.heap.size → r ≠ rb → some r ≠ vT.ownBlock → some r ≠ vF.ownBlock → y.heap[r]? = z.heap[r]?
theorem own_lt {w : World} {N : Nat} {e : TypeId} {size : Nat} {v : Value} {n : Nat} {xs : List Value} (h : w.ownsRow N e size v n xs) {g : Nat} (hg : v.ownBlock = some g) : g < w.heap.size := (h.lt g hg).2
set_option maxHeartbeats 4000000 in
theorem begin_p2 {Post : Value → World → Prop} {C : Ctx} {z : World} {c : Frame} {cs : List Frame} {N rb rv fv tv tb : Nat} {vf : Value} {u6 u7 u8 u9 u10 u11 u12 u13 u14 vT vM vL vW vR vF : Value} {stops : Bool} {ths fls : List Value}
    (hr : z.heap[rb]? = some (.cells (runObj vT vM vL vW vR vF stops) 179 (0, 0))) (hT : z.ownsRow N 33 1 vT ths.length ths) (hF : z.ownsRow N 4 1 vF fls.length fls) (hN : N ≤ z.heap.size)
    (hnT : vT.ownBlock ≠ some rb) (hntv : vT.ownBlock ≠ some rv) (hntt : vT.ownBlock ≠ some tv) (hnF : vF.ownBlock ≠ some rb) (hnv : vF.ownBlock ≠ some rv) (hTF : ∀ g, vT.ownBlock = some g → vF.ownBlock ≠ some g) (hm : ths.length < 64) (hm2 : fls.length < 64) (hrvb : rv ≠ rb)
    (c1 : z.cell? (th rv 0) = some (P0 rb)) (c2 : z.cell? (th tv 0) = some (P0 tb))
    (hend : ∀ y vT' vF' u16 u17 u18 u19 u20 u21 u22 u23 u24 u25 u26 u27 u28 u29 u30 u31 u32 u33 u34, Begun z y N rb vT vF vT' vF' vM vL vW vR stops ths fls tb →
      JG Try.prog Post C (G ((base 130).at ⟨#[P0 rb, vf, P0 rv, P0 fv, .pointer none, P0 tv, u6, u7, u8, u9, u10, u11, u12, u13, u14, P0 tb, u16, u17, u18, u19, u20, u21, u22, u23, u24, u25, u26, u27, u28, u29, u30, u31, u32, u33, u34, undef, undef, undef, undef], []⟩ [.code (Code.from (Try.f130.body.getD .skip) 4)]) (c :: cs)) y) :
    JG Try.prog Post C (G ((base 130).at ⟨#[P0 rb, vf, P0 rv, P0 fv, .pointer none, P0 tv, u6, u7, u8, u9, u10, u11, u12, u13, u14, P0 tb, undef, undef, undef, undef, undef, undef, undef, undef, undef, undef, undef, undef, undef, undef, undef, undef, undef, undef, undef, undef, undef, undef, undef], []⟩ [.code (Code.from (Try.f130.body.getD .skip) 2)]) (c :: cs)) z := by
  simp only [Try.f130, Option.getD_some, Code.from] at hend ⊢
  obtain ⟨i0, hi0, hz0, hz1, hz2⟩ := parts_of infoThread
  refine JG.seq ?_
  refine JG.code (closedG _) (by kernel_rfl) rfl (.inr (by kernel_rfl)) rfl (fun K R hK hR τ => ?_)
  replace hK := Lib.hid hK
  replace hend := Lib.hid hend
  replace hF := Lib.hid hF
  clear hR
  obtain ⟨y, hy⟩ : ∃ y, y = under z τ 0 := ⟨_, rfl⟩
  have hyh : y.heap = z.heap := by rw [hy]; rfl
  rw [← hy]
  replace hr : y.heap[rb]? = some (.cells (runObj vT vM vL vW vR vF stops) 179 (0, 0)) := by rw [hyh]; exact hr
  have k0 : y.cell? (th rb 0) = some vT := cell_obj hr 0
  have f0 : y.frozen? (th rb 0) = false := frozen_obj hr 0
  have k1 : y.cell? (th rv 0) = some (P0 rb) := by rw [hy]; exact c1
  have k2 : y.cell? (th tv 0) = some (P0 tb) := by rw [hy]; exact c2
  have HOT : Hid (((y.alloc (.cells #[P0 tb] 33)).drew).ownsRow N 33 1 vT ths.length ths) := Lib.hid (((by rw [hy]; exact hT : y.ownsRow N 33 1 vT ths.length ths).alloc _).drew)
  have hN' : N ≤ y.heap.size := by rw [hyh]; exact hN
  have e0 : rb < y.heap.size := cell_lt k0
  have e1 : rb < y.heap.size + 1 := by omega
  have e2 : rv < y.heap.size := cell_lt k1
  have e3 : rv < y.heap.size + 1 := by omega
  have e4 : tv < y.heap.size := cell_lt k2
  have e5 : tv < y.heap.size + 1 := by omega
  have HY := Lib.hid hyh
  have HR := Lib.hid hr
  have HN := Lib.hid hN
  clear hy hyh hr c1 c2 hT hN
  have m1 : Hid (ths.length + 1 ≤ maxLen) := Lib.hid (by unfold maxLen; omega)
  have m2 : Hid ((ths.length + 1) * 8 ≤ 140737488355328) := Lib.hid (by omega)
  go_region_law (first
    | (refine step_append_lies _ (by rfl) _ _ _ (by rfl) N 33 i0 _ 1 8 Try.underlying177 hi0 hz0 hz1 hz2 rfl (by omega) vT ths.length ths (by rfl) HOT.out ⟨y.heap.size, 0, none⟩ 1 1 [P0 tb] (by rfl) (by rfl) (World.news_of_block (cs := #[P0 tb]) (t := 33) (fr := (0, 0)) (heap_alloc_new y _)) (by simp [Value.oneCell']) (by omega) m1.out m2.out (by simp; omega) (y.heap.size + 1) (by simp) ?_
       intro g cap w' HG1 HG2 HG3 HG4
       have HB := Lib.hid HG2
       have HO := Lib.hid HG1
       have HG := Lib.hid HG3
       clear HG1 HG2 HG3 HG4
       have g0 : w'.heap[rb]? = some (.cells (runObj vT vM vL vW vR vF stops) 179 (0, 0)) := by
         rw [HB.out.block rb (by simp; omega) (fun e => hnT e.symm), heap_drew', heap_alloc', Array.getElem?_push, if_neg (by omega)]; exact HR.out
       have HQ := Lib.hid g0
       have q0 : w'.cell? (th rb 0) = some vT := cell_obj g0 0
       have q1 : w'.frozen? (th rb 0) = false := frozen_obj g0 0
       have q2 : w'.cell? (th rv 0) = some (P0 rb) := HB.out.cell (cell_alloc_old k1) (fun e => hntv e.symm)
       have q3 : w'.cell? (th tv 0) = some (P0 tb) := HB.out.cell (cell_alloc_old k2) (fun e => hntt e.symm)
       clear g0))
  all_goals (
    show K _ _
    have hws : y.heap.size + 1 ≤ w'.heap.size := by have := HB.out.size; simpa using this
    have hblk : ∀ r, r < y.heap.size → r ≠ rb → some r ≠ vT.ownBlock → (w'.setCell (th rb 0) (.slice (some ⟨g, 0, none⟩) (ths.length + 1) cap)).heap[r]? = z.heap[r]? := by
      intro r h1 h2 h3
      rw [heap_set_ne h2, HB.out.block r (by simp; omega) h3, heap_drew', heap_alloc', Array.getElem?_push, if_neg (by omega), HY.out]
    have hgr : g ≠ rb := by
      rintro rfl
      rcases HG.out with h | h
      · exact hnT h
      · omega
    have hFz : ∀ g', vF.ownBlock = some g' → g' < y.heap.size := fun g' e => by rw [HY.out]; exact own_lt hF.out e
    have hgF : vF.ownBlock ≠ some g := by
      intro e
      rcases HG.out with h | h
      · exact hTF g h e
      · have := hFz g e; omega
    refine hK.out _ _ (begin_p3 (N := N) (fls := fls) (z := w'.setCell (th rb 0) (.slice (some ⟨g, 0, none⟩) (ths.length + 1) cap)) (vT := .slice (some ⟨g, 0, none⟩) (ths.length + 1) cap) (vM := vM) (vL := vL) (vW := vW) (vR := vR) (vF := vF) (stops := stops) ?_ ?_ ?_ hnF hnv hm2 ?_ ?_)
    · rw [heap_set_self HQ.out]; rfl
    · exact own_heap hF.out fun g' e => hblk g' (hFz g' e) (fun h => hnF (h ▸ e)) (fun h => hTF g' h.symm e)
    · rw [size_set]; have := HN.out; rw [← HY.out] at this; omega
    · exact cell_setCell_ne (by simp [th, hrvb]) q2
    · intro y2 vF' v26 v27 v28 v29 v30 v31 v32 v33 v34 a1 a2 a3 a4 a5
      refine hend.out y2 (.slice (some ⟨g, 0, none⟩) (ths.length + 1) cap) vF' _ _ _ _ _ _ _ _ _ _ _ _ _ _ _ _ _ _ _ ⟨a1, ?_, a2, ?_, ?_, ?_, ?_⟩
      · refine own_heap (own_heap (w' := w'.setCell (th rb 0) (.slice (some ⟨g, 0, none⟩) (ths.length + 1) cap)) HO.out fun g' e => heap_set_ne ?_) fun g' e => ?_
        · obtain rfl : g = g' := by simpa [Value.ownBlock] using e
          exact hgr
        · obtain rfl : g = g' := by simpa [Value.ownBlock] using e
          refine a5 g ?_ hgr fun h => hgF h.symm
          rw [size_set]; exact own_lt HO.out rfl
      · rcases HG.out with h | h
        · exact .inl h.symm
        · exact .inr ⟨g, rfl, by rw [← HY.out]; omega⟩
      · rcases a3 with h | ⟨g', h, h'⟩
        · exact .inl h
        · rw [size_set] at h'
          exact .inr ⟨g', h, by rw [← HY.out]; omega⟩
      · rw [size_set] at a4; rw [← HY.out]; omega
      · intro r h1 h2 h3 h4
        rw [← HY.out] at h1
        rw [a5 r (by rw [size_set]; omega) h2 h4]
        exact hblk r h1 h2 h3)
end Go.Proofs.Ytecmobjiepgfjaa
