/- A turn is written down: the two appends of gate's until. -/
import Derived.Test.YtecmobjiepgfjaaNRnM
import Derived.BigRegion
import Derived.BigQuiet
import Derived.Deep.RegionLaw
import Derived.Deep.RegionWith
import Derived.Deep.AppendLies
import Derived.Laws.EntriesVeiled
namespace Go.Proofs.Ytecmobjiepgfjaa
open Go.Conc Go.RowKit
open Go.ConcN (upd upd_same upd_ne)
set_option linter.unusedSimpArgs false
set_option linter.unusedVariables false
set_option maxRecDepth 100000
theorem infoInt : (Try.prog.info? 3).map (fun i => (i.zero, i.size, i.bytes)) = some (some (.int .i64 0), 1, 8) := by kernel_rfl
section
variable {Post : Value → World → Prop} {C : Ctx} {x : World} {c : Frame} {cs : List Frame} {tb rb N num n : Nat} {vT vM vL vW vR vF : Value} {stops : Bool} {went ready : List Value} {ao : Option Addr} {lc : Nat} {kk : List Item}
set_option maxHeartbeats 4000000 in
theorem went_J {u1 u2 u3 u4 u5 u6 u7 u8 u9 u10 u11 u13 u15 u16 u17 u18 u19 u20 u21 u22 u23 u24 u25 u26 u27 u28 u29 u30 u31 u32 u33 u34 u35 u36 u37 u38 u39 u40 u41 u42 u43 u44 u45 u46 u47 u48 u49 u50 u51 u52 u53 u54 u55 u56 u57 u58 u59 u60 u61 u62 u63 u64 u65 u66 u67 u68 u69 u70 u71 u72 u73 u74 u75 u76 u77 u78 u79 : Value} (h1 : x.cell? (th tb 1) = some (.int .i64 num)) (hr : x.heap[rb]? = some (.cells (runObj vT vM vL vW vR vF stops) 179 (0, 0))) (hW : x.ownsRow N 3 1 vW went.length went) (hN : N ≤ x.heap.size) (hWr : vW.ownBlock ≠ some rb) (hWt : vW.ownBlock ≠ some tb) (hlen : went.length < 70000) (hne : tb ≠ rb)
    (h : ∀ (y : World) (vW' : Value) (u4 u5 u6 u7 u8 u9 u10 u11 u13 u15 u16 u17 u18 u19 u20 u21 u22 u23 u24 u25 u26 u27 u28 u29 u30 u31 u32 u33 u34 u35 u36 u37 u38 u39 u40 u41 u42 u43 u44 u45 u46 u47 u48 u49 u50 u51 u52 u53 u54 u55 u56 u57 u58 u59 u60 u61 u62 u63 u64 u65 u66 u67 u68 u69 u70 u71 u72 u73 u74 u75 u76 u77 u78 u79 : Value), y.heap[rb]? = some (.cells (runObj vT vM vL vW' vR vF stops) 179 (0, 0)) → y.ownsRow N 3 1 vW' (went.length + 1) (went ++ [.int .i64 num]) → (vW'.ownBlock = vW.ownBlock ∨ ∃ g, vW'.ownBlock = some g ∧ x.heap.size ≤ g) → x.heap.size ≤ y.heap.size → (∀ r, r < x.heap.size → r ≠ rb → some r ≠ vW.ownBlock → y.heap[r]? = x.heap[r]?) →
      JG Try.prog Post C (G ((base 82).at ⟨List.toArray ((P0 rb) :: u1 :: u2 :: u3 :: u4 :: u5 :: u6 :: u7 :: u8 :: u9 :: u10 :: u11 :: (.slice ao n lc) :: u13 :: (P0 tb) :: u15 :: u16 :: u17 :: u18 :: u19 :: u20 :: u21 :: u22 :: u23 :: u24 :: u25 :: u26 :: u27 :: u28 :: u29 :: u30 :: u31 :: u32 :: u33 :: u34 :: u35 :: u36 :: u37 :: u38 :: u39 :: u40 :: u41 :: u42 :: u43 :: u44 :: u45 :: u46 :: u47 :: u48 :: u49 :: u50 :: u51 :: u52 :: u53 :: u54 :: u55 :: u56 :: u57 :: u58 :: u59 :: u60 :: u61 :: u62 :: u63 :: u64 :: u65 :: u66 :: u67 :: u68 :: u69 :: u70 :: u71 :: u72 :: u73 :: u74 :: u75 :: u76 :: u77 :: u78 :: u79 :: []), []⟩ (.code (Code.nav (Try.f82.body.getD .skip) [1, 1, 0, 0, 0, 1, 1, 1, 1, 1]) :: kk)) (c :: cs)) y) :
    JG Try.prog Post C (G ((base 82).at ⟨List.toArray ((P0 rb) :: u1 :: u2 :: u3 :: u4 :: u5 :: u6 :: u7 :: u8 :: u9 :: u10 :: u11 :: (.slice ao n lc) :: u13 :: (P0 tb) :: u15 :: u16 :: u17 :: u18 :: u19 :: u20 :: u21 :: u22 :: u23 :: u24 :: u25 :: u26 :: u27 :: u28 :: u29 :: u30 :: u31 :: u32 :: u33 :: u34 :: u35 :: u36 :: u37 :: u38 :: u39 :: u40 :: u41 :: u42 :: u43 :: u44 :: u45 :: u46 :: u47 :: u48 :: u49 :: u50 :: u51 :: u52 :: u53 :: u54 :: u55 :: u56 :: u57 :: u58 :: u59 :: u60 :: u61 :: u62 :: u63 :: u64 :: u65 :: u66 :: u67 :: u68 :: u69 :: u70 :: u71 :: u72 :: u73 :: u74 :: u75 :: u76 :: u77 :: u78 :: u79 :: []), []⟩ (.code (Code.nav (Try.f82.body.getD .skip) [1, 1, 0, 0, 0, 1, 1, 1, 1, 0]) :: .code (Code.nav (Try.f82.body.getD .skip) [1, 1, 0, 0, 0, 1, 1, 1, 1, 1]) :: kk)) (c :: cs)) x := by
  simp only [Try.f82, Option.getD_some, Code.nav] at h ⊢
  obtain ⟨i0, hi0, hz0, hz1, hz2⟩ := parts_of infoInt
  refine JG.code (closedG _) (by kernel_rfl) rfl (.inr (by kernel_rfl)) rfl (fun K R hK hR τ => ?_)
  replace hK := Lib.hid hK
  clear hR
  replace h := Lib.hid h
  obtain ⟨y, hy⟩ : ∃ y, y = under x τ 0 := ⟨_, rfl⟩
  have hyh : y.heap = x.heap := by rw [hy]; rfl
  rw [← hy]
  have zr := hr
  rw [← hyh] at zr
  have k0 : y.cell? (th rb 3) = some vW := cell_obj zr 3
  have f0 : y.frozen? (th rb 3) = false := frozen_obj zr 3
  have k1 : y.cell? (th tb 1) = some (.int .i64 num) := by rw [hy]; exact h1
  have HOT : Hid (((y.alloc (.cells #[.int .i64 num] 3)).drew).ownsRow N 3 1 vW went.length went) := Lib.hid (((by rw [hy]; exact hW : y.ownsRow N 3 1 vW went.length went).alloc _).drew)
  have hN' : N ≤ y.heap.size := by rw [hyh]; exact hN
  have e0 : rb < y.heap.size := cell_lt k0
  have e1 : rb < y.heap.size + 1 := by omega
  have e2 : tb < y.heap.size := cell_lt k1
  have e3 : tb < y.heap.size + 1 := by omega
  have HY := Lib.hid hyh
  have HR := Lib.hid zr
  clear hy hyh hr h1 hW hN zr
  have m1 : Hid (went.length + 1 ≤ maxLen) := Lib.hid (by unfold maxLen; omega)
  have m2 : Hid ((went.length + 1) * 8 ≤ 140737488355328) := Lib.hid (by omega)
  go_region_law (first
    | (refine step_append_lies _ (by rfl) _ _ _ (by rfl) N 3 i0 _ 1 8 Try.underlying24 hi0 hz0 hz1 hz2 rfl (by omega) vW went.length went (by rfl) HOT.out ⟨y.heap.size, 0, none⟩ 1 1 [.int .i64 num] (by rfl) (by rfl) (World.news_of_block (cs := #[.int .i64 num]) (t := 3) (fr := (0, 0)) (heap_alloc_new y _)) (by simp [Value.oneCell']) (by omega) m1.out m2.out (by first | (simp; done) | (simp; omega)) (y.heap.size + 1) (by simp) ?_
       intro g cap w' HG1 HG2 HG3 HG4
       have HB := Lib.hid HG2
       have HO := Lib.hid HG1
       have HG := Lib.hid HG3
       clear HG1 HG2 HG3 HG4
       have g0 : w'.heap[rb]? = some (.cells (runObj vT vM vL vW vR vF stops) 179 (0, 0)) := by
         rw [HB.out.block rb (by simp; omega) (fun e => hWr e.symm), heap_drew', heap_alloc', Array.getElem?_push, if_neg (by omega)]; exact HR.out
       have HQ := Lib.hid g0
       have q0 : w'.cell? (th rb 3) = some vW := cell_obj g0 3
       have q1 : w'.frozen? (th rb 3) = false := frozen_obj g0 3
       have q2 : w'.cell? (th tb 1) = some (.int .i64 num) := HB.out.cell (cell_alloc_old k1) (fun e => hWt e.symm)
       clear g0))
  all_goals (
    show K _ _
    refine hK.out _ _ ?_
    refine h.out _ (.slice (some ⟨g, 0, none⟩) (went.length + 1) cap) _ _ _ _ _ _ _ _ _ _ _ _ _ _ _ _ _ _ _ _ _ _ _ _ _ _ _ _ _ _ _ _ _ _ _ _ _ _ _ _ _ _ _ _ _ _ _ _ _ _ _ _ _ _ _ _ _ _ _ _ _ _ _ _ _ _ _ _ _ _ _ _ _ _ ?_ ?_ ?_ ?_ ?_
    · rw [heap_set_self HQ.out]; rfl
    · refine own_heap HO.out fun g' hg' => heap_set_ne ?_
      obtain rfl : g = g' := by simpa [Value.ownBlock] using hg'
      rintro rfl
      rcases HG.out with h | h
      · exact hWr h
      · omega
    · rcases HG.out with h | h
      · exact .inl h.symm
      · exact .inr ⟨g, rfl, by rw [← HY.out]; omega⟩
    · rw [size_set, ← HY.out]; have := HB.out.size; simp at this; omega
    · intro r h1 h2 h3
      rw [← HY.out] at h1
      rw [heap_set_ne h2, HB.out.block r (by simp; omega) h3, heap_drew', heap_alloc', Array.getElem?_push, if_neg (by omega), HY.out])
set_option maxHeartbeats 4000000 in
theorem ready_J {u1 u2 u3 u4 u5 u6 u7 u8 u9 u10 u11 u13 u15 u16 u17 u18 u19 u20 u21 u22 u23 u24 u25 u26 u27 u28 u29 u30 u31 u32 u33 u34 u35 u36 u37 u38 u39 u40 u41 u42 u43 u44 u45 u46 u47 u48 u49 u50 u51 u52 u53 u54 u55 u56 u57 u58 u59 u60 u61 u62 u63 u64 u65 u66 u67 u68 u69 u70 u71 u72 u73 u74 u75 u76 u77 u78 u79 : Value} (hr : x.heap[rb]? = some (.cells (runObj vT vM vL vW vR vF stops) 179 (0, 0))) (hW : x.ownsRow N 3 1 vR ready.length ready) (hN : N ≤ x.heap.size) (hWr : vR.ownBlock ≠ some rb) (hlen : ready.length < 70000)
    (h : ∀ (y : World) (vR' : Value) (u4 u5 u6 u7 u8 u9 u10 u11 u13 u15 u16 u17 u18 u19 u20 u21 u22 u23 u24 u25 u26 u27 u28 u29 u30 u31 u32 u33 u34 u35 u36 u37 u38 u39 u40 u41 u42 u43 u44 u45 u46 u47 u48 u49 u50 u51 u52 u53 u54 u55 u56 u57 u58 u59 u60 u61 u62 u63 u64 u65 u66 u67 u68 u69 u70 u71 u72 u73 u74 u75 u76 u77 u78 u79 : Value), y.heap[rb]? = some (.cells (runObj vT vM vL vW vR' vF stops) 179 (0, 0)) → y.ownsRow N 3 1 vR' (ready.length + 1) (ready ++ [.int .i64 n]) → (vR'.ownBlock = vR.ownBlock ∨ ∃ g, vR'.ownBlock = some g ∧ x.heap.size ≤ g) → x.heap.size ≤ y.heap.size → (∀ r, r < x.heap.size → r ≠ rb → some r ≠ vR.ownBlock → y.heap[r]? = x.heap[r]?) →
      JG Try.prog Post C (G ((base 82).at ⟨List.toArray ((P0 rb) :: u1 :: u2 :: u3 :: u4 :: u5 :: u6 :: u7 :: u8 :: u9 :: u10 :: u11 :: (.slice ao n lc) :: u13 :: (P0 tb) :: u15 :: u16 :: u17 :: u18 :: u19 :: u20 :: u21 :: u22 :: u23 :: u24 :: u25 :: u26 :: u27 :: u28 :: u29 :: u30 :: u31 :: u32 :: u33 :: u34 :: u35 :: u36 :: u37 :: u38 :: u39 :: u40 :: u41 :: u42 :: u43 :: u44 :: u45 :: u46 :: u47 :: u48 :: u49 :: u50 :: u51 :: u52 :: u53 :: u54 :: u55 :: u56 :: u57 :: u58 :: u59 :: u60 :: u61 :: u62 :: u63 :: u64 :: u65 :: u66 :: u67 :: u68 :: u69 :: u70 :: u71 :: u72 :: u73 :: u74 :: u75 :: u76 :: u77 :: u78 :: u79 :: []), []⟩ (.code (Code.nav (Try.f82.body.getD .skip) [1, 1, 0, 0, 0, 1, 1, 1, 1, 1, 1]) :: kk)) (c :: cs)) y) :
    JG Try.prog Post C (G ((base 82).at ⟨List.toArray ((P0 rb) :: u1 :: u2 :: u3 :: u4 :: u5 :: u6 :: u7 :: u8 :: u9 :: u10 :: u11 :: (.slice ao n lc) :: u13 :: (P0 tb) :: u15 :: u16 :: u17 :: u18 :: u19 :: u20 :: u21 :: u22 :: u23 :: u24 :: u25 :: u26 :: u27 :: u28 :: u29 :: u30 :: u31 :: u32 :: u33 :: u34 :: u35 :: u36 :: u37 :: u38 :: u39 :: u40 :: u41 :: u42 :: u43 :: u44 :: u45 :: u46 :: u47 :: u48 :: u49 :: u50 :: u51 :: u52 :: u53 :: u54 :: u55 :: u56 :: u57 :: u58 :: u59 :: u60 :: u61 :: u62 :: u63 :: u64 :: u65 :: u66 :: u67 :: u68 :: u69 :: u70 :: u71 :: u72 :: u73 :: u74 :: u75 :: u76 :: u77 :: u78 :: u79 :: []), []⟩ (.code (Code.nav (Try.f82.body.getD .skip) [1, 1, 0, 0, 0, 1, 1, 1, 1, 1]) :: kk)) (c :: cs)) x := by
  simp only [Try.f82, Option.getD_some, Code.nav] at h ⊢
  obtain ⟨i0, hi0, hz0, hz1, hz2⟩ := parts_of infoInt
  refine JG.seq ?_
  refine JG.code (closedG _) (by kernel_rfl) rfl (.inr (by kernel_rfl)) rfl (fun K R hK hR τ => ?_)
  replace hK := Lib.hid hK
  clear hR
  replace h := Lib.hid h
  obtain ⟨y, hy⟩ : ∃ y, y = under x τ 0 := ⟨_, rfl⟩
  have hyh : y.heap = x.heap := by rw [hy]; rfl
  rw [← hy]
  have zr := hr
  rw [← hyh] at zr
  have k0 : y.cell? (th rb 4) = some vR := cell_obj zr 4
  have f0 : y.frozen? (th rb 4) = false := frozen_obj zr 4
  have HOT : Hid ((y.alloc (.cells #[.int .i64 n] 3)).ownsRow N 3 1 vR ready.length ready) := Lib.hid ((by rw [hy]; exact hW : y.ownsRow N 3 1 vR ready.length ready).alloc _)
  have N4 : Hid (N ≤ (y.alloc (.cells #[.int .i64 n] 3)).heap.size) := Lib.hid (by simp [hyh]; omega)
  have e0 : rb < y.heap.size := cell_lt k0
  have HY := Lib.hid hyh
  have HR := Lib.hid zr
  clear hy hyh hr hW hN zr
  have m1 : Hid (ready.length + 1 ≤ maxLen) := Lib.hid (by unfold maxLen; omega)
  have m2 : Hid ((ready.length + 1) * 8 ≤ 140737488355328) := Lib.hid (by omega)
  go_wp2_with (first
    | (at_builtin
       refine wpList_append_lies _ rfl _ _ 24 rfl N 3 i0 _ 1 8 Try.underlying24 hi0 hz0 hz1 hz2 rfl (by decide) _ ready.length ready rfl HOT.out ⟨y.heap.size, 0, none⟩ 1 1 [.int .i64 n] rfl rfl (World.news_of_block (cs := #[.int .i64 n]) (t := 3) (fr := (0, 0)) (heap_alloc_new y _)) (by simp [Value.oneCell']) (by omega) m1.out m2.out N4.out _ rfl ?_
       intro g cap w' HG1 HG2 HG3 HG4
       have HB := Lib.hid HG2
       have HO := Lib.hid HG1
       have HG := Lib.hid HG3
       clear HG1 HG2 HG3 HG4
       have g0 : w'.heap[rb]? = some (.cells (runObj vT vM vL vW vR vF stops) 179 (0, 0)) := by
         rw [HB.out.block rb (by simp; omega) (fun e => hWr e.symm), heap_alloc', Array.getElem?_push, if_neg (by omega)]; exact HR.out
       have HQ := Lib.hid g0
       have q0 : w'.cell? (th rb 4) = some vR := cell_obj g0 4
       have q1 : w'.frozen? (th rb 4) = false := frozen_obj g0 4
       clear g0))
  all_goals (
    show K _ _
    refine hK.out _ _ ?_
    refine h.out _ (.slice (some ⟨g, 0, none⟩) (ready.length + 1) cap) _ _ _ _ _ _ _ _ _ _ _ _ _ _ _ _ _ _ _ _ _ _ _ _ _ _ _ _ _ _ _ _ _ _ _ _ _ _ _ _ _ _ _ _ _ _ _ _ _ _ _ _ _ _ _ _ _ _ _ _ _ _ _ _ _ _ _ _ _ _ _ _ _ _ ?_ ?_ ?_ ?_ ?_
    · rw [heap_set_self HQ.out]; rfl
    · refine own_heap HO.out fun g' hg' => heap_set_ne ?_
      obtain rfl : g = g' := by simpa [Value.ownBlock] using hg'
      rintro rfl
      rcases HG.out with h | h
      · exact hWr h
      · simp at h; omega
    · rcases HG.out with h | h
      · exact .inl h.symm
      · exact .inr ⟨g, rfl, by rw [← HY.out]; simp at h; omega⟩
    · rw [size_set, ← HY.out]; have := HB.out.size; simp at this; omega
    · intro r h1 h2 h3
      rw [← HY.out] at h1
      rw [heap_set_ne h2, HB.out.block r (by simp; omega) h3, heap_alloc', Array.getElem?_push, if_neg (by omega), HY.out])
end
end Go.Proofs.Ytecmobjiepgfjaa
