/- Joined of the texts GtE, GtG; what each proves, and its conditions, stand ahead of it. -/
import Derived.Test.YtecmobjiepgfjaaNGtD
import Derived.BigRegion
import Derived.BigQuiet
import Derived.Deep.RegionLaw
import Derived.Deep.RegionWith
import Derived.Deep.RegionLawGrows
import Derived.Laws.EntriesVeiled
/- A thread is begun. -/
namespace Go.Proofs.Ytecmobjiepgfjaa
open Go.Conc Go.RowKit
open Go.ConcN (upd upd_same upd_ne)
set_option linter.unusedSimpArgs false
set_option linter.unusedVariables false
set_option maxRecDepth 100000
/-- Where a thread has been begun and has ended: x the world ahead, z0 and z1 ahead of and behind its body, z2 at the return. -/
structure BegunJ (x z0 z1 z2 : World) (N rb : Nat) (vT vF vT' vF' vM vL vW vR : Value) (stops : Bool) (ths fls : List Value) (tb st wk : Nat) : Prop where
  tbn : x.heap.size ≤ tb
  stn : x.heap.size ≤ st
  old : ∀ r, r < x.heap.size → r ≠ rb → some r ≠ vT.ownBlock → some r ≠ vF.ownBlock → z0.heap[r]? = x.heap[r]?
  size0 : x.heap.size ≤ z0.heap.size
  same : ∀ r, r ≠ tb → r ≠ st → z2.heap[r]? = z1.heap[r]?
  size2 : z2.heap.size = z1.heap.size
  obj : z2.heap[rb]? = some (.cells (runObj vT' vM vL vW vR vF' stops) 179 (0, 0))
  rths : z2.ownsRow N 33 1 vT' (ths.length + 1) (ths ++ [P0 tb])
  rfls : z2.ownsRow N 4 1 vF' (fls.length + 1) (fls ++ [.bool false])
  tnew : vT'.ownBlock = vT.ownBlock ∨ ∃ g, vT'.ownBlock = some g ∧ x.heap.size ≤ g
  fnew : vF'.ownBlock = vF.ownBlock ∨ ∃ g, vF'.ownBlock = some g ∧ x.heap.size ≤ g
  thr : z2.heap[tb]? = some (.cells ((newThread rb ths.length wk st).setIfInBounds 13 (.bool true)) 184 (2, 4))
theorem own_ge {w : World} {N : Nat} {e : TypeId} {size : Nat} {v : Value} {n : Nat} {xs : List Value} (h : w.ownsRow N e size v n xs) {g : Nat} (hg : v.ownBlock = some g) : N ≤ g := (h.lt g hg).1
theorem own_slice {w : World} {N : Nat} {e : TypeId} {size : Nat} {v : Value} {n : Nat} {xs : List Value} (h : w.ownsRow N e size v n xs) : ∃ ao cap, v = .slice ao n cap := by
  rcases h.2 with ⟨rfl, hn⟩ | ⟨g, cap, cur, rfl, rest⟩
  · exact ⟨none, 0, by rw [hn]⟩
  · exact ⟨_, _, rfl⟩
set_option maxHeartbeats 4000000 in
theorem begin_J {Post : Value → World → Prop} {C : Ctx} {x : World} {c : Frame} {cs : List Frame} {N rb fb : Nat} {cap : Array Value} {vf vT vM vL vW vR vF : Value} {stops : Bool} {ths fls : List Value} {R : World → World → Prop} {x0 : World}
    (hd : C.d = 0) (hh : C.h < C.n) (hlo : C.lo ≤ N) (hM : Mild1 Post N x0 fb cap R) (hag : ∀ r, r < N → x.heap[r]? = x0.heap[r]?) (hvf : vf = .func (.func fb) #[] cap)
    (hr : x.heap[rb]? = some (.cells (runObj vT vM vL vW vR vF stops) 179 (0, 0))) (hT : x.ownsRow N 33 1 vT ths.length ths) (hF : x.ownsRow N 4 1 vF fls.length fls) (hN : N ≤ rb)
    (hnT : vT.ownBlock ≠ some rb) (hnF : vF.ownBlock ≠ some rb) (hTF : ∀ g, vT.ownBlock = some g → vF.ownBlock ≠ some g) (hm : ths.length < 64) (hm2 : fls.length < 64)
    (hlow : ∀ i s, i ≠ C.h → C.Ch i = some s → s.c < x.heap.size) (hnone : C.Ch C.n = none)
    (hend : ∀ Ch' z0 z1 z2 vT' vF' tb st wk, (∀ i, i ≠ C.h → Ch' i = C.Ch i) → R z0 z1 → BegunJ x z0 z1 z2 N rb vT vF vT' vF' vM vL vW vR stops ths fls tb st wk → JG Try.prog Post { Ch := Ch', h := C.h, d := 0, n := C.n + 1, lo := C.lo, io := C.io } (G (c.finish (P0 tb)) cs) z2) :
    JG Try.prog Post C (G (Frame.enter Try.prog 130 #[P0 rb, vf] .normal) (c :: cs)) x := by
  obtain ⟨ao, cap0, evT⟩ := own_slice hT
  replace hvf := Lib.hid hvf
  replace hag := Lib.hid hag
  have h0 : x.cell? (th rb 0) = some (.slice ao ths.length cap0) := by rw [cell_obj hr, ← evT]; rfl
  refine enterN Try.func130 (by rfl) (by rfl) ?_
  simp only [Try.f130, Option.getD_some]
  walk_nrm
  refine JG.seq ?_
  refine JG.code (closedG _) (by kernel_rfl) rfl (.inr (by kernel_rfl)) rfl (fun K R hK hR τ => ?_)
  replace hK := Lib.hid hK
  replace hend := Lib.hid hend
  go_wp2
  refine hK.out _ _ (JG.tap (x := (x.alloc (.cells #[P0 rb] 175)).alloc (.cells #[vf] 40)) ?_)
  simp only [under_size]
  clear hK hR K R τ
  have hrb : rb < x.heap.size := cell_lt h0
  obtain ⟨w, hw⟩ : ∃ w, w = (x.alloc (.cells #[P0 rb] 175)).alloc (.cells #[vf] 40) := ⟨_, rfl⟩
  have s1 : w.heap.size = x.heap.size + 2 := by rw [hw]; simp
  have o1 : w.heap[x.heap.size]? = some (.cells #[P0 rb] 175 (0, 0)) := by
    rw [hw, heap_alloc', heap_alloc', Array.getElem?_push, Array.size_push, if_neg (by omega), Array.getElem?_push, if_pos rfl]
  have o2 : w.heap[x.heap.size + 1]? = some (.cells #[vf] 40 (0, 0)) := by
    rw [hw, heap_alloc', heap_alloc', Array.getElem?_push, Array.size_push, if_pos rfl]
  have old : ∀ r, r < x.heap.size → w.heap[r]? = x.heap[r]? := fun r h => by
    rw [hw, heap_alloc', heap_alloc', Array.getElem?_push, Array.size_push, if_neg (by omega), Array.getElem?_push, if_neg (by omega)]
  have c1 : w.cell? (th x.heap.size 0) = some (P0 rb) := by rw [cell_obj o1]; rfl
  have c0 : w.cell? (th rb 0) = some (.slice ao ths.length cap0) := by rw [hw]; exact cell_alloc_old (cell_alloc_old h0)
  rw [← hw]
  refine JG.seq ?_
  refine JG.code (closedG _) (by kernel_rfl) rfl (.inr (by kernel_rfl)) rfl (fun K R' hK hR τ => ?_)
  replace hK := Lib.hid hK
  clear hR
  have k1 : (under w τ 0).cell? (th x.heap.size 0) = some (P0 rb) := c1
  have k0 : (under w τ 0).cell? (th rb 0) = some (.slice ao ths.length cap0) := c0
  have hmk := make_chan
  have hbt := build_thread
  have s1' : (under w τ 0).heap.size = x.heap.size + 2 := s1
  obtain ⟨y, hy⟩ : ∃ y, y = under w τ 0 := ⟨_, rfl⟩
  have hyw : y.heap = w.heap := by rw [hy]; rfl
  rw [← hyw] at o1 o2
  replace old : ∀ r, r < x.heap.size → y.heap[r]? = x.heap[r]? := fun r h => by rw [hyw]; exact old r h
  rw [← hy] at k1 k0 s1' ⊢
  clear hy c1 c0 hw hyw
  have hpost : ∀ tv tb wk st z (u6 u7 u8 u9 u10 u11 u14 : Value), Made y z rb ths.length tv tb wk st → K ⟨#[P0 rb, vf, P0 x.heap.size, P0 (x.heap.size + 1), .pointer none, P0 tv, u6, u7, u8, u9, u10, u11, .chan (some wk), .chan (some st), u14, P0 tb, undef, undef, undef, undef, undef, undef, undef, undef, undef, undef, undef, undef, undef, undef, undef, undef, undef, undef, undef, undef, undef, undef, undef], []⟩ z := by
    intro tv tb wk st z u6 u7 u8 u9 u10 u11 u14 hMd
    have hzo : ∀ r, r < x.heap.size → z.heap[r]? = x.heap[r]? := fun r h => (hMd.old r (by omega)).trans (old r h)
    have hTx : ∀ g, vT.ownBlock = some g → g < x.heap.size := fun g e => own_lt hT e
    have hFx : ∀ g, vF.ownBlock = some g → g < x.heap.size := fun g e => own_lt hF e
    have hsz := hMd.size
    have b1 := hMd.tvb; have b2 := hMd.tbb; have b3 := hMd.wkb; have b4 := hMd.stb
    have ztT : z.heap[tb]? = some (.cells (newThread rb ths.length wk st) 184 (0, 0)) := hMd.tbo
    have hp2 := begin_p2 (Post := Post) (C := C) (z := z) (c := c) (cs := cs) (N := N) (rb := rb) (rv := x.heap.size) (fv := x.heap.size + 1) (tv := tv) (tb := tb) (vf := vf) (u6 := u6) (u7 := u7) (u8 := u8) (u9 := u9) (u10 := u10) (u11 := u11) (u12 := .chan (some wk)) (u13 := .chan (some st)) (u14 := u14) (ths := ths) (fls := fls)
      ((hzo rb hrb).trans hr) (own_heap hT fun g e => hzo g (hTx g e)) (own_heap hF fun g e => hzo g (hFx g e)) (by omega) hnT (fun e => Nat.lt_irrefl _ (hTx _ e)) (fun e => by have := hTx _ e; omega) hnF (fun e => Nat.lt_irrefl _ (hFx _ e)) hTF hm hm2 (by omega)
      (by rw [cell_obj ((hMd.old _ (by omega)).trans o1)]; rfl) (by rw [cell_obj hMd.tvo]; rfl) (fun y2 vT' vF' u16 u17 u18 u19 u20 u21 u22 u23 u24 u25 u26 u27 u28 u29 u30 u31 u32 u33 u34 hB => ?_)
    · simp only [Try.f130, Option.getD_some, Code.from] at hp2
      exact hK.out _ _ hp2
    · have hy2 : ∀ r, x.heap.size ≤ r → r < z.heap.size → y2.heap[r]? = z.heap[r]? := fun r h1 h2 => hB.block r h2 (by omega) (fun e => by have := hTx r e.symm; omega) (fun e => by have := hFx r e.symm; omega)
      refine begin_p4 (N := N) (rb := rb) (rv := x.heap.size) (fv := x.heap.size + 1) (tv := tv) (tb := tb) (n := ths.length) (wk := wk) (st := st) (fb := fb) (cap := cap) (R := R) hd hh hlo hM (fun r h => by rw [hB.block r (by omega) (by omega) (fun e => by have := own_ge hT e.symm; omega) (fun e => by have := own_ge hF e.symm; omega), hzo r (by omega), hag.out r h]) hvf.out
        ((hy2 _ (by omega) (by omega)).trans ((hMd.old _ (by omega)).trans o2)) ((hy2 _ (by omega) (by omega)).trans hMd.tvo) ((hy2 _ (by omega) (by omega)).trans hMd.tbo) ((hy2 _ (by omega) (by omega)).trans hMd.wko) ((hy2 _ (by omega) (by omega)).trans hMd.sto) hMd.ne ⟨by omega, by omega, by omega, by omega, by omega⟩
        (fun i s hi hs => by have := hlow i s hi hs; constructor <;> omega) hnone (fun Ch' z0 z1 z2 hCh hz0 hs0 hR hz2 hs2 htb2 => ?_)
      have hs2y := hB.size
      obtain ⟨hR1, hR2⟩ := hM.keeps _ _ hR
      have hkeep : ∀ r, N ≤ r → r < y2.heap.size → r ≠ tv → r ≠ tb → r ≠ wk → r ≠ st → z2.heap[r]? = y2.heap[r]? := fun r e0 e1 e2 e3 e4 e5 => by
        rw [hz2 r e3 e5, hR2 r e0 (by omega), hz0 r e2 e3 e4]
      have hTn : ∀ g, vT'.ownBlock = some g → N ≤ g ∧ g < y2.heap.size ∧ g ≠ tv ∧ g ≠ tb ∧ g ≠ wk ∧ g ≠ st := fun g e => by
        have a1 := own_ge hB.ths e; have a2 := own_lt hB.ths e
        rcases hB.tnew with h | ⟨g', h, h'⟩
        · have := hTx g (h.symm.trans e); omega
        · rw [h] at e; obtain rfl := Option.some.inj e; omega
      have hFn : ∀ g, vF'.ownBlock = some g → N ≤ g ∧ g < y2.heap.size ∧ g ≠ tv ∧ g ≠ tb ∧ g ≠ wk ∧ g ≠ st := fun g e => by
        have a1 := own_ge hB.fls e; have a2 := own_lt hB.fls e
        rcases hB.fnew with h | ⟨g', h, h'⟩
        · have := hFx g (h.symm.trans e); omega
        · rw [h] at e; obtain rfl := Option.some.inj e; omega
      refine hend.out Ch' z0 z1 z2 vT' vF' tb st wk hCh hR ⟨by omega, by omega, fun r e1 e2 e3 e4 => ?_, by omega, hz2, hs2, ?_, own_heap hB.ths fun g e => ?_, own_heap hB.fls fun g e => ?_, ?_, ?_, htb2⟩
      · rw [hz0 r (by omega) (by omega) (by omega), hB.block r (by omega) e2 e3 e4]; exact hzo r e1
      · rw [hkeep rb hN (by omega) (by omega) (by omega) (by omega) (by omega)]; exact hB.obj
      · obtain ⟨a1, a2, a3, a4, a5, a6⟩ := hTn g e; exact hkeep g a1 a2 a3 a4 a5 a6
      · obtain ⟨a1, a2, a3, a4, a5, a6⟩ := hFn g e; exact hkeep g a1 a2 a3 a4 a5 a6
      · rcases hB.tnew with h | ⟨g', h, h'⟩
        · exact .inl h
        · exact .inr ⟨g', h, by omega⟩
      · rcases hB.fnew with h | ⟨g', h, h'⟩
        · exact .inl h
        · exact .inr ⟨g', h, by omega⟩
  replace hpost := Lib.hid hpost
  clear hK hend hM hag hvf hr hT hF hTF hlow hnone hN hnT hnF evT o1 o2 old h0 hm hm2
  have b0 : rb < y.heap.size := by omega
  have b1 : rb < y.heap.size + 1 := by omega
  have b2 : rb < y.heap.size + 1 + 1 := by omega
  have b3 : rb < y.heap.size + 1 + 1 + 1 := by omega
  have d0 : x.heap.size < y.heap.size := by omega
  have d1 : x.heap.size < y.heap.size + 1 := by omega
  have d2 : x.heap.size < y.heap.size + 1 + 1 := by omega
  have d3 : x.heap.size < y.heap.size + 1 + 1 + 1 := by omega
  clear s1' s1 hrb
  go_region
  all_goals (
    show K _ _
    refine hpost.out _ _ _ _ _ _ _ _ _ _ _ _ ⟨fun r hr => ?_, ?_, ?_, ?_, ?_, ?_, ?_, ?_, ?_, ?_, ?_⟩
    all_goals (try simp only [heap_alloc', heap_drew', Array.getElem?_push, Array.size_push])
    all_goals (first | omega | rfl | (repeat (first | rw [if_neg (by omega)] | rw [if_pos (by omega)])); first | done | rfl))
end Go.Proofs.Ytecmobjiepgfjaa
/- The threads that are ready, where the one there is has ended: none, and all have ended. -/
namespace Go.Proofs.Ytecmobjiepgfjaa
open Go.Conc Go.RowKit
open Go.ConcN (upd upd_same upd_ne)
set_option linter.unusedSimpArgs false
set_option linter.unusedVariables false
set_option maxRecDepth 100000
theorem can1 {Post : Value → World → Prop} {C : Ctx} {x : World} {c : Frame} {cs : List Frame} {tb : Nat} (h13 : x.cell? (th tb 13) = some (.bool true))
    (h : JG Try.prog Post C (G (c.finish (.bool false)) cs) x) : JG Try.prog Post C (G (Frame.enter Try.prog 153 #[P0 tb] .normal) (c :: cs)) x := by
  refine enterN Try.func153 (by rfl) (by rfl) ?_
  simp only [Try.f153, Option.getD_some]
  walk_nrm
  repeat first | refine JG.seq ?_ | refine JG.skip ?_ | refine JG.inBlock ?_ | refine JG.block ?_ | refine JG.done ?_ | refine JG.label ?_ | refine JG.condT rfl ?_ | refine JG.condF rfl ?_ | (refine JG.region ?_; simp only [List.size_toArray, List.length_cons, List.length_nil, Nat.reduceAdd, Nat.zero_add, List.range, List.range.loop]) | (refine JG.unwanted rfl (by rfl) ?_; try walk_nrm) | (refine jgo rfl rfl (by rfl) (by decide) (fun K E hK hE τ d => ?_); go_simp; refine hK _ _ (JG.tap ?_); clear hK hE K E τ d; try walk_nrm) | (refine jgo rfl rfl (by rfl) (by decide) (fun K E hK hE τ d => ?_); have hfact := (under_cell _ τ d _).trans (h13); go_simp; refine hK _ _ (JG.tap ?_); clear hfact hK hE K E τ d; try walk_nrm)
  refine JG.code (closedG _) (by kernel_rfl) rfl (.inr (by kernel_rfl)) rfl (fun K R hK hR τ => ?_)
  replace hK := Lib.hid hK
  clear hR
  have h13' : (under x τ 0).cell? (th tb 13) = some (.bool true) := h13
  have hb : tb < (under x τ 0).heap.size := cell_lt h13'
  go_region
  refine hK.out _ _ (JG.tap (x := x) (τ := τ) (d := 1) ?_)
  clear hK h13' hb K R
  repeat first | refine JG.seq ?_ | refine JG.skip ?_ | refine JG.inBlock ?_ | refine JG.block ?_ | refine JG.done ?_ | refine JG.label ?_ | refine JG.condT rfl ?_ | refine JG.condF rfl ?_ | (refine JG.region ?_; simp only [List.size_toArray, List.length_cons, List.length_nil, Nat.reduceAdd, Nat.zero_add, List.range, List.range.loop]) | (refine JG.unwanted rfl (by rfl) ?_; try walk_nrm) | (refine jgo rfl rfl (by rfl) (by decide) (fun K E hK hE τ d => ?_); go_simp; refine hK _ _ (JG.tap ?_); clear hK hE K E τ d; try walk_nrm) | (refine jgo rfl rfl (by rfl) (by decide) (fun K E hK hE τ d => ?_); have hfact := (under_cell _ τ d _).trans (h13); go_simp; refine hK _ _ (JG.tap ?_); clear hfact hK hE K E τ d; try walk_nrm)
  refine JG.ret ?_
  exact JG.leave rfl rfl Try.func153 (fun τ d => results_tmp (t := 2) rfl _ _ _) h
theorem able1 {Post : Value → World → Prop} {C : Ctx} {x : World} {c : Frame} {cs : List Frame} {rb tb g cap : Nat} (h0 : x.cell? (th rb 0) = some (.slice (some ⟨g, 0, none⟩) 1 cap)) (hg : x.cell? (th g 0) = some (P0 tb)) (h13 : x.cell? (th tb 13) = some (.bool true))
    (h : JG Try.prog Post C (G (c.finish (.tuple #[.slice none 0 0, .bool true])) cs) x) : JG Try.prog Post C (G (Frame.enter Try.prog 131 #[P0 rb] .normal) (c :: cs)) x := by
  refine enterN Try.func131 (by rfl) (by rfl) ?_
  simp only [Try.f131, Option.getD_some]
  walk_nrm
  repeat first | refine JG.seq ?_ | refine JG.skip ?_ | refine JG.inBlock ?_ | refine JG.block ?_ | refine JG.done ?_ | refine JG.label ?_ | refine JG.condT rfl ?_ | refine JG.condF rfl ?_ | (refine JG.region ?_; simp only [List.size_toArray, List.length_cons, List.length_nil, Nat.reduceAdd, Nat.zero_add, List.range, List.range.loop]) | (refine JG.unwanted rfl (by rfl) ?_; try walk_nrm) | (refine jgo rfl rfl (by rfl) (by decide) (fun K E hK hE τ d => ?_); go_simp; refine hK _ _ (JG.tap ?_); clear hK hE K E τ d; try walk_nrm) | (refine jgo rfl rfl (by rfl) (by decide) (fun K E hK hE τ d => ?_); have hfact := (under_cell _ τ d _).trans (h0); go_simp; refine hK _ _ (JG.tap ?_); clear hfact hK hE K E τ d; try walk_nrm) | (refine jgo rfl rfl (by rfl) (by decide) (fun K E hK hE τ d => ?_); have hfact := (under_cell _ τ d _).trans (hg); go_simp; refine hK _ _ (JG.tap ?_); clear hfact hK hE K E τ d; try walk_nrm) | (refine jgo rfl rfl (by rfl) (by decide) (fun K E hK hE τ d => ?_); have hfact := (under_cell _ τ d _).trans (h13); go_simp; refine hK _ _ (JG.tap ?_); clear hfact hK hE K E τ d; try walk_nrm)
  refine JG.loop ?_
  repeat first | refine JG.seq ?_ | refine JG.skip ?_ | refine JG.inBlock ?_ | refine JG.block ?_ | refine JG.done ?_ | refine JG.label ?_ | refine JG.condT rfl ?_ | refine JG.condF rfl ?_ | (refine JG.region ?_; simp only [List.size_toArray, List.length_cons, List.length_nil, Nat.reduceAdd, Nat.zero_add, List.range, List.range.loop]) | (refine JG.unwanted rfl (by rfl) ?_; try walk_nrm) | (refine jgo rfl rfl (by rfl) (by decide) (fun K E hK hE τ d => ?_); go_simp; refine hK _ _ (JG.tap ?_); clear hK hE K E τ d; try walk_nrm) | (refine jgo rfl rfl (by rfl) (by decide) (fun K E hK hE τ d => ?_); have hfact := (under_cell _ τ d _).trans (h0); go_simp; refine hK _ _ (JG.tap ?_); clear hfact hK hE K E τ d; try walk_nrm) | (refine jgo rfl rfl (by rfl) (by decide) (fun K E hK hE τ d => ?_); have hfact := (under_cell _ τ d _).trans (hg); go_simp; refine hK _ _ (JG.tap ?_); clear hfact hK hE K E τ d; try walk_nrm) | (refine jgo rfl rfl (by rfl) (by decide) (fun K E hK hE τ d => ?_); have hfact := (under_cell _ τ d _).trans (h13); go_simp; refine hK _ _ (JG.tap ?_); clear hfact hK hE K E τ d; try walk_nrm)
  refine JG.call (f := 153) (args := #[P0 tb]) rfl (by rfl) (by decide) (fun w => ?_) (fun w => ?_) ?_
  iterate 2 (focus obtain ⟨fn, h1, h2, h3⟩ : HasBody 153 := ⟨_, Try.func153, by kernel_rfl, by kernel_rfl⟩; have h4 : ¬ fn.name = "runtime.NumGoroutine" := (by simpa using h2); have h5 : ¬ fn.body = none := (by intro e; rw [e] at h3; cases h3); simp [go_sem, execOp, Act.eval, resolve, Deferred.ofValue, invoke, callFunc, h1, h4, h5])
  refine can1 h13 ?_
  rw [Frame.finish_at]
  walk_nrm
  repeat first | refine JG.seq ?_ | refine JG.skip ?_ | refine JG.inBlock ?_ | refine JG.block ?_ | refine JG.done ?_ | refine JG.label ?_ | refine JG.condT rfl ?_ | refine JG.condF rfl ?_ | (refine JG.region ?_; simp only [List.size_toArray, List.length_cons, List.length_nil, Nat.reduceAdd, Nat.zero_add, List.range, List.range.loop]) | (refine JG.unwanted rfl (by rfl) ?_; try walk_nrm) | (refine jgo rfl rfl (by rfl) (by decide) (fun K E hK hE τ d => ?_); go_simp; refine hK _ _ (JG.tap ?_); clear hK hE K E τ d; try walk_nrm) | (refine jgo rfl rfl (by rfl) (by decide) (fun K E hK hE τ d => ?_); have hfact := (under_cell _ τ d _).trans (h0); go_simp; refine hK _ _ (JG.tap ?_); clear hfact hK hE K E τ d; try walk_nrm) | (refine jgo rfl rfl (by rfl) (by decide) (fun K E hK hE τ d => ?_); have hfact := (under_cell _ τ d _).trans (hg); go_simp; refine hK _ _ (JG.tap ?_); clear hfact hK hE K E τ d; try walk_nrm) | (refine jgo rfl rfl (by rfl) (by decide) (fun K E hK hE τ d => ?_); have hfact := (under_cell _ τ d _).trans (h13); go_simp; refine hK _ _ (JG.tap ?_); clear hfact hK hE K E τ d; try walk_nrm)
  refine JG.inLoop ?_
  repeat first | refine JG.seq ?_ | refine JG.skip ?_ | refine JG.inBlock ?_ | refine JG.block ?_ | refine JG.done ?_ | refine JG.label ?_ | refine JG.condT rfl ?_ | refine JG.condF rfl ?_ | (refine JG.region ?_; simp only [List.size_toArray, List.length_cons, List.length_nil, Nat.reduceAdd, Nat.zero_add, List.range, List.range.loop]) | (refine JG.unwanted rfl (by rfl) ?_; try walk_nrm) | (refine jgo rfl rfl (by rfl) (by decide) (fun K E hK hE τ d => ?_); go_simp; refine hK _ _ (JG.tap ?_); clear hK hE K E τ d; try walk_nrm) | (refine jgo rfl rfl (by rfl) (by decide) (fun K E hK hE τ d => ?_); have hfact := (under_cell _ τ d _).trans (h0); go_simp; refine hK _ _ (JG.tap ?_); clear hfact hK hE K E τ d; try walk_nrm) | (refine jgo rfl rfl (by rfl) (by decide) (fun K E hK hE τ d => ?_); have hfact := (under_cell _ τ d _).trans (hg); go_simp; refine hK _ _ (JG.tap ?_); clear hfact hK hE K E τ d; try walk_nrm) | (refine jgo rfl rfl (by rfl) (by decide) (fun K E hK hE τ d => ?_); have hfact := (under_cell _ τ d _).trans (h13); go_simp; refine hK _ _ (JG.tap ?_); clear hfact hK hE K E τ d; try walk_nrm)
  refine JG.exit (by rfl) ?_
  repeat first | refine JG.seq ?_ | refine JG.skip ?_ | refine JG.inBlock ?_ | refine JG.block ?_ | refine JG.done ?_ | refine JG.label ?_ | refine JG.condT rfl ?_ | refine JG.condF rfl ?_ | (refine JG.region ?_; simp only [List.size_toArray, List.length_cons, List.length_nil, Nat.reduceAdd, Nat.zero_add, List.range, List.range.loop]) | (refine JG.unwanted rfl (by rfl) ?_; try walk_nrm) | (refine jgo rfl rfl (by rfl) (by decide) (fun K E hK hE τ d => ?_); go_simp; refine hK _ _ (JG.tap ?_); clear hK hE K E τ d; try walk_nrm) | (refine jgo rfl rfl (by rfl) (by decide) (fun K E hK hE τ d => ?_); have hfact := (under_cell _ τ d _).trans (h0); go_simp; refine hK _ _ (JG.tap ?_); clear hfact hK hE K E τ d; try walk_nrm) | (refine jgo rfl rfl (by rfl) (by decide) (fun K E hK hE τ d => ?_); have hfact := (under_cell _ τ d _).trans (hg); go_simp; refine hK _ _ (JG.tap ?_); clear hfact hK hE K E τ d; try walk_nrm) | (refine jgo rfl rfl (by rfl) (by decide) (fun K E hK hE τ d => ?_); have hfact := (under_cell _ τ d _).trans (h13); go_simp; refine hK _ _ (JG.tap ?_); clear hfact hK hE K E τ d; try walk_nrm)
  refine JG.ret ?_
  exact JG.leave rfl rfl Try.func131 (fun τ d => results_tmp2 (t := 2) (u := 3) rfl _ _ _) h
end Go.Proofs.Ytecmobjiepgfjaa
