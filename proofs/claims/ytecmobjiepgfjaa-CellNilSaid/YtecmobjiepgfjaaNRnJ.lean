/- A thread is begun: gate's begin, whole, up to where its body is called. -/
import Derived.Test.YtecmobjiepgfjaaNRnI
import Derived.BigRegion
import Derived.BigQuiet
import Derived.Deep.RegionLaw
import Derived.Deep.RegionWith
import Derived.Deep.RegionLawGrows
import Derived.Laws.EntriesVeiled
namespace Go.Proofs.Ytecmobjiepgfjaa
open Go.Conc Go.RowKit
open Go.ConcN (upd upd_same upd_ne)
set_option linter.unusedSimpArgs false
set_option linter.unusedVariables false
set_option maxRecDepth 100000
/-- Where a thread has been begun, ahead of its body. -/
structure BegunR (x z : World) (N rb : Nat) (vT vF vT' vF' vM vL vW vR : Value) (stops : Bool) (ths fls : List Value) (tv tb wk st : Nat) : Prop where
  tvn : x.heap.size ≤ tv ∧ tv < z.heap.size
  tbn : x.heap.size ≤ tb ∧ tb < z.heap.size
  wkn : x.heap.size ≤ wk ∧ wk < z.heap.size
  stn : x.heap.size ≤ st ∧ st < z.heap.size
  ne : wk ≠ st
  size : x.heap.size ≤ z.heap.size
  old : ∀ r, r < x.heap.size → r ≠ rb → some r ≠ vT.ownBlock → some r ≠ vF.ownBlock → z.heap[r]? = x.heap[r]?
  obj : z.heap[rb]? = some (.cells (runObj vT' vM vL vW vR vF' stops) 179 (0, 0))
  rths : z.ownsRow N 33 1 vT' (ths.length + 1) (ths ++ [P0 tb])
  rfls : z.ownsRow N 4 1 vF' (fls.length + 1) (fls ++ [.bool false])
  tnew : vT'.ownBlock = vT.ownBlock ∨ ∃ g, vT'.ownBlock = some g ∧ x.heap.size ≤ g
  fnew : vF'.ownBlock = vF.ownBlock ∨ ∃ g, vF'.ownBlock = some g ∧ x.heap.size ≤ g
  tvo : z.heap[tv]? = some (.cells #[P0 tb] 33 (0, 1))
  tbo : z.heap[tb]? = some (.cells (newThread rb ths.length wk st) 184 (2, 4))
  rvo : z.heap[x.heap.size]? = some (.cells #[P0 rb] 175 (0, 0))
  wko : ∃ k, z.heap[wk]? = some (.chan 0 #[] false k k false)
  sto : ∃ k, z.heap[st]? = some (.chan 0 #[] false k k false)
set_option maxHeartbeats 4000000 in
theorem begin_R {Post : Value → World → Prop} {C : Ctx} {x : World} {c : Frame} {cs : List Frame} {N rb fb : Nat} {cap : Array Value} {vf vT vM vL vW vR vF : Value} {stops : Bool} {ths fls : List Value}
    (hd : C.d = 0) (hh : C.h < C.n) (hlo : C.lo ≤ N) (hbd : HasBody fb) (hvf : vf = .func (.func fb) #[] cap)
    (hr : x.heap[rb]? = some (.cells (runObj vT vM vL vW vR vF stops) 179 (0, 0))) (hT : x.ownsRow N 33 1 vT ths.length ths) (hF : x.ownsRow N 4 1 vF fls.length fls) (hN : N ≤ x.heap.size)
    (hnT : vT.ownBlock ≠ some rb) (hnF : vF.ownBlock ≠ some rb) (hTF : ∀ g, vT.ownBlock = some g → vF.ownBlock ≠ some g) (hm : ths.length < 64) (hm2 : fls.length < 64)
    (hlow : ∀ i s, i ≠ C.h → C.Ch i = some s → s.c < x.heap.size) (hnone : C.Ch C.n = none)
    (hend : ∀ (z0 : World) (cb : Frame) (sp sb : Chair) (vT' vF' : Value) (tv tb wk st : Nat), sp.c = st → (∀ g, sp.home g → ∀ (C2 : Ctx) (z2 : World) (v : Value), z2.cell? (th tv 0) = some (P0 tb) → JG Try.prog Post C2 (G (c.finish (P0 tb)) cs) z2 → JG Try.prog Post C2 (Go.Conc.served g v) z2) →
      AfterBody Post x.heap.size tv tb st cb → AfterStop Post x.heap.size tv tb st cb → BegunR x z0 N rb vT vF vT' vF' vM vL vW vR stops ths fls tv tb wk st →
      JG Try.prog Post { Ch := upd (upd C.Ch C.n (some sb)) C.h (some sp), h := C.n, d := 0, n := C.n + 1, lo := C.lo, io := C.io } (G (Frame.enter Try.prog fb (#[P0 tb] ++ cap) .normal) [cb, rootF Try.prog]) z0) :
    JG Try.prog Post C (G (Frame.enter Try.prog 130 #[P0 rb, vf] .normal) (c :: cs)) x := by
  obtain ⟨ao, cap0, evT⟩ := own_slice hT
  replace hvf := Lib.hid hvf
  have h0 : x.cell? (th rb 0) = some (.slice ao ths.length cap0) := by rw [cell_obj hr, ← evT]; rfl
  refine enterN Try.func130 (by rfl) (by rfl) ?_
  simp only [Try.f130, Option.getD_some]
  walk_nrm
  refine JG.seq ?_
  refine JG.code (closedG _) (by kernel_rfl) rfl (.inr (by kernel_rfl)) rfl (fun K R hK hR τ => ?_)
  replace hK := Lib.hid hK
  replace hend := Lib.hid hend
  go_wp2
  refine hK.out _ _ (JG.tap (x := (x.alloc (.cells #[P0 rb] 175)).alloc (.cells #[vf] 40)) ?_)
  simp only [under_size]
  clear hK hR K R τ
  have hrb : rb < x.heap.size := cell_lt h0
  obtain ⟨w, hw⟩ : ∃ w, w = (x.alloc (.cells #[P0 rb] 175)).alloc (.cells #[vf] 40) := ⟨_, rfl⟩
  have s1 : w.heap.size = x.heap.size + 2 := by rw [hw]; simp
  have o1 : w.heap[x.heap.size]? = some (.cells #[P0 rb] 175 (0, 0)) := by
    rw [hw, heap_alloc', heap_alloc', Array.getElem?_push, Array.size_push, if_neg (by omega), Array.getElem?_push, if_pos rfl]
  have o2 : w.heap[x.heap.size + 1]? = some (.cells #[vf] 40 (0, 0)) := by
    rw [hw, heap_alloc', heap_alloc', Array.getElem?_push, Array.size_push, if_pos rfl]
  have old : ∀ r, r < x.heap.size → w.heap[r]? = x.heap[r]? := fun r h => by
    rw [hw, heap_alloc', heap_alloc', Array.getElem?_push, Array.size_push, if_neg (by omega), Array.getElem?_push, if_neg (by omega)]
  have c1 : w.cell? (th x.heap.size 0) = some (P0 rb) := by rw [cell_obj o1]; rfl
  have c0 : w.cell? (th rb 0) = some (.slice ao ths.length cap0) := by rw [hw]; exact cell_alloc_old (cell_alloc_old h0)
  rw [← hw]
  refine JG.seq ?_
  refine JG.code (closedG _) (by kernel_rfl) rfl (.inr (by kernel_rfl)) rfl (fun K R' hK hR τ => ?_)
  replace hK := Lib.hid hK
  clear hR
  have k1 : (under w τ 0).cell? (th x.heap.size 0) = some (P0 rb) := c1
  have k0 : (under w τ 0).cell? (th rb 0) = some (.slice ao ths.length cap0) := c0
  have hmk := make_chan
  have hbt := build_thread
  have s1' : (under w τ 0).heap.size = x.heap.size + 2 := s1
  obtain ⟨y, hy⟩ : ∃ y, y = under w τ 0 := ⟨_, rfl⟩
  have hyw : y.heap = w.heap := by rw [hy]; rfl
  rw [← hyw] at o1 o2
  replace old : ∀ r, r < x.heap.size → y.heap[r]? = x.heap[r]? := fun r h => by rw [hyw]; exact old r h
  rw [← hy] at k1 k0 s1' ⊢
  clear hy c1 c0 hw hyw
  have hpost : ∀ tv tb wk st z (u6 u7 u8 u9 u10 u11 u14 : Value), Made y z rb ths.length tv tb wk st → K ⟨#[P0 rb, vf, P0 x.heap.size, P0 (x.heap.size + 1), .pointer none, P0 tv, u6, u7, u8, u9, u10, u11, .chan (some wk), .chan (some st), u14, P0 tb, undef, undef, undef, undef, undef, undef, undef, undef, undef, undef, undef, undef, undef, undef, undef, undef, undef, undef, undef, undef, undef, undef, undef], []⟩ z := by
    intro tv tb wk st z u6 u7 u8 u9 u10 u11 u14 hMd
    have hzo : ∀ r, r < x.heap.size → z.heap[r]? = x.heap[r]? := fun r h => (hMd.old r (by omega)).trans (old r h)
    have hTx : ∀ g, vT.ownBlock = some g → g < x.heap.size := fun g e => own_lt hT e
    have hFx : ∀ g, vF.ownBlock = some g → g < x.heap.size := fun g e => own_lt hF e
    have hsz := hMd.size
    have b1 := hMd.tvb; have b2 := hMd.tbb; have b3 := hMd.wkb; have b4 := hMd.stb
    have ztT : z.heap[tb]? = some (.cells (newThread rb ths.length wk st) 184 (0, 0)) := hMd.tbo
    have hp2 := begin_p2 (Post := Post) (C := C) (z := z) (c := c) (cs := cs) (N := N) (rb := rb) (rv := x.heap.size) (fv := x.heap.size + 1) (tv := tv) (tb := tb) (vf := vf) (u6 := u6) (u7 := u7) (u8 := u8) (u9 := u9) (u10 := u10) (u11 := u11) (u12 := .chan (some wk)) (u13 := .chan (some st)) (u14 := u14) (ths := ths) (fls := fls)
      ((hzo rb hrb).trans hr) (own_heap hT fun g e => hzo g (hTx g e)) (own_heap hF fun g e => hzo g (hFx g e)) (by omega) hnT (fun e => Nat.lt_irrefl _ (hTx _ e)) (fun e => by have := hTx _ e; omega) hnF (fun e => Nat.lt_irrefl _ (hFx _ e)) hTF hm hm2 (by omega)
      (by rw [cell_obj ((hMd.old _ (by omega)).trans o1)]; rfl) (by rw [cell_obj hMd.tvo]; rfl) (fun y2 vT' vF' u16 u17 u18 u19 u20 u21 u22 u23 u24 u25 u26 u27 u28 u29 u30 u31 u32 u33 u34 hB => ?_)
    · simp only [Try.f130, Option.getD_some, Code.from] at hp2
      exact hK.out _ _ hp2
    · have hy2 : ∀ r, x.heap.size ≤ r → r < z.heap.size → y2.heap[r]? = z.heap[r]? := fun r h1 h2 => hB.block r h2 (by omega) (fun e => by have := hTx r e.symm; omega) (fun e => by have := hFx r e.symm; omega)
      refine begin_r4 (N := N) (rb := rb) (rv := x.heap.size) (fv := x.heap.size + 1) (tv := tv) (tb := tb) (n := ths.length) (wk := wk) (st := st) (fb := fb) (cap := cap) hd hh hlo hbd hvf.out
        ((hy2 _ (by omega) (by omega)).trans ((hMd.old _ (by omega)).trans o2)) ((hy2 _ (by omega) (by omega)).trans hMd.tvo) ((hy2 _ (by omega) (by omega)).trans hMd.tbo) ((hy2 _ (by omega) (by omega)).trans hMd.wko) ((hy2 _ (by omega) (by omega)).trans hMd.sto) hMd.ne ⟨by omega, by omega, by omega, by omega, by omega⟩
        (fun i s hi hs => by have := hlow i s hi hs; constructor <;> omega) hnone (fun z0 cb sp sb hsp hback hcb hcs hz0 hs0 htv0 htb0 hwk0 => ?_)
      have hs2y := hB.size
      have hTn : ∀ g, vT'.ownBlock = some g → g < y2.heap.size ∧ g ≠ tv ∧ g ≠ tb ∧ g ≠ wk := fun g e => by
        have a2 := own_lt hB.ths e
        rcases hB.tnew with h | ⟨g', h, h'⟩
        · have := hTx g (h.symm.trans e); omega
        · rw [h] at e; obtain rfl := Option.some.inj e; omega
      have hFn : ∀ g, vF'.ownBlock = some g → g < y2.heap.size ∧ g ≠ tv ∧ g ≠ tb ∧ g ≠ wk := fun g e => by
        have a2 := own_lt hB.fls e
        rcases hB.fnew with h | ⟨g', h, h'⟩
        · have := hFx g (h.symm.trans e); omega
        · rw [h] at e; obtain rfl := Option.some.inj e; omega
      refine hend.out z0 cb sp sb vT' vF' tv tb wk st hsp hback hcb hcs ⟨⟨by omega, by omega⟩, ⟨by omega, by omega⟩, ⟨by omega, by omega⟩, ⟨by omega, by omega⟩, hMd.ne, by omega, fun r e1 e2 e3 e4 => ?_, ?_, own_heap hB.ths fun g e => ?_, own_heap hB.fls fun g e => ?_, ?_, ?_, htv0, htb0, ?_, hwk0, ?_⟩
      · rw [hz0 r (by omega) (by omega) (by omega), hB.block r (by omega) e2 e3 e4]; exact hzo r e1
      · rw [hz0 rb (by omega) (by omega) (by omega)]; exact hB.obj
      · obtain ⟨a3, a4, a5, a6⟩ := hTn g e; exact hz0 g a4 a5 a6
      · obtain ⟨a3, a4, a5, a6⟩ := hFn g e; exact hz0 g a4 a5 a6
      · rcases hB.tnew with h | ⟨g', h, h'⟩
        · exact .inl h
        · exact .inr ⟨g', h, by omega⟩
      · rcases hB.fnew with h | ⟨g', h, h'⟩
        · exact .inl h
        · exact .inr ⟨g', h, by omega⟩
      · rw [hz0 _ (by omega) (by omega) (by omega), hy2 _ (by omega) (by omega)]
        exact (hMd.old _ (by omega)).trans o1
      · have hne1 : st ≠ tv := by rintro rfl; have := hMd.sto; rw [hMd.tvo] at this; cases this
        have hne2 : st ≠ tb := by rintro rfl; have := hMd.sto; rw [hMd.tbo] at this; cases this
        exact ⟨0, by rw [hz0 st hne1 hne2 hMd.ne.symm, hy2 _ (by omega) (by omega)]; exact hMd.sto⟩
  replace hpost := Lib.hid hpost
  clear hK hend hvf hr hT hF hTF hlow hnone hN hnT hnF evT o1 o2 old h0 hm hm2
  have b0 : rb < y.heap.size := by omega
  have b1 : rb < y.heap.size + 1 := by omega
  have b2 : rb < y.heap.size + 1 + 1 := by omega
  have b3 : rb < y.heap.size + 1 + 1 + 1 := by omega
  have d0 : x.heap.size < y.heap.size := by omega
  have d1 : x.heap.size < y.heap.size + 1 := by omega
  have d2 : x.heap.size < y.heap.size + 1 + 1 := by omega
  have d3 : x.heap.size < y.heap.size + 1 + 1 + 1 := by omega
  clear s1' s1 hrb
  go_region
  all_goals (
    show K _ _
    refine hpost.out _ _ _ _ _ _ _ _ _ _ _ _ ⟨fun r hr => ?_, ?_, ?_, ?_, ?_, ?_, ?_, ?_, ?_, ?_, ?_⟩
    all_goals (try simp only [heap_alloc', heap_drew', Array.getElem?_push, Array.size_push])
    all_goals (first | omega | rfl | (repeat (first | rw [if_neg (by omega)] | rw [if_pos (by omega)])); first | done | rfl))
end Go.Proofs.Ytecmobjiepgfjaa
