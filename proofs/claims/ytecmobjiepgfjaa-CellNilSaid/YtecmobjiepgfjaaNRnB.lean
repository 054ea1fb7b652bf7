/- A thread stands at an access: gate's stands, said of whoever holds; let go again it comes back to its caller, or panics when the run has stopped. -/
import Derived.Test.YtecmobjiepgfjaaNGtG
import Derived.Test.YtecmobjiepgfjaaNRnA
namespace Go.Proofs.Ytecmobjiepgfjaa
open Go.Conc Go.RowKit
open Go.ConcN (upd upd_same upd_ne)
set_option linter.unusedSimpArgs false
set_option linter.unusedVariables false
set_option maxRecDepth 100000
/-- The cells of an entry. -/
def accV (a : Entry) : List Value := [.int .i64 a.thread, .int .i8 a.op, .int .i64 a.cell, .int .i64 a.arg, .int .i64 a.new, .int .i64 a.was, .int .i64 a.now, .bool a.ok]
/-- The struct of a thread. -/
def thrObj (rb num wk st : Nat) (vv : Value) (a : Entry) (e : Bool) : Array Value :=
  #[P0 rb, .int .i64 num, .chan (some wk), .chan (some st), vv, .int .i64 a.thread, .int .i8 a.op, .int .i64 a.cell, .int .i64 a.arg, .int .i64 a.new, .int .i64 a.was, .int .i64 a.now, .bool a.ok, .bool e]
/-- What whoever is stopped panics with. -/
abbrev stopV : Value := .iface 242 (.agg #[])
/-- What becomes of a thread that stands: let go, it comes back to its caller; when the run has stopped, it panics there. -/
def StandHome (Post : Value → World → Prop) (tb : Nat) (c : Frame) (cs : List Frame) (g : Goroutine) : Prop :=
  ∀ (C : Ctx) (x : World) (v : Value) (rb : Nat) (stops : Bool), x.cell? (th tb 0) = some (P0 rb) → x.cell? (th rb 6) = some (.bool stops) →
    (stops = false → JG Try.prog Post C (G (c.finish (.tuple #[])) cs) x) → (stops = true → JG Try.prog Post C (G (c.raise [{ v := stopV, recovered := false }]) cs) x) → JG Try.prog Post C (Go.Conc.served g v) x
/-- Its chair: at its channel wake. -/
def standChair (Post : Value → World → Prop) (tb wk : Nat) (c : Frame) (cs : List Frame) : Chair := { c := wk, z := unitV, kn := fun a v => a = th tb 2 ∧ v = .chan (some wk), home := StandHome Post tb c cs }
theorem sets9 {α : Type} (a0 a1 a2 a3 a4 a5 a6 a7 a8 a9 a10 a11 a12 a13 b4 b5 b6 b7 b8 b9 b10 b11 b12 : α) :
    (((((((((#[a0, a1, a2, a3, a4, a5, a6, a7, a8, a9, a10, a11, a12, a13].setIfInBounds 4 b4).setIfInBounds 5 b5).setIfInBounds 6 b6).setIfInBounds 7 b7).setIfInBounds 8 b8).setIfInBounds 9 b9).setIfInBounds 10 b10).setIfInBounds 11 b11).setIfInBounds 12 b12) =
      #[a0, a1, a2, a3, b4, b5, b6, b7, b8, b9, b10, b11, b12, a13] := by
  apply Array.ext'
  simp only [Array.toList_setIfInBounds]
  rfl
set_option maxHeartbeats 2000000 in
theorem stands_J {Post : Value → World → Prop} {C : Ctx} {x : World} {c : Frame} {cs : List Frame} {tb rb num wk st p : Nat} {vv : Value} {pa : Option Addr} {ao a : Entry} {sp : Chair}
    (hd : C.d = 0) (hp : p ≠ C.h) (hsp : C.Ch p = some sp) (hc : sp.c = st) (htb : x.heap[tb]? = some (.cells (thrObj rb num wk st vv ao false) 184 (2, 4))) (hrb : x.cell? (th rb 6) = some (.bool false)) (hne : rb ≠ tb)
    (hfree : Free x.heap.size C.Ch C.h x (standChair Post tb wk c cs))
    (hnext : ∀ (y : World) (g₂ : Goroutine) (kk : Nat), sp.home g₂ → y.heap[st]? = some (.chan 0 #[] false kk kk false) → x.heap.size ≤ y.heap.size → (∀ r, r ≠ tb → r < x.heap.size → y.heap[r]? = x.heap[r]?) → y.heap[tb]? = some (.cells (thrObj rb num wk st (.pointer pa) a false) 184 (2, 4)) →
      JG Try.prog Post { Ch := upd C.Ch C.h (some (standChair Post tb wk c cs)), h := p, d := 0, n := C.n, lo := C.lo, io := C.io } (Go.Conc.served g₂ unitV) (y.setChan st 0 #[] false (kk + 1) (kk + 1) false)) :
    JG Try.prog Post C (G (Frame.enter Try.prog 138 #[P0 tb, .pointer pa, .agg (accV a).toArray] .normal) (c :: cs)) x := by
  have hbu := build_unit
  have hlt : tb < x.heap.size := (Array.getElem?_eq_some_iff.1 htb).1
  have hrl : rb < x.heap.size := cell_lt (a := th rb 6) hrb
  have h0 : x.cell? (th tb 0) = some (P0 rb) := cell_obj htb 0
  refine enterN Try.func138 (by rfl) (by rfl) ?_
  simp only [Try.f138, Option.getD_some, accV]
  walk_nrm
  repeat first | refine JG.seq ?_ | refine JG.skip ?_ | refine JG.inBlock ?_ | refine JG.block ?_ | refine JG.done ?_ | refine JG.label ?_ | refine JG.condT rfl ?_ | refine JG.condF rfl ?_ | (refine JG.region ?_; simp only [List.size_toArray, List.length_cons, List.length_nil, Nat.reduceAdd, Nat.zero_add, List.range, List.range.loop]) | (refine JG.unwanted rfl (by rfl) ?_; try walk_nrm) | (refine jgo rfl rfl (by rfl) (by decide) (fun K E hK hE τ d => ?_); go_simp; refine hK _ _ (JG.tap ?_); clear hK hE K E τ d; try walk_nrm)
  refine jgo rfl rfl (by rfl) (by decide) (fun K E hK hE τ d => ?_)
  go_simp
  refine hK _ _ (JG.tap (x := x.alloc (.cells #[.int .i64 a.thread, .int .i8 a.op, .int .i64 a.cell, .int .i64 a.arg, .int .i64 a.new, .int .i64 a.was, .int .i64 a.now, .bool a.ok] 172)) ?_)
  simp only [under_size]
  clear hK hE K E τ d
  try walk_nrm
  obtain ⟨w, hw⟩ : ∃ w, w = x.alloc (.cells #[.int .i64 a.thread, .int .i8 a.op, .int .i64 a.cell, .int .i64 a.arg, .int .i64 a.new, .int .i64 a.was, .int .i64 a.now, .bool a.ok] 172) := ⟨_, rfl⟩
  have ws : w.heap.size = x.heap.size + 1 := by rw [hw]; simp
  have wn : w.heap[x.heap.size]? = some (.cells #[.int .i64 a.thread, .int .i8 a.op, .int .i64 a.cell, .int .i64 a.arg, .int .i64 a.new, .int .i64 a.was, .int .i64 a.now, .bool a.ok] 172 (0, 0)) := by rw [hw]; exact heap_alloc_new x _
  have wo : ∀ r, r < x.heap.size → w.heap[r]? = x.heap[r]? := fun r h => by rw [hw, heap_alloc', Array.getElem?_push, if_neg (by omega)]
  have wr : w.cell? (th rb 6) = some (.bool false) := by rw [hw]; exact cell_alloc_old hrb
  rw [← hw]
  clear hw
  have wt := (wo tb hlt).trans htb
  have w0 : w.cell? (th tb 0) = some (P0 rb) := cell_obj wt 0
  repeat first | refine JG.seq ?_ | refine JG.skip ?_ | refine JG.inBlock ?_ | refine JG.block ?_ | refine JG.done ?_ | refine JG.label ?_ | refine JG.condT rfl ?_ | refine JG.condF rfl ?_ | (refine JG.region ?_; simp only [List.size_toArray, List.length_cons, List.length_nil, Nat.reduceAdd, Nat.zero_add, List.range, List.range.loop]) | (refine JG.unwanted rfl (by rfl) ?_; try walk_nrm) | (refine jgo rfl rfl (by rfl) (by decide) (fun K E hK hE τ d => ?_); go_simp; refine hK _ _ (JG.tap ?_); clear hK hE K E τ d; try walk_nrm) | (refine jgo rfl rfl (by rfl) (by decide) (fun K E hK hE τ d => ?_); have hfact := (under_cell _ τ d _).trans (w0); go_simp; refine hK _ _ (JG.tap ?_); clear hfact hK hE K E τ d; try walk_nrm) | (refine jgo rfl rfl (by rfl) (by decide) (fun K E hK hE τ d => ?_); have hfact := (under_cell _ τ d _).trans (wr); go_simp; refine hK _ _ (JG.tap ?_); clear hfact hK hE K E τ d; try walk_nrm)
  refine JG.code (closedG _) (by kernel_rfl) rfl (.inr (by kernel_rfl)) rfl (fun K R hK hR τ => ?_)
  replace hK := Lib.hid hK
  clear hR
  obtain ⟨y, hy⟩ : ∃ y, y = under w τ 0 := ⟨_, rfl⟩
  have yh : y.heap = w.heap := by rw [hy]; rfl
  rw [← hy]
  clear hy
  have HW := Lib.hid wo
  have HS := Lib.hid ws
  rw [← yh] at wn wt
  have m0 : y.cell? (th x.heap.size 0) = some (.int .i64 a.thread) := cell_obj wn 0
  have m1 : y.cell? (th x.heap.size 1) = some (.int .i8 a.op) := cell_obj wn 1
  have m2 : y.cell? (th x.heap.size 2) = some (.int .i64 a.cell) := cell_obj wn 2
  have m3 : y.cell? (th x.heap.size 3) = some (.int .i64 a.arg) := cell_obj wn 3
  have m4 : y.cell? (th x.heap.size 4) = some (.int .i64 a.new) := cell_obj wn 4
  have m5 : y.cell? (th x.heap.size 5) = some (.int .i64 a.was) := cell_obj wn 5
  have m6 : y.cell? (th x.heap.size 6) = some (.int .i64 a.now) := cell_obj wn 6
  have m7 : y.cell? (th x.heap.size 7) = some (.bool a.ok) := cell_obj wn 7
  have n4 : y.frozen? (th tb 4) = false := by simp [World.frozen?, th, wt]
  have n5 : y.frozen? (th tb 5) = false := by simp [World.frozen?, th, wt]
  have n6 : y.frozen? (th tb 6) = false := by simp [World.frozen?, th, wt]
  have n7 : y.frozen? (th tb 7) = false := by simp [World.frozen?, th, wt]
  have n8 : y.frozen? (th tb 8) = false := by simp [World.frozen?, th, wt]
  have n9 : y.frozen? (th tb 9) = false := by simp [World.frozen?, th, wt]
  have n10 : y.frozen? (th tb 10) = false := by simp [World.frozen?, th, wt]
  have n11 : y.frozen? (th tb 11) = false := by simp [World.frozen?, th, wt]
  have n12 : y.frozen? (th tb 12) = false := by simp [World.frozen?, th, wt]
  have k4 : y.cell? (th tb 4) = some vv := cell_obj wt 4
  have k5 : y.cell? (th tb 5) = some (.int .i64 ao.thread) := cell_obj wt 5
  have k6 : y.cell? (th tb 6) = some (.int .i8 ao.op) := cell_obj wt 6
  have k7 : y.cell? (th tb 7) = some (.int .i64 ao.cell) := cell_obj wt 7
  have k8 : y.cell? (th tb 8) = some (.int .i64 ao.arg) := cell_obj wt 8
  have k9 : y.cell? (th tb 9) = some (.int .i64 ao.new) := cell_obj wt 9
  have k10 : y.cell? (th tb 10) = some (.int .i64 ao.was) := cell_obj wt 10
  have k11 : y.cell? (th tb 11) = some (.int .i64 ao.now) := cell_obj wt 11
  have k12 : y.cell? (th tb 12) = some (.bool ao.ok) := cell_obj wt 12
  have HT := Lib.hid wt
  have YH := Lib.hid yh
  have b0 : tb < y.heap.size := cell_lt (cell_obj wt 0)
  clear wt wn wo ws yh w0 wr
  go_region
  show K _ _
  refine hK.out _ _ ?_
  clear hK K m0 m1 m2 m3 m4 m5 m6 m7 n4 n5 n6 n7 n8 n9 n10 n11 n12 k4 k5 k6 k7 k8 k9 k10 k11 k12
  obtain ⟨u, hu⟩ : ∃ u, u = (((((((((y.setCell (th tb 4) (.pointer pa)).setCell (th tb 5) (.int .i64 a.thread)).setCell (th tb 6) (.int .i8 a.op)).setCell (th tb 7) (.int .i64 a.cell)).setCell (th tb 8) (.int .i64 a.arg)).setCell (th tb 9) (.int .i64 a.new)).setCell (th tb 10) (.int .i64 a.was)).setCell (th tb 11) (.int .i64 a.now)).setCell (th tb 12) (.bool a.ok)).drew := ⟨_, rfl⟩
  rw [← hu]
  have us : u.heap.size = x.heap.size + 1 := by
    rw [hu, heap_drew', size_set, size_set, size_set, size_set, size_set, size_set, size_set, size_set, size_set, YH.out]; exact HS.out
  have uo : ∀ r, r ≠ tb → r < x.heap.size → u.heap[r]? = x.heap[r]? := fun r h1 h2 => by
    rw [hu, heap_drew', heap_set_ne h1, heap_set_ne h1, heap_set_ne h1, heap_set_ne h1, heap_set_ne h1, heap_set_ne h1, heap_set_ne h1, heap_set_ne h1, heap_set_ne h1, YH.out]; exact HW.out r h2
  have ut : u.heap[tb]? = some (.cells (thrObj rb num wk st (.pointer pa) a false) 184 (2, 4)) := by
    rw [hu, heap_drew']
    rw [heap_set_self (heap_set_self (heap_set_self (heap_set_self (heap_set_self (heap_set_self (heap_set_self (heap_set_self (heap_set_self HT.out))))))))]
    simp only [thrObj, sets9]
  clear hu HT HW HS YH b0
  have u3 : u.cell? (th tb 3) = some (.chan (some st)) := cell_obj ut 3
  have u2 : u.cell? (th tb 2) = some (.chan (some wk)) := cell_obj ut 2
  have hfu : Free u.heap.size C.Ch C.h u (standChair Post tb wk c cs) := by
    obtain ⟨q, hq⟩ := hfree.open_
    have hwk : wk < x.heap.size := hfree.low
    have hwt : wk ≠ tb := by rintro rfl; exact absurd (htb.symm.trans hq) (by simp)
    exact ⟨by show wk < _; omega, ⟨q, (uo wk hwt hwk).trans hq⟩, hfree.own, fun ad v hv => by obtain ⟨rfl, rfl⟩ := hv; exact u2⟩
  try walk_nrm
  repeat first | refine JG.seq ?_ | refine JG.skip ?_ | refine JG.inBlock ?_ | refine JG.block ?_ | refine JG.done ?_ | refine JG.label ?_ | refine JG.condT rfl ?_ | refine JG.condF rfl ?_ | (refine JG.region ?_; simp only [List.size_toArray, List.length_cons, List.length_nil, Nat.reduceAdd, Nat.zero_add, List.range, List.range.loop]) | (refine JG.unwanted rfl (by rfl) ?_; try walk_nrm) | (refine jgo rfl rfl (by rfl) (by decide) (fun K E hK hE τ d => ?_); go_simp; refine hK _ _ (JG.tap ?_); clear hK hE K E τ d; try walk_nrm) | (refine jgo rfl rfl (by rfl) (by decide) (fun K E hK hE τ d => ?_); have hfact := (under_cell _ τ d _).trans (u3); go_simp; refine hK _ _ (JG.tap ?_); clear hfact hK hE K E τ d; try walk_nrm)
  refine JG.give (s := sp) (v := unitV) (z' := .tuple #[]) hd hp hsp rfl (by rfl) (by decide) (fun w => by simp [execOp, scase, Act.eval, hc]) (fun w => by simp [go_sem, execOp, Act.eval]) (some (standChair Post tb wk c cs)) (fun s' e => by obtain rfl := Option.some.inj e; exact hfu) (fun s' e ad v hv => by obtain rfl := Option.some.inj e; obtain ⟨rfl, rfl⟩ := hv; simp [World.frozen?, th, ut]) ?_ ?_
  · refine ⟨12, fun T' _ => ⟨tb + 1, by omega, .inl ⟨11, u, rfl, ?_⟩⟩⟩
    walk_nrm
    have hstill : (standChair Post tb wk c cs).Sl (.cell (th tb 2)) := ⟨_, _, rfl, rfl, rfl⟩
    k_c stepG_region_end
    k_reg
    refine Goes.step rfl (fun w₁ h₁ => ?_)
    refine goes_oper_k rfl rfl (by decide) (fun K hK => ?_)
    go_simp
    refine hK _ _ ⟨⟨rfl, fun e he => (by have hm := mem_listed he; simp [go_sem] at hm)⟩, ?_⟩
    clear hK K h₁
    try walk_nrm
    refine Goes.step rfl (fun w₁ h₁ => ?_)
    refine goes_oper_k rfl rfl (by decide) (fun K hK => ?_)
    go_simp
    refine hK _ _ ⟨⟨rfl, fun e he => (by have hm := mem_listed he; simp [go_sem] at hm)⟩, ?_⟩
    clear hK K h₁
    try walk_nrm
    refine Goes.step rfl (fun w₁ h₁ => ?_)
    refine goes_oper_k rfl rfl (by decide) (fun K hK => ?_)
    go_simp
    refine hK _ _ ⟨⟨rfl, fun e he => (by have hm := mem_listed he; simp [go_sem] at hm)⟩, ?_⟩
    clear hK K h₁
    try walk_nrm
    refine Goes.step rfl (fun w₁ h₁ => ?_)
    refine goes_oper_k rfl rfl (by decide) (fun K hK => ?_)
    have hfact := h₁ (th tb 2) _ ⟨rfl, rfl⟩
    go_simp
    refine hK _ _ ⟨⟨rfl, fun e he => (by have hm := mem_listed he; simp [go_sem, hfact] at hm; subst hm; exact evC_read _ hstill (by first | (simp; done) | (simp; omega)))⟩, ?_⟩
    clear hfact hK K h₁
    try walk_nrm
    refine Goes.stop (fun w₁ h₁ => ⟨_, atIn_of (s := (standChair Post tb wk c cs).seat) rfl rfl (by decide) (fun w => ?_) (fun w => by simp [go_sem, execOp, Act.eval]) ?_⟩)
    · have hz := zero_unit
      simp [go_sem, execOp, rcase, Act.eval, standChair, Chair.seat, Seat.one, hz]
    · intro C' z v rb' stops e0 e1 hf ht
      rw [served_at rfl]
      repeat first | refine JG.seq ?_ | refine JG.skip ?_ | refine JG.inBlock ?_ | refine JG.block ?_ | refine JG.done ?_ | refine JG.label ?_ | refine JG.condT rfl ?_ | refine JG.condF rfl ?_ | (refine JG.region ?_; simp only [List.size_toArray, List.length_cons, List.length_nil, Nat.reduceAdd, Nat.zero_add, List.range, List.range.loop]) | (refine JG.unwanted rfl (by rfl) ?_; try walk_nrm) | (refine jgo rfl rfl (by rfl) (by decide) (fun K E hK hE τ d => ?_); go_simp; refine hK _ _ (JG.tap ?_); clear hK hE K E τ d; try walk_nrm) | (refine jgo rfl rfl (by rfl) (by decide) (fun K E hK hE τ d => ?_); have hfact := (under_cell _ τ d _).trans (e0); go_simp; refine hK _ _ (JG.tap ?_); clear hfact hK hE K E τ d; try walk_nrm) | (refine jgo rfl rfl (by rfl) (by decide) (fun K E hK hE τ d => ?_); have hfact := (under_cell _ τ d _).trans (e1); go_simp; refine hK _ _ (JG.tap ?_); clear hfact hK hE K E τ d; try walk_nrm)
      cases stops with
      | false =>
        repeat first | refine JG.seq ?_ | refine JG.skip ?_ | refine JG.inBlock ?_ | refine JG.block ?_ | refine JG.done ?_ | refine JG.label ?_ | refine JG.condT rfl ?_ | refine JG.condF rfl ?_ | (refine JG.region ?_; simp only [List.size_toArray, List.length_cons, List.length_nil, Nat.reduceAdd, Nat.zero_add, List.range, List.range.loop]) | (refine JG.unwanted rfl (by rfl) ?_; try walk_nrm) | (refine jgo rfl rfl (by rfl) (by decide) (fun K E hK hE τ d => ?_); go_simp; refine hK _ _ (JG.tap ?_); clear hK hE K E τ d; try walk_nrm) | (refine jgo rfl rfl (by rfl) (by decide) (fun K E hK hE τ d => ?_); have hfact := (under_cell _ τ d _).trans (e0); go_simp; refine hK _ _ (JG.tap ?_); clear hfact hK hE K E τ d; try walk_nrm) | (refine jgo rfl rfl (by rfl) (by decide) (fun K E hK hE τ d => ?_); have hfact := (under_cell _ τ d _).trans (e1); go_simp; refine hK _ _ (JG.tap ?_); clear hfact hK hE K E τ d; try walk_nrm)
        refine JG.fin ?_
        exact JG.leave0 rfl rfl Try.func138 (by rfl) (hf rfl)
      | true =>
        repeat first | refine JG.seq ?_ | refine JG.skip ?_ | refine JG.inBlock ?_ | refine JG.block ?_ | refine JG.done ?_ | refine JG.label ?_ | refine JG.condT rfl ?_ | refine JG.condF rfl ?_ | (refine JG.region ?_; simp only [List.size_toArray, List.length_cons, List.length_nil, Nat.reduceAdd, Nat.zero_add, List.range, List.range.loop]) | (refine JG.unwanted rfl (by rfl) ?_; try walk_nrm) | (refine jgo rfl rfl (by rfl) (by decide) (fun K E hK hE τ d => ?_); go_simp; refine hK _ _ (JG.tap ?_); clear hK hE K E τ d; try walk_nrm) | (refine jgo rfl rfl (by rfl) (by decide) (fun K E hK hE τ d => ?_); have hfact := (under_cell _ τ d _).trans (e0); go_simp; refine hK _ _ (JG.tap ?_); clear hfact hK hE K E τ d; try walk_nrm) | (refine jgo rfl rfl (by rfl) (by decide) (fun K E hK hE τ d => ?_); have hfact := (under_cell _ τ d _).trans (e1); go_simp; refine hK _ _ (JG.tap ?_); clear hfact hK hE K E τ d; try walk_nrm)
        refine JG.panic (v := stopV) rfl (by rfl) (by decide) (fun w => by simp [go_sem, execOp, Act.eval]) (fun w => by simp [go_sem, execOp, Act.eval, Instr.panic]) ?_
        exact JG.raise rfl Try.func138 (ht rfl)
  · intro g₂ kk hg hcc
    rw [hc] at hcc ⊢
    exact hnext u g₂ kk hg hcc (by omega) uo ut
end Go.Proofs.Ytecmobjiepgfjaa
