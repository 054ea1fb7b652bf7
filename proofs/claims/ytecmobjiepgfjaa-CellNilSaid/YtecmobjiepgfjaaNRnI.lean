/- Joined of the texts RnH, RnI; what each proves, and its conditions, stand ahead of it. -/
import Derived.Test.YtecmobjiepgfjaaNRnB
/- A thread's goroutine again, with what becomes of it when it is stopped. -/
namespace Go.Proofs.Ytecmobjiepgfjaa
open Go.Conc Go.RowKit
open Go.ConcN (upd upd_same upd_ne)
set_option linter.unusedSimpArgs false
set_option linter.unusedVariables false
set_option maxRecDepth 100000
/-- What is asked for a thread's end when the run has stopped. -/
structure StopsOK (Post : Value → World → Prop) (rv tv tb st : Nat) (C : Ctx) (x : World) : Prop where
  go : ∃ p sp b0 rb, C.d = 0 ∧ 0 < C.h ∧ p ≠ C.h ∧ C.Ch p = some sp ∧ sp.c = st ∧ x.cell? (th rv 0) = some (P0 rb) ∧ x.cell? (th rb 6) = some (.bool true) ∧ x.cell? (th tv 0) = some (P0 tb) ∧ x.cell? (th tb 3) = some (.chan (some st)) ∧ x.cell? (th tb 13) = some (.bool b0) ∧ x.frozen? (th tb 13) = false ∧
    ∀ g₂ kk, sp.home g₂ → x.heap[st]? = some (.chan 0 #[] false kk kk false) → JG Try.prog Post { Ch := upd C.Ch C.h none, h := p, d := 0, n := C.n, lo := C.lo, io := C.io } (Go.Conc.served g₂ unitV) ((x.setCell (th tb 13) (.bool true)).setChan st 0 #[] false (kk + 1) (kk + 1) false)
/-- The frame that has called the body, when the thread is stopped: how it goes on. -/
def AfterStop (Post : Value → World → Prop) (rv tv tb st : Nat) (c : Frame) : Prop := ∀ (C : Ctx) (x : World), StopsOK Post rv tv tb st C x → JG Try.prog Post C (G (c.raise [{ v := stopV, recovered := false }]) [rootF Try.prog]) x
theorem after_stop {Post : Value → World → Prop} {rv tv tb st : Nat} (tmps : Array Value) (ops : Array Oper) (i : Nat) :
    AfterStop Post rv tv tb st ((baseD 151).at ⟨tmps, [{ target := .fn (.func 152) #[P0 rv, P0 tv], args := #[] }]⟩ [.inRegion ops [i]]) := by
  intro C x h
  obtain ⟨p, sp, b0, rb, hd, hh, hp, hsp, hc, er, e6, e1, e3, e13, f13, hnext⟩ := h.go
  have hbu := build_unit
  refine JG.unwind (b := baseD 151) (a := ⟨tmps, [{ target := .fn (.func 152) #[P0 rv, P0 tv], args := #[] }]⟩) (m := .panicking [{ v := stopV, recovered := false }]) (by simp) rfl rfl Try.func152 (by rfl) (by rfl) ?_
  generalize hcf : ({ (baseD 151).at ⟨tmps, []⟩ [.inRegion ops [i]] with mode := .panicking [{ v := stopV, recovered := false }] } : Frame) = cf
  have hcm : cf.mode = .panicking [{ v := stopV, recovered := false }] := by rw [← hcf]
  refine enterD Try.func152 (by rfl) (by rfl) ?_
  simp only [Try.f152, Option.getD_some]
  walk_nrm
  repeat first | refine JG.seq ?_ | refine JG.skip ?_ | refine JG.inBlock ?_ | refine JG.block ?_ | refine JG.done ?_ | refine JG.label ?_
  refine JG.region ?_
  simp only [List.size_toArray, List.length_cons, List.length_nil, Nat.reduceAdd, Nat.zero_add, List.range, List.range.loop]
  refine JG.recover1 (v := stopV) (cs' := { cf with mode := .panicking [{ v := stopV, recovered := true }] } :: [rootF Try.prog]) rfl (by rfl) (by decide) (fun w => by simp [go_sem, execOp, Act.eval, resolve, Deferred.ofValue]) (fun w => by simp [go_sem, execOp, Act.eval, resolve, Deferred.ofValue]) (by simp [tryRecover, Frame.at, baseD, hcm]) ?_
  try walk_nrm
  repeat first | refine JG.seq ?_ | refine JG.skip ?_ | refine JG.inBlock ?_ | refine JG.block ?_ | refine JG.done ?_ | refine JG.label ?_ | refine JG.condT rfl ?_ | refine JG.condF rfl ?_ | (refine JG.region ?_; simp only [List.size_toArray, List.length_cons, List.length_nil, Nat.reduceAdd, Nat.zero_add, List.range, List.range.loop]) | (refine JG.unwanted rfl (by rfl) ?_; try walk_nrm) | (refine jgo rfl rfl (by rfl) (by decide) (fun K E hK hE τ d => ?_); go_simp; refine hK _ _ (JG.tap ?_); clear hK hE K E τ d; try walk_nrm) | (refine jgo rfl rfl (by rfl) (by decide) (fun K E hK hE τ d => ?_); have hfact := (under_cell _ τ d _).trans (er); go_simp; refine hK _ _ (JG.tap ?_); clear hfact hK hE K E τ d; try walk_nrm) | (refine jgo rfl rfl (by rfl) (by decide) (fun K E hK hE τ d => ?_); have hfact := (under_cell _ τ d _).trans (e6); go_simp; refine hK _ _ (JG.tap ?_); clear hfact hK hE K E τ d; try walk_nrm) | (refine jgo rfl rfl (by rfl) (by decide) (fun K E hK hE τ d => ?_); have hfact := (under_cell _ τ d _).trans (e1); go_simp; refine hK _ _ (JG.tap ?_); clear hfact hK hE K E τ d; try walk_nrm)
  refine jgo rfl rfl (by rfl) (by decide) (fun K E hK hE τ d => ?_)
  obtain ⟨hfact, hfact2⟩ := And.intro e13 f13
  replace hfact := (under_cell _ τ d _).trans hfact
  replace hfact2 := (under_frozen _ τ d _).trans hfact2
  go_simp
  refine hK _ _ ?_
  rw [under_setCell]
  refine JG.tap ?_
  clear hfact hfact2 hK hE K E τ d
  try walk_nrm
  repeat first | refine JG.seq ?_ | refine JG.skip ?_ | refine JG.inBlock ?_ | refine JG.block ?_ | refine JG.done ?_ | refine JG.label ?_
  refine JG.region ?_
  simp only [List.size_toArray, List.length_cons, List.length_nil, Nat.reduceAdd, Nat.zero_add, List.range, List.range.loop]
  have k1 : (x.setCell (th tb 13) (.bool true)).cell? (th tv 0) = some (P0 tb) := cell_setCell_ne (by simp [th]) e1
  have k3 : (x.setCell (th tb 13) (.bool true)).cell? (th tb 3) = some (.chan (some st)) := cell_setCell_ne (by simp [th]) e3
  refine jgo rfl rfl (by rfl) (by decide) (fun K E hK hE τ d => ?_)
  have hfact := (under_cell _ τ d _).trans (k1)
  go_simp
  refine hK _ _ (JG.tap ?_)
  clear hfact hK hE K E τ d
  try walk_nrm
  refine jgo rfl rfl (by rfl) (by decide) (fun K E hK hE τ d => ?_)
  go_simp
  refine hK _ _ (JG.tap ?_)
  clear hK hE K E τ d
  try walk_nrm
  refine jgo rfl rfl (by rfl) (by decide) (fun K E hK hE τ d => ?_)
  go_simp
  refine hK _ _ (JG.tap ?_)
  clear hK hE K E τ d
  try walk_nrm
  refine jgo rfl rfl (by rfl) (by decide) (fun K E hK hE τ d => ?_)
  have hfact := (under_cell _ τ d _).trans (k3)
  go_simp
  refine hK _ _ (JG.tap ?_)
  clear hfact hK hE K E τ d
  try walk_nrm
  refine jgo rfl rfl (by rfl) (by decide) (fun K E hK hE τ d => ?_)
  go_simp
  refine hK _ _ (JG.tap ?_)
  clear hK hE K E τ d
  try walk_nrm
  refine JG.give (s := sp) (v := unitV) (z' := .tuple #[]) hd hp hsp rfl (by rfl) (by decide) (fun w => by simp [execOp, scase, Act.eval, hc]) (fun w => by simp [go_sem, execOp, Act.eval]) none (fun s' e => by cases e) (fun s' e => by cases e) ?_ ?_
  · refine ⟨5, fun T' hT' => ⟨hh, ?_⟩⟩
    rw [hT']
    refine .ctl rfl (fun w => stepG_region_end) ?_
    refine .ctl rfl (fun w => stepG_end) ?_
    refine .ctl rfl (fun w => stepG_leaveD rfl rfl Try.func152 (by rfl)) ?_
    have hb : behindDeferred { cf with mode := .panicking [{ v := stopV, recovered := true }] } = { cf with mode := .returning } := by simp [behindDeferred]
    rw [hb, ← hcf]
    refine .ctl rfl (fun w => stepG_leaveD (b := baseD 151) (a := ⟨tmps, []⟩) rfl rfl Try.func151 (by rfl)) ?_
    exact quits_root
  · intro g₂ kk hg hcc
    rw [hc] at hcc ⊢
    refine hnext g₂ kk hg ?_
    rw [heap_setCell] at hcc
    cases e : x.heap[st]? with
    | none => rw [e] at hcc; cases hcc
    | some oo =>
      rw [e] at hcc
      simp only [Option.map_some, Option.some.injEq] at hcc
      split at hcc
      · cases oo <;> first | (cases hcc; done) | exact congrArg some hcc
      · exact congrArg some hcc
/-- A thread that waits for its first turn: served, it calls its body. -/
def BodyHome2 (Post : Value → World → Prop) (rv tv fv tb st : Nat) (g : Goroutine) : Prop := ∀ (C : Ctx) (x : World) (v : Value) (fb : FuncId) (cap : Array Value), HasBody fb → x.cell? (th fv 0) = some (.func (.func fb) #[] cap) → x.cell? (th tv 0) = some (P0 tb) →
  (∀ c, AfterBody Post rv tv tb st c → AfterStop Post rv tv tb st c → JG Try.prog Post C (G (Frame.enter Try.prog fb (#[P0 tb] ++ cap) .normal) [c, rootF Try.prog]) x) → JG Try.prog Post C (Go.Conc.served g v) x
def bornChair2 (Post : Value → World → Prop) (rv tv fv tb wk st : Nat) : Chair := { c := wk, z := unitV, kn := fun a v => (a = th tv 0 ∧ v = P0 tb) ∨ (a = th tb 2 ∧ v = .chan (some wk)), home := BodyHome2 Post rv tv fv tb st }
theorem born_sits2 {Post : Value → World → Prop} {rv tv fv tb wk st B i : Nat} (hi : 0 < i) (hB : max tv tb < B) : ∃ nc, SitC Try.prog B i (bornChair2 Post rv tv fv tb wk st) nc (born Try.prog (bornD rv tv fv)) := by
  have hi0 : (i == 0) = false := by simp; omega
  have hz := zero_unit
  refine ⟨16, max tv tb + 1, by omega, .inl ⟨15, default, rfl, ?_⟩⟩
  rw [hi0]
  refine Goes.step rfl fun w₁ h₁ => ?_
  rw [stepG_born (d := bornD rv tv fv) rfl Try.func151 (by rfl) (by rfl)]
  refine ⟨ds_none _, ?_⟩
  rw [enter_atD (c := Try.f151.body.getD .skip) _ Try.func151 (by rfl)]
  simp only [Try.f151, Option.getD_some, bornD]
  walk_nrm
  have hs1 : (bornChair2 Post rv tv fv tb wk st).Sl (.cell (th tv 0)) := ⟨_, _, rfl, .inl ⟨rfl, rfl⟩⟩
  have hs2 : (bornChair2 Post rv tv fv tb wk st).Sl (.cell (th tb 2)) := ⟨_, _, rfl, .inr ⟨rfl, rfl⟩⟩
  k_c stepG_seq
  k_reg
  refine Goes.step rfl (fun w₁ h₁ => ?_)
  refine goes_oper_k rfl rfl (by decide) (fun K hK => ?_)
  go_simp
  refine hK _ _ ⟨⟨rfl, fun e he => (by have hm := mem_listed he; simp [go_sem, Instr.makeFunc] at hm)⟩, ?_⟩
  clear hK K h₁
  try walk_nrm
  refine Goes.step rfl fun w₁ h₁ => ?_
  rw [stepG_defer1 (d := { target := .fn (.func 152) #[P0 rv, P0 tv], args := #[] }) rfl rfl (by decide) (fun w => by simp [go_sem, execOp, Act.eval, resolve, Deferred.ofValue]) (fun w => by simp [go_sem, execOp, Act.eval, resolve, Deferred.ofValue])]
  refine ⟨ds_none _, ?_⟩
  try walk_nrm
  k_c stepG_region_end
  k_c stepG_seq
  k_reg
  have hstill := hs1
  refine Goes.step rfl (fun w₁ h₁ => ?_)
  refine goes_oper_k rfl rfl (by decide) (fun K hK => ?_)
  have hfact := h₁ (th tv 0) _ (.inl ⟨rfl, rfl⟩)
  go_simp
  refine hK _ _ ⟨⟨rfl, fun e he => (by have hm := mem_listed he; simp [go_sem, hfact] at hm; subst hm; exact evC_read _ hstill (by first | (simp; done) | (simp; omega)))⟩, ?_⟩
  clear hfact hK K h₁
  try walk_nrm
  clear hstill
  refine Goes.step rfl (fun w₁ h₁ => ?_)
  refine goes_oper_k rfl rfl (by decide) (fun K hK => ?_)
  go_simp
  refine hK _ _ ⟨⟨rfl, fun e he => (by have hm := mem_listed he; simp [go_sem] at hm)⟩, ?_⟩
  clear hK K h₁
  try walk_nrm
  refine Goes.step rfl (fun w₁ h₁ => ?_)
  refine goes_oper_k rfl rfl (by decide) (fun K hK => ?_)
  go_simp
  refine hK _ _ ⟨⟨rfl, fun e he => (by have hm := mem_listed he; simp [go_sem] at hm)⟩, ?_⟩
  clear hK K h₁
  try walk_nrm
  have hstill := hs2
  refine Goes.step rfl (fun w₁ h₁ => ?_)
  refine goes_oper_k rfl rfl (by decide) (fun K hK => ?_)
  have hfact := h₁ (th tb 2) _ (.inr ⟨rfl, rfl⟩)
  go_simp
  refine hK _ _ ⟨⟨rfl, fun e he => (by have hm := mem_listed he; simp [go_sem, hfact] at hm; subst hm; exact evC_read _ hstill (by first | (simp; done) | (simp; omega)))⟩, ?_⟩
  clear hfact hK K h₁
  try walk_nrm
  refine Goes.stop (fun w₁ h₁ => ⟨_, atIn_of (s := (bornChair2 Post rv tv fv tb wk st).seat) rfl rfl (by decide) (fun w => ?_) (fun w => by simp [go_sem, execOp, Act.eval]) ?_⟩)
  · simp [go_sem, execOp, rcase, Act.eval, bornChair2, Chair.seat, Seat.one, hz]
  · intro C x v fb cap hfb e1 e2 hbody
    rw [served_at rfl]
    refine JG.done (JG.seq ?_)
    walk_nrm
    refine JG.region ?_
    simp only [List.size_toArray, List.length_cons, List.length_nil, Nat.reduceAdd, Nat.zero_add, List.range, List.range.loop]
    refine jgo rfl rfl (by rfl) (by decide) (fun K E hK hE τ d => ?_)
    have hfact := (under_cell _ τ d _).trans (e1)
    go_simp
    refine hK _ _ (JG.tap ?_)
    clear hfact hK hE K E τ d
    try walk_nrm
    refine jgo rfl rfl (by rfl) (by decide) (fun K E hK hE τ d => ?_)
    go_simp
    refine hK _ _ (JG.tap ?_)
    clear hK hE K E τ d
    try walk_nrm
    refine JG.done (JG.condT rfl ?_)
    refine JG.region ?_
    simp only [List.size_toArray, List.length_cons, List.length_nil, Nat.reduceAdd, Nat.zero_add, List.range, List.range.loop]
    refine jgo rfl rfl (by rfl) (by decide) (fun K E hK hE τ d => ?_)
    have hfact := (under_cell _ τ d _).trans (e1)
    go_simp
    refine hK _ _ (JG.tap ?_)
    clear hfact hK hE K E τ d
    try walk_nrm
    refine jgo rfl rfl (by rfl) (by decide) (fun K E hK hE τ d => ?_)
    have hfact := (under_cell _ τ d _).trans (e2)
    go_simp
    refine hK _ _ (JG.tap ?_)
    clear hfact hK hE K E τ d
    try walk_nrm
    refine JG.call (f := fb) (args := #[P0 tb] ++ cap) rfl (by rfl) (by decide) (fun w => ?_) (fun w => ?_) ?_
    · obtain ⟨fn, h1, h2, h3⟩ := hfb
      have h4 : ¬ fn.name = "runtime.NumGoroutine" := by simpa using h2
      have h5 : ¬ fn.body = none := by intro e; rw [e] at h3; cases h3
      simp [go_sem, execOp, Act.eval, resolve, Deferred.ofValue, invoke, callFunc, h1, h4, h5]
    · obtain ⟨fn, h1, h2, h3⟩ := hfb
      have h4 : ¬ fn.name = "runtime.NumGoroutine" := by simpa using h2
      have h5 : ¬ fn.body = none := by intro e; rw [e] at h3; cases h3
      simp [go_sem, execOp, Act.eval, resolve, Deferred.ofValue, invoke, callFunc, h1, h4, h5]
    · exact hbody _ (after_body _ _ _) (after_stop _ _ _)
end Go.Proofs.Ytecmobjiepgfjaa
/- A thread is begun, whatever its body. -/
namespace Go.Proofs.Ytecmobjiepgfjaa
open Go.Conc Go.RowKit
open Go.ConcN (upd upd_same upd_ne)
set_option linter.unusedSimpArgs false
set_option linter.unusedVariables false
set_option maxRecDepth 100000
set_option maxHeartbeats 1000000 in
theorem begin_r4 {Post : Value → World → Prop} {C : Ctx} {y : World} {c : Frame} {cs : List Frame} {N rb rv fv tv tb n wk st fb : Nat} {cap : Array Value} {vf u6 u7 u8 u9 u10 u11 u12 u13 u14 u16 u17 u18 u19 u20 u21 u22 u23 u24 u25 u26 u27 u28 u29 u30 u31 u32 u33 u34 : Value}
    (hd : C.d = 0) (hh : C.h < C.n) (hlo : C.lo ≤ N) (hbd : HasBody fb) (hvf : vf = .func (.func fb) #[] cap)
    (hfv : y.heap[fv]? = some (.cells #[vf] 40 (0, 0))) (htv : y.heap[tv]? = some (.cells #[P0 tb] 33 (0, 0))) (htb : y.heap[tb]? = some (.cells (newThread rb n wk st) 184 (0, 0)))
    (hwk : y.heap[wk]? = some (.chan 0 #[] false 0 0 false)) (hst : y.heap[st]? = some (.chan 0 #[] false 0 0 false)) (hne : wk ≠ st) (hN : N ≤ fv ∧ N ≤ tv ∧ N ≤ tb ∧ N ≤ wk ∧ N ≤ st)
    (hown : ∀ i s, i ≠ C.h → C.Ch i = some s → s.c ≠ wk ∧ s.c ≠ st) (hnone : C.Ch C.n = none)
    (hbody : ∀ (z0 : World) (cb : Frame) (sp sb : Chair), sp.c = st → (∀ g, sp.home g → ∀ (C2 : Ctx) (z2 : World) (v : Value), z2.cell? (th tv 0) = some (P0 tb) → JG Try.prog Post C2 (G (c.finish (P0 tb)) cs) z2 → JG Try.prog Post C2 (Go.Conc.served g v) z2) →
      AfterBody Post rv tv tb st cb → AfterStop Post rv tv tb st cb → (∀ r, r ≠ tv → r ≠ tb → r ≠ wk → z0.heap[r]? = y.heap[r]?) → z0.heap.size = y.heap.size → z0.heap[tv]? = some (.cells #[P0 tb] 33 (0, 1)) → z0.heap[tb]? = some (.cells (newThread rb n wk st) 184 (2, 4)) →
      (∃ k, z0.heap[wk]? = some (.chan 0 #[] false k k false)) → JG Try.prog Post { Ch := upd (upd C.Ch C.n (some sb)) C.h (some sp), h := C.n, d := 0, n := C.n + 1, lo := C.lo, io := C.io } (G (Frame.enter Try.prog fb (#[P0 tb] ++ cap) .normal) [cb, rootF Try.prog]) z0) :
    JG Try.prog Post C (G ((base 130).at ⟨#[P0 rb, vf, P0 rv, P0 fv, .pointer none, P0 tv, u6, u7, u8, u9, u10, u11, u12, u13, u14, P0 tb, u16, u17, u18, u19, u20, u21, u22, u23, u24, u25, u26, u27, u28, u29, u30, u31, u32, u33, u34, undef, undef, undef, undef], []⟩ [.code (Code.from (Try.f130.body.getD .skip) 4)]) (c :: cs)) y := by
  simp only [Try.f130, Option.getD_some, Code.from]
  have b1 : tv ≠ tb := by rintro rfl; rw [htv] at htb; simp [newThread] at htb
  have b2 : fv ≠ tv := by rintro rfl; rw [hfv] at htv; simp [hvf] at htv
  have b3 : fv ≠ tb := by rintro rfl; rw [hfv] at htb; simp [newThread] at htb
  have b4 : wk ≠ tv := by rintro rfl; rw [hwk] at htv; cases htv
  have b5 : wk ≠ tb := by rintro rfl; rw [hwk] at htb; cases htb
  have b6 : wk ≠ fv := by rintro rfl; rw [hwk] at hfv; cases hfv
  have b7 : st ≠ tv := by rintro rfl; rw [hst] at htv; cases htv
  have b8 : st ≠ tb := by rintro rfl; rw [hst] at htb; cases htb
  have b9 : st ≠ fv := by rintro rfl; rw [hst] at hfv; cases hfv
  refine JG.freeze (ad := th tv 0) (n := 1) (Nat.le_trans hlo hN.2.1) (JG.freeze (ad := th tb 2) (n := 2) (Nat.le_trans hlo hN.2.2.1) ?_)
  obtain ⟨z, hz⟩ : ∃ z, z = (y.freeze (th tv 0) 1).freeze (th tb 2) 2 := ⟨_, rfl⟩
  rw [← hz]
  have hzo : ∀ r, r ≠ tv → r ≠ tb → z.heap[r]? = y.heap[r]? := fun r h1 h2 => by rw [hz, heap_frz_ne h2, heap_frz_ne h1]
  have hzs : z.heap.size = y.heap.size := by rw [hz, size_frz, size_frz]
  have ztv : z.heap[tv]? = some (.cells #[P0 tb] 33 (0, 1)) := by rw [hz, heap_frz_ne b1]; exact heap_frz (by decide) htv
  have ztb : z.heap[tb]? = some (.cells (newThread rb n wk st) 184 (2, 4)) := by rw [hz]; exact heap_frz (by decide) (by rw [heap_frz_ne b1.symm]; exact htb)
  have zwk : z.heap[wk]? = some (.chan 0 #[] false 0 0 false) := by rw [hzo wk b4 b5]; exact hwk
  have zst : z.heap[st]? = some (.chan 0 #[] false 0 0 false) := by rw [hzo st b7 b8]; exact hst
  have zfv : z.heap[fv]? = some (.cells #[vf] 40 (0, 0)) := by rw [hzo fv b2 b3]; exact hfv
  clear hz
  have hlt : ∀ r o, z.heap[r]? = some o → r < z.heap.size := fun r o h => (Array.getElem?_eq_some_iff.1 h).1
  repeat first | refine JG.seq ?_ | refine JG.skip ?_ | refine JG.inBlock ?_ | refine JG.block ?_ | refine JG.done ?_ | refine JG.label ?_
  refine JG.region ?_
  simp only [List.size_toArray, List.length_cons, List.length_nil, Nat.reduceAdd, Nat.zero_add, List.range, List.range.loop]
  refine jgo rfl rfl (by rfl) (by decide) (fun K E hK hE τ d => ?_)
  go_simp
  refine hK _ _ (JG.tap ?_)
  clear hK hE K E τ d
  try walk_nrm
  refine JG.hire (d := bornD rv tv fv) (f := .func 151) (c := #[P0 rv, P0 tv, P0 fv]) hd rfl (by rfl) (by decide) (fun w => by simp [go_sem, execOp, Act.eval, resolve, Deferred.ofValue, bornD]) rfl (fun w => by simp [go_sem, execOp, Act.eval, resolve, Deferred.ofValue])
    (bornChair2 Post rv tv fv tb wk st) ⟨hlt _ _ zwk, ⟨0, zwk⟩, fun i s h1 h2 => (hown i s h1 h2).1, ?_⟩ ?_ ?_ ?_
  · rintro a v (⟨rfl, rfl⟩ | ⟨rfl, rfl⟩)
    · rw [cell_obj ztv]; rfl
    · rw [cell_obj ztb]; rfl
  · rintro a v (⟨rfl, rfl⟩ | ⟨rfl, rfl⟩)
    · simp [World.frozen?, th, ztv]
    · simp [World.frozen?, th, ztb]
  · exact born_sits2 (by omega) (by have := hlt _ _ ztv; have := hlt _ _ ztb; omega)
  try walk_nrm
  repeat first | refine JG.seq ?_ | refine JG.skip ?_ | refine JG.inBlock ?_ | refine JG.block ?_ | refine JG.done ?_ | refine JG.label ?_
  refine JG.region ?_
  simp only [List.size_toArray, List.length_cons, List.length_nil, Nat.reduceAdd, Nat.zero_add, List.range, List.range.loop]
  refine jgo rfl rfl (by rfl) (by decide) (fun K E hK hE τ d => ?_)
  have hfact := (under_cell _ τ d _).trans ((show z.cell? (th tv 0) = some (P0 tb) by rw [cell_obj ztv]; rfl))
  go_simp
  refine hK _ _ (JG.tap ?_)
  clear hfact hK hE K E τ d
  try walk_nrm
  refine JG.call (f := 132) (args := #[P0 tb]) rfl (by rfl) (by decide) (fun w => ?_) (fun w => ?_) ?_
  iterate 2 (focus obtain ⟨fn, h1, h2, h3⟩ : HasBody 132 := ⟨_, Try.func132, by kernel_rfl, by kernel_rfl⟩; have h4 : ¬ fn.name = "runtime.NumGoroutine" := (by simpa using h2); have h5 : ¬ fn.body = none := (by intro e; rw [e] at h3; cases h3); simp [go_sem, execOp, Act.eval, resolve, Deferred.ofValue, invoke, callFunc, h1, h4, h5])
  have hnh : C.n ≠ C.h := by omega
  refine goes_J (j := C.n) (sj := bornChair2 Post rv tv fv tb wk st) (st := st) rfl hnh (upd_same _ _ _) (by rw [cell_obj ztb]; rfl) (by rw [cell_obj ztb]; rfl) ⟨hlt _ _ zst, ⟨0, zst⟩, fun i s h1 h2 => ?_, ?_⟩ (by simp [World.frozen?, th, ztb]) ?_
  · by_cases hi : i = C.n
    · subst hi
      have h2 := (upd_same _ _ _).symm.trans h2
      obtain rfl := Option.some.inj h2
      exact hne
    · exact (hown i s h1 ((upd_ne C.Ch _ hi).symm.trans h2)).2
  · rintro a v ⟨rfl, rfl⟩
    rw [cell_obj ztb]; rfl
  intro g₂ kk hg hcc
  obtain ⟨z0, hz0⟩ : ∃ z0, z0 = z.setChan wk 0 #[] false (kk + 1) (kk + 1) false := ⟨_, rfl⟩
  change JG _ _ _ _ (z.setChan wk 0 #[] false (kk + 1) (kk + 1) false)
  rw [← hz0]
  have h0 : ∀ r, r ≠ wk → z0.heap[r]? = z.heap[r]? := fun r h => by rw [hz0]; exact heap_chan_ne h
  have s0 : z0.heap.size = z.heap.size := by rw [hz0, size_chan]
  have hwk0 : z0.heap[wk]? = some (.chan 0 #[] false (kk + 1) (kk + 1) false) := by
    have hl : wk < z.heap.size := hlt _ _ zwk
    rw [hz0]; simp [World.setChan, hl]
  clear hz0 hcc
  have otv := (h0 tv b4.symm).trans ztv
  have otb := (h0 tb b5.symm).trans ztb
  have ofv := (h0 fv b6.symm).trans zfv
  have ost := (h0 st hne.symm).trans zst
  have t0 : z0.cell? (th tv 0) = some (P0 tb) := by rw [cell_obj otv]; rfl
  refine hg _ z0 unitV fb cap hbd (by rw [cell_obj ofv, hvf]; rfl) t0 fun cb hcb hcs => ?_
  refine hbody z0 cb _ _ rfl (fun g hg' C2 z2 v e2 h2 => ?_) hcb hcs (fun r h1 h2 h3 => by rw [h0 r h3, hzo r h1 h2]) (by rw [s0, hzs]) otv otb ⟨kk + 1, hwk0⟩
  refine hg' C2 z2 v ?_
  rw [Frame.finish_at]
  repeat first | refine JG.seq ?_ | refine JG.skip ?_ | refine JG.inBlock ?_ | refine JG.block ?_ | refine JG.done ?_ | refine JG.label ?_
  walk_nrm
  refine JG.region ?_
  simp only [List.size_toArray, List.length_cons, List.length_nil, Nat.reduceAdd, Nat.zero_add, List.range, List.range.loop]
  refine jgo rfl rfl (by rfl) (by decide) (fun K E hK hE τ d => ?_)
  have hfact := (under_cell _ τ d _).trans (e2)
  go_simp
  refine hK _ _ (JG.tap ?_)
  clear hfact hK hE K E τ d
  try walk_nrm
  refine jgo rfl rfl (by rfl) (by decide) (fun K E hK hE τ d => ?_)
  go_simp
  refine hK _ _ (JG.tap ?_)
  clear hK hE K E τ d
  try walk_nrm
  repeat first | refine JG.seq ?_ | refine JG.skip ?_ | refine JG.inBlock ?_ | refine JG.block ?_ | refine JG.done ?_ | refine JG.label ?_
  refine JG.ret ?_
  exact JG.leave rfl rfl Try.func130 (fun τ d => results_tmp (t := 4) rfl _ _ _) h2
end Go.Proofs.Ytecmobjiepgfjaa
