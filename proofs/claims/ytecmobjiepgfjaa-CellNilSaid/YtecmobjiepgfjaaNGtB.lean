/- A thread's goroutine: from its birth to its first receive; served, it calls its body; behind the body it says that it has ended. -/
import Derived.Test.YtecmobjiepgfjaaNGtA
namespace Go.Proofs.Ytecmobjiepgfjaa
open Go.Conc Go.RowKit
open Go.ConcN (upd upd_same upd_ne)
set_option linter.unusedSimpArgs false
set_option linter.unusedVariables false
set_option maxRecDepth 100000
theorem enterD {P : Program} {Post : Value → World → Prop} {C : Ctx} {cs : List Frame} {x : World} {f : FuncId} {fn : Func} {c : Code} {args : Array Value} {nt : Nat} (hf : P.funcs[f]? = some fn) (hb : fn.body = some c) (hn : fn.ntmps = nt)
    (h : JG P Post C (G ((baseD f).at ⟨args ++ Array.replicate (nt - args.size) undef, []⟩ [.code c]) cs) x) : JG P Post C (G (Frame.enter P f args .deferred) cs) x := by
  rw [enter_atD args hf hb, hn]; exact h
abbrev P0 (b : Nat) : Value := .pointer (some ⟨b, 0, none⟩)
/-- The call that a thread's goroutine is born with. -/
def bornD (rv tv fv : Nat) : Deferred := { target := .fn (.func 151) #[P0 rv, P0 tv, P0 fv], args := #[] }
/-- What is asked for a thread's end. -/
structure EndsOK (Post : Value → World → Prop) (rv tv tb st : Nat) (C : Ctx) (x : World) : Prop where
  go : ∃ p sp b0, C.d = 0 ∧ 0 < C.h ∧ p ≠ C.h ∧ C.Ch p = some sp ∧ sp.c = st ∧ x.cell? (th tv 0) = some (P0 tb) ∧ x.cell? (th tb 3) = some (.chan (some st)) ∧ x.cell? (th tb 13) = some (.bool b0) ∧ x.frozen? (th tb 13) = false ∧
    ∀ g₂ kk, sp.home g₂ → x.heap[st]? = some (.chan 0 #[] false kk kk false) → JG Try.prog Post { Ch := upd C.Ch C.h none, h := p, d := 0, n := C.n, lo := C.lo, io := C.io } (Go.Conc.served g₂ unitV) ((x.setCell (th tb 13) (.bool true)).setChan st 0 #[] false (kk + 1) (kk + 1) false)
/-- The frame that has called the body: how it goes on. -/
def AfterBody (Post : Value → World → Prop) (rv tv tb st : Nat) (c : Frame) : Prop := ∀ (C : Ctx) (x : World) (v : Value), EndsOK Post rv tv tb st C x → JG Try.prog Post C (G (c.finish v) [rootF Try.prog]) x
/-- A function with a text of its own. -/
def HasBody (fb : FuncId) : Prop := ∃ fn, Try.prog.funcs[fb]? = some fn ∧ (fn.name == "runtime.NumGoroutine") = false ∧ fn.body.isNone = false
/-- A thread that waits for its first turn: served, it calls its body. -/
def BodyHome (Post : Value → World → Prop) (rv tv fv tb st : Nat) (g : Goroutine) : Prop := ∀ (C : Ctx) (x : World) (v : Value) (fb : FuncId) (cap : Array Value), HasBody fb → x.cell? (th fv 0) = some (.func (.func fb) #[] cap) → x.cell? (th tv 0) = some (P0 tb) →
  (∀ c, AfterBody Post rv tv tb st c → JG Try.prog Post C (G (Frame.enter Try.prog fb (#[P0 tb] ++ cap) .normal) [c, rootF Try.prog]) x) → JG Try.prog Post C (Go.Conc.served g v) x
theorem put_defers (a : Act) (dst : Option Tmp) (v : Value) : ∃ tmps, a.put dst v = ⟨tmps, a.defers⟩ := by
  obtain ⟨t, ds⟩ := a
  cases dst with
  | none => exact ⟨t, rfl⟩
  | some d => exact ⟨t.setIfInBounds d v, rfl⟩
theorem after_body {Post : Value → World → Prop} {rv tv tb st : Nat} (tmps : Array Value) (ops : Array Oper) (i : Nat) :
    AfterBody Post rv tv tb st ((baseD 151).at ⟨tmps, [{ target := .fn (.func 152) #[P0 rv, P0 tv], args := #[] }]⟩ [.inRegion ops [i]]) := by
  intro C x v h
  obtain ⟨p, sp, b0, hd, hh, hp, hsp, hc, e1, e3, e13, f13, hnext⟩ := h.go
  have hbu := build_unit
  rw [Frame.finish_at]
  obtain ⟨t', et⟩ := put_defers ⟨tmps, [{ target := .fn (.func 152) #[P0 rv, P0 tv], args := #[] }]⟩ ((ops[i]?).bind (·.dst)) v
  rw [et]
  refine JG.done (JG.fin ?_)
  refine JG.unwind (m := .returning) (by simp) rfl rfl Try.func152 (by rfl) (by rfl) ?_
  generalize hcf : ({ (baseD 151).at ⟨t', []⟩ [] with mode := .returning } : Frame) = cf
  have hcm : cf.mode = .returning := by rw [← hcf]
  refine enterD Try.func152 (by rfl) (by rfl) ?_
  simp only [Try.f152, Option.getD_some]
  walk_nrm
  repeat first | refine JG.seq ?_ | refine JG.skip ?_ | refine JG.inBlock ?_ | refine JG.block ?_ | refine JG.done ?_ | refine JG.label ?_
  refine JG.region ?_
  simp only [List.size_toArray, List.length_cons, List.length_nil, Nat.reduceAdd, Nat.zero_add, List.range, List.range.loop]
  refine JG.recover0 rfl (by rfl) (by decide) (fun w => by simp [go_sem, execOp, Act.eval, resolve, Deferred.ofValue]) (fun w => by simp [go_sem, execOp, Act.eval, resolve, Deferred.ofValue]) (by simp [tryRecover, Frame.at, baseD, hcm]) ?_
  try walk_nrm
  refine jgo rfl rfl (by rfl) (by decide) (fun K E hK hE τ d => ?_)
  go_simp
  refine hK _ _ (JG.tap ?_)
  clear hK hE K E τ d
  try walk_nrm
  repeat first | refine JG.seq ?_ | refine JG.skip ?_ | refine JG.inBlock ?_ | refine JG.block ?_ | refine JG.done ?_ | refine JG.label ?_
  refine JG.region ?_
  simp only [List.size_toArray, List.length_cons, List.length_nil, Nat.reduceAdd, Nat.zero_add, List.range, List.range.loop]
  refine jgo rfl rfl (by rfl) (by decide) (fun K E hK hE τ d => ?_)
  go_simp
  refine hK _ _ (JG.tap ?_)
  clear hK hE K E τ d
  try walk_nrm
  refine jgo rfl rfl (by rfl) (by decide) (fun K E hK hE τ d => ?_)
  go_simp
  refine hK _ _ (JG.tap ?_)
  clear hK hE K E τ d
  try walk_nrm
  refine jgo rfl rfl (by rfl) (by decide) (fun K E hK hE τ d => ?_)
  go_simp
  refine hK _ _ (JG.tap ?_)
  clear hK hE K E τ d
  try walk_nrm
  refine JG.unwanted rfl (by rfl) ?_
  try walk_nrm
  refine JG.unwanted rfl (by rfl) ?_
  try walk_nrm
  refine JG.unwanted rfl (by rfl) ?_
  try walk_nrm
  refine JG.unwanted rfl (by rfl) ?_
  try walk_nrm
  refine JG.unwanted rfl (by rfl) ?_
  try walk_nrm
  refine jgo rfl rfl (by rfl) (by decide) (fun K E hK hE τ d => ?_)
  go_simp
  refine hK _ _ (JG.tap ?_)
  clear hK hE K E τ d
  try walk_nrm
  repeat first | refine JG.seq ?_ | refine JG.skip ?_ | refine JG.inBlock ?_ | refine JG.block ?_ | refine JG.done ?_ | refine JG.label ?_
  refine JG.condF rfl ?_
  repeat first | refine JG.seq ?_ | refine JG.skip ?_ | refine JG.inBlock ?_ | refine JG.block ?_ | refine JG.done ?_ | refine JG.label ?_
  refine JG.region ?_
  simp only [List.size_toArray, List.length_cons, List.length_nil, Nat.reduceAdd, Nat.zero_add, List.range, List.range.loop]
  refine jgo rfl rfl (by rfl) (by decide) (fun K E hK hE τ d => ?_)
  have hfact := (under_cell _ τ d _).trans (e1)
  go_simp
  refine hK _ _ (JG.tap ?_)
  clear hfact hK hE K E τ d
  try walk_nrm
  refine jgo rfl rfl (by rfl) (by decide) (fun K E hK hE τ d => ?_)
  go_simp
  refine hK _ _ (JG.tap ?_)
  clear hK hE K E τ d
  try walk_nrm
  refine jgo rfl rfl (by rfl) (by decide) (fun K E hK hE τ d => ?_)
  go_simp
  refine hK _ _ (JG.tap ?_)
  clear hK hE K E τ d
  try walk_nrm
  refine jgo rfl rfl (by rfl) (by decide) (fun K E hK hE τ d => ?_)
  obtain ⟨hfact, hfact2⟩ := And.intro e13 f13
  replace hfact := (under_cell _ τ d _).trans hfact
  replace hfact2 := (under_frozen _ τ d _).trans hfact2
  go_simp
  refine hK _ _ ?_
  rw [under_setCell]
  refine JG.tap ?_
  clear hfact hfact2 hK hE K E τ d
  try walk_nrm
  repeat first | refine JG.seq ?_ | refine JG.skip ?_ | refine JG.inBlock ?_ | refine JG.block ?_ | refine JG.done ?_ | refine JG.label ?_
  refine JG.region ?_
  simp only [List.size_toArray, List.length_cons, List.length_nil, Nat.reduceAdd, Nat.zero_add, List.range, List.range.loop]
  have hne : (th tb 13) ≠ (th tb 3) := by simp [th]
  have hne2 : (th tb 13).block ≠ tv ∨ tv = tb := by by_cases e : tv = tb; exact .inr e; exact .inl fun h => e h.symm
  have k1 : (x.setCell (th tb 13) (.bool true)).cell? (th tv 0) = some (P0 tb) := cell_setCell_ne (by simp [th]) e1
  have k3 : (x.setCell (th tb 13) (.bool true)).cell? (th tb 3) = some (.chan (some st)) := cell_setCell_ne (by simp [th]) e3
  refine jgo rfl rfl (by rfl) (by decide) (fun K E hK hE τ d => ?_)
  have hfact := (under_cell _ τ d _).trans (k1)
  go_simp
  refine hK _ _ (JG.tap ?_)
  clear hfact hK hE K E τ d
  try walk_nrm
  refine jgo rfl rfl (by rfl) (by decide) (fun K E hK hE τ d => ?_)
  go_simp
  refine hK _ _ (JG.tap ?_)
  clear hK hE K E τ d
  try walk_nrm
  refine jgo rfl rfl (by rfl) (by decide) (fun K E hK hE τ d => ?_)
  go_simp
  refine hK _ _ (JG.tap ?_)
  clear hK hE K E τ d
  try walk_nrm
  refine jgo rfl rfl (by rfl) (by decide) (fun K E hK hE τ d => ?_)
  have hfact := (under_cell _ τ d _).trans (k3)
  go_simp
  refine hK _ _ (JG.tap ?_)
  clear hfact hK hE K E τ d
  try walk_nrm
  refine jgo rfl rfl (by rfl) (by decide) (fun K E hK hE τ d => ?_)
  go_simp
  refine hK _ _ (JG.tap ?_)
  clear hK hE K E τ d
  try walk_nrm
  refine JG.give (s := sp) (v := unitV) (z' := .tuple #[]) hd hp hsp rfl (by rfl) (by decide) (fun w => by simp [execOp, scase, Act.eval, hc]) (fun w => by simp [go_sem, execOp, Act.eval]) none (fun s' e => by cases e) (fun s' e => by cases e) ?_ ?_
  · refine ⟨5, fun T' hT' => ⟨hh, ?_⟩⟩
    rw [hT']
    refine .ctl rfl (fun w => stepG_region_end) ?_
    refine .ctl rfl (fun w => stepG_end) ?_
    refine .ctl rfl (fun w => stepG_leaveD rfl rfl Try.func152 (by rfl)) ?_
    have hb : behindDeferred cf = cf := by simp [behindDeferred, hcm]
    rw [hb, ← hcf]
    refine .ctl rfl (fun w => stepG_leaveD rfl rfl Try.func151 (by rfl)) ?_
    exact quits_root
  · intro g₂ kk hg hcc
    rw [hc] at hcc ⊢
    refine hnext g₂ kk hg ?_
    rw [heap_setCell] at hcc
    cases e : x.heap[st]? with
    | none => rw [e] at hcc; cases hcc
    | some oo =>
      rw [e] at hcc
      simp only [Option.map_some, Option.some.injEq] at hcc
      split at hcc
      · cases oo <;> first | (cases hcc; done) | exact congrArg some hcc
      · exact congrArg some hcc
def bornChair (Post : Value → World → Prop) (rv tv fv tb wk st : Nat) : Chair := { c := wk, z := unitV, kn := fun a v => (a = th tv 0 ∧ v = P0 tb) ∨ (a = th tb 2 ∧ v = .chan (some wk)), home := BodyHome Post rv tv fv tb st }
theorem born_sits {Post : Value → World → Prop} {rv tv fv tb wk st B i : Nat} (hi : 0 < i) (hB : max tv tb < B) : ∃ nc, SitC Try.prog B i (bornChair Post rv tv fv tb wk st) nc (born Try.prog (bornD rv tv fv)) := by
  have hi0 : (i == 0) = false := by simp; omega
  have hz := zero_unit
  refine ⟨16, max tv tb + 1, by omega, .inl ⟨15, default, rfl, ?_⟩⟩
  rw [hi0]
  refine Goes.step rfl fun w₁ h₁ => ?_
  rw [stepG_born (d := bornD rv tv fv) rfl Try.func151 (by rfl) (by rfl)]
  refine ⟨ds_none _, ?_⟩
  rw [enter_atD (c := Try.f151.body.getD .skip) _ Try.func151 (by rfl)]
  simp only [Try.f151, Option.getD_some, bornD]
  walk_nrm
  have hs1 : (bornChair Post rv tv fv tb wk st).Sl (.cell (th tv 0)) := ⟨_, _, rfl, .inl ⟨rfl, rfl⟩⟩
  have hs2 : (bornChair Post rv tv fv tb wk st).Sl (.cell (th tb 2)) := ⟨_, _, rfl, .inr ⟨rfl, rfl⟩⟩
  k_c stepG_seq
  k_reg
  refine Goes.step rfl (fun w₁ h₁ => ?_)
  refine goes_oper_k rfl rfl (by decide) (fun K hK => ?_)
  go_simp
  refine hK _ _ ⟨⟨rfl, fun e he => (by have hm := mem_listed he; simp [go_sem, Instr.makeFunc] at hm)⟩, ?_⟩
  clear hK K h₁
  try walk_nrm
  refine Goes.step rfl fun w₁ h₁ => ?_
  rw [stepG_defer1 (d := { target := .fn (.func 152) #[P0 rv, P0 tv], args := #[] }) rfl rfl (by decide) (fun w => by simp [go_sem, execOp, Act.eval, resolve, Deferred.ofValue]) (fun w => by simp [go_sem, execOp, Act.eval, resolve, Deferred.ofValue])]
  refine ⟨ds_none _, ?_⟩
  try walk_nrm
  k_c stepG_region_end
  k_c stepG_seq
  k_reg
  have hstill := hs1
  refine Goes.step rfl (fun w₁ h₁ => ?_)
  refine goes_oper_k rfl rfl (by decide) (fun K hK => ?_)
  have hfact := h₁ (th tv 0) _ (.inl ⟨rfl, rfl⟩)
  go_simp
  refine hK _ _ ⟨⟨rfl, fun e he => (by have hm := mem_listed he; simp [go_sem, hfact] at hm; subst hm; exact evC_read _ hstill (by first | (simp; done) | (simp; omega)))⟩, ?_⟩
  clear hfact hK K h₁
  try walk_nrm
  clear hstill
  refine Goes.step rfl (fun w₁ h₁ => ?_)
  refine goes_oper_k rfl rfl (by decide) (fun K hK => ?_)
  go_simp
  refine hK _ _ ⟨⟨rfl, fun e he => (by have hm := mem_listed he; simp [go_sem] at hm)⟩, ?_⟩
  clear hK K h₁
  try walk_nrm
  refine Goes.step rfl (fun w₁ h₁ => ?_)
  refine goes_oper_k rfl rfl (by decide) (fun K hK => ?_)
  go_simp
  refine hK _ _ ⟨⟨rfl, fun e he => (by have hm := mem_listed he; simp [go_sem] at hm)⟩, ?_⟩
  clear hK K h₁
  try walk_nrm
  have hstill := hs2
  refine Goes.step rfl (fun w₁ h₁ => ?_)
  refine goes_oper_k rfl rfl (by decide) (fun K hK => ?_)
  have hfact := h₁ (th tb 2) _ (.inr ⟨rfl, rfl⟩)
  go_simp
  refine hK _ _ ⟨⟨rfl, fun e he => (by have hm := mem_listed he; simp [go_sem, hfact] at hm; subst hm; exact evC_read _ hstill (by first | (simp; done) | (simp; omega)))⟩, ?_⟩
  clear hfact hK K h₁
  try walk_nrm
  refine Goes.stop (fun w₁ h₁ => ⟨_, atIn_of (s := (bornChair Post rv tv fv tb wk st).seat) rfl rfl (by decide) (fun w => ?_) (fun w => by simp [go_sem, execOp, Act.eval]) ?_⟩)
  · simp [go_sem, execOp, rcase, Act.eval, bornChair, Chair.seat, Seat.one, hz]
  · intro C x v fb cap hfb e1 e2 hbody
    rw [served_at rfl]
    refine JG.done (JG.seq ?_)
    walk_nrm
    refine JG.region ?_
    simp only [List.size_toArray, List.length_cons, List.length_nil, Nat.reduceAdd, Nat.zero_add, List.range, List.range.loop]
    refine jgo rfl rfl (by rfl) (by decide) (fun K E hK hE τ d => ?_)
    have hfact := (under_cell _ τ d _).trans (e1)
    go_simp
    refine hK _ _ (JG.tap ?_)
    clear hfact hK hE K E τ d
    try walk_nrm
    refine jgo rfl rfl (by rfl) (by decide) (fun K E hK hE τ d => ?_)
    go_simp
    refine hK _ _ (JG.tap ?_)
    clear hK hE K E τ d
    try walk_nrm
    refine JG.done (JG.condT rfl ?_)
    refine JG.region ?_
    simp only [List.size_toArray, List.length_cons, List.length_nil, Nat.reduceAdd, Nat.zero_add, List.range, List.range.loop]
    refine jgo rfl rfl (by rfl) (by decide) (fun K E hK hE τ d => ?_)
    have hfact := (under_cell _ τ d _).trans (e1)
    go_simp
    refine hK _ _ (JG.tap ?_)
    clear hfact hK hE K E τ d
    try walk_nrm
    refine jgo rfl rfl (by rfl) (by decide) (fun K E hK hE τ d => ?_)
    have hfact := (under_cell _ τ d _).trans (e2)
    go_simp
    refine hK _ _ (JG.tap ?_)
    clear hfact hK hE K E τ d
    try walk_nrm
    refine JG.call (f := fb) (args := #[P0 tb] ++ cap) rfl (by rfl) (by decide) (fun w => ?_) (fun w => ?_) ?_
    · obtain ⟨fn, h1, h2, h3⟩ := hfb
      have h4 : ¬ fn.name = "runtime.NumGoroutine" := by simpa using h2
      have h5 : ¬ fn.body = none := by intro e; rw [e] at h3; cases h3
      simp [go_sem, execOp, Act.eval, resolve, Deferred.ofValue, invoke, callFunc, h1, h4, h5]
    · obtain ⟨fn, h1, h2, h3⟩ := hfb
      have h4 : ¬ fn.name = "runtime.NumGoroutine" := by simpa using h2
      have h5 : ¬ fn.body = none := by intro e; rw [e] at h3; cases h3
      simp [go_sem, execOp, Act.eval, resolve, Deferred.ofValue, invoke, callFunc, h1, h4, h5]
    · exact hbody _ (after_body _ _ _)
end Go.Proofs.Ytecmobjiepgfjaa
