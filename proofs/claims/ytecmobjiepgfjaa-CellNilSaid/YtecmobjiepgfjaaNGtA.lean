/- A thread is let go, up to where it stands: gate's goes, said of whoever holds. -/
import Derived.Test.YtecmobjiepgfjaaNTkF
import Derived.Test.YtecmobjiepgfjaaProg
import Derived.Conc.TokenWords
import Derived.Tactics2
import Derived.RegionTactic
namespace Go.Proofs.Ytecmobjiepgfjaa
open Go.Conc Go.RowKit
open Go.ConcN (upd upd_same upd_ne)
set_option linter.unusedSimpArgs false
set_option linter.unusedVariables false
set_option maxRecDepth 100000
def F0 : Fns := { fn := fun _ => false, maps := false, top := fun _ => false, ext := fun _ => false }
theorem stands0 {P : Program} : Stands P F0 := ⟨fun f h => (by cases h), fun f h => (by cases h)⟩
theorem jgo {P : Program} {Post : Value → World → Prop} {C : Ctx} {x : World} {b : Frame} {a : Act} {k : List Item} {cs : List Frame} {ops : Array Oper} {i : Nat} {rest : List Nat} {o : Oper} (hm : mild F0 o.op = true) (ho : ops[i]? = some o) (hw : Region.wanted o (yielded ops a.tmps) = true) (hk : b.kind ≠ .early)
    (h : ∀ K E, (∀ a' y, JG P Post C (G (b.at a' (.inRegion ops rest :: k)) cs) y → K a' y) → (∀ f args y, JG P Post C (G (Frame.enter P f args .normal) (b.at a (.inRegion ops (i :: rest) :: k) :: cs)) y → E f args y) → ∀ τ d, uponE o a K E ((execOp a.eval o).run P (under x τ d))) :
    JG P Post C (G (b.at a (.inRegion ops (i :: rest) :: k)) cs) x := JG.op (F := F0) stands0 (fun h => by cases h) hm ho hw hk h
theorem enterN {P : Program} {Post : Value → World → Prop} {C : Ctx} {cs : List Frame} {x : World} {f : FuncId} {fn : Func} {c : Code} {args : Array Value} {nt : Nat} (hf : P.funcs[f]? = some fn) (hb : fn.body = some c) (hn : fn.ntmps = nt)
    (h : JG P Post C (G ((base f).at ⟨args ++ Array.replicate (nt - args.size) undef, []⟩ [.code c]) cs) x) : JG P Post C (G (Frame.enter P f args .normal) cs) x := by
  rw [enter_at args hf hb, hn]; exact h
theorem under_setCell (x : World) (τ : Nat → Question → Nat) (d : Nat) (a : Addr) (v : Value) : (under x τ d).setCell a v = under (x.setCell a v) τ d := rfl
theorem under_cell (x : World) (τ : Nat → Question → Nat) (d : Nat) (a : Addr) : (under x τ d).cell? a = x.cell? a := rfl
theorem under_frozen (x : World) (τ : Nat → Question → Nat) (d : Nat) (a : Addr) : (under x τ d).frozen? a = x.frozen? a := rfl
theorem under_size (x : World) (τ : Nat → Question → Nat) (d : Nat) : (under x τ d).heap.size = x.heap.size := rfl
abbrev th (tb k : Nat) : Addr := ⟨tb, k, none⟩
abbrev unitV : Value := .agg #[]
theorem build_unit (w : World) : (Instr.build 68 #[]).run Try.prog w = .ok (.agg #[]) w := run_build w _ _ _ (by kernel_rfl)
theorem zero_unit (w : World) : (zeroValue 68).run Try.prog w = .ok (.agg #[]) w := by
  have h : (Try.prog.info? 68).bind (fun i => i.zero) = some (.agg #[]) := by kernel_rfl
  obtain ⟨i, hi, hz⟩ := Option.bind_eq_some_iff.1 h
  simp [zeroValue, typeInfo, hi, hz]
theorem JG.leave0 {P : Program} {Post : Value → World → Prop} {C : Ctx} {x : World} {b : Frame} {a : Act} {c : Frame} {cs : List Frame} {fn : Func} {todo : List Item} (hk : b.kind = .normal) (hd : a.defers = []) (hf : P.funcs[b.fn]? = some fn) (hr : fn.results = #[])
    (h : JG P Post C (G (c.finish (.tuple #[])) cs) x) : JG P Post C (G { b.at a todo with mode := .returning } (c :: cs)) x := JG.leave hk hd hf (fun τ d => results_none hr _ P _) h
/-- What becomes of whoever waits in goes: served, it comes back to its caller. -/
def BackTo (Post : Value → World → Prop) (c : Frame) (cs : List Frame) (g : Goroutine) : Prop := ∀ (C : Ctx) (x : World) (v : Value), JG Try.prog Post C (G (c.finish (.tuple #[])) cs) x → JG Try.prog Post C (Go.Conc.served g v) x
/-- The chair of one who has let a thread go: at its channel stood. -/
def goesChair (Post : Value → World → Prop) (tb st : Nat) (c : Frame) (cs : List Frame) : Chair := { c := st, z := unitV, kn := fun a v => a = th tb 3 ∧ v = .chan (some st), home := BackTo Post c cs }
theorem goes_J {Post : Value → World → Prop} {C : Ctx} {x : World} {c : Frame} {cs : List Frame} {tb st j : Nat} {sj : Chair} (hd : C.d = 0) (hjh : j ≠ C.h) (hj : C.Ch j = some sj) (h1 : x.cell? (th tb 2) = some (.chan (some sj.c))) (h2 : x.cell? (th tb 3) = some (.chan (some st)))
    (hst : Free x.heap.size C.Ch C.h x (goesChair Post tb st c cs)) (hfr : x.frozen? (th tb 3) = true)
    (hnext : ∀ g₂ kk, sj.home g₂ → x.heap[sj.c]? = some (.chan 0 #[] false kk kk false) → JG Try.prog Post { Ch := upd C.Ch C.h (some (goesChair Post tb st c cs)), h := j, d := 0, n := C.n, lo := C.lo, io := C.io } (Go.Conc.served g₂ unitV) (x.setChan sj.c 0 #[] false (kk + 1) (kk + 1) false)) :
    JG Try.prog Post C (G (Frame.enter Try.prog 132 #[.pointer (some ⟨tb, 0, none⟩)] .normal) (c :: cs)) x := by
  have hbu := build_unit
  have hlt : tb < x.heap.size := cell_lt h1
  refine enterN Try.func132 (by rfl) (by rfl) ?_
  simp only [Try.f132, Option.getD_some]
  walk_nrm
  refine JG.seq ?_
  refine JG.region ?_
  simp only [List.size_toArray, List.length_cons, List.length_nil, Nat.reduceAdd, Nat.zero_add, List.range, List.range.loop]
  refine jgo rfl rfl (by rfl) (by decide) (fun K E hK hE τ d => ?_)
  go_simp
  refine hK _ _ (JG.tap ?_)
  clear hK hE K E τ d
  try walk_nrm
  refine jgo rfl rfl (by rfl) (by decide) (fun K E hK hE τ d => ?_)
  go_simp
  refine hK _ _ (JG.tap ?_)
  clear hK hE K E τ d
  try walk_nrm
  refine jgo rfl rfl (by rfl) (by decide) (fun K E hK hE τ d => ?_)
  go_simp
  refine hK _ _ (JG.tap ?_)
  clear hK hE K E τ d
  try walk_nrm
  refine jgo rfl rfl (by rfl) (by decide) (fun K E hK hE τ d => ?_)
  have hfact := (under_cell _ τ d _).trans (h1)
  go_simp
  refine hK _ _ (JG.tap ?_)
  clear hfact hK hE K E τ d
  try walk_nrm
  refine jgo rfl rfl (by rfl) (by decide) (fun K E hK hE τ d => ?_)
  go_simp
  refine hK _ _ (JG.tap ?_)
  clear hK hE K E τ d
  try walk_nrm
  refine JG.give (s := sj) (v := unitV) (z' := .tuple #[]) hd hjh hj rfl (by rfl) (by decide) (fun w => by simp [execOp, scase, Act.eval]) (fun w => by simp [go_sem, execOp, Act.eval]) (some (goesChair Post tb st c cs)) (fun s' e => by obtain rfl := Option.some.inj e; exact hst) (fun s' e ad v hv => by obtain rfl := Option.some.inj e; obtain ⟨rfl, rfl⟩ := hv; exact hfr) ?_ hnext
  refine ⟨12, fun T' _ => ⟨tb + 1, by omega, .inl ⟨11, x, rfl, ?_⟩⟩⟩
  walk_nrm
  have hstill : (goesChair Post tb st c cs).Sl (.cell (th tb 3)) := ⟨_, _, rfl, rfl, rfl⟩
  k_c stepG_region_end
  k_reg
  refine Goes.step rfl (fun w₁ h₁ => ?_)
  refine goes_oper_k rfl rfl (by decide) (fun K hK => ?_)
  go_simp
  refine hK _ _ ⟨⟨rfl, fun e he => (by have hm := mem_listed he; simp [go_sem] at hm)⟩, ?_⟩
  clear hK K h₁
  try walk_nrm
  refine Goes.step rfl (fun w₁ h₁ => ?_)
  refine goes_oper_k rfl rfl (by decide) (fun K hK => ?_)
  go_simp
  refine hK _ _ ⟨⟨rfl, fun e he => (by have hm := mem_listed he; simp [go_sem] at hm)⟩, ?_⟩
  clear hK K h₁
  try walk_nrm
  refine Goes.step rfl (fun w₁ h₁ => ?_)
  refine goes_oper_k rfl rfl (by decide) (fun K hK => ?_)
  go_simp
  refine hK _ _ ⟨⟨rfl, fun e he => (by have hm := mem_listed he; simp [go_sem] at hm)⟩, ?_⟩
  clear hK K h₁
  try walk_nrm
  refine Goes.step rfl (fun w₁ h₁ => ?_)
  refine goes_oper_k rfl rfl (by decide) (fun K hK => ?_)
  have hfact := h₁ (th tb 3) _ ⟨rfl, rfl⟩
  go_simp
  refine hK _ _ ⟨⟨rfl, fun e he => (by have hm := mem_listed he; simp [go_sem, hfact] at hm; subst hm; exact evC_read _ hstill (by first | (simp; done) | (simp; omega)))⟩, ?_⟩
  clear hfact hK K h₁
  try walk_nrm
  refine Goes.stop (fun w₁ h₁ => ⟨_, atIn_of (s := (goesChair Post tb st c cs).seat) rfl rfl (by decide) (fun w => ?_) (fun w => by simp [go_sem, execOp, Act.eval]) ?_⟩)
  · have hz := zero_unit
    simp [go_sem, execOp, rcase, Act.eval, goesChair, Chair.seat, Seat.one, hz]
  · intro C' y v hback
    rw [served_at rfl]
    refine JG.done (JG.fin ?_)
    exact JG.leave0 rfl rfl Try.func132 (by rfl) hback
end Go.Proofs.Ytecmobjiepgfjaa
