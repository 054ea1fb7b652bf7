/- The race detector's words under J: deaf, hearing again; acquire, release. -/
import Derived.Test.YtecmobjiepgfjaaNTkF
import Derived.Conc.MarkLaws
namespace Go.Proofs.Ytecmobjiepgfjaa
open Go.Conc
set_option linter.unusedSimpArgs false
set_option linter.unusedVariables false
section
variable {P : Program} {Post : Value → World → Prop} {C : Ctx} {x : World} {b : Frame} {a : Act} {k : List Item} {cs : List Frame} {ops : Array Oper} {i : Nat} {rest : List Nat} {o : Oper}
theorem ev_mark {S : Prot} {B : Nat} {m : Mark} (h1 : ∀ a, m ≠ .read a ∧ m ≠ .write a) (h2 : (MemAct.ofEvent ⟨.mark m, false, true⟩).low B) : ∀ e ∈ #[(⟨.mark m, false, true⟩ : Event)], EvT S B e := fun e h => by
  have h := List.mem_singleton.1 (by simpa using h : e ∈ [(⟨.mark m, false, true⟩ : Event)])
  subst h
  refine ⟨fun h => ?_, fun h => ?_, fun m' e a => ?_, h2⟩
  · cases h
  · cases h
  · obtain rfl := Loc.mark.inj e; exact h1 a
theorem JG.mark0 {m : Mark} {f : FuncId} {fn : Func} {ats : Array TypeId} {as : Array Operand} (hm : (∀ g, m ≠ .extern g) ∧ (∀ a, m ≠ .read a ∧ m ≠ .write a) ∧ ∀ B, (MemAct.ofEvent ⟨.mark m, false, true⟩).low B) (ho : ops[i]? = some o) (hw : Region.wanted o (yielded ops a.tmps) = true) (hk : b.kind ≠ .early)
    (hop : o.op = .call { callee := .value (.func f), args := as, argTypes := ats })
    (hf : P.funcs[f]? = some fn) (hname : (fn.name == "runtime.NumGoroutine") = false) (hb : fn.body.isNone = true) (hn : Extern.findNext fn = none)
    (he : Extern.find fn = some (fun _ => do mark m; pure Extern.Race.none_))
    (h : JG P Post { C with d := deafBehind C.d #[⟨.mark m, false, true⟩] } (G (b.at (a.put o.dst (.tuple #[])) (.inRegion ops rest :: k)) cs) x) :
    JG P Post C (G (b.at a (.inRegion ops (i :: rest) :: k)) cs) x := fun w hT =>
  J.step rfl fun n => ⟨_, w.at n, _, stepG_mark0 m hm.1 ho hw hk hop hf hname hb hn he, ev_mark hm.2.1 (hm.2.2 _), Nat.le_refl _, ⟨fun _ _ _ h => h, fun _ _ _ h _ => h⟩, rfl, (h w hT).at n⟩
theorem JG.markAt {mk : Addr → Mark} {ad : Addr} {f : FuncId} {fn : Func} {ats : Array TypeId} {as : Array Operand} (hm : (∀ ad g, mk ad ≠ .extern g) ∧ (∀ ad a, mk ad ≠ .read a ∧ mk ad ≠ .write a) ∧ (∀ ad, mk ad ≠ .disable ∧ mk ad ≠ .enable) ∧ ∀ ad B, ad.block < B → (MemAct.ofEvent ⟨.mark (mk ad), false, true⟩).low B) (ho : ops[i]? = some o) (hw : Region.wanted o (yielded ops a.tmps) = true) (hk : b.kind ≠ .early)
    (hop : o.op = .call { callee := .value (.func f), args := as, argTypes := ats })
    (hf : P.funcs[f]? = some fn) (hname : (fn.name == "runtime.NumGoroutine") = false) (hb : fn.body.isNone = true) (hn : Extern.findNext fn = none)
    (he : Extern.find fn = some (Extern.Race.marked mk)) (hx : (as.map a.eval)[0]? = some (.pointer (some ad))) (hlt : ad.block < x.heap.size)
    (h : JG P Post C (G (b.at (a.put o.dst (.tuple #[])) (.inRegion ops rest :: k)) cs) x) :
    JG P Post C (G (b.at a (.inRegion ops (i :: rest) :: k)) cs) x := fun w hT =>
  J.step rfl fun n => ⟨_, w.at n, _, stepG_markAt mk hm.1 ho hw hk hop hf hname hb hn he hx, ev_mark (hm.2.1 ad) (hm.2.2.2 ad _ (by rw [hT.size] at hlt; exact hlt)), Nat.le_refl _, ⟨fun _ _ _ h => h, fun _ _ _ h _ => h⟩, rfl, by
    have hd : deafBehind C.d #[⟨.mark (mk ad), false, true⟩] = C.d := deafBehind_still (fun e h => by
      have h := List.mem_singleton.1 (by simpa using h : e ∈ [(⟨.mark (mk ad), false, true⟩ : Event)])
      subst h
      exact ⟨fun e => (hm.2.2.1 ad).1 (Loc.mark.inj e), fun e => (hm.2.2.1 ad).2 (Loc.mark.inj e)⟩) _
    rw [hd]; exact (h w hT).at n⟩
theorem JG.disable {f : FuncId} {fn : Func} {ats : Array TypeId} {as : Array Operand} (ho : ops[i]? = some o) (hw : Region.wanted o (yielded ops a.tmps) = true) (hk : b.kind ≠ .early)
    (hop : o.op = .call { callee := .value (.func f), args := as, argTypes := ats })
    (hf : P.funcs[f]? = some fn) (hname : (fn.name == "runtime.NumGoroutine") = false) (hb : fn.body.isNone = true) (hn : Extern.findNext fn = none)
    (he : Extern.find fn = some (fun _ => do mark .disable; pure Extern.Race.none_))
    (h : JG P Post { C with d := C.d + 1 } (G (b.at (a.put o.dst (.tuple #[])) (.inRegion ops rest :: k)) cs) x) : JG P Post C (G (b.at a (.inRegion ops (i :: rest) :: k)) cs) x :=
  JG.mark0 (m := .disable) ⟨fun g h => (by cases h), fun a => ⟨fun h => (by cases h), fun h => (by cases h)⟩, fun B => (by simp [MemAct.ofEvent, MemAct.low])⟩ ho hw hk hop hf hname hb hn he h
theorem JG.enable {f : FuncId} {fn : Func} {ats : Array TypeId} {as : Array Operand} (ho : ops[i]? = some o) (hw : Region.wanted o (yielded ops a.tmps) = true) (hk : b.kind ≠ .early)
    (hop : o.op = .call { callee := .value (.func f), args := as, argTypes := ats })
    (hf : P.funcs[f]? = some fn) (hname : (fn.name == "runtime.NumGoroutine") = false) (hb : fn.body.isNone = true) (hn : Extern.findNext fn = none)
    (he : Extern.find fn = some (fun _ => do mark .enable; pure Extern.Race.none_))
    (h : JG P Post { C with d := C.d - 1 } (G (b.at (a.put o.dst (.tuple #[])) (.inRegion ops rest :: k)) cs) x) : JG P Post C (G (b.at a (.inRegion ops (i :: rest) :: k)) cs) x :=
  JG.mark0 (m := .enable) ⟨fun g h => (by cases h), fun a => ⟨fun h => (by cases h), fun h => (by cases h)⟩, fun B => (by simp [MemAct.ofEvent, MemAct.low])⟩ ho hw hk hop hf hname hb hn he h
theorem JG.acquire {ad : Addr} {f : FuncId} {fn : Func} {ats : Array TypeId} {as : Array Operand} (ho : ops[i]? = some o) (hw : Region.wanted o (yielded ops a.tmps) = true) (hk : b.kind ≠ .early)
    (hop : o.op = .call { callee := .value (.func f), args := as, argTypes := ats })
    (hf : P.funcs[f]? = some fn) (hname : (fn.name == "runtime.NumGoroutine") = false) (hb : fn.body.isNone = true) (hn : Extern.findNext fn = none)
    (he : Extern.find fn = some (Extern.Race.marked .acquire)) (hx : (as.map a.eval)[0]? = some (.pointer (some ad))) (hlt : ad.block < x.heap.size)
    (h : JG P Post C (G (b.at (a.put o.dst (.tuple #[])) (.inRegion ops rest :: k)) cs) x) : JG P Post C (G (b.at a (.inRegion ops (i :: rest) :: k)) cs) x :=
  JG.markAt (mk := .acquire) ⟨fun ad g h => (by cases h), fun ad a => ⟨fun h => (by cases h), fun h => (by cases h)⟩, fun ad => ⟨fun h => (by cases h), fun h => (by cases h)⟩, fun ad B h => (by simpa [MemAct.ofEvent, MemAct.low] using h)⟩ ho hw hk hop hf hname hb hn he hx hlt h
theorem JG.releaseM {ad : Addr} {f : FuncId} {fn : Func} {ats : Array TypeId} {as : Array Operand} (ho : ops[i]? = some o) (hw : Region.wanted o (yielded ops a.tmps) = true) (hk : b.kind ≠ .early)
    (hop : o.op = .call { callee := .value (.func f), args := as, argTypes := ats })
    (hf : P.funcs[f]? = some fn) (hname : (fn.name == "runtime.NumGoroutine") = false) (hb : fn.body.isNone = true) (hn : Extern.findNext fn = none)
    (he : Extern.find fn = some (Extern.Race.marked .releaseMerge)) (hx : (as.map a.eval)[0]? = some (.pointer (some ad))) (hlt : ad.block < x.heap.size)
    (h : JG P Post C (G (b.at (a.put o.dst (.tuple #[])) (.inRegion ops rest :: k)) cs) x) : JG P Post C (G (b.at a (.inRegion ops (i :: rest) :: k)) cs) x :=
  JG.markAt (mk := .releaseMerge) ⟨fun ad g h => (by cases h), fun ad a => ⟨fun h => (by cases h), fun h => (by cases h)⟩, fun ad => ⟨fun h => (by cases h), fun h => (by cases h)⟩, fun ad B h => (by simpa [MemAct.ofEvent, MemAct.low] using h)⟩ ho hw hk hop hf hname hb hn he hx hlt h
end
end Go.Proofs.Ytecmobjiepgfjaa
