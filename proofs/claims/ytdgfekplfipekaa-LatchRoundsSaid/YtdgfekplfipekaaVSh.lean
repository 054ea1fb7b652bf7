/- Short forms of the walk's steps under J. -/
import Derived.Test.YtdgfekplfipekaaVTkL
import Derived.Conc.TokenWords
import Derived.Tactics2
import Derived.RegionTactic
import Derived.Lib.Hide
set_option linter.all false
set_option maxRecDepth 100000
set_option maxHeartbeats 16000000
namespace Go.Proofs.Ytdgfekplfipekaa
open Go.Conc Go.RowKit
def F0:Fns:={ fn:=fun _=>false,maps:=false,top:=fun _=>false,ext:=fun _=>false }
theorem Uv {P:Program}:Q7 P F0:=⟨fun f h=>(by cases h),fun f h=>(by cases h)⟩
def Xgy (a:Act):List Item→Option (List Item)
 | .code (.seq c e)::k=>some (.code c::.code e::k)
 | .code .skip::k=>some k
 | .code (.label _)::k=>some k
 | .inBlock _::k=>some k
 | .code (.block i c)::k=>some (.code c::.inBlock i::k)
 | .code (.region _ ops false)::k=>some (.inRegion ops (List.range ops.size)::k)
 | .inRegion _ []::k=>some k
 | .code (.cond o c e)::k=>match a.eval o with
  | .bool true=>some (.code c::k)
  | .bool false=>some (.code e::k)
  | _=>none
 | _=>none
section
variable {P:Program} {Post:Value→World→Prop} {C:Ctx} {x:World} {b:Frame} {a:Act} {k k':List Item} {cs:List Frame} {ops:Array Oper} {i:Nat} {rest:List Nat} {o:Oper}
theorem jc (h:Xgy a k=some k') (hh:JG P Post C (G (b.at a k') cs) x):JG P Post C (G (b.at a k) cs) x:=by
 unfold Xgy at h
 split at h
 ·obtain rfl:=Option.some.inj h;exact JG.seq hh
 ·obtain rfl:=Option.some.inj h;exact JG.skip hh
 ·obtain rfl:=Option.some.inj h;exact JG.label hh
 ·obtain rfl:=Option.some.inj h;exact JG.inBlock hh
 ·obtain rfl:=Option.some.inj h;exact JG.block hh
 ·obtain rfl:=Option.some.inj h;exact JG.region hh
 ·obtain rfl:=Option.some.inj h;exact JG.done hh
 ·split at h
  ·rename_i e;obtain rfl:=Option.some.inj h;exact JG.condT e hh
  ·rename_i e;obtain rfl:=Option.some.inj h;exact JG.condF e hh
  ·cases h
 ·cases h
theorem jo (ho:ops[i]? = some o) (hm:mild F0 o.op=true) (hw:Region.wanted o (yielded ops a.tmps)=true) (hk:b.kind≠.early)
 (h:∀ K E,(∀ a' y,JG P Post C (G (b.at a' (.inRegion ops rest::k)) cs) y→K a' y)→(∀ f args y,JG P Post C (G (Frame.enter P f args .normal) (b.at a (.inRegion ops (i::rest)::k)::cs)) y→E f args y)→∀ τ d,uponE o a K E ((execOp a.eval o).run P (under x τ d))) :
 JG P Post C (G (b.at a (.inRegion ops (i::rest)::k)) cs) x:=JG.op (F:=F0) Uv (fun h=>by cases h) hm ho hw hk h
theorem jv (ho:ops[i]? = some o) (hm:mild F0 o.op=true) (hw:Region.wanted o (yielded ops a.tmps)=true)
 (h:∀ (K:Act→World→Prop) (E:FuncId→Array Value→World→Prop),(∀ a' y τ d,JG P Post C (G (b.at a' (.inRegion ops rest::k)) cs) y→K a' (under y τ d))→∀ τ d,uponE o a K E ((execOp a.eval o).run P (under x τ d))) (hk:b.kind≠.early:=by decide) :
 JG P Post C (G (b.at a (.inRegion ops (i::rest)::k)) cs) x:=jo ho hm hw hk fun K E hK _ τ d=>h K E (fun a' y τ d hj=>hK _ _ (JG.tap hj)) τ d
theorem ju (ho:ops[i]? = some o) (hw:Region.wanted o (yielded ops a.tmps)=false) (h:JG P Post C (G (b.at (a.put o.dst undef) (.inRegion ops rest::k)) cs) x):JG P Post C (G (b.at a (.inRegion ops (i::rest)::k)) cs) x:=JG.unwanted ho hw h
theorem jt {g:Goroutine} {τ:Nat→Question→Nat} {d:Nat} (h:JG P Post C g x):JG P Post C g (under x τ d):=JG.tap h
theorem uc {ad:Addr} {v:Option Value} (τ:Nat→Question→Nat) (d:Nat) (h:x.cell? ad=v):(under x τ d).cell? ad=v:=h
theorem HD {p:Prop} (h:p):Hid p:=Lib.hid h
theorem GE {α:Type} {l:Array α} {n:Nat} {v:α} (h:l[n]? = some v):∃ hn:n < l.size,l[n] = v:=Array.getElem?_eq_some_iff.1 h
theorem LE' {α:Type} {l:List α} {n:Nat} {v:α} (h:l[n]? = some v):∃ hn:n < l.length,l[n] = v:=List.getElem?_eq_some_iff.1 h
theorem OI {α:Type} {a b:α} (h:some a=some b):a=b:=Option.some.inj h
theorem Xgv {f : FuncId} {args : Array Value} {c : Call} {fn : Func} (hf : P.funcs[f]? = some fn) (h2 : (fn.name == "runtime.NumGoroutine") = false) (h3 : fn.body.isNone = false) (ho : ops[i]? = some o) (hop : o.op = .call c) (hc : c.callee = .value (.func f)) (hw : Region.wanted o (yielded ops a.tmps) = true) (hk : b.kind ≠ .early)
 (h:JG P Post C (G (Frame.enter P f args .normal) (b.at a (.inRegion ops (i::rest)::k)::cs)) x) (ha:c.args.map a.eval=args:=by simp [Act.eval]):JG P Post C (G (b.at a (.inRegion ops (i::rest)::k)) cs) x:=by
 have h4 : ¬ fn.name = "runtime.NumGoroutine" := by simpa using h2
 have h5:¬ fn.body=none:=by intro e;rw [e] at h3;cases h3
 refine JG.call (f:=f) (args:=args) ho hw hk (fun w=>?_) (fun w=>?_) h
 ·simp [go_sem,execOp,hop,hc,ha,Act.eval,resolve,Deferred.ofValue,invoke,callFunc,hf,h4,h5]
 ·simp [go_sem,execOp,hop,hc,ha,Act.eval,resolve,Deferred.ofValue,invoke,callFunc,hf,h4,h5]
end
structure Sq (Φ:Act→World→Prop) where
 K:Act→World→Prop
 E:FuncId→Array Value→World→Prop
 f:∀ {a':Act} {y:World} {τ:Nat→Question→Nat} {d:Nat},Φ a' y→K a' (under y τ d)
theorem under_cell_ {x:World} {a:Addr} {τ:Nat→Question→Nat} {d:Nat}:(under x τ d).cell? a=x.cell? a:=rfl
def Stp (P:Program) (b:Frame) (x:World) (a:Act) (k:List Item) (a':Act) (k':List Item):Prop:=∀ (Post:Value→World→Prop) (C:Ctx) (cs:List Frame),JG P Post C (G (b.at a' k') cs) x→JG P Post C (G (b.at a k) cs) x
theorem under_frozen_ {x:World} {a:Addr} {τ:Nat→Question→Nat} {d:Nat}:(under x τ d).frozen? a=x.frozen? a:=rfl
section
variable {P:Program} {Post:Value→World→Prop} {C:Ctx} {x:World} {b:Frame} {a a':Act} {k k':List Item} {cs:List Frame} {ops:Array Oper} {i:Nat} {rest:List Nat} {o:Oper} {z:Value}
theorem kc (hh:JG P Post C (G (b.at a k') cs) x) (h:Xgy a k=some k':=by exact rfl):JG P Post C (G (b.at a k) cs) x:=jc h hh
theorem ku (h:JG P Post C (G (b.at (a.put o.dst undef) (.inRegion ops rest::k)) cs) x) (ho:ops[i]? = some o:=by exact rfl) (hw:Region.wanted o (yielded ops a.tmps)=false:=by exact rfl):JG P Post C (G (b.at a (.inRegion ops (i::rest)::k)) cs) x:=ju ho hw h
theorem kv (h:∀ (Ω:Sq fun a' y=>JG P Post C (G (b.at a' (.inRegion ops rest::k)) cs) y) (τ:Nat→Question→Nat) (d:Nat),uponE o a Ω.K Ω.E ((execOp a.eval o).run P (under x τ d)))
 (ho:ops[i]? = some o:=by exact rfl) (hm:mild F0 o.op=true:=by exact rfl) (hw:Region.wanted o (yielded ops a.tmps)=true:=by exact rfl) (hk:b.kind≠.early:=by decide) :
 JG P Post C (G (b.at a (.inRegion ops (i::rest)::k)) cs) x:=jv ho hm hw (fun K E f τ d=>h ⟨K,E,fun hj=>f _ _ _ _ hj⟩ τ d) hk
theorem ko (h:∀ K E,(∀ a' y,JG P Post C (G (b.at a' (.inRegion ops rest::k)) cs) y→K a' y)→(∀ f args y,JG P Post C (G (Frame.enter P f args .normal) (b.at a (.inRegion ops (i::rest)::k)::cs)) y→E f args y)→∀ τ d,uponE o a K E ((execOp a.eval o).run P (under x τ d)))
 (ho:ops[i]? = some o:=by exact rfl) (hm:mild F0 o.op=true:=by exact rfl) (hw:Region.wanted o (yielded ops a.tmps)=true:=by exact rfl) (hk:b.kind≠.early:=by decide) :
 JG P Post C (G (b.at a (.inRegion ops (i::rest)::k)) cs) x:=jo ho hm hw hk h
theorem kf {f:FuncId} {args:Array Value} {c:Call} {fn:Func} (hf:P.funcs[f]? = some fn) (h:JG P Post C (G (Frame.enter P f args .normal) (b.at a (.inRegion ops (i::rest)::k)::cs)) x) (ho:ops[i]? = some o:=by exact rfl) (hop:o.op=.call c:=by exact rfl) (hc:c.callee=.value (.func f):=by exact rfl) (hw:Region.wanted o (yielded ops a.tmps)=true:=by exact rfl)
 (h2 : (fn.name == "runtime.NumGoroutine") = false := by kernel_rfl) (h3 : fn.body.isNone = false := by kernel_rfl) (hk : b.kind ≠ .early := by decide) (ha : c.args.map a.eval = args := by simp [Act.eval]) : JG P Post C (G (b.at a (.inRegion ops (i::rest)::k)) cs) x := Xgv hf h2 h3 ho hop hc hw hk h ha
theorem Stp.c (h:Xgy a k=some k'):Stp P b x a k a k':=fun _ _ _ hh=>jc h hh
theorem Stp.u (ho:ops[i]? = some o) (hw:Region.wanted o (yielded ops a.tmps)=false) (e:a.put o.dst undef=a'):Stp P b x a (.inRegion ops (i::rest)::k) a' (.inRegion ops rest::k):=fun _ _ _ hh=>ju ho hw (e ▸ hh)
theorem Stp.v (ho:ops[i]? = some o) (hm:mild F0 o.op=true) (hw:Region.wanted o (yielded ops a.tmps)=true) (hk:b.kind≠.early) (hr:∀ τ d,(execOp a.eval o).run P (under x τ d)=.ok (.value z) (under x τ d)) (e:a.put o.dst z=a'):Stp P b x a (.inRegion ops (i::rest)::k) a' (.inRegion ops rest::k) :=
 fun _ _ _ hh=>jv ho hm hw (fun K E f τ d=>by rw [hr];exact f _ _ _ _ (e ▸ hh)) hk
theorem kx (hh:JG P Post C (G (b.at a' k') cs) x) (h:Stp P b x a k a' k':=by first|exact Stp.c rfl|exact Stp.u (by exact rfl) (by exact rfl) (by walk_nrm;rfl)|exact Stp.v (by exact rfl) (by exact rfl) (by exact rfl) (by decide) (by intro τ d;have hc:=@under_cell_;go_simp;first|with_reducible rfl|rfl) (by walk_nrm;rfl)):JG P Post C (G (b.at a k) cs) x:=h _ _ _ hh
theorem kst {ad:Addr} {z0:Value} (hf:x.cell? ad=some z0∧x.frozen? ad=false) (hh:JG P Post C (G (b.at a' (.inRegion ops rest::k)) cs) (x.setCell ad z)) (ho:ops[i]? = some o:=by exact rfl) (hm:mild F0 o.op=true:=by exact rfl) (hw:Region.wanted o (yielded ops a.tmps)=true:=by exact rfl) (hk:b.kind≠.early:=by decide)
 (hr:x.cell? ad=some z0→x.frozen? ad=false→∀ τ d,(execOp a.eval o).run P (under x τ d)=.ok .skip ((under x τ d).setCell ad z):=by (intro h1 h2 τ d;have h3:=@under_cell_;have h4:=@under_frozen_;go_simp;first|with_reducible rfl|rfl)) (e:a.put o.dst undef=a':=by (walk_nrm;rfl)) :
 JG P Post C (G (b.at a (.inRegion ops (i::rest)::k)) cs) x:=jo ho hm hw hk fun K E hK _ τ d=>by
 rw [hr hf.1 hf.2 τ d];exact hK _ _ (JG.tap (e ▸ hh))
