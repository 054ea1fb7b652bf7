/- An operation under J of which a Sim speaks; a map's update. -/
import Derived.Test.YtdgfekplfipekaaVTkE
import Derived.Conc.MarkLaws
set_option linter.all false
set_option maxRecDepth 100000
set_option maxHeartbeats 16000000
namespace Go.Proofs.Ytdgfekplfipekaa
open Go.Conc
open Go.ConcN (upd upd_same upd_ne)
section
variable {P:Program} {Post:Value→World→Prop} {C:Ctx} {g g':Goroutine} {x:World} {b:Frame} {a:Act} {k:List Item} {cs:List Frame}
theorem X6.seat {S:YK} {x w:World} (h:X6 S x w) {B:Nat} {Ch:Nat→Option XL} {hh:Nat} {s:XL} (f:XbN B Ch hh x s):XbN B Ch hh w s:=by
 obtain ⟨kk,hk⟩:=f.open_;exact ⟨f.low,⟨kk,h.obj (fun _ _ _ e=>by cases e) hk⟩,f.own,fun a v hv=>by rw [← h.cell? a];exact f.keep a v hv⟩
theorem served_G (fr:Frame) (cs:List Frame) (v:Value):Go.Conc.served (G fr cs) v=G (fr.finish v) cs:=rfl
section
variable {ops:Array Oper} {i:Nat} {rest:List Nat} {o:Oper}
theorem Qx (ho:ops[i]? = some o) (v:Value):Go.Conc.served (G (b.at a (.inRegion ops (i::rest)::k)) cs) v=G (b.at (a.put o.dst v) (.inRegion ops rest::k)) cs:=by
 rw [served_G,Frame.finish_at,ho];rfl
theorem JG.give {j:Nat} {s:XL} {v z':Value} (hd:C.d=0) (hjh:j≠C.h) (hj:C.Ch j=some s) (ho:ops[i]? = some o) (hw:Region.wanted o (yielded ops a.tmps)=true) (hk:b.kind≠.early)
 (hr:∀ w,(execOp a.eval o).run P w=.ok (.comm #[scase s.c v z'] true .send) w) (he:∀ w,(execOp a.eval o).events P w #[] = #[])
 (new:Option XL) (hnew:∀ s',new=some s'→XbN x.heap.size C.Ch C.h x s') (hfr:∀ s',new=some s'→∀ ad v,s'.kn ad v→x.frozen? ad=true)
 (hafter:∃ nh,∀ T',Deaf T' C.h=0→Rest P x.heap.size T' C.h nh (G (b.at (a.put o.dst undef) (.inRegion ops rest::k)) cs) new)
 (hnext:∀ g₂ kk,s.home g₂→x.heap[s.c]? = some (.chan 0 #[] false kk kk false)→JG P Post { Ch:=upd C.Ch C.h new,h:=j,d:=0,n:=C.n,lo:=C.lo,io:=C.io } (Go.Conc.served g₂ v) (x.setChan s.c 0 #[] false (kk + 1) (kk + 1) false)) :
 JG P Post C (G (b.at a (.inRegion ops (i::rest)::k)) cs) x:=fun w hT=>by
 have hsz:=hT.size;refine J.give (es:=#[]) hd hjh hj rfl (fun kk=>by rw [stepG_comm ho hw hk (hr _),listed_none (he _)]) (by simp) new (fun s' e=>by rw [← hsz];exact hT.seat (hnew s' e)) ?_ ?_
 ·rw [← hsz,Qx ho];exact hafter
 ·intro g₂ kk hh hc
  have hcx:x.heap[s.c]? = some (.chan 0 #[] false kk kk false):=by
   rcases hT.cases s.c with ⟨_,h2⟩|⟨o',o₂,h1,h2,rfl|⟨c,t,f',f,rfl,rfl,_⟩⟩
   ·rw [h2] at hc;cases hc
   ·rw [h1,← h2,hc]
   ·rw [h2] at hc;cases hc
  refine hnext g₂ kk hh hcx _ ?_
  have:=hT.set hcx (fun _ _ _ e=>by cases e) (.chan 0 #[] false (kk + 1) (kk + 1) false)
  refine X6.other (x:=x.setChan s.c 0 #[] false (kk + 1) (kk + 1) false) this (fun ad had=>?_) (Nat.le_refl _);have h1:x.frozen? ad=true:=by
   obtain ⟨i',s',v',hi,e,hv⟩:=had;have e:upd C.Ch C.h new i'=some s':=e
   by_cases ei:i'=C.h
   ·subst ei
    rw [upd_same] at e;exact hfr s' e ad v' hv
   ·rw [upd_ne C.Ch new ei] at e
    exact hT.still ad ⟨i',s',v',ei,e,hv⟩
  unfold World.frozen? at h1 ⊢;simp only [World.setChan]
  by_cases e:s.c=ad.block
  ·rw [← e,hcx] at h1;cases h1
  ·rw [Array.getElem?_setIfInBounds_ne e];exact h1
theorem JG.hire {d:Deferred} {f:Fn} {c:Array Value} (hd:C.d=0) (ho:ops[i]? = some o) (hw:Region.wanted o (yielded ops a.tmps)=true) (hk:b.kind≠.early)
 (hr:∀ w,(execOp a.eval o).run P w=.ok (.spawn d) w) (hdt:d.target=.fn f c) (he:∀ w,(execOp a.eval o).events P w #[] = #[])
 (s:XL) (hs:XbN x.heap.size C.Ch C.h x s) (hfr:∀ ad v,s.kn ad v→x.frozen? ad=true) (hchild:∃ nc,XbK P x.heap.size C.n s nc (born P d))
 (hnext:JG P Post { Ch:=upd C.Ch C.n (some s),h:=C.h,d:=0,n:=C.n + 1,lo:=C.lo,io:=C.io } (G (b.at (a.put o.dst undef) (.inRegion ops rest::k)) cs) x) :
 JG P Post C (G (b.at a (.inRegion ops (i::rest)::k)) cs) x:=fun w hT=>by
 have hsz:=hT.size;refine J.hire (es:=#[]) hd rfl (fun kk=>by rw [stepG_spawn ho hw hk (hr _) hdt,listed_none (he _)]) (by simp) s (by rw [← hsz];exact hT.seat hs) (by rw [← hsz];exact hchild) ?_;refine hnext w (hT.other (fun ad had=>?_) (Nat.le_refl _));obtain ⟨i,s',v,hi,e,hv⟩:=had
 by_cases ei:i=C.n
 ·subst ei
  have e:upd C.Ch C.n (some s) C.n=some s':=e;rw [upd_same] at e;obtain rfl:=Option.some.inj e;exact hfr ad v hv
 ·have e:upd C.Ch C.n (some s) i=some s':=e
  rw [upd_ne C.Ch _ ei] at e;exact hT.still ad ⟨i,s',v,hi,e,hv⟩
theorem QZ {main:Bool} {w:World} {d:Deferred} (ho:ops[i]? = some o) (hw:Region.wanted o (yielded ops a.tmps)=true) (hk:b.kind≠.early) (hr:∀ w,(execOp a.eval o).run P w=.ok (.defer d) w) (he:∀ w,(execOp a.eval o).events P w #[] = #[]) :
 stepG P main (G (b.at a (.inRegion ops (i::rest)::k)) cs) w=.go (G (b.at (Act.put ⟨a.tmps,d::a.defers⟩ o.dst undef) (.inRegion ops rest::k)) cs) w:=by
 have hfin:(b.at ⟨a.tmps,d::a.defers⟩ (.inRegion ops (i::rest)::k)).finish undef=b.at (Act.put ⟨a.tmps,d::a.defers⟩ o.dst undef) (.inRegion ops rest::k):=by rw [Frame.finish_at,ho];rfl
 have hk':(b.kind == CallKind.early)=false:=by simpa using hk
 rw [stepG_oper ho hw,← hfin];simp [stepG.apply,hr,he,G,Frame.at,hk',GStep.after,seen_none]
theorem JG.defer {d:Deferred} (ho:ops[i]? = some o) (hw:Region.wanted o (yielded ops a.tmps)=true) (hk:b.kind≠.early) (hr:∀ w,(execOp a.eval o).run P w=.ok (.defer d) w) (he:∀ w,(execOp a.eval o).events P w #[] = #[])
 (h:JG P Post C (G (b.at (Act.put ⟨a.tmps,d::a.defers⟩ o.dst undef) (.inRegion ops rest::k)) cs) x):JG P Post C (G (b.at a (.inRegion ops (i::rest)::k)) cs) x :=
 .ctl rfl (fun main w=>QZ ho hw hk hr he) h
theorem JG.recover0 (ho:ops[i]? = some o) (hw:Region.wanted o (yielded ops a.tmps)=true) (hk:b.kind≠.early) (hr:∀ w,(execOp a.eval o).run P w=.ok .recover w) (he:∀ w,(execOp a.eval o).events P w #[] = #[])
 (ht:tryRecover (b.at a (.inRegion ops (i::rest)::k)) cs=none)
 (h:JG P Post C (G (b.at (a.put o.dst .nilIface) (.inRegion ops rest::k)) cs) x):JG P Post C (G (b.at a (.inRegion ops (i::rest)::k)) cs) x:=by
 refine .ctl rfl (fun main w=>?_) h;have hfin:(b.at a (.inRegion ops (i::rest)::k)).finish .nilIface=b.at (a.put o.dst .nilIface) (.inRegion ops rest::k):=by rw [Frame.finish_at,ho];rfl
 have hk':(b.kind == CallKind.early)=false:=by simpa using hk
 rw [stepG_oper ho hw,← hfin];have hro:(b.at a (.inRegion ops (i::rest)::k)).roundOf=none:=rfl;simp only [stepG.apply,Sem.runT_eq,hr,he,GStep.after,seen_none,hro,ht];simp [G,Frame.at,hk',seen_none]
theorem JG.recover1 {v:Value} {cs':List Frame} (ho:ops[i]? = some o) (hw:Region.wanted o (yielded ops a.tmps)=true) (hk:b.kind≠.early) (hr:∀ w,(execOp a.eval o).run P w=.ok .recover w) (he:∀ w,(execOp a.eval o).events P w #[] = #[])
 (ht:tryRecover (b.at a (.inRegion ops (i::rest)::k)) cs=some (v,cs'))
 (h:JG P Post C (G (b.at (a.put o.dst v) (.inRegion ops rest::k)) cs') x):JG P Post C (G (b.at a (.inRegion ops (i::rest)::k)) cs) x:=by
 refine .ctl rfl (fun main w=>?_) h;have hfin:(b.at a (.inRegion ops (i::rest)::k)).finish v=b.at (a.put o.dst v) (.inRegion ops rest::k):=by rw [Frame.finish_at,ho];rfl
 have hk':(b.kind == CallKind.early)=false:=by simpa using hk
 rw [stepG_oper ho hw,← hfin];have hro:(b.at a (.inRegion ops (i::rest)::k)).roundOf=none:=rfl;simp only [stepG.apply,Sem.runT_eq,hr,he,GStep.after,seen_none,hro,ht];simp [G,Frame.at,hk',seen_none]
theorem JG.panic {v:Value} (ho:ops[i]? = some o) (hw:Region.wanted o (yielded ops a.tmps)=true) (hk:b.kind≠.early) (hr:∀ w,(execOp a.eval o).run P w=.halt (.panic v) w) (he:∀ w,(execOp a.eval o).events P w #[] = #[])
 (h:JG P Post C (G { b.at a (.inRegion ops (i::rest)::k) with mode:=.panicking [{ v,recovered:=false }] } cs) x):JG P Post C (G (b.at a (.inRegion ops (i::rest)::k)) cs) x:=by
 refine .ctl rfl (fun main w=>?_) h;have hk':(b.kind == CallKind.early)=false:=by simpa using hk
 rw [stepG_oper ho hw];simp [stepG.apply,hr,he,G,Frame.at,hk',GStep.after,seen_none,Frame.raise]
end
theorem V6 {main : Bool} {w : World} {d : Deferred} {ds : List Deferred} {f : FuncId} {c : Array Value} {fn : Func} {todo : List Item} {m : FrameMode} (hd : a.defers = d::ds) (ht : d.target = .fn (.func f) c) (hf : P.funcs[f]? = some fn) (hname : (fn.name == "runtime.NumGoroutine") = false) (hb : fn.body.isNone = false) :
 stepG P main (G { b.at a todo with mode:=m } cs) w=(match m with | .run=>stepG P main (G { b.at a todo with mode:=m } cs) w|_=>.go (G (Frame.enter P f (d.args ++ c) .deferred) ({ b.at ⟨a.tmps,ds⟩ todo with mode:=m }::cs)) w):=by
 obtain ⟨t,as⟩:=d;simp only at ht;subst ht;have h1 : ¬ fn.name = "runtime.NumGoroutine" := by simpa using hname
 have h2:¬ fn.body=none:=by intro e;rw [e] at hb;cases hb
 cases m with
 | run=>rfl
 | returning=>simp [G,stepG,unwind,callDeferred,Frame.at,hd,invoke,callFunc,hf,h1,h2,GStep.after,seen_none]
 | panicking ch=>simp [G,stepG,unwind,callDeferred,Frame.at,hd,invoke,callFunc,hf,h1,h2,GStep.after,seen_none]
theorem JG.unwind {d : Deferred} {ds : List Deferred} {f : FuncId} {c : Array Value} {fn : Func} {todo : List Item} {m : FrameMode} (hm : m ≠ .run) (hd : a.defers = d::ds) (ht : d.target = .fn (.func f) c) (hf : P.funcs[f]? = some fn) (hname : (fn.name == "runtime.NumGoroutine") = false) (hb : fn.body.isNone = false)
 (h:JG P Post C (G (Frame.enter P f (d.args ++ c) .deferred) ({ b.at ⟨a.tmps,ds⟩ todo with mode:=m }::cs)) x):JG P Post C (G { b.at a todo with mode:=m } cs) x :=
 .ctl rfl (fun main w=>by rw [V6 hd ht hf hname hb];cases m<;>first|exact absurd rfl hm|rfl) h
def X3 (c:Frame):Frame :=
 match c.mode with
 | .panicking ({ recovered:=true,.. }::older)=>match older.dropWhile (!·.goexit) with
  | []=>{ c with mode:=.returning }
  | rest=>{ c with mode:=.panicking rest }
 | _=>c
theorem YU {main:Bool} {w:World} {c:Frame} {fn:Func} {todo:List Item} (hk:b.kind=.deferred) (hd:a.defers = []) (hf:P.funcs[b.fn]? = some fn) (hr:fn.results=#[]) :
 stepG P main (G { b.at a todo with mode:=.returning } (c::cs)) w=.go (G (X3 c) cs) w:=by
 have h1:=results_none hr a.tmps P w;have h2:=events_results_none (P:=P) (w:=w) hr a.tmps #[];simp only [G,Frame.at,hk,hd,stepG,unwind,hf,Sem.runT_eq,h1,h2,doReturn,GStep.after,seen_none]
 rfl
theorem JG.leaveD {c:Frame} {fn:Func} {todo:List Item} (hk:b.kind=.deferred) (hd:a.defers = []) (hf:P.funcs[b.fn]? = some fn) (hr:fn.results=#[]) (h:JG P Post C (G (X3 c) cs) x) :
 JG P Post C (G { b.at a todo with mode:=.returning } (c::cs)) x:=.ctl rfl (fun main w=>YU hk hd hf hr) h
theorem WU {main:Bool} {w:World} {c:Frame} {fn:Func} {todo:List Item} {ch:List PanicEntry} (hd:a.defers = []) (hf:P.funcs[b.fn]? = some fn) :
 stepG P main (G { b.at a todo with mode:=.panicking ch } (c::cs)) w=.go (G (c.raise ch) cs) w:=by
 simp [G,Frame.at,stepG,unwind,hd,Frame.catches,hf]
theorem JG.raise {c:Frame} {fn:Func} {todo:List Item} {ch:List PanicEntry} (hd:a.defers = []) (hf:P.funcs[b.fn]? = some fn) (h:JG P Post C (G (c.raise ch) cs) x):JG P Post C (G { b.at a todo with mode:=.panicking ch } (c::cs)) x :=
 .ctl rfl (fun main w=>WU hd hf) h
def YX (P:Program):Frame:={ (default:Frame) with fn:=P.funcs.size,defers:=[],mode:=.panicking [goexitEntry] }
theorem Xbe {main : Bool} {w : World} {d : Deferred} {f : FuncId} {c : Array Value} {fn : Func} (ht : d.target = .fn (.func f) c) (hf : P.funcs[f]? = some fn) (hname : (fn.name == "runtime.NumGoroutine") = false) (hb : fn.body.isNone = false) :
 stepG P main (born P d) w=.go (G (Frame.enter P f (d.args ++ c) .deferred) [YX P]) w:=by
 obtain ⟨t,as⟩:=d;simp only at ht;subst ht;have h1 : ¬ fn.name = "runtime.NumGoroutine" := by simpa using hname
 have h2:¬ fn.body=none:=by intro e;rw [e] at hb;cases hb
 simp [born,G,stepG,unwind,callDeferred,invoke,callFunc,hf,h1,h2,GStep.after,seen_none,YX]
theorem Xbd {w:World}:stepG P false (G (YX P) []) w=.go { frame:=YX P,callers:=[],status:=.finished,dying:=none } w:=by
 simp [G,YX,stepG,unwind,Frame.catches,goexitEntry]
 rfl
theorem Vj:QuitsD P 1 0 (G (YX P) []):=.ctl rfl (fun w=>Xbd) ⟨rfl,rfl⟩
theorem JG.end {fn:Func} {todo:List Item} {v:Value} (h0:C.h=0) (hd:C.d=0) (hI:∀ i,i≠0→C.Ch i=none) (hk:b.kind=.normal) (hds:a.defers = []) (hf:P.funcs[b.fn]? = some fn) (hin:P.inits.idxOf? b.fn=none)
 (hr:∀ w,X6 C.prot x w→∀ d,(results fn a.tmps).run P (w.at d)=.ok v (w.at d)) (he:∀ w,(results fn a.tmps).events P w #[] = #[]) (hpost:∀ w,X6 C.prot x w→XcR w=C.io→∀ d,Post v (w.at d)) :
 JG P Post C (G { b.at a todo with mode:=.returning } []) x:=fun w hT =>
 J.end h0 hd hI rfl fun d=>⟨v,#[],by
  simp only [G,Frame.at,hk,hds,stepG,Go.unwind,hf,Sem.runT_eq,hr w hT d,he,doReturn,GStep.after,seen_none,hin]
  rfl,by simp,fun hio=>hpost w hT hio d⟩
end
end Go.Proofs.Ytdgfekplfipekaa
namespace Go.Proofs.Ytdgfekplfipekaa
open Go.Conc
section
variable {P:Program} {Post:Value→World→Prop} {C:Ctx} {x:World} {b:Frame} {a:Act} {k:List Item} {cs:List Frame} {ops:Array Oper} {i:Nat} {rest:List Nat} {o:Oper}
theorem Xc6 {S:YK} {B:Nat} {m:Mark} (h1:∀ a,m≠.read a∧m≠.write a) (h2:(MemAct.ofEvent ⟨.mark m,false,true⟩).low B):∀ e∈#[(⟨.mark m,false,true⟩:Event)],EvT S B e:=fun e h=>by
 have h:=List.mem_singleton.1 (by simpa using h:e∈[(⟨.mark m,false,true⟩:Event)]);subst h;refine ⟨fun h=>?_,fun h=>?_,fun m' e a=>?_,h2⟩
 ·cases h
 ·cases h
 ·obtain rfl:=Loc.mark.inj e;exact h1 a
theorem JG.mark0 {m:Mark} {f:FuncId} {fn:Func} {ats:Array TypeId} {as:Array Operand} (hm:(∀ g,m≠.extern g)∧(∀ a,m≠.read a∧m≠.write a)∧∀ B,(MemAct.ofEvent ⟨.mark m,false,true⟩).low B) (ho:ops[i]? = some o) (hw:Region.wanted o (yielded ops a.tmps)=true) (hk:b.kind≠.early)
 (hop:o.op=.call { callee:=.value (.func f),args:=as,argTypes:=ats })
 (hf : P.funcs[f]? = some fn) (hname : (fn.name == "runtime.NumGoroutine") = false) (hb : fn.body.isNone = true) (hn : Extern.findNext fn = none)
 (he:Extern.find fn=some (fun _=>do mark m;pure Extern.Race.none_))
 (h:JG P Post { C with d:=deafBehind C.d #[⟨.mark m,false,true⟩] } (G (b.at (a.put o.dst (.tuple #[])) (.inRegion ops rest::k)) cs) x) :
 JG P Post C (G (b.at a (.inRegion ops (i::rest)::k)) cs) x:=fun w hT =>
 J.step rfl fun n=>⟨_,w.at n,_,stepG_mark0 m hm.1 ho hw hk hop hf hname hb hn he,Xc6 hm.2.1 (hm.2.2 _),Nat.le_refl _,⟨fun _ _ _ h=>h,fun _ _ _ h _=>h⟩,rfl,(h w hT).at n⟩
theorem JG.markAt {mk:Addr→Mark} {ad:Addr} {f:FuncId} {fn:Func} {ats:Array TypeId} {as:Array Operand} (hm:(∀ ad g,mk ad≠.extern g)∧(∀ ad a,mk ad≠.read a∧mk ad≠.write a)∧(∀ ad,mk ad≠.disable∧mk ad≠.enable)∧∀ ad B,ad.block < B→(MemAct.ofEvent ⟨.mark (mk ad),false,true⟩).low B) (ho:ops[i]? = some o) (hw:Region.wanted o (yielded ops a.tmps)=true) (hk:b.kind≠.early)
 (hop:o.op=.call { callee:=.value (.func f),args:=as,argTypes:=ats })
 (hf : P.funcs[f]? = some fn) (hname : (fn.name == "runtime.NumGoroutine") = false) (hb : fn.body.isNone = true) (hn : Extern.findNext fn = none)
 (he:Extern.find fn=some (Extern.Race.marked mk)) (hx:(as.map a.eval)[0]? = some (.pointer (some ad))) (hlt:ad.block < x.heap.size)
 (h:JG P Post C (G (b.at (a.put o.dst (.tuple #[])) (.inRegion ops rest::k)) cs) x) :
 JG P Post C (G (b.at a (.inRegion ops (i::rest)::k)) cs) x:=fun w hT =>
 J.step rfl fun n=>⟨_,w.at n,_,stepG_markAt mk hm.1 ho hw hk hop hf hname hb hn he hx,Xc6 (hm.2.1 ad) (hm.2.2.2 ad _ (by rw [hT.size] at hlt;exact hlt)),Nat.le_refl _,⟨fun _ _ _ h=>h,fun _ _ _ h _=>h⟩,rfl,by
  have hd:deafBehind C.d #[⟨.mark (mk ad),false,true⟩] = C.d:=deafBehind_still (fun e h=>by
   have h:=List.mem_singleton.1 (by simpa using h:e∈[(⟨.mark (mk ad),false,true⟩:Event)]);subst h;exact ⟨fun e=>(hm.2.2.1 ad).1 (Loc.mark.inj e),fun e=>(hm.2.2.1 ad).2 (Loc.mark.inj e)⟩) _
  rw [hd];exact (h w hT).at n⟩
theorem JG.disable {f:FuncId} {fn:Func} {ats:Array TypeId} {as:Array Operand} (ho:ops[i]? = some o) (hw:Region.wanted o (yielded ops a.tmps)=true) (hk:b.kind≠.early)
 (hop:o.op=.call { callee:=.value (.func f),args:=as,argTypes:=ats })
 (hf : P.funcs[f]? = some fn) (hname : (fn.name == "runtime.NumGoroutine") = false) (hb : fn.body.isNone = true) (hn : Extern.findNext fn = none)
 (he:Extern.find fn=some (fun _=>do mark .disable;pure Extern.Race.none_))
 (h:JG P Post { C with d:=C.d + 1 } (G (b.at (a.put o.dst (.tuple #[])) (.inRegion ops rest::k)) cs) x):JG P Post C (G (b.at a (.inRegion ops (i::rest)::k)) cs) x :=
 JG.mark0 (m:=.disable) ⟨fun g h=>(by cases h),fun a=>⟨fun h=>(by cases h),fun h=>(by cases h)⟩,fun B=>(by simp [MemAct.ofEvent,MemAct.low])⟩ ho hw hk hop hf hname hb hn he h
theorem JG.enable {f:FuncId} {fn:Func} {ats:Array TypeId} {as:Array Operand} (ho:ops[i]? = some o) (hw:Region.wanted o (yielded ops a.tmps)=true) (hk:b.kind≠.early)
 (hop:o.op=.call { callee:=.value (.func f),args:=as,argTypes:=ats })
 (hf : P.funcs[f]? = some fn) (hname : (fn.name == "runtime.NumGoroutine") = false) (hb : fn.body.isNone = true) (hn : Extern.findNext fn = none)
 (he:Extern.find fn=some (fun _=>do mark .enable;pure Extern.Race.none_))
 (h:JG P Post { C with d:=C.d - 1 } (G (b.at (a.put o.dst (.tuple #[])) (.inRegion ops rest::k)) cs) x):JG P Post C (G (b.at a (.inRegion ops (i::rest)::k)) cs) x :=
 JG.mark0 (m:=.enable) ⟨fun g h=>(by cases h),fun a=>⟨fun h=>(by cases h),fun h=>(by cases h)⟩,fun B=>(by simp [MemAct.ofEvent,MemAct.low])⟩ ho hw hk hop hf hname hb hn he h
theorem JG.acquire {ad:Addr} {f:FuncId} {fn:Func} {ats:Array TypeId} {as:Array Operand} (ho:ops[i]? = some o) (hw:Region.wanted o (yielded ops a.tmps)=true) (hk:b.kind≠.early)
 (hop:o.op=.call { callee:=.value (.func f),args:=as,argTypes:=ats })
 (hf : P.funcs[f]? = some fn) (hname : (fn.name == "runtime.NumGoroutine") = false) (hb : fn.body.isNone = true) (hn : Extern.findNext fn = none)
 (he:Extern.find fn=some (Extern.Race.marked .acquire)) (hx:(as.map a.eval)[0]? = some (.pointer (some ad))) (hlt:ad.block < x.heap.size)
 (h:JG P Post C (G (b.at (a.put o.dst (.tuple #[])) (.inRegion ops rest::k)) cs) x):JG P Post C (G (b.at a (.inRegion ops (i::rest)::k)) cs) x :=
 JG.markAt (mk:=.acquire) ⟨fun ad g h=>(by cases h),fun ad a=>⟨fun h=>(by cases h),fun h=>(by cases h)⟩,fun ad=>⟨fun h=>(by cases h),fun h=>(by cases h)⟩,fun ad B h=>(by simpa [MemAct.ofEvent,MemAct.low] using h)⟩ ho hw hk hop hf hname hb hn he hx hlt h
theorem JG.releaseM {ad:Addr} {f:FuncId} {fn:Func} {ats:Array TypeId} {as:Array Operand} (ho:ops[i]? = some o) (hw:Region.wanted o (yielded ops a.tmps)=true) (hk:b.kind≠.early)
 (hop:o.op=.call { callee:=.value (.func f),args:=as,argTypes:=ats })
 (hf : P.funcs[f]? = some fn) (hname : (fn.name == "runtime.NumGoroutine") = false) (hb : fn.body.isNone = true) (hn : Extern.findNext fn = none)
 (he:Extern.find fn=some (Extern.Race.marked .releaseMerge)) (hx:(as.map a.eval)[0]? = some (.pointer (some ad))) (hlt:ad.block < x.heap.size)
 (h:JG P Post C (G (b.at (a.put o.dst (.tuple #[])) (.inRegion ops rest::k)) cs) x):JG P Post C (G (b.at a (.inRegion ops (i::rest)::k)) cs) x :=
 JG.markAt (mk:=.releaseMerge) ⟨fun ad g h=>(by cases h),fun ad a=>⟨fun h=>(by cases h),fun h=>(by cases h)⟩,fun ad=>⟨fun h=>(by cases h),fun h=>(by cases h)⟩,fun ad B h=>(by simpa [MemAct.ofEvent,MemAct.low] using h)⟩ ho hw hk hop hf hname hb hn he hx hlt h
end
theorem U4 {P:Program} {S:YK} {t:TypeId} {m:Nat} {k v:Value} (hm:¬ S.objs m):Sim P S (fun _=>True) (Instr.mapUpdate t (.map (some m)) k v):=by
 unfold Instr.mapUpdate;refine Sim.bind X1 fun d _=>?_
 split
 ·refine Sim.bind UA fun o _=>?_
  split
  ·refine Sim.bind (ZR _ _ _) fun _ _=>Sim.bind WZ fun q _=>?_
   split
   ·exact Sim.bind Q8 fun _ _=>YE hm
   ·exact YE hm
  ·exact Xv
 ·exact Xv
section
variable {P:Program} {Post:Value→World→Prop} {C:Ctx} {g:Goroutine} {x:World} {b:Frame} {a:Act} {k:List Item} {cs:List Frame} {F:Fns} {ops:Array Oper} {i:Nat} {rest:List Nat} {o:Oper}
theorem J.objs {w:World} (h:(∀ r,C.prot.objs r→∃ k,w.heap[r]? = some (.chan 0 #[] false k k false))→J P Post C g w):J P Post C g w:=fun k B T gs sl q hio hB hn hg hT =>
 h (fun r ⟨i,s,hi,e,hc⟩=>by obtain ⟨_,_,kk,hk⟩:=hT.chan i s hi e;exact ⟨kk,by rw [← hc];exact hk⟩) k B T gs sl q hio hB hn hg hT
theorem J.opS {w:World} (hT:X6 C.prot x w) (hs:Sim P C.prot (Zm F) (execOp a.eval o)) (ho:ops[i]? = some o) (hw:Region.wanted o (yielded ops a.tmps)=true) (hk:b.kind≠.early)
 (h:∀ K E,(∀ a' y,JG P Post C (G (b.at a' (.inRegion ops rest::k)) cs) y→K a' y)→(∀ f args y,JG P Post C (G (Frame.enter P f args .normal) (b.at a (.inRegion ops (i::rest)::k)::cs)) y→E f args y)→∀ τ d,uponE o a K E ((execOp a.eval o).run P (under x τ d))) :
 J P Post C (G (b.at a (.inRegion ops (i::rest)::k)) cs) w:=by
 refine J.step rfl fun d=>?_;obtain ⟨n,f,hb|⟨r,hf,hr,evs,he,hev⟩⟩:=hs x (w.at d) (hT.mvr w.tape d)
 ·exfalso
  obtain ⟨hh,y,e,hbad⟩:=hb (fun j _=>f j) 0 (fun j _ _=>by simp)
  have:=h (fun _ _=>True) (fun _ _ _=>True) (fun _ _ _=>trivial) (fun _ _ _ _=>trivial) (fun j _=>f j) 0
  rw [e] at this;exact this
 ·have h1:=h (fun a' y=>JG P Post C (G (b.at a' (.inRegion ops rest::k)) cs) y) (fun f args y=>JG P Post C (G (Frame.enter P f args .normal) (b.at a (.inRegion ops (i::rest)::k)::cs)) y) (fun _ _ h=>h) (fun _ _ _ h=>h) (fun j _=>f j) 0
  rw [hr (fun j _=>f j) 0 (fun j _ _=>by simp)] at h1;have hev':∀ e∈listed P b.fn a o (w.at d),EvG C.prot (Result.world ((execOp a.eval o).run P (w.at d))).heap.size e:=fun e hm=>hev e (by have:=mem_listed hm;rw [he] at this;simpa using this);have hstay:=UU.of_events (P:=P) (S:=C.prot) (w:=w.at d) (s:=execOp a.eval o) (B:=(Result.world ((execOp a.eval o).run P (w.at d))).heap.size) fun e hm=>hev e (by rw [he] at hm;simpa using hm);cases hrw:(execOp a.eval o).run P (w.at d) with
  | halt hh w₁ =>
   rw [hrw] at hf;cases hf with
   | panic _ _ _=>exact h1.elim
  | ok q w₁ =>
   rw [hrw] at hf hev' hstay;cases hf with
   | @ok a' _ y _ hN hT₁ ht hsz =>
    obtain ⟨rfl,_⟩:=hN;have hd:∀ es:Array Event,(∀ e∈es,EvG C.prot w₁.heap.size e)→({ C with d:=deafBehind C.d es }:Ctx)=C:=fun es h=>by rw [EvG.still h]
    have hst:UU C.prot w w₁:=⟨hstay.cells,hstay.objs⟩
    cases a' with
    | value v =>
     refine ⟨_,w₁,listed P b.fn a o (w.at d),stepG_value ho hw hk hrw,fun e he=>(hev' e he).evT,hsz,hst,ht,?_⟩;rw [hd _ hev'];exact h1 w₁ (hT₁.mvl _ _)
    | skip =>
     refine ⟨_,w₁,listed P b.fn a o (w.at d),stepG_none ho hw hk hrw,fun e he=>(hev' e he).evT,hsz,hst,ht,?_⟩;rw [hd _ hev'];exact h1 w₁ (hT₁.mvl _ _)
    | enter f args =>
     refine ⟨_,w₁,listed P b.fn a o (w.at d),stepG_enter ho hw hk hrw,fun e he=>(hev' e he).evT,hsz,hst,ht,?_⟩;rw [hd _ hev'];exact h1 w₁ (hT₁.mvl _ _)
    | _=>exact h1.elim
theorem JG.mapUpd {t:TypeId} {om ok ov:Operand} {mb:Nat} {es:Array MapEntry} {cl:Nat} (hop:o.op=.mapUpdate t om ok ov) (hmv:a.eval om=.map (some mb)) (hmb:x.heap[mb]? = some (.map es cl)) (ho:ops[i]? = some o) (hw:Region.wanted o (yielded ops a.tmps)=true) (hk:b.kind≠.early)
 (h:∀ K E,(∀ a' y,JG P Post C (G (b.at a' (.inRegion ops rest::k)) cs) y→K a' y)→(∀ f args y,JG P Post C (G (Frame.enter P f args .normal) (b.at a (.inRegion ops (i::rest)::k)::cs)) y→E f args y)→∀ τ d,uponE o a K E ((execOp a.eval o).run P (under x τ d))) :
 JG P Post C (G (b.at a (.inRegion ops (i::rest)::k)) cs) x:=fun w hT=>by
 refine J.objs fun hobj=>?_;have hn:¬ C.prot.objs mb:=fun z=>by
  obtain ⟨kk,e⟩:=hobj mb z;have h2:=hT.obj (fun _ _ _ e=>by cases e) hmb;rw [h2] at e;cases e
 refine J.opS (F:={ fn:=fun _=>false,maps:=false,top:=fun _=>false,ext:=fun _=>false }) hT ?_ ho hw hk h;unfold execOp;rw [hop];show Sim P C.prot _ (do Instr.mapUpdate t (a.eval om) (a.eval ok) (a.eval ov);pure Next.skip);rw [hmv];exact Xb8 (U4 hn)
