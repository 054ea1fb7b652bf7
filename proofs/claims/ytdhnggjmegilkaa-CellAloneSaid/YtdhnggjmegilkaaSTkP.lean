/- A channel is closed, under J. -/
import Derived.Test.YtdhnggjmegilkaaSTkF
import Derived.Conc.MarkLaws
set_option linter.all false
set_option maxRecDepth 100000
set_option maxHeartbeats 16000000
namespace Go.Proofs.Ytdhnggjmegilkaa
open Go.Conc
section
variable {P:Program} {Post:Value→World→Prop} {C:Ctx} {x:World} {b:Frame} {a:Act} {k:List Item} {cs:List Frame} {ops:Array Oper} {i:Nat} {rest:List Nat} {o:Oper}
theorem Xc6 {S:YK} {B:Nat} {m:Mark} (h1:∀ a,m≠.read a∧m≠.write a) (h2:(MemAct.ofEvent ⟨.mark m,false,true⟩).low B):∀ e∈#[(⟨.mark m,false,true⟩:Event)],EvT S B e:=fun e h=>by
 have h:=List.mem_singleton.1 (by simpa using h:e∈[(⟨.mark m,false,true⟩:Event)]);subst h;refine ⟨fun h=>?_,fun h=>?_,fun m' e a=>?_,h2⟩
 ·cases h
 ·cases h
 ·obtain rfl:=Loc.mark.inj e;exact h1 a
theorem JG.mark0 {m:Mark} {f:FuncId} {fn:Func} {ats:Array TypeId} {as:Array Operand} (hm:(∀ g,m≠.extern g)∧(∀ a,m≠.read a∧m≠.write a)∧∀ B,(MemAct.ofEvent ⟨.mark m,false,true⟩).low B) (ho:ops[i]? = some o) (hw:Region.wanted o (yielded ops a.tmps)=true) (hk:b.kind≠.early)
 (hop:o.op=.call { callee:=.value (.func f),args:=as,argTypes:=ats })
 (hf : P.funcs[f]? = some fn) (hname : (fn.name == "runtime.NumGoroutine") = false) (hb : fn.body.isNone = true) (hn : Extern.findNext fn = none)
 (he:Extern.find fn=some (fun _=>do mark m;pure Extern.Race.none_))
 (h:JG P Post { C with d:=deafBehind C.d #[⟨.mark m,false,true⟩] } (G (b.at (a.put o.dst (.tuple #[])) (.inRegion ops rest::k)) cs) x) :
 JG P Post C (G (b.at a (.inRegion ops (i::rest)::k)) cs) x:=fun w hT =>
 J.step rfl fun n=>⟨_,w.at n,_,stepG_mark0 m hm.1 ho hw hk hop hf hname hb hn he,Xc6 hm.2.1 (hm.2.2 _),Nat.le_refl _,⟨fun _ _ _ h=>h,fun _ _ _ h _=>h⟩,rfl,(h w hT).at n⟩
theorem JG.markAt {mk:Addr→Mark} {ad:Addr} {f:FuncId} {fn:Func} {ats:Array TypeId} {as:Array Operand} (hm:(∀ ad g,mk ad≠.extern g)∧(∀ ad a,mk ad≠.read a∧mk ad≠.write a)∧(∀ ad,mk ad≠.disable∧mk ad≠.enable)∧∀ ad B,ad.block < B→(MemAct.ofEvent ⟨.mark (mk ad),false,true⟩).low B) (ho:ops[i]? = some o) (hw:Region.wanted o (yielded ops a.tmps)=true) (hk:b.kind≠.early)
 (hop:o.op=.call { callee:=.value (.func f),args:=as,argTypes:=ats })
 (hf : P.funcs[f]? = some fn) (hname : (fn.name == "runtime.NumGoroutine") = false) (hb : fn.body.isNone = true) (hn : Extern.findNext fn = none)
 (he:Extern.find fn=some (Extern.Race.marked mk)) (hx:(as.map a.eval)[0]? = some (.pointer (some ad))) (hlt:ad.block < x.heap.size)
 (h:JG P Post C (G (b.at (a.put o.dst (.tuple #[])) (.inRegion ops rest::k)) cs) x) :
 JG P Post C (G (b.at a (.inRegion ops (i::rest)::k)) cs) x:=fun w hT =>
 J.step rfl fun n=>⟨_,w.at n,_,stepG_markAt mk hm.1 ho hw hk hop hf hname hb hn he hx,Xc6 (hm.2.1 ad) (hm.2.2.2 ad _ (by rw [hT.size] at hlt;exact hlt)),Nat.le_refl _,⟨fun _ _ _ h=>h,fun _ _ _ h _=>h⟩,rfl,by
  have hd:deafBehind C.d #[⟨.mark (mk ad),false,true⟩] = C.d:=deafBehind_still (fun e h=>by
   have h:=List.mem_singleton.1 (by simpa using h:e∈[(⟨.mark (mk ad),false,true⟩:Event)]);subst h;exact ⟨fun e=>(hm.2.2.1 ad).1 (Loc.mark.inj e),fun e=>(hm.2.2.1 ad).2 (Loc.mark.inj e)⟩) _
  rw [hd];exact (h w hT).at n⟩
theorem JG.disable {f:FuncId} {fn:Func} {ats:Array TypeId} {as:Array Operand} (ho:ops[i]? = some o) (hw:Region.wanted o (yielded ops a.tmps)=true) (hk:b.kind≠.early)
 (hop:o.op=.call { callee:=.value (.func f),args:=as,argTypes:=ats })
 (hf : P.funcs[f]? = some fn) (hname : (fn.name == "runtime.NumGoroutine") = false) (hb : fn.body.isNone = true) (hn : Extern.findNext fn = none)
 (he:Extern.find fn=some (fun _=>do mark .disable;pure Extern.Race.none_))
 (h:JG P Post { C with d:=C.d + 1 } (G (b.at (a.put o.dst (.tuple #[])) (.inRegion ops rest::k)) cs) x):JG P Post C (G (b.at a (.inRegion ops (i::rest)::k)) cs) x :=
 JG.mark0 (m:=.disable) ⟨fun g h=>(by cases h),fun a=>⟨fun h=>(by cases h),fun h=>(by cases h)⟩,fun B=>(by simp [MemAct.ofEvent,MemAct.low])⟩ ho hw hk hop hf hname hb hn he h
theorem JG.enable {f:FuncId} {fn:Func} {ats:Array TypeId} {as:Array Operand} (ho:ops[i]? = some o) (hw:Region.wanted o (yielded ops a.tmps)=true) (hk:b.kind≠.early)
 (hop:o.op=.call { callee:=.value (.func f),args:=as,argTypes:=ats })
 (hf : P.funcs[f]? = some fn) (hname : (fn.name == "runtime.NumGoroutine") = false) (hb : fn.body.isNone = true) (hn : Extern.findNext fn = none)
 (he:Extern.find fn=some (fun _=>do mark .enable;pure Extern.Race.none_))
 (h:JG P Post { C with d:=C.d - 1 } (G (b.at (a.put o.dst (.tuple #[])) (.inRegion ops rest::k)) cs) x):JG P Post C (G (b.at a (.inRegion ops (i::rest)::k)) cs) x :=
 JG.mark0 (m:=.enable) ⟨fun g h=>(by cases h),fun a=>⟨fun h=>(by cases h),fun h=>(by cases h)⟩,fun B=>(by simp [MemAct.ofEvent,MemAct.low])⟩ ho hw hk hop hf hname hb hn he h
theorem JG.acquire {ad:Addr} {f:FuncId} {fn:Func} {ats:Array TypeId} {as:Array Operand} (ho:ops[i]? = some o) (hw:Region.wanted o (yielded ops a.tmps)=true) (hk:b.kind≠.early)
 (hop:o.op=.call { callee:=.value (.func f),args:=as,argTypes:=ats })
 (hf : P.funcs[f]? = some fn) (hname : (fn.name == "runtime.NumGoroutine") = false) (hb : fn.body.isNone = true) (hn : Extern.findNext fn = none)
 (he:Extern.find fn=some (Extern.Race.marked .acquire)) (hx:(as.map a.eval)[0]? = some (.pointer (some ad))) (hlt:ad.block < x.heap.size)
 (h:JG P Post C (G (b.at (a.put o.dst (.tuple #[])) (.inRegion ops rest::k)) cs) x):JG P Post C (G (b.at a (.inRegion ops (i::rest)::k)) cs) x :=
 JG.markAt (mk:=.acquire) ⟨fun ad g h=>(by cases h),fun ad a=>⟨fun h=>(by cases h),fun h=>(by cases h)⟩,fun ad=>⟨fun h=>(by cases h),fun h=>(by cases h)⟩,fun ad B h=>(by simpa [MemAct.ofEvent,MemAct.low] using h)⟩ ho hw hk hop hf hname hb hn he hx hlt h
theorem JG.releaseM {ad:Addr} {f:FuncId} {fn:Func} {ats:Array TypeId} {as:Array Operand} (ho:ops[i]? = some o) (hw:Region.wanted o (yielded ops a.tmps)=true) (hk:b.kind≠.early)
 (hop:o.op=.call { callee:=.value (.func f),args:=as,argTypes:=ats })
 (hf : P.funcs[f]? = some fn) (hname : (fn.name == "runtime.NumGoroutine") = false) (hb : fn.body.isNone = true) (hn : Extern.findNext fn = none)
 (he:Extern.find fn=some (Extern.Race.marked .releaseMerge)) (hx:(as.map a.eval)[0]? = some (.pointer (some ad))) (hlt:ad.block < x.heap.size)
 (h:JG P Post C (G (b.at (a.put o.dst (.tuple #[])) (.inRegion ops rest::k)) cs) x):JG P Post C (G (b.at a (.inRegion ops (i::rest)::k)) cs) x :=
 JG.markAt (mk:=.releaseMerge) ⟨fun ad g h=>(by cases h),fun ad a=>⟨fun h=>(by cases h),fun h=>(by cases h)⟩,fun ad=>⟨fun h=>(by cases h),fun h=>(by cases h)⟩,fun ad B h=>(by simpa [MemAct.ofEvent,MemAct.low] using h)⟩ ho hw hk hop hf hname hb hn he hx hlt h
end
theorem U4 {P:Program} {S:YK} {t:TypeId} {m:Nat} {k v:Value} (hm:¬ S.objs m):Sim P S (fun _=>True) (Instr.mapUpdate t (.map (some m)) k v):=by
 unfold Instr.mapUpdate;refine Sim.bind X1 fun d _=>?_
 split
 ·refine Sim.bind UA fun o _=>?_
  split
  ·refine Sim.bind (ZR _ _ _) fun _ _=>Sim.bind WZ fun q _=>?_
   split
   ·exact Sim.bind Q8 fun _ _=>YE hm
   ·exact YE hm
  ·exact Xv
 ·exact Xv
section
variable {P:Program} {Post:Value→World→Prop} {C:Ctx} {g:Goroutine} {x:World} {b:Frame} {a:Act} {k:List Item} {cs:List Frame} {F:Fns} {ops:Array Oper} {i:Nat} {rest:List Nat} {o:Oper}
theorem J.objs {w:World} (h:(∀ r,C.prot.objs r→∃ k,w.heap[r]? = some (.chan 0 #[] false k k false))→J P Post C g w):J P Post C g w:=fun k B T gs sl q hio hB hn hg hT =>
 h (fun r ⟨i,s,hi,e,hc⟩=>by obtain ⟨_,_,kk,hk⟩:=hT.chan i s hi e;exact ⟨kk,by rw [← hc];exact hk⟩) k B T gs sl q hio hB hn hg hT
theorem J.opS {w:World} (hT:X6 C.prot x w) (hs:Sim P C.prot (Zm F) (execOp a.eval o)) (ho:ops[i]? = some o) (hw:Region.wanted o (yielded ops a.tmps)=true) (hk:b.kind≠.early)
 (h:∀ K E,(∀ a' y,JG P Post C (G (b.at a' (.inRegion ops rest::k)) cs) y→K a' y)→(∀ f args y,JG P Post C (G (Frame.enter P f args .normal) (b.at a (.inRegion ops (i::rest)::k)::cs)) y→E f args y)→∀ τ d,uponE o a K E ((execOp a.eval o).run P (under x τ d))) :
 J P Post C (G (b.at a (.inRegion ops (i::rest)::k)) cs) w:=by
 refine J.step rfl fun d=>?_;obtain ⟨n,f,hb|⟨r,hf,hr,evs,he,hev⟩⟩:=hs x (w.at d) (hT.mvr w.tape d)
 ·exfalso
  obtain ⟨hh,y,e,hbad⟩:=hb (fun j _=>f j) 0 (fun j _ _=>by simp)
  have:=h (fun _ _=>True) (fun _ _ _=>True) (fun _ _ _=>trivial) (fun _ _ _ _=>trivial) (fun j _=>f j) 0
  rw [e] at this;exact this
 ·have h1:=h (fun a' y=>JG P Post C (G (b.at a' (.inRegion ops rest::k)) cs) y) (fun f args y=>JG P Post C (G (Frame.enter P f args .normal) (b.at a (.inRegion ops (i::rest)::k)::cs)) y) (fun _ _ h=>h) (fun _ _ _ h=>h) (fun j _=>f j) 0
  rw [hr (fun j _=>f j) 0 (fun j _ _=>by simp)] at h1;have hev':∀ e∈listed P b.fn a o (w.at d),EvG C.prot (Result.world ((execOp a.eval o).run P (w.at d))).heap.size e:=fun e hm=>hev e (by have:=mem_listed hm;rw [he] at this;simpa using this);have hstay:=UU.of_events (P:=P) (S:=C.prot) (w:=w.at d) (s:=execOp a.eval o) (B:=(Result.world ((execOp a.eval o).run P (w.at d))).heap.size) fun e hm=>hev e (by rw [he] at hm;simpa using hm);cases hrw:(execOp a.eval o).run P (w.at d) with
  | halt hh w₁ =>
   rw [hrw] at hf;cases hf with
   | panic _ _ _=>exact h1.elim
  | ok q w₁ =>
   rw [hrw] at hf hev' hstay;cases hf with
   | @ok a' _ y _ hN hT₁ ht hsz =>
    obtain ⟨rfl,_⟩:=hN;have hd:∀ es:Array Event,(∀ e∈es,EvG C.prot w₁.heap.size e)→({ C with d:=deafBehind C.d es }:Ctx)=C:=fun es h=>by rw [EvG.still h]
    have hst:UU C.prot w w₁:=⟨hstay.cells,hstay.objs⟩
    cases a' with
    | value v =>
     refine ⟨_,w₁,listed P b.fn a o (w.at d),stepG_value ho hw hk hrw,fun e he=>(hev' e he).evT,hsz,hst,ht,?_⟩;rw [hd _ hev'];exact h1 w₁ (hT₁.mvl _ _)
    | skip =>
     refine ⟨_,w₁,listed P b.fn a o (w.at d),stepG_none ho hw hk hrw,fun e he=>(hev' e he).evT,hsz,hst,ht,?_⟩;rw [hd _ hev'];exact h1 w₁ (hT₁.mvl _ _)
    | enter f args =>
     refine ⟨_,w₁,listed P b.fn a o (w.at d),stepG_enter ho hw hk hrw,fun e he=>(hev' e he).evT,hsz,hst,ht,?_⟩;rw [hd _ hev'];exact h1 w₁ (hT₁.mvl _ _)
    | _=>exact h1.elim
theorem JG.mapUpd {t:TypeId} {om ok ov:Operand} {mb:Nat} {es:Array MapEntry} {cl:Nat} (hop:o.op=.mapUpdate t om ok ov) (hmv:a.eval om=.map (some mb)) (hmb:x.heap[mb]? = some (.map es cl)) (ho:ops[i]? = some o) (hw:Region.wanted o (yielded ops a.tmps)=true) (hk:b.kind≠.early)
 (h:∀ K E,(∀ a' y,JG P Post C (G (b.at a' (.inRegion ops rest::k)) cs) y→K a' y)→(∀ f args y,JG P Post C (G (Frame.enter P f args .normal) (b.at a (.inRegion ops (i::rest)::k)::cs)) y→E f args y)→∀ τ d,uponE o a K E ((execOp a.eval o).run P (under x τ d))) :
 JG P Post C (G (b.at a (.inRegion ops (i::rest)::k)) cs) x:=fun w hT=>by
 refine J.objs fun hobj=>?_;have hn:¬ C.prot.objs mb:=fun z=>by
  obtain ⟨kk,e⟩:=hobj mb z;have h2:=hT.obj (fun _ _ _ e=>by cases e) hmb;rw [h2] at e;cases e
 refine J.opS (F:={ fn:=fun _=>false,maps:=false,top:=fun _=>false,ext:=fun _=>false }) hT ?_ ho hw hk h;unfold execOp;rw [hop];show Sim P C.prot _ (do Instr.mapUpdate t (a.eval om) (a.eval ok) (a.eval ov);pure Next.skip);rw [hmv];exact Xb8 (U4 hn)
end
theorem sim_close1 {P:Program} {S:YK} {ts:Array TypeId} {t:TypeId} {m:Nat} (hm:¬ S.objs m):Sim P S (fun _=>True) (Builtin.close_ ts t #[.chan (some m)]):=by
 refine Sim.bind (UA (r:=m)) fun o _=>?_;cases o with
 | chan room buf closed sent received timer =>
  cases closed with
  | true=>exact Sim.bind (Yy (N:=fun _=>True)) fun _ _=>Sim.bind (YE hm) fun _ _=>Sim.pure trivial
  | false=>exact Sim.bind (YE hm) fun _ _=>Sim.pure trivial
 | _=>exact Xv
section
variable {P:Program} {Post:Value→World→Prop} {C:Ctx} {x:World} {b:Frame} {a:Act} {k:List Item} {cs:List Frame} {ops:Array Oper} {i:Nat} {rest:List Nat} {o:Oper}
theorem JG.close {ts:Array TypeId} {as:Array Operand} {m:Nat} (hop:o.op=.call { callee:=.builtin .close,args:=as,argTypes:=ts }) (hav:as.map a.eval=#[.chan (some m)])
 (hn:¬ C.prot.objs m) (ho:ops[i]? = some o) (hw:Region.wanted o (yielded ops a.tmps)=true) (hk:b.kind≠.early)
 (h:∀ K E,(∀ a' y,JG P Post C (G (b.at a' (.inRegion ops rest::k)) cs) y→K a' y)→(∀ f args y,JG P Post C (G (Frame.enter P f args .normal) (b.at a (.inRegion ops (i::rest)::k)::cs)) y→E f args y)→∀ τ d,uponE o a K E ((execOp a.eval o).run P (under x τ d))) :
 JG P Post C (G (b.at a (.inRegion ops (i::rest)::k)) cs) x:=fun w hT=>by
 refine J.opS (F:={ fn:=fun _=>false,maps:=false,top:=fun _=>false,ext:=fun _=>false }) hT ?_ ho hw hk h;unfold execOp;rw [hop];show Sim P C.prot _ (do let r ← Builtin.close_ ts o.type (as.map a.eval);pure (Next.value r));rw [hav];exact Yr (sim_close1 hn)
