/- The judgement J in a ghost world: a send that gives the token away, a go statement, deferred calls, recover, panics. -/
import Derived.Test.YtdhnggjmegilkaaSPlA
import Derived.Test.YtdhnggjmegilkaaSGoQ
import Derived.Conc.Own5
import Derived.Conc.TokenWalk
set_option linter.all false
set_option maxRecDepth 100000
set_option maxHeartbeats 16000000
namespace Go.Proofs.Ytdhnggjmegilkaa
open Go.Conc
def JG (P:Program) (Post:Value→World→Prop) (C:Ctx) (g:Goroutine) (x:World):Prop:=∀ w,X6 C.prot x w→J P Post C g w
section
variable {P:Program} {Post:Value→World→Prop} {C:Ctx} {g g':Goroutine} {x:World} {b:Frame} {a:Act} {k:List Item} {cs:List Frame} {F:Fns}
theorem J.back:Xgg P C.prot (C.h == 0) (J P Post C):=fun fr cs w h=>by
 refine J.step rfl fun d=>?_;obtain ⟨g',w',es,h1,h2,h3,h4,h5,h6⟩:=h d;refine ⟨g',w',es,h1,fun e he=>(h2 e he).evT,h3,h5,h4,?_⟩
 have:deafBehind C.d es=C.d:=EvG.still h2
 rw [this];exact h6
theorem JG.tap {τ:Nat→Question→Nat} {d:Nat} (h:JG P Post C g x):JG P Post C g (under x τ d):=fun w hT=>h w (by have:=hT.mvl x.tape x.drawn;exact this)
theorem JG.freeze {ad:Addr} {n:Nat} (hl:C.lo≤ad.block) (h:JG P Post C g (x.freeze ad n)):JG P Post C g x:=fun w hT=>h w (hT.freezeL ad n hl)
theorem JG.ctl (hrun:g.status=.running) (hst:∀ main w,stepG P main g w=.go g' w) (h:JG P Post C g' x):JG P Post C g x:=fun w hT =>
 J.step hrun fun k=>⟨g',w.at k,#[],hst _ _,by simp,Nat.le_refl _,⟨fun _ _ _ h=>h,fun _ _ _ h _=>h⟩,rfl,(h w hT).at k⟩
theorem JG.seq {c e:Code} (h:JG P Post C (G (b.at a (.code c::.code e::k)) cs) x):JG P Post C (G (b.at a (.code (.seq c e)::k)) cs) x:=.ctl rfl (fun _ _=>stepG_seq) h
theorem JG.skip (h:JG P Post C (G (b.at a k) cs) x):JG P Post C (G (b.at a (.code .skip::k)) cs) x:=.ctl rfl (fun _ _=>stepG_skip) h
theorem JG.label {l:Nat} (h:JG P Post C (G (b.at a k) cs) x):JG P Post C (G (b.at a (.code (.label l)::k)) cs) x:=.ctl rfl (fun _ _=>stepG_label) h
theorem JG.inBlock {id:Nat} (h:JG P Post C (G (b.at a k) cs) x):JG P Post C (G (b.at a (.inBlock id::k)) cs) x:=.ctl rfl (fun _ _=>stepG_inBlock) h
theorem JG.cond {o:Operand} {c e:Code} {t:Bool} (ht:a.eval o=.bool t) (h:JG P Post C (G (b.at a (.code (if t then c else e)::k)) cs) x):JG P Post C (G (b.at a (.code (.cond o c e)::k)) cs) x:=.ctl rfl (fun _ _=>stepG_cond ht) h
theorem JG.condT {o:Operand} {c e:Code} (ht:a.eval o=.bool true) (h:JG P Post C (G (b.at a (.code c::k)) cs) x):JG P Post C (G (b.at a (.code (.cond o c e)::k)) cs) x:=.cond ht h
theorem JG.condF {o:Operand} {c e:Code} (ht:a.eval o=.bool false) (h:JG P Post C (G (b.at a (.code e::k)) cs) x):JG P Post C (G (b.at a (.code (.cond o c e)::k)) cs) x:=.cond ht h
theorem JG.block {id:Nat} {c:Code} (h:JG P Post C (G (b.at a (.code c::.inBlock id::k)) cs) x):JG P Post C (G (b.at a (.code (.block id c)::k)) cs) x:=.ctl rfl (fun _ _=>stepG_block) h
theorem JG.loop {c:Code} (h:JG P Post C (G (b.at a (.code c::.inLoop c::k)) cs) x):JG P Post C (G (b.at a (.code (.loop c)::k)) cs) x:=.ctl rfl (fun _ _=>stepG_loop) h
theorem JG.inLoop {c:Code} (h:JG P Post C (G (b.at a (.code c::.inLoop c::k)) cs) x):JG P Post C (G (b.at a (.inLoop c::k)) cs) x:=.ctl rfl (fun _ _=>stepG_inLoop) h
theorem JG.exit {id:Nat} {k':List Item} (he:exitTo id k=some k') (h:JG P Post C (G (b.at a k') cs) x):JG P Post C (G (b.at a (.code (.exit id)::k)) cs) x:=.ctl rfl (fun _ _=>stepG_exit he) h
theorem JG.region {id:Nat} {ops:Array Oper} (h:JG P Post C (G (b.at a (.inRegion ops (List.range ops.size)::k)) cs) x):JG P Post C (G (b.at a (.code (.region id ops false)::k)) cs) x:=.ctl rfl (fun _ _=>stepG_region) h
theorem JG.done {ops:Array Oper} (h:JG P Post C (G (b.at a k) cs) x):JG P Post C (G (b.at a (.inRegion ops []::k)) cs) x:=.ctl rfl (fun _ _=>stepG_region_end) h
theorem JG.fin (h:JG P Post C (G { b.at a [] with mode:=.returning } cs) x):JG P Post C (G (b.at a []) cs) x:=.ctl rfl (fun _ _=>stepG_end) h
theorem JG.ret (h:JG P Post C (G { b.at a (.code .ret::k) with mode:=.returning } cs) x):JG P Post C (G (b.at a (.code .ret::k)) cs) x:=.ctl rfl (fun _ _=>by simp [G,stepG,stepG.exec,Frame.at]) h
theorem JG.unwanted {ops:Array Oper} {i:Nat} {rest:List Nat} {o:Oper} (ho:ops[i]? = some o) (hw:Region.wanted o (yielded ops a.tmps)=false) (h:JG P Post C (G (b.at (a.put o.dst undef) (.inRegion ops rest::k)) cs) x):JG P Post C (G (b.at a (.inRegion ops (i::rest)::k)) cs) x :=
 .ctl rfl (fun _ _=>stepG_unwanted ho hw) h
theorem JG.draw {id:Nat} {ops:Array Oper} (h:∀ n,JG P Post C (G (b.at a (.inRegion ops (Region.schedule (P.follows .mixedOrders) ops n)::k)) cs) x):JG P Post C (G (b.at a (.code (.region id ops true)::k)) cs) x:=fun w hT =>
 J.step rfl fun d=>⟨G (b.at a (.inRegion ops (Region.schedule (P.follows .mixedOrders) ops ((w.at d).tape (w.at d).drawn (.order b.fn id)))::k)) cs,w.at (d + 1),#[],by
  simp [G,Frame.at,stepG,stepG.exec,choose,Sem.run,Question.forced,Question.cut,World.at],by simp,Nat.le_refl _,⟨fun _ _ _ h=>h,fun _ _ _ h _=>h⟩,rfl,((h _) w hT).at (d + 1)⟩
section
variable {ops:Array Oper} {i:Nat} {rest:List Nat} {o:Oper}
theorem JG.val {v:Value} (ho:ops[i]? = some o) (hw:Region.wanted o (yielded ops a.tmps)=true) (hk:b.kind≠.early) (hr:∀ w,(execOp a.eval o).run P w=.ok (.value v) w) (he:∀ w,(execOp a.eval o).events P w #[] = #[])
 (h:JG P Post C (G (b.at (a.put o.dst v) (.inRegion ops rest::k)) cs) x):JG P Post C (G (b.at a (.inRegion ops (i::rest)::k)) cs) x :=
 .ctl rfl (fun _ w=>by rw [stepG_value ho hw hk (hr w),listed_none (he w)]) h
theorem JG.op (hF:Q7 P F) (hM:F.maps=true→∀ r,¬ C.prot.objs r) (hm:mild F o.op=true) (ho:ops[i]? = some o) (hw:Region.wanted o (yielded ops a.tmps)=true) (hk:b.kind≠.early)
 (h:∀ K E,(∀ a' y,JG P Post C (G (b.at a' (.inRegion ops rest::k)) cs) y→K a' y)→(∀ f args y,JG P Post C (G (Frame.enter P f args .normal) (b.at a (.inRegion ops (i::rest)::k)::cs)) y→E f args y)→∀ τ d,uponE o a K E ((execOp a.eval o).run P (under x τ d))) :
 JG P Post C (G (b.at a (.inRegion ops (i::rest)::k)) cs) x:=fun w hT=>by
 refine J.step rfl fun d=>?_;have hs:=QO (P:=P) (S:=C.prot) hF hM (ρ:=a.eval) (fun f=>rfl) hm;obtain ⟨n,f,hb|⟨r,hf,hr,evs,he,hev⟩⟩:=hs x (w.at d) (hT.mvr w.tape d)
 ·exfalso
  obtain ⟨hh,y,e,hbad⟩:=hb (fun j _=>f j) 0 (fun j _ _=>by simp)
  have:=h (fun _ _=>True) (fun _ _ _=>True) (fun _ _ _=>trivial) (fun _ _ _ _=>trivial) (fun j _=>f j) 0
  rw [e] at this;exact this
 ·have h1:=h (fun a' y=>JG P Post C (G (b.at a' (.inRegion ops rest::k)) cs) y) (fun f args y=>JG P Post C (G (Frame.enter P f args .normal) (b.at a (.inRegion ops (i::rest)::k)::cs)) y) (fun _ _ h=>h) (fun _ _ _ h=>h) (fun j _=>f j) 0
  rw [hr (fun j _=>f j) 0 (fun j _ _=>by simp)] at h1;have hev':∀ e∈listed P b.fn a o (w.at d),EvG C.prot (Result.world ((execOp a.eval o).run P (w.at d))).heap.size e:=fun e hm=>hev e (by have:=mem_listed hm;rw [he] at this;simpa using this);have hstay:=UU.of_events (P:=P) (S:=C.prot) (w:=w.at d) (s:=execOp a.eval o) (B:=(Result.world ((execOp a.eval o).run P (w.at d))).heap.size) fun e hm=>hev e (by rw [he] at hm;simpa using hm);cases hrw:(execOp a.eval o).run P (w.at d) with
  | halt hh w₁ =>
   rw [hrw] at hf;cases hf with
   | panic _ _ _=>exact h1.elim
  | ok q w₁ =>
   rw [hrw] at hf hev' hstay;cases hf with
   | @ok a' _ y _ hN hT₁ ht hsz =>
    obtain ⟨rfl,_⟩:=hN;have hd:∀ es:Array Event,(∀ e∈es,EvG C.prot w₁.heap.size e)→({ C with d:=deafBehind C.d es }:Ctx)=C:=fun es h=>by rw [EvG.still h]
    have hst:UU C.prot w w₁:=⟨hstay.cells,hstay.objs⟩
    cases a' with
    | value v =>
     refine ⟨_,w₁,listed P b.fn a o (w.at d),stepG_value ho hw hk hrw,fun e he=>(hev' e he).evT,hsz,hst,ht,?_⟩;rw [hd _ hev'];exact h1 w₁ (hT₁.mvl _ _)
    | skip =>
     refine ⟨_,w₁,listed P b.fn a o (w.at d),stepG_none ho hw hk hrw,fun e he=>(hev' e he).evT,hsz,hst,ht,?_⟩;rw [hd _ hev'];exact h1 w₁ (hT₁.mvl _ _)
    | enter f args =>
     refine ⟨_,w₁,listed P b.fn a o (w.at d),stepG_enter ho hw hk hrw,fun e he=>(hev' e he).evT,hsz,hst,ht,?_⟩;rw [hd _ hev'];exact h1 w₁ (hT₁.mvl _ _)
    | _=>exact h1.elim
theorem JG.call {f:FuncId} {args:Array Value} (ho:ops[i]? = some o) (hw:Region.wanted o (yielded ops a.tmps)=true) (hk:b.kind≠.early) (hr:∀ w,(execOp a.eval o).run P w=.ok (.enter f args) w) (he:∀ w,(execOp a.eval o).events P w #[] = #[])
 (h:JG P Post C (G (Frame.enter P f args .normal) (b.at a (.inRegion ops (i::rest)::k)::cs)) x):JG P Post C (G (b.at a (.inRegion ops (i::rest)::k)) cs) x :=
 .ctl rfl (fun _ w=>by rw [stepG_enter ho hw hk (hr w),listed_none (he w)]) h
end
def QK (K R:Act→World→Prop):Exit→Act→World→Prop
 | .normal,a,w=>K a w
 | .ret,a,w=>a.defers = []∧R a w
 | _,_,_=>False
theorem JG.code {c:Code} (hC:Closed P C.prot F) (hc:YY F c=true) (hb:b.kind=.normal) (hf:F.fn b.fn=true∨F.top b.fn=true) (ha:a.defers = [])
 (h:∀ K R,(∀ a' y,JG P Post C (G (b.at a' k) cs) y→K a' y)→(∀ a' y,(∀ todo,JG P Post C (G { b.at a' todo with mode:=.returning } cs) y)→R a' y)→∀ τ,c.wp P (QK K R) a (under x τ 0)) :
 JG P Post C (G (b.at a (.code c::k)) cs) x:=fun w hT =>
 XcJ (Q:=QK (fun a' y=>JG P Post C (G (b.at a' k) cs) y) (fun a' y=>∀ todo,JG P Post C (G { b.at a' todo with mode:=.returning } cs) y)) hC J.back hc hb hf ha hT (h _ _ (fun _ _ h=>h) (fun _ _ h=>h))
  (fun e a' x' hq=>by cases e<;>first|exact .inl rfl|exact .inr ⟨rfl,hq.1⟩|exact hq.elim)
  (fun a' x' w' hT' hq=>hq w' hT') (fun a' x' w' todo hT' hq _=>hq.2 todo w' hT')
theorem JG.calls {c:Frame} {f:FuncId} {args:Array Value} {Q:Value→World→Prop} (hC:Closed P C.prot F) (hf:F.fn f=true) (hlone:∀ τ,Calls P f args (under x τ 0) fun e y=>∃ v,e=.returned v∧Q v y)
 (h:∀ v y,Q v y→JG P Post C (G (c.finish v) cs) y):JG P Post C (G (Frame.enter P f args .normal) (c::cs)) x:=fun w hT =>
 lift (Post:=Q) hC J.back hf hT (fun τ=>.of_calls (hlone τ)) fun v x' w' hT' hq=>h v x' hq w' hT'
theorem JG.leave {c:Frame} {fn:Func} {todo:List Item} {v:Value} (hk:b.kind=.normal) (hd:a.defers = []) (hf:P.funcs[b.fn]? = some fn) (hr:∀ τ d,(results fn a.tmps).run P (under x τ d)=.ok v (under x τ d))
 (h:JG P Post C (G (c.finish v) cs) x):JG P Post C (G { b.at a todo with mode:=.returning } (c::cs)) x:=fun w hT=>by
 refine J.step rfl fun d=>?_;have hst:stepG P (C.h == 0) (G { b.at a todo with mode:=.returning } (c::cs)) (w.at d)=GStep.after (seen P b.fn ((results fn a.tmps).events P (w.at d) #[])) (match (results fn a.tmps).run P (w.at d) with
  | .ok v w=>.go (G (c.finish v) cs) w
  | .halt (.stuck s) w=>.ended (.stuck s (({ b.at a todo with mode:=.returning }:Frame).pos P)) w
  | .halt _ w => .ended (.stuck "return: the result variables cannot be read" (({ b.at a todo with mode := .returning } : Frame).pos P)) w) := by
  simp only [G,Frame.at,hk,hd,stepG,unwind,hf,Sem.runT_eq]
  congr 1
 obtain ⟨n,g,hb|⟨r,hf',hr',evs,he,hev⟩⟩:=Ux (P:=P) (S:=C.prot) (fn:=fn) (tmps:=a.tmps) x (w.at d) (hT.mvr w.tape d)
 ·exfalso
  obtain ⟨hh,y,e,hbad⟩:=hb (fun j _=>g j) 0 (fun j _ _=>by simp);rw [hr] at e;cases e
 ·have h1:=hr' (fun j _=>g j) 0 (fun j _ _=>by simp)
  rw [hr] at h1;have hstay:=UU.of_events (P:=P) (S:=C.prot) (w:=w.at d) (s:=results fn a.tmps) (B:=(Result.world ((results fn a.tmps).run P (w.at d))).heap.size) fun e hm=>hev e (by rw [he] at hm;simpa using hm);cases hrw:(results fn a.tmps).run P (w.at d) with
  | halt hh w₁ =>
   rw [hrw] at hf';cases hf' with
   | panic _ _ _=>cases h1
  | ok q w₁ =>
   rw [hrw] at hf' hev hstay;cases hf' with
   | @ok a' _ y _ hN hT₁ ht hsz =>
    obtain ⟨rfl,_⟩:=hN;simp only [Result.tap,Result.ok.injEq] at h1;obtain ⟨rfl,h2⟩:=h1;have hev':∀ e∈seen P b.fn ((results fn a.tmps).events P (w.at d) #[]),EvG C.prot w₁.heap.size e:=fun e hm=>hev e (by have:=mem_seen hm;rw [he] at this;simpa using this);refine ⟨G (c.finish v) cs,w₁,seen P b.fn ((results fn a.tmps).events P (w.at d) #[]) ++ #[],by rw [hst,hrw];rfl,fun e he=>(hev' e (by simpa using he)).evT,hsz,⟨hstay.cells,hstay.objs⟩,ht,?_⟩;have hd:deafBehind C.d (seen P b.fn ((results fn a.tmps).events P (w.at d) #[]) ++ #[])=C.d:=EvG.still (S:=C.prot) (B:=w₁.heap.size) fun e he=>hev' e (by simpa using he);rw [hd];have h3:JG P Post C (G (c.finish v) cs) (under y (fun j _=>g j) (0 + n)):=h2 ▸ h.tap;exact h3 w₁ (hT₁.mvl _ _)
end
end Go.Proofs.Ytdhnggjmegilkaa
namespace Go.Proofs.Ytdhnggjmegilkaa
open Go.Conc
open Go.ConcN (upd upd_same upd_ne)
section
variable {P:Program} {Post:Value→World→Prop} {C:Ctx} {g g':Goroutine} {x:World} {b:Frame} {a:Act} {k:List Item} {cs:List Frame}
theorem X6.seat {S:YK} {x w:World} (h:X6 S x w) {B:Nat} {Ch:Nat→Option XL} {hh:Nat} {s:XL} (f:XbN B Ch hh x s):XbN B Ch hh w s:=by
 obtain ⟨kk,hk⟩:=f.open_;exact ⟨f.low,⟨kk,h.obj (fun _ _ _ e=>by cases e) hk⟩,f.own,fun a v hv=>by rw [← h.cell? a];exact f.keep a v hv⟩
theorem served_G (fr:Frame) (cs:List Frame) (v:Value):Go.Conc.served (G fr cs) v=G (fr.finish v) cs:=rfl
section
variable {ops:Array Oper} {i:Nat} {rest:List Nat} {o:Oper}
theorem Qx (ho:ops[i]? = some o) (v:Value):Go.Conc.served (G (b.at a (.inRegion ops (i::rest)::k)) cs) v=G (b.at (a.put o.dst v) (.inRegion ops rest::k)) cs:=by
 rw [served_G,Frame.finish_at,ho];rfl
theorem JG.give {j:Nat} {s:XL} {v z':Value} (hd:C.d=0) (hjh:j≠C.h) (hj:C.Ch j=some s) (ho:ops[i]? = some o) (hw:Region.wanted o (yielded ops a.tmps)=true) (hk:b.kind≠.early)
 (hr:∀ w,(execOp a.eval o).run P w=.ok (.comm #[scase s.c v z'] true .send) w) (he:∀ w,(execOp a.eval o).events P w #[] = #[])
 (new:Option XL) (hnew:∀ s',new=some s'→XbN x.heap.size C.Ch C.h x s') (hfr:∀ s',new=some s'→∀ ad v,s'.kn ad v→x.frozen? ad=true)
 (hafter:∃ nh,∀ T',Deaf T' C.h=0→Rest P x.heap.size T' C.h nh (G (b.at (a.put o.dst undef) (.inRegion ops rest::k)) cs) new)
 (hnext:∀ g₂ kk,s.home g₂→x.heap[s.c]? = some (.chan 0 #[] false kk kk false)→JG P Post { Ch:=upd C.Ch C.h new,h:=j,d:=0,n:=C.n,lo:=C.lo,io:=C.io } (Go.Conc.served g₂ v) (x.setChan s.c 0 #[] false (kk + 1) (kk + 1) false)) :
 JG P Post C (G (b.at a (.inRegion ops (i::rest)::k)) cs) x:=fun w hT=>by
 have hsz:=hT.size;refine J.give (es:=#[]) hd hjh hj rfl (fun kk=>by rw [stepG_comm ho hw hk (hr _),listed_none (he _)]) (by simp) new (fun s' e=>by rw [← hsz];exact hT.seat (hnew s' e)) ?_ ?_
 ·rw [← hsz,Qx ho];exact hafter
 ·intro g₂ kk hh hc
  have hcx:x.heap[s.c]? = some (.chan 0 #[] false kk kk false):=by
   rcases hT.cases s.c with ⟨_,h2⟩|⟨o',o₂,h1,h2,rfl|⟨c,t,f',f,rfl,rfl,_⟩⟩
   ·rw [h2] at hc;cases hc
   ·rw [h1,← h2,hc]
   ·rw [h2] at hc;cases hc
  refine hnext g₂ kk hh hcx _ ?_
  have:=hT.set hcx (fun _ _ _ e=>by cases e) (.chan 0 #[] false (kk + 1) (kk + 1) false)
  refine X6.other (x:=x.setChan s.c 0 #[] false (kk + 1) (kk + 1) false) this (fun ad had=>?_) (Nat.le_refl _);have h1:x.frozen? ad=true:=by
   obtain ⟨i',s',v',hi,e,hv⟩:=had;have e:upd C.Ch C.h new i'=some s':=e
   by_cases ei:i'=C.h
   ·subst ei
    rw [upd_same] at e;exact hfr s' e ad v' hv
   ·rw [upd_ne C.Ch new ei] at e
    exact hT.still ad ⟨i',s',v',ei,e,hv⟩
  unfold World.frozen? at h1 ⊢;simp only [World.setChan]
  by_cases e:s.c=ad.block
  ·rw [← e,hcx] at h1;cases h1
  ·rw [Array.getElem?_setIfInBounds_ne e];exact h1
theorem JG.hire {d:Deferred} {f:Fn} {c:Array Value} (hd:C.d=0) (ho:ops[i]? = some o) (hw:Region.wanted o (yielded ops a.tmps)=true) (hk:b.kind≠.early)
 (hr:∀ w,(execOp a.eval o).run P w=.ok (.spawn d) w) (hdt:d.target=.fn f c) (he:∀ w,(execOp a.eval o).events P w #[] = #[])
 (s:XL) (hs:XbN x.heap.size C.Ch C.h x s) (hfr:∀ ad v,s.kn ad v→x.frozen? ad=true) (hchild:∃ nc,XbK P x.heap.size C.n s nc (born P d))
 (hnext:JG P Post { Ch:=upd C.Ch C.n (some s),h:=C.h,d:=0,n:=C.n + 1,lo:=C.lo,io:=C.io } (G (b.at (a.put o.dst undef) (.inRegion ops rest::k)) cs) x) :
 JG P Post C (G (b.at a (.inRegion ops (i::rest)::k)) cs) x:=fun w hT=>by
 have hsz:=hT.size;refine J.hire (es:=#[]) hd rfl (fun kk=>by rw [stepG_spawn ho hw hk (hr _) hdt,listed_none (he _)]) (by simp) s (by rw [← hsz];exact hT.seat hs) (by rw [← hsz];exact hchild) ?_;refine hnext w (hT.other (fun ad had=>?_) (Nat.le_refl _));obtain ⟨i,s',v,hi,e,hv⟩:=had
 by_cases ei:i=C.n
 ·subst ei
  have e:upd C.Ch C.n (some s) C.n=some s':=e;rw [upd_same] at e;obtain rfl:=Option.some.inj e;exact hfr ad v hv
 ·have e:upd C.Ch C.n (some s) i=some s':=e
  rw [upd_ne C.Ch _ ei] at e;exact hT.still ad ⟨i,s',v,hi,e,hv⟩
theorem QZ {main:Bool} {w:World} {d:Deferred} (ho:ops[i]? = some o) (hw:Region.wanted o (yielded ops a.tmps)=true) (hk:b.kind≠.early) (hr:∀ w,(execOp a.eval o).run P w=.ok (.defer d) w) (he:∀ w,(execOp a.eval o).events P w #[] = #[]) :
 stepG P main (G (b.at a (.inRegion ops (i::rest)::k)) cs) w=.go (G (b.at (Act.put ⟨a.tmps,d::a.defers⟩ o.dst undef) (.inRegion ops rest::k)) cs) w:=by
 have hfin:(b.at ⟨a.tmps,d::a.defers⟩ (.inRegion ops (i::rest)::k)).finish undef=b.at (Act.put ⟨a.tmps,d::a.defers⟩ o.dst undef) (.inRegion ops rest::k):=by rw [Frame.finish_at,ho];rfl
 have hk':(b.kind == CallKind.early)=false:=by simpa using hk
 rw [stepG_oper ho hw,← hfin];simp [stepG.apply,hr,he,G,Frame.at,hk',GStep.after,seen_none]
theorem JG.defer {d:Deferred} (ho:ops[i]? = some o) (hw:Region.wanted o (yielded ops a.tmps)=true) (hk:b.kind≠.early) (hr:∀ w,(execOp a.eval o).run P w=.ok (.defer d) w) (he:∀ w,(execOp a.eval o).events P w #[] = #[])
 (h:JG P Post C (G (b.at (Act.put ⟨a.tmps,d::a.defers⟩ o.dst undef) (.inRegion ops rest::k)) cs) x):JG P Post C (G (b.at a (.inRegion ops (i::rest)::k)) cs) x :=
 .ctl rfl (fun main w=>QZ ho hw hk hr he) h
theorem JG.recover0 (ho:ops[i]? = some o) (hw:Region.wanted o (yielded ops a.tmps)=true) (hk:b.kind≠.early) (hr:∀ w,(execOp a.eval o).run P w=.ok .recover w) (he:∀ w,(execOp a.eval o).events P w #[] = #[])
 (ht:tryRecover (b.at a (.inRegion ops (i::rest)::k)) cs=none)
 (h:JG P Post C (G (b.at (a.put o.dst .nilIface) (.inRegion ops rest::k)) cs) x):JG P Post C (G (b.at a (.inRegion ops (i::rest)::k)) cs) x:=by
 refine .ctl rfl (fun main w=>?_) h;have hfin:(b.at a (.inRegion ops (i::rest)::k)).finish .nilIface=b.at (a.put o.dst .nilIface) (.inRegion ops rest::k):=by rw [Frame.finish_at,ho];rfl
 have hk':(b.kind == CallKind.early)=false:=by simpa using hk
 rw [stepG_oper ho hw,← hfin];have hro:(b.at a (.inRegion ops (i::rest)::k)).roundOf=none:=rfl;simp only [stepG.apply,Sem.runT_eq,hr,he,GStep.after,seen_none,hro,ht];simp [G,Frame.at,hk',seen_none]
theorem JG.recover1 {v:Value} {cs':List Frame} (ho:ops[i]? = some o) (hw:Region.wanted o (yielded ops a.tmps)=true) (hk:b.kind≠.early) (hr:∀ w,(execOp a.eval o).run P w=.ok .recover w) (he:∀ w,(execOp a.eval o).events P w #[] = #[])
 (ht:tryRecover (b.at a (.inRegion ops (i::rest)::k)) cs=some (v,cs'))
 (h:JG P Post C (G (b.at (a.put o.dst v) (.inRegion ops rest::k)) cs') x):JG P Post C (G (b.at a (.inRegion ops (i::rest)::k)) cs) x:=by
 refine .ctl rfl (fun main w=>?_) h;have hfin:(b.at a (.inRegion ops (i::rest)::k)).finish v=b.at (a.put o.dst v) (.inRegion ops rest::k):=by rw [Frame.finish_at,ho];rfl
 have hk':(b.kind == CallKind.early)=false:=by simpa using hk
 rw [stepG_oper ho hw,← hfin];have hro:(b.at a (.inRegion ops (i::rest)::k)).roundOf=none:=rfl;simp only [stepG.apply,Sem.runT_eq,hr,he,GStep.after,seen_none,hro,ht];simp [G,Frame.at,hk',seen_none]
theorem JG.panic {v:Value} (ho:ops[i]? = some o) (hw:Region.wanted o (yielded ops a.tmps)=true) (hk:b.kind≠.early) (hr:∀ w,(execOp a.eval o).run P w=.halt (.panic v) w) (he:∀ w,(execOp a.eval o).events P w #[] = #[])
 (h:JG P Post C (G { b.at a (.inRegion ops (i::rest)::k) with mode:=.panicking [{ v,recovered:=false }] } cs) x):JG P Post C (G (b.at a (.inRegion ops (i::rest)::k)) cs) x:=by
 refine .ctl rfl (fun main w=>?_) h;have hk':(b.kind == CallKind.early)=false:=by simpa using hk
 rw [stepG_oper ho hw];simp [stepG.apply,hr,he,G,Frame.at,hk',GStep.after,seen_none,Frame.raise]
end
theorem V6 {main : Bool} {w : World} {d : Deferred} {ds : List Deferred} {f : FuncId} {c : Array Value} {fn : Func} {todo : List Item} {m : FrameMode} (hd : a.defers = d::ds) (ht : d.target = .fn (.func f) c) (hf : P.funcs[f]? = some fn) (hname : (fn.name == "runtime.NumGoroutine") = false) (hb : fn.body.isNone = false) :
 stepG P main (G { b.at a todo with mode:=m } cs) w=(match m with | .run=>stepG P main (G { b.at a todo with mode:=m } cs) w|_=>.go (G (Frame.enter P f (d.args ++ c) .deferred) ({ b.at ⟨a.tmps,ds⟩ todo with mode:=m }::cs)) w):=by
 obtain ⟨t,as⟩:=d;simp only at ht;subst ht;have h1 : ¬ fn.name = "runtime.NumGoroutine" := by simpa using hname
 have h2:¬ fn.body=none:=by intro e;rw [e] at hb;cases hb
 cases m with
 | run=>rfl
 | returning=>simp [G,stepG,unwind,callDeferred,Frame.at,hd,invoke,callFunc,hf,h1,h2,GStep.after,seen_none]
 | panicking ch=>simp [G,stepG,unwind,callDeferred,Frame.at,hd,invoke,callFunc,hf,h1,h2,GStep.after,seen_none]
theorem JG.unwind {d : Deferred} {ds : List Deferred} {f : FuncId} {c : Array Value} {fn : Func} {todo : List Item} {m : FrameMode} (hm : m ≠ .run) (hd : a.defers = d::ds) (ht : d.target = .fn (.func f) c) (hf : P.funcs[f]? = some fn) (hname : (fn.name == "runtime.NumGoroutine") = false) (hb : fn.body.isNone = false)
 (h:JG P Post C (G (Frame.enter P f (d.args ++ c) .deferred) ({ b.at ⟨a.tmps,ds⟩ todo with mode:=m }::cs)) x):JG P Post C (G { b.at a todo with mode:=m } cs) x :=
 .ctl rfl (fun main w=>by rw [V6 hd ht hf hname hb];cases m<;>first|exact absurd rfl hm|rfl) h
def X3 (c:Frame):Frame :=
 match c.mode with
 | .panicking ({ recovered:=true,.. }::older)=>match older.dropWhile (!·.goexit) with
  | []=>{ c with mode:=.returning }
  | rest=>{ c with mode:=.panicking rest }
 | _=>c
theorem YU {main:Bool} {w:World} {c:Frame} {fn:Func} {todo:List Item} (hk:b.kind=.deferred) (hd:a.defers = []) (hf:P.funcs[b.fn]? = some fn) (hr:fn.results=#[]) :
 stepG P main (G { b.at a todo with mode:=.returning } (c::cs)) w=.go (G (X3 c) cs) w:=by
 have h1:=results_none hr a.tmps P w;have h2:=events_results_none (P:=P) (w:=w) hr a.tmps #[];simp only [G,Frame.at,hk,hd,stepG,unwind,hf,Sem.runT_eq,h1,h2,doReturn,GStep.after,seen_none]
 rfl
theorem JG.leaveD {c:Frame} {fn:Func} {todo:List Item} (hk:b.kind=.deferred) (hd:a.defers = []) (hf:P.funcs[b.fn]? = some fn) (hr:fn.results=#[]) (h:JG P Post C (G (X3 c) cs) x) :
 JG P Post C (G { b.at a todo with mode:=.returning } (c::cs)) x:=.ctl rfl (fun main w=>YU hk hd hf hr) h
theorem WU {main:Bool} {w:World} {c:Frame} {fn:Func} {todo:List Item} {ch:List PanicEntry} (hd:a.defers = []) (hf:P.funcs[b.fn]? = some fn) :
 stepG P main (G { b.at a todo with mode:=.panicking ch } (c::cs)) w=.go (G (c.raise ch) cs) w:=by
 simp [G,Frame.at,stepG,unwind,hd,Frame.catches,hf]
theorem JG.raise {c:Frame} {fn:Func} {todo:List Item} {ch:List PanicEntry} (hd:a.defers = []) (hf:P.funcs[b.fn]? = some fn) (h:JG P Post C (G (c.raise ch) cs) x):JG P Post C (G { b.at a todo with mode:=.panicking ch } (c::cs)) x :=
 .ctl rfl (fun main w=>WU hd hf) h
def YX (P:Program):Frame:={ (default:Frame) with fn:=P.funcs.size,defers:=[],mode:=.panicking [goexitEntry] }
theorem Xbe {main : Bool} {w : World} {d : Deferred} {f : FuncId} {c : Array Value} {fn : Func} (ht : d.target = .fn (.func f) c) (hf : P.funcs[f]? = some fn) (hname : (fn.name == "runtime.NumGoroutine") = false) (hb : fn.body.isNone = false) :
 stepG P main (born P d) w=.go (G (Frame.enter P f (d.args ++ c) .deferred) [YX P]) w:=by
 obtain ⟨t,as⟩:=d;simp only at ht;subst ht;have h1 : ¬ fn.name = "runtime.NumGoroutine" := by simpa using hname
 have h2:¬ fn.body=none:=by intro e;rw [e] at hb;cases hb
 simp [born,G,stepG,unwind,callDeferred,invoke,callFunc,hf,h1,h2,GStep.after,seen_none,YX]
theorem Xbd {w:World}:stepG P false (G (YX P) []) w=.go { frame:=YX P,callers:=[],status:=.finished,dying:=none } w:=by
 simp [G,YX,stepG,unwind,Frame.catches,goexitEntry]
 rfl
theorem Vj:QuitsD P 1 0 (G (YX P) []):=.ctl rfl (fun w=>Xbd) ⟨rfl,rfl⟩
theorem JG.end {fn:Func} {todo:List Item} {v:Value} (h0:C.h=0) (hd:C.d=0) (hI:∀ i,i≠0→C.Ch i=none) (hk:b.kind=.normal) (hds:a.defers = []) (hf:P.funcs[b.fn]? = some fn) (hin:P.inits.idxOf? b.fn=none)
 (hr:∀ w,X6 C.prot x w→∀ d,(results fn a.tmps).run P (w.at d)=.ok v (w.at d)) (he:∀ w,(results fn a.tmps).events P w #[] = #[]) (hpost:∀ w,X6 C.prot x w→XcR w=C.io→∀ d,Post v (w.at d)) :
 JG P Post C (G { b.at a todo with mode:=.returning } []) x:=fun w hT =>
 J.end h0 hd hI rfl fun d=>⟨v,#[],by
  simp only [G,Frame.at,hk,hds,stepG,Go.unwind,hf,Sem.runT_eq,hr w hT d,he,doReturn,GStep.after,seen_none,hin]
  rfl,by simp,fun hio=>hpost w hT hio d⟩
