/- The judgement J in a ghost world (the real one, frozen at more places): control, operations, calls. -/
import Derived.Test.YtdgfekplfipekaaVPlA
import Derived.Test.YtdgfekplfipekaaVGoQ
import Derived.Conc.Own5
import Derived.Conc.TokenWalk
set_option linter.all false
set_option maxRecDepth 100000
set_option maxHeartbeats 16000000
namespace Go.Proofs.Ytdgfekplfipekaa
open Go.Conc
def JG (P:Program) (Post:Value→World→Prop) (C:Ctx) (g:Goroutine) (x:World):Prop:=∀ w,X6 C.prot x w→J P Post C g w
section
variable {P:Program} {Post:Value→World→Prop} {C:Ctx} {g g':Goroutine} {x:World} {b:Frame} {a:Act} {k:List Item} {cs:List Frame} {F:Fns}
theorem J.back:Xgg P C.prot (C.h == 0) (J P Post C):=fun fr cs w h=>by
 refine J.step rfl fun d=>?_;obtain ⟨g',w',es,h1,h2,h3,h4,h5,h6⟩:=h d;refine ⟨g',w',es,h1,fun e he=>(h2 e he).evT,h3,h5,h4,?_⟩
 have:deafBehind C.d es=C.d:=EvG.still h2
 rw [this];exact h6
theorem JG.tap {τ:Nat→Question→Nat} {d:Nat} (h:JG P Post C g x):JG P Post C g (under x τ d):=fun w hT=>h w (by have:=hT.mvl x.tape x.drawn;exact this)
theorem JG.freeze {ad:Addr} {n:Nat} (hl:C.lo≤ad.block) (h:JG P Post C g (x.freeze ad n)):JG P Post C g x:=fun w hT=>h w (hT.freezeL ad n hl)
theorem JG.ctl (hrun:g.status=.running) (hst:∀ main w,stepG P main g w=.go g' w) (h:JG P Post C g' x):JG P Post C g x:=fun w hT =>
 J.step hrun fun k=>⟨g',w.at k,#[],hst _ _,by simp,Nat.le_refl _,⟨fun _ _ _ h=>h,fun _ _ _ h _=>h⟩,rfl,(h w hT).at k⟩
theorem JG.seq {c e:Code} (h:JG P Post C (G (b.at a (.code c::.code e::k)) cs) x):JG P Post C (G (b.at a (.code (.seq c e)::k)) cs) x:=.ctl rfl (fun _ _=>stepG_seq) h
theorem JG.skip (h:JG P Post C (G (b.at a k) cs) x):JG P Post C (G (b.at a (.code .skip::k)) cs) x:=.ctl rfl (fun _ _=>stepG_skip) h
theorem JG.label {l:Nat} (h:JG P Post C (G (b.at a k) cs) x):JG P Post C (G (b.at a (.code (.label l)::k)) cs) x:=.ctl rfl (fun _ _=>stepG_label) h
theorem JG.inBlock {id:Nat} (h:JG P Post C (G (b.at a k) cs) x):JG P Post C (G (b.at a (.inBlock id::k)) cs) x:=.ctl rfl (fun _ _=>stepG_inBlock) h
theorem JG.cond {o:Operand} {c e:Code} {t:Bool} (ht:a.eval o=.bool t) (h:JG P Post C (G (b.at a (.code (if t then c else e)::k)) cs) x):JG P Post C (G (b.at a (.code (.cond o c e)::k)) cs) x:=.ctl rfl (fun _ _=>stepG_cond ht) h
theorem JG.condT {o:Operand} {c e:Code} (ht:a.eval o=.bool true) (h:JG P Post C (G (b.at a (.code c::k)) cs) x):JG P Post C (G (b.at a (.code (.cond o c e)::k)) cs) x:=.cond ht h
theorem JG.condF {o:Operand} {c e:Code} (ht:a.eval o=.bool false) (h:JG P Post C (G (b.at a (.code e::k)) cs) x):JG P Post C (G (b.at a (.code (.cond o c e)::k)) cs) x:=.cond ht h
theorem JG.block {id:Nat} {c:Code} (h:JG P Post C (G (b.at a (.code c::.inBlock id::k)) cs) x):JG P Post C (G (b.at a (.code (.block id c)::k)) cs) x:=.ctl rfl (fun _ _=>stepG_block) h
theorem JG.loop {c:Code} (h:JG P Post C (G (b.at a (.code c::.inLoop c::k)) cs) x):JG P Post C (G (b.at a (.code (.loop c)::k)) cs) x:=.ctl rfl (fun _ _=>stepG_loop) h
theorem JG.inLoop {c:Code} (h:JG P Post C (G (b.at a (.code c::.inLoop c::k)) cs) x):JG P Post C (G (b.at a (.inLoop c::k)) cs) x:=.ctl rfl (fun _ _=>stepG_inLoop) h
theorem JG.exit {id:Nat} {k':List Item} (he:exitTo id k=some k') (h:JG P Post C (G (b.at a k') cs) x):JG P Post C (G (b.at a (.code (.exit id)::k)) cs) x:=.ctl rfl (fun _ _=>stepG_exit he) h
theorem JG.region {id:Nat} {ops:Array Oper} (h:JG P Post C (G (b.at a (.inRegion ops (List.range ops.size)::k)) cs) x):JG P Post C (G (b.at a (.code (.region id ops false)::k)) cs) x:=.ctl rfl (fun _ _=>stepG_region) h
theorem JG.done {ops:Array Oper} (h:JG P Post C (G (b.at a k) cs) x):JG P Post C (G (b.at a (.inRegion ops []::k)) cs) x:=.ctl rfl (fun _ _=>stepG_region_end) h
theorem JG.fin (h:JG P Post C (G { b.at a [] with mode:=.returning } cs) x):JG P Post C (G (b.at a []) cs) x:=.ctl rfl (fun _ _=>stepG_end) h
theorem JG.ret (h:JG P Post C (G { b.at a (.code .ret::k) with mode:=.returning } cs) x):JG P Post C (G (b.at a (.code .ret::k)) cs) x:=.ctl rfl (fun _ _=>by simp [G,stepG,stepG.exec,Frame.at]) h
theorem JG.unwanted {ops:Array Oper} {i:Nat} {rest:List Nat} {o:Oper} (ho:ops[i]? = some o) (hw:Region.wanted o (yielded ops a.tmps)=false) (h:JG P Post C (G (b.at (a.put o.dst undef) (.inRegion ops rest::k)) cs) x):JG P Post C (G (b.at a (.inRegion ops (i::rest)::k)) cs) x :=
 .ctl rfl (fun _ _=>stepG_unwanted ho hw) h
theorem JG.draw {id:Nat} {ops:Array Oper} (h:∀ n,JG P Post C (G (b.at a (.inRegion ops (Region.schedule (P.follows .mixedOrders) ops n)::k)) cs) x):JG P Post C (G (b.at a (.code (.region id ops true)::k)) cs) x:=fun w hT =>
 J.step rfl fun d=>⟨G (b.at a (.inRegion ops (Region.schedule (P.follows .mixedOrders) ops ((w.at d).tape (w.at d).drawn (.order b.fn id)))::k)) cs,w.at (d + 1),#[],by
  simp [G,Frame.at,stepG,stepG.exec,choose,Sem.run,Question.forced,Question.cut,World.at],by simp,Nat.le_refl _,⟨fun _ _ _ h=>h,fun _ _ _ h _=>h⟩,rfl,((h _) w hT).at (d + 1)⟩
section
variable {ops:Array Oper} {i:Nat} {rest:List Nat} {o:Oper}
theorem JG.val {v:Value} (ho:ops[i]? = some o) (hw:Region.wanted o (yielded ops a.tmps)=true) (hk:b.kind≠.early) (hr:∀ w,(execOp a.eval o).run P w=.ok (.value v) w) (he:∀ w,(execOp a.eval o).events P w #[] = #[])
 (h:JG P Post C (G (b.at (a.put o.dst v) (.inRegion ops rest::k)) cs) x):JG P Post C (G (b.at a (.inRegion ops (i::rest)::k)) cs) x :=
 .ctl rfl (fun _ w=>by rw [stepG_value ho hw hk (hr w),listed_none (he w)]) h
theorem JG.op (hF:Q7 P F) (hM:F.maps=true→∀ r,¬ C.prot.objs r) (hm:mild F o.op=true) (ho:ops[i]? = some o) (hw:Region.wanted o (yielded ops a.tmps)=true) (hk:b.kind≠.early)
 (h:∀ K E,(∀ a' y,JG P Post C (G (b.at a' (.inRegion ops rest::k)) cs) y→K a' y)→(∀ f args y,JG P Post C (G (Frame.enter P f args .normal) (b.at a (.inRegion ops (i::rest)::k)::cs)) y→E f args y)→∀ τ d,uponE o a K E ((execOp a.eval o).run P (under x τ d))) :
 JG P Post C (G (b.at a (.inRegion ops (i::rest)::k)) cs) x:=fun w hT=>by
 refine J.step rfl fun d=>?_;have hs:=QO (P:=P) (S:=C.prot) hF hM (ρ:=a.eval) (fun f=>rfl) hm;obtain ⟨n,f,hb|⟨r,hf,hr,evs,he,hev⟩⟩:=hs x (w.at d) (hT.mvr w.tape d)
 ·exfalso
  obtain ⟨hh,y,e,hbad⟩:=hb (fun j _=>f j) 0 (fun j _ _=>by simp)
  have:=h (fun _ _=>True) (fun _ _ _=>True) (fun _ _ _=>trivial) (fun _ _ _ _=>trivial) (fun j _=>f j) 0
  rw [e] at this;exact this
 ·have h1:=h (fun a' y=>JG P Post C (G (b.at a' (.inRegion ops rest::k)) cs) y) (fun f args y=>JG P Post C (G (Frame.enter P f args .normal) (b.at a (.inRegion ops (i::rest)::k)::cs)) y) (fun _ _ h=>h) (fun _ _ _ h=>h) (fun j _=>f j) 0
  rw [hr (fun j _=>f j) 0 (fun j _ _=>by simp)] at h1;have hev':∀ e∈listed P b.fn a o (w.at d),EvG C.prot (Result.world ((execOp a.eval o).run P (w.at d))).heap.size e:=fun e hm=>hev e (by have:=mem_listed hm;rw [he] at this;simpa using this);have hstay:=UU.of_events (P:=P) (S:=C.prot) (w:=w.at d) (s:=execOp a.eval o) (B:=(Result.world ((execOp a.eval o).run P (w.at d))).heap.size) fun e hm=>hev e (by rw [he] at hm;simpa using hm);cases hrw:(execOp a.eval o).run P (w.at d) with
  | halt hh w₁ =>
   rw [hrw] at hf;cases hf with
   | panic _ _ _=>exact h1.elim
  | ok q w₁ =>
   rw [hrw] at hf hev' hstay;cases hf with
   | @ok a' _ y _ hN hT₁ ht hsz =>
    obtain ⟨rfl,_⟩:=hN;have hd:∀ es:Array Event,(∀ e∈es,EvG C.prot w₁.heap.size e)→({ C with d:=deafBehind C.d es }:Ctx)=C:=fun es h=>by rw [EvG.still h]
    have hst:UU C.prot w w₁:=⟨hstay.cells,hstay.objs⟩
    cases a' with
    | value v =>
     refine ⟨_,w₁,listed P b.fn a o (w.at d),stepG_value ho hw hk hrw,fun e he=>(hev' e he).evT,hsz,hst,ht,?_⟩;rw [hd _ hev'];exact h1 w₁ (hT₁.mvl _ _)
    | skip =>
     refine ⟨_,w₁,listed P b.fn a o (w.at d),stepG_none ho hw hk hrw,fun e he=>(hev' e he).evT,hsz,hst,ht,?_⟩;rw [hd _ hev'];exact h1 w₁ (hT₁.mvl _ _)
    | enter f args =>
     refine ⟨_,w₁,listed P b.fn a o (w.at d),stepG_enter ho hw hk hrw,fun e he=>(hev' e he).evT,hsz,hst,ht,?_⟩;rw [hd _ hev'];exact h1 w₁ (hT₁.mvl _ _)
    | _=>exact h1.elim
theorem JG.call {f:FuncId} {args:Array Value} (ho:ops[i]? = some o) (hw:Region.wanted o (yielded ops a.tmps)=true) (hk:b.kind≠.early) (hr:∀ w,(execOp a.eval o).run P w=.ok (.enter f args) w) (he:∀ w,(execOp a.eval o).events P w #[] = #[])
 (h:JG P Post C (G (Frame.enter P f args .normal) (b.at a (.inRegion ops (i::rest)::k)::cs)) x):JG P Post C (G (b.at a (.inRegion ops (i::rest)::k)) cs) x :=
 .ctl rfl (fun _ w=>by rw [stepG_enter ho hw hk (hr w),listed_none (he w)]) h
end
def QK (K R:Act→World→Prop):Exit→Act→World→Prop
 | .normal,a,w=>K a w
 | .ret,a,w=>a.defers = []∧R a w
 | _,_,_=>False
theorem JG.code {c:Code} (hC:Closed P C.prot F) (hc:YY F c=true) (hb:b.kind=.normal) (hf:F.fn b.fn=true∨F.top b.fn=true) (ha:a.defers = [])
 (h:∀ K R,(∀ a' y,JG P Post C (G (b.at a' k) cs) y→K a' y)→(∀ a' y,(∀ todo,JG P Post C (G { b.at a' todo with mode:=.returning } cs) y)→R a' y)→∀ τ,c.wp P (QK K R) a (under x τ 0)) :
 JG P Post C (G (b.at a (.code c::k)) cs) x:=fun w hT =>
 XcJ (Q:=QK (fun a' y=>JG P Post C (G (b.at a' k) cs) y) (fun a' y=>∀ todo,JG P Post C (G { b.at a' todo with mode:=.returning } cs) y)) hC J.back hc hb hf ha hT (h _ _ (fun _ _ h=>h) (fun _ _ h=>h))
  (fun e a' x' hq=>by cases e<;>first|exact .inl rfl|exact .inr ⟨rfl,hq.1⟩|exact hq.elim)
  (fun a' x' w' hT' hq=>hq w' hT') (fun a' x' w' todo hT' hq _=>hq.2 todo w' hT')
theorem JG.calls {c:Frame} {f:FuncId} {args:Array Value} {Q:Value→World→Prop} (hC:Closed P C.prot F) (hf:F.fn f=true) (hlone:∀ τ,Calls P f args (under x τ 0) fun e y=>∃ v,e=.returned v∧Q v y)
 (h:∀ v y,Q v y→JG P Post C (G (c.finish v) cs) y):JG P Post C (G (Frame.enter P f args .normal) (c::cs)) x:=fun w hT =>
 lift (Post:=Q) hC J.back hf hT (fun τ=>.of_calls (hlone τ)) fun v x' w' hT' hq=>h v x' hq w' hT'
theorem JG.leave {c:Frame} {fn:Func} {todo:List Item} {v:Value} (hk:b.kind=.normal) (hd:a.defers = []) (hf:P.funcs[b.fn]? = some fn) (hr:∀ τ d,(results fn a.tmps).run P (under x τ d)=.ok v (under x τ d))
 (h:JG P Post C (G (c.finish v) cs) x):JG P Post C (G { b.at a todo with mode:=.returning } (c::cs)) x:=fun w hT=>by
 refine J.step rfl fun d=>?_;have hst:stepG P (C.h == 0) (G { b.at a todo with mode:=.returning } (c::cs)) (w.at d)=GStep.after (seen P b.fn ((results fn a.tmps).events P (w.at d) #[])) (match (results fn a.tmps).run P (w.at d) with
  | .ok v w=>.go (G (c.finish v) cs) w
  | .halt (.stuck s) w=>.ended (.stuck s (({ b.at a todo with mode:=.returning }:Frame).pos P)) w
  | .halt _ w => .ended (.stuck "return: the result variables cannot be read" (({ b.at a todo with mode := .returning } : Frame).pos P)) w) := by
  simp only [G,Frame.at,hk,hd,stepG,unwind,hf,Sem.runT_eq]
  congr 1
 obtain ⟨n,g,hb|⟨r,hf',hr',evs,he,hev⟩⟩:=Ux (P:=P) (S:=C.prot) (fn:=fn) (tmps:=a.tmps) x (w.at d) (hT.mvr w.tape d)
 ·exfalso
  obtain ⟨hh,y,e,hbad⟩:=hb (fun j _=>g j) 0 (fun j _ _=>by simp);rw [hr] at e;cases e
 ·have h1:=hr' (fun j _=>g j) 0 (fun j _ _=>by simp)
  rw [hr] at h1;have hstay:=UU.of_events (P:=P) (S:=C.prot) (w:=w.at d) (s:=results fn a.tmps) (B:=(Result.world ((results fn a.tmps).run P (w.at d))).heap.size) fun e hm=>hev e (by rw [he] at hm;simpa using hm);cases hrw:(results fn a.tmps).run P (w.at d) with
  | halt hh w₁ =>
   rw [hrw] at hf';cases hf' with
   | panic _ _ _=>cases h1
  | ok q w₁ =>
   rw [hrw] at hf' hev hstay;cases hf' with
   | @ok a' _ y _ hN hT₁ ht hsz =>
    obtain ⟨rfl,_⟩:=hN;simp only [Result.tap,Result.ok.injEq] at h1;obtain ⟨rfl,h2⟩:=h1;have hev':∀ e∈seen P b.fn ((results fn a.tmps).events P (w.at d) #[]),EvG C.prot w₁.heap.size e:=fun e hm=>hev e (by have:=mem_seen hm;rw [he] at this;simpa using this);refine ⟨G (c.finish v) cs,w₁,seen P b.fn ((results fn a.tmps).events P (w.at d) #[]) ++ #[],by rw [hst,hrw];rfl,fun e he=>(hev' e (by simpa using he)).evT,hsz,⟨hstay.cells,hstay.objs⟩,ht,?_⟩;have hd:deafBehind C.d (seen P b.fn ((results fn a.tmps).events P (w.at d) #[]) ++ #[])=C.d:=EvG.still (S:=C.prot) (B:=w₁.heap.size) fun e he=>hev' e (by simpa using he);rw [hd];have h3:JG P Post C (G (c.finish v) cs) (under y (fun j _=>g j) (0 + n)):=h2 ▸ h.tap;exact h3 w₁ (hT₁.mvl _ _)
