/- Which functions of this program are mild. -/
import Derived.Test.YtdhnggjmegilkaaOBs
import Derived.Test.YtdhnggjmegilkaaOSh
import Derived.Test.YtdhnggjmegilkaaProg
import Derived.Conc.TokenWords
import Derived.Tactics2
import Derived.RegionTactic
set_option linter.all false
set_option maxRecDepth 100000
set_option maxHeartbeats 16000000
namespace Go.Proofs.Ytdhnggjmegilkaa
open Go.Conc Go.RowKit
open Go.ConcN (upd upd_same upd_ne)
set_option maxRecDepth 100000
theorem Xu {P:Program} {Post:Value→World→Prop} {C:Ctx} {cs:List Frame} {x:World} {f:FuncId} {fn:Func} {c:Code} {args:Array Value} {nt:Nat} (hf:P.funcs[f]? = some fn) (hb:fn.body=some c) (hn:fn.ntmps=nt)
 (h:JG P Post C (G ((base f).at ⟨args ++ Array.replicate (nt - args.size) undef,[]⟩ [.code c]) cs) x):JG P Post C (G (Frame.enter P f args .normal) cs) x:=by
 rw [enter_at args hf hb,hn];exact h
theorem Xc (x:World) (τ:Nat→Question→Nat) (d:Nat) (a:Addr) (v:Value):(under x τ d).setCell a v=under (x.setCell a v) τ d:=rfl
theorem Xk (x:World) (τ:Nat→Question→Nat) (d:Nat) (a:Addr):(under x τ d).cell? a=x.cell? a:=rfl
theorem Xf (x:World) (τ:Nat→Question→Nat) (d:Nat) (a:Addr):(under x τ d).frozen? a=x.frozen? a:=rfl
theorem Xs (x:World) (τ:Nat→Question→Nat) (d:Nat):(under x τ d).heap.size=x.heap.size:=rfl
abbrev Qs:Value:=.agg #[]
theorem Z4 (w:World):(Instr.build 68 #[]).run Try.prog w=.ok (.agg #[]) w:=run_build w _ _ _ (by kernel_rfl)
theorem Uo (w:World):(zeroValue 68).run Try.prog w=.ok (.agg #[]) w:=by
 have h:(Try.prog.info? 68).bind (fun i=>i.zero)=some (.agg #[]):=by kernel_rfl
 obtain ⟨i,hi,hz⟩:=Option.bind_eq_some_iff.1 h;simp [zeroValue,typeInfo,hi,hz]
theorem JG.leave0 {P:Program} {Post:Value→World→Prop} {C:Ctx} {x:World} {b:Frame} {a:Act} {c:Frame} {cs:List Frame} {fn:Func} {todo:List Item} (hk:b.kind=.normal) (hd:a.defers = []) (hf:P.funcs[b.fn]? = some fn) (hr:fn.results=#[])
 (h:JG P Post C (G (c.finish (.tuple #[])) cs) x):JG P Post C (G { b.at a todo with mode:=.returning } (c::cs)) x:=JG.leave hk hd hf (fun τ d=>results_none hr _ P _) h
def Xgf (Post:Value→World→Prop) (c:Frame) (cs:List Frame) (g:Goroutine):Prop:=∀ (C:Ctx) (x:World) (v:Value),JG Try.prog Post C (G (c.finish (.tuple #[])) cs) x→JG Try.prog Post C (Go.Conc.served g v) x
def Ya (Post:Value→World→Prop) (tb st:Nat) (c:Frame) (cs:List Frame):XL:={ c:=st,z:=Qs,kn:=fun a v=>a=th tb 3∧v=.chan (some st),home:=Xgf Post c cs }
theorem XcY {Post:Value→World→Prop} {C:Ctx} {x:World} {c:Frame} {cs:List Frame} {tb st j:Nat} {sj:XL} (hd:C.d=0) (hjh:j≠C.h) (hj:C.Ch j=some sj) (h1:x.cell? (th tb 2)=some (.chan (some sj.c))) (h2:x.cell? (th tb 3)=some (.chan (some st)))
 (hst:XbN x.heap.size C.Ch C.h x (Ya Post tb st c cs)) (hfr:x.frozen? (th tb 3)=true)
 (hnext:∀ g₂ kk,sj.home g₂→x.heap[sj.c]? = some (.chan 0 #[] false kk kk false)→JG Try.prog Post { Ch:=upd C.Ch C.h (some (Ya Post tb st c cs)),h:=j,d:=0,n:=C.n,lo:=C.lo,io:=C.io } (Go.Conc.served g₂ Qs) (x.setChan sj.c 0 #[] false (kk + 1) (kk + 1) false)) :
 JG Try.prog Post C (G (Frame.enter Try.prog 132 #[.pointer (some ⟨tb,0,none⟩)] .normal) (c::cs)) x:=by
 have hbu:=Z4;have hlt:tb < x.heap.size:=Xt h1;refine Xu Try.func132 (by rfl) (by rfl) ?_;simp only [Try.f132,Option.getD_some];walk_nrm;refine JG.seq ?_;refine kc ?_;refine kx ?_;refine kx ?_;refine kx ?_;have hf:=h1;refine kx ?_;clear hf;refine kx ?_;refine JG.give (s:=sj) (v:=Qs) (z':=.tuple #[]) hd hjh hj rfl (by rfl) (by decide) (fun w=>by simp [execOp,scase,Act.eval]) (fun w=>by simp [go_sem,execOp,Act.eval]) (some (Ya Post tb st c cs)) (fun s' e=>by obtain rfl:=OI e;exact hst) (fun s' e ad v hv=>by obtain rfl:=OI e;obtain ⟨rfl,rfl⟩:=hv;exact hfr) ?_ hnext;refine ⟨12,fun T' _=>⟨tb + 1,by omega,.inl ⟨11,x,rfl,?_⟩⟩⟩;walk_nrm;have hstill:(Ya Post tb st c cs).Sl (.cell (th tb 3)):=⟨_,_,rfl,rfl,rfl⟩
 k_c stepG_region_end
 k_reg
 refine Goes.step rfl (fun w₁ h₁=>?_);refine goes_oper_k rfl rfl (by decide) (fun K hK=>?_);go_simp;refine hK _ _ ⟨⟨rfl,fun e he=>(by have hm:=mem_listed he;simp [go_sem] at hm)⟩,?_⟩;clear hK K h₁
 try walk_nrm
 refine Goes.step rfl (fun w₁ h₁=>?_);refine goes_oper_k rfl rfl (by decide) (fun K hK=>?_);go_simp;refine hK _ _ ⟨⟨rfl,fun e he=>(by have hm:=mem_listed he;simp [go_sem] at hm)⟩,?_⟩;clear hK K h₁
 try walk_nrm
 refine Goes.step rfl (fun w₁ h₁=>?_);refine goes_oper_k rfl rfl (by decide) (fun K hK=>?_);go_simp;refine hK _ _ ⟨⟨rfl,fun e he=>(by have hm:=mem_listed he;simp [go_sem] at hm)⟩,?_⟩;clear hK K h₁
 try walk_nrm
 refine Goes.step rfl (fun w₁ h₁=>?_);refine goes_oper_k rfl rfl (by decide) (fun K hK=>?_);have hfact:=h₁ (th tb 3) _ ⟨rfl,rfl⟩;go_simp;refine hK _ _ ⟨⟨rfl,fun e he=>(by have hm:=mem_listed he;simp [go_sem,hfact] at hm;subst hm;exact evC_read _ hstill (by first|(simp;done)|(simp;omega)))⟩,?_⟩;clear hfact hK K h₁
 try walk_nrm
 refine Goes.stop (fun w₁ h₁=>⟨_,atIn_of (s:=(Ya Post tb st c cs).seat) rfl rfl (by decide) (fun w=>?_) (fun w=>by simp [go_sem,execOp,Act.eval]) ?_⟩)
 ·have hz:=Uo
  simp [go_sem,execOp,rcase,Act.eval,Ya,XL.seat,Seat.one,hz]
 ·intro C' y v hback
  rw [Qx rfl];refine JG.done (JG.fin ?_);exact JG.leave0 rfl rfl Try.func132 (by rfl) hback
theorem Xc8 {P:Program} {Post:Value→World→Prop} {C:Ctx} {cs:List Frame} {x:World} {f:FuncId} {fn:Func} {c:Code} {args:Array Value} {nt:Nat} (hf:P.funcs[f]? = some fn) (hb:fn.body=some c) (hn:fn.ntmps=nt)
 (h:JG P Post C (G ((baseD f).at ⟨args ++ Array.replicate (nt - args.size) undef,[]⟩ [.code c]) cs) x):JG P Post C (G (Frame.enter P f args .deferred) cs) x:=by
 rw [enter_atD args hf hb,hn];exact h
abbrev P0 (b:Nat):Value:=.pointer (some ⟨b,0,none⟩)
def Xdk (rv tv fv:Nat):Deferred:={ target:=.fn (.func 151) #[P0 rv,P0 tv,P0 fv],args:=#[] }
structure Xge (Post:Value→World→Prop) (rv tv tb st:Nat) (C:Ctx) (x:World):Prop where
 go:∃ p sp b0,C.d=0∧0 < C.h∧p≠C.h∧C.Ch p=some sp∧sp.c=st∧x.cell? (th tv 0)=some (P0 tb)∧x.cell? (th tb 3)=some (.chan (some st))∧x.cell? (th tb 13)=some (.bool b0)∧x.frozen? (th tb 13)=false ∧
  ∀ g₂ kk,sp.home g₂→x.heap[st]? = some (.chan 0 #[] false kk kk false)→JG Try.prog Post { Ch:=upd C.Ch C.h none,h:=p,d:=0,n:=C.n,lo:=C.lo,io:=C.io } (Go.Conc.served g₂ Qs) ((x.setCell (th tb 13) (.bool true)).setChan st 0 #[] false (kk + 1) (kk + 1) false)
def Zu (Post:Value→World→Prop) (rv tv tb st:Nat) (c:Frame):Prop:=∀ (C:Ctx) (x:World) (v:Value),Xge Post rv tv tb st C x→JG Try.prog Post C (G (c.finish v) [YX Try.prog]) x
def Yb (fb : FuncId) : Prop := ∃ fn, Try.prog.funcs[fb]? = some fn ∧ (fn.name == "runtime.NumGoroutine") = false ∧ fn.body.isNone = false
theorem put_defers (a:Act) (dst:Option Tmp) (v:Value):∃ tmps,a.put dst v=⟨tmps,a.defers⟩:=by
 obtain ⟨t,ds⟩:=a;cases dst with
 | none=>exact ⟨t,rfl⟩
 | some d=>exact ⟨t.setIfInBounds d v,rfl⟩
theorem XbH {Post:Value→World→Prop} {rv tv tb st:Nat} (tmps:Array Value) (ops:Array Oper) (i:Nat) :
 Zu Post rv tv tb st ((baseD 151).at ⟨tmps,[{ target:=.fn (.func 152) #[P0 rv,P0 tv],args:=#[] }]⟩ [.inRegion ops [i]]):=by
 intro C x v h;obtain ⟨p,sp,b0,hd,hh,hp,hsp,hc,e1,e3,e13,f13,hnext⟩:=h.go;have hbu:=Z4;rw [Frame.finish_at];obtain ⟨t',et⟩:=put_defers ⟨tmps,[{ target:=.fn (.func 152) #[P0 rv,P0 tv],args:=#[] }]⟩ ((ops[i]?).bind (·.dst)) v;rw [et];refine JG.done (JG.fin ?_);refine JG.unwind (m:=.returning) (by simp) rfl rfl Try.func152 (by rfl) (by rfl) ?_;generalize hcf:({ (baseD 151).at ⟨t',[]⟩ [] with mode:=.returning }:Frame)=cf;have hcm:cf.mode=.returning:=by rw [← hcf]
 refine Xc8 Try.func152 (by rfl) (by rfl) ?_;simp only [Try.f152,Option.getD_some];walk_nrm
 repeat first|refine JG.seq ?_|refine JG.skip ?_|refine JG.inBlock ?_|refine JG.block ?_|refine JG.done ?_|refine JG.label ?_
 refine kc ?_;refine JG.recover0 rfl (by rfl) (by decide) (fun w=>by simp [go_sem,execOp,Act.eval,resolve,Deferred.ofValue]) (fun w=>by simp [go_sem,execOp,Act.eval,resolve,Deferred.ofValue]) (by simp [tryRecover,Frame.at,baseD,hcm]) ?_
 try walk_nrm
 refine kx ?_
 repeat first|refine JG.seq ?_|refine JG.skip ?_|refine JG.inBlock ?_|refine JG.block ?_|refine JG.done ?_|refine JG.label ?_
 refine kc ?_;refine kx ?_;refine kx ?_;refine kx ?_;refine kx ?_;refine kx ?_;refine kx ?_;refine kx ?_;refine kx ?_;refine kx ?_
 repeat first|refine JG.seq ?_|refine JG.skip ?_|refine JG.inBlock ?_|refine JG.block ?_|refine JG.done ?_|refine JG.label ?_
 refine JG.condF rfl ?_
 repeat first|refine JG.seq ?_|refine JG.skip ?_|refine JG.inBlock ?_|refine JG.block ?_|refine JG.done ?_|refine JG.label ?_
 refine kc ?_;have hf:=e1;refine kx ?_;clear hf;refine kx ?_;refine kx ?_;refine kst (And.intro e13 f13) ?_
 repeat first|refine JG.seq ?_|refine JG.skip ?_|refine JG.inBlock ?_|refine JG.block ?_|refine JG.done ?_|refine JG.label ?_
 refine kc ?_;have hne:(th tb 13)≠(th tb 3):=by simp [th]
 have hne2:(th tb 13).block≠tv∨tv=tb:=by by_cases e:tv=tb;exact .inr e;exact .inl fun h=>e h.symm
 have k1:(x.setCell (th tb 13) (.bool true)).cell? (th tv 0)=some (P0 tb):=Xi (by simp [th]) e1;have k3:(x.setCell (th tb 13) (.bool true)).cell? (th tb 3)=some (.chan (some st)):=Xi (by simp [th]) e3;have hf:=k1;refine kx ?_;clear hf;refine kx ?_;refine kx ?_;have hf:=k3;refine kx ?_;clear hf;refine kx ?_;refine JG.give (s:=sp) (v:=Qs) (z':=.tuple #[]) hd hp hsp rfl (by rfl) (by decide) (fun w=>by simp [execOp,scase,Act.eval,hc]) (fun w=>by simp [go_sem,execOp,Act.eval]) none (fun s' e=>by cases e) (fun s' e=>by cases e) ?_ ?_
 ·refine ⟨5,fun T' hT'=>⟨hh,?_⟩⟩
  rw [hT'];refine .ctl rfl (fun w=>stepG_region_end) ?_;refine .ctl rfl (fun w=>stepG_end) ?_;refine .ctl rfl (fun w=>YU rfl rfl Try.func152 (by rfl)) ?_;have hb:X3 cf=cf:=by simp [X3,hcm]
  rw [hb,← hcf];refine .ctl rfl (fun w=>YU rfl rfl Try.func151 (by rfl)) ?_;exact Vj
 ·intro g₂ kk hg hcc
  rw [hc] at hcc ⊢;refine hnext g₂ kk hg ?_;rw [heap_setCell] at hcc;cases e:x.heap[st]? with
  | none=>rw [e] at hcc;cases hcc
  | some oo =>
   rw [e] at hcc;simp only [Option.map_some,Option.some.injEq] at hcc
   split at hcc
   ·cases oo<;>first|(cases hcc;done)|exact congrArg some hcc
   ·exact congrArg some hcc
end Go.Proofs.Ytdhnggjmegilkaa
namespace Go.Proofs.Ytdhnggjmegilkaa
open Go.Conc Go.RowKit
set_option maxRecDepth 100000
noncomputable def exts:List (FuncId):=[139,129,146,149]
noncomputable def Xfg:List (FuncId):=[131,153,100,102,80,124,126,99]
noncomputable def FG:Fns:={ fn:=fun f=>Xfg.contains f,maps:=false,top:=fun f=>decide (f < Try.prog.funcs.size),ext:=fun f=>exts.contains f }
theorem Ug:Try.prog.follows .staticDataAhead=true∧∀ g,Try.prog.stepOf g=none:=⟨by kernel_rfl,WT (by kernel_rfl)⟩
theorem VV:QY Try.prog 139:=⟨Try.f139,Extern.Atomic.loadT (.int .i64),Try.func139,by rfl,by rfl,by kernel_rfl,by kernel_rfl,fun P S args=>Xca⟩
theorem U9:QY Try.prog 129:=⟨Try.f129,Extern.Atomic.storeT,Try.func129,by rfl,by rfl,by kernel_rfl,by kernel_rfl,fun P S args=>Xbh⟩
theorem WC:QY Try.prog 146:=⟨Try.f146,Extern.Atomic.update (Op.intArith .add) .i64 true,Try.func146,by rfl,by rfl,by kernel_rfl,by kernel_rfl,fun P S args=>Xcj⟩
theorem ZB:QY Try.prog 149:=⟨Try.f149,Extern.Atomic.casT (.int .i64),Try.func149,by rfl,by rfl,by kernel_rfl,by kernel_rfl,fun P S args=>XaI⟩
theorem Xap (f:FuncId) (h:exts.contains f=true):QY Try.prog f:=by
 have h:=List.contains_iff_mem.1 h;simp only [exts,List.mem_cons,List.not_mem_nil,or_false] at h;rcases h with rfl|rfl|rfl|rfl
 ·exact VV
 ·exact U9
 ·exact WC
 ·exact ZB
def Xds (F : Fns) (f : FuncId) : Prop := ∃ fn c, Try.prog.funcs[f]? = some fn ∧ (fn.name == "runtime.NumGoroutine") = false ∧ fn.body = some c ∧ YY F c = true
theorem XdC (f:FuncId) (h:Xfg.contains f=true):Xds FG f:=by
 have h:=List.contains_iff_mem.1 h;simp only [Xfg,List.mem_cons,List.not_mem_nil,or_false] at h;rcases h with rfl|rfl|rfl|rfl|rfl|rfl|rfl|rfl
 ·exact ⟨Try.f131,Try.f131.body.getD .skip,Try.func131,by rfl,by rfl,by kernel_rfl⟩
 ·exact ⟨Try.f153,Try.f153.body.getD .skip,Try.func153,by rfl,by rfl,by kernel_rfl⟩
 ·exact ⟨Try.f100,Try.f100.body.getD .skip,Try.func100,by rfl,by rfl,by kernel_rfl⟩
 ·exact ⟨Try.f102,Try.f102.body.getD .skip,Try.func102,by rfl,by rfl,by kernel_rfl⟩
 ·exact ⟨Try.f80,Try.f80.body.getD .skip,Try.func80,by rfl,by rfl,by kernel_rfl⟩
 ·exact ⟨Try.f124,Try.f124.body.getD .skip,Try.func124,by rfl,by rfl,by kernel_rfl⟩
 ·exact ⟨Try.f126,Try.f126.body.getD .skip,Try.func126,by rfl,by rfl,by kernel_rfl⟩
 ·exact ⟨Try.f99,Try.f99.body.getD .skip,Try.func99,by rfl,by rfl,by kernel_rfl⟩
theorem XO (S:YK):Closed Try.prog S FG where
 maps:=fun h=>by cases h
 text:=XdC
 exts:=Xap
 tops:=fun f h=>by
  have h:f < Try.prog.funcs.size:=by simpa [FG] using h
  exact ⟨_,Array.getElem?_eq_getElem h⟩
 early:=Ug
