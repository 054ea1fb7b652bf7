/- A thread is begun: what stands in the run. -/
import Derived.Test.YtdgfekplfipekaaVBs
import Derived.Test.YtdgfekplfipekaaVSh
import Derived.Test.YtdgfekplfipekaaProg
import Derived.Conc.TokenWords
import Derived.Tactics2
import Derived.RegionTactic
import Derived.Test.YtdgfekplfipekaaVMem
import Derived.BigRegion
import Derived.BigQuiet
import Derived.Deep.RegionLaw
import Derived.Deep.RegionWith
import Derived.Deep.AppendLies
import Derived.Laws.EntriesVeiled
set_option linter.all false
set_option maxRecDepth 100000
set_option maxHeartbeats 16000000
namespace Go.Proofs.Ytdgfekplfipekaa
open Go.Conc Go.RowKit
open Go.ConcN (upd upd_same upd_ne)
set_option maxRecDepth 100000
theorem Xu {P:Program} {Post:Value→World→Prop} {C:Ctx} {cs:List Frame} {x:World} {f:FuncId} {fn:Func} {c:Code} {args:Array Value} {nt:Nat} (hf:P.funcs[f]? = some fn) (hb:fn.body=some c) (hn:fn.ntmps=nt)
 (h:JG P Post C (G ((base f).at ⟨args ++ Array.replicate (nt - args.size) undef,[]⟩ [.code c]) cs) x):JG P Post C (G (Frame.enter P f args .normal) cs) x:=by
 rw [enter_at args hf hb,hn];exact h
theorem Xc (x:World) (τ:Nat→Question→Nat) (d:Nat) (a:Addr) (v:Value):(under x τ d).setCell a v=under (x.setCell a v) τ d:=rfl
theorem Xk (x:World) (τ:Nat→Question→Nat) (d:Nat) (a:Addr):(under x τ d).cell? a=x.cell? a:=rfl
theorem Xf (x:World) (τ:Nat→Question→Nat) (d:Nat) (a:Addr):(under x τ d).frozen? a=x.frozen? a:=rfl
theorem Xs (x:World) (τ:Nat→Question→Nat) (d:Nat):(under x τ d).heap.size=x.heap.size:=rfl
abbrev Qs:Value:=.agg #[]
theorem Z4 (w:World):(Instr.build 59 #[]).run Try.prog w=.ok (.agg #[]) w:=run_build w _ _ _ (by kernel_rfl)
theorem Uo (w:World):(zeroValue 59).run Try.prog w=.ok (.agg #[]) w:=by
 have h:(Try.prog.info? 59).bind (fun i=>i.zero)=some (.agg #[]):=by kernel_rfl
 obtain ⟨i,hi,hz⟩:=Option.bind_eq_some_iff.1 h;simp [zeroValue,typeInfo,hi,hz]
theorem JG.leave0 {P:Program} {Post:Value→World→Prop} {C:Ctx} {x:World} {b:Frame} {a:Act} {c:Frame} {cs:List Frame} {fn:Func} {todo:List Item} (hk:b.kind=.normal) (hd:a.defers = []) (hf:P.funcs[b.fn]? = some fn) (hr:fn.results=#[])
 (h:JG P Post C (G (c.finish (.tuple #[])) cs) x):JG P Post C (G { b.at a todo with mode:=.returning } (c::cs)) x:=JG.leave hk hd hf (fun τ d=>results_none hr _ P _) h
def Xgf (Post:Value→World→Prop) (c:Frame) (cs:List Frame) (g:Goroutine):Prop:=∀ (C:Ctx) (x:World) (v:Value),JG Try.prog Post C (G (c.finish (.tuple #[])) cs) x→JG Try.prog Post C (Go.Conc.served g v) x
def Ya (Post:Value→World→Prop) (tb st:Nat) (c:Frame) (cs:List Frame):XL:={ c:=st,z:=Qs,kn:=fun a v=>a=th tb 3∧v=.chan (some st),home:=Xgf Post c cs }
theorem XcY {Post:Value→World→Prop} {C:Ctx} {x:World} {c:Frame} {cs:List Frame} {tb st j:Nat} {sj:XL} (hd:C.d=0) (hjh:j≠C.h) (hj:C.Ch j=some sj) (h1:x.cell? (th tb 2)=some (.chan (some sj.c))) (h2:x.cell? (th tb 3)=some (.chan (some st)))
 (hst:XbN x.heap.size C.Ch C.h x (Ya Post tb st c cs)) (hfr:x.frozen? (th tb 3)=true)
 (hnext:∀ g₂ kk,sj.home g₂→x.heap[sj.c]? = some (.chan 0 #[] false kk kk false)→JG Try.prog Post { Ch:=upd C.Ch C.h (some (Ya Post tb st c cs)),h:=j,d:=0,n:=C.n,lo:=C.lo,io:=C.io } (Go.Conc.served g₂ Qs) (x.setChan sj.c 0 #[] false (kk + 1) (kk + 1) false)) :
 JG Try.prog Post C (G (Frame.enter Try.prog 51 #[.pointer (some ⟨tb,0,none⟩)] .normal) (c::cs)) x:=by
 have hbu:=Z4;have hlt:tb < x.heap.size:=Xt h1;refine Xu Try.func51 (by rfl) (by rfl) ?_;simp only [Try.f51,Option.getD_some];walk_nrm;refine JG.seq ?_;refine kc ?_;refine kx ?_;refine kx ?_;refine kx ?_;have hf:=h1;refine kx ?_;clear hf;refine kx ?_;refine JG.give (s:=sj) (v:=Qs) (z':=.tuple #[]) hd hjh hj rfl (by rfl) (by decide) (fun w=>by simp [execOp,scase,Act.eval]) (fun w=>by simp [go_sem,execOp,Act.eval]) (some (Ya Post tb st c cs)) (fun s' e=>by obtain rfl:=OI e;exact hst) (fun s' e ad v hv=>by obtain rfl:=OI e;obtain ⟨rfl,rfl⟩:=hv;exact hfr) ?_ hnext;refine ⟨12,fun T' _=>⟨tb + 1,by omega,.inl ⟨11,x,rfl,?_⟩⟩⟩;walk_nrm;have hstill:(Ya Post tb st c cs).Sl (.cell (th tb 3)):=⟨_,_,rfl,rfl,rfl⟩
 k_c stepG_region_end
 k_reg
 refine Goes.step rfl (fun w₁ h₁=>?_);refine goes_oper_k rfl rfl (by decide) (fun K hK=>?_);go_simp;refine hK _ _ ⟨⟨rfl,fun e he=>(by have hm:=mem_listed he;simp [go_sem] at hm)⟩,?_⟩;clear hK K h₁
 try walk_nrm
 refine Goes.step rfl (fun w₁ h₁=>?_);refine goes_oper_k rfl rfl (by decide) (fun K hK=>?_);go_simp;refine hK _ _ ⟨⟨rfl,fun e he=>(by have hm:=mem_listed he;simp [go_sem] at hm)⟩,?_⟩;clear hK K h₁
 try walk_nrm
 refine Goes.step rfl (fun w₁ h₁=>?_);refine goes_oper_k rfl rfl (by decide) (fun K hK=>?_);go_simp;refine hK _ _ ⟨⟨rfl,fun e he=>(by have hm:=mem_listed he;simp [go_sem] at hm)⟩,?_⟩;clear hK K h₁
 try walk_nrm
 refine Goes.step rfl (fun w₁ h₁=>?_);refine goes_oper_k rfl rfl (by decide) (fun K hK=>?_);have hfact:=h₁ (th tb 3) _ ⟨rfl,rfl⟩;go_simp;refine hK _ _ ⟨⟨rfl,fun e he=>(by have hm:=mem_listed he;simp [go_sem,hfact] at hm;subst hm;exact evC_read _ hstill (by first|(simp;done)|(simp;omega)))⟩,?_⟩;clear hfact hK K h₁
 try walk_nrm
 refine Goes.stop (fun w₁ h₁=>⟨_,atIn_of (s:=(Ya Post tb st c cs).seat) rfl rfl (by decide) (fun w=>?_) (fun w=>by simp [go_sem,execOp,Act.eval]) ?_⟩)
 ·have hz:=Uo
  simp [go_sem,execOp,rcase,Act.eval,Ya,XL.seat,Seat.one,hz]
 ·intro C' y v hback
  rw [Qx rfl];refine JG.done (JG.fin ?_);exact JG.leave0 rfl rfl Try.func51 (by rfl) hback
theorem Xc8 {P:Program} {Post:Value→World→Prop} {C:Ctx} {cs:List Frame} {x:World} {f:FuncId} {fn:Func} {c:Code} {args:Array Value} {nt:Nat} (hf:P.funcs[f]? = some fn) (hb:fn.body=some c) (hn:fn.ntmps=nt)
 (h:JG P Post C (G ((baseD f).at ⟨args ++ Array.replicate (nt - args.size) undef,[]⟩ [.code c]) cs) x):JG P Post C (G (Frame.enter P f args .deferred) cs) x:=by
 rw [enter_atD args hf hb,hn];exact h
abbrev P0 (b:Nat):Value:=.pointer (some ⟨b,0,none⟩)
def Xdk (rv tv fv:Nat):Deferred:={ target:=.fn (.func 58) #[P0 rv,P0 tv,P0 fv],args:=#[] }
structure Xge (Post:Value→World→Prop) (rv tv tb st:Nat) (C:Ctx) (x:World):Prop where
 go:∃ p sp b0,C.d=0∧0 < C.h∧p≠C.h∧C.Ch p=some sp∧sp.c=st∧x.cell? (th tv 0)=some (P0 tb)∧x.cell? (th tb 3)=some (.chan (some st))∧x.cell? (th tb 13)=some (.bool b0)∧x.frozen? (th tb 13)=false ∧
  ∀ g₂ kk,sp.home g₂→x.heap[st]? = some (.chan 0 #[] false kk kk false)→JG Try.prog Post { Ch:=upd C.Ch C.h none,h:=p,d:=0,n:=C.n,lo:=C.lo,io:=C.io } (Go.Conc.served g₂ Qs) ((x.setCell (th tb 13) (.bool true)).setChan st 0 #[] false (kk + 1) (kk + 1) false)
def Zu (Post:Value→World→Prop) (rv tv tb st:Nat) (c:Frame):Prop:=∀ (C:Ctx) (x:World) (v:Value),Xge Post rv tv tb st C x→JG Try.prog Post C (G (c.finish v) [YX Try.prog]) x
def Yb (fb : FuncId) : Prop := ∃ fn, Try.prog.funcs[fb]? = some fn ∧ (fn.name == "runtime.NumGoroutine") = false ∧ fn.body.isNone = false
theorem put_defers (a:Act) (dst:Option Tmp) (v:Value):∃ tmps,a.put dst v=⟨tmps,a.defers⟩:=by
 obtain ⟨t,ds⟩:=a;cases dst with
 | none=>exact ⟨t,rfl⟩
 | some d=>exact ⟨t.setIfInBounds d v,rfl⟩
theorem XbH {Post:Value→World→Prop} {rv tv tb st:Nat} (tmps:Array Value) (ops:Array Oper) (i:Nat) :
 Zu Post rv tv tb st ((baseD 58).at ⟨tmps,[{ target:=.fn (.func 59) #[P0 rv,P0 tv],args:=#[] }]⟩ [.inRegion ops [i]]):=by
 intro C x v h;obtain ⟨p,sp,b0,hd,hh,hp,hsp,hc,e1,e3,e13,f13,hnext⟩:=h.go;have hbu:=Z4;rw [Frame.finish_at];obtain ⟨t',et⟩:=put_defers ⟨tmps,[{ target:=.fn (.func 59) #[P0 rv,P0 tv],args:=#[] }]⟩ ((ops[i]?).bind (·.dst)) v;rw [et];refine JG.done (JG.fin ?_);refine JG.unwind (m:=.returning) (by simp) rfl rfl Try.func59 (by rfl) (by rfl) ?_;generalize hcf:({ (baseD 58).at ⟨t',[]⟩ [] with mode:=.returning }:Frame)=cf;have hcm:cf.mode=.returning:=by rw [← hcf]
 refine Xc8 Try.func59 (by rfl) (by rfl) ?_;simp only [Try.f59,Option.getD_some];walk_nrm
 repeat first|refine JG.seq ?_|refine JG.skip ?_|refine JG.inBlock ?_|refine JG.block ?_|refine JG.done ?_|refine JG.label ?_
 refine kc ?_;refine JG.recover0 rfl (by rfl) (by decide) (fun w=>by simp [go_sem,execOp,Act.eval,resolve,Deferred.ofValue]) (fun w=>by simp [go_sem,execOp,Act.eval,resolve,Deferred.ofValue]) (by simp [tryRecover,Frame.at,baseD,hcm]) ?_
 try walk_nrm
 refine kx ?_
 repeat first|refine JG.seq ?_|refine JG.skip ?_|refine JG.inBlock ?_|refine JG.block ?_|refine JG.done ?_|refine JG.label ?_
 refine kc ?_;refine kx ?_;refine kx ?_;refine kx ?_;refine kx ?_;refine kx ?_;refine kx ?_;refine kx ?_;refine kx ?_;refine kx ?_
 repeat first|refine JG.seq ?_|refine JG.skip ?_|refine JG.inBlock ?_|refine JG.block ?_|refine JG.done ?_|refine JG.label ?_
 refine JG.condF rfl ?_
 repeat first|refine JG.seq ?_|refine JG.skip ?_|refine JG.inBlock ?_|refine JG.block ?_|refine JG.done ?_|refine JG.label ?_
 refine kc ?_;have hf:=e1;refine kx ?_;clear hf;refine kx ?_;refine kx ?_;refine kst (And.intro e13 f13) ?_
 repeat first|refine JG.seq ?_|refine JG.skip ?_|refine JG.inBlock ?_|refine JG.block ?_|refine JG.done ?_|refine JG.label ?_
 refine kc ?_;have hne:(th tb 13)≠(th tb 3):=by simp [th]
 have hne2:(th tb 13).block≠tv∨tv=tb:=by by_cases e:tv=tb;exact .inr e;exact .inl fun h=>e h.symm
 have k1:(x.setCell (th tb 13) (.bool true)).cell? (th tv 0)=some (P0 tb):=Xi (by simp [th]) e1;have k3:(x.setCell (th tb 13) (.bool true)).cell? (th tb 3)=some (.chan (some st)):=Xi (by simp [th]) e3;have hf:=k1;refine kx ?_;clear hf;refine kx ?_;refine kx ?_;have hf:=k3;refine kx ?_;clear hf;refine kx ?_;refine JG.give (s:=sp) (v:=Qs) (z':=.tuple #[]) hd hp hsp rfl (by rfl) (by decide) (fun w=>by simp [execOp,scase,Act.eval,hc]) (fun w=>by simp [go_sem,execOp,Act.eval]) none (fun s' e=>by cases e) (fun s' e=>by cases e) ?_ ?_
 ·refine ⟨5,fun T' hT'=>⟨hh,?_⟩⟩
  rw [hT'];refine .ctl rfl (fun w=>stepG_region_end) ?_;refine .ctl rfl (fun w=>stepG_end) ?_;refine .ctl rfl (fun w=>YU rfl rfl Try.func59 (by rfl)) ?_;have hb:X3 cf=cf:=by simp [X3,hcm]
  rw [hb,← hcf];refine .ctl rfl (fun w=>YU rfl rfl Try.func58 (by rfl)) ?_;exact Vj
 ·intro g₂ kk hg hcc
  rw [hc] at hcc ⊢;refine hnext g₂ kk hg ?_;rw [heap_setCell] at hcc;cases e:x.heap[st]? with
  | none=>rw [e] at hcc;cases hcc
  | some oo =>
   rw [e] at hcc;simp only [Option.map_some,Option.some.injEq] at hcc
   split at hcc
   ·cases oo<;>first|(cases hcc;done)|exact congrArg some hcc
   ·exact congrArg some hcc
end Go.Proofs.Ytdgfekplfipekaa
namespace Go.Proofs.Ytdgfekplfipekaa
open Go.Conc Go.RowKit
set_option maxRecDepth 100000
noncomputable def exts:List (FuncId):=[46,40,55,53]
noncomputable def Xfg:List (FuncId):=[50,60,32,34,27,45,41,31]
noncomputable def FG:Fns:={ fn:=fun f=>Xfg.contains f,maps:=false,top:=fun f=>decide (f < Try.prog.funcs.size),ext:=fun f=>exts.contains f }
theorem Ug:Try.prog.follows .staticDataAhead=true∧∀ g,Try.prog.stepOf g=none:=⟨by kernel_rfl,WT (by kernel_rfl)⟩
theorem VV:QY Try.prog 46:=⟨Try.f46,Extern.Atomic.loadT (.int .i64),Try.func46,by rfl,by rfl,by kernel_rfl,by kernel_rfl,fun P S args=>Xca⟩
theorem U9:QY Try.prog 40:=⟨Try.f40,Extern.Atomic.storeT,Try.func40,by rfl,by rfl,by kernel_rfl,by kernel_rfl,fun P S args=>Xbh⟩
theorem WC:QY Try.prog 55:=⟨Try.f55,Extern.Atomic.update (Op.intArith .add) .i64 true,Try.func55,by rfl,by rfl,by kernel_rfl,by kernel_rfl,fun P S args=>Xcj⟩
theorem ZB:QY Try.prog 53:=⟨Try.f53,Extern.Atomic.casT (.int .i64),Try.func53,by rfl,by rfl,by kernel_rfl,by kernel_rfl,fun P S args=>XaI⟩
theorem Xap (f:FuncId) (h:exts.contains f=true):QY Try.prog f:=by
 have h:=List.contains_iff_mem.1 h;simp only [exts,List.mem_cons,List.not_mem_nil,or_false] at h;rcases h with rfl|rfl|rfl|rfl
 ·exact VV
 ·exact U9
 ·exact WC
 ·exact ZB
def Xds (F : Fns) (f : FuncId) : Prop := ∃ fn c, Try.prog.funcs[f]? = some fn ∧ (fn.name == "runtime.NumGoroutine") = false ∧ fn.body = some c ∧ YY F c = true
theorem XdC (f:FuncId) (h:Xfg.contains f=true):Xds FG f:=by
 have h:=List.contains_iff_mem.1 h;simp only [Xfg,List.mem_cons,List.not_mem_nil,or_false] at h;rcases h with rfl|rfl|rfl|rfl|rfl|rfl|rfl|rfl
 ·exact ⟨Try.f50,Try.f50.body.getD .skip,Try.func50,by rfl,by rfl,by kernel_rfl⟩
 ·exact ⟨Try.f60,Try.f60.body.getD .skip,Try.func60,by rfl,by rfl,by kernel_rfl⟩
 ·exact ⟨Try.f32,Try.f32.body.getD .skip,Try.func32,by rfl,by rfl,by kernel_rfl⟩
 ·exact ⟨Try.f34,Try.f34.body.getD .skip,Try.func34,by rfl,by rfl,by kernel_rfl⟩
 ·exact ⟨Try.f27,Try.f27.body.getD .skip,Try.func27,by rfl,by rfl,by kernel_rfl⟩
 ·exact ⟨Try.f45,Try.f45.body.getD .skip,Try.func45,by rfl,by rfl,by kernel_rfl⟩
 ·exact ⟨Try.f41,Try.f41.body.getD .skip,Try.func41,by rfl,by rfl,by kernel_rfl⟩
 ·exact ⟨Try.f31,Try.f31.body.getD .skip,Try.func31,by rfl,by rfl,by kernel_rfl⟩
theorem XO (S:YK):Closed Try.prog S FG where
 maps:=fun h=>by cases h
 text:=XdC
 exts:=Xap
 tops:=fun f h=>by
  have h:f < Try.prog.funcs.size:=by simpa [FG] using h
  exact ⟨_,Array.getElem?_eq_getElem h⟩
 early:=Ug
end Go.Proofs.Ytdgfekplfipekaa
namespace Go.Proofs.Ytdgfekplfipekaa
open Go.Conc Go.RowKit
open Go.ConcN (upd upd_same upd_ne)
set_option maxRecDepth 100000
def Code.from:Code→Nat→Code
 | c,0=>c
 | .seq _ b,n + 1=>Code.from b n
 | c,_=>c
theorem Vo:(Try.prog.info? 33).map (fun i=>(i.zero,i.size,i.bytes))=some (some (.pointer none),1,8):=by kernel_rfl
theorem XdZ:(Try.prog.info? 4).map (fun i=>(i.zero,i.size,i.bytes))=some (some (.bool false),1,1):=by kernel_rfl
theorem Xb {w:World} {b k r:Nat} {v:Value} (h:r≠b):(w.setCell (th b k) v).heap[r]? = w.heap[r]?:=by
 rw [heap_setCell]
 have:¬ r=b:=h
 simp only [this,if_false];cases w.heap[r]?<;>rfl
theorem Xd {w:World} {b k:Nat} {v:Value} {cs:Array Value} {t:TypeId} {f:Nat × Nat} (h:w.heap[b]? = some (.cells cs t f)):(w.setCell (th b k) v).heap[b]? = some (.cells (cs.setIfInBounds k v) t f):=by
 rw [heap_setCell,h];simp [th]
theorem Xh (w:World) (a:Addr) (v:Value):(w.setCell a v).heap.size=w.heap.size:=by simp [World.setCell]
def XH (vT vM vL vW vR vF:Value) (stops:Bool):Array Value:=#[vT,vM,vL,vW,vR,vF,.bool stops]
theorem Xl (w:World) (o:Obj):(w.alloc o).heap=w.heap.push o:=rfl
theorem XI (w:World):w.drew.heap=w.heap:=rfl
theorem XU {w:World} {a:Addr} {v:Value} {o:Obj} (h:w.cell? a=some v):(w.alloc o).cell? a=some v:=by
 have hlt:=Xt h;unfold World.cell? World.alloc at *;simp only [Array.getElem?_push];rw [if_neg (Nat.ne_of_lt hlt)];exact h
theorem Xeg {Post:Value→World→Prop} {C:Ctx} {z:World} {c:Frame} {cs:List Frame} {N rb rv fv tv tb:Nat} {vf:Value} {u6 u7 u8 u9 B0 B1 B2 B3 B4 B6 B7 B8 B9 D0 D1 D2 D3 D4 D5 vT vM vL vW vR vF:Value} {stops:Bool} {fls:List Value}
 (hr:z.heap[rb]? = some (.cells (XH vT vM vL vW vR vF stops) 85 (0,0))) (hF:z.ownsRow N 4 1 vF fls.length fls) (hN:N≤z.heap.size) (hnF:vF.ownBlock≠some rb) (hnv:vF.ownBlock≠some rv) (hm:fls.length < 64)
 (c1:z.cell? (th rv 0)=some (P0 rb))
 (hend:∀ y vF' D6 D7 D8 D9 E0 E1 E2 E3 E4,y.heap[rb]? = some (.cells (XH vT vM vL vW vR vF' stops) 85 (0,0))→y.ownsRow N 4 1 vF' (fls.length + 1) (fls ++ [.bool false])→(vF'.ownBlock=vF.ownBlock∨∃ g,vF'.ownBlock=some g∧z.heap.size≤g)→z.heap.size≤y.heap.size→(∀ r,r < z.heap.size→r≠rb→some r≠vF.ownBlock→y.heap[r]? = z.heap[r]?) →
   JG Try.prog Post C (G ((base 49).at ⟨#[P0 rb,vf,P0 rv,P0 fv,.pointer none,P0 tv,u6,u7,u8,u9,B0,B1,B2,B3,B4,P0 tb,B6,B7,B8,B9,D0,D1,D2,D3,D4,D5,D6,D7,D8,D9,E0,E1,E2,E3,E4,undef,undef,undef,undef],[]⟩ [.code (Code.from (Try.f49.body.getD .skip) 4)]) (c::cs)) y) :
 JG Try.prog Post C (G ((base 49).at ⟨#[P0 rb,vf,P0 rv,P0 fv,.pointer none,P0 tv,u6,u7,u8,u9,B0,B1,B2,B3,B4,P0 tb,B6,B7,B8,B9,D0,D1,D2,D3,D4,D5,undef,undef,undef,undef,undef,undef,undef,undef,undef,undef,undef,undef,undef],[]⟩ [.code (Code.from (Try.f49.body.getD .skip) 3)]) (c::cs)) z:=by
 simp only [Try.f49,Option.getD_some,Code.from] at hend ⊢;obtain ⟨i0,hi0,hz0,hz1,hz2⟩:=XM XdZ;refine JG.seq ?_;refine JG.code (XO _) (by kernel_rfl) rfl (.inr (by kernel_rfl)) rfl (fun K R hK hR τ=>?_);replace hK:=HD hK;replace hend:=HD hend;clear hR;obtain ⟨y,hy⟩:∃ y,y=under z τ 0:=⟨_,rfl⟩
 have hyh:y.heap=z.heap:=by rw [hy];rfl
 rw [← hy];replace hr:y.heap[rb]? = some (.cells (XH vT vM vL vW vR vF stops) 85 (0,0)):=by rw [hyh];exact hr
 have k0:y.cell? (th rb 5)=some vF:=Xa hr 5;have f0:y.frozen? (th rb 5)=false:=Xe hr 5;have k1:y.cell? (th rv 0)=some (P0 rb):=by rw [hy];exact c1
 have HOT:Hid (((y.alloc (.cells #[.bool false] 4)).drew).ownsRow N 4 1 vF fls.length fls):=HD (((by rw [hy];exact hF:y.ownsRow N 4 1 vF fls.length fls).alloc _).drew);have hN':N≤y.heap.size:=by rw [hyh];exact hN
 have e0:rb < y.heap.size:=Xt k0;have e1:rb < y.heap.size + 1:=by omega
 have e2:rv < y.heap.size:=Xt k1;have e3:rv < y.heap.size + 1:=by omega
 have HY:=HD hyh;have HR:=HD hr;clear hy hyh hr c1 hF hN;have m1:Hid (fls.length + 1≤maxLen):=HD (by unfold maxLen;omega);have m2:Hid ((fls.length + 1) * 1≤140737488355328):=HD (by omega)
 go_region_law (first
  | (refine step_append_lies _ (by rfl) _ _ _ (by rfl) N 4 i0 _ 1 1 Try.underlying83 hi0 hz0 hz1 hz2 rfl (by omega) vF fls.length fls (by rfl) HOT.out ⟨y.heap.size,0,none⟩ 1 1 [.bool false] (by rfl) (by rfl) (World.news_of_block (cs:=#[.bool false]) (t:=4) (fr:=(0,0)) (heap_alloc_new y _)) (by simp [Value.oneCell']) (by omega) m1.out m2.out (by simp;omega) (y.heap.size + 1) (by simp) ?_
     intro g cap w' HG1 HG2 HG3 HG4;have HB:=HD HG2;have HO:=HD HG1;have HG:=HD HG3;clear HG1 HG2 HG3 HG4;have g0:w'.heap[rb]? = some (.cells (XH vT vM vL vW vR vF stops) 85 (0,0)):=by
      rw [HB.out.block rb (by simp;omega) (fun e=>hnF e.symm),XI,Xl,Array.getElem?_push,if_neg (by omega)];exact HR.out
     have HQ:=HD g0;have q0:w'.cell? (th rb 5)=some vF:=Xa g0 5;have q1:w'.frozen? (th rb 5)=false:=Xe g0 5;have q2:w'.cell? (th rv 0)=some (P0 rb):=HB.out.cell (XU k1) (fun e=>hnv e.symm);clear g0))
 all_goals (
  show K _ _;refine hK.out _ _ (hend.out _ (.slice (some ⟨g,0,none⟩) (fls.length + 1) cap) _ _ _ _ _ _ _ _ _ ?_ ?_ ?_ ?_ ?_)
  ·rw [Xd HQ.out];rfl
  ·refine Xj HO.out fun g' hg'=>Xb ?_
   obtain rfl:g=g':=by simpa [Value.ownBlock] using hg'
   rintro rfl;rcases HG.out with h|h
   ·exact hnF h
   ·omega
  ·rcases HG.out with h|h
   ·exact .inl h.symm
   ·exact .inr ⟨g,rfl,by rw [← HY.out];omega⟩
  ·rw [Xh,← HY.out];have:=HB.out.size;simp at this;omega
  ·intro r h1 h2 h3
   rw [← HY.out] at h1 ⊢;rw [Xb h2,HB.out.block r (by simp;omega) h3,XI,Xl,Array.getElem?_push,if_neg (by omega)])
structure XgP (z y:World) (N rb:Nat) (vT vF vT' vF' vM vL vW vR:Value) (stops:Bool) (ths fls:List Value) (tb:Nat):Prop where
 obj:y.heap[rb]? = some (.cells (XH vT' vM vL vW vR vF' stops) 85 (0,0))
 ths:y.ownsRow N 33 1 vT' (ths.length + 1) (ths ++ [P0 tb])
 fls:y.ownsRow N 4 1 vF' (fls.length + 1) (fls ++ [.bool false])
 tnew:vT'.ownBlock=vT.ownBlock∨∃ g,vT'.ownBlock=some g∧z.heap.size≤g
 fnew:vF'.ownBlock=vF.ownBlock∨∃ g,vF'.ownBlock=some g∧z.heap.size≤g
 size:z.heap.size≤y.heap.size
 block:∀ r,r < z.heap.size→r≠rb→some r≠vT.ownBlock→some r≠vF.ownBlock→y.heap[r]? = z.heap[r]?
theorem Xeh {Post:Value→World→Prop} {C:Ctx} {z:World} {c:Frame} {cs:List Frame} {N rb rv fv tv tb:Nat} {vf:Value} {u6 u7 u8 u9 B0 B1 B2 B3 B4 vT vM vL vW vR vF:Value} {stops:Bool} {ths fls:List Value}
 (hr:z.heap[rb]? = some (.cells (XH vT vM vL vW vR vF stops) 85 (0,0))) (hT:z.ownsRow N 33 1 vT ths.length ths) (hF:z.ownsRow N 4 1 vF fls.length fls) (hN:N≤z.heap.size)
 (hnT:vT.ownBlock≠some rb) (hntv:vT.ownBlock≠some rv) (hntt:vT.ownBlock≠some tv) (hnF:vF.ownBlock≠some rb) (hnv:vF.ownBlock≠some rv) (hTF:∀ g,vT.ownBlock=some g→vF.ownBlock≠some g) (hm:ths.length < 64) (hm2:fls.length < 64) (hrvb:rv≠rb)
 (c1:z.cell? (th rv 0)=some (P0 rb)) (c2:z.cell? (th tv 0)=some (P0 tb))
 (hend:∀ y vT' vF' B6 B7 B8 B9 D0 D1 D2 D3 D4 D5 D6 D7 D8 D9 E0 E1 E2 E3 E4,XgP z y N rb vT vF vT' vF' vM vL vW vR stops ths fls tb →
   JG Try.prog Post C (G ((base 49).at ⟨#[P0 rb,vf,P0 rv,P0 fv,.pointer none,P0 tv,u6,u7,u8,u9,B0,B1,B2,B3,B4,P0 tb,B6,B7,B8,B9,D0,D1,D2,D3,D4,D5,D6,D7,D8,D9,E0,E1,E2,E3,E4,undef,undef,undef,undef],[]⟩ [.code (Code.from (Try.f49.body.getD .skip) 4)]) (c::cs)) y) :
 JG Try.prog Post C (G ((base 49).at ⟨#[P0 rb,vf,P0 rv,P0 fv,.pointer none,P0 tv,u6,u7,u8,u9,B0,B1,B2,B3,B4,P0 tb,undef,undef,undef,undef,undef,undef,undef,undef,undef,undef,undef,undef,undef,undef,undef,undef,undef,undef,undef,undef,undef,undef,undef],[]⟩ [.code (Code.from (Try.f49.body.getD .skip) 2)]) (c::cs)) z:=by
 simp only [Try.f49,Option.getD_some,Code.from] at hend ⊢;obtain ⟨i0,hi0,hz0,hz1,hz2⟩:=XM Vo;refine JG.seq ?_;refine JG.code (XO _) (by kernel_rfl) rfl (.inr (by kernel_rfl)) rfl (fun K R hK hR τ=>?_);replace hK:=HD hK;replace hend:=HD hend;replace hF:=HD hF;clear hR;obtain ⟨y,hy⟩:∃ y,y=under z τ 0:=⟨_,rfl⟩
 have hyh:y.heap=z.heap:=by rw [hy];rfl
 rw [← hy];replace hr:y.heap[rb]? = some (.cells (XH vT vM vL vW vR vF stops) 85 (0,0)):=by rw [hyh];exact hr
 have k0:y.cell? (th rb 0)=some vT:=Xa hr 0;have f0:y.frozen? (th rb 0)=false:=Xe hr 0;have k1:y.cell? (th rv 0)=some (P0 rb):=by rw [hy];exact c1
 have k2:y.cell? (th tv 0)=some (P0 tb):=by rw [hy];exact c2
 have HOT:Hid (((y.alloc (.cells #[P0 tb] 33)).drew).ownsRow N 33 1 vT ths.length ths):=HD (((by rw [hy];exact hT:y.ownsRow N 33 1 vT ths.length ths).alloc _).drew);have hN':N≤y.heap.size:=by rw [hyh];exact hN
 have e0:rb < y.heap.size:=Xt k0;have e1:rb < y.heap.size + 1:=by omega
 have e2:rv < y.heap.size:=Xt k1;have e3:rv < y.heap.size + 1:=by omega
 have e4:tv < y.heap.size:=Xt k2;have e5:tv < y.heap.size + 1:=by omega
 have HY:=HD hyh;have HR:=HD hr;have HN:=HD hN;clear hy hyh hr c1 c2 hT hN;have m1:Hid (ths.length + 1≤maxLen):=HD (by unfold maxLen;omega);have m2:Hid ((ths.length + 1) * 8≤140737488355328):=HD (by omega)
 go_region_law (first
  | (refine step_append_lies _ (by rfl) _ _ _ (by rfl) N 33 i0 _ 1 8 Try.underlying82 hi0 hz0 hz1 hz2 rfl (by omega) vT ths.length ths (by rfl) HOT.out ⟨y.heap.size,0,none⟩ 1 1 [P0 tb] (by rfl) (by rfl) (World.news_of_block (cs:=#[P0 tb]) (t:=33) (fr:=(0,0)) (heap_alloc_new y _)) (by simp [Value.oneCell']) (by omega) m1.out m2.out (by simp;omega) (y.heap.size + 1) (by simp) ?_
     intro g cap w' HG1 HG2 HG3 HG4;have HB:=HD HG2;have HO:=HD HG1;have HG:=HD HG3;clear HG1 HG2 HG3 HG4;have g0:w'.heap[rb]? = some (.cells (XH vT vM vL vW vR vF stops) 85 (0,0)):=by
      rw [HB.out.block rb (by simp;omega) (fun e=>hnT e.symm),XI,Xl,Array.getElem?_push,if_neg (by omega)];exact HR.out
     have HQ:=HD g0;have q0:w'.cell? (th rb 0)=some vT:=Xa g0 0;have q1:w'.frozen? (th rb 0)=false:=Xe g0 0;have q2:w'.cell? (th rv 0)=some (P0 rb):=HB.out.cell (XU k1) (fun e=>hntv e.symm);have q3:w'.cell? (th tv 0)=some (P0 tb):=HB.out.cell (XU k2) (fun e=>hntt e.symm);clear g0))
 all_goals (
  show K _ _;have hws:y.heap.size + 1≤w'.heap.size:=by have:=HB.out.size;simpa using this
  have hblk:∀ r,r < y.heap.size→r≠rb→some r≠vT.ownBlock→(w'.setCell (th rb 0) (.slice (some ⟨g,0,none⟩) (ths.length + 1) cap)).heap[r]? = z.heap[r]?:=by
   intro r h1 h2 h3;rw [Xb h2,HB.out.block r (by simp;omega) h3,XI,Xl,Array.getElem?_push,if_neg (by omega),HY.out]
  have hgr:g≠rb:=by
   rintro rfl;rcases HG.out with h|h
   ·exact hnT h
   ·omega
  have hFz:∀ g',vF.ownBlock=some g'→g' < y.heap.size:=fun g' e=>by rw [HY.out];exact own_lt hF.out e
  have hgF:vF.ownBlock≠some g:=by
   intro e;rcases HG.out with h|h
   ·exact hTF g h e
   ·have:=hFz g e;omega
  refine hK.out _ _ (Xeg (N:=N) (fls:=fls) (z:=w'.setCell (th rb 0) (.slice (some ⟨g,0,none⟩) (ths.length + 1) cap)) (vT:=.slice (some ⟨g,0,none⟩) (ths.length + 1) cap) (vM:=vM) (vL:=vL) (vW:=vW) (vR:=vR) (vF:=vF) (stops:=stops) ?_ ?_ ?_ hnF hnv hm2 ?_ ?_)
  ·rw [Xd HQ.out];rfl
  ·exact Xj hF.out fun g' e=>hblk g' (hFz g' e) (fun h=>hnF (h ▸ e)) (fun h=>hTF g' h.symm e)
  ·rw [Xh];have:=HN.out;rw [← HY.out] at this;omega
  ·exact Xi (by simp [th,hrvb]) q2
  ·intro y2 vF' v26 v27 v28 v29 v30 v31 v32 v33 v34 a1 a2 a3 a4 a5
   refine hend.out y2 (.slice (some ⟨g,0,none⟩) (ths.length + 1) cap) vF' _ _ _ _ _ _ _ _ _ _ _ _ _ _ _ _ _ _ _ ⟨a1,?_,a2,?_,?_,?_,?_⟩
   ·refine Xj (Xj (w':=w'.setCell (th rb 0) (.slice (some ⟨g,0,none⟩) (ths.length + 1) cap)) HO.out fun g' e=>Xb ?_) fun g' e=>?_
    ·obtain rfl:g=g':=by simpa [Value.ownBlock] using e
     exact hgr
    ·obtain rfl:g=g':=by simpa [Value.ownBlock] using e
     refine a5 g ?_ hgr fun h=>hgF h.symm;rw [Xh];exact own_lt HO.out rfl
   ·rcases HG.out with h|h
    ·exact .inl h.symm
    ·exact .inr ⟨g,rfl,by rw [← HY.out];omega⟩
   ·rcases a3 with h|⟨g',h,h'⟩
    ·exact .inl h
    ·rw [Xh] at h'
     exact .inr ⟨g',h,by rw [← HY.out];omega⟩
   ·rw [Xh] at a4;rw [← HY.out];omega
   ·intro r h1 h2 h3 h4
    rw [← HY.out] at h1;rw [a5 r (by rw [Xh];omega) h2 h4];exact hblk r h1 h2 h3)
