/- A thread's goroutine again, with what becomes of it when it is stopped. -/
import Derived.Test.YtdgfekplfipekaaVGtE
import Derived.Test.YtdgfekplfipekaaVTkB
set_option linter.all false
set_option maxRecDepth 100000
set_option maxHeartbeats 16000000
namespace Go.Proofs.Ytdgfekplfipekaa
open Go.Conc Go.RowKit
open Go.ConcN (upd upd_same upd_ne)
set_option maxRecDepth 100000
def Yk (rb num wk st:Nat) (vv:Value) (a:Xo) (e:Bool):Array Value :=
 #[P0 rb,.int .i64 num,.chan (some wk),.chan (some st),vv,.int .i64 a.thread,.int .i8 a.op,.int .i64 a.cell,.int .i64 a.arg,.int .i64 a.new,.int .i64 a.was,.int .i64 a.now,.bool a.ok,.bool e]
abbrev YI:Value:=.iface 114 (.agg #[])
def Xdt (Post:Value→World→Prop) (tb:Nat) (c:Frame) (cs:List Frame) (g:Goroutine):Prop :=
 ∀ (C:Ctx) (x:World) (v:Value) (rb:Nat) (stops:Bool),x.cell? (th tb 0)=some (P0 rb)→x.cell? (th rb 6)=some (.bool stops) →
  (stops=false→JG Try.prog Post C (G (c.finish (.tuple #[])) cs) x)→(stops=true→JG Try.prog Post C (G (c.raise [{ v:=YI,recovered:=false }]) cs) x)→JG Try.prog Post C (Go.Conc.served g v) x
def YC (Post:Value→World→Prop) (tb wk:Nat) (c:Frame) (cs:List Frame):XL:={ c:=wk,z:=Qs,kn:=fun a v=>a=th tb 2∧v=.chan (some wk),home:=Xdt Post tb c cs }
theorem Xgp {α:Type} (a0 a1 a2 a3 a4 a5 a6 a7 a8 a9 a10 a11 a12 a13 b4 b5 b6 b7 b8 b9 b10 b11 b12:α) :
 (((((((((#[a0,a1,a2,a3,a4,a5,a6,a7,a8,a9,a10,a11,a12,a13].setIfInBounds 4 b4).setIfInBounds 5 b5).setIfInBounds 6 b6).setIfInBounds 7 b7).setIfInBounds 8 b8).setIfInBounds 9 b9).setIfInBounds 10 b10).setIfInBounds 11 b11).setIfInBounds 12 b12) =
  #[a0,a1,a2,a3,b4,b5,b6,b7,b8,b9,b10,b11,b12,a13]:=by
 apply Array.ext';simp only [Array.toList_setIfInBounds]
 rfl
theorem XdI {Post:Value→World→Prop} {C:Ctx} {x:World} {c:Frame} {cs:List Frame} {tb rb num wk st p:Nat} {vv:Value} {pa:Option Addr} {ao a:Xo} {sp:XL}
 (hd:C.d=0) (hp:p≠C.h) (hsp:C.Ch p=some sp) (hc:sp.c=st) (htb:x.heap[tb]? = some (.cells (Yk rb num wk st vv ao false) 91 (2,4))) (hrb:x.cell? (th rb 6)=some (.bool false)) (hne:rb≠tb)
 (hfree:XbN x.heap.size C.Ch C.h x (YC Post tb wk c cs))
 (hnext:∀ (y:World) (g₂:Goroutine) (kk:Nat),sp.home g₂→y.heap[st]? = some (.chan 0 #[] false kk kk false)→x.heap.size≤y.heap.size→(∀ r,r≠tb→r < x.heap.size→y.heap[r]? = x.heap[r]?)→y.heap[tb]? = some (.cells (Yk rb num wk st (.pointer pa) a false) 91 (2,4)) →
   JG Try.prog Post { Ch:=upd C.Ch C.h (some (YC Post tb wk c cs)),h:=p,d:=0,n:=C.n,lo:=C.lo,io:=C.io } (Go.Conc.served g₂ Qs) (y.setChan st 0 #[] false (kk + 1) (kk + 1) false)) :
 JG Try.prog Post C (G (Frame.enter Try.prog 44 #[P0 tb,.pointer pa,.agg (Yj a).toArray] .normal) (c::cs)) x:=by
 have hbu:=Z4;have hlt:tb < x.heap.size:=(GE htb).1;have hrl:rb < x.heap.size:=Xt (a:=th rb 6) hrb;have h0:x.cell? (th tb 0)=some (P0 rb):=Xa htb 0;refine Xu Try.func44 (by rfl) (by rfl) ?_;simp only [Try.f44,Option.getD_some,Yj];walk_nrm
 repeat refine kx ?_
 refine ko fun K E hK hE τ d=>?_;go_simp;refine hK _ _ (jt (x:=x.alloc (.cells #[.int .i64 a.thread,.int .i8 a.op,.int .i64 a.cell,.int .i64 a.arg,.int .i64 a.new,.int .i64 a.was,.int .i64 a.now,.bool a.ok] 89)) ?_);simp only [Xs];clear hK hE K E τ d
 try walk_nrm
 obtain ⟨w,hw⟩:∃ w,w=x.alloc (.cells #[.int .i64 a.thread,.int .i8 a.op,.int .i64 a.cell,.int .i64 a.arg,.int .i64 a.new,.int .i64 a.was,.int .i64 a.now,.bool a.ok] 89):=⟨_,rfl⟩
 have ws:w.heap.size=x.heap.size + 1:=by rw [hw];simp
 have wn:w.heap[x.heap.size]? = some (.cells #[.int .i64 a.thread,.int .i8 a.op,.int .i64 a.cell,.int .i64 a.arg,.int .i64 a.new,.int .i64 a.was,.int .i64 a.now,.bool a.ok] 89 (0,0)):=by rw [hw];exact heap_alloc_new x _
 have wo:∀ r,r < x.heap.size→w.heap[r]? = x.heap[r]?:=fun r h=>by rw [hw,Xl,Array.getElem?_push,if_neg (by omega)]
 have wr:w.cell? (th rb 6)=some (.bool false):=by rw [hw];exact XU hrb
 rw [← hw];clear hw;have wt:=(wo tb hlt).trans htb;have w0:w.cell? (th tb 0)=some (P0 rb):=Xa wt 0
 repeat refine kx ?_
 refine JG.code (XO _) (by kernel_rfl) rfl (.inr (by kernel_rfl)) rfl (fun K R hK hR τ=>?_);replace hK:=HD hK;clear hR;obtain ⟨y,hy⟩:∃ y,y=under w τ 0:=⟨_,rfl⟩
 have yh:y.heap=w.heap:=by rw [hy];rfl
 rw [← hy];clear hy;have HW:=HD wo;have HS:=HD ws;rw [← yh] at wn wt;have m0:y.cell? (th x.heap.size 0)=some (.int .i64 a.thread):=Xa wn 0;have m1:y.cell? (th x.heap.size 1)=some (.int .i8 a.op):=Xa wn 1;have m2:y.cell? (th x.heap.size 2)=some (.int .i64 a.cell):=Xa wn 2;have m3:y.cell? (th x.heap.size 3)=some (.int .i64 a.arg):=Xa wn 3;have m4:y.cell? (th x.heap.size 4)=some (.int .i64 a.new):=Xa wn 4;have m5:y.cell? (th x.heap.size 5)=some (.int .i64 a.was):=Xa wn 5;have m6:y.cell? (th x.heap.size 6)=some (.int .i64 a.now):=Xa wn 6;have m7:y.cell? (th x.heap.size 7)=some (.bool a.ok):=Xa wn 7;have n4:y.frozen? (th tb 4)=false:=by simp [World.frozen?,th,wt]
 have n5:y.frozen? (th tb 5)=false:=by simp [World.frozen?,th,wt]
 have n6:y.frozen? (th tb 6)=false:=by simp [World.frozen?,th,wt]
 have n7:y.frozen? (th tb 7)=false:=by simp [World.frozen?,th,wt]
 have n8:y.frozen? (th tb 8)=false:=by simp [World.frozen?,th,wt]
 have n9:y.frozen? (th tb 9)=false:=by simp [World.frozen?,th,wt]
 have n10:y.frozen? (th tb 10)=false:=by simp [World.frozen?,th,wt]
 have n11:y.frozen? (th tb 11)=false:=by simp [World.frozen?,th,wt]
 have n12:y.frozen? (th tb 12)=false:=by simp [World.frozen?,th,wt]
 have k4:y.cell? (th tb 4)=some vv:=Xa wt 4;have k5:y.cell? (th tb 5)=some (.int .i64 ao.thread):=Xa wt 5;have k6:y.cell? (th tb 6)=some (.int .i8 ao.op):=Xa wt 6;have k7:y.cell? (th tb 7)=some (.int .i64 ao.cell):=Xa wt 7;have k8:y.cell? (th tb 8)=some (.int .i64 ao.arg):=Xa wt 8;have k9:y.cell? (th tb 9)=some (.int .i64 ao.new):=Xa wt 9;have k10:y.cell? (th tb 10)=some (.int .i64 ao.was):=Xa wt 10;have k11:y.cell? (th tb 11)=some (.int .i64 ao.now):=Xa wt 11;have k12:y.cell? (th tb 12)=some (.bool ao.ok):=Xa wt 12;have HT:=HD wt;have YH:=HD yh;have b0:tb < y.heap.size:=Xt (Xa wt 0);clear wt wn wo ws yh w0 wr
 go_region
 show K _ _;refine hK.out _ _ ?_;clear hK K m0 m1 m2 m3 m4 m5 m6 m7 n4 n5 n6 n7 n8 n9 n10 n11 n12 k4 k5 k6 k7 k8 k9 k10 k11 k12;obtain ⟨u,hu⟩:∃ u,u=(((((((((y.setCell (th tb 4) (.pointer pa)).setCell (th tb 5) (.int .i64 a.thread)).setCell (th tb 6) (.int .i8 a.op)).setCell (th tb 7) (.int .i64 a.cell)).setCell (th tb 8) (.int .i64 a.arg)).setCell (th tb 9) (.int .i64 a.new)).setCell (th tb 10) (.int .i64 a.was)).setCell (th tb 11) (.int .i64 a.now)).setCell (th tb 12) (.bool a.ok)).drew:=⟨_,rfl⟩
 rw [← hu];have us:u.heap.size=x.heap.size + 1:=by
  rw [hu,XI,Xh,Xh,Xh,Xh,Xh,Xh,Xh,Xh,Xh,YH.out];exact HS.out
 have uo:∀ r,r≠tb→r < x.heap.size→u.heap[r]? = x.heap[r]?:=fun r h1 h2=>by
  rw [hu,XI,Xb h1,Xb h1,Xb h1,Xb h1,Xb h1,Xb h1,Xb h1,Xb h1,Xb h1,YH.out];exact HW.out r h2
 have ut:u.heap[tb]? = some (.cells (Yk rb num wk st (.pointer pa) a false) 91 (2,4)):=by
  rw [hu,XI];rw [Xd (Xd (Xd (Xd (Xd (Xd (Xd (Xd (Xd HT.out))))))))];simp only [Yk,Xgp]
 clear hu HT HW HS YH b0;have u3:u.cell? (th tb 3)=some (.chan (some st)):=Xa ut 3;have u2:u.cell? (th tb 2)=some (.chan (some wk)):=Xa ut 2;have hfu:XbN u.heap.size C.Ch C.h u (YC Post tb wk c cs):=by
  obtain ⟨q,hq⟩:=hfree.open_;have hwk:wk < x.heap.size:=hfree.low;have hwt:wk≠tb:=by rintro rfl;exact absurd (htb.symm.trans hq) (by simp)
  exact ⟨by show wk < _;omega,⟨q,(uo wk hwt hwk).trans hq⟩,hfree.own,fun ad v hv=>by obtain ⟨rfl,rfl⟩:=hv;exact u2⟩
 try walk_nrm
 repeat refine kx ?_
 refine JG.give (s:=sp) (v:=Qs) (z':=.tuple #[]) hd hp hsp rfl (by rfl) (by decide) (fun w=>by simp [execOp,scase,Act.eval,hc]) (fun w=>by simp [go_sem,execOp,Act.eval]) (some (YC Post tb wk c cs)) (fun s' e=>by obtain rfl:=OI e;exact hfu) (fun s' e ad v hv=>by obtain rfl:=OI e;obtain ⟨rfl,rfl⟩:=hv;simp [World.frozen?,th,ut]) ?_ ?_
 ·refine ⟨12,fun T' _=>⟨tb + 1,by omega,.inl ⟨11,u,rfl,?_⟩⟩⟩
  walk_nrm;have hstill:(YC Post tb wk c cs).Sl (.cell (th tb 2)):=⟨_,_,rfl,rfl,rfl⟩
  k_c stepG_region_end
  k_reg
  refine Goes.step rfl (fun w₁ h₁=>?_);refine goes_oper_k rfl rfl (by decide) (fun K hK=>?_);go_simp;refine hK _ _ ⟨⟨rfl,fun e he=>(by have hm:=mem_listed he;simp [go_sem] at hm)⟩,?_⟩;clear hK K h₁
  try walk_nrm
  refine Goes.step rfl (fun w₁ h₁=>?_);refine goes_oper_k rfl rfl (by decide) (fun K hK=>?_);go_simp;refine hK _ _ ⟨⟨rfl,fun e he=>(by have hm:=mem_listed he;simp [go_sem] at hm)⟩,?_⟩;clear hK K h₁
  try walk_nrm
  refine Goes.step rfl (fun w₁ h₁=>?_);refine goes_oper_k rfl rfl (by decide) (fun K hK=>?_);go_simp;refine hK _ _ ⟨⟨rfl,fun e he=>(by have hm:=mem_listed he;simp [go_sem] at hm)⟩,?_⟩;clear hK K h₁
  try walk_nrm
  refine Goes.step rfl (fun w₁ h₁=>?_);refine goes_oper_k rfl rfl (by decide) (fun K hK=>?_);have hfact:=h₁ (th tb 2) _ ⟨rfl,rfl⟩;go_simp;refine hK _ _ ⟨⟨rfl,fun e he=>(by have hm:=mem_listed he;simp [go_sem,hfact] at hm;subst hm;exact evC_read _ hstill (by first|(simp;done)|(simp;omega)))⟩,?_⟩;clear hfact hK K h₁
  try walk_nrm
  refine Goes.stop (fun w₁ h₁=>⟨_,atIn_of (s:=(YC Post tb wk c cs).seat) rfl rfl (by decide) (fun w=>?_) (fun w=>by simp [go_sem,execOp,Act.eval]) ?_⟩)
  ·have hz:=Uo
   simp [go_sem,execOp,rcase,Act.eval,YC,XL.seat,Seat.one,hz]
  ·intro C' z v rb' stops e0 e1 hf ht
   rw [Qx rfl]
   repeat refine kx ?_
   cases stops with
   | false =>
    repeat refine kx ?_
    refine JG.fin ?_;exact JG.leave0 rfl rfl Try.func44 (by rfl) (hf rfl)
   | true =>
    repeat refine kx ?_
    refine JG.panic (v:=YI) rfl (by rfl) (by decide) (fun w=>by simp [go_sem,execOp,Act.eval]) (fun w=>by simp [go_sem,execOp,Act.eval,Instr.panic]) ?_;exact JG.raise rfl Try.func44 (ht rfl)
 ·intro g₂ kk hg hcc
  rw [hc] at hcc ⊢;exact hnext u g₂ kk hg hcc (by omega) uo ut
structure XfB (Post:Value→World→Prop) (rv tv tb st:Nat) (C:Ctx) (x:World):Prop where
 go:∃ p sp b0 rb,C.d=0∧0 < C.h∧p≠C.h∧C.Ch p=some sp∧sp.c=st∧x.cell? (th rv 0)=some (P0 rb)∧x.cell? (th rb 6)=some (.bool true)∧x.cell? (th tv 0)=some (P0 tb)∧x.cell? (th tb 3)=some (.chan (some st))∧x.cell? (th tb 13)=some (.bool b0)∧x.frozen? (th tb 13)=false ∧
  ∀ g₂ kk,sp.home g₂→x.heap[st]? = some (.chan 0 #[] false kk kk false)→JG Try.prog Post { Ch:=upd C.Ch C.h none,h:=p,d:=0,n:=C.n,lo:=C.lo,io:=C.io } (Go.Conc.served g₂ Qs) ((x.setCell (th tb 13) (.bool true)).setChan st 0 #[] false (kk + 1) (kk + 1) false)
def Zt (Post:Value→World→Prop) (rv tv tb st:Nat) (c:Frame):Prop:=∀ (C:Ctx) (x:World),XfB Post rv tv tb st C x→JG Try.prog Post C (G (c.raise [{ v:=YI,recovered:=false }]) [YX Try.prog]) x
theorem XbG {Post:Value→World→Prop} {rv tv tb st:Nat} (tmps:Array Value) (ops:Array Oper) (i:Nat) :
 Zt Post rv tv tb st ((baseD 58).at ⟨tmps,[{ target:=.fn (.func 59) #[P0 rv,P0 tv],args:=#[] }]⟩ [.inRegion ops [i]]):=by
 intro C x h;obtain ⟨p,sp,b0,rb,hd,hh,hp,hsp,hc,er,e6,e1,e3,e13,f13,hnext⟩:=h.go;have hbu:=Z4;refine JG.unwind (b:=baseD 58) (a:=⟨tmps,[{ target:=.fn (.func 59) #[P0 rv,P0 tv],args:=#[] }]⟩) (m:=.panicking [{ v:=YI,recovered:=false }]) (by simp) rfl rfl Try.func59 (by rfl) (by rfl) ?_;generalize hcf:({ (baseD 58).at ⟨tmps,[]⟩ [.inRegion ops [i]] with mode:=.panicking [{ v:=YI,recovered:=false }] }:Frame)=cf;have hcm:cf.mode=.panicking [{ v:=YI,recovered:=false }]:=by rw [← hcf]
 refine Xc8 Try.func59 (by rfl) (by rfl) ?_;simp only [Try.f59,Option.getD_some];walk_nrm
 repeat first|refine JG.seq ?_|refine JG.skip ?_|refine JG.inBlock ?_|refine JG.block ?_|refine JG.done ?_|refine JG.label ?_
 refine kc ?_;refine JG.recover1 (v:=YI) (cs':={ cf with mode:=.panicking [{ v:=YI,recovered:=true }] }::[YX Try.prog]) rfl (by rfl) (by decide) (fun w=>by simp [go_sem,execOp,Act.eval,resolve,Deferred.ofValue]) (fun w=>by simp [go_sem,execOp,Act.eval,resolve,Deferred.ofValue]) (by simp [tryRecover,Frame.at,baseD,hcm]) ?_
 try walk_nrm
 repeat refine kx ?_
 refine kst (And.intro e13 f13) ?_
 repeat first|refine JG.seq ?_|refine JG.skip ?_|refine JG.inBlock ?_|refine JG.block ?_|refine JG.done ?_|refine JG.label ?_
 refine kc ?_;have k1:(x.setCell (th tb 13) (.bool true)).cell? (th tv 0)=some (P0 tb):=Xi (by simp [th]) e1;have k3:(x.setCell (th tb 13) (.bool true)).cell? (th tb 3)=some (.chan (some st)):=Xi (by simp [th]) e3;have hf:=k1;refine kx ?_;clear hf;refine kx ?_;refine kx ?_;have hf:=k3;refine kx ?_;clear hf;refine kx ?_;refine JG.give (s:=sp) (v:=Qs) (z':=.tuple #[]) hd hp hsp rfl (by rfl) (by decide) (fun w=>by simp [execOp,scase,Act.eval,hc]) (fun w=>by simp [go_sem,execOp,Act.eval]) none (fun s' e=>by cases e) (fun s' e=>by cases e) ?_ ?_
 ·refine ⟨5,fun T' hT'=>⟨hh,?_⟩⟩
  rw [hT'];refine .ctl rfl (fun w=>stepG_region_end) ?_;refine .ctl rfl (fun w=>stepG_end) ?_;refine .ctl rfl (fun w=>YU rfl rfl Try.func59 (by rfl)) ?_;have hb:X3 { cf with mode:=.panicking [{ v:=YI,recovered:=true }] } = { cf with mode:=.returning }:=by simp [X3]
  rw [hb,← hcf];refine .ctl rfl (fun w=>YU (b:=baseD 58) (a:=⟨tmps,[]⟩) rfl rfl Try.func58 (by rfl)) ?_;exact Vj
 ·intro g₂ kk hg hcc
  rw [hc] at hcc ⊢;refine hnext g₂ kk hg ?_;rw [heap_setCell] at hcc;cases e:x.heap[st]? with
  | none=>rw [e] at hcc;cases hcc
  | some oo =>
   rw [e] at hcc;simp only [Option.map_some,Option.some.injEq] at hcc
   split at hcc
   ·cases oo<;>first|(cases hcc;done)|exact congrArg some hcc
   ·exact congrArg some hcc
def Xdw (Post:Value→World→Prop) (rv tv fv tb st:Nat) (g:Goroutine):Prop:=∀ (C:Ctx) (x:World) (v:Value) (fb:FuncId) (cap:Array Value),Yb fb→x.cell? (th fv 0)=some (.func (.func fb) #[] cap)→x.cell? (th tv 0)=some (P0 tb) →
 (∀ c,Zu Post rv tv tb st c→Zt Post rv tv tb st c→JG Try.prog Post C (G (Frame.enter Try.prog fb (#[P0 tb] ++ cap) .normal) [c,YX Try.prog]) x)→JG Try.prog Post C (Go.Conc.served g v) x
def YP (Post:Value→World→Prop) (rv tv fv tb wk st:Nat):XL:={ c:=wk,z:=Qs,kn:=fun a v=>(a=th tv 0∧v=P0 tb)∨(a=th tb 2∧v=.chan (some wk)),home:=Xdw Post rv tv fv tb st }
theorem XbE {Post:Value→World→Prop} {rv tv fv tb wk st B i:Nat} (hi:0 < i) (hB:max tv tb < B):∃ nc,XbK Try.prog B i (YP Post rv tv fv tb wk st) nc (born Try.prog (Xdk rv tv fv)):=by
 have hi0:(i == 0)=false:=by simp;omega
 have hz:=Uo;refine ⟨16,max tv tb + 1,by omega,.inl ⟨15,default,rfl,?_⟩⟩;rw [hi0];refine Goes.step rfl fun w₁ h₁=>?_;rw [Xbe (d:=Xdk rv tv fv) rfl Try.func58 (by rfl) (by rfl)];refine ⟨ds_none _,?_⟩;rw [enter_atD (c:=Try.f58.body.getD .skip) _ Try.func58 (by rfl)];simp only [Try.f58,Option.getD_some,Xdk];walk_nrm;have hs1:(YP Post rv tv fv tb wk st).Sl (.cell (th tv 0)):=⟨_,_,rfl,.inl ⟨rfl,rfl⟩⟩
 have hs2:(YP Post rv tv fv tb wk st).Sl (.cell (th tb 2)):=⟨_,_,rfl,.inr ⟨rfl,rfl⟩⟩
 k_c stepG_seq
 k_reg
 refine Goes.step rfl (fun w₁ h₁=>?_);refine goes_oper_k rfl rfl (by decide) (fun K hK=>?_);go_simp;refine hK _ _ ⟨⟨rfl,fun e he=>(by have hm:=mem_listed he;simp [go_sem,Instr.makeFunc] at hm)⟩,?_⟩;clear hK K h₁
 try walk_nrm
 refine Goes.step rfl fun w₁ h₁=>?_;rw [QZ (d:={ target:=.fn (.func 59) #[P0 rv,P0 tv],args:=#[] }) rfl rfl (by decide) (fun w=>by simp [go_sem,execOp,Act.eval,resolve,Deferred.ofValue]) (fun w=>by simp [go_sem,execOp,Act.eval,resolve,Deferred.ofValue])];refine ⟨ds_none _,?_⟩
 try walk_nrm
 k_c stepG_region_end
 k_c stepG_seq
 k_reg
 have hstill:=hs1;refine Goes.step rfl (fun w₁ h₁=>?_);refine goes_oper_k rfl rfl (by decide) (fun K hK=>?_);have hfact:=h₁ (th tv 0) _ (.inl ⟨rfl,rfl⟩);go_simp;refine hK _ _ ⟨⟨rfl,fun e he=>(by have hm:=mem_listed he;simp [go_sem,hfact] at hm;subst hm;exact evC_read _ hstill (by first|(simp;done)|(simp;omega)))⟩,?_⟩;clear hfact hK K h₁
 try walk_nrm
 clear hstill;refine Goes.step rfl (fun w₁ h₁=>?_);refine goes_oper_k rfl rfl (by decide) (fun K hK=>?_);go_simp;refine hK _ _ ⟨⟨rfl,fun e he=>(by have hm:=mem_listed he;simp [go_sem] at hm)⟩,?_⟩;clear hK K h₁
 try walk_nrm
 refine Goes.step rfl (fun w₁ h₁=>?_);refine goes_oper_k rfl rfl (by decide) (fun K hK=>?_);go_simp;refine hK _ _ ⟨⟨rfl,fun e he=>(by have hm:=mem_listed he;simp [go_sem] at hm)⟩,?_⟩;clear hK K h₁
 try walk_nrm
 have hstill:=hs2;refine Goes.step rfl (fun w₁ h₁=>?_);refine goes_oper_k rfl rfl (by decide) (fun K hK=>?_);have hfact:=h₁ (th tb 2) _ (.inr ⟨rfl,rfl⟩);go_simp;refine hK _ _ ⟨⟨rfl,fun e he=>(by have hm:=mem_listed he;simp [go_sem,hfact] at hm;subst hm;exact evC_read _ hstill (by first|(simp;done)|(simp;omega)))⟩,?_⟩;clear hfact hK K h₁
 try walk_nrm
 refine Goes.stop (fun w₁ h₁=>⟨_,atIn_of (s:=(YP Post rv tv fv tb wk st).seat) rfl rfl (by decide) (fun w=>?_) (fun w=>by simp [go_sem,execOp,Act.eval]) ?_⟩)
 ·simp [go_sem,execOp,rcase,Act.eval,YP,XL.seat,Seat.one,hz]
 ·intro C x v fb cap hfb e1 e2 hbody
  rw [Qx rfl];refine JG.done (JG.seq ?_);walk_nrm;refine kc ?_;have hf:=e1;refine kx ?_;clear hf;refine kx ?_;refine JG.done (JG.condT rfl ?_);refine kc ?_;have hf:=e1;refine kx ?_;clear hf;have hf:=e2;refine kx ?_;clear hf;refine JG.call (f:=fb) (args:=#[P0 tb] ++ cap) rfl (by rfl) (by decide) (fun w=>?_) (fun w=>?_) ?_
  ·obtain ⟨fn,h1,h2,h3⟩:=hfb
   have h4 : ¬ fn.name = "runtime.NumGoroutine" := by simpa using h2
   have h5:¬ fn.body=none:=by intro e;rw [e] at h3;cases h3
   simp [go_sem,execOp,Act.eval,resolve,Deferred.ofValue,invoke,callFunc,h1,h4,h5]
  ·obtain ⟨fn,h1,h2,h3⟩:=hfb
   have h4 : ¬ fn.name = "runtime.NumGoroutine" := by simpa using h2
   have h5:¬ fn.body=none:=by intro e;rw [e] at h3;cases h3
   simp [go_sem,execOp,Act.eval,resolve,Deferred.ofValue,invoke,callFunc,h1,h4,h5]
  ·exact hbody _ (XbH _ _ _) (XbG _ _ _)
