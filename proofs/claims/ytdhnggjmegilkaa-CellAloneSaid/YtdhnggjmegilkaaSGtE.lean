/- A thread is begun. -/
import Derived.Test.YtdhnggjmegilkaaSGtC
import Derived.BigRegion
import Derived.BigQuiet
import Derived.Deep.RegionLaw
import Derived.Deep.RegionWith
import Derived.Deep.RegionLawGrows
import Derived.Laws.EntriesVeiled
set_option linter.all false
set_option maxRecDepth 100000
set_option maxHeartbeats 16000000
namespace Go.Proofs.Ytdhnggjmegilkaa
open Go.Conc Go.RowKit
open Go.ConcN (upd upd_same upd_ne)
set_option maxRecDepth 100000
theorem XcI (w:World):(Instr.makeChan 79 (.int .i64 0)).run Try.prog w=.ok (.chan (some w.heap.size)) (w.alloc (.chan 0 #[] false 0 0 false)):=by
 have h1:Try.prog.underlying 79=some (.chan .both 68):=by kernel_rfl
 have h2:(Try.prog.info? 68).map (fun i=>i.bytes)=some 0:=by kernel_rfl
 obtain ⟨i,hi,hz⟩:=Option.map_eq_some_iff.1 h2;simp [Instr.makeChan,run_underlying h1,typeInfo,hi,hz,asInt,asIntOf,IntKind.max,IntKind.signed,IntKind.bits]
def Yo (rb n wk st:Nat):Array Value:=#[P0 rb,.int .i64 n,.chan (some wk),.chan (some st),.pointer none,.int .i64 0,.int .i8 0,.int .i64 0,.int .i64 0,.int .i64 0,.int .i64 0,.int .i64 0,.bool false,.bool false]
theorem WI (rb n wk st:Nat) (w:World):(Instr.build 184 #[(0,P0 rb),(1,.int .i64 n),(2,.chan (some wk)),(3,.chan (some st))]).run Try.prog w=.ok (.agg (Yo rb n wk st)) w:=run_build w _ _ _ (by kernel_rfl)
structure Made (w y:World) (rb n tv tb wk st:Nat):Prop where
 old:∀ r,r < w.heap.size→y.heap[r]? = w.heap[r]?
 size:y.heap.size=w.heap.size + 4
 tvb:w.heap.size≤tv∧tv < y.heap.size
 tbb:w.heap.size≤tb∧tb < y.heap.size
 wkb:w.heap.size≤wk∧wk < y.heap.size
 stb:w.heap.size≤st∧st < y.heap.size
 ne:wk≠st
 tvo:y.heap[tv]? = some (.cells #[P0 tb] 33 (0,0))
 tbo:y.heap[tb]? = some (.cells (Yo rb n wk st) 184 (0,0))
 wko:y.heap[wk]? = some (.chan 0 #[] false 0 0 false)
 sto:y.heap[st]? = some (.chan 0 #[] false 0 0 false)
structure Mild1 (Post:Value→World→Prop) (N:Nat) (x0:World) (fb:FuncId) (cap:Array Value) (R:Nat→World→World→Prop):Prop where
 body:Yb fb
 keeps:∀ t y z,R t y z→y.heap.size≤z.heap.size∧∀ r,N≤r→r < y.heap.size→z.heap[r]? = y.heap[r]?
 spec:∀ (C:Ctx) (y:World) (cf:Frame) (cs:List Frame) (tb rb:Nat),N≤y.heap.size→(∀ r,r < N→y.heap[r]? = x0.heap[r]?)→N≤tb→y.cell? (th tb 0)=some (P0 rb)→y.cell? (th tb 13)=some (.bool false)→(∀ v z,R tb y z→JG Try.prog Post C (G (cf.finish v) cs) z)→JG Try.prog Post C (G (Frame.enter Try.prog fb (#[P0 tb] ++ cap) .normal) (cf::cs)) y
theorem XK {w:World} {c r k:Nat} (h:r≠c):(w.setChan c 0 #[] false k k false).heap[r]? = w.heap[r]?:=heap_setChan_ne w _ _ _ _ _ _ (fun e=>h e.symm)
theorem X8 (w:World) (c k:Nat):(w.setChan c 0 #[] false k k false).heap.size=w.heap.size:=by simp [World.setChan]
theorem ZA {w:World} {b k n r:Nat} (h:r≠b):(w.freeze (th b k) n).heap[r]? = w.heap[r]?:=by
 by_cases hn:n=0
 ·unfold World.freeze;rw [if_pos hn]
 ·rw [X2 _ _ hn]
  have:¬ r=b:=h
  simp only [this,if_false];cases w.heap[r]?<;>rfl
theorem XaW {w:World} {b k n:Nat} {cs:Array Value} {t:TypeId} (hn:n≠0) (h:w.heap[b]? = some (.cells cs t (0,0))):(w.freeze (th b k) n).heap[b]? = some (.cells cs t (k,k + n)):=by
 rw [X2 _ _ hn,h];simp [th]
theorem XaE (w:World) (a:Addr) (n:Nat):(w.freeze a n).heap.size=w.heap.size:=by
 unfold World.freeze;split<;>simp
theorem begin_p4 {Post:Value→World→Prop} {C:Ctx} {y:World} {c:Frame} {cs:List Frame} {N rb rv fv tv tb n wk st fb:Nat} {cap:Array Value} {R:Nat→World→World→Prop} {x0:World} {vf u6 u7 u8 u9 B0 B1 B2 B3 B4 B6 B7 B8 B9 D0 D1 D2 D3 D4 D5 D6 D7 D8 D9 E0 E1 E2 E3 E4:Value}
 (hd:C.d=0) (hh:C.h < C.n) (hlo:C.lo≤N) (hM:Mild1 Post N x0 fb cap R) (hag:∀ r,r < N→y.heap[r]? = x0.heap[r]?) (hvf:vf=.func (.func fb) #[] cap)
 (hfv:y.heap[fv]? = some (.cells #[vf] 40 (0,0))) (htv:y.heap[tv]? = some (.cells #[P0 tb] 33 (0,0))) (htb:y.heap[tb]? = some (.cells (Yo rb n wk st) 184 (0,0)))
 (hwk:y.heap[wk]? = some (.chan 0 #[] false 0 0 false)) (hst:y.heap[st]? = some (.chan 0 #[] false 0 0 false)) (hne:wk≠st) (hN:N≤fv∧N≤tv∧N≤tb∧N≤wk∧N≤st)
 (hown:∀ i s,i≠C.h→C.Ch i=some s→s.c≠wk∧s.c≠st) (hnone:C.Ch C.n=none)
 (hend:∀ Ch' z0 z1 z2,(∀ i,i≠C.h→Ch' i=C.Ch i)→(∀ r,r≠tv→r≠tb→r≠wk→z0.heap[r]? = y.heap[r]?)→z0.heap.size=y.heap.size→R tb z0 z1→(∀ r,r≠tb→r≠st→z2.heap[r]? = z1.heap[r]?)→z2.heap.size=z1.heap.size→z2.heap[tb]? = some (.cells ((Yo rb n wk st).setIfInBounds 13 (.bool true)) 184 (2,4)) →
   JG Try.prog Post { Ch:=Ch',h:=C.h,d:=0,n:=C.n + 1,lo:=C.lo,io:=C.io } (G (c.finish (P0 tb)) cs) z2) :
 JG Try.prog Post C (G ((base 130).at ⟨#[P0 rb,vf,P0 rv,P0 fv,.pointer none,P0 tv,u6,u7,u8,u9,B0,B1,B2,B3,B4,P0 tb,B6,B7,B8,B9,D0,D1,D2,D3,D4,D5,D6,D7,D8,D9,E0,E1,E2,E3,E4,undef,undef,undef,undef],[]⟩ [.code (Code.from (Try.f130.body.getD .skip) 4)]) (c::cs)) y:=by
 simp only [Try.f130,Option.getD_some,Code.from];have b1:tv≠tb:=by rintro rfl;rw [htv] at htb;simp [Yo] at htb
 have b2:fv≠tv:=by rintro rfl;rw [hfv] at htv;simp [hvf] at htv
 have b3:fv≠tb:=by rintro rfl;rw [hfv] at htb;simp [Yo] at htb
 have b4:wk≠tv:=by rintro rfl;rw [hwk] at htv;cases htv
 have b5:wk≠tb:=by rintro rfl;rw [hwk] at htb;cases htb
 have b6:wk≠fv:=by rintro rfl;rw [hwk] at hfv;cases hfv
 have b7:st≠tv:=by rintro rfl;rw [hst] at htv;cases htv
 have b8:st≠tb:=by rintro rfl;rw [hst] at htb;cases htb
 have b9:st≠fv:=by rintro rfl;rw [hst] at hfv;cases hfv
 refine JG.freeze (ad:=th tv 0) (n:=1) (Nat.le_trans hlo hN.2.1) (JG.freeze (ad:=th tb 2) (n:=2) (Nat.le_trans hlo hN.2.2.1) ?_);obtain ⟨z,hz⟩:∃ z,z=(y.freeze (th tv 0) 1).freeze (th tb 2) 2:=⟨_,rfl⟩
 rw [← hz];have hzo:∀ r,r≠tv→r≠tb→z.heap[r]? = y.heap[r]?:=fun r h1 h2=>by rw [hz,ZA h2,ZA h1]
 have hzs:z.heap.size=y.heap.size:=by rw [hz,XaE,XaE]
 have ztv:z.heap[tv]? = some (.cells #[P0 tb] 33 (0,1)):=by rw [hz,ZA b1];exact XaW (by decide) htv
 have ztb:z.heap[tb]? = some (.cells (Yo rb n wk st) 184 (2,4)):=by rw [hz];exact XaW (by decide) (by rw [ZA b1.symm];exact htb)
 have zwk:z.heap[wk]? = some (.chan 0 #[] false 0 0 false):=by rw [hzo wk b4 b5];exact hwk
 have zst:z.heap[st]? = some (.chan 0 #[] false 0 0 false):=by rw [hzo st b7 b8];exact hst
 have zfv:z.heap[fv]? = some (.cells #[vf] 40 (0,0)):=by rw [hzo fv b2 b3];exact hfv
 clear hz;have hlt:∀ r o,z.heap[r]? = some o→r < z.heap.size:=fun r o h=>(GE h).1
 repeat first|refine JG.seq ?_|refine JG.skip ?_|refine JG.inBlock ?_|refine JG.block ?_|refine JG.done ?_|refine JG.label ?_
 refine kc ?_;refine kx ?_;refine JG.hire (d:=Xdk rv tv fv) (f:=.func 151) (c:=#[P0 rv,P0 tv,P0 fv]) hd rfl (by rfl) (by decide) (fun w=>by simp [go_sem,execOp,Act.eval,resolve,Deferred.ofValue,Xdk]) rfl (fun w=>by simp [go_sem,execOp,Act.eval,resolve,Deferred.ofValue])
  (bornChair Post rv tv fv tb wk st) ⟨hlt _ _ zwk,⟨0,zwk⟩,fun i s h1 h2=>(hown i s h1 h2).1,?_⟩ ?_ ?_ ?_
 ·rintro a v (⟨rfl,rfl⟩|⟨rfl,rfl⟩)
  ·rw [Xa ztv];rfl
  ·rw [Xa ztb];rfl
 ·rintro a v (⟨rfl,rfl⟩|⟨rfl,rfl⟩)
  ·simp [World.frozen?,th,ztv]
  ·simp [World.frozen?,th,ztb]
 ·exact born_sits (by omega) (by have:=hlt _ _ ztv;have:=hlt _ _ ztb;omega)
 try walk_nrm
 repeat first|refine JG.seq ?_|refine JG.skip ?_|refine JG.inBlock ?_|refine JG.block ?_|refine JG.done ?_|refine JG.label ?_
 refine kc ?_;have hf:=(show z.cell? (th tv 0)=some (P0 tb) by rw [Xa ztv];rfl)
 refine kx ?_;clear hf;refine JG.call (f:=132) (args:=#[P0 tb]) rfl (by rfl) (by decide) (fun w=>?_) (fun w=>?_) ?_
 iterate 2 (focus obtain ⟨fn, h1, h2, h3⟩ : Yb 132 := ⟨_, Try.func132, by kernel_rfl, by kernel_rfl⟩; have h4 : ¬ fn.name = "runtime.NumGoroutine" := (by simpa using h2); have h5 : ¬ fn.body = none := (by intro e; rw [e] at h3; cases h3); simp [go_sem, execOp, Act.eval, resolve, Deferred.ofValue, invoke, callFunc, h1, h4, h5])
 have hnh:C.n≠C.h:=by omega
 refine XcY (j:=C.n) (sj:=bornChair Post rv tv fv tb wk st) (st:=st) rfl hnh (upd_same _ _ _) (by rw [Xa ztb];rfl) (by rw [Xa ztb];rfl) ⟨hlt _ _ zst,⟨0,zst⟩,fun i s h1 h2=>?_,?_⟩ (by simp [World.frozen?,th,ztb]) ?_
 ·by_cases hi:i=C.n
  ·subst hi
   have h2:=(upd_same _ _ _).symm.trans h2;obtain rfl:=OI h2;exact hne
  ·exact (hown i s h1 ((upd_ne C.Ch _ hi).symm.trans h2)).2
 ·rintro a v ⟨rfl,rfl⟩
  rw [Xa ztb];rfl
 intro g₂ kk hg hcc;obtain ⟨z0,hz0⟩:∃ z0,z0=z.setChan wk 0 #[] false (kk + 1) (kk + 1) false:=⟨_,rfl⟩
 change JG _ _ _ _ (z.setChan wk 0 #[] false (kk + 1) (kk + 1) false)
 rw [← hz0];have h0:∀ r,r≠wk→z0.heap[r]? = z.heap[r]?:=fun r h=>by rw [hz0];exact XK h
 have s0:z0.heap.size=z.heap.size:=by rw [hz0,X8]
 clear hz0 hcc;have otv:=(h0 tv b4.symm).trans ztv;have otb:=(h0 tb b5.symm).trans ztb;have ofv:=(h0 fv b6.symm).trans zfv;have ost:=(h0 st hne.symm).trans zst;have t0:z0.cell? (th tv 0)=some (P0 tb):=by rw [Xa otv];rfl
 refine hg _ z0 Qs fb cap hM.body (by rw [Xa ofv,hvf];rfl) t0 fun cb hcb=>?_;have hl0:∀ r o,z0.heap[r]? = some o→r < z0.heap.size:=fun r o h=>(GE h).1;refine hM.spec _ z0 cb _ tb rb (by have:=hl0 _ _ otv;omega) (fun r h=>by rw [h0 r (by omega),hzo r (by omega) (by omega),hag r h]) (by omega) (by rw [Xa otb];rfl) (by rw [Xa otb];rfl) fun v z1 hR=>?_;obtain ⟨hR1,hR2⟩:=hM.keeps _ _ _ hR;have ptv:=(hR2 tv hN.2.1 (hl0 _ _ otv)).trans otv;have ptb:=(hR2 tb hN.2.2.1 (hl0 _ _ otb)).trans otb;have pst:=(hR2 st hN.2.2.2.2 (hl0 _ _ ost)).trans ost;refine hcb _ z1 v ⟨C.h,_,false,rfl,by show 0 < C.n;omega,fun h=>hnh h.symm,upd_same _ _ _,rfl,by rw [Xa ptv];rfl,by rw [Xa ptb];rfl,by rw [Xa ptb];rfl,by simp [World.frozen?,th,ptb],?_⟩;intro g₃ k₃ hg₃ hc₃;refine hg₃ _ _ _ ?_;rw [Frame.finish_at];obtain ⟨z2,hz2⟩:∃ z2,z2=(z1.setCell (th tb 13) (.bool true)).setChan st 0 #[] false (k₃ + 1) (k₃ + 1) false:=⟨_,rfl⟩
 rw [← hz2];have h2:∀ r,r≠tb→r≠st→z2.heap[r]? = z1.heap[r]?:=fun r e1 e2=>by rw [hz2,XK e2,Xb e1]
 have s2:z2.heap.size=z1.heap.size:=by rw [hz2,X8,Xh]
 have qtb:z2.heap[tb]? = some (.cells ((Yo rb n wk st).setIfInBounds 13 (.bool true)) 184 (2,4)):=by
  rw [hz2,XK b8.symm];exact Xd ptb
 have qtv:=(h2 tv b1 b7.symm).trans ptv;clear hz2
 repeat first|refine JG.seq ?_|refine JG.skip ?_|refine JG.inBlock ?_|refine JG.block ?_|refine JG.done ?_|refine JG.label ?_
 walk_nrm;refine kc ?_;have hf:=(show z2.cell? (th tv 0)=some (P0 tb) by rw [Xa qtv];rfl)
 refine kx ?_;clear hf;refine kx ?_
 repeat first|refine JG.seq ?_|refine JG.skip ?_|refine JG.inBlock ?_|refine JG.block ?_|refine JG.done ?_|refine JG.label ?_
 refine JG.ret ?_;refine JG.leave rfl rfl Try.func130 (fun τ d=>?_) (hend _ z0 z1 z2 (fun i hi=>?_) (fun r e1 e2 e3=>(h0 r e3).trans (hzo r e1 e2)) (s0.trans hzs) hR h2 s2 qtb)
 ·exact results_tmp (t:=4) rfl _ _ _
 ·show upd (upd (upd C.Ch C.n _) C.h _) C.n none i=C.Ch i
  by_cases h:i=C.n
  ·rw [h,upd_same];exact hnone.symm
  ·rw [upd_ne _ _ h,upd_ne _ _ hi,upd_ne _ _ h]
structure BegunJ (x z0 z1 z2:World) (N rb:Nat) (vT vF vT' vF' vM vL vW vR:Value) (stops:Bool) (ths fls:List Value) (tb st wk:Nat):Prop where
 tbn:x.heap.size≤tb
 stn:x.heap.size≤st
 old:∀ r,r < x.heap.size→r≠rb→some r≠vT.ownBlock→some r≠vF.ownBlock→z0.heap[r]? = x.heap[r]?
 size0:x.heap.size≤z0.heap.size
 same:∀ r,r≠tb→r≠st→z2.heap[r]? = z1.heap[r]?
 size2:z2.heap.size=z1.heap.size
 obj:z2.heap[rb]? = some (.cells (XH vT' vM vL vW vR vF' stops) 179 (0,0))
 rths:z2.ownsRow N 33 1 vT' (ths.length + 1) (ths ++ [P0 tb])
 rfls:z2.ownsRow N 4 1 vF' (fls.length + 1) (fls ++ [.bool false])
 tnew:vT'.ownBlock=vT.ownBlock∨∃ g,vT'.ownBlock=some g∧x.heap.size≤g
 fnew:vF'.ownBlock=vF.ownBlock∨∃ g,vF'.ownBlock=some g∧x.heap.size≤g
 thr:z2.heap[tb]? = some (.cells ((Yo rb ths.length wk st).setIfInBounds 13 (.bool true)) 184 (2,4))
theorem begin_J {Post:Value→World→Prop} {C:Ctx} {x:World} {c:Frame} {cs:List Frame} {N rb fb:Nat} {cap:Array Value} {vf vT vM vL vW vR vF:Value} {stops:Bool} {ths fls:List Value} {R:Nat→World→World→Prop} {x0:World}
 (hd:C.d=0) (hh:C.h < C.n) (hlo:C.lo≤N) (hM:Mild1 Post N x0 fb cap R) (hag:∀ r,r < N→x.heap[r]? = x0.heap[r]?) (hvf:vf=.func (.func fb) #[] cap)
 (hr:x.heap[rb]? = some (.cells (XH vT vM vL vW vR vF stops) 179 (0,0))) (hT:x.ownsRow N 33 1 vT ths.length ths) (hF:x.ownsRow N 4 1 vF fls.length fls) (hN:N≤rb)
 (hnT:vT.ownBlock≠some rb) (hnF:vF.ownBlock≠some rb) (hTF:∀ g,vT.ownBlock=some g→vF.ownBlock≠some g) (hm:ths.length < 64) (hm2:fls.length < 64)
 (hlow:∀ i s,i≠C.h→C.Ch i=some s→s.c < x.heap.size) (hnone:C.Ch C.n=none)
 (hend:∀ Ch' z0 z1 z2 vT' vF' tb st wk,(∀ i,i≠C.h→Ch' i=C.Ch i)→R tb z0 z1→BegunJ x z0 z1 z2 N rb vT vF vT' vF' vM vL vW vR stops ths fls tb st wk→JG Try.prog Post { Ch:=Ch',h:=C.h,d:=0,n:=C.n + 1,lo:=C.lo,io:=C.io } (G (c.finish (P0 tb)) cs) z2) :
 JG Try.prog Post C (G (Frame.enter Try.prog 130 #[P0 rb,vf] .normal) (c::cs)) x:=by
 obtain ⟨ao,cap0,evT⟩:=Xq hT;replace hvf:=HD hvf;replace hag:=HD hag;have h0:x.cell? (th rb 0)=some (.slice ao ths.length cap0):=by rw [Xa hr,← evT];rfl
 refine Xu Try.func130 (by rfl) (by rfl) ?_;simp only [Try.f130,Option.getD_some];walk_nrm;refine JG.seq ?_;refine JG.code (XO _) (by kernel_rfl) rfl (.inr (by kernel_rfl)) rfl (fun K R hK hR τ=>?_);replace hK:=HD hK;replace hend:=HD hend
 go_wp2
 refine hK.out _ _ (jt (x:=(x.alloc (.cells #[P0 rb] 175)).alloc (.cells #[vf] 40)) ?_);simp only [Xs];clear hK hR K R τ;have hrb:rb < x.heap.size:=Xt h0;obtain ⟨w,hw⟩:∃ w,w=(x.alloc (.cells #[P0 rb] 175)).alloc (.cells #[vf] 40):=⟨_,rfl⟩
 have s1:w.heap.size=x.heap.size + 2:=by rw [hw];simp
 have o1:w.heap[x.heap.size]? = some (.cells #[P0 rb] 175 (0,0)):=by
  rw [hw,Xl,Xl,Array.getElem?_push,Array.size_push,if_neg (by omega),Array.getElem?_push,if_pos rfl]
 have o2:w.heap[x.heap.size + 1]? = some (.cells #[vf] 40 (0,0)):=by
  rw [hw,Xl,Xl,Array.getElem?_push,Array.size_push,if_pos rfl]
 have old:∀ r,r < x.heap.size→w.heap[r]? = x.heap[r]?:=fun r h=>by
  rw [hw,Xl,Xl,Array.getElem?_push,Array.size_push,if_neg (by omega),Array.getElem?_push,if_neg (by omega)]
 have c1:w.cell? (th x.heap.size 0)=some (P0 rb):=by rw [Xa o1];rfl
 have c0:w.cell? (th rb 0)=some (.slice ao ths.length cap0):=by rw [hw];exact XU (XU h0)
 rw [← hw];refine JG.seq ?_;refine JG.code (XO _) (by kernel_rfl) rfl (.inr (by kernel_rfl)) rfl (fun K R' hK hR τ=>?_);replace hK:=HD hK;clear hR;have k1:(under w τ 0).cell? (th x.heap.size 0)=some (P0 rb):=c1;have k0:(under w τ 0).cell? (th rb 0)=some (.slice ao ths.length cap0):=c0;have hmk:=XcI;have hbt:=WI;have s1':(under w τ 0).heap.size=x.heap.size + 2:=s1;obtain ⟨y,hy⟩:∃ y,y=under w τ 0:=⟨_,rfl⟩
 have hyw:y.heap=w.heap:=by rw [hy];rfl
 rw [← hyw] at o1 o2;replace old:∀ r,r < x.heap.size→y.heap[r]? = x.heap[r]?:=fun r h=>by rw [hyw];exact old r h
 rw [← hy] at k1 k0 s1' ⊢;clear hy c1 c0 hw hyw;have hpost:∀ tv tb wk st z (u6 u7 u8 u9 B0 B1 B4:Value),Made y z rb ths.length tv tb wk st→K ⟨#[P0 rb,vf,P0 x.heap.size,P0 (x.heap.size + 1),.pointer none,P0 tv,u6,u7,u8,u9,B0,B1,.chan (some wk),.chan (some st),B4,P0 tb,undef,undef,undef,undef,undef,undef,undef,undef,undef,undef,undef,undef,undef,undef,undef,undef,undef,undef,undef,undef,undef,undef,undef],[]⟩ z:=by
  intro tv tb wk st z u6 u7 u8 u9 B0 B1 B4 hMd;have hzo:∀ r,r < x.heap.size→z.heap[r]? = x.heap[r]?:=fun r h=>(hMd.old r (by omega)).trans (old r h);have hTx:∀ g,vT.ownBlock=some g→g < x.heap.size:=fun g e=>own_lt hT e;have hFx:∀ g,vF.ownBlock=some g→g < x.heap.size:=fun g e=>own_lt hF e;have hsz:=hMd.size;have b1:=hMd.tvb;have b2:=hMd.tbb;have b3:=hMd.wkb;have b4:=hMd.stb;have ztT:z.heap[tb]? = some (.cells (Yo rb ths.length wk st) 184 (0,0)):=hMd.tbo;have hp2:=Xeh (Post:=Post) (C:=C) (z:=z) (c:=c) (cs:=cs) (N:=N) (rb:=rb) (rv:=x.heap.size) (fv:=x.heap.size + 1) (tv:=tv) (tb:=tb) (vf:=vf) (u6:=u6) (u7:=u7) (u8:=u8) (u9:=u9) (B0:=B0) (B1:=B1) (B2:=.chan (some wk)) (B3:=.chan (some st)) (B4:=B4) (ths:=ths) (fls:=fls)
   ((hzo rb hrb).trans hr) (Xj hT fun g e=>hzo g (hTx g e)) (Xj hF fun g e=>hzo g (hFx g e)) (by omega) hnT (fun e=>Nat.lt_irrefl _ (hTx _ e)) (fun e=>by have:=hTx _ e;omega) hnF (fun e=>Nat.lt_irrefl _ (hFx _ e)) hTF hm hm2 (by omega)
   (by rw [Xa ((hMd.old _ (by omega)).trans o1)];rfl) (by rw [Xa hMd.tvo];rfl) (fun y2 vT' vF' B6 B7 B8 B9 D0 D1 D2 D3 D4 D5 D6 D7 D8 D9 E0 E1 E2 E3 E4 hB=>?_)
  ·simp only [Try.f130,Option.getD_some,Code.from] at hp2
   exact hK.out _ _ hp2
  ·have hy2:∀ r,x.heap.size≤r→r < z.heap.size→y2.heap[r]? = z.heap[r]?:=fun r h1 h2=>hB.block r h2 (by omega) (fun e=>by have:=hTx r e.symm;omega) (fun e=>by have:=hFx r e.symm;omega)
   refine begin_p4 (N:=N) (rb:=rb) (rv:=x.heap.size) (fv:=x.heap.size + 1) (tv:=tv) (tb:=tb) (n:=ths.length) (wk:=wk) (st:=st) (fb:=fb) (cap:=cap) (R:=R) hd hh hlo hM (fun r h=>by rw [hB.block r (by omega) (by omega) (fun e=>by have:=XE hT e.symm;omega) (fun e=>by have:=XE hF e.symm;omega),hzo r (by omega),hag.out r h]) hvf.out
    ((hy2 _ (by omega) (by omega)).trans ((hMd.old _ (by omega)).trans o2)) ((hy2 _ (by omega) (by omega)).trans hMd.tvo) ((hy2 _ (by omega) (by omega)).trans hMd.tbo) ((hy2 _ (by omega) (by omega)).trans hMd.wko) ((hy2 _ (by omega) (by omega)).trans hMd.sto) hMd.ne ⟨by omega,by omega,by omega,by omega,by omega⟩
    (fun i s hi hs=>by have:=hlow i s hi hs;constructor<;>omega) hnone (fun Ch' z0 z1 z2 hCh hz0 hs0 hR hz2 hs2 htb2=>?_)
   have hs2y:=hB.size;obtain ⟨hR1,hR2⟩:=hM.keeps _ _ _ hR;have hkeep:∀ r,N≤r→r < y2.heap.size→r≠tv→r≠tb→r≠wk→r≠st→z2.heap[r]? = y2.heap[r]?:=fun r e0 e1 e2 e3 e4 e5=>by
    rw [hz2 r e3 e5,hR2 r e0 (by omega),hz0 r e2 e3 e4]
   have hTn:∀ g,vT'.ownBlock=some g→N≤g∧g < y2.heap.size∧g≠tv∧g≠tb∧g≠wk∧g≠st:=fun g e=>by
    have a1:=XE hB.ths e;have a2:=own_lt hB.ths e;rcases hB.tnew with h|⟨g',h,h'⟩
    ·have:=hTx g (h.symm.trans e);omega
    ·rw [h] at e;obtain rfl:=OI e;omega
   have hFn:∀ g,vF'.ownBlock=some g→N≤g∧g < y2.heap.size∧g≠tv∧g≠tb∧g≠wk∧g≠st:=fun g e=>by
    have a1:=XE hB.fls e;have a2:=own_lt hB.fls e;rcases hB.fnew with h|⟨g',h,h'⟩
    ·have:=hFx g (h.symm.trans e);omega
    ·rw [h] at e;obtain rfl:=OI e;omega
   refine hend.out Ch' z0 z1 z2 vT' vF' tb st wk hCh hR ⟨by omega,by omega,fun r e1 e2 e3 e4=>?_,by omega,hz2,hs2,?_,Xj hB.ths fun g e=>?_,Xj hB.fls fun g e=>?_,?_,?_,htb2⟩
   ·rw [hz0 r (by omega) (by omega) (by omega),hB.block r (by omega) e2 e3 e4];exact hzo r e1
   ·rw [hkeep rb hN (by omega) (by omega) (by omega) (by omega) (by omega)];exact hB.obj
   ·obtain ⟨a1,a2,a3,a4,a5,a6⟩:=hTn g e;exact hkeep g a1 a2 a3 a4 a5 a6
   ·obtain ⟨a1,a2,a3,a4,a5,a6⟩:=hFn g e;exact hkeep g a1 a2 a3 a4 a5 a6
   ·rcases hB.tnew with h|⟨g',h,h'⟩
    ·exact .inl h
    ·exact .inr ⟨g',h,by omega⟩
   ·rcases hB.fnew with h|⟨g',h,h'⟩
    ·exact .inl h
    ·exact .inr ⟨g',h,by omega⟩
 replace hpost:=HD hpost;clear hK hend hM hag hvf hr hT hF hTF hlow hnone hN hnT hnF evT o1 o2 old h0 hm hm2;have b0:rb < y.heap.size:=by omega
 have b1:rb < y.heap.size + 1:=by omega
 have b2:rb < y.heap.size + 1 + 1:=by omega
 have b3:rb < y.heap.size + 1 + 1 + 1:=by omega
 have d0:x.heap.size < y.heap.size:=by omega
 have d1:x.heap.size < y.heap.size + 1:=by omega
 have d2:x.heap.size < y.heap.size + 1 + 1:=by omega
 have d3:x.heap.size < y.heap.size + 1 + 1 + 1:=by omega
 clear s1' s1 hrb
 go_region
 all_goals (
  show K _ _;refine hpost.out _ _ _ _ _ _ _ _ _ _ _ _ ⟨fun r hr=>?_,?_,?_,?_,?_,?_,?_,?_,?_,?_,?_⟩
  all_goals (try simp only [Xl,XI,Array.getElem?_push,Array.size_push])
  all_goals (first|omega|rfl|(repeat (first|rw [if_neg (by omega)]|rw [if_pos (by omega)]));first|done|rfl))
