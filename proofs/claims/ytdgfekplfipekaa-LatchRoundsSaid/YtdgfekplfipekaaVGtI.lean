/- A run is told, where the one thread there is has ended: report. -/
import Derived.Test.YtdgfekplfipekaaVRnH
import Derived.BigRegion
import Derived.BigQuiet
import Derived.Deep.RegionLaw
import Derived.Deep.RegionWith
import Derived.Deep.RegionLawGrows
import Derived.Laws.EntriesVeiled
import Derived.Test.YtdgfekplfipekaaVGtE
import Derived.Laws.Rows
set_option linter.all false
set_option maxRecDepth 100000
set_option maxHeartbeats 16000000
namespace Go.Proofs.Ytdgfekplfipekaa
open Go.Conc Go.RowKit
open Go.ConcN (upd upd_same upd_ne)
set_option maxRecDepth 100000
theorem Xef {Post:Value→World→Prop} {C:Ctx} {y:World} {c:Frame} {cs:List Frame} {N rb rv fv tv tb n wk st fb:Nat} {cap:Array Value} {vf u6 u7 u8 u9 B0 B1 B2 B3 B4 B6 B7 B8 B9 D0 D1 D2 D3 D4 D5 D6 D7 D8 D9 E0 E1 E2 E3 E4:Value}
 (hd:C.d=0) (hh:C.h < C.n) (hlo:C.lo≤N) (hbd:Yb fb) (hvf:vf=.func (.func fb) #[] cap)
 (hfv:y.heap[fv]? = some (.cells #[vf] 39 (0,0))) (htv:y.heap[tv]? = some (.cells #[P0 tb] 33 (0,0))) (htb:y.heap[tb]? = some (.cells (Yo rb n wk st) 91 (0,0)))
 (hwk:y.heap[wk]? = some (.chan 0 #[] false 0 0 false)) (hst:y.heap[st]? = some (.chan 0 #[] false 0 0 false)) (hne:wk≠st) (hN:N≤fv∧N≤tv∧N≤tb∧N≤wk∧N≤st)
 (hown:∀ i s,i≠C.h→C.Ch i=some s→s.c≠wk∧s.c≠st) (hnone:C.Ch C.n=none)
 (hbody:∀ (z0:World) (cb:Frame) (sp sb:XL),sp.c=st→(∀ g,sp.home g→∀ (C2:Ctx) (z2:World) (v:Value),z2.cell? (th tv 0)=some (P0 tb)→JG Try.prog Post C2 (G (c.finish (P0 tb)) cs) z2→JG Try.prog Post C2 (Go.Conc.served g v) z2) →
   Zu Post rv tv tb st cb→Zt Post rv tv tb st cb→(∀ r,r≠tv→r≠tb→r≠wk→z0.heap[r]? = y.heap[r]?)→z0.heap.size=y.heap.size→z0.heap[tv]? = some (.cells #[P0 tb] 33 (0,1))→z0.heap[tb]? = some (.cells (Yo rb n wk st) 91 (2,4)) →
   (∃ k,z0.heap[wk]? = some (.chan 0 #[] false k k false))→JG Try.prog Post { Ch:=upd (upd C.Ch C.n (some sb)) C.h (some sp),h:=C.n,d:=0,n:=C.n + 1,lo:=C.lo,io:=C.io } (G (Frame.enter Try.prog fb (#[P0 tb] ++ cap) .normal) [cb,YX Try.prog]) z0) :
 JG Try.prog Post C (G ((base 49).at ⟨#[P0 rb,vf,P0 rv,P0 fv,.pointer none,P0 tv,u6,u7,u8,u9,B0,B1,B2,B3,B4,P0 tb,B6,B7,B8,B9,D0,D1,D2,D3,D4,D5,D6,D7,D8,D9,E0,E1,E2,E3,E4,undef,undef,undef,undef],[]⟩ [.code (Code.from (Try.f49.body.getD .skip) 4)]) (c::cs)) y:=by
 simp only [Try.f49,Option.getD_some,Code.from];have b1:tv≠tb:=by rintro rfl;rw [htv] at htb;simp [Yo] at htb
 have b2:fv≠tv:=by rintro rfl;rw [hfv] at htv;simp [hvf] at htv
 have b3:fv≠tb:=by rintro rfl;rw [hfv] at htb;simp [Yo] at htb
 have b4:wk≠tv:=by rintro rfl;rw [hwk] at htv;cases htv
 have b5:wk≠tb:=by rintro rfl;rw [hwk] at htb;cases htb
 have b6:wk≠fv:=by rintro rfl;rw [hwk] at hfv;cases hfv
 have b7:st≠tv:=by rintro rfl;rw [hst] at htv;cases htv
 have b8:st≠tb:=by rintro rfl;rw [hst] at htb;cases htb
 have b9:st≠fv:=by rintro rfl;rw [hst] at hfv;cases hfv
 refine JG.freeze (ad:=th tv 0) (n:=1) (Nat.le_trans hlo hN.2.1) (JG.freeze (ad:=th tb 2) (n:=2) (Nat.le_trans hlo hN.2.2.1) ?_);obtain ⟨z,hz⟩:∃ z,z=(y.freeze (th tv 0) 1).freeze (th tb 2) 2:=⟨_,rfl⟩
 rw [← hz];have hzo:∀ r,r≠tv→r≠tb→z.heap[r]? = y.heap[r]?:=fun r h1 h2=>by rw [hz,ZA h2,ZA h1]
 have hzs:z.heap.size=y.heap.size:=by rw [hz,XaE,XaE]
 have ztv:z.heap[tv]? = some (.cells #[P0 tb] 33 (0,1)):=by rw [hz,ZA b1];exact XaW (by decide) htv
 have ztb:z.heap[tb]? = some (.cells (Yo rb n wk st) 91 (2,4)):=by rw [hz];exact XaW (by decide) (by rw [ZA b1.symm];exact htb)
 have zwk:z.heap[wk]? = some (.chan 0 #[] false 0 0 false):=by rw [hzo wk b4 b5];exact hwk
 have zst:z.heap[st]? = some (.chan 0 #[] false 0 0 false):=by rw [hzo st b7 b8];exact hst
 have zfv:z.heap[fv]? = some (.cells #[vf] 39 (0,0)):=by rw [hzo fv b2 b3];exact hfv
 clear hz;have hlt:∀ r o,z.heap[r]? = some o→r < z.heap.size:=fun r o h=>(GE h).1
 repeat first|refine JG.seq ?_|refine JG.skip ?_|refine JG.inBlock ?_|refine JG.block ?_|refine JG.done ?_|refine JG.label ?_
 refine kc ?_;refine kx ?_;refine JG.hire (d:=Xdk rv tv fv) (f:=.func 58) (c:=#[P0 rv,P0 tv,P0 fv]) hd rfl (by rfl) (by decide) (fun w=>by simp [go_sem,execOp,Act.eval,resolve,Deferred.ofValue,Xdk]) rfl (fun w=>by simp [go_sem,execOp,Act.eval,resolve,Deferred.ofValue])
  (YP Post rv tv fv tb wk st) ⟨hlt _ _ zwk,⟨0,zwk⟩,fun i s h1 h2=>(hown i s h1 h2).1,?_⟩ ?_ ?_ ?_
 ·rintro a v (⟨rfl,rfl⟩|⟨rfl,rfl⟩)
  ·rw [Xa ztv];rfl
  ·rw [Xa ztb];rfl
 ·rintro a v (⟨rfl,rfl⟩|⟨rfl,rfl⟩)
  ·simp [World.frozen?,th,ztv]
  ·simp [World.frozen?,th,ztb]
 ·exact XbE (by omega) (by have:=hlt _ _ ztv;have:=hlt _ _ ztb;omega)
 try walk_nrm
 repeat first|refine JG.seq ?_|refine JG.skip ?_|refine JG.inBlock ?_|refine JG.block ?_|refine JG.done ?_|refine JG.label ?_
 refine kc ?_;have hf:=(show z.cell? (th tv 0)=some (P0 tb) by rw [Xa ztv];rfl)
 refine kx ?_;clear hf;refine JG.call (f:=51) (args:=#[P0 tb]) rfl (by rfl) (by decide) (fun w=>?_) (fun w=>?_) ?_
 iterate 2 (focus obtain ⟨fn, h1, h2, h3⟩ : Yb 51 := ⟨_, Try.func51, by kernel_rfl, by kernel_rfl⟩; have h4 : ¬ fn.name = "runtime.NumGoroutine" := (by simpa using h2); have h5 : ¬ fn.body = none := (by intro e; rw [e] at h3; cases h3); simp [go_sem, execOp, Act.eval, resolve, Deferred.ofValue, invoke, callFunc, h1, h4, h5])
 have hnh:C.n≠C.h:=by omega
 refine XcY (j:=C.n) (sj:=YP Post rv tv fv tb wk st) (st:=st) rfl hnh (upd_same _ _ _) (by rw [Xa ztb];rfl) (by rw [Xa ztb];rfl) ⟨hlt _ _ zst,⟨0,zst⟩,fun i s h1 h2=>?_,?_⟩ (by simp [World.frozen?,th,ztb]) ?_
 ·by_cases hi:i=C.n
  ·subst hi
   have h2:=(upd_same _ _ _).symm.trans h2;obtain rfl:=OI h2;exact hne
  ·exact (hown i s h1 ((upd_ne C.Ch _ hi).symm.trans h2)).2
 ·rintro a v ⟨rfl,rfl⟩
  rw [Xa ztb];rfl
 intro g₂ kk hg hcc;obtain ⟨z0,hz0⟩:∃ z0,z0=z.setChan wk 0 #[] false (kk + 1) (kk + 1) false:=⟨_,rfl⟩
 change JG _ _ _ _ (z.setChan wk 0 #[] false (kk + 1) (kk + 1) false)
 rw [← hz0];have h0:∀ r,r≠wk→z0.heap[r]? = z.heap[r]?:=fun r h=>by rw [hz0];exact XK h
 have s0:z0.heap.size=z.heap.size:=by rw [hz0,X8]
 have hwk0:z0.heap[wk]? = some (.chan 0 #[] false (kk + 1) (kk + 1) false):=by
  have hl:wk < z.heap.size:=hlt _ _ zwk;rw [hz0];simp [World.setChan,hl]
 clear hz0 hcc;have otv:=(h0 tv b4.symm).trans ztv;have otb:=(h0 tb b5.symm).trans ztb;have ofv:=(h0 fv b6.symm).trans zfv;have ost:=(h0 st hne.symm).trans zst;have t0:z0.cell? (th tv 0)=some (P0 tb):=by rw [Xa otv];rfl
 refine hg _ z0 Qs fb cap hbd (by rw [Xa ofv,hvf];rfl) t0 fun cb hcb hcs=>?_;refine hbody z0 cb _ _ rfl (fun g hg' C2 z2 v e2 h2=>?_) hcb hcs (fun r h1 h2 h3=>by rw [h0 r h3,hzo r h1 h2]) (by rw [s0,hzs]) otv otb ⟨kk + 1,hwk0⟩;refine hg' C2 z2 v ?_;rw [Frame.finish_at]
 repeat first|refine JG.seq ?_|refine JG.skip ?_|refine JG.inBlock ?_|refine JG.block ?_|refine JG.done ?_|refine JG.label ?_
 walk_nrm;refine kc ?_;have hf:=e2;refine kx ?_;clear hf;refine kx ?_
 repeat first|refine JG.seq ?_|refine JG.skip ?_|refine JG.inBlock ?_|refine JG.block ?_|refine JG.done ?_|refine JG.label ?_
 refine JG.ret ?_;exact JG.leave rfl rfl Try.func49 (fun τ d=>results_tmp (t:=4) rfl _ _ _) h2
structure XeD (x z:World) (N rb:Nat) (vT vF vT' vF' vM vL vW vR:Value) (stops:Bool) (ths fls:List Value) (tv tb wk st:Nat):Prop where
 tvn:x.heap.size≤tv∧tv < z.heap.size
 tbn:x.heap.size≤tb∧tb < z.heap.size
 wkn:x.heap.size≤wk∧wk < z.heap.size
 stn:x.heap.size≤st∧st < z.heap.size
 ne:wk≠st
 size:x.heap.size≤z.heap.size
 old:∀ r,r < x.heap.size→r≠rb→some r≠vT.ownBlock→some r≠vF.ownBlock→z.heap[r]? = x.heap[r]?
 obj:z.heap[rb]? = some (.cells (XH vT' vM vL vW vR vF' stops) 85 (0,0))
 rths:z.ownsRow N 33 1 vT' (ths.length + 1) (ths ++ [P0 tb])
 rfls:z.ownsRow N 4 1 vF' (fls.length + 1) (fls ++ [.bool false])
 tnew:vT'.ownBlock=vT.ownBlock∨∃ g,vT'.ownBlock=some g∧x.heap.size≤g
 fnew:vF'.ownBlock=vF.ownBlock∨∃ g,vF'.ownBlock=some g∧x.heap.size≤g
 tvo:z.heap[tv]? = some (.cells #[P0 tb] 33 (0,1))
 tbo:z.heap[tb]? = some (.cells (Yo rb ths.length wk st) 91 (2,4))
 rvo:z.heap[x.heap.size]? = some (.cells #[P0 rb] 80 (0,0))
 wko:∃ k,z.heap[wk]? = some (.chan 0 #[] false k k false)
 sto:∃ k,z.heap[st]? = some (.chan 0 #[] false k k false)
theorem Xfw {Post:Value→World→Prop} {C:Ctx} {x:World} {c:Frame} {cs:List Frame} {N rb fb:Nat} {cap:Array Value} {vf vT vM vL vW vR vF:Value} {stops:Bool} {ths fls:List Value}
 (hd:C.d=0) (hh:C.h < C.n) (hlo:C.lo≤N) (hbd:Yb fb) (hvf:vf=.func (.func fb) #[] cap)
 (hr:x.heap[rb]? = some (.cells (XH vT vM vL vW vR vF stops) 85 (0,0))) (hT:x.ownsRow N 33 1 vT ths.length ths) (hF:x.ownsRow N 4 1 vF fls.length fls) (hN:N≤x.heap.size)
 (hnT:vT.ownBlock≠some rb) (hnF:vF.ownBlock≠some rb) (hTF:∀ g,vT.ownBlock=some g→vF.ownBlock≠some g) (hm:ths.length < 64) (hm2:fls.length < 64)
 (hlow:∀ i s,i≠C.h→C.Ch i=some s→s.c < x.heap.size) (hnone:C.Ch C.n=none)
 (hend:∀ (z0:World) (cb:Frame) (sp sb:XL) (vT' vF':Value) (tv tb wk st:Nat),sp.c=st→(∀ g,sp.home g→∀ (C2:Ctx) (z2:World) (v:Value),z2.cell? (th tv 0)=some (P0 tb)→JG Try.prog Post C2 (G (c.finish (P0 tb)) cs) z2→JG Try.prog Post C2 (Go.Conc.served g v) z2) →
   Zu Post x.heap.size tv tb st cb→Zt Post x.heap.size tv tb st cb→XeD x z0 N rb vT vF vT' vF' vM vL vW vR stops ths fls tv tb wk st →
   JG Try.prog Post { Ch:=upd (upd C.Ch C.n (some sb)) C.h (some sp),h:=C.n,d:=0,n:=C.n + 1,lo:=C.lo,io:=C.io } (G (Frame.enter Try.prog fb (#[P0 tb] ++ cap) .normal) [cb,YX Try.prog]) z0) :
 JG Try.prog Post C (G (Frame.enter Try.prog 49 #[P0 rb,vf] .normal) (c::cs)) x:=by
 obtain ⟨ao,cap0,evT⟩:=Xq hT;replace hvf:=HD hvf;have h0:x.cell? (th rb 0)=some (.slice ao ths.length cap0):=by rw [Xa hr,← evT];rfl
 refine Xu Try.func49 (by rfl) (by rfl) ?_;simp only [Try.f49,Option.getD_some];walk_nrm;refine JG.seq ?_;refine JG.code (XO _) (by kernel_rfl) rfl (.inr (by kernel_rfl)) rfl (fun K R hK hR τ=>?_);replace hK:=HD hK;replace hend:=HD hend
 go_wp2
 refine hK.out _ _ (jt (x:=(x.alloc (.cells #[P0 rb] 80)).alloc (.cells #[vf] 39)) ?_);simp only [Xs];clear hK hR K R τ;have hrb:rb < x.heap.size:=Xt h0;obtain ⟨w,hw⟩:∃ w,w=(x.alloc (.cells #[P0 rb] 80)).alloc (.cells #[vf] 39):=⟨_,rfl⟩
 have s1:w.heap.size=x.heap.size + 2:=by rw [hw];simp
 have o1:w.heap[x.heap.size]? = some (.cells #[P0 rb] 80 (0,0)):=by
  rw [hw,Xl,Xl,Array.getElem?_push,Array.size_push,if_neg (by omega),Array.getElem?_push,if_pos rfl]
 have o2:w.heap[x.heap.size + 1]? = some (.cells #[vf] 39 (0,0)):=by
  rw [hw,Xl,Xl,Array.getElem?_push,Array.size_push,if_pos rfl]
 have old:∀ r,r < x.heap.size→w.heap[r]? = x.heap[r]?:=fun r h=>by
  rw [hw,Xl,Xl,Array.getElem?_push,Array.size_push,if_neg (by omega),Array.getElem?_push,if_neg (by omega)]
 have c1:w.cell? (th x.heap.size 0)=some (P0 rb):=by rw [Xa o1];rfl
 have c0:w.cell? (th rb 0)=some (.slice ao ths.length cap0):=by rw [hw];exact XU (XU h0)
 rw [← hw];refine JG.seq ?_;refine JG.code (XO _) (by kernel_rfl) rfl (.inr (by kernel_rfl)) rfl (fun K R' hK hR τ=>?_);replace hK:=HD hK;clear hR;have k1:(under w τ 0).cell? (th x.heap.size 0)=some (P0 rb):=c1;have k0:(under w τ 0).cell? (th rb 0)=some (.slice ao ths.length cap0):=c0;have hmk:=XcI;have hbt:=WI;have s1':(under w τ 0).heap.size=x.heap.size + 2:=s1;obtain ⟨y,hy⟩:∃ y,y=under w τ 0:=⟨_,rfl⟩
 have hyw:y.heap=w.heap:=by rw [hy];rfl
 rw [← hyw] at o1 o2;replace old:∀ r,r < x.heap.size→y.heap[r]? = x.heap[r]?:=fun r h=>by rw [hyw];exact old r h
 rw [← hy] at k1 k0 s1' ⊢;clear hy c1 c0 hw hyw;have hpost:∀ tv tb wk st z (u6 u7 u8 u9 B0 B1 B4:Value),Made y z rb ths.length tv tb wk st→K ⟨#[P0 rb,vf,P0 x.heap.size,P0 (x.heap.size + 1),.pointer none,P0 tv,u6,u7,u8,u9,B0,B1,.chan (some wk),.chan (some st),B4,P0 tb,undef,undef,undef,undef,undef,undef,undef,undef,undef,undef,undef,undef,undef,undef,undef,undef,undef,undef,undef,undef,undef,undef,undef],[]⟩ z:=by
  intro tv tb wk st z u6 u7 u8 u9 B0 B1 B4 hMd;have hzo:∀ r,r < x.heap.size→z.heap[r]? = x.heap[r]?:=fun r h=>(hMd.old r (by omega)).trans (old r h);have hTx:∀ g,vT.ownBlock=some g→g < x.heap.size:=fun g e=>own_lt hT e;have hFx:∀ g,vF.ownBlock=some g→g < x.heap.size:=fun g e=>own_lt hF e;have hsz:=hMd.size;have b1:=hMd.tvb;have b2:=hMd.tbb;have b3:=hMd.wkb;have b4:=hMd.stb;have ztT:z.heap[tb]? = some (.cells (Yo rb ths.length wk st) 91 (0,0)):=hMd.tbo;have hp2:=Xeh (Post:=Post) (C:=C) (z:=z) (c:=c) (cs:=cs) (N:=N) (rb:=rb) (rv:=x.heap.size) (fv:=x.heap.size + 1) (tv:=tv) (tb:=tb) (vf:=vf) (u6:=u6) (u7:=u7) (u8:=u8) (u9:=u9) (B0:=B0) (B1:=B1) (B2:=.chan (some wk)) (B3:=.chan (some st)) (B4:=B4) (ths:=ths) (fls:=fls)
   ((hzo rb hrb).trans hr) (Xj hT fun g e=>hzo g (hTx g e)) (Xj hF fun g e=>hzo g (hFx g e)) (by omega) hnT (fun e=>Nat.lt_irrefl _ (hTx _ e)) (fun e=>by have:=hTx _ e;omega) hnF (fun e=>Nat.lt_irrefl _ (hFx _ e)) hTF hm hm2 (by omega)
   (by rw [Xa ((hMd.old _ (by omega)).trans o1)];rfl) (by rw [Xa hMd.tvo];rfl) (fun y2 vT' vF' B6 B7 B8 B9 D0 D1 D2 D3 D4 D5 D6 D7 D8 D9 E0 E1 E2 E3 E4 hB=>?_)
  ·simp only [Try.f49,Option.getD_some,Code.from] at hp2
   exact hK.out _ _ hp2
  ·have hy2:∀ r,x.heap.size≤r→r < z.heap.size→y2.heap[r]? = z.heap[r]?:=fun r h1 h2=>hB.block r h2 (by omega) (fun e=>by have:=hTx r e.symm;omega) (fun e=>by have:=hFx r e.symm;omega)
   refine Xef (N:=N) (rb:=rb) (rv:=x.heap.size) (fv:=x.heap.size + 1) (tv:=tv) (tb:=tb) (n:=ths.length) (wk:=wk) (st:=st) (fb:=fb) (cap:=cap) hd hh hlo hbd hvf.out
    ((hy2 _ (by omega) (by omega)).trans ((hMd.old _ (by omega)).trans o2)) ((hy2 _ (by omega) (by omega)).trans hMd.tvo) ((hy2 _ (by omega) (by omega)).trans hMd.tbo) ((hy2 _ (by omega) (by omega)).trans hMd.wko) ((hy2 _ (by omega) (by omega)).trans hMd.sto) hMd.ne ⟨by omega,by omega,by omega,by omega,by omega⟩
    (fun i s hi hs=>by have:=hlow i s hi hs;constructor<;>omega) hnone (fun z0 cb sp sb hsp hback hcb hcs hz0 hs0 htv0 htb0 hwk0=>?_)
   have hs2y:=hB.size;have hTn:∀ g,vT'.ownBlock=some g→g < y2.heap.size∧g≠tv∧g≠tb∧g≠wk:=fun g e=>by
    have a2:=own_lt hB.ths e;rcases hB.tnew with h|⟨g',h,h'⟩
    ·have:=hTx g (h.symm.trans e);omega
    ·rw [h] at e;obtain rfl:=OI e;omega
   have hFn:∀ g,vF'.ownBlock=some g→g < y2.heap.size∧g≠tv∧g≠tb∧g≠wk:=fun g e=>by
    have a2:=own_lt hB.fls e;rcases hB.fnew with h|⟨g',h,h'⟩
    ·have:=hFx g (h.symm.trans e);omega
    ·rw [h] at e;obtain rfl:=OI e;omega
   refine hend.out z0 cb sp sb vT' vF' tv tb wk st hsp hback hcb hcs ⟨⟨by omega,by omega⟩,⟨by omega,by omega⟩,⟨by omega,by omega⟩,⟨by omega,by omega⟩,hMd.ne,by omega,fun r e1 e2 e3 e4=>?_,?_,Xj hB.ths fun g e=>?_,Xj hB.fls fun g e=>?_,?_,?_,htv0,htb0,?_,hwk0,?_⟩
   ·rw [hz0 r (by omega) (by omega) (by omega),hB.block r (by omega) e2 e3 e4];exact hzo r e1
   ·rw [hz0 rb (by omega) (by omega) (by omega)];exact hB.obj
   ·obtain ⟨a3,a4,a5,a6⟩:=hTn g e;exact hz0 g a4 a5 a6
   ·obtain ⟨a3,a4,a5,a6⟩:=hFn g e;exact hz0 g a4 a5 a6
   ·rcases hB.tnew with h|⟨g',h,h'⟩
    ·exact .inl h
    ·exact .inr ⟨g',h,by omega⟩
   ·rcases hB.fnew with h|⟨g',h,h'⟩
    ·exact .inl h
    ·exact .inr ⟨g',h,by omega⟩
   ·rw [hz0 _ (by omega) (by omega) (by omega),hy2 _ (by omega) (by omega)]
    exact (hMd.old _ (by omega)).trans o1
   ·have hne1:st≠tv:=by rintro rfl;have:=hMd.sto;rw [hMd.tvo] at this;cases this
    have hne2:st≠tb:=by rintro rfl;have:=hMd.sto;rw [hMd.tbo] at this;cases this
    exact ⟨0,by rw [hz0 st hne1 hne2 hMd.ne.symm,hy2 _ (by omega) (by omega)];exact hMd.sto⟩
 replace hpost:=HD hpost;clear hK hend hvf hr hT hF hTF hlow hnone hN hnT hnF evT o1 o2 old h0 hm hm2;have b0:rb < y.heap.size:=by omega
 have b1:rb < y.heap.size + 1:=by omega
 have b2:rb < y.heap.size + 1 + 1:=by omega
 have b3:rb < y.heap.size + 1 + 1 + 1:=by omega
 have d0:x.heap.size < y.heap.size:=by omega
 have d1:x.heap.size < y.heap.size + 1:=by omega
 have d2:x.heap.size < y.heap.size + 1 + 1:=by omega
 have d3:x.heap.size < y.heap.size + 1 + 1 + 1:=by omega
 clear s1' s1 hrb
 go_region
 all_goals (
  show K _ _;refine hpost.out _ _ _ _ _ _ _ _ _ _ _ _ ⟨fun r hr=>?_,?_,?_,?_,?_,?_,?_,?_,?_,?_,?_⟩
  all_goals (try simp only [Xl,XI,Array.getElem?_push,Array.size_push])
  all_goals (first|omega|rfl|(repeat (first|rw [if_neg (by omega)]|rw [if_pos (by omega)]));first|done|rfl))
theorem XgZ {Post:Value→World→Prop} {C:Ctx} {x:World} {c:Frame} {cs:List Frame} {tb:Nat} (h13:x.cell? (th tb 13)=some (.bool true))
 (h:JG Try.prog Post C (G (c.finish (.bool false)) cs) x):JG Try.prog Post C (G (Frame.enter Try.prog 60 #[P0 tb] .normal) (c::cs)) x:=by
 refine Xu Try.func60 (by rfl) (by rfl) ?_;simp only [Try.f60,Option.getD_some];walk_nrm
 repeat refine kx ?_
 refine JG.code (XO _) (by kernel_rfl) rfl (.inr (by kernel_rfl)) rfl (fun K R hK hR τ=>?_);replace hK:=HD hK;clear hR;have h13':(under x τ 0).cell? (th tb 13)=some (.bool true):=h13;have hb:tb < (under x τ 0).heap.size:=Xt h13'
 go_region
 refine hK.out _ _ (jt (x:=x) (τ:=τ) (d:=1) ?_);clear hK h13' hb K R
 repeat refine kx ?_
 refine JG.ret ?_;exact JG.leave rfl rfl Try.func60 (fun τ d=>results_tmp (t:=2) rfl _ _ _) h
theorem Vd (x:World) (τ:Nat→Question→Nat) (d:Nat):(under x τ d).heap=x.heap:=rfl
theorem WJ (e n:Int) (a b c d f:Option Addr) (a1 a2 b1 b2 c1 c2 d1 d2 f1 f2:Nat) (w:World):(Instr.build 43 #[(0,.int .i8 e),(1,.int .i64 n),(2,.slice a a1 a2),(3,.slice b b1 b2),(4,.slice c c1 c2),(5,.slice d d1 d2),(6,.slice f f1 f2)]).run Try.prog w=.ok (.agg #[.int .i8 e,.int .i64 n,.slice a a1 a2,.slice b b1 b2,.slice c c1 c2,.slice d d1 d2,.slice f f1 f2]) w:=run_build w _ _ _ (by kernel_rfl)
