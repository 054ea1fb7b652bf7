/- A thread is begun: what stands in the run. -/
import Derived.Test.YtdhnggjmegilkaaOGtF
import Derived.Test.YtdhnggjmegilkaaOMem
import Derived.BigRegion
import Derived.BigQuiet
import Derived.Deep.RegionLaw
import Derived.Deep.RegionWith
import Derived.Deep.AppendLies
import Derived.Laws.EntriesVeiled
set_option linter.all false
set_option maxRecDepth 100000
set_option maxHeartbeats 16000000
namespace Go.Proofs.Ytdhnggjmegilkaa
open Go.Conc Go.RowKit
open Go.ConcN (upd upd_same upd_ne)
def Code.from:Code→Nat→Code
 | c,0=>c
 | .seq _ b,n + 1=>Code.from b n
 | c,_=>c
theorem Vo:(Try.prog.info? 33).map (fun i=>(i.zero,i.size,i.bytes))=some (some (.pointer none),1,8):=by kernel_rfl
theorem XdZ:(Try.prog.info? 4).map (fun i=>(i.zero,i.size,i.bytes))=some (some (.bool false),1,1):=by kernel_rfl
theorem Xb {w:World} {b k r:Nat} {v:Value} (h:r≠b):(w.setCell (th b k) v).heap[r]? = w.heap[r]?:=by
 rw [heap_setCell]
 have:¬ r=b:=h
 simp only [this,if_false];cases w.heap[r]?<;>rfl
theorem Xd {w:World} {b k:Nat} {v:Value} {cs:Array Value} {t:TypeId} {f:Nat × Nat} (h:w.heap[b]? = some (.cells cs t f)):(w.setCell (th b k) v).heap[b]? = some (.cells (cs.setIfInBounds k v) t f):=by
 rw [heap_setCell,h];simp [th]
theorem Xh (w:World) (a:Addr) (v:Value):(w.setCell a v).heap.size=w.heap.size:=by simp [World.setCell]
def XH (vT vM vL vW vR vF:Value) (stops:Bool):Array Value:=#[vT,vM,vL,vW,vR,vF,.bool stops]
theorem Xl (w:World) (o:Obj):(w.alloc o).heap=w.heap.push o:=rfl
theorem XI (w:World):w.drew.heap=w.heap:=rfl
theorem XU {w:World} {a:Addr} {v:Value} {o:Obj} (h:w.cell? a=some v):(w.alloc o).cell? a=some v:=by
 have hlt:=Xt h;unfold World.cell? World.alloc at *;simp only [Array.getElem?_push];rw [if_neg (Nat.ne_of_lt hlt)];exact h
theorem Xeg {Post:Value→World→Prop} {C:Ctx} {z:World} {c:Frame} {cs:List Frame} {N rb rv fv tv tb:Nat} {vf:Value} {u6 u7 u8 u9 B0 B1 B2 B3 B4 B6 B7 B8 B9 D0 D1 D2 D3 D4 D5 vT vM vL vW vR vF:Value} {stops:Bool} {fls:List Value}
 (hr:z.heap[rb]? = some (.cells (XH vT vM vL vW vR vF stops) 179 (0,0))) (hF:z.ownsRow N 4 1 vF fls.length fls) (hN:N≤z.heap.size) (hnF:vF.ownBlock≠some rb) (hnv:vF.ownBlock≠some rv) (hm:fls.length < 64)
 (c1:z.cell? (th rv 0)=some (P0 rb))
 (hend:∀ y vF' D6 D7 D8 D9 E0 E1 E2 E3 E4,y.heap[rb]? = some (.cells (XH vT vM vL vW vR vF' stops) 179 (0,0))→y.ownsRow N 4 1 vF' (fls.length + 1) (fls ++ [.bool false])→(vF'.ownBlock=vF.ownBlock∨∃ g,vF'.ownBlock=some g∧z.heap.size≤g)→z.heap.size≤y.heap.size→(∀ r,r < z.heap.size→r≠rb→some r≠vF.ownBlock→y.heap[r]? = z.heap[r]?) →
   JG Try.prog Post C (G ((base 130).at ⟨#[P0 rb,vf,P0 rv,P0 fv,.pointer none,P0 tv,u6,u7,u8,u9,B0,B1,B2,B3,B4,P0 tb,B6,B7,B8,B9,D0,D1,D2,D3,D4,D5,D6,D7,D8,D9,E0,E1,E2,E3,E4,undef,undef,undef,undef],[]⟩ [.code (Code.from (Try.f130.body.getD .skip) 4)]) (c::cs)) y) :
 JG Try.prog Post C (G ((base 130).at ⟨#[P0 rb,vf,P0 rv,P0 fv,.pointer none,P0 tv,u6,u7,u8,u9,B0,B1,B2,B3,B4,P0 tb,B6,B7,B8,B9,D0,D1,D2,D3,D4,D5,undef,undef,undef,undef,undef,undef,undef,undef,undef,undef,undef,undef,undef],[]⟩ [.code (Code.from (Try.f130.body.getD .skip) 3)]) (c::cs)) z:=by
 simp only [Try.f130,Option.getD_some,Code.from] at hend ⊢;obtain ⟨i0,hi0,hz0,hz1,hz2⟩:=XM XdZ;refine JG.seq ?_;refine JG.code (XO _) (by kernel_rfl) rfl (.inr (by kernel_rfl)) rfl (fun K R hK hR τ=>?_);replace hK:=HD hK;replace hend:=HD hend;clear hR;obtain ⟨y,hy⟩:∃ y,y=under z τ 0:=⟨_,rfl⟩
 have hyh:y.heap=z.heap:=by rw [hy];rfl
 rw [← hy];replace hr:y.heap[rb]? = some (.cells (XH vT vM vL vW vR vF stops) 179 (0,0)):=by rw [hyh];exact hr
 have k0:y.cell? (th rb 5)=some vF:=Xa hr 5;have f0:y.frozen? (th rb 5)=false:=Xe hr 5;have k1:y.cell? (th rv 0)=some (P0 rb):=by rw [hy];exact c1
 have HOT:Hid (((y.alloc (.cells #[.bool false] 4)).drew).ownsRow N 4 1 vF fls.length fls):=HD (((by rw [hy];exact hF:y.ownsRow N 4 1 vF fls.length fls).alloc _).drew);have hN':N≤y.heap.size:=by rw [hyh];exact hN
 have e0:rb < y.heap.size:=Xt k0;have e1:rb < y.heap.size + 1:=by omega
 have e2:rv < y.heap.size:=Xt k1;have e3:rv < y.heap.size + 1:=by omega
 have HY:=HD hyh;have HR:=HD hr;clear hy hyh hr c1 hF hN;have m1:Hid (fls.length + 1≤maxLen):=HD (by unfold maxLen;omega);have m2:Hid ((fls.length + 1) * 1≤140737488355328):=HD (by omega)
 go_region_law (first
  | (refine step_append_lies _ (by rfl) _ _ _ (by rfl) N 4 i0 _ 1 1 Try.underlying59 hi0 hz0 hz1 hz2 rfl (by omega) vF fls.length fls (by rfl) HOT.out ⟨y.heap.size,0,none⟩ 1 1 [.bool false] (by rfl) (by rfl) (World.news_of_block (cs:=#[.bool false]) (t:=4) (fr:=(0,0)) (heap_alloc_new y _)) (by simp [Value.oneCell']) (by omega) m1.out m2.out (by simp;omega) (y.heap.size + 1) (by simp) ?_
     intro g cap w' HG1 HG2 HG3 HG4;have HB:=HD HG2;have HO:=HD HG1;have HG:=HD HG3;clear HG1 HG2 HG3 HG4;have g0:w'.heap[rb]? = some (.cells (XH vT vM vL vW vR vF stops) 179 (0,0)):=by
      rw [HB.out.block rb (by simp;omega) (fun e=>hnF e.symm),XI,Xl,Array.getElem?_push,if_neg (by omega)];exact HR.out
     have HQ:=HD g0;have q0:w'.cell? (th rb 5)=some vF:=Xa g0 5;have q1:w'.frozen? (th rb 5)=false:=Xe g0 5;have q2:w'.cell? (th rv 0)=some (P0 rb):=HB.out.cell (XU k1) (fun e=>hnv e.symm);clear g0))
 all_goals (
  show K _ _;refine hK.out _ _ (hend.out _ (.slice (some ⟨g,0,none⟩) (fls.length + 1) cap) _ _ _ _ _ _ _ _ _ ?_ ?_ ?_ ?_ ?_)
  ·rw [Xd HQ.out];rfl
  ·refine Xj HO.out fun g' hg'=>Xb ?_
   obtain rfl:g=g':=by simpa [Value.ownBlock] using hg'
   rintro rfl;rcases HG.out with h|h
   ·exact hnF h
   ·omega
  ·rcases HG.out with h|h
   ·exact .inl h.symm
   ·exact .inr ⟨g,rfl,by rw [← HY.out];omega⟩
  ·rw [Xh,← HY.out];have:=HB.out.size;simp at this;omega
  ·intro r h1 h2 h3
   rw [← HY.out] at h1 ⊢;rw [Xb h2,HB.out.block r (by simp;omega) h3,XI,Xl,Array.getElem?_push,if_neg (by omega)])
structure XgP (z y:World) (N rb:Nat) (vT vF vT' vF' vM vL vW vR:Value) (stops:Bool) (ths fls:List Value) (tb:Nat):Prop where
 obj:y.heap[rb]? = some (.cells (XH vT' vM vL vW vR vF' stops) 179 (0,0))
 ths:y.ownsRow N 33 1 vT' (ths.length + 1) (ths ++ [P0 tb])
 fls:y.ownsRow N 4 1 vF' (fls.length + 1) (fls ++ [.bool false])
 tnew:vT'.ownBlock=vT.ownBlock∨∃ g,vT'.ownBlock=some g∧z.heap.size≤g
 fnew:vF'.ownBlock=vF.ownBlock∨∃ g,vF'.ownBlock=some g∧z.heap.size≤g
 size:z.heap.size≤y.heap.size
 block:∀ r,r < z.heap.size→r≠rb→some r≠vT.ownBlock→some r≠vF.ownBlock→y.heap[r]? = z.heap[r]?
theorem Xeh {Post:Value→World→Prop} {C:Ctx} {z:World} {c:Frame} {cs:List Frame} {N rb rv fv tv tb:Nat} {vf:Value} {u6 u7 u8 u9 B0 B1 B2 B3 B4 vT vM vL vW vR vF:Value} {stops:Bool} {ths fls:List Value}
 (hr:z.heap[rb]? = some (.cells (XH vT vM vL vW vR vF stops) 179 (0,0))) (hT:z.ownsRow N 33 1 vT ths.length ths) (hF:z.ownsRow N 4 1 vF fls.length fls) (hN:N≤z.heap.size)
 (hnT:vT.ownBlock≠some rb) (hntv:vT.ownBlock≠some rv) (hntt:vT.ownBlock≠some tv) (hnF:vF.ownBlock≠some rb) (hnv:vF.ownBlock≠some rv) (hTF:∀ g,vT.ownBlock=some g→vF.ownBlock≠some g) (hm:ths.length < 64) (hm2:fls.length < 64) (hrvb:rv≠rb)
 (c1:z.cell? (th rv 0)=some (P0 rb)) (c2:z.cell? (th tv 0)=some (P0 tb))
 (hend:∀ y vT' vF' B6 B7 B8 B9 D0 D1 D2 D3 D4 D5 D6 D7 D8 D9 E0 E1 E2 E3 E4,XgP z y N rb vT vF vT' vF' vM vL vW vR stops ths fls tb →
   JG Try.prog Post C (G ((base 130).at ⟨#[P0 rb,vf,P0 rv,P0 fv,.pointer none,P0 tv,u6,u7,u8,u9,B0,B1,B2,B3,B4,P0 tb,B6,B7,B8,B9,D0,D1,D2,D3,D4,D5,D6,D7,D8,D9,E0,E1,E2,E3,E4,undef,undef,undef,undef],[]⟩ [.code (Code.from (Try.f130.body.getD .skip) 4)]) (c::cs)) y) :
 JG Try.prog Post C (G ((base 130).at ⟨#[P0 rb,vf,P0 rv,P0 fv,.pointer none,P0 tv,u6,u7,u8,u9,B0,B1,B2,B3,B4,P0 tb,undef,undef,undef,undef,undef,undef,undef,undef,undef,undef,undef,undef,undef,undef,undef,undef,undef,undef,undef,undef,undef,undef,undef],[]⟩ [.code (Code.from (Try.f130.body.getD .skip) 2)]) (c::cs)) z:=by
 simp only [Try.f130,Option.getD_some,Code.from] at hend ⊢;obtain ⟨i0,hi0,hz0,hz1,hz2⟩:=XM Vo;refine JG.seq ?_;refine JG.code (XO _) (by kernel_rfl) rfl (.inr (by kernel_rfl)) rfl (fun K R hK hR τ=>?_);replace hK:=HD hK;replace hend:=HD hend;replace hF:=HD hF;clear hR;obtain ⟨y,hy⟩:∃ y,y=under z τ 0:=⟨_,rfl⟩
 have hyh:y.heap=z.heap:=by rw [hy];rfl
 rw [← hy];replace hr:y.heap[rb]? = some (.cells (XH vT vM vL vW vR vF stops) 179 (0,0)):=by rw [hyh];exact hr
 have k0:y.cell? (th rb 0)=some vT:=Xa hr 0;have f0:y.frozen? (th rb 0)=false:=Xe hr 0;have k1:y.cell? (th rv 0)=some (P0 rb):=by rw [hy];exact c1
 have k2:y.cell? (th tv 0)=some (P0 tb):=by rw [hy];exact c2
 have HOT:Hid (((y.alloc (.cells #[P0 tb] 33)).drew).ownsRow N 33 1 vT ths.length ths):=HD (((by rw [hy];exact hT:y.ownsRow N 33 1 vT ths.length ths).alloc _).drew);have hN':N≤y.heap.size:=by rw [hyh];exact hN
 have e0:rb < y.heap.size:=Xt k0;have e1:rb < y.heap.size + 1:=by omega
 have e2:rv < y.heap.size:=Xt k1;have e3:rv < y.heap.size + 1:=by omega
 have e4:tv < y.heap.size:=Xt k2;have e5:tv < y.heap.size + 1:=by omega
 have HY:=HD hyh;have HR:=HD hr;have HN:=HD hN;clear hy hyh hr c1 c2 hT hN;have m1:Hid (ths.length + 1≤maxLen):=HD (by unfold maxLen;omega);have m2:Hid ((ths.length + 1) * 8≤140737488355328):=HD (by omega)
 go_region_law (first
  | (refine step_append_lies _ (by rfl) _ _ _ (by rfl) N 33 i0 _ 1 8 Try.underlying177 hi0 hz0 hz1 hz2 rfl (by omega) vT ths.length ths (by rfl) HOT.out ⟨y.heap.size,0,none⟩ 1 1 [P0 tb] (by rfl) (by rfl) (World.news_of_block (cs:=#[P0 tb]) (t:=33) (fr:=(0,0)) (heap_alloc_new y _)) (by simp [Value.oneCell']) (by omega) m1.out m2.out (by simp;omega) (y.heap.size + 1) (by simp) ?_
     intro g cap w' HG1 HG2 HG3 HG4;have HB:=HD HG2;have HO:=HD HG1;have HG:=HD HG3;clear HG1 HG2 HG3 HG4;have g0:w'.heap[rb]? = some (.cells (XH vT vM vL vW vR vF stops) 179 (0,0)):=by
      rw [HB.out.block rb (by simp;omega) (fun e=>hnT e.symm),XI,Xl,Array.getElem?_push,if_neg (by omega)];exact HR.out
     have HQ:=HD g0;have q0:w'.cell? (th rb 0)=some vT:=Xa g0 0;have q1:w'.frozen? (th rb 0)=false:=Xe g0 0;have q2:w'.cell? (th rv 0)=some (P0 rb):=HB.out.cell (XU k1) (fun e=>hntv e.symm);have q3:w'.cell? (th tv 0)=some (P0 tb):=HB.out.cell (XU k2) (fun e=>hntt e.symm);clear g0))
 all_goals (
  show K _ _;have hws:y.heap.size + 1≤w'.heap.size:=by have:=HB.out.size;simpa using this
  have hblk:∀ r,r < y.heap.size→r≠rb→some r≠vT.ownBlock→(w'.setCell (th rb 0) (.slice (some ⟨g,0,none⟩) (ths.length + 1) cap)).heap[r]? = z.heap[r]?:=by
   intro r h1 h2 h3;rw [Xb h2,HB.out.block r (by simp;omega) h3,XI,Xl,Array.getElem?_push,if_neg (by omega),HY.out]
  have hgr:g≠rb:=by
   rintro rfl;rcases HG.out with h|h
   ·exact hnT h
   ·omega
  have hFz:∀ g',vF.ownBlock=some g'→g' < y.heap.size:=fun g' e=>by rw [HY.out];exact own_lt hF.out e
  have hgF:vF.ownBlock≠some g:=by
   intro e;rcases HG.out with h|h
   ·exact hTF g h e
   ·have:=hFz g e;omega
  refine hK.out _ _ (Xeg (N:=N) (fls:=fls) (z:=w'.setCell (th rb 0) (.slice (some ⟨g,0,none⟩) (ths.length + 1) cap)) (vT:=.slice (some ⟨g,0,none⟩) (ths.length + 1) cap) (vM:=vM) (vL:=vL) (vW:=vW) (vR:=vR) (vF:=vF) (stops:=stops) ?_ ?_ ?_ hnF hnv hm2 ?_ ?_)
  ·rw [Xd HQ.out];rfl
  ·exact Xj hF.out fun g' e=>hblk g' (hFz g' e) (fun h=>hnF (h ▸ e)) (fun h=>hTF g' h.symm e)
  ·rw [Xh];have:=HN.out;rw [← HY.out] at this;omega
  ·exact Xi (by simp [th,hrvb]) q2
  ·intro y2 vF' v26 v27 v28 v29 v30 v31 v32 v33 v34 a1 a2 a3 a4 a5
   refine hend.out y2 (.slice (some ⟨g,0,none⟩) (ths.length + 1) cap) vF' _ _ _ _ _ _ _ _ _ _ _ _ _ _ _ _ _ _ _ ⟨a1,?_,a2,?_,?_,?_,?_⟩
   ·refine Xj (Xj (w':=w'.setCell (th rb 0) (.slice (some ⟨g,0,none⟩) (ths.length + 1) cap)) HO.out fun g' e=>Xb ?_) fun g' e=>?_
    ·obtain rfl:g=g':=by simpa [Value.ownBlock] using e
     exact hgr
    ·obtain rfl:g=g':=by simpa [Value.ownBlock] using e
     refine a5 g ?_ hgr fun h=>hgF h.symm;rw [Xh];exact own_lt HO.out rfl
   ·rcases HG.out with h|h
    ·exact .inl h.symm
    ·exact .inr ⟨g,rfl,by rw [← HY.out];omega⟩
   ·rcases a3 with h|⟨g',h,h'⟩
    ·exact .inl h
    ·rw [Xh] at h'
     exact .inr ⟨g',h,by rw [← HY.out];omega⟩
   ·rw [Xh] at a4;rw [← HY.out];omega
   ·intro r h1 h2 h3 h4
    rw [← HY.out] at h1;rw [a5 r (by rw [Xh];omega) h2 h4];exact hblk r h1 h2 h3)
