/- A thread is begun: it is let go, and ends at once. -/
import Derived.Test.YtdhnggjmegilkaaSGtB
import Derived.Test.YtdhnggjmegilkaaSKept
import Derived.BigRegion
import Derived.BigQuiet
import Derived.Deep.RegionLaw
import Derived.Deep.RegionWith
import Derived.Deep.AppendLies
import Derived.Laws.EntriesVeiled
set_option linter.unusedSimpArgs false
set_option linter.unusedVariables false
set_option maxRecDepth 100000
set_option maxHeartbeats 16000000
namespace Go.Proofs.Ytdhnggjmegilkaa
open Go.Conc Go.RowKit
open Go.ConcN (upd upd_same upd_ne)
set_option maxRecDepth 100000
def Code.from:Code→Nat→Code
 | c,0=>c
 | .seq _ b,n + 1=>Code.from b n
 | c,_=>c
theorem Vf:(Try.prog.info? 33).map (fun i=>(i.zero,i.size,i.bytes))=some (some (.pointer none),1,8):=by kernel_rfl
theorem XdN:(Try.prog.info? 4).map (fun i=>(i.zero,i.size,i.bytes))=some (some (.bool false),1,1):=by kernel_rfl
theorem XI {o:Option TypeInfo} {z:Option Value} {s b:Nat} (h:o.map (fun i=>(i.zero,i.size,i.bytes))=some (z,s,b)):∃ i,o=some i∧i.zero=z∧i.size=s∧i.bytes=b:=by
 obtain ⟨i,h1,h2⟩:=Option.map_eq_some_iff.1 h
 simp only [Prod.mk.injEq] at h2
 exact ⟨i,h1,h2.1,h2.2.1,h2.2.2⟩
theorem Xa {z:World} {b:Nat} {cs:Array Value} {t:TypeId} {f:Nat × Nat} (h:z.heap[b]? = some (.cells cs t f)) (k:Nat):z.cell? (th b k)=cs[k]?:=by simp [World.cell?,h]
theorem Xe {z:World} {b:Nat} {cs:Array Value} {t:TypeId} (h:z.heap[b]? = some (.cells cs t (0,0))) (k:Nat):z.frozen? (th b k)=false:=by simp [World.frozen?,h]
theorem Xh {w w':World} {N:Nat} {e:TypeId} {size:Nat} {v:Value} {n:Nat} {xs:List Value} (h:w.ownsRow N e size v n xs) (hb:∀ g,v.ownBlock=some g→w'.heap[g]? = w.heap[g]?):w'.ownsRow N e size v n xs:=by
 refine ⟨h.1,?_⟩
 rcases h.2 with hn|⟨g,cap,cur,rfl,hb',hgg,rest⟩
 ·exact .inl hn
 ·exact .inr ⟨g,cap,cur,rfl,hb',by rw [hb g rfl];exact hgg,rest⟩
theorem Xb {w:World} {b k r:Nat} {v:Value} (h:r≠b):(w.setCell (th b k) v).heap[r]? = w.heap[r]?:=by
 rw [heap_setCell]
 have:¬ r=b:=h
 simp only [this,if_false]
 cases w.heap[r]?<;>rfl
theorem Xc {w:World} {b k:Nat} {v:Value} {cs:Array Value} {t:TypeId} {f:Nat × Nat} (h:w.heap[b]? = some (.cells cs t f)):(w.setCell (th b k) v).heap[b]? = some (.cells (cs.setIfInBounds k v) t f):=by
 rw [heap_setCell,h];simp [th]
theorem Xg (w:World) (a:Addr) (v:Value):(w.setCell a v).heap.size=w.heap.size:=by simp [World.setCell]
def XH (vT vM vL vW vR vF:Value) (stops:Bool):Array Value:=#[vT,vM,vL,vW,vR,vF,.bool stops]
theorem Xj (w:World) (o:Obj):(w.alloc o).heap=w.heap.push o:=rfl
theorem XJ (w:World):w.drew.heap=w.heap:=rfl
theorem XR {w:World} {a:Addr} {v:Value} {o:Obj} (h:w.cell? a=some v):(w.alloc o).cell? a=some v:=by
 have hlt:=Xs h
 unfold World.cell? World.alloc at *
 simp only [Array.getElem?_push]
 rw [if_neg (Nat.ne_of_lt hlt)];exact h
theorem Xd5 {Post:Value→World→Prop} {C:Ctx} {z:World} {c:Frame} {cs:List Frame} {N rb rv fv tv tb:Nat} {vf:Value} {u6 u7 u8 u9 B0 B1 B2 B3 B4 B6 B7 B8 B9 D0 D1 D2 D3 D4 D5 vT vM vL vW vR vF:Value} {stops:Bool} {fls:List Value}
 (hr:z.heap[rb]? = some (.cells (XH vT vM vL vW vR vF stops) 179 (0,0))) (hF:z.ownsRow N 4 1 vF fls.length fls) (hN:N≤z.heap.size) (hnF:vF.ownBlock≠some rb) (hnv:vF.ownBlock≠some rv) (hm:fls.length < 64)
 (c1:z.cell? (th rv 0)=some (P0 rb))
 (hend:∀ y vF' D6 D7 D8 D9 E0 E1 E2 E3 E4,y.heap[rb]? = some (.cells (XH vT vM vL vW vR vF' stops) 179 (0,0))→y.ownsRow N 4 1 vF' (fls.length + 1) (fls ++ [.bool false])→(vF'.ownBlock=vF.ownBlock∨∃ g,vF'.ownBlock=some g∧z.heap.size≤g)→z.heap.size≤y.heap.size→(∀ r,r < z.heap.size→r≠rb→some r≠vF.ownBlock→y.heap[r]? = z.heap[r]?) →
   JG Try.prog Post C (G ((base 130).at ⟨#[P0 rb,vf,P0 rv,P0 fv,.pointer none,P0 tv,u6,u7,u8,u9,B0,B1,B2,B3,B4,P0 tb,B6,B7,B8,B9,D0,D1,D2,D3,D4,D5,D6,D7,D8,D9,E0,E1,E2,E3,E4,undef,undef,undef,undef],[]⟩ [.code (Code.from (Try.f130.body.getD .skip) 4)]) (c::cs)) y) :
 JG Try.prog Post C (G ((base 130).at ⟨#[P0 rb,vf,P0 rv,P0 fv,.pointer none,P0 tv,u6,u7,u8,u9,B0,B1,B2,B3,B4,P0 tb,B6,B7,B8,B9,D0,D1,D2,D3,D4,D5,undef,undef,undef,undef,undef,undef,undef,undef,undef,undef,undef,undef,undef],[]⟩ [.code (Code.from (Try.f130.body.getD .skip) 3)]) (c::cs)) z:=by
 simp only [Try.f130,Option.getD_some,Code.from] at hend ⊢
 obtain ⟨i0,hi0,hz0,hz1,hz2⟩:=XI XdN
 refine JG.seq ?_
 refine JG.code (XQ _) (by kernel_rfl) rfl (.inr (by kernel_rfl)) rfl (fun K R hK hR τ=>?_)
 replace hK:=HD hK
 replace hend:=HD hend
 clear hR
 obtain ⟨y,hy⟩:∃ y,y=under z τ 0:=⟨_,rfl⟩
 have hyh:y.heap=z.heap:=by rw [hy];rfl
 rw [← hy]
 replace hr:y.heap[rb]? = some (.cells (XH vT vM vL vW vR vF stops) 179 (0,0)):=by rw [hyh];exact hr
 have k0:y.cell? (th rb 5)=some vF:=Xa hr 5
 have f0:y.frozen? (th rb 5)=false:=Xe hr 5
 have k1:y.cell? (th rv 0)=some (P0 rb):=by rw [hy];exact c1
 have HOT:Hid (((y.alloc (.cells #[.bool false] 4)).drew).ownsRow N 4 1 vF fls.length fls):=HD (((by rw [hy];exact hF:y.ownsRow N 4 1 vF fls.length fls).alloc _).drew)
 have hN':N≤y.heap.size:=by rw [hyh];exact hN
 have e0:rb < y.heap.size:=Xs k0
 have e1:rb < y.heap.size + 1:=by omega
 have e2:rv < y.heap.size:=Xs k1
 have e3:rv < y.heap.size + 1:=by omega
 have HY:=HD hyh
 have HR:=HD hr
 clear hy hyh hr c1 hF hN
 have m1:Hid (fls.length + 1≤maxLen):=HD (by unfold maxLen;omega)
 have m2:Hid ((fls.length + 1) * 1≤140737488355328):=HD (by omega)
 go_region_law (first
  | (refine step_append_lies _ (by rfl) _ _ _ (by rfl) N 4 i0 _ 1 1 Try.underlying59 hi0 hz0 hz1 hz2 rfl (by omega) vF fls.length fls (by rfl) HOT.out ⟨y.heap.size,0,none⟩ 1 1 [.bool false] (by rfl) (by rfl) (World.news_of_block (cs:=#[.bool false]) (t:=4) (fr:=(0,0)) (heap_alloc_new y _)) (by simp [Value.oneCell']) (by omega) m1.out m2.out (by simp;omega) (y.heap.size + 1) (by simp) ?_
     intro g cap w' HG1 HG2 HG3 HG4
     have HB:=HD HG2
     have HO:=HD HG1
     have HG:=HD HG3
     clear HG1 HG2 HG3 HG4
     have g0:w'.heap[rb]? = some (.cells (XH vT vM vL vW vR vF stops) 179 (0,0)):=by
      rw [HB.out.block rb (by simp;omega) (fun e=>hnF e.symm),XJ,Xj,Array.getElem?_push,if_neg (by omega)];exact HR.out
     have HQ:=HD g0
     have q0:w'.cell? (th rb 5)=some vF:=Xa g0 5
     have q1:w'.frozen? (th rb 5)=false:=Xe g0 5
     have q2:w'.cell? (th rv 0)=some (P0 rb):=HB.out.cell (XR k1) (fun e=>hnv e.symm)
     clear g0))
 all_goals (
  show K _ _
  refine hK.out _ _ (hend.out _ (.slice (some ⟨g,0,none⟩) (fls.length + 1) cap) _ _ _ _ _ _ _ _ _ ?_ ?_ ?_ ?_ ?_)
  ·rw [Xc HQ.out];rfl
  ·refine Xh HO.out fun g' hg'=>Xb ?_
   obtain rfl:g=g':=by simpa [Value.ownBlock] using hg'
   rintro rfl
   rcases HG.out with h|h
   ·exact hnF h
   ·omega
  ·rcases HG.out with h|h
   ·exact .inl h.symm
   ·exact .inr ⟨g,rfl,by rw [← HY.out];omega⟩
  ·rw [Xg,← HY.out];have:=HB.out.size;simp at this;omega
  ·intro r h1 h2 h3
   rw [← HY.out] at h1 ⊢
   rw [Xb h2,HB.out.block r (by simp;omega) h3,XJ,Xj,Array.getElem?_push,if_neg (by omega)])
structure Xgj (z y:World) (N rb:Nat) (vT vF vT' vF' vM vL vW vR:Value) (stops:Bool) (ths fls:List Value) (tb:Nat):Prop where
 obj:y.heap[rb]? = some (.cells (XH vT' vM vL vW vR vF' stops) 179 (0,0))
 ths:y.ownsRow N 33 1 vT' (ths.length + 1) (ths ++ [P0 tb])
 fls:y.ownsRow N 4 1 vF' (fls.length + 1) (fls ++ [.bool false])
 tnew:vT'.ownBlock=vT.ownBlock∨∃ g,vT'.ownBlock=some g∧z.heap.size≤g
 fnew:vF'.ownBlock=vF.ownBlock∨∃ g,vF'.ownBlock=some g∧z.heap.size≤g
 size:z.heap.size≤y.heap.size
 block:∀ r,r < z.heap.size→r≠rb→some r≠vT.ownBlock→some r≠vF.ownBlock→y.heap[r]? = z.heap[r]?
theorem Xq {w:World} {N:Nat} {e:TypeId} {size:Nat} {v:Value} {n:Nat} {xs:List Value} (h:w.ownsRow N e size v n xs) {g:Nat} (hg:v.ownBlock=some g):g < w.heap.size:=(h.lt g hg).2
theorem Xd6 {Post:Value→World→Prop} {C:Ctx} {z:World} {c:Frame} {cs:List Frame} {N rb rv fv tv tb:Nat} {vf:Value} {u6 u7 u8 u9 B0 B1 B2 B3 B4 vT vM vL vW vR vF:Value} {stops:Bool} {ths fls:List Value}
 (hr:z.heap[rb]? = some (.cells (XH vT vM vL vW vR vF stops) 179 (0,0))) (hT:z.ownsRow N 33 1 vT ths.length ths) (hF:z.ownsRow N 4 1 vF fls.length fls) (hN:N≤z.heap.size)
 (hnT:vT.ownBlock≠some rb) (hntv:vT.ownBlock≠some rv) (hntt:vT.ownBlock≠some tv) (hnF:vF.ownBlock≠some rb) (hnv:vF.ownBlock≠some rv) (hTF:∀ g,vT.ownBlock=some g→vF.ownBlock≠some g) (hm:ths.length < 64) (hm2:fls.length < 64) (hrvb:rv≠rb)
 (c1:z.cell? (th rv 0)=some (P0 rb)) (c2:z.cell? (th tv 0)=some (P0 tb))
 (hend:∀ y vT' vF' B6 B7 B8 B9 D0 D1 D2 D3 D4 D5 D6 D7 D8 D9 E0 E1 E2 E3 E4,Xgj z y N rb vT vF vT' vF' vM vL vW vR stops ths fls tb →
   JG Try.prog Post C (G ((base 130).at ⟨#[P0 rb,vf,P0 rv,P0 fv,.pointer none,P0 tv,u6,u7,u8,u9,B0,B1,B2,B3,B4,P0 tb,B6,B7,B8,B9,D0,D1,D2,D3,D4,D5,D6,D7,D8,D9,E0,E1,E2,E3,E4,undef,undef,undef,undef],[]⟩ [.code (Code.from (Try.f130.body.getD .skip) 4)]) (c::cs)) y) :
 JG Try.prog Post C (G ((base 130).at ⟨#[P0 rb,vf,P0 rv,P0 fv,.pointer none,P0 tv,u6,u7,u8,u9,B0,B1,B2,B3,B4,P0 tb,undef,undef,undef,undef,undef,undef,undef,undef,undef,undef,undef,undef,undef,undef,undef,undef,undef,undef,undef,undef,undef,undef,undef],[]⟩ [.code (Code.from (Try.f130.body.getD .skip) 2)]) (c::cs)) z:=by
 simp only [Try.f130,Option.getD_some,Code.from] at hend ⊢
 obtain ⟨i0,hi0,hz0,hz1,hz2⟩:=XI Vf
 refine JG.seq ?_
 refine JG.code (XQ _) (by kernel_rfl) rfl (.inr (by kernel_rfl)) rfl (fun K R hK hR τ=>?_)
 replace hK:=HD hK
 replace hend:=HD hend
 replace hF:=HD hF
 clear hR
 obtain ⟨y,hy⟩:∃ y,y=under z τ 0:=⟨_,rfl⟩
 have hyh:y.heap=z.heap:=by rw [hy];rfl
 rw [← hy]
 replace hr:y.heap[rb]? = some (.cells (XH vT vM vL vW vR vF stops) 179 (0,0)):=by rw [hyh];exact hr
 have k0:y.cell? (th rb 0)=some vT:=Xa hr 0
 have f0:y.frozen? (th rb 0)=false:=Xe hr 0
 have k1:y.cell? (th rv 0)=some (P0 rb):=by rw [hy];exact c1
 have k2:y.cell? (th tv 0)=some (P0 tb):=by rw [hy];exact c2
 have HOT:Hid (((y.alloc (.cells #[P0 tb] 33)).drew).ownsRow N 33 1 vT ths.length ths):=HD (((by rw [hy];exact hT:y.ownsRow N 33 1 vT ths.length ths).alloc _).drew)
 have hN':N≤y.heap.size:=by rw [hyh];exact hN
 have e0:rb < y.heap.size:=Xs k0
 have e1:rb < y.heap.size + 1:=by omega
 have e2:rv < y.heap.size:=Xs k1
 have e3:rv < y.heap.size + 1:=by omega
 have e4:tv < y.heap.size:=Xs k2
 have e5:tv < y.heap.size + 1:=by omega
 have HY:=HD hyh
 have HR:=HD hr
 have HN:=HD hN
 clear hy hyh hr c1 c2 hT hN
 have m1:Hid (ths.length + 1≤maxLen):=HD (by unfold maxLen;omega)
 have m2:Hid ((ths.length + 1) * 8≤140737488355328):=HD (by omega)
 go_region_law (first
  | (refine step_append_lies _ (by rfl) _ _ _ (by rfl) N 33 i0 _ 1 8 Try.underlying177 hi0 hz0 hz1 hz2 rfl (by omega) vT ths.length ths (by rfl) HOT.out ⟨y.heap.size,0,none⟩ 1 1 [P0 tb] (by rfl) (by rfl) (World.news_of_block (cs:=#[P0 tb]) (t:=33) (fr:=(0,0)) (heap_alloc_new y _)) (by simp [Value.oneCell']) (by omega) m1.out m2.out (by simp;omega) (y.heap.size + 1) (by simp) ?_
     intro g cap w' HG1 HG2 HG3 HG4
     have HB:=HD HG2
     have HO:=HD HG1
     have HG:=HD HG3
     clear HG1 HG2 HG3 HG4
     have g0:w'.heap[rb]? = some (.cells (XH vT vM vL vW vR vF stops) 179 (0,0)):=by
      rw [HB.out.block rb (by simp;omega) (fun e=>hnT e.symm),XJ,Xj,Array.getElem?_push,if_neg (by omega)];exact HR.out
     have HQ:=HD g0
     have q0:w'.cell? (th rb 0)=some vT:=Xa g0 0
     have q1:w'.frozen? (th rb 0)=false:=Xe g0 0
     have q2:w'.cell? (th rv 0)=some (P0 rb):=HB.out.cell (XR k1) (fun e=>hntv e.symm)
     have q3:w'.cell? (th tv 0)=some (P0 tb):=HB.out.cell (XR k2) (fun e=>hntt e.symm)
     clear g0))
 all_goals (
  show K _ _
  have hws:y.heap.size + 1≤w'.heap.size:=by have:=HB.out.size;simpa using this
  have hblk:∀ r,r < y.heap.size→r≠rb→some r≠vT.ownBlock→(w'.setCell (th rb 0) (.slice (some ⟨g,0,none⟩) (ths.length + 1) cap)).heap[r]? = z.heap[r]?:=by
   intro r h1 h2 h3
   rw [Xb h2,HB.out.block r (by simp;omega) h3,XJ,Xj,Array.getElem?_push,if_neg (by omega),HY.out]
  have hgr:g≠rb:=by
   rintro rfl
   rcases HG.out with h|h
   ·exact hnT h
   ·omega
  have hFz:∀ g',vF.ownBlock=some g'→g' < y.heap.size:=fun g' e=>by rw [HY.out];exact Xq hF.out e
  have hgF:vF.ownBlock≠some g:=by
   intro e
   rcases HG.out with h|h
   ·exact hTF g h e
   ·have:=hFz g e;omega
  refine hK.out _ _ (Xd5 (N:=N) (fls:=fls) (z:=w'.setCell (th rb 0) (.slice (some ⟨g,0,none⟩) (ths.length + 1) cap)) (vT:=.slice (some ⟨g,0,none⟩) (ths.length + 1) cap) (vM:=vM) (vL:=vL) (vW:=vW) (vR:=vR) (vF:=vF) (stops:=stops) ?_ ?_ ?_ hnF hnv hm2 ?_ ?_)
  ·rw [Xc HQ.out];rfl
  ·exact Xh hF.out fun g' e=>hblk g' (hFz g' e) (fun h=>hnF (h ▸ e)) (fun h=>hTF g' h.symm e)
  ·rw [Xg];have:=HN.out;rw [← HY.out] at this;omega
  ·exact Xk (by simp [th,hrvb]) q2
  ·intro y2 vF' v26 v27 v28 v29 v30 v31 v32 v33 v34 a1 a2 a3 a4 a5
   refine hend.out y2 (.slice (some ⟨g,0,none⟩) (ths.length + 1) cap) vF' _ _ _ _ _ _ _ _ _ _ _ _ _ _ _ _ _ _ _ ⟨a1,?_,a2,?_,?_,?_,?_⟩
   ·refine Xh (Xh (w':=w'.setCell (th rb 0) (.slice (some ⟨g,0,none⟩) (ths.length + 1) cap)) HO.out fun g' e=>Xb ?_) fun g' e=>?_
    ·obtain rfl:g=g':=by simpa [Value.ownBlock] using e
     exact hgr
    ·obtain rfl:g=g':=by simpa [Value.ownBlock] using e
     refine a5 g ?_ hgr fun h=>hgF h.symm
     rw [Xg];exact Xq HO.out rfl
   ·rcases HG.out with h|h
    ·exact .inl h.symm
    ·exact .inr ⟨g,rfl,by rw [← HY.out];omega⟩
   ·rcases a3 with h|⟨g',h,h'⟩
    ·exact .inl h
    ·rw [Xg] at h'
     exact .inr ⟨g',h,by rw [← HY.out];omega⟩
   ·rw [Xg] at a4;rw [← HY.out];omega
   ·intro r h1 h2 h3 h4
    rw [← HY.out] at h1
    rw [a5 r (by rw [Xg];omega) h2 h4]
    exact hblk r h1 h2 h3)
theorem Xcw (w:World):(Instr.makeChan 79 (.int .i64 0)).run Try.prog w=.ok (.chan (some w.heap.size)) (w.alloc (.chan 0 #[] false 0 0 false)):=by
 have h1:Try.prog.underlying 79=some (.chan .both 68):=by kernel_rfl
 have h2:(Try.prog.info? 68).map (fun i=>i.bytes)=some 0:=by kernel_rfl
 obtain ⟨i,hi,hz⟩:=Option.map_eq_some_iff.1 h2
 simp [Instr.makeChan,run_underlying h1,typeInfo,hi,hz,asInt,asIntOf,IntKind.max,IntKind.signed,IntKind.bits]
def Yi (rb n wk st:Nat):Array Value:=#[P0 rb,.int .i64 n,.chan (some wk),.chan (some st),.pointer none,.int .i64 0,.int .i8 0,.int .i64 0,.int .i64 0,.int .i64 0,.int .i64 0,.int .i64 0,.bool false,.bool false]
theorem WL (rb n wk st:Nat) (w:World):(Instr.build 184 #[(0,P0 rb),(1,.int .i64 n),(2,.chan (some wk)),(3,.chan (some st))]).run Try.prog w=.ok (.agg (Yi rb n wk st)) w:=run_build w _ _ _ (by kernel_rfl)
structure Made (w y:World) (rb n tv tb wk st:Nat):Prop where
 old:∀ r,r < w.heap.size→y.heap[r]? = w.heap[r]?
 size:y.heap.size=w.heap.size + 4
 tvb:w.heap.size≤tv∧tv < y.heap.size
 tbb:w.heap.size≤tb∧tb < y.heap.size
 wkb:w.heap.size≤wk∧wk < y.heap.size
 stb:w.heap.size≤st∧st < y.heap.size
 ne:wk≠st
 tvo:y.heap[tv]? = some (.cells #[P0 tb] 33 (0,0))
 tbo:y.heap[tb]? = some (.cells (Yi rb n wk st) 184 (0,0))
 wko:y.heap[wk]? = some (.chan 0 #[] false 0 0 false)
 sto:y.heap[st]? = some (.chan 0 #[] false 0 0 false)
structure Mild1 (Post:Value→World→Prop) (N:Nat) (x0:World) (fb:FuncId) (cap:Array Value) (R:World→World→Prop):Prop where
 body:Yk fb
 keeps:∀ y z,R y z→y.heap.size≤z.heap.size∧∀ r,N≤r→r < y.heap.size→z.heap[r]? = y.heap[r]?
 spec:∀ (C:Ctx) (y:World) (cf:Frame) (cs:List Frame) (tb rb:Nat),N≤y.heap.size→(∀ r,r < N→y.heap[r]? = x0.heap[r]?)→N≤tb→y.cell? (th tb 0)=some (P0 rb)→y.cell? (th tb 13)=some (.bool false)→(∀ v z,R y z→JG Try.prog Post C (G (cf.finish v) cs) z)→JG Try.prog Post C (G (Frame.enter Try.prog fb (#[P0 tb] ++ cap) .normal) (cf::cs)) y
theorem XL {w:World} {c r k:Nat} (h:r≠c):(w.setChan c 0 #[] false k k false).heap[r]? = w.heap[r]?:=heap_setChan_ne w _ _ _ _ _ _ (fun e=>h e.symm)
theorem X3 (w:World) (c k:Nat):(w.setChan c 0 #[] false k k false).heap.size=w.heap.size:=by simp [World.setChan]
theorem Zz {w:World} {b k n r:Nat} (h:r≠b):(w.freeze (th b k) n).heap[r]? = w.heap[r]?:=by
 by_cases hn:n=0
 ·unfold World.freeze;rw [if_pos hn]
 ·rw [XY _ _ hn]
  have:¬ r=b:=h
  simp only [this,if_false]
  cases w.heap[r]?<;>rfl
theorem XaW {w:World} {b k n:Nat} {cs:Array Value} {t:TypeId} (hn:n≠0) (h:w.heap[b]? = some (.cells cs t (0,0))):(w.freeze (th b k) n).heap[b]? = some (.cells cs t (k,k + n)):=by
 rw [XY _ _ hn,h];simp [th]
theorem XaI (w:World) (a:Addr) (n:Nat):(w.freeze a n).heap.size=w.heap.size:=by
 unfold World.freeze;split<;>simp
end Go.Proofs.Ytdhnggjmegilkaa
