/- LatchOpens, whole. -/
import Derived.Test.YtdgfekplfipekaaPLpG
import Derived.Test.YtdgfekplfipekaaPLpF
import Derived.Test.YtdgfekplfipekaaPLbF
set_option linter.all false
set_option maxRecDepth 100000
set_option maxHeartbeats 16000000
namespace Go.Proofs.Ytdgfekplfipekaa
open Go.Conc Go.RowKit
open Go.ConcN (upd upd_same upd_ne)
theorem boxedL (y:World) (v0 v:Value) (t:TypeId):((y.alloc (.cells #[v0] t)).setCell (th y.heap.size 0) v).heap[y.heap.size]? = some (.cells #[v] t (0,0))∧Xg y ((y.alloc (.cells #[v0] t)).setCell (th y.heap.size 0) v)∧((y.alloc (.cells #[v0] t)).setCell (th y.heap.size 0) v).heap.size=y.heap.size + 1:=by
 have h1:(y.alloc (.cells #[v0] t)).heap[y.heap.size]? = some (.cells #[v0] t (0,0)):=heap_alloc_new y _;have h2:=(Xg.refl y).alloc (.cells #[v0] t);exact ⟨by rw [Xd h1];rfl,⟨by rw [Xh];exact h2.1,fun r hr=>by rw [Xb (by omega)];exact h2.2 r hr⟩,by rw [Xh];simp⟩
theorem latchNewI_J {Post:Value→World→Prop} {C:Ctx} {x:World} {c:Frame} {cs:List Frame} {n:Int} (hn:decide (n < 0)=false) (h:∀ y,Xg x y→XN y x.heap.size n→y.heap[x.heap.size + 1]? = some (.cells #[P0 x.heap.size] 98 (0,0))→y.heap.size=x.heap.size + 2→JG Try.prog Post C (G (c.finish (.tuple #[P0 (x.heap.size + 1),.int .i64 0])) cs) y) :
 JG Try.prog Post C (G (Frame.enter Try.prog 20 #[.int .i64 n] .normal) (c::cs)) x:=by
 replace h:=HD h;refine Xu Try.func20 (by rfl) (by rfl) ?_;simp only [Try.f20,Option.getD_some];walk_nrm
 repeat refine kx ?_
 refine kf (args:=#[.int .i64 n]) Try.func9 ?_;refine cellNewI_J fun y s1 ic hy=>?_;rw [Frame.finish_at];walk_nrm
 repeat refine kx ?_
 refine ko fun K E hK hE τ d=>?_;go_simp;refine hK _ _ (jt (x:=y.alloc (.cells #[P0 x.heap.size] 98)) ?_);simp only [Xs];clear hK hE K E τ d;have s2:=(Xg.refl y).alloc (.cells #[P0 x.heap.size] 98);have l0:(y.alloc (.cells #[P0 x.heap.size] 98)).heap[y.heap.size]? = some (.cells #[P0 x.heap.size] 98 (0,0)):=heap_alloc_new y _;have i2:XN (y.alloc (.cells #[P0 x.heap.size] 98)) x.heap.size n:=(s2.2 _ (by omega)).trans ic;have sz:(y.alloc (.cells #[P0 x.heap.size] 98)).heap.size=x.heap.size + 2:=by simp;omega
 rw [hy] at l0;have hz:=h.out _ (s1.trans s2) i2 l0 sz;rw [hy];generalize y.alloc (.cells #[P0 x.heap.size] 98)=z at hz ⊢;clear h s1 ic s2 l0 i2 sz hy;replace hz:=HD hz
 repeat refine kx ?_
 refine JG.ret ?_;exact JG.leave rfl rfl Try.func20 (fun τ d=>results_tmp2 (t:=2) (u:=3) rfl _ _ _) hz.out
theorem lpB_fl {F m:Nat} {all:Int}:∀ i,lpBodies F m all i=fl (downs F m) (waiter F all) i
 | 0=>rfl
 | i + 1=>by simp only [lpBodies,fl,lpB_fl i]
theorem fl_mem {α:Type} {F1 F2 p:α}:∀ {k:Nat},p∈fl F1 F2 k→p=F1∨p=F2
 | 0,h=>by cases h
 | k + 1,h=>by
  simp only [fl,List.mem_append,List.mem_cons,List.not_mem_nil,or_false] at h;rcases h with h|h|h
  ·exact fl_mem h
  ·exact .inl h
  ·exact .inr h
section
variable {Post:Value→World→Prop} {C:Ctx} {x:World}
theorem latchOpensF {t r:Int} {a:Option Addr} {cap:Nat} {picks:List Int} (hC:XgL C x) (h:XgT Post C x) (ht : -9223372036854775808≤t∧t≤9223372036854775807) (hr : -9223372036854775808≤r∧r≤9223372036854775807)
 (hpo:picks≠[]→∃ gp og,a=some ⟨gp,og,none⟩∧gp < x.heap.size∧∀ (j:Nat) (q:Int),picks[j]? = some q→x.cell? ⟨gp,og + j,none⟩=some (.int .i64 q)) :
 JG Try.prog Post C (G (Frame.enter Try.prog 5 #[.agg #[.int .i64 t,.int .i64 r,.slice a picks.length cap],.bool false] .normal) []) x:=by
 obtain ⟨N,hN,hN1,hN6⟩:∃ N:Nat,t % 6 + 1=N∧1≤N∧N≤6:=⟨(t % 6 + 1).toNat,by omega,by omega,by omega⟩
 obtain ⟨M,hM,hM1,hM8⟩:∃ M:Nat,r % 8 + 1=M∧1≤M∧M≤8:=⟨(r % 8 + 1).toNat,by omega,by omega,by omega⟩
 obtain ⟨T,hT0⟩:∃ T,T=N * M:=⟨_,rfl⟩
 have hT48:T≤48:=by rw [hT0];exact Nat.mul_le_mul hN6 hM8
 have hmul:IntKind.i64.wrap ((N:Int) * (M:Int))=(T:Int):=by
  have e:(N:Int) * (M:Int)=(T:Int):=by rw [hT0];push_cast;rfl
  rw [e,IntKind.wrap_i64];omega
 have hadd:IntKind.i64.wrap (T:Int)=(T:Int):=by rw [IntKind.wrap_i64];try omega
 have hneg:decide ((T:Int) < 0)=false:=decide_eq_false (by omega);replace hC:=HD hC;replace h:=HD h;replace hpo:=HD hpo;replace hN:=HD hN;replace hM:=HD hM;replace hT0:=HD hT0;refine Xu Try.func5 (by rfl) (by rfl) ?_;simp only [Try.f5,Option.getD_some];walk_nrm
 repeat refine kx ?_
 refine ko fun K E hK hE τ d=>?_;go_simp;refine hK _ _ (jt (x:=x.alloc (.cells #[.int .i64 t,.int .i64 r,.slice a picks.length cap] 24)) ?_);simp only [Xs];clear hK hE K E τ d;have o1:=(Xg.refl x).alloc (.cells #[.int .i64 t,.int .i64 r,.slice a picks.length cap] 24);have b1:(x.alloc (.cells #[.int .i64 t,.int .i64 r,.slice a picks.length cap] 24)).heap[x.heap.size]? = some (.cells #[.int .i64 t,.int .i64 r,.slice a picks.length cap] 24 (0,0)):=heap_alloc_new x _;generalize x.alloc (.cells #[.int .i64 t,.int .i64 r,.slice a picks.length cap] 24)=y1 at o1 b1 ⊢;generalize hrb:x.heap.size=rb at b1 ⊢;replace hrb:=HD hrb;replace o1:=HD o1
 repeat refine kx ?_
 refine kf (args:=#[]) Try.func6 ?_;refine works5_J fun y2 o2=>?_;rw [Frame.finish_at];walk_nrm;have b2:=(o2.2 rb (GE b1).1).trans b1;have ox:=o1.out.trans o2;clear o1 o2 b1;have l0:y2.cell? (th rb 0)=some (.int .i64 t):=Xa b2 0;have l1:y2.cell? (th rb 1)=some (.int .i64 r):=Xa b2 1;have l2:y2.cell? (th rb 2)=some (.slice a picks.length cap):=Xa b2 2;replace ox:=HD ox;replace b2:=HD b2
 repeat refine kx ?_
 refine kf (args:=#[.agg #[.int .i64 t,.int .i64 r,.slice a picks.length cap]]) Try.func7 ?_;refine made_J ht hr fun y3 o3=>?_;rw [Frame.finish_at];walk_nrm;rw [hN.out,hM.out];have b3:=(o3.2 rb (GE b2.out).1).trans b2.out;have ox3:=ox.out.trans o3;clear l0 l1 l2 b2 ox o3;replace b3:=HD b3;replace ox3:=HD ox3
 repeat refine kx ?_
 refine ko fun K E hK hE τ d=>?_;go_simp;refine hK _ _ (jt (x:=y3.alloc (.cells #[.int .i64 0] 3)) ?_);simp only [Xs];clear hK hE K E τ d
 repeat refine kx ?_
 refine kst (And.intro (Xa (heap_alloc_new y3 (.cells #[.int .i64 0] 3)) 0) (Xe (heap_alloc_new y3 (.cells #[.int .i64 0] 3)) 0)) ?_;obtain ⟨kbm,obm,sbm⟩:=boxedL y3 (.int .i64 0) (.int .i64 M) 3;generalize (y3.alloc (.cells #[.int .i64 0] 3)).setCell (th y3.heap.size 0) (.int .i64 M)=y4 at kbm obm sbm ⊢;generalize hbm:y3.heap.size=bm at kbm sbm ⊢;replace kbm:=HD kbm;replace obm:=HD obm;replace sbm:=HD sbm;replace hbm:=HD hbm;cases hg:decide ((picks.length:Int)≤4000) with
 | false =>
  repeat refine kx ?_
  refine JG.ret ?_;have ow:=HD (ox3.out.trans obm.out);exact JG.end (hC.out.1) (hC.out.2.1) (fun i hi=>hC.out.2.2.2.1 i) rfl rfl Try.func5 (by kernel_rfl) (fun w _ d=>results_tmp (t:=4) rfl _ _ _) (fun w=>events_results_tmp rfl _ _) (fun w hT hio d=>h.out (w.at d) (hio.trans rfl) (by have:=hT.size;have:=ow.out.1;show x.heap.size≤w.heap.size;omega) (fun r hr=>((hT.old r (by show r < C.lo;rw [hC.out.2.2.2.2];exact hr)).symm.trans (ow.out.2 r hr))))
 | true =>
 clear hg;have f0:=Xa kbm.out 0
 repeat refine kx ?_
 try clear f0
 refine ko fun K E hK hE τ d=>?_;go_simp;refine hK _ _ (jt (x:=y4.alloc (.cells #[.int .i64 0] 2)) ?_);simp only [Xs];clear hK hE K E τ d
 repeat refine kx ?_
 refine kst (And.intro (Xa (heap_alloc_new y4 (.cells #[.int .i64 0] 2)) 0) (Xe (heap_alloc_new y4 (.cells #[.int .i64 0] 2)) 0)) ?_;obtain ⟨kba,oba,sba⟩:=boxedL y4 (.int .i64 0) (.int .i64 T) 2;generalize (y4.alloc (.cells #[.int .i64 0] 2)).setCell (th y4.heap.size 0) (.int .i64 T)=y5 at kba oba sba ⊢;generalize hba:y4.heap.size=ba at kba sba ⊢;replace kba:=HD kba;replace oba:=HD oba;replace sba:=HD sba;replace hba:=HD hba
 repeat refine kx ?_
 refine ko fun K E hK hE τ d=>?_;go_simp;refine hK _ _ (jt (x:=y5.alloc (.cells #[.int .i64 0] 2)) ?_);simp only [Xs];clear hK hE K E τ d
 repeat refine kx ?_
 refine kst (And.intro (Xa (heap_alloc_new y5 (.cells #[.int .i64 0] 2)) 0) (Xe (heap_alloc_new y5 (.cells #[.int .i64 0] 2)) 0)) ?_;obtain ⟨kbo,obo,sbo⟩:=boxedL y5 (.int .i64 0) (.int .i64 0) 2;generalize (y5.alloc (.cells #[.int .i64 0] 2)).setCell (th y5.heap.size 0) (.int .i64 0)=y6 at kbo obo sbo ⊢;generalize hbo:y5.heap.size=bo at kbo sbo ⊢;replace kbo:=HD kbo;replace obo:=HD obo;replace sbo:=HD sbo;replace hbo:=HD hbo;have lba:y6.cell? (th ba 0)=some (.int .i64 T):=obo.out.cell (Xa kba.out 0);have lbo:y6.cell? (th bo 0)=some (.int .i64 0):=Xa kbo.out 0
 repeat refine kx ?_
 refine kf (args:=#[.int .i64 T]) Try.func20 ?_;refine latchNewI_J hneg fun y8 o8 i8 b8 s8=>?_;rw [Frame.finish_at];walk_nrm;clear lba lbo;generalize hcb:y6.heap.size=cb at i8 b8 s8 ⊢;obtain ⟨lb,hlb⟩:∃ lb,lb=cb + 1:=⟨_,rfl⟩
 rw [← hlb] at b8 ⊢;replace hlb:=HD hlb;replace hcb:=HD hcb;replace o8:=HD o8;replace i8:=HD i8;replace b8:=HD b8;replace s8:=HD s8
 repeat refine kx ?_
 refine ko fun K E hK hE τ d=>?_;go_simp;refine hK _ _ (jt (x:=y8.alloc (.cells #[.pointer none] 52)) ?_);simp only [Xs];clear hK hE K E τ d
 repeat refine kx ?_
 refine kst (And.intro (Xa (heap_alloc_new y8 (.cells #[.pointer none] 52)) 0) (Xe (heap_alloc_new y8 (.cells #[.pointer none] 52)) 0)) ?_;obtain ⟨kbl,obl,sbl⟩:=boxedL y8 (.pointer none) (P0 lb) 52;generalize (y8.alloc (.cells #[.pointer none] 52)).setCell (th y8.heap.size 0) (P0 lb)=y9 at kbl obl sbl ⊢;generalize hbl:y8.heap.size=bl at kbl sbl ⊢;replace kbl:=HD kbl;replace obl:=HD obl;replace sbl:=HD sbl;replace hbl:=HD hbl;have f0:=Xa kbl.out 0
 repeat refine kx ?_
 try clear f0
 refine ko fun K E hK hE τ d=>?_;go_simp;refine hK _ _ (jt (x:=y9.alloc (.cells #[.int .i64 0] 2)) ?_);simp only [Xs];clear hK hE K E τ d
 repeat refine kx ?_
 refine kst (And.intro (Xa (heap_alloc_new y9 (.cells #[.int .i64 0] 2)) 0) (Xe (heap_alloc_new y9 (.cells #[.int .i64 0] 2)) 0)) ?_;obtain ⟨kbd,obd,sbd⟩:=boxedL y9 (.int .i64 0) (.int .i64 0) 2;generalize (y9.alloc (.cells #[.int .i64 0] 2)).setCell (th y9.heap.size 0) (.int .i64 0)=y10 at kbd obd sbd ⊢;generalize hbd:y9.heap.size=bd at kbd sbd ⊢;replace kbd:=HD kbd;replace obd:=HD obd;replace sbd:=HD sbd;replace hbd:=HD hbd
 repeat refine kx ?_
 refine ko fun K E hK hE τ d=>?_;go_simp;refine hK _ _ (jt (x:=y10.alloc (.cells #[.bool false] 4)) ?_);simp only [Xs];clear hK hE K E τ d
 repeat refine kx ?_
 refine kst (And.intro (Xa (heap_alloc_new y10 (.cells #[.bool false] 4)) 0) (Xe (heap_alloc_new y10 (.cells #[.bool false] 4)) 0)) ?_;obtain ⟨kbe,obe,sbe⟩:=boxedL y10 (.bool false) (.bool false) 4;generalize (y10.alloc (.cells #[.bool false] 4)).setCell (th y10.heap.size 0) (.bool false)=y11 at kbe obe sbe ⊢;generalize hbe:y10.heap.size=be at kbe sbe ⊢;replace kbe:=HD kbe;replace obe:=HD obe;replace sbe:=HD sbe;replace hbe:=HD hbe
 repeat refine kx ?_
 refine ko fun K E hK hE τ d=>?_;go_simp;refine hK _ _ (jt (x:=y11.alloc (.cells #[.int .i64 0] 3)) ?_);simp only [Xs];clear hK hE K E τ d
 repeat refine kx ?_
 refine kst (And.intro (Xa (heap_alloc_new y11 (.cells #[.int .i64 0] 3)) 0) (Xe (heap_alloc_new y11 (.cells #[.int .i64 0] 3)) 0)) ?_;obtain ⟨kbw,obw,sbw⟩:=boxedL y11 (.int .i64 0) (.int .i64 0) 3;generalize (y11.alloc (.cells #[.int .i64 0] 3)).setCell (th y11.heap.size 0) (.int .i64 0)=y12 at kbw obw sbw ⊢;generalize hbw:y11.heap.size=bw at kbw sbw ⊢;replace kbw:=HD kbw;replace obw:=HD obw;replace sbw:=HD sbw;replace hbw:=HD hbw;have p11:=obw.out;have p10:=obe.out.trans p11;have p9:=obd.out.trans p10;have p8:=obl.out.trans p9;have p7:=o8.out.trans p8;have p5:=obo.out.trans p7;have p4:=oba.out.trans p5;have p3:=obm.out.trans p4;have px:=ox3.out.trans p3;have krb:=(p3.2 rb (GE b3.out).1).trans b3.out;have wbm:=(p4.2 bm (GE kbm.out).1).trans kbm.out;have wba:=(p5.2 ba (GE kba.out).1).trans kba.out;have wbo:=(p7.2 bo (GE kbo.out).1).trans kbo.out;have wcb:XN y12 cb T:=(p8.2 cb (GE i8.out).1).trans i8.out;have wlb:=(p8.2 lb (GE b8.out).1).trans b8.out;have wbl:=(p9.2 bl (GE kbl.out).1).trans kbl.out;have wbd:=(p10.2 bd (GE kbd.out).1).trans kbd.out;have wbe:=(p11.2 be (GE kbe.out).1).trans kbe.out;have hx3:=ox3.out.1;have hord:x.heap.size≤bm∧bm < ba∧ba < bo∧bo < cb∧cb < lb∧lb < bl∧bl < bd∧bd < be∧be < bw∧bw < y12.heap.size:=by
  have:=hbm.out;have:=sbm.out;have:=hba.out;have:=sba.out;have:=hbo.out;have:=sbo.out;have:=hcb.out;have:=hlb.out;have:=s8.out;have:=hbl.out;have:=sbl.out;have:=hbd.out;have:=sbd.out;have:=hbe.out;have:=sbe.out;have:=hbw.out;have:=sbw.out
  omega
 have hrbx:rb < y12.heap.size:=(GE krb).1;have wbw:=kbw.out;clear p11 p10 p9 p8 p7 p5 p4 p3 hx3 b3 ox3 kbm kba kbo i8 b8 kbl kbd kbe kbw obm oba obo o8 obl obd obe obw hbm hba hbo hcb hlb hbl hbd hbe hbw sbm sba sbo s8 sbl sbd sbe sbw;have hrows:=HD (And.intro krb (And.intro wbm (And.intro wba (And.intro wbo (And.intro wcb (And.intro wlb (And.intro wbl (And.intro wbd (And.intro wbe wbw)))))))));clear krb wbm wba wbo wcb wlb wbl wbd wbe wbw;replace px:=HD px;replace hord:=HD hord;replace hrbx:=HD hrbx;have hloop:=@lb_loop Post C [] y12 bm ba bo bl bd be bw N (by omega);simp only [Try.f5,Option.getD_some,Code.nav] at hloop
 repeat refine kx ?_
 refine JG.loop ?_;refine hloop N 0 (by omega) y12 (.slice none 0 0) _ _ _ _ _ _ _ _ _ _ ⟨Xg.refl _,X7⟩ fun y vB H0 H4 H5 H6 H7 H8 H9 I1 I2 I3 hB=>?_;obtain ⟨krb,wbm,wba,wbo,wcb,wlb,wbl,wbd,wbe,wbw⟩:=hrows.out;have o:=hB.old;obtain ⟨g,capB,rfl,hcells⟩:=Qi hB.row (by omega);have hg1:y12.heap.size≤g:=XE hB.row (by simp [Value.ownBlock]);have hg2:g < y.heap.size:=own_lt hB.row (by simp [Value.ownBlock]);have lt:∀ {r:Nat} {o:Obj},y12.heap[r]? = some o→r < y12.heap.size:=fun e=>(GE e).1;have rbm:=(o.2 bm (lt wbm)).trans wbm;have rba:=(o.2 ba (lt wba)).trans wba;have rbo:=(o.2 bo (lt wbo)).trans wbo;have rcb:XN y cb T:=(o.2 cb (lt wcb)).trans wcb;have rlb:=(o.2 lb (lt wlb)).trans wlb;have rbl:=(o.2 bl (lt wbl)).trans wbl;have rbd:=(o.2 bd (lt wbd)).trans wbd;have rbe:=(o.2 be (lt wbe)).trans wbe;have rbw:=(o.2 bw (lt wbw)).trans wbw;have pl:y.cell? (th rb 2)=some (.slice a picks.length cap):=Xa ((o.2 rb (lt krb)).trans krb) 2;have py:=px.out.trans o;clear hloop hrows krb wbm wba wbo wcb wlb wbl wbd wbe wbw o lt hB px;have hlq:bm < ba∧ba < bo∧bo < cb∧cb < lb∧lb < bl∧bl < bd∧bd < be∧be < bw:=by have:=hord.out;omega
 have hR:=HD (And.intro rbm (And.intro rba (And.intro rbo (And.intro rcb (And.intro rlb (And.intro rbl (And.intro rbd (And.intro rbe rbw))))))));clear rbm rba rbo rcb rlb rbl rbd rbe rbw;replace py:=HD py;replace hcells:=HD hcells;replace hlq:=HD hlq
 repeat refine kx ?_
 refine kf (args:=#[.slice a picks.length cap,.int .i64 16384,.slice (some ⟨g,0,none⟩) (2 * N) capB]) Try.func16 ?_;rw [show 2 * N=(fl (⟨21,#[P0 bm,P0 be,P0 bl,P0 bd],downs 16385 M⟩:Xa8 OSh) ⟨23,#[P0 bl,P0 bd,P0 ba,P0 bo,P0 be,P0 bw],waiter 16385 ((T + 0:Nat):Int)⟩ N).length from (fl_len N).symm];refine run_RO (S:=Lq.side ⟨bm,ba,bo,cb,lb,bl,bd,be,bw,M,T,0,hlq.out⟩) (Kp:=fun r=>r < x.heap.size∨r=g) (picks:=picks) (most:=16384) (m:=16384) (sh:=(⟨false,0,0⟩:OSh)) (cells:=fun _=>((T + 0:Nat):Int)) (by decide) hC.out.2.1 (by have h1:=hC.out.1;have h2:=hC.out.2.2.1;omega) (by have h1:=hC.out.2.2.2.2;have:=py.out.1;omega) (fun i _=>hC.out.2.2.2.1 i) (fun hne=>?_) (fun j b e=>?_) (by rw [fl_len];omega) (fun r hr=>?_) (fun j b e=>?_) ?_ (fun l1 l2 e=>XV.fuel_start l1 _ _ (fun p hp=>?_) (fun j hj=>absurd hj (Nat.not_lt_zero j)))
  (fun Q e C' z Mz vL vW vR vl hQ d1 d2 d3 d4 d5 d6 hz hsz hM' r1 r2 r3 r4 hI hQn hlv hnm=>?_)
 ·obtain ⟨gp,og,q1,q2,q3⟩:=hpo.out hne
  refine ⟨gp,og,q1,.inl q2,fun j q hq=>?_⟩;rw [World.cell?_of_block (py.out.2 gp q2)];exact q3 j q hq
 ·have hj:j < 2 * N:=by have:=(LE' e).1;rw [fl_len] at this;exact this
  rw [fl_get N j hj] at e;have hc:=hcells.out j _ (fl_get N j hj);refine ⟨g,rfl,.inr rfl,?_⟩;obtain rfl:=OI e
  by_cases hp:j % 2=0
  ·rw [if_pos hp] at hc ⊢;exact hc
  ·rw [if_neg hp] at hc ⊢;exact hc
 ·rcases hr with h|rfl
  ·exact Nat.lt_of_lt_of_le h py.out.1
  ·exact hg2
 ·have hj:j < 2 * N:=by have:=(LE' e).1;rw [fl_len] at this;exact this
  rw [fl_get N j hj] at e;obtain rfl:=OI e
  by_cases hp:j % 2=0
  ·rw [if_pos hp];exact downs_b (q:=⟨bm,ba,bo,cb,lb,bl,bd,be,bw,M,T,0,hlq.out⟩) (show M < 1000 by omega)
  ·rw [if_neg hp];exact waiter_b (q:=⟨bm,ba,bo,cb,lb,bl,bd,be,bw,M,T,0,hlq.out⟩) (show T + 0 < 1000 by omega)
 ·obtain ⟨rbm,rba,rbo,rcb,rlb,rbl,rbd,rbe,rbw⟩:=hR.out
  refine ⟨fun i _=>⟨rcb,show ¬ (cb < x.heap.size∨cb=g) by have:=hord.out;omega⟩,show Lq.M ⟨bm,ba,bo,cb,lb,bl,bd,be,bw,M,T,0,hlq.out⟩ ⟨false,0,0⟩ (fun r=>r < x.heap.size∨r=g) y from Lq.M.mk (q:=⟨bm,ba,bo,cb,lb,bl,bd,be,bw,M,T,0,hlq.out⟩) (sh:=⟨false,0,0⟩) rbm rba rbo rlb rbl rbd rbe rbw fun p hp=>?_⟩
  have:=hord.out
  simp only [Lq.rows,List.mem_cons,List.not_mem_nil,or_false] at hp;rcases hp with rfl|rfl|rfl|rfl|rfl|rfl|rfl|rfl<;>simp only<;>omega
 ·have hp2:p∈fl (downs 16385 M) (waiter 16385 ((T + 0:Nat):Int)) N:=by
   have h2:=List.mem_append_left l2 hp;rw [← e,fl_map] at h2;exact h2
  rcases fl_mem hp2 with rfl|rfl
  ·exact downs_fuel _ _ (by decide)
  ·exact waiter_fuel (by decide)
 rw [Frame.finish_at]
 try walk_nrm
 rw [fl_map] at hQ;have key:=latch_opens (n:=N) (m:=M - 1) (more:=0) hN1 hN6 (by omega) (by omega) picks (e:=e) (Q:=Q) (by rw [lpB_fl,show M - 1 + 1=M by omega,← hT0.out];exact hQ);obtain ⟨k1,k2,k3,k4,k5⟩:=key;have k3':Q.st.sh.down=(T:Int):=by rw [k3,show M - 1 + 1=M by omega,← hT0.out]
 obtain ⟨ke,kw⟩:=k4 rfl;subst ke;have zcb:XN z cb 0:=by have:=(hI.1 0 Nat.zero_lt_one).1;rw [k2] at this;exact this
 have hIM:Lq.M ⟨bm,ba,bo,cb,lb,bl,bd,be,bw,M,T,0,hlq.out⟩ Q.st.sh (fun r=>r < x.heap.size∨r=g) z:=hI.2;have zbe:z.cell? (th be 0)=some (.bool false):=by have:=Xa hIM.e.1 0;rw [k1] at this;exact this
 have zbd:z.cell? (th bd 0)=some (.int .i64 T):=by have:=Xa hIM.d.1 0;rw [k3'] at this;exact this
 have zbw:z.cell? (th bw 0)=some (.int .i64 N):=by have:=Xa hIM.w.1 0;rw [kw] at this;exact this
 have zba:z.cell? (th ba 0)=some (.int .i64 T):=Xa hIM.a 0;have zbo:z.cell? (th bo 0)=some (.int .i64 0):=Xa hIM.o 0;have zlb:z.cell? (th lb 0)=some (P0 cb):=Xa hIM.lb 0;have zbl:z.cell? (th bl 0)=some (P0 lb):=Xa hIM.l 0;obtain ⟨aL,cL,rfl⟩:=Xq r1;obtain ⟨aW,cW,rfl⟩:=Xq r2;obtain ⟨aR,cR,rfl⟩:=Xq r3;obtain ⟨al,cl,rfl⟩:=Xq r4;have oz:Xg x z:=⟨Nat.le_trans py.out.1 hsz,fun r hr=>(hz r (.inl hr)).trans (py.out.2 r hr)⟩
 have hzs:bw < z.heap.size:=(GE hIM.w.1).1;clear hQ hI hIM k1 k2 k3 k3' k4 k5 kw r1 r2 r3 r4 hz hsz hM' hQn hlv hnm hcells hR hrbx;replace oz:=HD oz;generalize Q.st.log.length=l1;generalize Q.st.went.length=lW;generalize Q.st.ready.length=l2;generalize Q.left.length=l3
 repeat refine kx ?_
 refine ko fun K E hK hE τ d=>?_;go_simp;refine hK _ _ (jal fun w2 s4 wn _=>?_);simp only [Xs];clear hK hE K E τ d;generalize hq:z.heap.size=q at wn s4 hzs ⊢;have m0:w2.cell? (th q 0)=some (.int .i8 0):=Xa wn 0;have n0_:w2.frozen? (th q 0)=false:=Xe wn 0;have m1:w2.cell? (th q 1)=some (.int .i64 0):=Xa wn 1;have n1_:w2.frozen? (th q 1)=false:=Xe wn 1;have m2:w2.cell? (th q 2)=some (.slice none 0 0):=Xa wn 2;have n2_:w2.frozen? (th q 2)=false:=Xe wn 2;have m3:w2.cell? (th q 3)=some (.slice none 0 0):=Xa wn 3;have n3_:w2.frozen? (th q 3)=false:=Xe wn 3;have m4:w2.cell? (th q 4)=some (.slice none 0 0):=Xa wn 4;have n4_:w2.frozen? (th q 4)=false:=Xe wn 4;have m5:w2.cell? (th q 5)=some (.slice none 0 0):=Xa wn 5;have n5_:w2.frozen? (th q 5)=false:=Xe wn 5;have m6:w2.cell? (th q 6)=some (.slice none 0 0):=Xa wn 6;have n6_:w2.frozen? (th q 6)=false:=Xe wn 6;replace hzs:=HD hzs;replace hq:=HD hq;refine ko fun K E hK hE τ d=>?_;have m0':=(Xk w2 τ d _).trans m0;have n0':=(Xf w2 τ d _).trans n0_;have m1':=(Xk w2 τ d _).trans m1;have n1':=(Xf w2 τ d _).trans n1_;have m2':=(Xk w2 τ d _).trans m2;have n2':=(Xf w2 τ d _).trans n2_;have m3':=(Xk w2 τ d _).trans m3;have n3':=(Xf w2 τ d _).trans n3_;have m4':=(Xk w2 τ d _).trans m4;have n4':=(Xf w2 τ d _).trans n4_;have m5':=(Xk w2 τ d _).trans m5;have n5':=(Xf w2 τ d _).trans n5_;have m6':=(Xk w2 τ d _).trans m6;have n6':=(Xf w2 τ d _).trans n6_;go_simp;refine hK _ _ ?_;rw [Xc,Xc,Xc,Xc,Xc,Xc,Xc];refine jt ?_;clear m0 n0_ m0' n0' m1 n1_ m1' n1' m2 n2_ m2' n2' m3 n3_ m3' n3' m4 n4_ m4' n4' m5 n5_ m5' n5' m6 n6_ m6' n6' hK hE K E τ d;obtain ⟨v,hv⟩:∃ v,v=(((((((w2.setCell (th q 0) (.int .i8 1)).setCell (th q 1) (.int .i64 lW)).setCell (th q 2) (.slice aL l1 cL)).setCell (th q 3) (.slice aW lW cW)).setCell (th q 4) (.slice aR l2 cR)).setCell (th q 5) (.slice al l3 cl)).setCell (th q 6) (.slice none 0 0)):=⟨_,rfl⟩
 rw [← hv]
 try walk_nrm
 have hsv:v.heap.size=w2.heap.size:=by rw [hv,Xh,Xh,Xh,Xh,Xh,Xh,Xh]
 have hvo:∀ r,r≠q→v.heap[r]? = w2.heap[r]?:=fun r h=>by
  rw [hv,Xb h,Xb h,Xb h,Xb h,Xb h,Xb h,Xb h]
 have hvn:v.heap[q]? = some (.cells #[.int .i8 1,.int .i64 lW,.slice aL l1 cL,.slice aW lW cW,.slice aR l2 cR,.slice al l3 cl,.slice none 0 0] 43 (0,0)):=by
  rw [hv];exact Xd (Xd (Xd (Xd (Xd (Xd (Xd wn))))))
 clear hv wn;have hvz:Xg z v:=⟨by rw [hsv];exact s4.1,fun r hr=>(hvo r (by have:=hq.out;omega)).trans (s4.2 r hr)⟩
 have f0:v.cell? (th q 0)=some (.int .i8 1):=Xa hvn 0;have f5:v.cell? (th q 5)=some (.slice al l3 cl):=Xa hvn 5;have vbe:=hvz.cell zbe;have vbd:=hvz.cell zbd;have vbw:=hvz.cell zbw;have vba:=hvz.cell zba;have vbo:=hvz.cell zbo;have vlb:=hvz.cell zlb;have vbl:=hvz.cell zbl;have vcb:Xr v cb 0:=XN.free ((hvz.2 cb zcb.lt).trans zcb);have ow:=HD (oz.out.trans hvz);clear hvn hvz hvo hsv s4 zbe zbd zbw zba zbo zlb zbl zcb oz hzs hq;replace vcb:=HD vcb
 repeat refine kx ?_
 refine JG.drawCallsG (fun i=>if i=3 then some 0 else none) (fun _=>.int .i64 0) (fun k z=>z=v) 1 (by kernel_rfl) (by kernel_rfl) (by decide) rfl ?_;apply Exists.intro;apply And.intro
 ·intro k hk z' hz
  have hk':k=0∨k=1:=by omega
  rcases hk' with rfl|rfl
  ·rw [show z'=v from hz]
   repeat first|(refine Xw.un (by rfl) (by rfl) ?_;try walk_nrm)|(refine Xw.rd (by rfl) (by rfl) (by rfl) (fun K hK τ d=>?_);go_simp;refine hK _ ?_;clear hK K τ d)|(refine Xw.rd (by rfl) (by rfl) (by rfl) (fun K hK τ d=>?_);have hfact:=uc τ d (vbe);go_simp;refine hK _ ?_;clear hfact hK K τ d)|(refine Xw.rd (by rfl) (by rfl) (by rfl) (fun K hK τ d=>?_);have hfact:=uc τ d (vbl);go_simp;refine hK _ ?_;clear hfact hK K τ d)|(refine Xw.rd (by rfl) (by rfl) (by rfl) (fun K hK τ d=>?_);have hfact:=uc τ d (vbo);go_simp;refine hK _ ?_;clear hfact hK K τ d)|(refine Xw.rd (by rfl) (by rfl) (by rfl) (fun K hK τ d=>?_);have hfact:=uc τ d (vbd);go_simp;refine hK _ ?_;clear hfact hK K τ d)|(refine Xw.rd (by rfl) (by rfl) (by rfl) (fun K hK τ d=>?_);have hfact:=uc τ d (vba);go_simp;refine hK _ ?_;clear hfact hK K τ d)
   refine Xw.cl (by rfl) (by rfl) (fun _=>⟨25,#[P0 lb,.pointer none],fun w=>?_,fun w=>?_,fun c hc=>?_⟩) ?_
   iterate 2 (focus obtain ⟨fn, h1, h2, h3⟩ : Yb 25 := ⟨_, Try.func25, by kernel_rfl, by kernel_rfl⟩; have h4 : ¬ fn.name = "runtime.NumGoroutine" := (by simpa using h2); have h5 : ¬ fn.body = none := (by intro e; rw [e] at h3; cases h3); simp [go_sem, execOp, Act.eval, resolve, Deferred.ofValue, invoke, callFunc, h1, h4, h5])
   ·exact left_J vlb vcb.out (hc _ rfl)
   repeat first|(refine Xw.un (by rfl) (by rfl) ?_;try walk_nrm)|(refine Xw.rd (by rfl) (by rfl) (by rfl) (fun K hK τ d=>?_);go_simp;refine hK _ ?_;clear hK K τ d)|(refine Xw.rd (by rfl) (by rfl) (by rfl) (fun K hK τ d=>?_);have hfact:=uc τ d (vbe);go_simp;refine hK _ ?_;clear hfact hK K τ d)|(refine Xw.rd (by rfl) (by rfl) (by rfl) (fun K hK τ d=>?_);have hfact:=uc τ d (vbl);go_simp;refine hK _ ?_;clear hfact hK K τ d)|(refine Xw.rd (by rfl) (by rfl) (by rfl) (fun K hK τ d=>?_);have hfact:=uc τ d (vbo);go_simp;refine hK _ ?_;clear hfact hK K τ d)|(refine Xw.rd (by rfl) (by rfl) (by rfl) (fun K hK τ d=>?_);have hfact:=uc τ d (vbd);go_simp;refine hK _ ?_;clear hfact hK K τ d)|(refine Xw.rd (by rfl) (by rfl) (by rfl) (fun K hK τ d=>?_);have hfact:=uc τ d (vba);go_simp;refine hK _ ?_;clear hfact hK K τ d)
   exact Xw.nil rfl
  ·rw [show z'=v from hz]
   repeat first|(refine Xw.un (by rfl) (by rfl) ?_;try walk_nrm)|(refine Xw.rd (by rfl) (by rfl) (by rfl) (fun K hK τ d=>?_);go_simp;refine hK _ ?_;clear hK K τ d)|(refine Xw.rd (by rfl) (by rfl) (by rfl) (fun K hK τ d=>?_);have hfact:=uc τ d (vbe);go_simp;refine hK _ ?_;clear hfact hK K τ d)|(refine Xw.rd (by rfl) (by rfl) (by rfl) (fun K hK τ d=>?_);have hfact:=uc τ d (vbl);go_simp;refine hK _ ?_;clear hfact hK K τ d)|(refine Xw.rd (by rfl) (by rfl) (by rfl) (fun K hK τ d=>?_);have hfact:=uc τ d (vbo);go_simp;refine hK _ ?_;clear hfact hK K τ d)|(refine Xw.rd (by rfl) (by rfl) (by rfl) (fun K hK τ d=>?_);have hfact:=uc τ d (vbd);go_simp;refine hK _ ?_;clear hfact hK K τ d)|(refine Xw.rd (by rfl) (by rfl) (by rfl) (fun K hK τ d=>?_);have hfact:=uc τ d (vba);go_simp;refine hK _ ?_;clear hfact hK K τ d)
   refine Xw.cl (by rfl) (by rfl) (fun h=>by cases h) ?_
   repeat first|(refine Xw.un (by rfl) (by rfl) ?_;try walk_nrm)|(refine Xw.rd (by rfl) (by rfl) (by rfl) (fun K hK τ d=>?_);go_simp;refine hK _ ?_;clear hK K τ d)|(refine Xw.rd (by rfl) (by rfl) (by rfl) (fun K hK τ d=>?_);have hfact:=uc τ d (vbe);go_simp;refine hK _ ?_;clear hfact hK K τ d)|(refine Xw.rd (by rfl) (by rfl) (by rfl) (fun K hK τ d=>?_);have hfact:=uc τ d (vbl);go_simp;refine hK _ ?_;clear hfact hK K τ d)|(refine Xw.rd (by rfl) (by rfl) (by rfl) (fun K hK τ d=>?_);have hfact:=uc τ d (vbo);go_simp;refine hK _ ?_;clear hfact hK K τ d)|(refine Xw.rd (by rfl) (by rfl) (by rfl) (fun K hK τ d=>?_);have hfact:=uc τ d (vbd);go_simp;refine hK _ ?_;clear hfact hK K τ d)|(refine Xw.rd (by rfl) (by rfl) (by rfl) (fun K hK τ d=>?_);have hfact:=uc τ d (vba);go_simp;refine hK _ ?_;clear hfact hK K τ d)
   exact Xw.nil rfl
 intro z' hz;rw [show z'=v from hz]
 try walk_nrm
 repeat refine kx ?_
 refine JG.ret ?_;exact JG.end (d2.trans hC.out.1) (d1) (fun i hi=>d6 i (by have:=hC.out.1;omega)) rfl rfl Try.func5 (by kernel_rfl) (fun w _ d=>results_tmp (t:=4) rfl _ _ _) (fun w=>events_results_tmp rfl _ _) (fun w hT hio d=>h.out (w.at d) (hio.trans d5) (by have:=hT.size;have:=ow.out.1;show x.heap.size≤w.heap.size;omega) (fun r hr=>((hT.old r (by show r < C'.lo;rw [d4,hC.out.2.2.2.2];exact hr)).symm.trans (ow.out.2 r hr))))
theorem latchOpensT {t r:Int} {a:Option Addr} {cap:Nat} {picks:List Int} (hC:XgL C x) (h:XgT Post C x) (ht : -9223372036854775808≤t∧t≤9223372036854775807) (hr : -9223372036854775808≤r∧r≤9223372036854775807)
 (hpo:picks≠[]→∃ gp og,a=some ⟨gp,og,none⟩∧gp < x.heap.size∧∀ (j:Nat) (q:Int),picks[j]? = some q→x.cell? ⟨gp,og + j,none⟩=some (.int .i64 q)) :
 JG Try.prog Post C (G (Frame.enter Try.prog 5 #[.agg #[.int .i64 t,.int .i64 r,.slice a picks.length cap],.bool true] .normal) []) x:=by
 obtain ⟨N,hN,hN1,hN6⟩:∃ N:Nat,t % 6 + 1=N∧1≤N∧N≤6:=⟨(t % 6 + 1).toNat,by omega,by omega,by omega⟩
 obtain ⟨M,hM,hM1,hM8⟩:∃ M:Nat,r % 8 + 1=M∧1≤M∧M≤8:=⟨(r % 8 + 1).toNat,by omega,by omega,by omega⟩
 obtain ⟨T,hT0⟩:∃ T,T=N * M:=⟨_,rfl⟩
 have hT48:T≤48:=by rw [hT0];exact Nat.mul_le_mul hN6 hM8
 have hmul:IntKind.i64.wrap ((N:Int) * (M:Int))=(T:Int):=by
  have e:(N:Int) * (M:Int)=(T:Int):=by rw [hT0];push_cast;rfl
  rw [e,IntKind.wrap_i64];omega
 obtain ⟨A,hA⟩:∃ A,A=T + 1:=⟨_,rfl⟩
 have hadd:IntKind.i64.wrap ((T:Int) + 1)=(A:Int):=by rw [IntKind.wrap_i64];omega
 have hneg:decide ((A:Int) < 0)=false:=decide_eq_false (by omega);replace hA:=HD hA;replace hC:=HD hC;replace h:=HD h;replace hpo:=HD hpo;replace hN:=HD hN;replace hM:=HD hM;replace hT0:=HD hT0;refine Xu Try.func5 (by rfl) (by rfl) ?_;simp only [Try.f5,Option.getD_some];walk_nrm
 repeat refine kx ?_
 refine ko fun K E hK hE τ d=>?_;go_simp;refine hK _ _ (jt (x:=x.alloc (.cells #[.int .i64 t,.int .i64 r,.slice a picks.length cap] 24)) ?_);simp only [Xs];clear hK hE K E τ d;have o1:=(Xg.refl x).alloc (.cells #[.int .i64 t,.int .i64 r,.slice a picks.length cap] 24);have b1:(x.alloc (.cells #[.int .i64 t,.int .i64 r,.slice a picks.length cap] 24)).heap[x.heap.size]? = some (.cells #[.int .i64 t,.int .i64 r,.slice a picks.length cap] 24 (0,0)):=heap_alloc_new x _;generalize x.alloc (.cells #[.int .i64 t,.int .i64 r,.slice a picks.length cap] 24)=y1 at o1 b1 ⊢;generalize hrb:x.heap.size=rb at b1 ⊢;replace hrb:=HD hrb;replace o1:=HD o1
 repeat refine kx ?_
 refine kf (args:=#[]) Try.func6 ?_;refine works5_J fun y2 o2=>?_;rw [Frame.finish_at];walk_nrm;have b2:=(o2.2 rb (GE b1).1).trans b1;have ox:=o1.out.trans o2;clear o1 o2 b1;have l0:y2.cell? (th rb 0)=some (.int .i64 t):=Xa b2 0;have l1:y2.cell? (th rb 1)=some (.int .i64 r):=Xa b2 1;have l2:y2.cell? (th rb 2)=some (.slice a picks.length cap):=Xa b2 2;replace ox:=HD ox;replace b2:=HD b2
 repeat refine kx ?_
 refine kf (args:=#[.agg #[.int .i64 t,.int .i64 r,.slice a picks.length cap]]) Try.func7 ?_;refine made_J ht hr fun y3 o3=>?_;rw [Frame.finish_at];walk_nrm;rw [hN.out,hM.out];have b3:=(o3.2 rb (GE b2.out).1).trans b2.out;have ox3:=ox.out.trans o3;clear l0 l1 l2 b2 ox o3;replace b3:=HD b3;replace ox3:=HD ox3
 repeat refine kx ?_
 refine ko fun K E hK hE τ d=>?_;go_simp;refine hK _ _ (jt (x:=y3.alloc (.cells #[.int .i64 0] 3)) ?_);simp only [Xs];clear hK hE K E τ d
 repeat refine kx ?_
 refine kst (And.intro (Xa (heap_alloc_new y3 (.cells #[.int .i64 0] 3)) 0) (Xe (heap_alloc_new y3 (.cells #[.int .i64 0] 3)) 0)) ?_;obtain ⟨kbm,obm,sbm⟩:=boxedL y3 (.int .i64 0) (.int .i64 M) 3;generalize (y3.alloc (.cells #[.int .i64 0] 3)).setCell (th y3.heap.size 0) (.int .i64 M)=y4 at kbm obm sbm ⊢;generalize hbm:y3.heap.size=bm at kbm sbm ⊢;replace kbm:=HD kbm;replace obm:=HD obm;replace sbm:=HD sbm;replace hbm:=HD hbm;cases hg:decide ((picks.length:Int)≤4000) with
 | false =>
  repeat refine kx ?_
  refine JG.ret ?_;have ow:=HD (ox3.out.trans obm.out);exact JG.end (hC.out.1) (hC.out.2.1) (fun i hi=>hC.out.2.2.2.1 i) rfl rfl Try.func5 (by kernel_rfl) (fun w _ d=>results_tmp (t:=4) rfl _ _ _) (fun w=>events_results_tmp rfl _ _) (fun w hT hio d=>h.out (w.at d) (hio.trans rfl) (by have:=hT.size;have:=ow.out.1;show x.heap.size≤w.heap.size;omega) (fun r hr=>((hT.old r (by show r < C.lo;rw [hC.out.2.2.2.2];exact hr)).symm.trans (ow.out.2 r hr))))
 | true =>
 clear hg;have f0:=Xa kbm.out 0
 repeat refine kx ?_
 try clear f0
 refine ko fun K E hK hE τ d=>?_;go_simp;refine hK _ _ (jt (x:=y4.alloc (.cells #[.int .i64 0] 2)) ?_);simp only [Xs];clear hK hE K E τ d
 repeat refine kx ?_
 refine kst (And.intro (Xa (heap_alloc_new y4 (.cells #[.int .i64 0] 2)) 0) (Xe (heap_alloc_new y4 (.cells #[.int .i64 0] 2)) 0)) ?_;obtain ⟨kba,oba,sba⟩:=boxedL y4 (.int .i64 0) (.int .i64 T) 2;generalize (y4.alloc (.cells #[.int .i64 0] 2)).setCell (th y4.heap.size 0) (.int .i64 T)=y5 at kba oba sba ⊢;generalize hba:y4.heap.size=ba at kba sba ⊢;replace kba:=HD kba;replace oba:=HD oba;replace sba:=HD sba;replace hba:=HD hba
 repeat refine kx ?_
 refine ko fun K E hK hE τ d=>?_;go_simp;refine hK _ _ (jt (x:=y5.alloc (.cells #[.int .i64 0] 2)) ?_);simp only [Xs];clear hK hE K E τ d
 repeat refine kx ?_
 refine kst (And.intro (Xa (heap_alloc_new y5 (.cells #[.int .i64 0] 2)) 0) (Xe (heap_alloc_new y5 (.cells #[.int .i64 0] 2)) 0)) ?_;obtain ⟨kbo,obo,sbo⟩:=boxedL y5 (.int .i64 0) (.int .i64 0) 2;generalize (y5.alloc (.cells #[.int .i64 0] 2)).setCell (th y5.heap.size 0) (.int .i64 0)=y6 at kbo obo sbo ⊢;generalize hbo:y5.heap.size=bo at kbo sbo ⊢;replace kbo:=HD kbo;replace obo:=HD obo;replace sbo:=HD sbo;replace hbo:=HD hbo
 repeat refine kx ?_
 refine kst (And.intro (Xa kbo.out 0) (Xe kbo.out 0)) ?_;have kbo2:(y6.setCell (th bo 0) (.int .i64 1)).heap[bo]? = some (.cells #[.int .i64 1] 2 (0,0)):=by rw [Xd kbo.out];rfl
 have obo2:Xg y5 (y6.setCell (th bo 0) (.int .i64 1)):=⟨by rw [Xh];exact obo.out.1,fun r hr=>by rw [Xb (by have:=hbo.out;omega)];exact obo.out.2 r hr⟩
 have sbo2:(y6.setCell (th bo 0) (.int .i64 1)).heap.size=bo + 1:=by rw [Xh];exact sbo.out
 generalize y6.setCell (th bo 0) (.int .i64 1)=y7 at kbo2 obo2 sbo2 ⊢;clear kbo obo sbo;have kbo:=HD kbo2;have obo:=HD obo2;have sbo:=HD sbo2;clear kbo2 obo2 sbo2;have lba:y7.cell? (th ba 0)=some (.int .i64 T):=obo.out.cell (Xa kba.out 0);have lbo:y7.cell? (th bo 0)=some (.int .i64 1):=Xa kbo.out 0
 repeat refine kx ?_
 refine kf (args:=#[.int .i64 A]) Try.func20 ?_;refine latchNewI_J hneg fun y8 o8 i8 b8 s8=>?_;rw [Frame.finish_at];walk_nrm;clear lba lbo;generalize hcb:y7.heap.size=cb at i8 b8 s8 ⊢;obtain ⟨lb,hlb⟩:∃ lb,lb=cb + 1:=⟨_,rfl⟩
 rw [← hlb] at b8 ⊢;replace hlb:=HD hlb;replace hcb:=HD hcb;replace o8:=HD o8;replace i8:=HD i8;replace b8:=HD b8;replace s8:=HD s8
 repeat refine kx ?_
 refine ko fun K E hK hE τ d=>?_;go_simp;refine hK _ _ (jt (x:=y8.alloc (.cells #[.pointer none] 52)) ?_);simp only [Xs];clear hK hE K E τ d
 repeat refine kx ?_
 refine kst (And.intro (Xa (heap_alloc_new y8 (.cells #[.pointer none] 52)) 0) (Xe (heap_alloc_new y8 (.cells #[.pointer none] 52)) 0)) ?_;obtain ⟨kbl,obl,sbl⟩:=boxedL y8 (.pointer none) (P0 lb) 52;generalize (y8.alloc (.cells #[.pointer none] 52)).setCell (th y8.heap.size 0) (P0 lb)=y9 at kbl obl sbl ⊢;generalize hbl:y8.heap.size=bl at kbl sbl ⊢;replace kbl:=HD kbl;replace obl:=HD obl;replace sbl:=HD sbl;replace hbl:=HD hbl;have f0:=Xa kbl.out 0
 repeat refine kx ?_
 try clear f0
 refine ko fun K E hK hE τ d=>?_;go_simp;refine hK _ _ (jt (x:=y9.alloc (.cells #[.int .i64 0] 2)) ?_);simp only [Xs];clear hK hE K E τ d
 repeat refine kx ?_
 refine kst (And.intro (Xa (heap_alloc_new y9 (.cells #[.int .i64 0] 2)) 0) (Xe (heap_alloc_new y9 (.cells #[.int .i64 0] 2)) 0)) ?_;obtain ⟨kbd,obd,sbd⟩:=boxedL y9 (.int .i64 0) (.int .i64 0) 2;generalize (y9.alloc (.cells #[.int .i64 0] 2)).setCell (th y9.heap.size 0) (.int .i64 0)=y10 at kbd obd sbd ⊢;generalize hbd:y9.heap.size=bd at kbd sbd ⊢;replace kbd:=HD kbd;replace obd:=HD obd;replace sbd:=HD sbd;replace hbd:=HD hbd
 repeat refine kx ?_
 refine ko fun K E hK hE τ d=>?_;go_simp;refine hK _ _ (jt (x:=y10.alloc (.cells #[.bool false] 4)) ?_);simp only [Xs];clear hK hE K E τ d
 repeat refine kx ?_
 refine kst (And.intro (Xa (heap_alloc_new y10 (.cells #[.bool false] 4)) 0) (Xe (heap_alloc_new y10 (.cells #[.bool false] 4)) 0)) ?_;obtain ⟨kbe,obe,sbe⟩:=boxedL y10 (.bool false) (.bool false) 4;generalize (y10.alloc (.cells #[.bool false] 4)).setCell (th y10.heap.size 0) (.bool false)=y11 at kbe obe sbe ⊢;generalize hbe:y10.heap.size=be at kbe sbe ⊢;replace kbe:=HD kbe;replace obe:=HD obe;replace sbe:=HD sbe;replace hbe:=HD hbe
 repeat refine kx ?_
 refine ko fun K E hK hE τ d=>?_;go_simp;refine hK _ _ (jt (x:=y11.alloc (.cells #[.int .i64 0] 3)) ?_);simp only [Xs];clear hK hE K E τ d
 repeat refine kx ?_
 refine kst (And.intro (Xa (heap_alloc_new y11 (.cells #[.int .i64 0] 3)) 0) (Xe (heap_alloc_new y11 (.cells #[.int .i64 0] 3)) 0)) ?_;obtain ⟨kbw,obw,sbw⟩:=boxedL y11 (.int .i64 0) (.int .i64 0) 3;generalize (y11.alloc (.cells #[.int .i64 0] 3)).setCell (th y11.heap.size 0) (.int .i64 0)=y12 at kbw obw sbw ⊢;generalize hbw:y11.heap.size=bw at kbw sbw ⊢;replace kbw:=HD kbw;replace obw:=HD obw;replace sbw:=HD sbw;replace hbw:=HD hbw;have p11:=obw.out;have p10:=obe.out.trans p11;have p9:=obd.out.trans p10;have p8:=obl.out.trans p9;have p7:=o8.out.trans p8;have p5:=obo.out.trans p7;have p4:=oba.out.trans p5;have p3:=obm.out.trans p4;have px:=ox3.out.trans p3;have krb:=(p3.2 rb (GE b3.out).1).trans b3.out;have wbm:=(p4.2 bm (GE kbm.out).1).trans kbm.out;have wba:=(p5.2 ba (GE kba.out).1).trans kba.out;have wbo:=(p7.2 bo (GE kbo.out).1).trans kbo.out;have wcb:XN y12 cb A:=(p8.2 cb (GE i8.out).1).trans i8.out;have wlb:=(p8.2 lb (GE b8.out).1).trans b8.out;have wbl:=(p9.2 bl (GE kbl.out).1).trans kbl.out;have wbd:=(p10.2 bd (GE kbd.out).1).trans kbd.out;have wbe:=(p11.2 be (GE kbe.out).1).trans kbe.out;have hx3:=ox3.out.1;have hord:x.heap.size≤bm∧bm < ba∧ba < bo∧bo < cb∧cb < lb∧lb < bl∧bl < bd∧bd < be∧be < bw∧bw < y12.heap.size:=by
  have:=hbm.out;have:=sbm.out;have:=hba.out;have:=sba.out;have:=hbo.out;have:=sbo.out;have:=hcb.out;have:=hlb.out;have:=s8.out;have:=hbl.out;have:=sbl.out;have:=hbd.out;have:=sbd.out;have:=hbe.out;have:=sbe.out;have:=hbw.out;have:=sbw.out
  omega
 have hrbx:rb < y12.heap.size:=(GE krb).1;have wbw:=kbw.out;clear p11 p10 p9 p8 p7 p5 p4 p3 hx3 b3 ox3 kbm kba kbo i8 b8 kbl kbd kbe kbw obm oba obo o8 obl obd obe obw hbm hba hbo hcb hlb hbl hbd hbe hbw sbm sba sbo s8 sbl sbd sbe sbw;have hrows:=HD (And.intro krb (And.intro wbm (And.intro wba (And.intro wbo (And.intro wcb (And.intro wlb (And.intro wbl (And.intro wbd (And.intro wbe wbw)))))))));clear krb wbm wba wbo wcb wlb wbl wbd wbe wbw;replace px:=HD px;replace hord:=HD hord;replace hrbx:=HD hrbx;have hloop:=@lb_loop Post C [] y12 bm ba bo bl bd be bw N (by omega);simp only [Try.f5,Option.getD_some,Code.nav] at hloop
 repeat refine kx ?_
 refine JG.loop ?_;refine hloop N 0 (by omega) y12 (.slice none 0 0) _ _ _ _ _ _ _ _ _ _ ⟨Xg.refl _,X7⟩ fun y vB H0 H4 H5 H6 H7 H8 H9 I1 I2 I3 hB=>?_;obtain ⟨krb,wbm,wba,wbo,wcb,wlb,wbl,wbd,wbe,wbw⟩:=hrows.out;have o:=hB.old;obtain ⟨g,capB,rfl,hcells⟩:=Qi hB.row (by omega);have hg1:y12.heap.size≤g:=XE hB.row (by simp [Value.ownBlock]);have hg2:g < y.heap.size:=own_lt hB.row (by simp [Value.ownBlock]);have lt:∀ {r:Nat} {o:Obj},y12.heap[r]? = some o→r < y12.heap.size:=fun e=>(GE e).1;have rbm:=(o.2 bm (lt wbm)).trans wbm;have rba:=(o.2 ba (lt wba)).trans wba;have rbo:=(o.2 bo (lt wbo)).trans wbo;have rcb:XN y cb A:=(o.2 cb (lt wcb)).trans wcb;have rlb:=(o.2 lb (lt wlb)).trans wlb;have rbl:=(o.2 bl (lt wbl)).trans wbl;have rbd:=(o.2 bd (lt wbd)).trans wbd;have rbe:=(o.2 be (lt wbe)).trans wbe;have rbw:=(o.2 bw (lt wbw)).trans wbw;have pl:y.cell? (th rb 2)=some (.slice a picks.length cap):=Xa ((o.2 rb (lt krb)).trans krb) 2;have py:=px.out.trans o;clear hloop hrows krb wbm wba wbo wcb wlb wbl wbd wbe wbw o lt hB px;have hlq:bm < ba∧ba < bo∧bo < cb∧cb < lb∧lb < bl∧bl < bd∧bd < be∧be < bw:=by have:=hord.out;omega
 have hR:=HD (And.intro rbm (And.intro rba (And.intro rbo (And.intro rcb (And.intro rlb (And.intro rbl (And.intro rbd (And.intro rbe rbw))))))));clear rbm rba rbo rcb rlb rbl rbd rbe rbw;replace py:=HD py;replace hcells:=HD hcells;replace hlq:=HD hlq
 repeat refine kx ?_
 refine kf (args:=#[.slice a picks.length cap,.int .i64 16384,.slice (some ⟨g,0,none⟩) (2 * N) capB]) Try.func16 ?_;rw [show 2 * N=(fl (⟨21,#[P0 bm,P0 be,P0 bl,P0 bd],downs 16385 M⟩:Xa8 OSh) ⟨23,#[P0 bl,P0 bd,P0 ba,P0 bo,P0 be,P0 bw],waiter 16385 ((T + 1:Nat):Int)⟩ N).length from (fl_len N).symm];refine run_RO (S:=Lq.side ⟨bm,ba,bo,cb,lb,bl,bd,be,bw,M,T,1,hlq.out⟩) (Kp:=fun r=>r < x.heap.size∨r=g) (picks:=picks) (most:=16384) (m:=16384) (sh:=(⟨false,0,0⟩:OSh)) (cells:=fun _=>((T + 1:Nat):Int)) (by decide) hC.out.2.1 (by have h1:=hC.out.1;have h2:=hC.out.2.2.1;omega) (by have h1:=hC.out.2.2.2.2;have:=py.out.1;omega) (fun i _=>hC.out.2.2.2.1 i) (fun hne=>?_) (fun j b e=>?_) (by rw [fl_len];omega) (fun r hr=>?_) (fun j b e=>?_) ?_ (fun l1 l2 e=>XV.fuel_start l1 _ _ (fun p hp=>?_) (fun j hj=>absurd hj (Nat.not_lt_zero j)))
  (fun Q e C' z Mz vL vW vR vl hQ d1 d2 d3 d4 d5 d6 hz hsz hM' r1 r2 r3 r4 hI hQn hlv hnm=>?_)
 ·obtain ⟨gp,og,q1,q2,q3⟩:=hpo.out hne
  refine ⟨gp,og,q1,.inl q2,fun j q hq=>?_⟩;rw [World.cell?_of_block (py.out.2 gp q2)];exact q3 j q hq
 ·have hj:j < 2 * N:=by have:=(LE' e).1;rw [fl_len] at this;exact this
  rw [fl_get N j hj] at e;have hc:=hcells.out j _ (fl_get N j hj);refine ⟨g,rfl,.inr rfl,?_⟩;obtain rfl:=OI e
  by_cases hp:j % 2=0
  ·rw [if_pos hp] at hc ⊢;exact hc
  ·rw [if_neg hp] at hc ⊢;exact hc
 ·rcases hr with h|rfl
  ·exact Nat.lt_of_lt_of_le h py.out.1
  ·exact hg2
 ·have hj:j < 2 * N:=by have:=(LE' e).1;rw [fl_len] at this;exact this
  rw [fl_get N j hj] at e;obtain rfl:=OI e
  by_cases hp:j % 2=0
  ·rw [if_pos hp];exact downs_b (q:=⟨bm,ba,bo,cb,lb,bl,bd,be,bw,M,T,1,hlq.out⟩) (show M < 1000 by omega)
  ·rw [if_neg hp];exact waiter_b (q:=⟨bm,ba,bo,cb,lb,bl,bd,be,bw,M,T,1,hlq.out⟩) (show T + 1 < 1000 by omega)
 ·obtain ⟨rbm,rba,rbo,rcb,rlb,rbl,rbd,rbe,rbw⟩:=hR.out
  refine ⟨fun i _=>⟨(show XN y cb ((T + 1:Nat):Int) from hA.out ▸ rcb),show ¬ (cb < x.heap.size∨cb=g) by have:=hord.out;omega⟩,show Lq.M ⟨bm,ba,bo,cb,lb,bl,bd,be,bw,M,T,1,hlq.out⟩ ⟨false,0,0⟩ (fun r=>r < x.heap.size∨r=g) y from Lq.M.mk (q:=⟨bm,ba,bo,cb,lb,bl,bd,be,bw,M,T,1,hlq.out⟩) (sh:=⟨false,0,0⟩) rbm rba rbo rlb rbl rbd rbe rbw fun p hp=>?_⟩
  have:=hord.out
  simp only [Lq.rows,List.mem_cons,List.not_mem_nil,or_false] at hp;rcases hp with rfl|rfl|rfl|rfl|rfl|rfl|rfl|rfl<;>simp only<;>omega
 ·have hp2:p∈fl (downs 16385 M) (waiter 16385 ((T + 1:Nat):Int)) N:=by
   have h2:=List.mem_append_left l2 hp;rw [← e,fl_map] at h2;exact h2
  rcases fl_mem hp2 with rfl|rfl
  ·exact downs_fuel _ _ (by decide)
  ·exact waiter_fuel (by decide)
 rw [Frame.finish_at]
 try walk_nrm
 rw [fl_map] at hQ;have key:=latch_opens (n:=N) (m:=M - 1) (more:=1) hN1 hN6 (by omega) (by omega) picks (e:=e) (Q:=Q) (by rw [lpB_fl,show M - 1 + 1=M by omega,← hT0.out];exact hQ);obtain ⟨k1,k2,k3,k4,k5⟩:=key;have k3':Q.st.sh.down=(T:Int):=by rw [k3,show M - 1 + 1=M by omega,← hT0.out]
 obtain ⟨ke,kw,kl⟩:=k5 rfl;subst ke;have zcb:XN z cb 1:=by have:=(hI.1 0 Nat.zero_lt_one).1;rw [k2] at this;exact this
 have hIM:Lq.M ⟨bm,ba,bo,cb,lb,bl,bd,be,bw,M,T,1,hlq.out⟩ Q.st.sh (fun r=>r < x.heap.size∨r=g) z:=hI.2;have zbe:z.cell? (th be 0)=some (.bool false):=by have:=Xa hIM.e.1 0;rw [k1] at this;exact this
 have zbd:z.cell? (th bd 0)=some (.int .i64 T):=by have:=Xa hIM.d.1 0;rw [k3'] at this;exact this
 have zbw:z.cell? (th bw 0)=some (.int .i64 0):=by have:=Xa hIM.w.1 0;rw [kw] at this;exact this
 have zba:z.cell? (th ba 0)=some (.int .i64 T):=Xa hIM.a 0;have zbo:z.cell? (th bo 0)=some (.int .i64 1):=Xa hIM.o 0;have zlb:z.cell? (th lb 0)=some (P0 cb):=Xa hIM.lb 0;have zbl:z.cell? (th bl 0)=some (P0 lb):=Xa hIM.l 0;obtain ⟨aL,cL,rfl⟩:=Xq r1;obtain ⟨aW,cW,rfl⟩:=Xq r2;obtain ⟨aR,cR,rfl⟩:=Xq r3;obtain ⟨al,cl,rfl⟩:=Xq r4;have oz:Xg x z:=⟨Nat.le_trans py.out.1 hsz,fun r hr=>(hz r (.inl hr)).trans (py.out.2 r hr)⟩
 have hzs:bw < z.heap.size:=(GE hIM.w.1).1;clear hQ hI hIM k1 k2 k3 k3' k4 k5 kw r1 r2 r3 r4 hz hsz hM' hQn hlv hnm hcells hR hrbx;replace oz:=HD oz;rw [kl];clear kl;generalize Q.st.log.length=l1;generalize Q.st.went.length=lW;generalize Q.st.ready.length=l2
 repeat refine kx ?_
 refine ko fun K E hK hE τ d=>?_;go_simp;refine hK _ _ (jal fun w2 s4 wn _=>?_);simp only [Xs];clear hK hE K E τ d;generalize hq:z.heap.size=q at wn s4 hzs ⊢;have m0:w2.cell? (th q 0)=some (.int .i8 0):=Xa wn 0;have n0_:w2.frozen? (th q 0)=false:=Xe wn 0;have m1:w2.cell? (th q 1)=some (.int .i64 0):=Xa wn 1;have n1_:w2.frozen? (th q 1)=false:=Xe wn 1;have m2:w2.cell? (th q 2)=some (.slice none 0 0):=Xa wn 2;have n2_:w2.frozen? (th q 2)=false:=Xe wn 2;have m3:w2.cell? (th q 3)=some (.slice none 0 0):=Xa wn 3;have n3_:w2.frozen? (th q 3)=false:=Xe wn 3;have m4:w2.cell? (th q 4)=some (.slice none 0 0):=Xa wn 4;have n4_:w2.frozen? (th q 4)=false:=Xe wn 4;have m5:w2.cell? (th q 5)=some (.slice none 0 0):=Xa wn 5;have n5_:w2.frozen? (th q 5)=false:=Xe wn 5;have m6:w2.cell? (th q 6)=some (.slice none 0 0):=Xa wn 6;have n6_:w2.frozen? (th q 6)=false:=Xe wn 6;replace hzs:=HD hzs;replace hq:=HD hq;refine ko fun K E hK hE τ d=>?_;have m0':=(Xk w2 τ d _).trans m0;have n0':=(Xf w2 τ d _).trans n0_;have m1':=(Xk w2 τ d _).trans m1;have n1':=(Xf w2 τ d _).trans n1_;have m2':=(Xk w2 τ d _).trans m2;have n2':=(Xf w2 τ d _).trans n2_;have m3':=(Xk w2 τ d _).trans m3;have n3':=(Xf w2 τ d _).trans n3_;have m4':=(Xk w2 τ d _).trans m4;have n4':=(Xf w2 τ d _).trans n4_;have m5':=(Xk w2 τ d _).trans m5;have n5':=(Xf w2 τ d _).trans n5_;have m6':=(Xk w2 τ d _).trans m6;have n6':=(Xf w2 τ d _).trans n6_;go_simp;refine hK _ _ ?_;rw [Xc,Xc,Xc,Xc,Xc,Xc,Xc];refine jt ?_;clear m0 n0_ m0' n0' m1 n1_ m1' n1' m2 n2_ m2' n2' m3 n3_ m3' n3' m4 n4_ m4' n4' m5 n5_ m5' n5' m6 n6_ m6' n6' hK hE K E τ d;obtain ⟨v,hv⟩:∃ v,v=(((((((w2.setCell (th q 0) (.int .i8 3)).setCell (th q 1) (.int .i64 lW)).setCell (th q 2) (.slice aL l1 cL)).setCell (th q 3) (.slice aW lW cW)).setCell (th q 4) (.slice aR l2 cR)).setCell (th q 5) (.slice al N cl)).setCell (th q 6) (.slice none 0 0)):=⟨_,rfl⟩
 rw [← hv]
 try walk_nrm
 have hsv:v.heap.size=w2.heap.size:=by rw [hv,Xh,Xh,Xh,Xh,Xh,Xh,Xh]
 have hvo:∀ r,r≠q→v.heap[r]? = w2.heap[r]?:=fun r h=>by
  rw [hv,Xb h,Xb h,Xb h,Xb h,Xb h,Xb h,Xb h]
 have hvn:v.heap[q]? = some (.cells #[.int .i8 3,.int .i64 lW,.slice aL l1 cL,.slice aW lW cW,.slice aR l2 cR,.slice al N cl,.slice none 0 0] 43 (0,0)):=by
  rw [hv];exact Xd (Xd (Xd (Xd (Xd (Xd (Xd wn))))))
 clear hv wn;have hvz:Xg z v:=⟨by rw [hsv];exact s4.1,fun r hr=>(hvo r (by have:=hq.out;omega)).trans (s4.2 r hr)⟩
 have f0:v.cell? (th q 0)=some (.int .i8 3):=Xa hvn 0;have f5:v.cell? (th q 5)=some (.slice al N cl):=Xa hvn 5;have vbe:=hvz.cell zbe;have vbd:=hvz.cell zbd;have vbw:=hvz.cell zbw;have vba:=hvz.cell zba;have vbo:=hvz.cell zbo;have vlb:=hvz.cell zlb;have vbl:=hvz.cell zbl;have vcb:Xr v cb 1:=XN.free ((hvz.2 cb zcb.lt).trans zcb);have ow:=HD (oz.out.trans hvz);clear hvn hvz hvo hsv s4 zbe zbd zbw zba zbo zlb zbl zcb oz hzs hq;replace vcb:=HD vcb
 repeat refine kx ?_
 refine JG.drawCallsG (fun i=>if i=3 then some 0 else none) (fun _=>.int .i64 1) (fun k z=>z=v) 1 (by kernel_rfl) (by kernel_rfl) (by decide) rfl ?_;apply Exists.intro;apply And.intro
 ·intro k hk z' hz
  have hk':k=0∨k=1:=by omega
  rcases hk' with rfl|rfl
  ·rw [show z'=v from hz]
   repeat first|(refine Xw.un (by rfl) (by rfl) ?_;try walk_nrm)|(refine Xw.rd (by rfl) (by rfl) (by rfl) (fun K hK τ d=>?_);go_simp;refine hK _ ?_;clear hK K τ d)|(refine Xw.rd (by rfl) (by rfl) (by rfl) (fun K hK τ d=>?_);have hfact:=uc τ d (vbe);go_simp;refine hK _ ?_;clear hfact hK K τ d)|(refine Xw.rd (by rfl) (by rfl) (by rfl) (fun K hK τ d=>?_);have hfact:=uc τ d (vbl);go_simp;refine hK _ ?_;clear hfact hK K τ d)|(refine Xw.rd (by rfl) (by rfl) (by rfl) (fun K hK τ d=>?_);have hfact:=uc τ d (vbo);go_simp;refine hK _ ?_;clear hfact hK K τ d)|(refine Xw.rd (by rfl) (by rfl) (by rfl) (fun K hK τ d=>?_);have hfact:=uc τ d (vbd);go_simp;refine hK _ ?_;clear hfact hK K τ d)|(refine Xw.rd (by rfl) (by rfl) (by rfl) (fun K hK τ d=>?_);have hfact:=uc τ d (vba);go_simp;refine hK _ ?_;clear hfact hK K τ d)
   refine Xw.cl (by rfl) (by rfl) (fun _=>⟨25,#[P0 lb,.pointer none],fun w=>?_,fun w=>?_,fun c hc=>?_⟩) ?_
   iterate 2 (focus obtain ⟨fn, h1, h2, h3⟩ : Yb 25 := ⟨_, Try.func25, by kernel_rfl, by kernel_rfl⟩; have h4 : ¬ fn.name = "runtime.NumGoroutine" := (by simpa using h2); have h5 : ¬ fn.body = none := (by intro e; rw [e] at h3; cases h3); simp [go_sem, execOp, Act.eval, resolve, Deferred.ofValue, invoke, callFunc, h1, h4, h5])
   ·exact left_J vlb vcb.out (hc _ rfl)
   repeat first|(refine Xw.un (by rfl) (by rfl) ?_;try walk_nrm)|(refine Xw.rd (by rfl) (by rfl) (by rfl) (fun K hK τ d=>?_);go_simp;refine hK _ ?_;clear hK K τ d)|(refine Xw.rd (by rfl) (by rfl) (by rfl) (fun K hK τ d=>?_);have hfact:=uc τ d (vbe);go_simp;refine hK _ ?_;clear hfact hK K τ d)|(refine Xw.rd (by rfl) (by rfl) (by rfl) (fun K hK τ d=>?_);have hfact:=uc τ d (vbl);go_simp;refine hK _ ?_;clear hfact hK K τ d)|(refine Xw.rd (by rfl) (by rfl) (by rfl) (fun K hK τ d=>?_);have hfact:=uc τ d (vbo);go_simp;refine hK _ ?_;clear hfact hK K τ d)|(refine Xw.rd (by rfl) (by rfl) (by rfl) (fun K hK τ d=>?_);have hfact:=uc τ d (vbd);go_simp;refine hK _ ?_;clear hfact hK K τ d)|(refine Xw.rd (by rfl) (by rfl) (by rfl) (fun K hK τ d=>?_);have hfact:=uc τ d (vba);go_simp;refine hK _ ?_;clear hfact hK K τ d)
   exact Xw.nil rfl
  ·rw [show z'=v from hz]
   repeat first|(refine Xw.un (by rfl) (by rfl) ?_;try walk_nrm)|(refine Xw.rd (by rfl) (by rfl) (by rfl) (fun K hK τ d=>?_);go_simp;refine hK _ ?_;clear hK K τ d)|(refine Xw.rd (by rfl) (by rfl) (by rfl) (fun K hK τ d=>?_);have hfact:=uc τ d (vbe);go_simp;refine hK _ ?_;clear hfact hK K τ d)|(refine Xw.rd (by rfl) (by rfl) (by rfl) (fun K hK τ d=>?_);have hfact:=uc τ d (vbl);go_simp;refine hK _ ?_;clear hfact hK K τ d)|(refine Xw.rd (by rfl) (by rfl) (by rfl) (fun K hK τ d=>?_);have hfact:=uc τ d (vbo);go_simp;refine hK _ ?_;clear hfact hK K τ d)|(refine Xw.rd (by rfl) (by rfl) (by rfl) (fun K hK τ d=>?_);have hfact:=uc τ d (vbd);go_simp;refine hK _ ?_;clear hfact hK K τ d)|(refine Xw.rd (by rfl) (by rfl) (by rfl) (fun K hK τ d=>?_);have hfact:=uc τ d (vba);go_simp;refine hK _ ?_;clear hfact hK K τ d)
   refine Xw.cl (by rfl) (by rfl) (fun h=>by cases h) ?_
   repeat first|(refine Xw.un (by rfl) (by rfl) ?_;try walk_nrm)|(refine Xw.rd (by rfl) (by rfl) (by rfl) (fun K hK τ d=>?_);go_simp;refine hK _ ?_;clear hK K τ d)|(refine Xw.rd (by rfl) (by rfl) (by rfl) (fun K hK τ d=>?_);have hfact:=uc τ d (vbe);go_simp;refine hK _ ?_;clear hfact hK K τ d)|(refine Xw.rd (by rfl) (by rfl) (by rfl) (fun K hK τ d=>?_);have hfact:=uc τ d (vbl);go_simp;refine hK _ ?_;clear hfact hK K τ d)|(refine Xw.rd (by rfl) (by rfl) (by rfl) (fun K hK τ d=>?_);have hfact:=uc τ d (vbo);go_simp;refine hK _ ?_;clear hfact hK K τ d)|(refine Xw.rd (by rfl) (by rfl) (by rfl) (fun K hK τ d=>?_);have hfact:=uc τ d (vbd);go_simp;refine hK _ ?_;clear hfact hK K τ d)|(refine Xw.rd (by rfl) (by rfl) (by rfl) (fun K hK τ d=>?_);have hfact:=uc τ d (vba);go_simp;refine hK _ ?_;clear hfact hK K τ d)
   exact Xw.nil rfl
 intro z' hz;rw [show z'=v from hz]
 try walk_nrm
 repeat refine kx ?_
 refine JG.ret ?_;exact JG.end (d2.trans hC.out.1) (d1) (fun i hi=>d6 i (by have:=hC.out.1;omega)) rfl rfl Try.func5 (by kernel_rfl) (fun w _ d=>results_tmp (t:=4) rfl _ _ _) (fun w=>events_results_tmp rfl _ _) (fun w hT hio d=>h.out (w.at d) (hio.trans d5) (by have:=hT.size;have:=ow.out.1;show x.heap.size≤w.heap.size;omega) (fun r hr=>((hT.old r (by show r < C'.lo;rw [d4,hC.out.2.2.2.2];exact hr)).symm.trans (ow.out.2 r hr))))
