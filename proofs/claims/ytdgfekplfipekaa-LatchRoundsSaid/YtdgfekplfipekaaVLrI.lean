/- LatchRounds, whole. -/
import Derived.Test.YtdgfekplfipekaaVLrH
import Derived.Test.YtdgfekplfipekaaVLpH
import Derived.Laws.MakeOwn
set_option linter.all false
set_option maxRecDepth 100000
set_option maxHeartbeats 16000000
namespace Go.Proofs.Ytdgfekplfipekaa
open Go.Conc Go.RowKit
open Go.ConcN (upd upd_same upd_ne)
theorem made_zero (n:Nat):madeCells #[Value.int .i64 0] n=arrF (fun _=>0) n:=by
 rw [← arrF_zero];unfold madeCells;apply Array.ext_getElem?;intro i;rcases Nat.lt_or_ge i n with h|h
 ·simp [h,Nat.mod_one]
 ·simp [Nat.not_lt.2 h]
theorem mk_arr (m:Nat) (hm:m≤8) (w:World):(Instr.makeSlice 22 (.int .i64 (m:Int)) (.int .i64 (m:Int))).run Try.prog w=.ok (.slice (some ⟨w.heap.size,0,none⟩) m m) (w.alloc (.cells (arrF (fun _=>0) m) 3)):=by
 obtain ⟨i,a1,a2,a3,a4⟩:=XM UI;have hbm:(i.bytes:Int) * (m:Int)≤281474976710656:=by rw [a4];omega
 have hr:=run_make (P:=Try.prog) w 22 3 i _ Try.underlying22 a1 a2 .i64 .i64 m m (by omega) (by omega) hbm (by omega);rw [a3,show (Value.int IntKind.i64 0).cells=#[.int .i64 0] by rw [Value.cells.eq_def],Int.toNat_natCast,Nat.mul_one,made_zero] at hr;exact hr
theorem barrierNewI_J {Post:Value→World→Prop} {C:Ctx} {x:World} {c:Frame} {cs:List Frame} {n:Int} (hn:decide (n < 1)=false) (h:∀ y,Xg x y→XN y x.heap.size 0→XN y (x.heap.size + 1) 0→y.heap[x.heap.size + 2]? = some (.cells #[.int .i64 n,P0 x.heap.size,P0 (x.heap.size + 1)] 96 (0,0))→y.heap.size=x.heap.size + 3→JG Try.prog Post C (G (c.finish (.tuple #[P0 (x.heap.size + 2),.int .i64 0])) cs) y) :
 JG Try.prog Post C (G (Frame.enter Try.prog 17 #[.int .i64 n] .normal) (c::cs)) x:=by
 replace h:=HD h;refine Xu Try.func17 (by rfl) (by rfl) ?_;simp only [Try.f17,Option.getD_some];walk_nrm
 repeat refine kx ?_
 refine kf (args:=#[.int .i64 0]) Try.func9 ?_;refine cellNewI_J fun y s1 ic hy=>?_;rw [Frame.finish_at];walk_nrm
 repeat refine kx ?_
 refine kf (args:=#[.int .i64 0]) Try.func9 ?_;refine cellNewI_J fun y1 s2 id1 hy1=>?_;rw [Frame.finish_at];walk_nrm;have ic1:XN y1 x.heap.size 0:=(s2.2 _ (by omega)).trans ic;rw [hy] at id1 hy1 ⊢
 repeat refine kx ?_
 refine ko fun K E hK hE τ d=>?_;go_simp;refine hK _ _ (jt (x:=y1.alloc (.cells #[.int .i64 n,P0 x.heap.size,P0 (x.heap.size + 1)] 96)) ?_);simp only [Xs];clear hK hE K E τ d;have s3:=(Xg.refl y1).alloc (.cells #[.int .i64 n,P0 x.heap.size,P0 (x.heap.size + 1)] 96);have l0:(y1.alloc (.cells #[.int .i64 n,P0 x.heap.size,P0 (x.heap.size + 1)] 96)).heap[y1.heap.size]? = some (.cells #[.int .i64 n,P0 x.heap.size,P0 (x.heap.size + 1)] 96 (0,0)):=heap_alloc_new y1 _;have ic2:XN (y1.alloc (.cells #[.int .i64 n,P0 x.heap.size,P0 (x.heap.size + 1)] 96)) x.heap.size 0:=(s3.2 _ (by omega)).trans ic1;have id2:XN (y1.alloc (.cells #[.int .i64 n,P0 x.heap.size,P0 (x.heap.size + 1)] 96)) (x.heap.size + 1) 0:=(s3.2 _ (by omega)).trans id1;have sz:(y1.alloc (.cells #[.int .i64 n,P0 x.heap.size,P0 (x.heap.size + 1)] 96)).heap.size=x.heap.size + 3:=by simp;omega
 rw [hy1] at l0;have hz:=h.out _ ((s1.trans s2).trans s3) ic2 id2 l0 sz;rw [hy1];generalize y1.alloc (.cells #[.int .i64 n,P0 x.heap.size,P0 (x.heap.size + 1)] 96)=z at hz ⊢;clear h s1 ic s2 id1 ic1 s3 l0 ic2 id2 sz hy hy1;replace hz:=HD hz
 repeat refine kx ?_
 refine JG.ret ?_;exact JG.leave rfl rfl Try.func17 (fun τ d=>results_tmp2 (t:=2) (u:=3) rfl _ _ _) hz.out
section
variable {Post:Value→World→Prop} {C:Ctx} {x:World}
theorem latchRoundsF {t r:Int} {a:Option Addr} {cap:Nat} {picks:List Int} (hC:XgL C x) (h:XgT Post C x) (ht : -9223372036854775808≤t∧t≤9223372036854775807) (hr : -9223372036854775808≤r∧r≤9223372036854775807)
 (hpo:picks≠[]→∃ gp og,a=some ⟨gp,og,none⟩∧gp < x.heap.size∧∀ (j:Nat) (q:Int),picks[j]? = some q→x.cell? ⟨gp,og + j,none⟩=some (.int .i64 q)) :
 JG Try.prog Post C (G (Frame.enter Try.prog 4 #[.agg #[.int .i64 t,.int .i64 r,.slice a picks.length cap],.bool false] .normal) []) x:=by
 obtain ⟨N,hN,hN1,hN6⟩:∃ N:Nat,t % 6 + 1=N∧1≤N∧N≤6:=⟨(t % 6 + 1).toNat,by omega,by omega,by omega⟩
 obtain ⟨M,hM,hM1,hM8⟩:∃ M:Nat,r % 8 + 1=M∧1≤M∧M≤8:=⟨(r % 8 + 1).toNat,by omega,by omega,by omega⟩
 have hmk:=HD (fun W=>mk_arr M hM8 W);have hneg:decide ((N:Int) < 1)=false:=decide_eq_false (by omega);replace hC:=HD hC;replace h:=HD h;replace hpo:=HD hpo;replace hN:=HD hN;replace hM:=HD hM;refine Xu Try.func4 (by rfl) (by rfl) ?_;simp only [Try.f4,Option.getD_some];walk_nrm
 repeat refine kx ?_
 refine ko fun K E hK hE τ d=>?_;go_simp;refine hK _ _ (jt (x:=x.alloc (.cells #[.int .i64 t,.int .i64 r,.slice a picks.length cap] 24)) ?_);simp only [Xs];clear hK hE K E τ d;have o1:=(Xg.refl x).alloc (.cells #[.int .i64 t,.int .i64 r,.slice a picks.length cap] 24);have b1:(x.alloc (.cells #[.int .i64 t,.int .i64 r,.slice a picks.length cap] 24)).heap[x.heap.size]? = some (.cells #[.int .i64 t,.int .i64 r,.slice a picks.length cap] 24 (0,0)):=heap_alloc_new x _;generalize x.alloc (.cells #[.int .i64 t,.int .i64 r,.slice a picks.length cap] 24)=y1 at o1 b1 ⊢;generalize hrb:x.heap.size=rb at b1 ⊢;replace hrb:=HD hrb;replace o1:=HD o1
 repeat refine kx ?_
 refine kf (args:=#[]) Try.func6 ?_;refine works5_J fun y2 o2=>?_;rw [Frame.finish_at];walk_nrm;have b2:=(o2.2 rb (GE b1).1).trans b1;have ox:=o1.out.trans o2;clear o1 o2 b1;have l0:y2.cell? (th rb 0)=some (.int .i64 t):=Xa b2 0;have l1:y2.cell? (th rb 1)=some (.int .i64 r):=Xa b2 1;have l2:y2.cell? (th rb 2)=some (.slice a picks.length cap):=Xa b2 2;replace ox:=HD ox;replace b2:=HD b2
 repeat refine kx ?_
 refine kf (args:=#[.agg #[.int .i64 t,.int .i64 r,.slice a picks.length cap]]) Try.func7 ?_;refine made_J ht hr fun y3 o3=>?_;rw [Frame.finish_at];walk_nrm;rw [hN.out,hM.out];have b3:=(o3.2 rb (GE b2.out).1).trans b2.out;have ox3:=ox.out.trans o3;clear l0 l1 l2 b2 ox o3;replace b3:=HD b3;replace ox3:=HD ox3
 repeat refine kx ?_
 refine ko fun K E hK hE τ d=>?_;go_simp;refine hK _ _ (jal fun y4a obn kbn sbn=>?_);simp only [Xs];clear hK hE K E τ d;generalize hbn:y3.heap.size=bn at kbn sbn ⊢;replace kbn:=HD kbn;replace obn:=HD obn;replace sbn:=HD sbn;replace hbn:=HD hbn
 repeat refine kx ?_
 refine ko fun K E hK hE τ d=>?_;go_simp;refine hK _ _ (jal fun y4b obm kbm sbm=>?_);simp only [Xs];clear hK hE K E τ d;generalize hbm:y4a.heap.size=bm at kbm sbm ⊢;replace kbm:=HD kbm;replace obm:=HD obm;replace sbm:=HD sbm;replace hbm:=HD hbm
 repeat refine kx ?_
 have kbn1:=(obm.out.2 bn (GE kbn.out).1).trans kbn.out;have hlt:bn < bm:=by have:=sbn.out;have:=hbm.out;omega
 replace hlt:=HD hlt;refine kst (And.intro (Xa kbn1 0) (Xe kbn1 0)) ?_;have kbn2:(y4b.setCell (th bn 0) (.int .i64 N)).heap[bn]? = some (.cells #[.int .i64 N] 3 (0,0)):=by rw [Xd kbn1];rfl
 have kbm2:(y4b.setCell (th bn 0) (.int .i64 N)).heap[bm]? = some (.cells #[.int .i64 0] 3 (0,0)):=by rw [Xb (by have:=hlt.out;omega)];exact kbm.out
 have ob2:Xg y3 (y4b.setCell (th bn 0) (.int .i64 N)):=⟨by rw [Xh];exact Nat.le_trans obn.out.1 obm.out.1,fun r hr=>by rw [Xb (by have:=hbn.out;omega)];exact (obm.out.2 r (Nat.lt_of_lt_of_le hr obn.out.1)).trans (obn.out.2 r hr)⟩
 have sb2:(y4b.setCell (th bn 0) (.int .i64 N)).heap.size=bm + 1:=by rw [Xh];exact sbm.out
 generalize y4b.setCell (th bn 0) (.int .i64 N)=y4c at kbn2 kbm2 ob2 sb2 ⊢;clear kbn1 kbn kbm obn obm sbm;replace ob2:=HD ob2;replace sb2:=HD sb2;refine kst (And.intro (Xa kbm2 0) (Xe kbm2 0)) ?_;have kbn:(y4c.setCell (th bm 0) (.int .i64 M)).heap[bn]? = some (.cells #[.int .i64 N] 3 (0,0)):=by rw [Xb (by have:=hlt.out;omega)];exact kbn2
 have kbm:(y4c.setCell (th bm 0) (.int .i64 M)).heap[bm]? = some (.cells #[.int .i64 M] 3 (0,0)):=by rw [Xd kbm2];rfl
 have obm:Xg y3 (y4c.setCell (th bm 0) (.int .i64 M)):=⟨by rw [Xh];exact ob2.out.1,fun r hr=>by rw [Xb (by have:=hbn.out;have:=hlt.out;omega)];exact ob2.out.2 r hr⟩
 have sbm:(y4c.setCell (th bm 0) (.int .i64 M)).heap.size=bm + 1:=by rw [Xh];exact sb2.out
 generalize y4c.setCell (th bm 0) (.int .i64 M)=y4 at kbn kbm obm sbm ⊢;clear kbn2 kbm2 ob2 sb2;replace kbn:=HD kbn;replace kbm:=HD kbm;replace obm:=HD obm;replace sbm:=HD sbm;cases hg:decide ((picks.length:Int)≤4000) with
 | false =>
  repeat refine kx ?_
  refine JG.ret ?_;have ow:=HD (ox3.out.trans obm.out);exact JG.end (hC.out.1) (hC.out.2.1) (fun i hi=>hC.out.2.2.2.1 i) rfl rfl Try.func4 (by kernel_rfl) (fun w _ d=>results_tmp (t:=4) rfl _ _ _) (fun w=>events_results_tmp rfl _ _) (fun w hT hio d=>h.out (w.at d) (hio.trans rfl) (by have:=hT.size;have:=ow.out.1;show x.heap.size≤w.heap.size;omega) (fun r hr=>((hT.old r (by show r < C.lo;rw [hC.out.2.2.2.2];exact hr)).symm.trans (ow.out.2 r hr))))
 | true =>
 clear hg;have lbn:y4.cell? (th bn 0)=some (.int .i64 N):=Xa kbn.out 0
 repeat refine kx ?_
 refine kf (args:=#[.int .i64 N]) Try.func17 ?_;refine barrierNewI_J hneg fun y5 obb ica icc b5 s5=>?_;rw [Frame.finish_at];walk_nrm;clear lbn;generalize hca:y4.heap.size=ca at ica icc b5 s5 ⊢;obtain ⟨cc,hcc⟩:∃ cc,cc=ca + 1:=⟨_,rfl⟩
 obtain ⟨bb,hbb⟩:∃ bb,bb=ca + 2:=⟨_,rfl⟩
 rw [← hcc,← hbb] at b5;rw [← hcc] at icc;rw [← hbb];replace hca:=HD hca;replace hcc:=HD hcc;replace hbb:=HD hbb;replace obb:=HD obb;replace ica:=HD ica;replace icc:=HD icc;replace b5:=HD b5;replace s5:=HD s5
 repeat refine kx ?_
 refine ko fun K E hK hE τ d=>?_;go_simp;refine hK _ _ (jt (x:=y5.alloc (.cells #[.pointer none] 46)) ?_);simp only [Xs];clear hK hE K E τ d
 repeat refine kx ?_
 refine kst (And.intro (Xa (heap_alloc_new y5 (.cells #[.pointer none] 46)) 0) (Xe (heap_alloc_new y5 (.cells #[.pointer none] 46)) 0)) ?_;obtain ⟨kbq,obq,sbq⟩:=boxedL y5 (.pointer none) (P0 bb) 46;generalize (y5.alloc (.cells #[.pointer none] 46)).setCell (th y5.heap.size 0) (P0 bb)=y6 at kbq obq sbq ⊢;generalize hbq:y5.heap.size=bq at kbq sbq ⊢;replace kbq:=HD kbq;replace obq:=HD obq;replace sbq:=HD sbq;replace hbq:=HD hbq;have lbq:y6.cell? (th bq 0)=some (P0 bb):=Xa kbq.out 0;have lbm:y6.cell? (th bm 0)=some (.int .i64 M):=(obb.out.trans obq.out).cell (Xa kbm.out 0)
 repeat refine kx ?_
 have hmk':=hmk.out;refine ko fun K E hK hE τ d=>?_;go_simp;refine hK _ _ (jt (x:=y6.alloc (.cells (arrF (fun _=>0) M) 3)) ?_);simp only [Xs];clear hK hE K E τ d hmk';have kgc:(y6.alloc (.cells (arrF (fun _=>0) M) 3)).heap[y6.heap.size]? = some (.cells (arrF (fun _=>0) M) 3 (0,0)):=heap_alloc_new y6 _;have ogc:=(Xg.refl y6).alloc (.cells (arrF (fun _=>0) M) 3);have sgc:(y6.alloc (.cells (arrF (fun _=>0) M) 3)).heap.size=y6.heap.size + 1:=by simp
 generalize y6.alloc (.cells (arrF (fun _=>0) M) 3)=y7 at kgc ogc sgc ⊢;generalize hgc:y6.heap.size=gc at kgc sgc ⊢;replace kgc:=HD kgc;replace ogc:=HD ogc;replace sgc:=HD sgc;replace hgc:=HD hgc
 repeat refine kx ?_
 refine ko fun K E hK hE τ d=>?_;go_simp;refine hK _ _ (jt (x:=y7.alloc (.cells #[.slice none 0 0] 22)) ?_);simp only [Xs];clear hK hE K E τ d
 repeat refine kx ?_
 refine kst (And.intro (Xa (heap_alloc_new y7 (.cells #[.slice none 0 0] 22)) 0) (Xe (heap_alloc_new y7 (.cells #[.slice none 0 0] 22)) 0)) ?_;obtain ⟨kbc,obc,sbc⟩:=boxedL y7 (.slice none 0 0) (.slice (some ⟨gc,0,none⟩) M M) 22;generalize (y7.alloc (.cells #[.slice none 0 0] 22)).setCell (th y7.heap.size 0) (.slice (some ⟨gc,0,none⟩) M M)=y8 at kbc obc sbc ⊢;generalize hbc:y7.heap.size=bc at kbc sbc ⊢;replace kbc:=HD kbc;replace obc:=HD obc;replace sbc:=HD sbc;replace hbc:=HD hbc;clear lbq lbm;have lbm:y8.cell? (th bm 0)=some (.int .i64 M):=(obb.out.trans (obq.out.trans (ogc.out.trans obc.out))).cell (Xa kbm.out 0)
 repeat refine kx ?_
 have hmk':=hmk.out;refine ko fun K E hK hE τ d=>?_;go_simp;refine hK _ _ (jt (x:=y8.alloc (.cells (arrF (fun _=>0) M) 3)) ?_);simp only [Xs];clear hK hE K E τ d hmk';have kgl:(y8.alloc (.cells (arrF (fun _=>0) M) 3)).heap[y8.heap.size]? = some (.cells (arrF (fun _=>0) M) 3 (0,0)):=heap_alloc_new y8 _;have ogl:=(Xg.refl y8).alloc (.cells (arrF (fun _=>0) M) 3);have sgl:(y8.alloc (.cells (arrF (fun _=>0) M) 3)).heap.size=y8.heap.size + 1:=by simp
 generalize y8.alloc (.cells (arrF (fun _=>0) M) 3)=y9 at kgl ogl sgl ⊢;generalize hgl:y8.heap.size=gl at kgl sgl ⊢;replace kgl:=HD kgl;replace ogl:=HD ogl;replace sgl:=HD sgl;replace hgl:=HD hgl
 repeat refine kx ?_
 refine ko fun K E hK hE τ d=>?_;go_simp;refine hK _ _ (jt (x:=y9.alloc (.cells #[.slice none 0 0] 22)) ?_);simp only [Xs];clear hK hE K E τ d
 repeat refine kx ?_
 refine kst (And.intro (Xa (heap_alloc_new y9 (.cells #[.slice none 0 0] 22)) 0) (Xe (heap_alloc_new y9 (.cells #[.slice none 0 0] 22)) 0)) ?_;obtain ⟨kbl,obl,sbl⟩:=boxedL y9 (.slice none 0 0) (.slice (some ⟨gl,0,none⟩) M M) 22;generalize (y9.alloc (.cells #[.slice none 0 0] 22)).setCell (th y9.heap.size 0) (.slice (some ⟨gl,0,none⟩) M M)=y10 at kbl obl sbl ⊢;generalize hbl:y9.heap.size=bl at kbl sbl ⊢;replace kbl:=HD kbl;replace obl:=HD obl;replace sbl:=HD sbl;replace hbl:=HD hbl;clear lbm
 repeat refine kx ?_
 refine ko fun K E hK hE τ d=>?_;go_simp;refine hK _ _ (jt (x:=y10.alloc (.cells #[.bool false] 4)) ?_);simp only [Xs];clear hK hE K E τ d
 repeat refine kx ?_
 refine kst (And.intro (Xa (heap_alloc_new y10 (.cells #[.bool false] 4)) 0) (Xe (heap_alloc_new y10 (.cells #[.bool false] 4)) 0)) ?_;obtain ⟨kbe,obe,sbe⟩:=boxedL y10 (.bool false) (.bool false) 4;generalize (y10.alloc (.cells #[.bool false] 4)).setCell (th y10.heap.size 0) (.bool false)=y12 at kbe obe sbe ⊢;generalize hbe:y10.heap.size=be at kbe sbe ⊢;replace kbe:=HD kbe;replace obe:=HD obe;replace sbe:=HD sbe;replace hbe:=HD hbe;have p10:=obe.out;have p9:=obl.out.trans p10;have p8:=ogl.out.trans p9;have p7:=obc.out.trans p8;have p6:=ogc.out.trans p7;have p5:=obq.out.trans p6;have p4:=obb.out.trans p5;have p3:=obm.out.trans p4;have px:=ox3.out.trans p3;have lt:∀ {w:World} {r:Nat} {o:Obj},w.heap[r]? = some o→r < w.heap.size:=fun e=>(GE e).1;have krb:=(p3.2 rb (lt b3.out)).trans b3.out;have wbn:=(p4.2 bn (lt kbn.out)).trans kbn.out;have wbm:=(p4.2 bm (lt kbm.out)).trans kbm.out;have wca:XN y12 ca 0:=(p5.2 ca (lt ica.out)).trans ica.out;have wcc:XN y12 cc 0:=(p5.2 cc (lt icc.out)).trans icc.out;have wbb:=(p5.2 bb (lt b5.out)).trans b5.out;have wbq:=(p6.2 bq (lt kbq.out)).trans kbq.out;have wgc:=(p7.2 gc (lt kgc.out)).trans kgc.out;have wbc:=(p8.2 bc (lt kbc.out)).trans kbc.out;have wgl:=(p9.2 gl (lt kgl.out)).trans kgl.out;have wbl:=(p10.2 bl (lt kbl.out)).trans kbl.out;have hx3:=ox3.out.1;have hord:x.heap.size≤bn∧bn < bm∧bm < ca∧ca < cc∧cc < bb∧bb < bq∧bq < gc∧gc < bc∧bc < gl∧gl < bl∧bl < be∧y12.heap.size=be + 1:=by
  have:=hbn.out;have:=hlt.out;have:=sbm.out;have:=hca.out;have:=hcc.out;have:=hbb.out;have:=s5.out;have:=hbq.out;have:=sbq.out;have:=hgc.out;have:=sgc.out;have:=hbc.out;have:=sbc.out;have:=hgl.out;have:=sgl.out;have:=hbl.out;have:=sbl.out;have:=hbe.out;have:=sbe.out
  omega
 have hrbx:rb < y12.heap.size:=lt krb;have wbe:=kbe.out;clear p10 p9 p8 p7 p6 p5 p4 p3 hx3 b3 ox3 kbn kbm ica icc b5 kbq kgc kbc kgl kbl kbe obm obb obq ogc obc ogl obl obe hbn hbm hca hcc hbb hbq hgc hbc hgl hbl hbe sbn sbm s5 sbq sgc sbc sgl sbl sbe hlt;have hrows:=HD (And.intro krb (And.intro wbn (And.intro wbm (And.intro wca (And.intro wcc (And.intro wbb (And.intro wbq (And.intro wgc (And.intro wbc (And.intro wgl (And.intro wbl wbe)))))))))));have lbn:y12.cell? (th bn 0)=some (.int .i64 N):=Xa wbn 0;clear krb wbn wbm wca wcc wbb wbq wgc wbc wgl wbl wbe lt;replace px:=HD px;replace hord:=HD hord;replace hrbx:=HD hrbx;have hloop:=@lr_bodies Post C [] y12 bm bc bq be bn bl N (by omega) lbn;simp only [Try.f4,Option.getD_some,Code.nav] at hloop;clear lbn
 repeat refine kx ?_
 refine JG.loop ?_;refine hloop N 0 (by omega) y12 (.slice none 0 0) _ _ _ _ _ _ _ _ _ ⟨Xg.refl _,X7⟩ fun y vB H5 H6 H7 H8 H9 I1 I2 I3 I4 hB=>?_;obtain ⟨krb,wbn,wbm,wca,wcc,wbb,wbq,wgc,wbc,wgl,wbl,wbe⟩:=hrows.out;have o:=hB.old;obtain ⟨g,capB,rfl,hcells⟩:=Qi hB.row (by omega);have hg1:y12.heap.size≤g:=XE hB.row (by simp [Value.ownBlock]);have hg2:g < y.heap.size:=own_lt hB.row (by simp [Value.ownBlock]);have lt:∀ {r:Nat} {o:Obj},y12.heap[r]? = some o→r < y12.heap.size:=fun e=>(GE e).1;have rbn:=(o.2 bn (lt wbn)).trans wbn;have rbm:=(o.2 bm (lt wbm)).trans wbm;have rca:XN y ca 0:=(o.2 ca (lt wca)).trans wca;have rcc:XN y cc 0:=(o.2 cc (lt wcc)).trans wcc;have rbb:=(o.2 bb (lt wbb)).trans wbb;have rbq:=(o.2 bq (lt wbq)).trans wbq;have rgc:=(o.2 gc (lt wgc)).trans wgc;have rbc:=(o.2 bc (lt wbc)).trans wbc;have rgl:=(o.2 gl (lt wgl)).trans wgl;have rbl:=(o.2 bl (lt wbl)).trans wbl;have rbe:=(o.2 be (lt wbe)).trans wbe;have pl:y.cell? (th rb 2)=some (.slice a picks.length cap):=Xa ((o.2 rb (lt krb)).trans krb) 2;have py:=px.out.trans o;clear hloop hrows krb wbn wbm wca wcc wbb wbq wgc wbc wgl wbl wbe o lt hB px;have hlq:bn < bm∧bm < ca∧ca < cc∧cc < bb∧bb < bq∧bq < gc∧gc < bc∧bc < gl∧gl < bl∧bl < be:=by have:=hord.out;omega
 have hR:=HD (And.intro rbn (And.intro rbm (And.intro rca (And.intro rcc (And.intro rbb (And.intro rbq (And.intro rgc (And.intro rbc (And.intro rgl (And.intro rbl rbe))))))))));clear rbn rbm rca rcc rbb rbq rgc rbc rgl rbl rbe;replace py:=HD py;replace hcells:=HD hcells;replace hlq:=HD hlq
 repeat refine kx ?_
 refine kf (args:=#[.slice a picks.length cap,.int .i64 16384,.slice (some ⟨g,0,none⟩) N capB]) Try.func16 ?_;obtain ⟨Bd,hBd⟩:∃ Bd:Xa8 RSh,Bd=⟨18,#[P0 bm,P0 bc,P0 bq,P0 be,P0 bn,P0 bl],rnds (N:Nat) N M 0⟩:=⟨_,rfl⟩
 obtain ⟨bs,hbs⟩:∃ bs:List (Xa8 RSh),bs=List.replicate N Bd:=⟨_,rfl⟩
 have blen:bs.length=N:=by rw [hbs,List.length_replicate]
 have bget:∀ (j:Nat) (b:Xa8 RSh),bs[j]? = some b→j < N∧b=Bd:=fun j b e=>by
  rw [hbs] at e;have hj:=(LE' e).1;rw [List.length_replicate] at hj;rw [List.getElem?_replicate,if_pos hj] at e;exact ⟨hj,(OI e).symm⟩
 have bprog:bs.map (fun b=>b.prog)=List.replicate N (rnds (N:Nat) N M 0):=by rw [hbs,List.map_replicate,hBd]
 clear hbs;rw [show N=bs.length from blen.symm];refine run_RO (S:=Rq.side ⟨bn,bm,ca,cc,bb,bq,gc,bc,gl,bl,be,N,M,N,hlq.out⟩) (Kp:=fun r=>r < x.heap.size∨r=g) (picks:=picks) (most:=16384) (m:=16384) (sh:=(⟨fun _=>0,fun _=>0,false⟩:RSh)) (cells:=fun _=>0) (by decide) hC.out.2.1 (by have h1:=hC.out.1;have h2:=hC.out.2.2.1;omega) (by have h1:=hC.out.2.2.2.2;have:=py.out.1;omega) (fun i _=>hC.out.2.2.2.1 i) (fun hne=>?_) (fun j b e=>?_) (by omega) (fun r hr=>?_) (fun j b e=>?_) ?_ (fun l1 l2 e=>XV.fuel_start l1 _ _ (fun p hp=>?_) (fun j hj=>absurd hj (Nat.not_lt_zero j)))
  (fun Q e C' z Mz vL vW vR vl hQ d1 d2 d3 d4 d5 d6 hz hsz hM' r1 r2 r3 r4 hI hQn hlv hnm=>?_)
 ·obtain ⟨gp,og,q1,q2,q3⟩:=hpo.out hne
  refine ⟨gp,og,q1,.inl q2,fun j q hq=>?_⟩;rw [World.cell?_of_block (py.out.2 gp q2)];exact q3 j q hq
 ·obtain ⟨hj,rfl⟩:=bget j b e
  have hc:=hcells.out j _ (by rw [List.getElem?_replicate,if_pos hj]);refine ⟨g,rfl,.inr rfl,?_⟩;rw [hBd];exact hc
 ·rcases hr with h|rfl
  ·exact Nat.lt_of_lt_of_le h py.out.1
  ·exact hg2
 ·obtain ⟨hj,rfl⟩:=bget j b e
  rw [hBd];exact rnd_b (q:=⟨bn,bm,ca,cc,bb,bq,gc,bc,gl,bl,be,N,M,N,hlq.out⟩) (show M < 1000 by omega) (show 1≤N by omega)
 ·obtain ⟨rbn,rbm,rca,rcc,rbb,rbq,rgc,rbc,rgl,rbl,rbe⟩:=hR.out
  refine ⟨fun i hi=>?_,show Rq.M_ ⟨bn,bm,ca,cc,bb,bq,gc,bc,gl,bl,be,N,M,N,hlq.out⟩ ⟨fun _=>0,fun _=>0,false⟩ (fun r=>r < x.heap.size∨r=g) y from Rq.M_.mk (q:=⟨bn,bm,ca,cc,bb,bq,gc,bc,gl,bl,be,N,M,N,hlq.out⟩) (sh:=⟨fun _=>0,fun _=>0,false⟩) rbn rbm rbb rbq rgc rbc rgl rbl rbe (fun p hp=>?_)⟩
  ·have hi:i < 2:=hi
   rcases (show i=0∨i=1 by omega) with rfl|rfl
   ·exact ⟨rca,show ¬ (ca < x.heap.size∨ca=g) by have:=hord.out;omega⟩
   ·exact ⟨rcc,show ¬ (cc < x.heap.size∨cc=g) by have:=hord.out;omega⟩
  ·have:=hord.out
   simp only [Rq.rows,List.mem_cons,List.not_mem_nil,or_false] at hp;rcases hp with rfl|rfl|rfl|rfl|rfl|rfl|rfl|rfl|rfl<;>simp only<;>omega
 ·have hp2:p∈List.replicate N (rnds (N:Nat) N M 0):=by
   have h2:=List.mem_append_left l2 hp;rw [← e,bprog] at h2;exact h2
  rw [List.eq_of_mem_replicate hp2];exact rnds_fuel _ _ _
 rw [Frame.finish_at]
 try walk_nrm
 rw [blen];rw [bprog] at hQ;have key:=latch_rounds (n:=N) (m:=M - 1) (B:=N) hN1 hN6 (by omega) (.inl rfl) picks (e:=e) (Q:=Q) (by rw [show M - 1 + 1=M by omega];exact hQ);obtain ⟨k1,k2,k3⟩:=key;have hIM:Rq.M_ ⟨bn,bm,ca,cc,bb,bq,gc,bc,gl,bl,be,N,M,N,hlq.out⟩ Q.st.sh (fun r=>r < x.heap.size∨r=g) z:=hI.2;have zbe:z.cell? (th be 0)=some (.bool false):=by have:=Xa hIM.e.1 0;rw [k1] at this;exact this
 have zbn:z.cell? (th bn 0)=some (.int .i64 N):=Xa hIM.n 0;have zbm:z.cell? (th bm 0)=some (.int .i64 M):=Xa hIM.m 0;have zbl:z.cell? (th bl 0)=some (.slice (some ⟨gl,0,none⟩) M M):=Xa hIM.l 0;have zbc:z.cell? (th bc 0)=some (.slice (some ⟨gc,0,none⟩) M M):=Xa hIM.c 0;obtain ⟨ke,ka⟩:=k2 rfl;have zgl:∀ k,k < M→z.cell? (th gl k)=some (.int .i64 1):=fun k hk=>(Xa hIM.gl.1 k).trans (by rw [arrF_get hk,ka k (by omega)]);subst ke;obtain ⟨aL,cL,rfl⟩:=Xq r1;obtain ⟨aW,cW,rfl⟩:=Xq r2;obtain ⟨aR,cR,rfl⟩:=Xq r3;obtain ⟨al,cl,rfl⟩:=Xq r4;have oz:Xg x z:=⟨Nat.le_trans py.out.1 hsz,fun r hr=>(hz r (.inl hr)).trans (py.out.2 r hr)⟩
 have hzs:be < z.heap.size:=(GE hIM.e.1).1;clear hQ hI hIM k1 k2 k3 r1 r2 r3 r4 hz hsz hM' hQn hlv hnm hcells hR hrbx hlq bget bprog blen pl py hBd;replace oz:=HD oz;clear ka;generalize Q.left.length=l3;generalize Q.st.log.length=l1;generalize Q.st.went.length=lW;generalize Q.st.ready.length=l2;replace hmk:=hmk
 repeat refine kx ?_
 refine ko fun K E hK hE τ d=>?_;go_simp;refine hK _ _ (jal fun w2 s4 wn _=>?_);simp only [Xs];clear hK hE K E τ d;generalize hq:z.heap.size=q at wn s4 hzs ⊢;have m0:w2.cell? (th q 0)=some (.int .i8 0):=Xa wn 0;have n0_:w2.frozen? (th q 0)=false:=Xe wn 0;have m1:w2.cell? (th q 1)=some (.int .i64 0):=Xa wn 1;have n1_:w2.frozen? (th q 1)=false:=Xe wn 1;have m2:w2.cell? (th q 2)=some (.slice none 0 0):=Xa wn 2;have n2_:w2.frozen? (th q 2)=false:=Xe wn 2;have m3:w2.cell? (th q 3)=some (.slice none 0 0):=Xa wn 3;have n3_:w2.frozen? (th q 3)=false:=Xe wn 3;have m4:w2.cell? (th q 4)=some (.slice none 0 0):=Xa wn 4;have n4_:w2.frozen? (th q 4)=false:=Xe wn 4;have m5:w2.cell? (th q 5)=some (.slice none 0 0):=Xa wn 5;have n5_:w2.frozen? (th q 5)=false:=Xe wn 5;have m6:w2.cell? (th q 6)=some (.slice none 0 0):=Xa wn 6;have n6_:w2.frozen? (th q 6)=false:=Xe wn 6;replace hzs:=HD hzs;replace hq:=HD hq;refine ko fun K E hK hE τ d=>?_;have m0':=(Xk w2 τ d _).trans m0;have n0':=(Xf w2 τ d _).trans n0_;have m1':=(Xk w2 τ d _).trans m1;have n1':=(Xf w2 τ d _).trans n1_;have m2':=(Xk w2 τ d _).trans m2;have n2':=(Xf w2 τ d _).trans n2_;have m3':=(Xk w2 τ d _).trans m3;have n3':=(Xf w2 τ d _).trans n3_;have m4':=(Xk w2 τ d _).trans m4;have n4':=(Xf w2 τ d _).trans n4_;have m5':=(Xk w2 τ d _).trans m5;have n5':=(Xf w2 τ d _).trans n5_;have m6':=(Xk w2 τ d _).trans m6;have n6':=(Xf w2 τ d _).trans n6_;go_simp;refine hK _ _ ?_;rw [Xc,Xc,Xc,Xc,Xc,Xc,Xc];refine jt ?_;clear m0 n0_ m0' n0' m1 n1_ m1' n1' m2 n2_ m2' n2' m3 n3_ m3' n3' m4 n4_ m4' n4' m5 n5_ m5' n5' m6 n6_ m6' n6' hK hE K E τ d;obtain ⟨v,hv⟩:∃ v,v=(((((((w2.setCell (th q 0) (.int .i8 1)).setCell (th q 1) (.int .i64 lW)).setCell (th q 2) (.slice aL l1 cL)).setCell (th q 3) (.slice aW lW cW)).setCell (th q 4) (.slice aR l2 cR)).setCell (th q 5) (.slice al l3 cl)).setCell (th q 6) (.slice none 0 0)):=⟨_,rfl⟩
 rw [← hv]
 try walk_nrm
 have hsv:v.heap.size=w2.heap.size:=by rw [hv,Xh,Xh,Xh,Xh,Xh,Xh,Xh]
 have hvo:∀ r,r≠q→v.heap[r]? = w2.heap[r]?:=fun r h=>by
  rw [hv,Xb h,Xb h,Xb h,Xb h,Xb h,Xb h,Xb h]
 have hvn:v.heap[q]? = some (.cells #[.int .i8 1,.int .i64 lW,.slice aL l1 cL,.slice aW lW cW,.slice aR l2 cR,.slice al l3 cl,.slice none 0 0] 43 (0,0)):=by
  rw [hv];exact Xd (Xd (Xd (Xd (Xd (Xd (Xd wn))))))
 clear hv wn;have hvz:Xg z v:=⟨by rw [hsv];exact s4.1,fun r hr=>(hvo r (by have:=hq.out;omega)).trans (s4.2 r hr)⟩
 have f0:v.cell? (th q 0)=some (.int .i8 1):=Xa hvn 0;have f5:v.cell? (th q 5)=some (.slice al l3 cl):=Xa hvn 5;have vbe:=hvz.cell zbe;have vbn:=hvz.cell zbn;have vbm:=hvz.cell zbm;have vbl:=hvz.cell zbl;have vbc:=hvz.cell zbc;have vgl:∀ k,k < M→v.cell? (th gl k)=some (.int .i64 1):=fun k hk=>hvz.cell (zgl k hk);clear zgl;replace vgl:=HD vgl;have ow:=HD (oz.out.trans hvz);clear hvn hvz hvo hsv s4 zbe zbn zbm zbl zbc oz hzs hq;have hlook:=@lr_look Post C' [] bm bl v gl M (by omega) vbm vbl vgl.out;simp only [Try.f4,Option.getD_some,Code.nav] at hlook
 repeat refine kx ?_
 refine JG.loop ?_;refine hlook (fun _ _ _ _ _ _ _ _ _ _=>?_) M 0 (by omega) _ _ _ _ _ _ _ _ _ _;clear hlook
 repeat refine kx ?_
 refine JG.ret ?_;exact JG.end (d2.trans hC.out.1) (d1) (fun i hi=>d6 i (by have:=hC.out.1;omega)) rfl rfl Try.func4 (by kernel_rfl) (fun w _ d=>results_tmp (t:=4) rfl _ _ _) (fun w=>events_results_tmp rfl _ _) (fun w hT hio d=>h.out (w.at d) (hio.trans d5) (by have:=hT.size;have:=ow.out.1;show x.heap.size≤w.heap.size;omega) (fun r hr=>((hT.old r (by show r < C'.lo;rw [d4,hC.out.2.2.2.2];exact hr)).symm.trans (ow.out.2 r hr))))
theorem latchRoundsT {t r:Int} {a:Option Addr} {cap:Nat} {picks:List Int} (hC:XgL C x) (h:XgT Post C x) (ht : -9223372036854775808≤t∧t≤9223372036854775807) (hr : -9223372036854775808≤r∧r≤9223372036854775807)
 (hpo:picks≠[]→∃ gp og,a=some ⟨gp,og,none⟩∧gp < x.heap.size∧∀ (j:Nat) (q:Int),picks[j]? = some q→x.cell? ⟨gp,og + j,none⟩=some (.int .i64 q)) :
 JG Try.prog Post C (G (Frame.enter Try.prog 4 #[.agg #[.int .i64 t,.int .i64 r,.slice a picks.length cap],.bool true] .normal) []) x:=by
 obtain ⟨N,hN,hN1,hN6⟩:∃ N:Nat,t % 6 + 1=N∧1≤N∧N≤6:=⟨(t % 6 + 1).toNat,by omega,by omega,by omega⟩
 obtain ⟨M,hM,hM1,hM8⟩:∃ M:Nat,r % 8 + 1=M∧1≤M∧M≤8:=⟨(r % 8 + 1).toNat,by omega,by omega,by omega⟩
 have hmk:=HD (fun W=>mk_arr M hM8 W);obtain ⟨B,hB⟩:∃ B,B=N + 1:=⟨_,rfl⟩
 have hadd:IntKind.i64.wrap ((N:Int) + 1)=(B:Int):=by rw [IntKind.wrap_i64];omega
 have hneg:decide ((B:Int) < 1)=false:=decide_eq_false (by omega);replace hB:=HD hB;replace hC:=HD hC;replace h:=HD h;replace hpo:=HD hpo;replace hN:=HD hN;replace hM:=HD hM;refine Xu Try.func4 (by rfl) (by rfl) ?_;simp only [Try.f4,Option.getD_some];walk_nrm
 repeat refine kx ?_
 refine ko fun K E hK hE τ d=>?_;go_simp;refine hK _ _ (jt (x:=x.alloc (.cells #[.int .i64 t,.int .i64 r,.slice a picks.length cap] 24)) ?_);simp only [Xs];clear hK hE K E τ d;have o1:=(Xg.refl x).alloc (.cells #[.int .i64 t,.int .i64 r,.slice a picks.length cap] 24);have b1:(x.alloc (.cells #[.int .i64 t,.int .i64 r,.slice a picks.length cap] 24)).heap[x.heap.size]? = some (.cells #[.int .i64 t,.int .i64 r,.slice a picks.length cap] 24 (0,0)):=heap_alloc_new x _;generalize x.alloc (.cells #[.int .i64 t,.int .i64 r,.slice a picks.length cap] 24)=y1 at o1 b1 ⊢;generalize hrb:x.heap.size=rb at b1 ⊢;replace hrb:=HD hrb;replace o1:=HD o1
 repeat refine kx ?_
 refine kf (args:=#[]) Try.func6 ?_;refine works5_J fun y2 o2=>?_;rw [Frame.finish_at];walk_nrm;have b2:=(o2.2 rb (GE b1).1).trans b1;have ox:=o1.out.trans o2;clear o1 o2 b1;have l0:y2.cell? (th rb 0)=some (.int .i64 t):=Xa b2 0;have l1:y2.cell? (th rb 1)=some (.int .i64 r):=Xa b2 1;have l2:y2.cell? (th rb 2)=some (.slice a picks.length cap):=Xa b2 2;replace ox:=HD ox;replace b2:=HD b2
 repeat refine kx ?_
 refine kf (args:=#[.agg #[.int .i64 t,.int .i64 r,.slice a picks.length cap]]) Try.func7 ?_;refine made_J ht hr fun y3 o3=>?_;rw [Frame.finish_at];walk_nrm;rw [hN.out,hM.out];have b3:=(o3.2 rb (GE b2.out).1).trans b2.out;have ox3:=ox.out.trans o3;clear l0 l1 l2 b2 ox o3;replace b3:=HD b3;replace ox3:=HD ox3
 repeat refine kx ?_
 refine ko fun K E hK hE τ d=>?_;go_simp;refine hK _ _ (jal fun y4a obn kbn sbn=>?_);simp only [Xs];clear hK hE K E τ d;generalize hbn:y3.heap.size=bn at kbn sbn ⊢;replace kbn:=HD kbn;replace obn:=HD obn;replace sbn:=HD sbn;replace hbn:=HD hbn
 repeat refine kx ?_
 refine ko fun K E hK hE τ d=>?_;go_simp;refine hK _ _ (jal fun y4b obm kbm sbm=>?_);simp only [Xs];clear hK hE K E τ d;generalize hbm:y4a.heap.size=bm at kbm sbm ⊢;replace kbm:=HD kbm;replace obm:=HD obm;replace sbm:=HD sbm;replace hbm:=HD hbm
 repeat refine kx ?_
 have kbn1:=(obm.out.2 bn (GE kbn.out).1).trans kbn.out;have hlt:bn < bm:=by have:=sbn.out;have:=hbm.out;omega
 replace hlt:=HD hlt;refine kst (And.intro (Xa kbn1 0) (Xe kbn1 0)) ?_;have kbn2:(y4b.setCell (th bn 0) (.int .i64 N)).heap[bn]? = some (.cells #[.int .i64 N] 3 (0,0)):=by rw [Xd kbn1];rfl
 have kbm2:(y4b.setCell (th bn 0) (.int .i64 N)).heap[bm]? = some (.cells #[.int .i64 0] 3 (0,0)):=by rw [Xb (by have:=hlt.out;omega)];exact kbm.out
 have ob2:Xg y3 (y4b.setCell (th bn 0) (.int .i64 N)):=⟨by rw [Xh];exact Nat.le_trans obn.out.1 obm.out.1,fun r hr=>by rw [Xb (by have:=hbn.out;omega)];exact (obm.out.2 r (Nat.lt_of_lt_of_le hr obn.out.1)).trans (obn.out.2 r hr)⟩
 have sb2:(y4b.setCell (th bn 0) (.int .i64 N)).heap.size=bm + 1:=by rw [Xh];exact sbm.out
 generalize y4b.setCell (th bn 0) (.int .i64 N)=y4c at kbn2 kbm2 ob2 sb2 ⊢;clear kbn1 kbn kbm obn obm sbm;replace ob2:=HD ob2;replace sb2:=HD sb2;refine kst (And.intro (Xa kbm2 0) (Xe kbm2 0)) ?_;have kbn:(y4c.setCell (th bm 0) (.int .i64 M)).heap[bn]? = some (.cells #[.int .i64 N] 3 (0,0)):=by rw [Xb (by have:=hlt.out;omega)];exact kbn2
 have kbm:(y4c.setCell (th bm 0) (.int .i64 M)).heap[bm]? = some (.cells #[.int .i64 M] 3 (0,0)):=by rw [Xd kbm2];rfl
 have obm:Xg y3 (y4c.setCell (th bm 0) (.int .i64 M)):=⟨by rw [Xh];exact ob2.out.1,fun r hr=>by rw [Xb (by have:=hbn.out;have:=hlt.out;omega)];exact ob2.out.2 r hr⟩
 have sbm:(y4c.setCell (th bm 0) (.int .i64 M)).heap.size=bm + 1:=by rw [Xh];exact sb2.out
 generalize y4c.setCell (th bm 0) (.int .i64 M)=y4 at kbn kbm obm sbm ⊢;clear kbn2 kbm2 ob2 sb2;replace kbn:=HD kbn;replace kbm:=HD kbm;replace obm:=HD obm;replace sbm:=HD sbm;cases hg:decide ((picks.length:Int)≤4000) with
 | false =>
  repeat refine kx ?_
  refine JG.ret ?_;have ow:=HD (ox3.out.trans obm.out);exact JG.end (hC.out.1) (hC.out.2.1) (fun i hi=>hC.out.2.2.2.1 i) rfl rfl Try.func4 (by kernel_rfl) (fun w _ d=>results_tmp (t:=4) rfl _ _ _) (fun w=>events_results_tmp rfl _ _) (fun w hT hio d=>h.out (w.at d) (hio.trans rfl) (by have:=hT.size;have:=ow.out.1;show x.heap.size≤w.heap.size;omega) (fun r hr=>((hT.old r (by show r < C.lo;rw [hC.out.2.2.2.2];exact hr)).symm.trans (ow.out.2 r hr))))
 | true =>
 clear hg;have lbn:y4.cell? (th bn 0)=some (.int .i64 N):=Xa kbn.out 0
 repeat refine kx ?_
 refine kf (args:=#[.int .i64 B]) Try.func17 ?_;refine barrierNewI_J hneg fun y5 obb ica icc b5 s5=>?_;rw [Frame.finish_at];walk_nrm;clear lbn;generalize hca:y4.heap.size=ca at ica icc b5 s5 ⊢;obtain ⟨cc,hcc⟩:∃ cc,cc=ca + 1:=⟨_,rfl⟩
 obtain ⟨bb,hbb⟩:∃ bb,bb=ca + 2:=⟨_,rfl⟩
 rw [← hcc,← hbb] at b5;rw [← hcc] at icc;rw [← hbb];replace hca:=HD hca;replace hcc:=HD hcc;replace hbb:=HD hbb;replace obb:=HD obb;replace ica:=HD ica;replace icc:=HD icc;replace b5:=HD b5;replace s5:=HD s5
 repeat refine kx ?_
 refine ko fun K E hK hE τ d=>?_;go_simp;refine hK _ _ (jt (x:=y5.alloc (.cells #[.pointer none] 46)) ?_);simp only [Xs];clear hK hE K E τ d
 repeat refine kx ?_
 refine kst (And.intro (Xa (heap_alloc_new y5 (.cells #[.pointer none] 46)) 0) (Xe (heap_alloc_new y5 (.cells #[.pointer none] 46)) 0)) ?_;obtain ⟨kbq,obq,sbq⟩:=boxedL y5 (.pointer none) (P0 bb) 46;generalize (y5.alloc (.cells #[.pointer none] 46)).setCell (th y5.heap.size 0) (P0 bb)=y6 at kbq obq sbq ⊢;generalize hbq:y5.heap.size=bq at kbq sbq ⊢;replace kbq:=HD kbq;replace obq:=HD obq;replace sbq:=HD sbq;replace hbq:=HD hbq;have lbq:y6.cell? (th bq 0)=some (P0 bb):=Xa kbq.out 0;have lbm:y6.cell? (th bm 0)=some (.int .i64 M):=(obb.out.trans obq.out).cell (Xa kbm.out 0)
 repeat refine kx ?_
 have hmk':=hmk.out;refine ko fun K E hK hE τ d=>?_;go_simp;refine hK _ _ (jt (x:=y6.alloc (.cells (arrF (fun _=>0) M) 3)) ?_);simp only [Xs];clear hK hE K E τ d hmk';have kgc:(y6.alloc (.cells (arrF (fun _=>0) M) 3)).heap[y6.heap.size]? = some (.cells (arrF (fun _=>0) M) 3 (0,0)):=heap_alloc_new y6 _;have ogc:=(Xg.refl y6).alloc (.cells (arrF (fun _=>0) M) 3);have sgc:(y6.alloc (.cells (arrF (fun _=>0) M) 3)).heap.size=y6.heap.size + 1:=by simp
 generalize y6.alloc (.cells (arrF (fun _=>0) M) 3)=y7 at kgc ogc sgc ⊢;generalize hgc:y6.heap.size=gc at kgc sgc ⊢;replace kgc:=HD kgc;replace ogc:=HD ogc;replace sgc:=HD sgc;replace hgc:=HD hgc
 repeat refine kx ?_
 refine ko fun K E hK hE τ d=>?_;go_simp;refine hK _ _ (jt (x:=y7.alloc (.cells #[.slice none 0 0] 22)) ?_);simp only [Xs];clear hK hE K E τ d
 repeat refine kx ?_
 refine kst (And.intro (Xa (heap_alloc_new y7 (.cells #[.slice none 0 0] 22)) 0) (Xe (heap_alloc_new y7 (.cells #[.slice none 0 0] 22)) 0)) ?_;obtain ⟨kbc,obc,sbc⟩:=boxedL y7 (.slice none 0 0) (.slice (some ⟨gc,0,none⟩) M M) 22;generalize (y7.alloc (.cells #[.slice none 0 0] 22)).setCell (th y7.heap.size 0) (.slice (some ⟨gc,0,none⟩) M M)=y8 at kbc obc sbc ⊢;generalize hbc:y7.heap.size=bc at kbc sbc ⊢;replace kbc:=HD kbc;replace obc:=HD obc;replace sbc:=HD sbc;replace hbc:=HD hbc;clear lbq lbm;have lbm:y8.cell? (th bm 0)=some (.int .i64 M):=(obb.out.trans (obq.out.trans (ogc.out.trans obc.out))).cell (Xa kbm.out 0)
 repeat refine kx ?_
 have hmk':=hmk.out;refine ko fun K E hK hE τ d=>?_;go_simp;refine hK _ _ (jt (x:=y8.alloc (.cells (arrF (fun _=>0) M) 3)) ?_);simp only [Xs];clear hK hE K E τ d hmk';have kgl:(y8.alloc (.cells (arrF (fun _=>0) M) 3)).heap[y8.heap.size]? = some (.cells (arrF (fun _=>0) M) 3 (0,0)):=heap_alloc_new y8 _;have ogl:=(Xg.refl y8).alloc (.cells (arrF (fun _=>0) M) 3);have sgl:(y8.alloc (.cells (arrF (fun _=>0) M) 3)).heap.size=y8.heap.size + 1:=by simp
 generalize y8.alloc (.cells (arrF (fun _=>0) M) 3)=y9 at kgl ogl sgl ⊢;generalize hgl:y8.heap.size=gl at kgl sgl ⊢;replace kgl:=HD kgl;replace ogl:=HD ogl;replace sgl:=HD sgl;replace hgl:=HD hgl
 repeat refine kx ?_
 refine ko fun K E hK hE τ d=>?_;go_simp;refine hK _ _ (jt (x:=y9.alloc (.cells #[.slice none 0 0] 22)) ?_);simp only [Xs];clear hK hE K E τ d
 repeat refine kx ?_
 refine kst (And.intro (Xa (heap_alloc_new y9 (.cells #[.slice none 0 0] 22)) 0) (Xe (heap_alloc_new y9 (.cells #[.slice none 0 0] 22)) 0)) ?_;obtain ⟨kbl,obl,sbl⟩:=boxedL y9 (.slice none 0 0) (.slice (some ⟨gl,0,none⟩) M M) 22;generalize (y9.alloc (.cells #[.slice none 0 0] 22)).setCell (th y9.heap.size 0) (.slice (some ⟨gl,0,none⟩) M M)=y10 at kbl obl sbl ⊢;generalize hbl:y9.heap.size=bl at kbl sbl ⊢;replace kbl:=HD kbl;replace obl:=HD obl;replace sbl:=HD sbl;replace hbl:=HD hbl;clear lbm
 repeat refine kx ?_
 refine ko fun K E hK hE τ d=>?_;go_simp;refine hK _ _ (jt (x:=y10.alloc (.cells #[.bool false] 4)) ?_);simp only [Xs];clear hK hE K E τ d
 repeat refine kx ?_
 refine kst (And.intro (Xa (heap_alloc_new y10 (.cells #[.bool false] 4)) 0) (Xe (heap_alloc_new y10 (.cells #[.bool false] 4)) 0)) ?_;obtain ⟨kbe,obe,sbe⟩:=boxedL y10 (.bool false) (.bool false) 4;generalize (y10.alloc (.cells #[.bool false] 4)).setCell (th y10.heap.size 0) (.bool false)=y12 at kbe obe sbe ⊢;generalize hbe:y10.heap.size=be at kbe sbe ⊢;replace kbe:=HD kbe;replace obe:=HD obe;replace sbe:=HD sbe;replace hbe:=HD hbe;have p10:=obe.out;have p9:=obl.out.trans p10;have p8:=ogl.out.trans p9;have p7:=obc.out.trans p8;have p6:=ogc.out.trans p7;have p5:=obq.out.trans p6;have p4:=obb.out.trans p5;have p3:=obm.out.trans p4;have px:=ox3.out.trans p3;have lt:∀ {w:World} {r:Nat} {o:Obj},w.heap[r]? = some o→r < w.heap.size:=fun e=>(GE e).1;have krb:=(p3.2 rb (lt b3.out)).trans b3.out;have wbn:=(p4.2 bn (lt kbn.out)).trans kbn.out;have wbm:=(p4.2 bm (lt kbm.out)).trans kbm.out;have wca:XN y12 ca 0:=(p5.2 ca (lt ica.out)).trans ica.out;have wcc:XN y12 cc 0:=(p5.2 cc (lt icc.out)).trans icc.out;have wbb:=(p5.2 bb (lt b5.out)).trans b5.out;have wbq:=(p6.2 bq (lt kbq.out)).trans kbq.out;have wgc:=(p7.2 gc (lt kgc.out)).trans kgc.out;have wbc:=(p8.2 bc (lt kbc.out)).trans kbc.out;have wgl:=(p9.2 gl (lt kgl.out)).trans kgl.out;have wbl:=(p10.2 bl (lt kbl.out)).trans kbl.out;have hx3:=ox3.out.1;have hord:x.heap.size≤bn∧bn < bm∧bm < ca∧ca < cc∧cc < bb∧bb < bq∧bq < gc∧gc < bc∧bc < gl∧gl < bl∧bl < be∧y12.heap.size=be + 1:=by
  have:=hbn.out;have:=hlt.out;have:=sbm.out;have:=hca.out;have:=hcc.out;have:=hbb.out;have:=s5.out;have:=hbq.out;have:=sbq.out;have:=hgc.out;have:=sgc.out;have:=hbc.out;have:=sbc.out;have:=hgl.out;have:=sgl.out;have:=hbl.out;have:=sbl.out;have:=hbe.out;have:=sbe.out
  omega
 have hrbx:rb < y12.heap.size:=lt krb;have wbe:=kbe.out;clear p10 p9 p8 p7 p6 p5 p4 p3 hx3 b3 ox3 kbn kbm ica icc b5 kbq kgc kbc kgl kbl kbe obm obb obq ogc obc ogl obl obe hbn hbm hca hcc hbb hbq hgc hbc hgl hbl hbe sbn sbm s5 sbq sgc sbc sgl sbl sbe hlt;have hrows:=HD (And.intro krb (And.intro wbn (And.intro wbm (And.intro wca (And.intro wcc (And.intro wbb (And.intro wbq (And.intro wgc (And.intro wbc (And.intro wgl (And.intro wbl wbe)))))))))));have lbn:y12.cell? (th bn 0)=some (.int .i64 N):=Xa wbn 0;clear krb wbn wbm wca wcc wbb wbq wgc wbc wgl wbl wbe lt;replace px:=HD px;replace hord:=HD hord;replace hrbx:=HD hrbx;have hloop:=@lr_bodies Post C [] y12 bm bc bq be bn bl N (by omega) lbn;simp only [Try.f4,Option.getD_some,Code.nav] at hloop;clear lbn
 repeat refine kx ?_
 refine JG.loop ?_;refine hloop N 0 (by omega) y12 (.slice none 0 0) _ _ _ _ _ _ _ _ _ ⟨Xg.refl _,X7⟩ fun y vB H5 H6 H7 H8 H9 I1 I2 I3 I4 hB=>?_;obtain ⟨krb,wbn,wbm,wca,wcc,wbb,wbq,wgc,wbc,wgl,wbl,wbe⟩:=hrows.out;have o:=hB.old;obtain ⟨g,capB,rfl,hcells⟩:=Qi hB.row (by omega);have hg1:y12.heap.size≤g:=XE hB.row (by simp [Value.ownBlock]);have hg2:g < y.heap.size:=own_lt hB.row (by simp [Value.ownBlock]);have lt:∀ {r:Nat} {o:Obj},y12.heap[r]? = some o→r < y12.heap.size:=fun e=>(GE e).1;have rbn:=(o.2 bn (lt wbn)).trans wbn;have rbm:=(o.2 bm (lt wbm)).trans wbm;have rca:XN y ca 0:=(o.2 ca (lt wca)).trans wca;have rcc:XN y cc 0:=(o.2 cc (lt wcc)).trans wcc;have rbb:=(o.2 bb (lt wbb)).trans wbb;have rbq:=(o.2 bq (lt wbq)).trans wbq;have rgc:=(o.2 gc (lt wgc)).trans wgc;have rbc:=(o.2 bc (lt wbc)).trans wbc;have rgl:=(o.2 gl (lt wgl)).trans wgl;have rbl:=(o.2 bl (lt wbl)).trans wbl;have rbe:=(o.2 be (lt wbe)).trans wbe;have pl:y.cell? (th rb 2)=some (.slice a picks.length cap):=Xa ((o.2 rb (lt krb)).trans krb) 2;have py:=px.out.trans o;clear hloop hrows krb wbn wbm wca wcc wbb wbq wgc wbc wgl wbl wbe o lt hB px;have hlq:bn < bm∧bm < ca∧ca < cc∧cc < bb∧bb < bq∧bq < gc∧gc < bc∧bc < gl∧gl < bl∧bl < be:=by have:=hord.out;omega
 have hR:=HD (And.intro rbn (And.intro rbm (And.intro rca (And.intro rcc (And.intro rbb (And.intro rbq (And.intro rgc (And.intro rbc (And.intro rgl (And.intro rbl rbe))))))))));clear rbn rbm rca rcc rbb rbq rgc rbc rgl rbl rbe;replace py:=HD py;replace hcells:=HD hcells;replace hlq:=HD hlq
 repeat refine kx ?_
 refine kf (args:=#[.slice a picks.length cap,.int .i64 16384,.slice (some ⟨g,0,none⟩) N capB]) Try.func16 ?_;obtain ⟨Bd,hBd⟩:∃ Bd:Xa8 RSh,Bd=⟨18,#[P0 bm,P0 bc,P0 bq,P0 be,P0 bn,P0 bl],rnds (B:Nat) N M 0⟩:=⟨_,rfl⟩
 obtain ⟨bs,hbs⟩:∃ bs:List (Xa8 RSh),bs=List.replicate N Bd:=⟨_,rfl⟩
 have blen:bs.length=N:=by rw [hbs,List.length_replicate]
 have bget:∀ (j:Nat) (b:Xa8 RSh),bs[j]? = some b→j < N∧b=Bd:=fun j b e=>by
  rw [hbs] at e;have hj:=(LE' e).1;rw [List.length_replicate] at hj;rw [List.getElem?_replicate,if_pos hj] at e;exact ⟨hj,(OI e).symm⟩
 have bprog:bs.map (fun b=>b.prog)=List.replicate N (rnds (B:Nat) N M 0):=by rw [hbs,List.map_replicate,hBd]
 clear hbs;rw [show N=bs.length from blen.symm];refine run_RO (S:=Rq.side ⟨bn,bm,ca,cc,bb,bq,gc,bc,gl,bl,be,N,M,B,hlq.out⟩) (Kp:=fun r=>r < x.heap.size∨r=g) (picks:=picks) (most:=16384) (m:=16384) (sh:=(⟨fun _=>0,fun _=>0,false⟩:RSh)) (cells:=fun _=>0) (by decide) hC.out.2.1 (by have h1:=hC.out.1;have h2:=hC.out.2.2.1;omega) (by have h1:=hC.out.2.2.2.2;have:=py.out.1;omega) (fun i _=>hC.out.2.2.2.1 i) (fun hne=>?_) (fun j b e=>?_) (by omega) (fun r hr=>?_) (fun j b e=>?_) ?_ (fun l1 l2 e=>XV.fuel_start l1 _ _ (fun p hp=>?_) (fun j hj=>absurd hj (Nat.not_lt_zero j)))
  (fun Q e C' z Mz vL vW vR vl hQ d1 d2 d3 d4 d5 d6 hz hsz hM' r1 r2 r3 r4 hI hQn hlv hnm=>?_)
 ·obtain ⟨gp,og,q1,q2,q3⟩:=hpo.out hne
  refine ⟨gp,og,q1,.inl q2,fun j q hq=>?_⟩;rw [World.cell?_of_block (py.out.2 gp q2)];exact q3 j q hq
 ·obtain ⟨hj,rfl⟩:=bget j b e
  have hc:=hcells.out j _ (by rw [List.getElem?_replicate,if_pos hj]);refine ⟨g,rfl,.inr rfl,?_⟩;rw [hBd];exact hc
 ·rcases hr with h|rfl
  ·exact Nat.lt_of_lt_of_le h py.out.1
  ·exact hg2
 ·obtain ⟨hj,rfl⟩:=bget j b e
  rw [hBd];exact rnd_b (q:=⟨bn,bm,ca,cc,bb,bq,gc,bc,gl,bl,be,N,M,B,hlq.out⟩) (show M < 1000 by omega) (show 1≤B by have:=hB.out;omega)
 ·obtain ⟨rbn,rbm,rca,rcc,rbb,rbq,rgc,rbc,rgl,rbl,rbe⟩:=hR.out
  refine ⟨fun i hi=>?_,show Rq.M_ ⟨bn,bm,ca,cc,bb,bq,gc,bc,gl,bl,be,N,M,B,hlq.out⟩ ⟨fun _=>0,fun _=>0,false⟩ (fun r=>r < x.heap.size∨r=g) y from Rq.M_.mk (q:=⟨bn,bm,ca,cc,bb,bq,gc,bc,gl,bl,be,N,M,B,hlq.out⟩) (sh:=⟨fun _=>0,fun _=>0,false⟩) rbn rbm rbb rbq rgc rbc rgl rbl rbe (fun p hp=>?_)⟩
  ·have hi:i < 2:=hi
   rcases (show i=0∨i=1 by omega) with rfl|rfl
   ·exact ⟨rca,show ¬ (ca < x.heap.size∨ca=g) by have:=hord.out;omega⟩
   ·exact ⟨rcc,show ¬ (cc < x.heap.size∨cc=g) by have:=hord.out;omega⟩
  ·have:=hord.out
   simp only [Rq.rows,List.mem_cons,List.not_mem_nil,or_false] at hp;rcases hp with rfl|rfl|rfl|rfl|rfl|rfl|rfl|rfl|rfl<;>simp only<;>omega
 ·have hp2:p∈List.replicate N (rnds (B:Nat) N M 0):=by
   have h2:=List.mem_append_left l2 hp;rw [← e,bprog] at h2;exact h2
  rw [List.eq_of_mem_replicate hp2];exact rnds_fuel _ _ _
 rw [Frame.finish_at]
 try walk_nrm
 rw [blen];rw [bprog] at hQ;have key:=latch_rounds (n:=N) (m:=M - 1) (B:=B) hN1 hN6 (by omega) (.inr hB.out) picks (e:=e) (Q:=Q) (by rw [show M - 1 + 1=M by omega];exact hQ);obtain ⟨k1,k2,k3⟩:=key;have hIM:Rq.M_ ⟨bn,bm,ca,cc,bb,bq,gc,bc,gl,bl,be,N,M,B,hlq.out⟩ Q.st.sh (fun r=>r < x.heap.size∨r=g) z:=hI.2;have zbe:z.cell? (th be 0)=some (.bool false):=by have:=Xa hIM.e.1 0;rw [k1] at this;exact this
 have zbn:z.cell? (th bn 0)=some (.int .i64 N):=Xa hIM.n 0;have zbm:z.cell? (th bm 0)=some (.int .i64 M):=Xa hIM.m 0;have zbl:z.cell? (th bl 0)=some (.slice (some ⟨gl,0,none⟩) M M):=Xa hIM.l 0;have zbc:z.cell? (th bc 0)=some (.slice (some ⟨gc,0,none⟩) M M):=Xa hIM.c 0;obtain ⟨ke,kl,kc,ka⟩:=k3 hB.out;have zgc:z.cell? (th gc 0)=some (.int .i64 N):=(Xa hIM.gc.1 0).trans (by rw [arrF_get (show 0 < M by omega),kc]);have zgl:z.cell? (th gl 0)=some (.int .i64 0):=(Xa hIM.gl.1 0).trans (by rw [arrF_get (show 0 < M by omega),ka]);subst ke;obtain ⟨aL,cL,rfl⟩:=Xq r1;obtain ⟨aW,cW,rfl⟩:=Xq r2;obtain ⟨aR,cR,rfl⟩:=Xq r3;obtain ⟨al,cl,rfl⟩:=Xq r4;have oz:Xg x z:=⟨Nat.le_trans py.out.1 hsz,fun r hr=>(hz r (.inl hr)).trans (py.out.2 r hr)⟩
 have hzs:be < z.heap.size:=(GE hIM.e.1).1;clear hQ hI hIM k1 k2 k3 r1 r2 r3 r4 hz hsz hM' hQn hlv hnm hcells hR hrbx hlq bget bprog blen pl py hBd;replace oz:=HD oz;clear ka kc;rw [kl];clear kl;generalize Q.st.log.length=l1;generalize Q.st.went.length=lW;generalize Q.st.ready.length=l2;replace hmk:=hmk
 repeat refine kx ?_
 refine ko fun K E hK hE τ d=>?_;go_simp;refine hK _ _ (jal fun w2 s4 wn _=>?_);simp only [Xs];clear hK hE K E τ d;generalize hq:z.heap.size=q at wn s4 hzs ⊢;have m0:w2.cell? (th q 0)=some (.int .i8 0):=Xa wn 0;have n0_:w2.frozen? (th q 0)=false:=Xe wn 0;have m1:w2.cell? (th q 1)=some (.int .i64 0):=Xa wn 1;have n1_:w2.frozen? (th q 1)=false:=Xe wn 1;have m2:w2.cell? (th q 2)=some (.slice none 0 0):=Xa wn 2;have n2_:w2.frozen? (th q 2)=false:=Xe wn 2;have m3:w2.cell? (th q 3)=some (.slice none 0 0):=Xa wn 3;have n3_:w2.frozen? (th q 3)=false:=Xe wn 3;have m4:w2.cell? (th q 4)=some (.slice none 0 0):=Xa wn 4;have n4_:w2.frozen? (th q 4)=false:=Xe wn 4;have m5:w2.cell? (th q 5)=some (.slice none 0 0):=Xa wn 5;have n5_:w2.frozen? (th q 5)=false:=Xe wn 5;have m6:w2.cell? (th q 6)=some (.slice none 0 0):=Xa wn 6;have n6_:w2.frozen? (th q 6)=false:=Xe wn 6;replace hzs:=HD hzs;replace hq:=HD hq;refine ko fun K E hK hE τ d=>?_;have m0':=(Xk w2 τ d _).trans m0;have n0':=(Xf w2 τ d _).trans n0_;have m1':=(Xk w2 τ d _).trans m1;have n1':=(Xf w2 τ d _).trans n1_;have m2':=(Xk w2 τ d _).trans m2;have n2':=(Xf w2 τ d _).trans n2_;have m3':=(Xk w2 τ d _).trans m3;have n3':=(Xf w2 τ d _).trans n3_;have m4':=(Xk w2 τ d _).trans m4;have n4':=(Xf w2 τ d _).trans n4_;have m5':=(Xk w2 τ d _).trans m5;have n5':=(Xf w2 τ d _).trans n5_;have m6':=(Xk w2 τ d _).trans m6;have n6':=(Xf w2 τ d _).trans n6_;go_simp;refine hK _ _ ?_;rw [Xc,Xc,Xc,Xc,Xc,Xc,Xc];refine jt ?_;clear m0 n0_ m0' n0' m1 n1_ m1' n1' m2 n2_ m2' n2' m3 n3_ m3' n3' m4 n4_ m4' n4' m5 n5_ m5' n5' m6 n6_ m6' n6' hK hE K E τ d;obtain ⟨v,hv⟩:∃ v,v=(((((((w2.setCell (th q 0) (.int .i8 3)).setCell (th q 1) (.int .i64 lW)).setCell (th q 2) (.slice aL l1 cL)).setCell (th q 3) (.slice aW lW cW)).setCell (th q 4) (.slice aR l2 cR)).setCell (th q 5) (.slice al N cl)).setCell (th q 6) (.slice none 0 0)):=⟨_,rfl⟩
 rw [← hv]
 try walk_nrm
 have hsv:v.heap.size=w2.heap.size:=by rw [hv,Xh,Xh,Xh,Xh,Xh,Xh,Xh]
 have hvo:∀ r,r≠q→v.heap[r]? = w2.heap[r]?:=fun r h=>by
  rw [hv,Xb h,Xb h,Xb h,Xb h,Xb h,Xb h,Xb h]
 have hvn:v.heap[q]? = some (.cells #[.int .i8 3,.int .i64 lW,.slice aL l1 cL,.slice aW lW cW,.slice aR l2 cR,.slice al N cl,.slice none 0 0] 43 (0,0)):=by
  rw [hv];exact Xd (Xd (Xd (Xd (Xd (Xd (Xd wn))))))
 clear hv wn;have hvz:Xg z v:=⟨by rw [hsv];exact s4.1,fun r hr=>(hvo r (by have:=hq.out;omega)).trans (s4.2 r hr)⟩
 have f0:v.cell? (th q 0)=some (.int .i8 3):=Xa hvn 0;have f5:v.cell? (th q 5)=some (.slice al N cl):=Xa hvn 5;have vbe:=hvz.cell zbe;have vbn:=hvz.cell zbn;have vbm:=hvz.cell zbm;have vbl:=hvz.cell zbl;have vbc:=hvz.cell zbc;have vgc:=hvz.cell zgc;have vgl:=hvz.cell zgl;clear zgc zgl;have ow:=HD (oz.out.trans hvz);clear hvn hvz hvo hsv s4 zbe zbn zbm zbl zbc oz hzs hq;have hxM:decide ((0:Int) < (M:Int))=true:=by simp;omega
 have hxM0:0 < M:=by omega
 repeat refine kx ?_
 refine JG.drawCallsG (fun _=>none) (fun _=>undef) (fun _ z'=>z'=v) 0 (by kernel_rfl) (by kernel_rfl) (by decide) rfl ?_;apply Exists.intro;apply And.intro
 ·intro k hk z' hz
  rw [show z'=v from hz]
  repeat first|(refine Xw.un (by rfl) (by rfl) ?_;try walk_nrm)|(refine Xw.rd (by rfl) (by rfl) (by rfl) (fun K hK τ d=>?_);go_simp;refine hK _ ?_;clear hK K τ d)|(refine Xw.rd (by rfl) (by rfl) (by rfl) (fun K hK τ d=>?_);have hfact:=uc τ d (f0);go_simp;refine hK _ ?_;clear hfact hK K τ d)|(refine Xw.rd (by rfl) (by rfl) (by rfl) (fun K hK τ d=>?_);have hfact:=uc τ d (f5);go_simp;refine hK _ ?_;clear hfact hK K τ d)|(refine Xw.rd (by rfl) (by rfl) (by rfl) (fun K hK τ d=>?_);have hfact:=uc τ d (vbn);go_simp;refine hK _ ?_;clear hfact hK K τ d)|(refine Xw.rd (by rfl) (by rfl) (by rfl) (fun K hK τ d=>?_);have hfact:=uc τ d (vbl);go_simp;refine hK _ ?_;clear hfact hK K τ d)|(refine Xw.rd (by rfl) (by rfl) (by rfl) (fun K hK τ d=>?_);have hfact:=uc τ d (vbc);go_simp;refine hK _ ?_;clear hfact hK K τ d)|(refine Xw.rd (by rfl) (by rfl) (by rfl) (fun K hK τ d=>?_);have hfact:=uc τ d (vgc);go_simp;refine hK _ ?_;clear hfact hK K τ d)|(refine Xw.rd (by rfl) (by rfl) (by rfl) (fun K hK τ d=>?_);have hfact:=uc τ d (vgl);go_simp;refine hK _ ?_;clear hfact hK K τ d)
  exact Xw.nil rfl
 intro z' hz;rw [show z'=v from hz]
 try walk_nrm
 repeat refine kx ?_
 refine JG.ret ?_;exact JG.end (d2.trans hC.out.1) (d1) (fun i hi=>d6 i (by have:=hC.out.1;omega)) rfl rfl Try.func4 (by kernel_rfl) (fun w _ d=>results_tmp (t:=4) rfl _ _ _) (fun w=>events_results_tmp rfl _ _) (fun w hT hio d=>h.out (w.at d) (hio.trans d5) (by have:=hT.size;have:=ow.out.1;show x.heap.size≤w.heap.size;omega) (fun r hr=>((hT.old r (by show r < C'.lo;rw [d4,hC.out.2.2.2.2];exact hr)).symm.trans (ow.out.2 r hr))))
