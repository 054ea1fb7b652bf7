/- treadleref01.Place and law 5's Room.made under J. -/
import Derived.Test.YtdgfekplfipekaaVRnT
import Derived.Test.YtdgfekplfipekaaVLbA
set_option linter.all false
set_option maxRecDepth 100000
set_option maxHeartbeats 16000000
namespace Go.Proofs.Ytdgfekplfipekaa
open Go.Conc Go.RowKit
open Go.ConcN (upd upd_same upd_ne)
set_option maxRecDepth 100000
theorem XbI:∀ (all:List Thr) (can:Nat→Bool) (f:Nat→Nat) (off:Nat),(∀ (j:Nat) (t:Thr),all[j]? = some t→t.may=can (off + j)∧t.tb=f (off + j))→Yx all=((List.range' off all.length).filter can).map fun i=>P0 (f i):=by
 intro all
 induction all with
 | nil=>intros;rfl
 | cons t l ih =>
  intro can f off h;obtain ⟨h1,h2⟩:=h 0 t rfl;have hi:=ih can f (off + 1) (fun j u e=>by
   have:=h (j + 1) u (by simpa using e)
   rw [show off + (j + 1)=off + 1 + j by omega] at this;exact this)
  unfold Yx at hi ⊢;rw [List.length_cons,List.range'_succ,List.filter_cons,List.filter_cons];rw [Nat.add_zero] at h1 h2;rw [← h1];cases hm:t.may<;>simp [hi,h2]
theorem Xfy:∀ (all:List Thr) (e:Nat→Bool) (off:Nat),(∀ (j:Nat) (t:Thr),all[j]? = some t→t.e=e (off + j))→(all.all fun t=>t.e)=(List.range' off all.length).all e:=by
 intro all
 induction all with
 | nil=>intros;rfl
 | cons t l ih =>
  intro e off h;have h1:=h 0 t rfl;have hi:=ih e (off + 1) (fun j u q=>by
   have:=h (j + 1) u (by simpa using q)
   rw [show off + (j + 1)=off + 1 + j by omega] at this;exact this)
  rw [List.length_cons,List.range'_succ,List.all_cons,List.all_cons,hi,h1,Nat.add_zero]
section
variable {Sh:Type} {Post:Value→World→Prop} {S:Zv Sh} {F:Fix} {g:Gs} {P:Xp Sh} {m:Nat} {C:Ctx} {x:World}
def Gs.tbOf (g:Gs) (i:Nat):Nat:=(g.thr[i]?.map fun t=>t.tb).getD 0
theorem Stood.threads (H:Stood Post S F g P m none C x) (hI:S.I P.st.sh P.st.cells g.col x) :
 ∃ all:List Thr,all.length=P.n∧(∀ (j:Nat) (t:Thr),all[j]? = some t→t.At x j)∧(all.map fun t=>P0 t.tb)=(g.thr.map fun t=>P0 t.tb)∧Yx all=P.able.map (fun i=>P0 (g.tbOf i))∧(all.all fun t=>t.e)=P.over:=by
 have hcell:∀ (j:Nat) (r:Ask) (k:Told→Xx Sh Unit),j < P.n→P.progs j=.acc r k→x.cell? (th (g.A r.cell) 0)=some (.int .i64 (P.st.cells r.cell)):=fun j r k hj hp=>by
  obtain ⟨t,ht⟩:∃ t,g.thr[j]? = some t:=⟨_,List.getElem?_eq_getElem (by rw [H.gate.num];exact hj)⟩
  obtain ⟨_,_,_,_,_,_,_,_,_,_,hrc,_⟩:=H.chairs.chair j t r k ht (by simp) hp;rw [H.addr];exact (S.cell hI _ hrc).2.1
 obtain ⟨all,h1,h2,h3,h4⟩:=H.gate.threads hcell (fun j hj=>by
  rcases H.live j hj (by simp) with ⟨r,k,q⟩|⟨v,q⟩
  ·exact .inr ⟨r,k,q⟩
  ·exact .inl (by rw [q];rfl))
 have htb:∀ (j:Nat) (t:Thr),all[j]? = some t→t.tb=g.tbOf j:=fun j t e=>by
  have:(all.map fun t=>P0 t.tb)[j]? = some (P0 t.tb):=by rw [List.getElem?_map,e];rfl
  rw [h3,List.getElem?_map] at this;unfold Gs.tbOf;cases hu:g.thr[j]? with
  | none=>rw [hu] at this;cases this
  | some u =>
   rw [hu] at this;simp at this;simp [this]
 refine ⟨all,h1,h2,h3,?_,?_⟩
 ·rw [XbI all P.can g.tbOf 0 (fun j t e=>by rw [Nat.zero_add];exact ⟨(h4 j t e).1,htb j t e⟩),h1,Xp.able,List.range_eq_range']
 ·rw [Xfy all (fun i=>(P.progs i).ended) 0 (fun j t e=>by rw [Nat.zero_add];exact (h4 j t e).2),h1,Xp.over,List.range_eq_range']
theorem Stood.less (H:Stood Post S F g P (m + 1) none C x):Stood Post S F g P m none C x :=
 ⟨H.gate,H.apart,H.rb,H.mb,H.N,H.kept,H.x0,H.addr,H.names,by have:=H.len;omega,H.d,H.n,H.main,H.lo,H.low,H.io,H.holds,H.live,H.chairs.less,fun e=>S.fin.less (H.fine e),H.pvs,H.kpc⟩
theorem Stood.zero:∀ {m:Nat},Stood Post S F g P m none C x→Stood Post S F g P 0 none C x
 | 0,H=>H
 | _ + 1,H=>H.less.zero
theorem Stood.mayAcc (H:Stood Post S F g P m none C x) {i:Nat} (hi:i∈P.able):i < P.n∧∃ r k,P.progs i=.acc r k:=by
 obtain ⟨h1,h2⟩:=List.mem_filter.1 hi;have hn:=List.mem_range.1 h1;refine ⟨hn,?_⟩;rcases H.live i hn (by simp) with h|⟨v,q⟩
 ·exact h
 ·simp [Xp.can,q,Xx.req] at h2
theorem Stood.frame {y:World} {h:Option Nat} (H:Stood Post S F g P m h C x) (hy:∀ r,g.col r→y.heap[r]? = x.heap[r]?) (hs:x.heap.size≤y.heap.size) (hk:∀ j a,S.keep j a→y.cell? a=x.cell? a):Stood Post S F g P m h C y :=
 ⟨H.gate.frame hy hs,H.apart,H.rb,H.mb,H.N,H.kept,H.x0,H.addr,H.names,H.len,H.d,H.n,H.main,H.lo,H.low,H.io,H.holds,H.live,H.chairs,H.fine,H.pvs,fun j h1 h2 h3 a ha=>(hk j a ha).trans (H.kpc j h1 h2 h3 a ha)⟩
end
namespace Xp
variable {Sh:Type} {P:Xp Sh} {sched:List Nat→List Nat→Nat} {m:Nat}
theorem runs_over (h:P.over=true):P.runs sched m=(1,P):=by
 unfold Xp.runs;rw [if_pos h]
theorem runs_dead (h:P.over=false) (h2:P.able = []):P.runs sched m=(3,P):=by
 unfold Xp.runs;rw [if_neg (by simp [h]),if_pos h2]
theorem runs_cut (h:P.over=false) (h2:P.able≠[]):P.runs sched 0=(2,P):=by
 unfold Xp.runs;rw [if_neg (by simp [h]),if_neg h2]
theorem runs_turn (h:P.over=false) (h2:P.able≠[]):P.runs sched (m + 1)=(P.turn (sched P.st.went P.able)).runs sched m:=by
 conv=>lhs;unfold Xp.runs
 rw [if_neg (by simp [h]),if_neg h2]
end Xp
section
variable {Sh:Type}
structure UW (Post:Value→World→Prop) (S:Zv Sh) (F:Fix) (fs:FuncId) (cap:Array Value) (sched:List Nat→List Nat→Nat):Prop where
 has:Yb fs
 go:∀ (g:Gs) (P:Xp Sh) (m:Nat) (C:Ctx) (x:World) (N:Nat) (vl:Value) (c:Frame) (cs:List Frame),Stood Post S F g P m none C x→P.able≠[]→x.ownsRow N 33 1 vl P.able.length (P.able.map fun i=>P0 (g.tbOf i))→P.st.went.length≤65536→P.n≤64 →
  (∀ q,q∈P.able→q=sched P.st.went P.able→JG Try.prog Post C (G (c.finish (P0 (g.tbOf q))) cs) x)→JG Try.prog Post C (G (Frame.enter Try.prog fs (#[.int .i64 P.st.went.length,vl] ++ cap) .normal) (c::cs)) x
variable {Post:Value→World→Prop} {S:Zv Sh} {F:Fix} {fs:FuncId} {cap:Array Value} {sched:List Nat→List Nat→Nat} {most:Nat} {c:Frame} {cs:List Frame}
theorem Stood.wentOn {g:Gs} {P:Xp Sh} {m:Nat} {C:Ctx} {x y:World} {v':Value} {q:Nat} (H:Stood Post S F g P m none C x) (hI:S.I P.st.sh P.st.cells g.col x) (h1:y.heap[g.rb]? = some (.cells (XH g.vT (.map (some g.mb)) g.vL v' g.vR g.vF false) 85 (0,0)))
 (h2:y.ownsRow g.N 3 1 v' (P.st.went.length + 1) ((P.st.went.map fun i=>.int .i64 (i:Nat)) ++ [.int .i64 q])) (h3:v'.ownBlock=g.vW.ownBlock∨∃ b,v'.ownBlock=some b∧x.heap.size≤b) (h4:x.heap.size≤y.heap.size) (h5:∀ r,r < x.heap.size→r≠g.rb→some r≠g.vW.ownBlock→y.heap[r]? = x.heap[r]?) :
 Stood Post S F { g with vW:=v' } { P with st:={ P.st with went:=P.st.went ++ [q] } } m none C y∧S.I P.st.sh P.st.cells ({ g with vW:=v' }:Gs).col y:=by
 obtain ⟨HG,hap⟩:=H.gate.wentOn H.apart h1 h2 h3 h4 h5;have hkc:∀ j a,S.keep j a→y.cell? a=x.cell? a:=fun j a ha=>by
  obtain ⟨q1,q2,_⟩:=S.keepI hI j a ha;exact World.cell?_of_block (h5 a.block q1 (fun e=>q2 (by simp [Gs.col,e])) fun e=>q2 (by simp [Gs.col,e]))
 refine ⟨⟨HG,hap,H.rb,H.mb,H.N,H.kept,H.x0,H.addr,H.names,H.len,H.d,H.n,H.main,H.lo,H.low,H.io,H.holds,H.live,⟨H.chairs.oth,H.chairs.chair⟩,fun e=>S.fin.st _ _ (H.fine e),⟨H.pvs.kept,H.pvs.dis,H.pvs.thr,H.pvs.lt⟩,fun j e1 e2 e3 a ha=>(hkc j a ha).trans (H.kpc j e1 e2 e3 a ha)⟩,S.frame hI _ _ h4 (fun r hr hc=>h5 r hr (fun e=>hc (by simp [Gs.col,e])) fun e=>hc (by simp [Gs.col,e])) fun r hr h=>?_⟩;rcases h with h|h|h|h|h|h|h|h|h
 ·exact .inl h
 ·exact .inr (.inl h)
 ·exact .inr (.inr (.inl h))
 ·exact .inr (.inr (.inr (.inl h)))
 ·exact .inr (.inr (.inr (.inr (.inl h))))
 ·rcases h3 with e|⟨b,e,e2⟩
  ·exact .inr (.inr (.inr (.inr (.inr (.inl (h.trans e))))))
  ·have h:some r=v'.ownBlock:=h
   rw [e] at h;have:=OI h;omega
 ·exact .inr (.inr (.inr (.inr (.inr (.inr (.inl h))))))
 ·exact .inr (.inr (.inr (.inr (.inr (.inr (.inr (.inl h)))))))
 ·exact .inr (.inr (.inr (.inr (.inr (.inr (.inr (.inr h)))))))
theorem Stood.readyOn {g:Gs} {P:Xp Sh} {m:Nat} {C:Ctx} {x y:World} {v':Value} {q:Nat} (H:Stood Post S F g P m none C x) (hI:S.I P.st.sh P.st.cells g.col x) (h1:y.heap[g.rb]? = some (.cells (XH g.vT (.map (some g.mb)) g.vL g.vW v' g.vF false) 85 (0,0)))
 (h2:y.ownsRow g.N 3 1 v' (P.st.ready.length + 1) ((P.st.ready.map fun i=>.int .i64 (i:Nat)) ++ [.int .i64 q])) (h3:v'.ownBlock=g.vR.ownBlock∨∃ b,v'.ownBlock=some b∧x.heap.size≤b) (h4:x.heap.size≤y.heap.size) (h5:∀ r,r < x.heap.size→r≠g.rb→some r≠g.vR.ownBlock→y.heap[r]? = x.heap[r]?) :
 Stood Post S F { g with vR:=v' } { P with st:={ P.st with ready:=P.st.ready ++ [q] } } m none C y∧S.I P.st.sh P.st.cells ({ g with vR:=v' }:Gs).col y:=by
 obtain ⟨HG,hap⟩:=H.gate.readyOn H.apart h1 h2 h3 h4 h5;have hkc:∀ j a,S.keep j a→y.cell? a=x.cell? a:=fun j a ha=>by
  obtain ⟨q1,q2,_⟩:=S.keepI hI j a ha;exact World.cell?_of_block (h5 a.block q1 (fun e=>q2 (by simp [Gs.col,e])) fun e=>q2 (by simp [Gs.col,e]))
 refine ⟨⟨HG,hap,H.rb,H.mb,H.N,H.kept,H.x0,H.addr,H.names,H.len,H.d,H.n,H.main,H.lo,H.low,H.io,H.holds,H.live,⟨H.chairs.oth,H.chairs.chair⟩,fun e=>S.fin.st _ _ (H.fine e),⟨H.pvs.kept,H.pvs.dis,H.pvs.thr,H.pvs.lt⟩,fun j e1 e2 e3 a ha=>(hkc j a ha).trans (H.kpc j e1 e2 e3 a ha)⟩,S.frame hI _ _ h4 (fun r hr hc=>h5 r hr (fun e=>hc (by simp [Gs.col,e])) fun e=>hc (by simp [Gs.col,e])) fun r hr h=>?_⟩;rcases h with h|h|h|h|h|h|h|h|h
 ·exact .inl h
 ·exact .inr (.inl h)
 ·exact .inr (.inr (.inl h))
 ·exact .inr (.inr (.inr (.inl h)))
 ·exact .inr (.inr (.inr (.inr (.inl h))))
 ·exact .inr (.inr (.inr (.inr (.inr (.inl h)))))
 ·rcases h3 with e|⟨b,e,e2⟩
  ·exact .inr (.inr (.inr (.inr (.inr (.inr (.inl (h.trans e)))))))
  ·have h:some r=v'.ownBlock:=h
   rw [e] at h;have:=OI h;omega
 ·exact .inr (.inr (.inr (.inr (.inr (.inr (.inr (.inl h)))))))
 ·exact .inr (.inr (.inr (.inr (.inr (.inr (.inr (.inr h)))))))
def UT (Post:Value→World→Prop) (S:Zv Sh) (F:Fix) (fs:FuncId) (cap:Array Value) (sched:List Nat→List Nat→Nat) (most:Nat) (c:Frame) (cs:List Frame) (m:Nat):Prop :=
 ∀ (g:Gs) (P:Xp Sh) (C:Ctx) (x:World) (u2 u4 u5 u6 u7 u8 u9 B0 B1 B2 B3 B4 B5 B6 B7 B8 B9 D0 D1 D2 D3 D4 D5 D6 D7 D8 D9 E0 E1 E2 E3 E4 E5 E6 E7 E8 E9 G0 G1 G2 G3 G4 G5 G6 G7 G8 G9 H0 H4 H5 H6 H7 H8 H9 I1 I2 I3 I4 I5 I6 I7 I8 I9 J0 J1 J2 J3 J4 J5 J6 J7 J8 J9 K0 K1 K2 K3:Value),Stood Post S F g P m none C x→S.I P.st.sh P.st.cells g.col x→P.st.went.length + m=most→P.st.ready.length=P.st.went.length→P.n≤64 →
  (∀ (g':Gs) (C':Ctx) (z:World),Stood Post S F g' (P.runs sched m).2 0 none C' z→S.I (P.runs sched m).2.st.sh (P.runs sched m).2.st.cells g'.col z→JG Try.prog Post C' (G (c.finish (.tuple #[.int .i8 (P.runs sched m).1,.bool true])) cs) z) →
  JG Try.prog Post C (G ((base 36).at ⟨List.toArray ((P0 F.rb)::(.int .i64 most)::u2::(.func (.func fs) #[] cap)::u4::u5::u6::u7::u8::u9::B0::B1::B2::B3::B4::B5::B6::B7::B8::B9::D0::D1::D2::D3::D4::D5::D6::D7::D8::D9::E0::E1::E2::E3::E4::E5::E6::E7::E8::E9::G0::G1::G2::G3::G4::G5::G6::G7::G8::G9::H0::H4::H5::H6::H7::H8::H9::I1::I2::I3::I4::I5::I6::I7::I8::I9::J0::J1::J2::J3::J4::J5::J6::J7::J8::J9::K0::K1::K2::K3::[]),[]⟩ [.code (Code.nav (Try.f36.body.getD .skip) [1,1,0,0]),.inLoop (Code.nav (Try.f36.body.getD .skip) [1,1,0,0]),.inBlock 2]) (c::cs)) x
theorem Xex {P:Xp Sh} (q:Nat):(P.goes q).n=P.n∧(P.goes q).st.went=P.st.went∧(P.goes q).st.ready=P.st.ready:=by
 unfold Xp.goes
 split
 ·exact ⟨rfl,rfl,rfl⟩
 ·exact ⟨rfl,rfl,rfl⟩
theorem Us (hS:UW Post S F fs cap sched) (hmost:most≤65536) (m:Nat) (ih:∀ m',m=m' + 1→UT Post S F fs cap sched most c cs m'):UT Post S F fs cap sched most c cs m:=by
 intro g P C x u2 u4 u5 u6 u7 u8 u9 B0 B1 B2 B3 B4 B5 B6 B7 B8 B9 D0 D1 D2 D3 D4 D5 D6 D7 D8 D9 E0 E1 E2 E3 E4 E5 E6 E7 E8 E9 G0 G1 G2 G3 G4 G5 G6 G7 G8 G9 H0 H4 H5 H6 H7 H8 H9 I1 I2 I3 I4 I5 I6 I7 I8 I9 J0 J1 J2 J3 J4 J5 J6 J7 J8 J9 K0 K1 K2 K3 H hI hw hr hn h;have hwJ:=@XfJ Post;have hrJ:=@Xe1 Post;unfold UT at ih;simp only [Try.f36,Option.getD_some,Code.nav] at ih hwJ hrJ ⊢;obtain ⟨all,e1,e2,e3,e4,e5⟩:=H.threads hI;have hT:x.ownsRow g.N 33 1 g.vT all.length (all.map fun t=>P0 t.tb):=by
  rw [e3,show all.length=g.thr.length from e1.trans H.gate.num.symm];exact H.gate.ths
 have h0:x.cell? (th g.rb 0)=some g.vT:=Xa H.gate.obj 0;rw [H.rb] at h0;replace h:=HD h;replace ih:=HD ih;have HH:=HD H;have HI:=HD hI;have HS:=HD hS;have HM:=HD hmost;have HW:=HD hw;have HR:=HD hr;have HN:=HD hn;clear H hI hS hmost hw hr hn
 repeat refine kx ?_
 refine kf (args:=#[P0 F.rb]) Try.func50 ?_;refine Xf4 all (by have:=HN.out;omega) h0 hT e2 (fun y vl hown hsz hold=>?_);rw [Frame.finish_at,e5];walk_nrm;rw [e4] at hown;simp only [List.length_map] at hown;have Hy:Stood Post S F g P m none C y:=HH.out.frame (fun r hr=>hold r (HH.out.gate.colLt hr)) hsz fun j a ha=>World.cell?_of_block (hold a.block (S.keepI HI.out j a ha).1);have hIy:S.I P.st.sh P.st.cells g.col y:=S.frame HI.out _ _ hsz (fun r hr _=>hold r hr) fun _ _ h=>h;obtain ⟨al,ac,rfl⟩:=Xq hown;obtain ⟨aw,wc,evW⟩:=Xq Hy.gate.wn;have k3:y.cell? (th F.rb 3)=some (.slice aw P.st.went.length wc):=by rw [← Hy.rb,Xa Hy.gate.obj 3,← evW];rfl
 clear hold hsz e4 e3 hT h0 HH HI;replace Hy:=HD Hy;replace hIy:=HD hIy;replace hown:=HD hown;replace e2:=HD e2;cases ho:P.over with
 | true =>
  rw [Xp.runs_over ho] at h
  repeat refine kx ?_
  refine JG.ret ?_;exact JG.leave rfl rfl Try.func36 (fun τ d=>results_tmp2 (t:=8) (u:=9) rfl _ _ _) (h.out g C y Hy.out.zero hIy.out)
 | false =>
  by_cases hab:P.able = []
  ·rw [Xp.runs_dead ho hab] at h
   have hl:P.able.length=0:=by rw [hab];rfl
   rw [hl]
   repeat refine kx ?_
   refine JG.ret ?_;exact JG.leave rfl rfl Try.func36 (fun τ d=>results_tmp2 (t:=8) (u:=9) rfl _ _ _) (h.out g C y Hy.out.zero hIy.out)
  ·have hl:0 < P.able.length:=List.length_pos_iff.2 hab
   have d1:decide ((P.able.length:Int)=0)=false:=by simp;exact hab
   have d2:decide (P.able.length=0)=false:=by simp;exact hab
   have d0:((P.able.length:Int) == 0)=false:=by simp;exact hab
   cases m with
   | zero =>
    rw [Xp.runs_cut ho hab] at h;have hwm:P.st.went.length=most:=HW.out;have d3:decide ((P.st.went.length:Int)=most)=true:=by simp [hwm]
    have d4:decide (P.st.went.length=most)=true:=by simp [hwm]
    have d5:((P.st.went.length:Int) == (most:Int))=true:=by simp [hwm]
    have d6:(P.st.went.length == most)=true:=by simp [hwm]
    clear hwm
    repeat refine kx ?_
    refine JG.ret ?_;exact JG.leave rfl rfl Try.func36 (fun τ d=>results_tmp2 (t:=8) (u:=9) rfl _ _ _) (h.out g C y Hy.out.zero hIy.out)
   | succ m =>
    rw [Xp.runs_turn ho hab] at h;have d3:decide ((P.st.went.length:Int)=most)=false:=by have:=HW.out;simp;omega
    have d4:decide (P.st.went.length=most)=false:=by have:=HW.out;simp;omega
    have d5:((P.st.went.length:Int) == (most:Int))=false:=by have:=HW.out;simp;omega
    have d6:(P.st.went.length == most)=false:=by have:=HW.out;simp;omega
    repeat refine kx ?_
    refine JG.call (f:=fs) (args:=#[.int .i64 P.st.went.length,.slice al P.able.length ac] ++ cap) rfl (by rfl) (by decide) (fun w=>?_) (fun w=>?_) ?_
    ·obtain ⟨fn,h1,h2,h3⟩:=HS.out.has
     have h4 : ¬ fn.name = "runtime.NumGoroutine" := by simpa using h2
     have h5:¬ fn.body=none:=by intro e;rw [e] at h3;cases h3
     simp [go_sem,execOp,Act.eval,resolve,Deferred.ofValue,invoke,callFunc,h1,h4,h5]
    ·obtain ⟨fn,h1,h2,h3⟩:=HS.out.has
     have h4 : ¬ fn.name = "runtime.NumGoroutine" := by simpa using h2
     have h5:¬ fn.body=none:=by intro e;rw [e] at h3;cases h3
     simp [go_sem,execOp,Act.eval,resolve,Deferred.ofValue,invoke,callFunc,h1,h4,h5]
    refine HS.out.go g P (m + 1) C y _ _ _ _ Hy.out hab hown.out (by have:=HW.out;have:=HM.out;omega) HN.out (fun q hq hpick=>?_);rw [← hpick] at h;obtain ⟨hqn,r,k,hpr⟩:=Hy.out.mayAcc hq;obtain ⟨t,ht⟩:∃ t,g.thr[q]? = some t:=⟨_,List.getElem?_eq_getElem (by rw [Hy.out.gate.num];exact hqn)⟩
    have htb:g.tbOf q=t.tb:=by unfold Gs.tbOf;rw [ht];rfl
    rw [htb,Frame.finish_at];walk_nrm
    repeat refine kx ?_
    have hG:=Hy.out.gate;obtain ⟨_,_,_,_,⟨vv,a,hto,_⟩,_⟩:=hG.thr q t ht;have hobj:=hG.obj;rw [Hy.out.rb] at hobj;refine hwJ (N:=g.N) (vW:=g.vW) (num:=q) (went:=P.st.went.map fun i=>.int .i64 (i:Nat)) (Xa hto 1) hobj (by rw [List.length_map];exact hG.wn) hG.low (Zp hG.wn fun cur=>by rw [hobj];simp) (Zp hG.wn fun cur=>by rw [hto];simp) (by rw [List.length_map];have:=HW.out;have:=HM.out;omega) (fun e=>by rw [e,hobj] at hto;simp at hto) ?_;intro y1 vW' a4 a5 a6 a7 a8 a9 a10 a11 a13 a15 a16 a17 a18 a19 a20 a21 a22 a23 a24 a25 a26 a27 a28 a29 a30 a31 a32 a33 a34 a35 a36 a37 a38 a39 a40 a41 a42 a43 a44 a45 a46 a47 a48 a49 a50 a51 a52 a53 a54 a55 a56 a57 a58 a59 a60 a61 a62 a63 a64 a65 a66 a67 a68 a69 a70 a71 a72 a73 a74 a75 a76 a77 a78 a79 w1 w2 w3 w4 w5;rw [List.length_map] at w2;rw [← Hy.out.rb] at w1 w5;obtain ⟨H1,hI1⟩:=Hy.out.wentOn hIy.out w1 w2 w3 w4 w5;have hG1:=H1.gate;have hobj1:=hG1.obj;have hrb1:({ g with vW:=vW' }:Gs).rb=F.rb:=Hy.out.rb;rw [hrb1] at hobj1;refine hrJ (N:=g.N) (vR:=g.vR) (n:=P.able.length) (ready:=P.st.ready.map fun i=>.int .i64 (i:Nat)) hobj1 (by rw [List.length_map];exact hG1.rd) hG1.low (Zp hG1.rd fun cur=>by rw [hobj1];simp) (by rw [List.length_map];have:=HR.out;have:=HW.out;have:=HM.out;omega) ?_;intro y2 vR' b4 b5 b6 b7 b8 b9 b10 b11 b13 b15 b16 b17 b18 b19 b20 b21 b22 b23 b24 b25 b26 b27 b28 b29 b30 b31 b32 b33 b34 b35 b36 b37 b38 b39 b40 b41 b42 b43 b44 b45 b46 b47 b48 b49 b50 b51 b52 b53 b54 b55 b56 b57 b58 b59 b60 b61 b62 b63 b64 b65 b66 b67 b68 b69 b70 b71 b72 b73 b74 b75 b76 b77 b78 b79 v1 v2 v3 v4 v5;rw [List.length_map] at v2;rw [← hrb1] at v1 v5;obtain ⟨H2,hI2⟩:=H1.readyOn hI1 v1 v2 v3 v4 v5
    repeat refine kx ?_
    refine kf (args:=#[P0 t.tb]) Try.func51 ?_;refine XeV H2 hI2 ht hpr (S.fin.turn (Hy.out.fine rfl) hq) (fun g' C' z _ H3 hI3=>?_);rw [Frame.finish_at];walk_nrm
    repeat refine kx ?_
    refine JG.inLoop ?_;obtain ⟨n1,n2,n3⟩:=Xex (P:={ P with st:={ P.st with went:=P.st.went ++ [q],ready:=P.st.ready ++ [P.able.length] } }) q;refine ih.out m rfl g' (P.turn q) C' z _ _ _ _ _ _ _ _ _ _ _ _ _ _ _ _ _ _ _ _ _ _ _ _ _ _ _ _ _ _ _ _ _ _ _ _ _ _ _ _ _ _ _ _ _ _ _ _ _ _ _ _ _ _ _ _ _ _ _ _ _ _ _ _ _ _ _ _ _ _ _ _ _ _ _ _ _ H3 hI3 ?_ ?_ ?_ h.out
    ·show (Xp.goes _ q).st.went.length + m=most
     rw [n2];simp;have:=HW.out;omega
    ·show (Xp.goes _ q).st.ready.length=(Xp.goes _ q).st.went.length
     rw [n2,n3];simp [HR.out]
    ·show (Xp.goes _ q).n≤64
     rw [n1];exact HN.out
theorem Vc (hS:UW Post S F fs cap sched) (hmost:most≤65536):∀ m,UT Post S F fs cap sched most c cs m
 | 0=>Us hS hmost 0 fun m' e=>by cases e
 | m + 1=>Us hS hmost (m + 1) fun m' e=>by
  obtain rfl:m=m':=Nat.succ.inj e;exact Vc hS hmost m
end
section
variable {Post:Value→World→Prop} {C:Ctx} {x:World} {c:Frame} {cs:List Frame}
theorem placeJ {p n:Int} (h1:0 < n) (h2:n < 1000) (hp : -9223372036854775808≤p∧p≤9223372036854775807) (h:JG Try.prog Post C (G (c.finish (.int .i64 (p % n))) cs) x):JG Try.prog Post C (G (Frame.enter Try.prog 26 #[.int .i64 p,.int .i64 n] .normal) (c::cs)) x:=by
 have hn0:(n == 0)=false:=by simp;omega
 have e0:n≠0:=by omega
 have b1 : -n < p.tmod n:=by have:=Int.lt_tmod_of_pos p h1;omega
 have b2:p.tmod n < n:=Int.tmod_lt_of_pos p h1;have hw:IntKind.i64.wrap (p.tmod n)=p.tmod n:=by rw [IntKind.wrap_i64];omega
 replace b1:=HD b1;replace b2:=HD b2;have e:=Int.tmod_add_mul_tdiv p n
 by_cases hk:p.tmod n < 0
 ·have hd:decide (p.tmod n < 0)=true:=decide_eq_true hk
  have hw2:IntKind.i64.wrap (p.tmod n + n)=p % n:=by
   have l1:=b1.out;have l2:=b2.out;have h3:(p.tmod n + n + n * (p.tdiv n - 1)) % n=p.tmod n + n:=by rw [Int.add_mul_emod_self_left];exact Int.emod_eq_of_lt (by omega) (by omega)
   have e3:p.tmod n + n + n * (p.tdiv n - 1)=p:=by rw [Int.mul_sub];omega
   rw [e3] at h3;rw [h3,IntKind.wrap_i64]
   omega
  clear e;replace hw2:=HD hw2;refine Xu Try.func26 (by rfl) (by rfl) ?_;simp only [Try.f26,Option.getD_some];walk_nrm
  repeat refine kx ?_
  rw [hw2.out];refine JG.ret ?_;exact JG.leave rfl rfl Try.func26 (fun τ d=>results_tmp (t:=4) rfl _ _ _) h
 ·have hd:decide (p.tmod n < 0)=false:=decide_eq_false hk
  have hw2:p.tmod n=p % n:=by
   have l2:=b2.out;have h3:(p.tmod n + n * p.tdiv n) % n=p.tmod n:=by rw [Int.add_mul_emod_self_left];exact Int.emod_eq_of_lt (by omega) l2
   rw [e] at h3;exact h3.symm
  clear e;replace hw2:=HD hw2;refine Xu Try.func26 (by rfl) (by rfl) ?_;simp only [Try.f26,Option.getD_some];walk_nrm
  repeat refine kx ?_
  rw [hw2.out];refine JG.ret ?_;exact JG.leave rfl rfl Try.func26 (fun τ d=>results_tmp (t:=4) rfl _ _ _) h
theorem results_tmp3m {fn:Func} {t u w:Tmp} (h:fn.results=#[.tmp t,.tmp u,.tmp w]) (tmps:Array Value) (P:Program) (y:World):(results fn tmps).run P y=.ok (.tuple #[tmps.getD t undef,tmps.getD u undef,tmps.getD w undef]) y:=by
 unfold results;rw [h];simp [Act.eval]
theorem made_J {t r:Int} {a:Option Addr} {n cap:Nat} (ht : -9223372036854775808≤t∧t≤9223372036854775807) (hr : -9223372036854775808≤r∧r≤9223372036854775807) (h:∀ y,Xg x y→JG Try.prog Post C (G (c.finish (.tuple #[.int .i64 (t % 6 + 1),.int .i64 (r % 8 + 1),.bool (decide ((n:Int)≤4000))])) cs) y):JG Try.prog Post C (G (Frame.enter Try.prog 7 #[.agg #[.int .i64 t,.int .i64 r,.slice a n cap]] .normal) (c::cs)) x:=by
 have w1:IntKind.i64.wrap (t % 6 + 1)=t % 6 + 1:=by rw [IntKind.wrap_i64];omega
 have w2:IntKind.i64.wrap (r % 8 + 1)=r % 8 + 1:=by rw [IntKind.wrap_i64];omega
 replace h:=HD h;refine Xu Try.func7 (by rfl) (by rfl) ?_;simp only [Try.f7,Option.getD_some];walk_nrm
 repeat refine kx ?_
 refine ko fun K E hK hE τ d=>?_;go_simp;refine hK _ _ (jt (x:=x.alloc (.cells #[.int .i64 t,.int .i64 r,.slice a n cap] 24)) ?_);simp only [Xs];clear hK hE K E τ d;have o1:=(Xg.refl x).alloc (.cells #[.int .i64 t,.int .i64 r,.slice a n cap] 24);have b1:(x.alloc (.cells #[.int .i64 t,.int .i64 r,.slice a n cap] 24)).heap[x.heap.size]? = some (.cells #[.int .i64 t,.int .i64 r,.slice a n cap] 24 (0,0)):=heap_alloc_new x _;have hy:=h.out _ o1;clear h o1;generalize x.alloc (.cells #[.int .i64 t,.int .i64 r,.slice a n cap] 24)=y at hy b1 ⊢;generalize x.heap.size=rb at b1 ⊢;have l0:y.cell? (th rb 0)=some (.int .i64 t):=Xa b1 0;have l1:y.cell? (th rb 1)=some (.int .i64 r):=Xa b1 1;have l2:y.cell? (th rb 2)=some (.slice a n cap):=Xa b1 2;clear b1;replace hy:=HD hy
 repeat refine kx ?_
 refine JG.drawCalls (fun i=>if i=2 then some 0 else if i=6 then some 1 else none) (fun i=>if i=0 then .int .i64 (t % 6) else .int .i64 (r % 8)) (fun _ z=>z=y) 2 (by kernel_rfl) (by kernel_rfl) (by decide) rfl ?_;apply Exists.intro;apply And.intro
 ·intro k hk z hz
  rw [show z=y from hz]
  repeat first|(refine Vb.rd (by rfl) (fun K hK τ d=>?_);go_simp;refine hK _ ?_;clear hK K τ d)|(refine Vb.rd (by rfl) (fun K hK τ d=>?_);have hfact:=uc τ d (l0);go_simp;refine hK _ ?_;clear hfact hK K τ d)|(refine Vb.rd (by rfl) (fun K hK τ d=>?_);have hfact:=uc τ d (l1);go_simp;refine hK _ ?_;clear hfact hK K τ d)|(refine Vb.rd (by rfl) (fun K hK τ d=>?_);have hfact:=uc τ d (l2);go_simp;refine hK _ ?_;clear hfact hK K τ d)
  refine Vb.cl (by rfl) (fun _=>⟨26,#[.int .i64 t,.int .i64 6],fun w=>?_,fun w=>?_,fun c hc=>?_⟩) ?_
  iterate 2 (focus obtain ⟨fn, h1, h2, h3⟩ : Yb 26 := ⟨_, Try.func26, by kernel_rfl, by kernel_rfl⟩; have h4 : ¬ fn.name = "runtime.NumGoroutine" := (by simpa using h2); have h5 : ¬ fn.body = none := (by intro e; rw [e] at h3; cases h3); simp [go_sem, execOp, Act.eval, resolve, Deferred.ofValue, invoke, callFunc, h1, h4, h5])
  ·exact placeJ (by decide) (by decide) ht (hc y rfl)
  repeat first|(refine Vb.rd (by rfl) (fun K hK τ d=>?_);go_simp;refine hK _ ?_;clear hK K τ d)|(refine Vb.rd (by rfl) (fun K hK τ d=>?_);have hfact:=uc τ d (l0);go_simp;refine hK _ ?_;clear hfact hK K τ d)|(refine Vb.rd (by rfl) (fun K hK τ d=>?_);have hfact:=uc τ d (l1);go_simp;refine hK _ ?_;clear hfact hK K τ d)|(refine Vb.rd (by rfl) (fun K hK τ d=>?_);have hfact:=uc τ d (l2);go_simp;refine hK _ ?_;clear hfact hK K τ d)
  refine Vb.cl (by rfl) (fun _=>⟨26,#[.int .i64 r,.int .i64 8],fun w=>?_,fun w=>?_,fun c hc=>?_⟩) ?_
  iterate 2 (focus obtain ⟨fn, h1, h2, h3⟩ : Yb 26 := ⟨_, Try.func26, by kernel_rfl, by kernel_rfl⟩; have h4 : ¬ fn.name = "runtime.NumGoroutine" := (by simpa using h2); have h5 : ¬ fn.body = none := (by intro e; rw [e] at h3; cases h3); simp [go_sem, execOp, Act.eval, resolve, Deferred.ofValue, invoke, callFunc, h1, h4, h5])
  ·exact placeJ (by decide) (by decide) hr (hc y rfl)
  repeat first|(refine Vb.rd (by rfl) (fun K hK τ d=>?_);go_simp;refine hK _ ?_;clear hK K τ d)|(refine Vb.rd (by rfl) (fun K hK τ d=>?_);have hfact:=uc τ d (l0);go_simp;refine hK _ ?_;clear hfact hK K τ d)|(refine Vb.rd (by rfl) (fun K hK τ d=>?_);have hfact:=uc τ d (l1);go_simp;refine hK _ ?_;clear hfact hK K τ d)|(refine Vb.rd (by rfl) (fun K hK τ d=>?_);have hfact:=uc τ d (l2);go_simp;refine hK _ ?_;clear hfact hK K τ d)
  exact rfl
 intro z hz;rw [show z=y from hz]
 repeat refine kx ?_
 refine JG.ret ?_;exact JG.leave rfl rfl Try.func7 (fun τ d=>results_tmp3m (t:=2) (u:=3) (w:=4) rfl _ _ _) hy.out
