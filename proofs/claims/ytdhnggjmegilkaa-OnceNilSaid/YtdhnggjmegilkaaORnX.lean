/- The gate's until, whole: the bodies are begun, then turn by turn. -/
import Derived.Test.YtdhnggjmegilkaaOLbA
set_option linter.all false
set_option maxRecDepth 100000
set_option maxHeartbeats 16000000
namespace Go.Proofs.Ytdhnggjmegilkaa
open Go.Conc Go.RowKit
open Go.ConcN (upd upd_same upd_ne)
set_option maxRecDepth 100000
namespace Xp
variable {Sh:Type} {P:Xp Sh} {sched:List Nat→List Nat→Nat} {m:Nat}
theorem runs_over (h:P.over=true):P.runs sched m=(1,P):=by
 unfold Xp.runs;rw [if_pos h]
theorem runs_dead (h:P.over=false) (h2:P.able = []):P.runs sched m=(3,P):=by
 unfold Xp.runs;rw [if_neg (by simp [h]),if_pos h2]
theorem runs_cut (h:P.over=false) (h2:P.able≠[]):P.runs sched 0=(2,P):=by
 unfold Xp.runs;rw [if_neg (by simp [h]),if_neg h2]
theorem runs_turn (h:P.over=false) (h2:P.able≠[]):P.runs sched (m + 1)=(P.turn (sched P.st.went P.able)).runs sched m:=by
 conv=>lhs;unfold Xp.runs
 rw [if_neg (by simp [h]),if_neg h2]
end Xp
section
variable {Sh:Type}
structure UW (Post:Value→World→Prop) (S:Zv Sh) (F:Fix) (fs:FuncId) (cap:Array Value) (sched:List Nat→List Nat→Nat):Prop where
 has:Yb fs
 go:∀ (g:Gs) (P:Xp Sh) (m:Nat) (C:Ctx) (x:World) (N:Nat) (vl:Value) (c:Frame) (cs:List Frame),Stood Post S F g P m none C x→P.able≠[]→x.ownsRow N 33 1 vl P.able.length (P.able.map fun i=>P0 (g.tbOf i))→P.st.went.length≤65536→P.n≤64 →
  (∀ q,q∈P.able→q=sched P.st.went P.able→JG Try.prog Post C (G (c.finish (P0 (g.tbOf q))) cs) x)→JG Try.prog Post C (G (Frame.enter Try.prog fs (#[.int .i64 P.st.went.length,vl] ++ cap) .normal) (c::cs)) x
variable {Post:Value→World→Prop} {S:Zv Sh} {F:Fix} {fs:FuncId} {cap:Array Value} {sched:List Nat→List Nat→Nat} {most:Nat} {c:Frame} {cs:List Frame}
theorem Stood.wentOn {g:Gs} {P:Xp Sh} {m:Nat} {C:Ctx} {x y:World} {v':Value} {q:Nat} (H:Stood Post S F g P m none C x) (hI:S.I P.st.sh P.st.cells g.col x) (h1:y.heap[g.rb]? = some (.cells (XH g.vT (.map (some g.mb)) g.vL v' g.vR g.vF false) 179 (0,0)))
 (h2:y.ownsRow g.N 3 1 v' (P.st.went.length + 1) ((P.st.went.map fun i=>.int .i64 (i:Nat)) ++ [.int .i64 q])) (h3:v'.ownBlock=g.vW.ownBlock∨∃ b,v'.ownBlock=some b∧x.heap.size≤b) (h4:x.heap.size≤y.heap.size) (h5:∀ r,r < x.heap.size→r≠g.rb→some r≠g.vW.ownBlock→y.heap[r]? = x.heap[r]?) :
 Stood Post S F { g with vW:=v' } { P with st:={ P.st with went:=P.st.went ++ [q] } } m none C y∧S.I P.st.sh P.st.cells ({ g with vW:=v' }:Gs).col y:=by
 obtain ⟨HG,hap⟩:=H.gate.wentOn H.apart h1 h2 h3 h4 h5;have hkc:∀ j a,S.keep j a→y.cell? a=x.cell? a:=fun j a ha=>by
  obtain ⟨q1,q2,_⟩:=S.keepI hI j a ha;exact World.cell?_of_block (h5 a.block q1 (fun e=>q2 (by simp [Gs.col,e])) fun e=>q2 (by simp [Gs.col,e]))
 refine ⟨⟨HG,hap,H.rb,H.mb,H.N,H.kept,H.x0,H.addr,H.names,H.len,H.d,H.n,H.main,H.lo,H.low,H.io,H.holds,H.live,⟨H.chairs.oth,H.chairs.chair⟩,fun e=>S.fin.st _ _ (H.fine e),⟨H.pvs.kept,H.pvs.dis,H.pvs.thr,H.pvs.lt⟩,fun j e1 e2 e3 a ha=>(hkc j a ha).trans (H.kpc j e1 e2 e3 a ha)⟩,S.frame hI _ _ h4 (fun r hr hc=>h5 r hr (fun e=>hc (by simp [Gs.col,e])) fun e=>hc (by simp [Gs.col,e])) fun r hr h=>?_⟩;rcases h with h|h|h|h|h|h|h|h|h
 ·exact .inl h
 ·exact .inr (.inl h)
 ·exact .inr (.inr (.inl h))
 ·exact .inr (.inr (.inr (.inl h)))
 ·exact .inr (.inr (.inr (.inr (.inl h))))
 ·rcases h3 with e|⟨b,e,e2⟩
  ·exact .inr (.inr (.inr (.inr (.inr (.inl (h.trans e))))))
  ·have h:some r=v'.ownBlock:=h
   rw [e] at h;have:=OI h;omega
 ·exact .inr (.inr (.inr (.inr (.inr (.inr (.inl h))))))
 ·exact .inr (.inr (.inr (.inr (.inr (.inr (.inr (.inl h)))))))
 ·exact .inr (.inr (.inr (.inr (.inr (.inr (.inr (.inr h)))))))
theorem Stood.readyOn {g:Gs} {P:Xp Sh} {m:Nat} {C:Ctx} {x y:World} {v':Value} {q:Nat} (H:Stood Post S F g P m none C x) (hI:S.I P.st.sh P.st.cells g.col x) (h1:y.heap[g.rb]? = some (.cells (XH g.vT (.map (some g.mb)) g.vL g.vW v' g.vF false) 179 (0,0)))
 (h2:y.ownsRow g.N 3 1 v' (P.st.ready.length + 1) ((P.st.ready.map fun i=>.int .i64 (i:Nat)) ++ [.int .i64 q])) (h3:v'.ownBlock=g.vR.ownBlock∨∃ b,v'.ownBlock=some b∧x.heap.size≤b) (h4:x.heap.size≤y.heap.size) (h5:∀ r,r < x.heap.size→r≠g.rb→some r≠g.vR.ownBlock→y.heap[r]? = x.heap[r]?) :
 Stood Post S F { g with vR:=v' } { P with st:={ P.st with ready:=P.st.ready ++ [q] } } m none C y∧S.I P.st.sh P.st.cells ({ g with vR:=v' }:Gs).col y:=by
 obtain ⟨HG,hap⟩:=H.gate.readyOn H.apart h1 h2 h3 h4 h5;have hkc:∀ j a,S.keep j a→y.cell? a=x.cell? a:=fun j a ha=>by
  obtain ⟨q1,q2,_⟩:=S.keepI hI j a ha;exact World.cell?_of_block (h5 a.block q1 (fun e=>q2 (by simp [Gs.col,e])) fun e=>q2 (by simp [Gs.col,e]))
 refine ⟨⟨HG,hap,H.rb,H.mb,H.N,H.kept,H.x0,H.addr,H.names,H.len,H.d,H.n,H.main,H.lo,H.low,H.io,H.holds,H.live,⟨H.chairs.oth,H.chairs.chair⟩,fun e=>S.fin.st _ _ (H.fine e),⟨H.pvs.kept,H.pvs.dis,H.pvs.thr,H.pvs.lt⟩,fun j e1 e2 e3 a ha=>(hkc j a ha).trans (H.kpc j e1 e2 e3 a ha)⟩,S.frame hI _ _ h4 (fun r hr hc=>h5 r hr (fun e=>hc (by simp [Gs.col,e])) fun e=>hc (by simp [Gs.col,e])) fun r hr h=>?_⟩;rcases h with h|h|h|h|h|h|h|h|h
 ·exact .inl h
 ·exact .inr (.inl h)
 ·exact .inr (.inr (.inl h))
 ·exact .inr (.inr (.inr (.inl h)))
 ·exact .inr (.inr (.inr (.inr (.inl h))))
 ·exact .inr (.inr (.inr (.inr (.inr (.inl h)))))
 ·rcases h3 with e|⟨b,e,e2⟩
  ·exact .inr (.inr (.inr (.inr (.inr (.inr (.inl (h.trans e)))))))
  ·have h:some r=v'.ownBlock:=h
   rw [e] at h;have:=OI h;omega
 ·exact .inr (.inr (.inr (.inr (.inr (.inr (.inr (.inl h)))))))
 ·exact .inr (.inr (.inr (.inr (.inr (.inr (.inr (.inr h)))))))
def UT (Post:Value→World→Prop) (S:Zv Sh) (F:Fix) (fs:FuncId) (cap:Array Value) (sched:List Nat→List Nat→Nat) (most:Nat) (c:Frame) (cs:List Frame) (m:Nat):Prop :=
 ∀ (g:Gs) (P:Xp Sh) (C:Ctx) (x:World) (u2 u4 u5 u6 u7 u8 u9 B0 B1 B2 B3 B4 B5 B6 B7 B8 B9 D0 D1 D2 D3 D4 D5 D6 D7 D8 D9 E0 E1 E2 E3 E4 E5 E6 E7 E8 E9 G0 G1 G2 G3 G4 G5 G6 G7 G8 G9 H0 H4 H5 H6 H7 H8 H9 I0 I1 I2 I3 I4 I5 I6 I7 I8 I9 J0 J1 J2 J3 J4 J5 J6 J7 J8 J9 K0 K1 K2:Value),Stood Post S F g P m none C x→S.I P.st.sh P.st.cells g.col x→P.st.went.length + m=most→P.st.ready.length=P.st.went.length→P.n≤64 →
  (∀ (g':Gs) (C':Ctx) (z:World),Stood Post S F g' (P.runs sched m).2 0 none C' z→S.I (P.runs sched m).2.st.sh (P.runs sched m).2.st.cells g'.col z→JG Try.prog Post C' (G (c.finish (.tuple #[.int .i8 (P.runs sched m).1,.bool true])) cs) z) →
  JG Try.prog Post C (G ((base 82).at ⟨List.toArray ((P0 F.rb)::(.int .i64 most)::u2::(.func (.func fs) #[] cap)::u4::u5::u6::u7::u8::u9::B0::B1::B2::B3::B4::B5::B6::B7::B8::B9::D0::D1::D2::D3::D4::D5::D6::D7::D8::D9::E0::E1::E2::E3::E4::E5::E6::E7::E8::E9::G0::G1::G2::G3::G4::G5::G6::G7::G8::G9::H0::H4::H5::H6::H7::H8::H9::I0::I1::I2::I3::I4::I5::I6::I7::I8::I9::J0::J1::J2::J3::J4::J5::J6::J7::J8::J9::K0::K1::K2::[]),[]⟩ [.code (Code.nav (Try.f82.body.getD .skip) [1,1,0,0]),.inLoop (Code.nav (Try.f82.body.getD .skip) [1,1,0,0]),.inBlock 2]) (c::cs)) x
theorem Xex {P:Xp Sh} (q:Nat):(P.goes q).n=P.n∧(P.goes q).st.went=P.st.went∧(P.goes q).st.ready=P.st.ready:=by
 unfold Xp.goes
 split
 ·exact ⟨rfl,rfl,rfl⟩
 ·exact ⟨rfl,rfl,rfl⟩
theorem Us (hS:UW Post S F fs cap sched) (hmost:most≤65536) (m:Nat) (ih:∀ m',m=m' + 1→UT Post S F fs cap sched most c cs m'):UT Post S F fs cap sched most c cs m:=by
 intro g P C x u2 u4 u5 u6 u7 u8 u9 B0 B1 B2 B3 B4 B5 B6 B7 B8 B9 D0 D1 D2 D3 D4 D5 D6 D7 D8 D9 E0 E1 E2 E3 E4 E5 E6 E7 E8 E9 G0 G1 G2 G3 G4 G5 G6 G7 G8 G9 H0 H4 H5 H6 H7 H8 H9 I0 I1 I2 I3 I4 I5 I6 I7 I8 I9 J0 J1 J2 J3 J4 J5 J6 J7 J8 J9 K0 K1 K2 H hI hw hr hn h;have hwJ:=@XfJ Post;have hrJ:=@Xe1 Post;unfold UT at ih;simp only [Try.f82,Option.getD_some,Code.nav] at ih hwJ hrJ ⊢;obtain ⟨all,e1,e2,e3,e4,e5⟩:=H.threads hI;have hT:x.ownsRow g.N 33 1 g.vT all.length (all.map fun t=>P0 t.tb):=by
  rw [e3,show all.length=g.thr.length from e1.trans H.gate.num.symm];exact H.gate.ths
 have h0:x.cell? (th g.rb 0)=some g.vT:=Xa H.gate.obj 0;rw [H.rb] at h0;replace h:=HD h;replace ih:=HD ih;have HH:=HD H;have HI:=HD hI;have HS:=HD hS;have HM:=HD hmost;have HW:=HD hw;have HR:=HD hr;have HN:=HD hn;clear H hI hS hmost hw hr hn
 repeat refine kx ?_
 refine kf (args:=#[P0 F.rb]) Try.func131 ?_;refine Xf4 all (by have:=HN.out;omega) h0 hT e2 (fun y vl hown hsz hold=>?_);rw [Frame.finish_at,e5];walk_nrm;rw [e4] at hown;simp only [List.length_map] at hown;have Hy:Stood Post S F g P m none C y:=HH.out.frame (fun r hr=>hold r (HH.out.gate.colLt hr)) hsz fun j a ha=>World.cell?_of_block (hold a.block (S.keepI HI.out j a ha).1);have hIy:S.I P.st.sh P.st.cells g.col y:=S.frame HI.out _ _ hsz (fun r hr _=>hold r hr) fun _ _ h=>h;obtain ⟨al,ac,rfl⟩:=Xq hown;obtain ⟨aw,wc,evW⟩:=Xq Hy.gate.wn;have k3:y.cell? (th F.rb 3)=some (.slice aw P.st.went.length wc):=by rw [← Hy.rb,Xa Hy.gate.obj 3,← evW];rfl
 clear hold hsz e4 e3 hT h0 HH HI;replace Hy:=HD Hy;replace hIy:=HD hIy;replace hown:=HD hown;replace e2:=HD e2;cases ho:P.over with
 | true =>
  rw [Xp.runs_over ho] at h
  repeat refine kx ?_
  refine JG.ret ?_;exact JG.leave rfl rfl Try.func82 (fun τ d=>results_tmp2 (t:=8) (u:=9) rfl _ _ _) (h.out g C y Hy.out.zero hIy.out)
 | false =>
  by_cases hab:P.able = []
  ·rw [Xp.runs_dead ho hab] at h
   have hl:P.able.length=0:=by rw [hab];rfl
   rw [hl]
   repeat refine kx ?_
   refine JG.ret ?_;exact JG.leave rfl rfl Try.func82 (fun τ d=>results_tmp2 (t:=8) (u:=9) rfl _ _ _) (h.out g C y Hy.out.zero hIy.out)
  ·have hl:0 < P.able.length:=List.length_pos_iff.2 hab
   have d1:decide ((P.able.length:Int)=0)=false:=by simp;exact hab
   have d2:decide (P.able.length=0)=false:=by simp;exact hab
   have d0:((P.able.length:Int) == 0)=false:=by simp;exact hab
   cases m with
   | zero =>
    rw [Xp.runs_cut ho hab] at h;have hwm:P.st.went.length=most:=HW.out;have d3:decide ((P.st.went.length:Int)=most)=true:=by simp [hwm]
    have d4:decide (P.st.went.length=most)=true:=by simp [hwm]
    have d5:((P.st.went.length:Int) == (most:Int))=true:=by simp [hwm]
    have d6:(P.st.went.length == most)=true:=by simp [hwm]
    clear hwm
    repeat refine kx ?_
    refine JG.ret ?_;exact JG.leave rfl rfl Try.func82 (fun τ d=>results_tmp2 (t:=8) (u:=9) rfl _ _ _) (h.out g C y Hy.out.zero hIy.out)
   | succ m =>
    rw [Xp.runs_turn ho hab] at h;have d3:decide ((P.st.went.length:Int)=most)=false:=by have:=HW.out;simp;omega
    have d4:decide (P.st.went.length=most)=false:=by have:=HW.out;simp;omega
    have d5:((P.st.went.length:Int) == (most:Int))=false:=by have:=HW.out;simp;omega
    have d6:(P.st.went.length == most)=false:=by have:=HW.out;simp;omega
    repeat refine kx ?_
    refine JG.call (f:=fs) (args:=#[.int .i64 P.st.went.length,.slice al P.able.length ac] ++ cap) rfl (by rfl) (by decide) (fun w=>?_) (fun w=>?_) ?_
    ·obtain ⟨fn,h1,h2,h3⟩:=HS.out.has
     have h4 : ¬ fn.name = "runtime.NumGoroutine" := by simpa using h2
     have h5:¬ fn.body=none:=by intro e;rw [e] at h3;cases h3
     simp [go_sem,execOp,Act.eval,resolve,Deferred.ofValue,invoke,callFunc,h1,h4,h5]
    ·obtain ⟨fn,h1,h2,h3⟩:=HS.out.has
     have h4 : ¬ fn.name = "runtime.NumGoroutine" := by simpa using h2
     have h5:¬ fn.body=none:=by intro e;rw [e] at h3;cases h3
     simp [go_sem,execOp,Act.eval,resolve,Deferred.ofValue,invoke,callFunc,h1,h4,h5]
    refine HS.out.go g P (m + 1) C y _ _ _ _ Hy.out hab hown.out (by have:=HW.out;have:=HM.out;omega) HN.out (fun q hq hpick=>?_);rw [← hpick] at h;obtain ⟨hqn,r,k,hpr⟩:=Hy.out.mayAcc hq;obtain ⟨t,ht⟩:∃ t,g.thr[q]? = some t:=⟨_,List.getElem?_eq_getElem (by rw [Hy.out.gate.num];exact hqn)⟩
    have htb:g.tbOf q=t.tb:=by unfold Gs.tbOf;rw [ht];rfl
    rw [htb,Frame.finish_at];walk_nrm
    repeat refine kx ?_
    have hG:=Hy.out.gate;obtain ⟨_,_,_,_,⟨vv,a,hto,_⟩,_⟩:=hG.thr q t ht;have hobj:=hG.obj;rw [Hy.out.rb] at hobj;refine hwJ (N:=g.N) (vW:=g.vW) (num:=q) (went:=P.st.went.map fun i=>.int .i64 (i:Nat)) (Xa hto 1) hobj (by rw [List.length_map];exact hG.wn) hG.low (Zp hG.wn fun cur=>by rw [hobj];simp) (Zp hG.wn fun cur=>by rw [hto];simp) (by rw [List.length_map];have:=HW.out;have:=HM.out;omega) (fun e=>by rw [e,hobj] at hto;simp at hto) ?_;intro y1 vW' a4 a5 a6 a7 a8 a9 a10 a11 a13 a15 a16 a17 a18 a19 a20 a21 a22 a23 a24 a25 a26 a27 a28 a29 a30 a31 a32 a33 a34 a35 a36 a37 a38 a39 a40 a41 a42 a43 a44 a45 a46 a47 a48 a49 a50 a51 a52 a53 a54 a55 a56 a57 a58 a59 a60 a61 a62 a63 a64 a65 a66 a67 a68 a69 a70 a71 a72 a73 a74 a75 a76 a77 a78 a79 w1 w2 w3 w4 w5;rw [List.length_map] at w2;rw [← Hy.out.rb] at w1 w5;obtain ⟨H1,hI1⟩:=Hy.out.wentOn hIy.out w1 w2 w3 w4 w5;have hG1:=H1.gate;have hobj1:=hG1.obj;have hrb1:({ g with vW:=vW' }:Gs).rb=F.rb:=Hy.out.rb;rw [hrb1] at hobj1;refine hrJ (N:=g.N) (vR:=g.vR) (n:=P.able.length) (ready:=P.st.ready.map fun i=>.int .i64 (i:Nat)) hobj1 (by rw [List.length_map];exact hG1.rd) hG1.low (Zp hG1.rd fun cur=>by rw [hobj1];simp) (by rw [List.length_map];have:=HR.out;have:=HW.out;have:=HM.out;omega) ?_;intro y2 vR' b4 b5 b6 b7 b8 b9 b10 b11 b13 b15 b16 b17 b18 b19 b20 b21 b22 b23 b24 b25 b26 b27 b28 b29 b30 b31 b32 b33 b34 b35 b36 b37 b38 b39 b40 b41 b42 b43 b44 b45 b46 b47 b48 b49 b50 b51 b52 b53 b54 b55 b56 b57 b58 b59 b60 b61 b62 b63 b64 b65 b66 b67 b68 b69 b70 b71 b72 b73 b74 b75 b76 b77 b78 b79 v1 v2 v3 v4 v5;rw [List.length_map] at v2;rw [← hrb1] at v1 v5;obtain ⟨H2,hI2⟩:=H1.readyOn hI1 v1 v2 v3 v4 v5
    repeat refine kx ?_
    refine kf (args:=#[P0 t.tb]) Try.func132 ?_;refine XeV H2 hI2 ht hpr (S.fin.turn (Hy.out.fine rfl) hq) (fun g' C' z _ H3 hI3=>?_);rw [Frame.finish_at];walk_nrm
    repeat refine kx ?_
    refine JG.inLoop ?_;obtain ⟨n1,n2,n3⟩:=Xex (P:={ P with st:={ P.st with went:=P.st.went ++ [q],ready:=P.st.ready ++ [P.able.length] } }) q;refine ih.out m rfl g' (P.turn q) C' z _ _ _ _ _ _ _ _ _ _ _ _ _ _ _ _ _ _ _ _ _ _ _ _ _ _ _ _ _ _ _ _ _ _ _ _ _ _ _ _ _ _ _ _ _ _ _ _ _ _ _ _ _ _ _ _ _ _ _ _ _ _ _ _ _ _ _ _ _ _ _ _ _ _ _ _ _ H3 hI3 ?_ ?_ ?_ h.out
    ·show (Xp.goes _ q).st.went.length + m=most
     rw [n2];simp;have:=HW.out;omega
    ·show (Xp.goes _ q).st.ready.length=(Xp.goes _ q).st.went.length
     rw [n2,n3];simp [HR.out]
    ·show (Xp.goes _ q).n≤64
     rw [n1];exact HN.out
theorem Vc (hS:UW Post S F fs cap sched) (hmost:most≤65536):∀ m,UT Post S F fs cap sched most c cs m
 | 0=>Us hS hmost 0 fun m' e=>by cases e
 | m + 1=>Us hS hmost (m + 1) fun m' e=>by
  obtain rfl:m=m':=Nat.succ.inj e;exact Vc hS hmost m
end
section
variable {Sh:Type} {Post:Value→World→Prop} {S:Zv Sh} {F:Fix} {g:Gs} {P:Xp Sh} {m:Nat} {C:Ctx} {x:World} {h:Option Nat}
theorem Stood.keptCell (H:Stood Post S F g P m h C x) {r k:Nat} (hr:F.kept r):x.cell? (th r k)=F.x0.cell? (th r k):=by
 have:=(H.gate.kept r (H.kept r hr)).2.trans (H.x0 r hr)
 simp only [World.cell?];rw [this]
theorem Xcm {picks:List Int} {pb pv pc:Nat} {po:Option Addr} (hk1:F.kept pb) (hk2:F.kept pv) (h1:F.x0.cell? (th pb 0)=some (.slice po picks.length pc)) (h2:F.x0.cell? (th pv 0)=some (P0 F.rb))
 (h3:picks≠[]→∃ gp,po=some ⟨gp,0,none⟩∧F.kept gp∧∀ (j:Nat) (q:Int),picks[j]? = some q→F.x0.cell? (th gp j)=some (.int .i64 q)):UW Post S F 83 #[P0 pb,P0 pv] (picked picks):=by
 refine ⟨⟨_,Try.func83,by kernel_rfl,by kernel_rfl⟩,fun g P m C x N vl c cs H hab hown hwl hn hnext=>?_⟩;have hl:0 < P.able.length:=List.length_pos_iff.2 hab;obtain ⟨gb,cap,rfl,hg⟩:=Qi hown (by omega);have hlen:P.able.length≤P.n:=by unfold Xp.able;exact Nat.le_trans (List.length_filter_le _ _) (by simp)
 obtain ⟨gw,wc,hwn⟩:∃ gw wc,(x.cell? (th g.rb 3)=some (.slice (some ⟨gw,0,none⟩) P.st.went.length wc)∨P.st.went = [])∧∀ (j q:Nat),P.st.went[j]? = some q→x.cell? (th gw j)=some (.int .i64 q):=by
  by_cases hw:P.st.went = []
  ·exact ⟨0,0,.inr hw,fun j q e=>by rw [hw] at e;simp at e⟩
  ·obtain ⟨gw,wc,e1,e2⟩:=Qi H.gate.wn (fun e=>hw (List.length_eq_zero_iff.1 e))
   refine ⟨gw,wc,.inl ?_,fun j q e=>e2 j _ (by rw [List.getElem?_map,e];rfl)⟩;rw [Xa H.gate.obj 3];show some g.vW=_;rw [e1]
 have hp:=XfS (Post:=Post) (C:=C) (x:=x) (c:=c) (cs:=cs) (pb:=pb) (pv:=pv) (rb:=g.rb) (g:=gb) (pc:=pc) (cap:=cap) (gw:=gw) (po:=po) (wc:=wc) picks (P.able.map fun i=>(i,g.tbOf i)) P.st.went (by rw [H.keptCell hk1];exact h1)
  (fun e=>by
    obtain ⟨gp,q1,q2,q3⟩:=h3 e;exact ⟨gp,q1,fun j q hq=>by rw [H.keptCell q2];exact q3 j q hq⟩) (by rw [H.keptCell hk2,H.rb];exact h2) hwn.1 hwn.2 (by omega) (by simpa using hl) (by rw [List.length_map];omega)
  (fun j q hq=>by
    rw [List.getElem?_map] at hq;cases e:P.able[j]? with
    | none=>rw [e] at hq;cases hq
    | some i =>
     rw [e] at hq;obtain rfl:=OI hq;exact hg j _ (by rw [List.getElem?_map,e];rfl))
  (fun j q hq=>by
    rw [List.getElem?_map] at hq;cases e:P.able[j]? with
    | none=>rw [e] at hq;cases hq
    | some i =>
     rw [e] at hq;obtain rfl:=OI hq;obtain ⟨hi,_⟩:=H.mayAcc (List.mem_of_getElem? e);obtain ⟨t,ht⟩:∃ t,g.thr[i]? = some t:=⟨_,List.getElem?_eq_getElem (by rw [H.gate.num];exact hi)⟩
     obtain ⟨_,_,_,_,⟨vv,a,hto,_⟩,_⟩:=H.gate.thr i t ht;show x.cell? (th (g.tbOf i) 1)=_;rw [show g.tbOf i=t.tb by unfold Gs.tbOf;rw [ht];rfl];exact Xa hto 1)
  (fun q hq hpick=>by
    obtain ⟨i,hi,rfl⟩:=List.mem_map.1 hq;refine hnext i hi ?_;have hid:((fun q:Nat × Nat=>q.1) ∘ fun i=>(i,g.tbOf i))=id:=rfl;rw [List.map_map,hid,List.map_id] at hpick;exact hpick)
 rw [List.length_map] at hp;exact hp
end
structure Xa8 (Sh:Type) where
 fb:FuncId
 cap:Array Value
 prog:Xx Sh Unit
theorem Xp.start_st {Sh:Type}:∀ (l:List (Xx Sh Unit)) (P:Xp Sh),(P.start l).n=P.n + l.length∧(P.start l).st.went=P.st.went∧(P.start l).st.ready=P.st.ready
 | [],P=>⟨rfl,rfl,rfl⟩
 | p::l,P=>by
  obtain ⟨h1,h2,h3⟩:=Xp.start_st l (({ P with n:=P.n + 1 }:Xp Sh).settle P.n p);refine ⟨?_,h2,h3⟩;show (Xp.start _ l).n=_;rw [h1];show P.n + 1 + l.length=P.n + (l.length + 1)
  omega
section
variable {Sh:Type} {Post:Value→World→Prop} {S:Zv Sh} {F:Fix} {fs:FuncId} {cap:Array Value} {sched:List Nat→List Nat→Nat} {most m:Nat} {c:Frame} {cs:List Frame} {bodies:List (Xa8 Sh)} {ab:Option Addr} {bc:Nat}
theorem Xax (hbs:∀ (j:Nat) (b:Xa8 Sh),bodies[j]? = some b→∃ bb,ab=some ⟨bb,0,none⟩∧F.kept bb∧F.x0.cell? (th bb j)=some (.func (.func b.fb) #[] b.cap)) (hok:∀ (j:Nat) (b:Xa8 Sh),bodies[j]? = some b→Vu Post S j m b.fb b.cap b.prog) (hlen:bodies.length≤64) :
 ∀ (k i:Nat),i + k=bodies.length→∀ (g:Gs) (P:Xp Sh) (C:Ctx) (x:World) (u2 u4 u5 u6 u7 u8 u9 B0 B1 B2 B3 B4 B8 B9 D0 D1 D2 D3 D4 D5 D6 D7 D8 D9 E0 E1 E2 E3 E4 E5 E6 E7 E8 E9 G0 G1 G2 G3 G4 G5 G6 G7 G8 G9 H0 H4 H5 H6 H7 H8 H9 I0 I1 I2 I3 I4 I5 I6 I7 I8 I9 J0 J1 J2 J3 J4 J5 J6 J7 J8 J9 K0 K1 K2:Value),Stood Post S F g P m none C x→S.I P.st.sh P.st.cells g.col x→P.n=i→(∀ l1 l2,(bodies.drop i).map (fun b=>b.prog)=l1 ++ l2→S.fin.f m (P.start l1)) →
 (∀ (g':Gs) (C':Ctx) (z:World) (u2 u4 u5 u6 u7 u8 u9 B0 B1 B2 B3 B4 B5 B6 B7 B8 B9 D0 D1 D2 D3 D4 D5 D6 D7 D8 D9 E0 E1 E2 E3 E4 E5 E6 E7 E8 E9 G0 G1 G2 G3 G4 G5 G6 G7 G8 G9 H0 H4 H5 H6 H7 H8 H9 I0 I1 I2 I3 I4 I5 I6 I7 I8 I9 J0 J1 J2 J3 J4 J5 J6 J7 J8 J9 K0 K1 K2:Value),Stood Post S F g' (P.start ((bodies.drop i).map fun b=>b.prog)) m none C' z→S.I (P.start ((bodies.drop i).map fun b=>b.prog)).st.sh (P.start ((bodies.drop i).map fun b=>b.prog)).st.cells g'.col z→JG Try.prog Post C' (G ((base 82).at ⟨List.toArray ((P0 F.rb)::(.int .i64 most)::u2::(.func (.func fs) #[] cap)::u4::u5::u6::u7::u8::u9::B0::B1::B2::B3::B4::B5::B6::B7::B8::B9::D0::D1::D2::D3::D4::D5::D6::D7::D8::D9::E0::E1::E2::E3::E4::E5::E6::E7::E8::E9::G0::G1::G2::G3::G4::G5::G6::G7::G8::G9::H0::H4::H5::H6::H7::H8::H9::I0::I1::I2::I3::I4::I5::I6::I7::I8::I9::J0::J1::J2::J3::J4::J5::J6::J7::J8::J9::K0::K1::K2::[]),[]⟩ [.code (Code.nav (Try.f82.body.getD .skip) [1,1])]) (c::cs)) z) →
 JG Try.prog Post C (G ((base 82).at ⟨List.toArray ((P0 F.rb)::(.int .i64 most)::u2::(.func (.func fs) #[] cap)::u4::u5::u6::u7::u8::u9::B0::B1::B2::B3::B4::(.slice ab bodies.length bc)::(.int .i64 bodies.length)::(.int .i64 i)::B8::B9::D0::D1::D2::D3::D4::D5::D6::D7::D8::D9::E0::E1::E2::E3::E4::E5::E6::E7::E8::E9::G0::G1::G2::G3::G4::G5::G6::G7::G8::G9::H0::H4::H5::H6::H7::H8::H9::I0::I1::I2::I3::I4::I5::I6::I7::I8::I9::J0::J1::J2::J3::J4::J5::J6::J7::J8::J9::K0::K1::K2::[]),[]⟩ [.code (Code.nav (Try.f82.body.getD .skip) [1,0,1,0,0]),.inLoop (Code.nav (Try.f82.body.getD .skip) [1,0,1,0,0]),.inBlock 0,.code (Code.nav (Try.f82.body.getD .skip) [1,1])]) (c::cs)) x:=by
 intro k
 induction k with
 | zero =>
  intro i hik g P C x u2 u4 u5 u6 u7 u8 u9 B0 B1 B2 B3 B4 B8 B9 D0 D1 D2 D3 D4 D5 D6 D7 D8 D9 E0 E1 E2 E3 E4 E5 E6 E7 E8 E9 G0 G1 G2 G3 G4 G5 G6 G7 G8 G9 H0 H4 H5 H6 H7 H8 H9 I0 I1 I2 I3 I4 I5 I6 I7 I8 I9 J0 J1 J2 J3 J4 J5 J6 J7 J8 J9 K0 K1 K2 H hI hn _ h;simp only [Try.f82,Option.getD_some,Code.nav] at h ⊢;have hx:decide ((i:Int) < bodies.length)=false:=by simp;omega
  have hxN:decide (i < bodies.length)=false:=by simp;omega
  rw [List.drop_eq_nil_of_le (by omega)] at h;replace h:=h g C x;replace h:=fun (w2 w4 w5 w6 w7 w8 w9 w10 w11 w12 w13 w14 w15 w16 w17 w18 w19 w20 w21 w22 w23 w24 w25 w26 w27 w28 w29 w30 w31 w32 w33 w34 w35 w36 w37 w38 w39 w40 w41 w42 w43 w44 w45 w46 w47 w48 w49 w50 w51 w52 w53 w54 w55 w56 w57 w58 w59 w60 w61 w62 w63 w64 w65 w66 w67 w68 w69 w70 w71 w72 w73 w74 w75 w76 w77 w78 w79:Value)=>h w2 w4 w5 w6 w7 w8 w9 w10 w11 w12 w13 w14 w15 w16 w17 w18 w19 w20 w21 w22 w23 w24 w25 w26 w27 w28 w29 w30 w31 w32 w33 w34 w35 w36 w37 w38 w39 w40 w41 w42 w43 w44 w45 w46 w47 w48 w49 w50 w51 w52 w53 w54 w55 w56 w57 w58 w59 w60 w61 w62 w63 w64 w65 w66 w67 w68 w69 w70 w71 w72 w73 w74 w75 w76 w77 w78 w79 H hI;replace h:=HD h;clear H hI
  repeat refine kx ?_
  refine JG.exit (by rfl) ?_
  first|exact h.out _ _ _ _ _ _ _ _ _ _ _ _ _ _ _ _ _ _ _ _ _ _ _ _ _ _ _ _ _ _ _ _ _ _ _ _ _ _ _ _ _ _ _ _ _ _ _ _ _ _ _ _ _ _ _ _ _ _ _ _ _ _ _ _ _ _ _ _ _ _ _ _ _ _ _ _ _|(walk_nrm;exact h.out _ _ _ _ _ _ _ _ _ _ _ _ _ _ _ _ _ _ _ _ _ _ _ _ _ _ _ _ _ _ _ _ _ _ _ _ _ _ _ _ _ _ _ _ _ _ _ _ _ _ _ _ _ _ _ _ _ _ _ _ _ _ _ _ _ _ _ _ _ _ _ _ _ _ _ _ _)
 | succ k ih =>
  intro i hik g P C x u2 u4 u5 u6 u7 u8 u9 B0 B1 B2 B3 B4 B8 B9 D0 D1 D2 D3 D4 D5 D6 D7 D8 D9 E0 E1 E2 E3 E4 E5 E6 E7 E8 E9 G0 G1 G2 G3 G4 G5 G6 G7 G8 G9 H0 H4 H5 H6 H7 H8 H9 I0 I1 I2 I3 I4 I5 I6 I7 I8 I9 J0 J1 J2 J3 J4 J5 J6 J7 J8 J9 K0 K1 K2 H hI hn hfine h;simp only [Try.f82,Option.getD_some,Code.nav] at ih h ⊢;have hx:decide ((i:Int) < bodies.length)=true:=by simp;omega
  have hxN:decide (i < bodies.length)=true:=by simp;omega
  have hlt:i < bodies.length:=by omega
  have hltI:(i:Int) < bodies.length:=by omega
  have h0i:(0:Int)≤i:=by omega
  have hw:IntKind.i64.wrap ((i:Int) + 1)=((i + 1:Nat):Int):=by rw [IntKind.wrap_i64];omega
  obtain ⟨b,hb⟩:∃ b,bodies[i]? = some b:=⟨_,List.getElem?_eq_getElem hlt⟩
  obtain ⟨bb,rfl,hbk,hbc⟩:=hbs i b hb;have hgi:x.cell? (th bb i)=some (.func (.func b.fb) #[] b.cap):=by rw [H.keptCell hbk];exact hbc
  have hdrop:bodies.drop i=b::bodies.drop (i + 1):=by
   rw [List.drop_eq_getElem_cons hlt];rw [List.getElem?_eq_getElem hlt] at hb;rw [OI hb]
  rw [hdrop,List.map_cons] at h;have hf1:=hfine [b.prog] ((bodies.drop (i + 1)).map fun b=>b.prog) (by rw [hdrop];rfl);have hf2:∀ l1 l2,(bodies.drop (i + 1)).map (fun b=>b.prog)=l1 ++ l2→S.fin.f m ((({ P with n:=P.n + 1 }:Xp Sh).settle P.n b.prog).start l1):=fun l1 l2 e=>hfine (b.prog::l1) l2 (by rw [hdrop,List.map_cons,e];rfl);replace hf1:=HD hf1;replace hf2:=HD hf2;clear hfine;have hrb:=H.rb;replace h:=HD h;replace ih:=HD ih;have HH:=HD H;have HI:=HD hI;replace hbs:=HD hbs;replace hdrop:=HD hdrop;replace hb:=HD hb;clear H hI hbc
  repeat refine kx ?_
  refine kf (args:=#[P0 F.rb,.func (.func b.fb) #[] b.cap]) Try.func130 ?_;rw [← hrb];refine Xfv HH.out HI.out (by omega) (by rw [hn];exact hok i b hb.out) rfl hf1.out (fun g' C' z tb H2 hI2=>?_);rw [hrb,Frame.finish_at];walk_nrm
  repeat refine kx ?_
  refine JG.inLoop ?_;exact ih.out (i + 1) (by omega) g' _ C' z _ _ _ _ _ _ _ _ _ _ _ _ _ _ _ _ _ _ _ _ _ _ _ _ _ _ _ _ _ _ _ _ _ _ _ _ _ _ _ _ _ _ _ _ _ _ _ _ _ _ _ _ _ _ _ _ _ _ _ _ _ _ _ _ _ _ _ _ _ _ _ _ _ _ H2 hI2 (by show P.n + 1=_;omega) hf2.out h.out
theorem XeL (hS:UW Post S F fs cap sched) (hmost:most≤65536) (hbs:∀ (j:Nat) (b:Xa8 Sh),bodies[j]? = some b→∃ bb,ab=some ⟨bb,0,none⟩∧F.kept bb∧F.x0.cell? (th bb j)=some (.func (.func b.fb) #[] b.cap)) (hok:∀ (j:Nat) (b:Xa8 Sh),bodies[j]? = some b→Vu Post S j most b.fb b.cap b.prog) (hlen:bodies.length≤64)
 {g:Gs} {P:Xp Sh} {C:Ctx} {x:World} (H:Stood Post S F g P most none C x) (hI:S.I P.st.sh P.st.cells g.col x) (hn:P.n=0) (hw:P.st.went = []) (hr:P.st.ready = []) (hfine:∀ l1 l2,bodies.map (fun b=>b.prog)=l1 ++ l2→S.fin.f most (P.start l1))
 (h:∀ (g':Gs) (C':Ctx) (z:World),Stood Post S F g' ((P.start (bodies.map fun b=>b.prog)).runs sched most).2 0 none C' z→S.I ((P.start (bodies.map fun b=>b.prog)).runs sched most).2.st.sh ((P.start (bodies.map fun b=>b.prog)).runs sched most).2.st.cells g'.col z →
   JG Try.prog Post C' (G (c.finish (.tuple #[.int .i8 ((P.start (bodies.map fun b=>b.prog)).runs sched most).1,.bool true])) cs) z) :
 JG Try.prog Post C (G (Frame.enter Try.prog 82 #[P0 F.rb,.int .i64 most,.slice ab bodies.length bc,.func (.func fs) #[] cap] .normal) (c::cs)) x:=by
 have hb:=@Xax Sh Post S F fs cap most most c cs bodies ab bc hbs hok hlen bodies.length 0 (by omega) g P C x;have hl:=@Vc Sh Post S F fs cap sched most c cs hS hmost most;unfold UT at hl;simp only [Try.f82,Option.getD_some,Code.nav] at hb hl;replace hb:=HD hb;replace hl:=HD hl;replace h:=HD h;have HH:=HD H;have HI:=HD hI;have HW:=HD (And.intro hw hr);clear hS hbs hok H hI hw hr;refine Xu Try.func82 (by rfl) (by rfl) ?_;simp only [Try.f82,Option.getD_some];walk_nrm
 repeat refine kx ?_
 refine JG.loop ?_;refine hb.out _ _ _ _ _ _ _ _ _ _ _ _ _ _ _ _ _ _ _ _ _ _ _ _ _ _ _ _ _ _ _ _ _ _ _ _ _ _ _ _ _ _ _ _ _ _ _ _ _ _ _ _ _ _ _ _ _ _ _ _ _ _ _ _ _ _ _ _ _ _ _ _ _ _ HH.out HI.out hn (by rw [List.drop_zero];exact hfine) ?_;intro g' C' z w2 w4 w5 w6 w7 w8 w9 w10 w11 w12 w13 w14 w15 w16 w17 w18 w19 w20 w21 w22 w23 w24 w25 w26 w27 w28 w29 w30 w31 w32 w33 w34 w35 w36 w37 w38 w39 w40 w41 w42 w43 w44 w45 w46 w47 w48 w49 w50 w51 w52 w53 w54 w55 w56 w57 w58 w59 w60 w61 w62 w63 w64 w65 w66 w67 w68 w69 w70 w71 w72 w73 w74 w75 w76 w77 w78 w79 H2 hI2;rw [List.drop_zero] at H2 hI2;obtain ⟨s1,s2,s3⟩:=Xp.start_st (bodies.map fun b=>b.prog) P
 repeat refine kx ?_
 refine JG.loop ?_;refine hl.out g' _ C' z _ _ _ _ _ _ _ _ _ _ _ _ _ _ _ _ _ _ _ _ _ _ _ _ _ _ _ _ _ _ _ _ _ _ _ _ _ _ _ _ _ _ _ _ _ _ _ _ _ _ _ _ _ _ _ _ _ _ _ _ _ _ _ _ _ _ _ _ _ _ _ _ _ _ _ _ _ H2 hI2 ?_ ?_ ?_ h.out
 ·rw [s2,HW.out.1];simp
 ·rw [s2,s3,HW.out.1,HW.out.2]
 ·rw [s1,List.length_map];omega
