/- CellAlone, whole. -/
import Derived.Test.YtdhnggjmegilkaaSRoF
import Derived.Test.YtdhnggjmegilkaaSFcE
set_option linter.all false
set_option maxRecDepth 100000
set_option maxHeartbeats 16000000
namespace Go.Proofs.Ytdhnggjmegilkaa
open Go.Conc Go.RowKit
open Go.ConcN (upd upd_same upd_ne)
set_option maxRecDepth 100000
structure Ctx.Alone (C:Ctx) (N:Nat):Prop where
 d:C.d=0
 h:C.h < C.n
 lo:C.lo≤N
 none:∀ i,i≠C.h→C.Ch i=none
structure Ctx.Same (C C':Ctx):Prop where
 h:C'.h=C.h
 lo:C'.lo=C.lo
 io:C'.io=C.io
theorem box_set {x y:World} {bc cb n:Nat} {v:Int} (u:Int) (hne:bc≠cb) (b:y.heap[bc]? = some (.cells #[P0 cb] 29 (0,0))) (i:XN y cb v) (o:Xg x y) (hcb:x.heap.size≤cb) (s:y.heap.size=n) :
 (y.setCell (th cb 0) (.int .i64 u)).heap[bc]? = some (.cells #[P0 cb] 29 (0,0))∧XN (y.setCell (th cb 0) (.int .i64 u)) cb u∧Xg x (y.setCell (th cb 0) (.int .i64 u))∧(y.setCell (th cb 0) (.int .i64 u)).heap.size=n :=
 ⟨(Xb hne).trans b,i.set u,⟨by rw [Xh];exact o.1,fun r hr=>by rw [Xb (by omega)];exact o.2 r hr⟩,by rw [Xh];exact s⟩
theorem Qz {w:World} {N:Nat} {e:TypeId} {size:Nat} {v:Value} {n:Nat} {xs:List Value} (h:w.ownsRow N e size v n xs) (hn:n≠0):∃ g cap,v=.slice (some ⟨g,0,none⟩) n cap∧N≤g∧g < w.heap.size∧∀ i u,xs[i]? = some u→w.cell? (th g i)=some u:=by
 rcases h.2 with ⟨_,h0⟩|⟨g,cap,cur,rfl,hb,hg,_,_,_,ht⟩
 ·exact absurd h0 hn
 ·refine ⟨g,cap,rfl,hb,(GE hg).1,fun i u hu=>?_⟩
  rw [Xa hg,← Array.getElem?_toList];rw [← ht,List.getElem?_take] at hu
  split at hu
  ·exact hu
  ·cases hu
section
variable {Post:Value→World→Prop} {C:Ctx} {x:World} {c:Frame} {cs:List Frame}
theorem works02_J (hC:C.Alone x.heap.size) (h:∀ (C':Ctx) (y:World),Xg x y→C.Same C'→C'.Alone y.heap.size→JG Try.prog Post C' (G (c.finish (.bool true)) cs) y) :
 JG Try.prog Post C (G (Frame.enter Try.prog 12 #[] .normal) (c::cs)) x:=by
 replace hC:=HD hC;replace h:=HD h;refine Xu Try.func12 (by rfl) (by rfl) ?_;simp only [Try.f12,Option.getD_some];walk_nrm
 repeat refine kx ?_
 refine kf (args:=#[.int .i64 5]) Try.func14 ?_;refine cellNewI_J fun y1 o1 i1 s1=>?_;rw [Frame.finish_at];walk_nrm;generalize hcb:x.heap.size=cb at i1 s1 hC ⊢;replace i1:=HD i1;replace o1:=HD o1;replace s1:=HD s1
 repeat refine kx ?_
 refine ko fun K E hK hE τ d=>?_;go_simp;refine hK _ _ (jt (x:=y1.alloc (.cells #[.pointer none] 29)) ?_);simp only [Xs];clear hK hE K E τ d;have b1:(y1.alloc (.cells #[.pointer none] 29)).heap[y1.heap.size]? = some (.cells #[.pointer none] 29 (0,0)):=heap_alloc_new y1 _;have o2:=o1.out.alloc (.cells #[.pointer none] 29);have i2:XN (y1.alloc (.cells #[.pointer none] 29)) cb 5:=by unfold XN;rw [Xl,Array.getElem?_push,if_neg (by have:=s1.out;omega)];exact i1.out
 have s2:(y1.alloc (.cells #[.pointer none] 29)).heap.size=y1.heap.size + 1:=by simp
 generalize y1.alloc (.cells #[.pointer none] 29)=y2 at b1 o2 i2 s2 ⊢;have s1':=s1.out;clear s1;generalize hbc:y1.heap.size=bc at b1 s1' s2 ⊢;clear i1 o1;have q0:y2.cell? (th bc 0)=some (.pointer none):=Xa b1 0;have q1:y2.frozen? (th bc 0)=false:=Xe b1 0;replace s1':=HD s1';refine kst (And.intro q0 q1) ?_;have hne:bc≠cb:=by have:=s1'.out;omega
 have b2:(y2.setCell (th bc 0) (P0 cb)).heap[bc]? = some (.cells #[P0 cb] 29 (0,0)):=by rw [Xd b1];rfl
 have i3:XN (y2.setCell (th bc 0) (P0 cb)) cb 5:=(Xb hne.symm).trans i2;have o3:Xg x (y2.setCell (th bc 0) (P0 cb)):=⟨by rw [Xh];exact o2.1,fun r hr=>by rw [Xb (by have:=s1'.out;omega)];exact o2.2 r hr⟩
 have s3:(y2.setCell (th bc 0) (P0 cb)).heap.size=bc + 1:=by rw [Xh,s2]
 clear q0 q1 b1 i2 o2 s2;generalize y2.setCell (th bc 0) (P0 cb)=y3 at b2 i3 o3 s3 ⊢;have k3:y3.cell? (th bc 0)=some (P0 cb):=Xa b2 0;replace s3:=HD s3;replace o3:=HD o3
 repeat refine kx ?_
 refine kf (args:=#[P0 cb,.pointer none]) Try.func29 ?_;refine UG i3.free ?_;rw [Frame.finish_at];walk_nrm
 repeat refine kx ?_
 refine kf (args:=#[P0 cb,.pointer none,.int .i64 2]) Try.func73 ?_;refine add_J i3.free ?_;rw [Frame.finish_at];walk_nrm;rw [show wrap64 (5 + 2)=7 from by decide +kernel];have hcbx:x.heap.size≤cb:=by omega
 obtain ⟨b4,i4,o4,s4⟩:=box_set 7 hne b2 i3 o3.out hcbx s3.out;generalize y3.setCell (th cb 0) (.int .i64 7)=y4 at b4 i4 o4 s4 ⊢;have k4:y4.cell? (th bc 0)=some (P0 cb):=Xa b4 0;replace s4:=HD s4;replace o4:=HD o4;clear b2 i3 o3 s3 k3
 repeat refine kx ?_
 refine kf (args:=#[P0 cb,.pointer none,.int .i64 7,.int .i64 1]) Try.func74 ?_;refine XgA i4.free ?_;rw [if_pos rfl,Frame.finish_at,show decide ((7:Int)=7)=true from rfl];walk_nrm;obtain ⟨b5,i5,o5,s5⟩:=box_set 1 hne b4 i4 o4.out hcbx s4.out;generalize y4.setCell (th cb 0) (.int .i64 1)=y5 at b5 i5 o5 s5 ⊢;have k5:y5.cell? (th bc 0)=some (P0 cb):=Xa b5 0;replace s5:=HD s5;replace o5:=HD o5;clear b4 i4 o4 s4 k4
 repeat refine kx ?_
 refine kf (args:=#[P0 cb,.pointer none,.int .i64 0]) Try.func75 ?_;refine swap_J i5.free ?_;rw [Frame.finish_at];walk_nrm;obtain ⟨b6,i6,o6,s6⟩:=box_set 0 hne b5 i5 o5.out hcbx s5.out;generalize y5.setCell (th cb 0) (.int .i64 0)=y6 at b6 i6 o6 s6 ⊢;replace s6:=HD s6;replace o6:=HD o6;clear b5 i5 o5 s5 k5
 repeat refine kx ?_
 refine ko fun K E hK hE τ d=>?_;go_simp;refine hK _ _ (jt (x:=y6.alloc (.cells #[.int .i64 0] 2)) ?_);simp only [Xs];clear hK hE K E τ d;have g0:(y6.alloc (.cells #[.int .i64 0] 2)).heap[y6.heap.size]? = some (.cells #[.int .i64 0] 2 (0,0)):=heap_alloc_new y6 _;have o7:Xg y6 (y6.alloc (.cells #[.int .i64 0] 2)):=(Xg.refl y6).alloc _;generalize y6.alloc (.cells #[.int .i64 0] 2)=y7 at g0 o7 ⊢;have l6c:=i6.lt;have l6b:=(GE b6).1;generalize hgb:y6.heap.size=gb at g0 o7 l6c l6b ⊢;refine kst (And.intro (Xa g0 0) (Xe g0 0)) ?_;have g8:(y7.setCell (th gb 0) (.int .i64 0)).heap[gb]? = some (.cells #[.int .i64 0] 2 (0,0)):=by rw [Xd g0];rfl
 have o8:Xg y6 (y7.setCell (th gb 0) (.int .i64 0)):=⟨by rw [Xh];exact o7.1,fun r hr=>by rw [Xb (by omega)];exact o7.2 r hr⟩
 generalize y7.setCell (th gb 0) (.int .i64 0)=y8 at g8 o8 ⊢;have i8:XN y8 cb 0:=(o8.2 cb (by omega)).trans i6;have b8:=(o8.2 bc (by omega)).trans b6;have o9:=o6.out.trans o8;clear g0 o7 o8 i6 b6 o6
 repeat refine kx ?_
 refine ko fun K E hK hE τ d=>?_;go_simp;refine hK _ _ (jal fun w1 o10 f0 _=>?_);simp only [Xs];clear hK hE K E τ d;have l8g:=(GE g8).1;have l8c:=i8.lt;have l8b:=(GE b8).1;generalize hbb:y8.heap.size=bb at f0 o10 l8g l8c l8b ⊢;rw [← hbb] at l8g l8c l8b;have gw:=(o10.2 gb (by omega)).trans g8;have bw:=(o10.2 bc (by omega)).trans b8;have iw:XN w1 cb 0:=(o10.2 cb (by omega)).trans i8;have ow:=o9.trans o10;clear g8 i8 b8 o9 o10;have lbb:=(GE f0).1;have hbcx:x.heap.size≤bc:=by have:=s1'.out;omega
 have hgbx:x.heap.size≤gb:=by have:=s6.out;omega
 have hne':bc≠cb∧gb≠cb:=⟨hne,by omega⟩
 replace ow:=HD ow;replace gw:=HD gw;replace bw:=HD bw;replace iw:=HD iw;replace f0:=HD f0
 repeat refine kx ?_
 refine kf (args:=#[.slice none 0 0,.int .i64 9,.slice (some ⟨bb,0,none⟩) 2 2]) Try.func18 ?_;refine Xgq (S:=w02Side bc gb cb hne') (Kp:=fun r=>r < x.heap.size∨r=bb) (picks:=[]) (most:=9) (m:=9) (bodies:=[⟨76,#[P0 bc,P0 gb],w02P1⟩,⟨78,#[P0 bc],w02P2⟩]) (sh:=0) (cells:=fun _=>0) (by decide) hC.out.d hC.out.h (Nat.le_trans hC.out.lo (by have:=ow.out.1;omega)) hC.out.none (fun e=>absurd rfl e) (fun j b e=>?_) (show 2≤64 by decide) (fun r hr=>?_) (fun j b hb=>?_) ?_ (fun l1 l2 e=>XV.no_start l1 _ _ (fun p hp=>w02_no p (by rw [show [w02P1,w02P2] = l1 ++ l2 from e];exact List.mem_append_left _ hp)) (fun j hj=>absurd hj (Nat.not_lt_zero j)))
  (fun Q e C' z M vL vW vR vl hQ d1 d2 d3 d4 d5 d6 hz hsz hM r1 r2 r3 r4 hI hQn hlv hnm=>?_)
 ·refine ⟨bb,rfl,.inr rfl,?_⟩
  match j,e with
  | 0,e=>obtain rfl:=OI e;exact Xa f0.out 0
  | 1,e=>obtain rfl:=OI e;exact Xa f0.out 1
  | j + 2,e=>simp at e
 ·rcases hr with h|rfl
  ·have:=ow.out.1;omega
  ·exact lbb
 ·match j,hb with
  | 0,e=>obtain rfl:=OI e;exact w02_b1 (by omega)
  | 1,e=>obtain rfl:=OI e;exact w02_b2
  | j + 2,e=>simp at e
 ·exact ⟨fun i _=>⟨iw.out,show ¬ (cb < x.heap.size∨cb=bb) by omega⟩,⟨bw.out,show ¬ (bc < x.heap.size∨bc=bb) by omega⟩,gw.out,show ¬ (gb < x.heap.size∨gb=bb) by omega⟩
 rw [Frame.finish_at];walk_nrm;have hq:w02run=(e,Q):=hQ;have he:e=1:=by have:=w02_end;rw [hq] at this;exact this
 have hsh:Q.st.sh=4:=by have:=w02_sh;rw [hq] at this;exact this
 have hcl:Q.st.cells 0=4:=by have:=w02_cell;rw [hq] at this;exact this
 have hlog:Q.st.log = [⟨1,2,0,4,0,0,4,false⟩,⟨0,6,0,0,0,4,4,false⟩]:=by have:=w02_log;rw [hq] at this;exact this
 obtain ⟨hIc,⟨hIb,_⟩,hIg,_⟩:=hI;have iz:XN z cb 4:=by have:=(hIc 0 (show 0 < 1 from Nat.zero_lt_one)).1;rw [hcl] at this;exact this
 rw [hsh] at hIg;rw [hlog] at r1;obtain ⟨gL,cL,rfl,hLM,hLz,hLc⟩:=Qz r1 (by decide);obtain ⟨aW,cW,rfl⟩:=Xq r2;obtain ⟨aR,cR,rfl⟩:=Xq r3;obtain ⟨al,cl,rfl⟩:=Xq r4;have oz:Xg x z:=⟨by have:=ow.out.1;omega,fun r hr=>(hz r (.inl hr)).trans (ow.out.2 r hr)⟩
 have x0:z.cell? (th gL 0)=some (.int .i64 1):=hLc 0 _ rfl;have x9:z.cell? (th gL 9)=some (.int .i8 6):=hLc 9 _ rfl;subst he;clear hQ hq hsh hcl hlog hIc r1 r2 r3 r4 hLc hz f0 gw bw iw ow hnm hlv;replace oz:=HD oz;replace iz:=HD iz
 repeat refine kx ?_
 refine ko fun K E hK hE τ d=>?_;go_simp;refine hK _ _ (jal fun w2 s4 wn _=>?_);simp only [Xs];clear hK hE K E τ d;have lzg:=(GE hIg).1;have lzb:=(GE hIb).1;have lzc:=iz.out.lt;generalize hq:z.heap.size=q at wn s4 lzg lzb lzc hLz hsz ⊢;have m0:w2.cell? (th q 0)=some (.int .i8 0):=Xa wn 0;have n0:w2.frozen? (th q 0)=false:=Xe wn 0;have m1:w2.cell? (th q 1)=some (.int .i64 0):=Xa wn 1;have n1:w2.frozen? (th q 1)=false:=Xe wn 1;have m2:w2.cell? (th q 2)=some (.slice none 0 0):=Xa wn 2;have n2:w2.frozen? (th q 2)=false:=Xe wn 2;have m3:w2.cell? (th q 3)=some (.slice none 0 0):=Xa wn 3;have n3:w2.frozen? (th q 3)=false:=Xe wn 3;have m4:w2.cell? (th q 4)=some (.slice none 0 0):=Xa wn 4;have n4:w2.frozen? (th q 4)=false:=Xe wn 4;have m5:w2.cell? (th q 5)=some (.slice none 0 0):=Xa wn 5;have n5:w2.frozen? (th q 5)=false:=Xe wn 5;have m6:w2.cell? (th q 6)=some (.slice none 0 0):=Xa wn 6;have n6:w2.frozen? (th q 6)=false:=Xe wn 6;refine ko fun K E hK hE τ d=>?_;have m0':=(Xk w2 τ d _).trans m0;have n0':=(Xf w2 τ d _).trans n0;have m1':=(Xk w2 τ d _).trans m1;have n1':=(Xf w2 τ d _).trans n1;have m2':=(Xk w2 τ d _).trans m2;have n2':=(Xf w2 τ d _).trans n2;have m3':=(Xk w2 τ d _).trans m3;have n3':=(Xf w2 τ d _).trans n3;have m4':=(Xk w2 τ d _).trans m4;have n4':=(Xf w2 τ d _).trans n4;have m5':=(Xk w2 τ d _).trans m5;have n5':=(Xf w2 τ d _).trans n5;have m6':=(Xk w2 τ d _).trans m6;have n6':=(Xf w2 τ d _).trans n6;go_simp;refine hK _ _ ?_;rw [Xc,Xc,Xc,Xc,Xc,Xc,Xc];refine jt ?_;clear m0 n0 m0' n0' m1 n1 m1' n1' m2 n2 m2' n2' m3 n3 m3' n3' m4 n4 m4' n4' m5 n5 m5' n5' m6 n6 m6' n6' hK hE K E τ d;obtain ⟨v,hv⟩:∃ v,v=(((((((w2.setCell (th q 0) (.int .i8 1)).setCell (th q 1) (.int .i64 Q.st.went.length)).setCell (th q 2) (.slice (some ⟨gL,0,none⟩) 2 cL)).setCell (th q 3) (.slice aW Q.st.went.length cW)).setCell (th q 4) (.slice aR Q.st.ready.length cR)).setCell (th q 5) (.slice al Q.left.length cl)).setCell (th q 6) (.slice none 0 0)):=⟨_,rfl⟩
 rw [← hv]
 try walk_nrm
 have hsv:v.heap.size=w2.heap.size:=by rw [hv,Xh,Xh,Xh,Xh,Xh,Xh,Xh]
 have hvo:∀ r,r≠q→v.heap[r]? = w2.heap[r]?:=fun r h=>by
  rw [hv,Xb h,Xb h,Xb h,Xb h,Xb h,Xb h,Xb h]
 have hvn:v.heap[q]? = some (.cells #[.int .i8 1,.int .i64 Q.st.went.length,.slice (some ⟨gL,0,none⟩) 2 cL,.slice aW Q.st.went.length cW,.slice aR Q.st.ready.length cR,.slice al Q.left.length cl,.slice none 0 0] 43 (0,0)):=by
  rw [hv];exact Xd (Xd (Xd (Xd (Xd (Xd (Xd wn))))))
 clear hv wn;have hvz:Xg z v:=⟨by rw [hsv];exact s4.1,fun r hr=>(hvo r (by omega)).trans (s4.2 r (by omega))⟩
 have v0:v.cell? (th q 0)=some (.int .i8 1):=Xa hvn 0;have v2:v.cell? (th q 2)=some (.slice (some ⟨gL,0,none⟩) 2 cL):=Xa hvn 2;have v3:v.cell? (th gL 0)=some (.int .i64 1):=hvz.cell x0;have v4:v.cell? (th gL 9)=some (.int .i8 6):=hvz.cell x9;have v5:v.cell? (th gb 0)=some (.int .i64 4):=Xa ((hvz.2 gb (by omega)).trans hIg) 0;have v6:v.cell? (th bc 0)=some (P0 cb):=Xa ((hvz.2 bc (by omega)).trans hIb) 0;have iv:XN v cb 4:=(hvz.2 cb (by omega)).trans iz.out;have ov:=oz.out.trans hvz;have hal:C'.Alone v.heap.size:=⟨d1,by have h1:=hC.out.h;have h2:C'.n=C.n + 2:=d3;omega,by have:=hC.out.lo;have:=ov.1;omega,fun i hi=>d6 i (by omega)⟩
 have hsm:C.Same C':=⟨d2,d4,d5⟩
 clear hvo hvz s4 x0 x9 hIg hIb;replace ov:=HD ov
 repeat refine kx ?_
 refine kf (args:=#[P0 cb,.pointer none]) Try.func29 ?_;refine UG iv.free ?_;rw [Frame.finish_at];walk_nrm
 repeat refine kx ?_
 refine JG.ret ?_;exact JG.leave rfl rfl Try.func12 (fun τ d=>results_tmp (t:=0) rfl _ _ _) (h.out C' v ov.out hsm hal)
end
section
variable {Post:Value→World→Prop} {C C2:Ctx} {x y:World} {aL:Option Addr} {n cL bt:Nat} {tv:Value} {op ce ar ne:Nat→Int} {v:Int}
theorem noSeat {C:Ctx} {N:Nat} (h:C.Alone N):∀ r,¬ C.prot.objs r:=fun r hr=>by
 obtain ⟨i,s,hi,e,_⟩:=hr;rw [h.none i hi] at e;cases e
theorem alone_rest {u2 u3 u4 u5 u6 u7 u9 B0 B1 B2 B3 B4 B5 B6 B7 B8 B9 D0 D1 D2 D3 D4 D5 D6 D7 D8 D9 E0 E1 E2 E3 E4 E5 E6 E7 E8 E9 G0 G1 G2 G3 G4 G5 G6 G7 G8 G9 H0 H4 H5 H6 H7 H8 H9 I0 I1 I2 I3 I4 I5 I6 I7 I8 I9 J0 J1 J2 J3 J4 J5 J6 J7 J8 J9 K0 K1 K2 K3 K4 K5 K6 K7 K8 K9 L0 L1 L2 L3 L4 L5 L6 L7 L8 L9 M0 M1 M2:Value} (hC:XgL C x) (h:XgT Post C x) (hsm:C.Same C2) (hal:C2.Alone y.heap.size) (ho:Xg x y) (hb:y.heap[bt]? = some (.cells #[tv] 33 (0,0))) (hbt:x.heap.size≤bt) (hd:Dead y tv)
 (htv:∀ tb,tv=P0 tb→tb < y.heap.size) (hn:n≤2000) (H:CallsIn x x.heap.size aL n op ce ar ne) :
 JG Try.prog Post C2 (G ((base 4).at ⟨List.toArray (.int .i64 v::.slice aL n cL::u2::u3::u4::u5::u6::u7::P0 bt::u9::B0::B1::B2::B3::B4::B5::B6::B7::B8::B9::D0::D1::D2::D3::D4::D5::D6::D7::D8::D9::E0::E1::E2::E3::E4::E5::E6::E7::E8::E9::G0::G1::G2::G3::G4::G5::G6::G7::G8::G9::H0::H4::H5::H6::H7::H8::H9::I0::I1::I2::I3::I4::I5::I6::I7::I8::I9::J0::J1::J2::J3::J4::J5::J6::J7::J8::J9::K0::K1::K2::K3::K4::K5::K6::K7::K8::K9::L0::L1::L2::L3::L4::L5::L6::L7::L8::L9::M0::M1::M2::[]),[]⟩ [.code (Code.nav (Try.f4.body.getD .skip) [1,1,1,1,1])]) []) y:=by
 have hloop:=@alone_loop Post C2 [];simp only [Try.f4,Option.getD_some,Code.nav] at hloop;obtain ⟨c1,c2,c3,c4,c5⟩:=hC;replace h:=HD h;replace hal:=HD hal;replace hd:=HD hd;replace hb:=HD hb;replace htv:=HD htv;simp only [Try.f4,Option.getD_some,Code.nav]
 repeat refine kx ?_
 refine kf (args:=#[.int .i64 v]) Try.func14 ?_;refine cellNewI_J fun y1 o1 i1 s1=>?_;rw [Frame.finish_at];walk_nrm;have o1x:=HD (ho.trans o1);have hbl:=(GE hb.out).1;have hb1:=HD ((o1.2 bt hbl).trans hb.out);have hd1:=HD (hd.out.cells fun tb e=>o1.2 tb (htv.out tb e));have hcx:x.heap.size≤y.heap.size:=ho.1;generalize hcb:y.heap.size=cb at i1 s1 hbl hcx hal htv ⊢;replace i1:=HD i1;clear o1 hd hb ho
 repeat refine kx ?_
 refine ko fun K E hK hE τ d=>?_;go_simp;refine hK _ _ (jal fun y2 o2 w0 s2=>?_);simp only [Xs];clear hK hE K E τ d;generalize hgl:y1.heap.size=gl at w0 s1 s2 ⊢;have hinv:AlInv x y2.heap.size bt gl cb tv y2 v:=by
  have hi2:XN y2 cb v:=(o2.2 cb (by omega)).trans i1.out;have hf:=hi2.free;refine ⟨o1x.out.trans o2,(o2.2 bt (by omega)).trans hb1.out,w0,hd1.out.cells fun tb e=>o2.2 tb (by have:=htv.out tb e;omega),⟨none,⟨hf.v,hf.made,hf.mu,hf.ch,hf.fr,fun c e=>by cases e⟩,fun c e=>by cases e⟩,⟨by omega,by omega,by omega,fun tb e=>by have:=htv.out tb e;omega,Nat.le_refl _⟩,by omega,⟨by omega,by omega,fun e=>by have:=htv.out cb e;omega⟩⟩
 have hnz:∀ r,¬ C2.prot.objs r:=noSeat hal.out;replace hinv:=HD hinv;clear i1 o1x hb1 hd1 w0 o2 s1 s2 hgl
 repeat refine kx ?_
 refine JG.loop ?_;refine hloop (aL:=aL) (op:=op) (ce:=ce) (ar:=ar) (ne:=ne) hnz hn H n 0 (Nat.zero_add _) y2 v _ _ _ _ _ _ _ _ _ _ _ _ _ _ _ _ _ _ _ _ _ _ _ _ _ _ _ _ _ _ _ _ _ _ _ _ _ _ _ _ _ _ _ _ _ _ _ _ _ _ _ _ _ _ _ _ _ _ _ _ _ _ _ _ _ hinv.out ?_;intro z now w13 w14 w15 w16 w17 w36 w37 w38 w39 w40 w41 w42 w43 w44 w45 w46 w47 w48 w49 w50 w51 w52 w53 w54 w55 w56 w57 w58 w59 w60 w61 w62 w63 w64 w65 w66 w67 w68 w69 w70 w71 w72 w73 w74 w75 w76 w77 w78 w79 w80 w81 w82 w83 w84 w85 w86 w87 w88 w89 w90 w91 w92 w93 w94 w95 hz;obtain ⟨ch,hfc,hch⟩:=hz.cell;have hzo:=HD hz.old;have hch2:Hid (∀ c,ch=some c→x.heap.size≤c):=HD (fun c e=>by have:=hch c e;have:=hz.lt;have:=hz.lo;omega);replace hfc:=HD hfc;clear hloop hinv hz hch
 repeat refine kx ?_
 refine kf (args:=#[P0 cb,.pointer none]) Try.func29 ?_;refine loadC_J hnz hfc.out (.inl rfl) fun z' hz'=>?_;obtain ⟨_,hzs,hzold⟩:=hz';have hold:Xg x z':=⟨Nat.le_trans hzo.out.1 hzs,fun r hr=>(hzold r (Nat.lt_of_lt_of_le hr hzo.out.1) (by omega) (fun e=>by have:=hch2.out r e;omega)).trans (hzo.out.2 r hr)⟩
 rw [Frame.finish_at];walk_nrm;have e1:(now == now)=true:=by simp
 repeat refine kx ?_
 refine JG.ret ?_;exact JG.end (hsm.h.trans c1) hal.out.d (fun i hi=>hal.out.none i (by have h1:=hsm.h;omega)) rfl rfl Try.func4 (by kernel_rfl) (fun w _ d=>results_tmp (t:=6) rfl _ _ _) (fun w=>events_results_tmp rfl _ _) (fun w hT hio d=>h.out (w.at d) (hio.trans hsm.io) (by have:=hT.size;have:=hold.1;show x.heap.size≤w.heap.size;omega) (fun r hr=>((hT.old r (by show r < C2.lo;have:=hsm.lo;omega)).symm.trans (hold.2 r hr))))
theorem cellAlone_all {en:Bool} (hC:XgL C x) (h:XgT Post C x) (H:CallsIn x x.heap.size aL n op ce ar ne) :
 JG Try.prog Post C (G (Frame.enter Try.prog 4 #[.int .i64 v,.slice aL n cL,.bool en] .normal) []) x:=by
 have hrest:=@alone_rest Post C;simp only [Try.f4,Option.getD_some,Code.nav] at hrest;have hC0:=HD hC;obtain ⟨c1,c2,c3,c4,c5⟩:=hC;have hal:C.Alone x.heap.size:=⟨c2,by omega,by omega,fun i _=>c4 i⟩
 replace h:=HD h;replace hal:=HD hal;refine Xu Try.func4 (by rfl) (by rfl) ?_;simp only [Try.f4,Option.getD_some];walk_nrm
 repeat refine kx ?_
 refine kf (args:=#[]) Try.func12 ?_;refine works02_J hal.out (fun C1 y1 o1 sm1 al1=>?_);rw [Frame.finish_at];walk_nrm;replace o1:=HD o1;replace al1:=HD al1;replace sm1:=HD sm1;rcases Nat.lt_or_ge 2000 n with hl|hl
 ·have d1:decide (2000 < n)=true:=by simpa using hl
  have d2:decide ((2000:Int) < n)=true:=by simp;omega
  clear hrest
  repeat refine kx ?_
  refine JG.ret ?_;exact JG.end (sm1.out.h.trans c1) al1.out.d (fun i hi=>al1.out.none i (by have h1:=sm1.out.h;omega)) rfl rfl Try.func4 (by kernel_rfl) (fun w _ d=>results_tmp (t:=6) rfl _ _ _) (fun w=>events_results_tmp rfl _ _) (fun w hT hio d=>h.out (w.at d) (hio.trans sm1.out.io) (by have:=hT.size;have:=o1.out.1;show x.heap.size≤w.heap.size;omega) (fun r hr=>((hT.old r (by show r < C1.lo;have:=sm1.out.lo;omega)).symm.trans (o1.out.2 r hr))))
 ·have d1:decide (2000 < n)=false:=by simp;omega
  have d2:decide ((2000:Int) < n)=false:=by simp;omega
  repeat refine kx ?_
  refine ko fun K E hK hE τ d=>?_;go_simp;refine hK _ _ (jal fun y2 o2 b0 s2=>?_);simp only [Xs];clear hK hE K E τ d;have hx1:=o1.out.1;generalize hbt:y1.heap.size=bt at b0 s2 hx1 ⊢;have ox2:=HD (o1.out.trans o2);have al2:C1.Alone y2.heap.size:=⟨al1.out.d,al1.out.h,by have:=al1.out.lo;omega,al1.out.none⟩
  clear o1 al1 o2 hbt;replace al2:=HD al2;cases en
  ·repeat (first|exact hrest hC0.out h.out sm1.out al2.out ox2.out b0 hx1 (.inl rfl) (fun tb e=>by cases e) hl H|refine kx ?_)
  ·repeat refine kx ?_
   refine ko fun K E hK hE τ d=>?_;go_simp;refine hK _ _ (jal fun y3 o3 f0 s3=>?_);simp only [Xs];clear hK hE K E τ d;have b3:=(o3.2 bt (GE b0).1).trans b0;have ox3:=HD (ox2.out.trans o3);generalize hfb:y2.heap.size=fb at f0 s3 s2 ⊢;have hlo3:C1.lo≤y3.heap.size:=by have:=al2.out.lo;omega
   clear o3 b0
   repeat refine kx ?_
   refine kf (args:=#[.slice none 0 0,.int .i64 1,.slice (some ⟨fb,0,none⟩) 1 1]) Try.func18 ?_;refine run_J (fb:=27) (cap:=#[P0 bt]) (R:=fun tb y z=>z=y.setCell (th bt 0) (P0 tb)) al2.out.d al2.out.h hlo3 (aloneMild b3) rfl (Xa f0 0) (fun i s hi hs=>by rw [al2.out.none i hi] at hs;cases hs) (al2.out.none _ (by have:=al2.out.h;omega)) fun Ch' tb z0 z1 y hCh hz0 hz0s hR hy hys hthr=>?_;obtain ⟨rb',n',wk',st',htb,hthr⟩:=hthr;have hR':z1=z0.setCell (th bt 0) (P0 tb):=hR;subst hR';have hbl:=(GE b3).1;have hbx:y.heap[bt]? = some (.cells #[P0 tb] 33 (0,0)):=(hy bt hbl).trans (by rw [Xd ((hz0 bt hbl).trans b3)];rfl);have hox:Xg x y:=⟨by have:=ox3.out.1;rw [Xh] at hys;omega,fun r hr=>by
    have h1:=ox3.out.1;rw [hy r (by omega),Xb (by omega),hz0 r (by omega)];exact ox3.out.2 r hr⟩
   have hdd:Dead y (P0 tb):=.inr ⟨tb,rb',rfl,Xa hthr 0,Xa hthr 13⟩;have htl:=(GE hthr).1;have hal2:({ Ch:=Ch',h:=C1.h,d:=0,n:=C1.n + 1,lo:=C1.lo,io:=C1.io }:Ctx).Alone y.heap.size:=⟨rfl,by show C1.h < C1.n + 1;have:=al2.out.h;omega,by show C1.lo≤_;rw [Xh] at hys;omega,fun i hi=>(hCh i hi).trans (al2.out.none i hi)⟩
   have hsm2:C.Same ({ Ch:=Ch',h:=C1.h,d:=0,n:=C1.n + 1,lo:=C1.lo,io:=C1.io }:Ctx):=⟨sm1.out.h,sm1.out.lo,sm1.out.io⟩
   have htb2:∀ t,P0 tb=P0 t→t < y.heap.size:=fun t e=>by
    have e2:tb=t:=by simpa [P0] using e
    rw [← e2];exact htl
   rw [Frame.finish_at];walk_nrm
   repeat (first|exact hrest hC0.out h.out hsm2 hal2 hox hbx hx1 hdd htb2 hl H|refine kx ?_)
