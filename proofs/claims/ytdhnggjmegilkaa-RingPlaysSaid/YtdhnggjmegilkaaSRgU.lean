/- The ring law goes through all threads along the record. -/
import Derived.Test.YtdhnggjmegilkaaSRgS
set_option linter.all false
set_option maxRecDepth 100000
set_option maxHeartbeats 16000000
namespace Go.Proofs.Ytdhnggjmegilkaa
open Go.Conc Go.RowKit
open Go.ConcN (upd upd_same upd_ne)
set_option maxRecDepth 100000
theorem XeG {T:List Ym} {k:Nat} {a:Ym} (h:T[k]? = some a) (i:Nat) (u:Value) (hu:(XS.cells a)[i]? = some u):(XS.vals T)[k * 3 + i]? = some u:=by
 induction T generalizing k with
 | nil=>simp at h
 | cons b T ih =>
  have e:XS.vals (b::T)=XS.cells b ++ XS.vals T:=by simp [Enc.vals]
  have hl:(XS.cells b).length=3:=rfl;rw [e];cases k with
  | zero =>
   obtain rfl:b=a:=by simpa using h
   rw [Nat.zero_mul,Nat.zero_add,List.getElem?_append_left (LE' hu).1];exact hu
  | succ k =>
   rw [List.getElem?_append_right (by rw [hl];omega),hl,show (k + 1) * 3 + i - 3=k * 3 + i by omega];exact ih (by simpa using h)
section
variable {Post:Value→World→Prop} {C:Ctx} {cs:List Frame} {t:TR} {Q:Xp (Nat→List Ym)} {q xb j:Nat} {kk:List Item} {x0 x1:World} {gv:List Bool} {K:Wk} {L:List X4}
structure Xgn (t:TR) (Q:Xp (Nat→List Ym)) (K:Wk) (gv:List Bool) (xb j:Nat) (L:List X4) (x0 x1:World):Prop where
 H:TlR t Q x0
 o:Xg x0 x1
 ok:RK K t.nc t.n
 L:t.Ss[j]? = some L
 M:K.M=x1.heap.size
 xb:x1.heap.size≤xb
theorem Xgn.turned (h:Xgn t Q K gv xb j L x0 x1) {y z:World} {gv':List Bool} (hW:WAt K gv' y) (ho:Xg x1 y) (hk:XA (Yg K xb) y z):Xg x1 z :=
 ⟨Nat.le_trans ho.1 hk.size,fun r hr=>(hk.block r (Nat.lt_of_lt_of_le hr ho.1) fun e=>by
  rcases e with (e|e)|e
  ·have:=XE hW.nms e.symm;rw [h.M] at this;omega
  ·have:=XE hW.gvn e.symm;rw [h.M] at this;omega
  ·have:=h.xb;omega).trans (ho.2 r hr)⟩
def rkW (K:Wk) (gv:List Bool) (xb j:Nat) (l:List (Xm Ym)) (T:List Ym) (d:Xm Ym) (x1 x:World) (C:Ctx) (D:Nat→Bool) (cv:Nat→Value) (C':Ctx) (y:World):Prop :=
 C'=C∧Xg x1 y∧x.heap.size≤y.heap.size∧match D 0,D 1 with
 | false,false=>WS K gv xb j l T false d y
 | false,true=>WS K gv xb j l T false d y∧∃ b,cv 1=P0 b∧x.heap.size≤b∧y.heap[b]? = some (.cells #[.int .i64 0,.bool false,.int .i64 0] 93 (0,0))
 | true,false=>∃ out a,cv 0=aV a∧WS K gv xb j l T out (.ret a) y
 | true,true=>∃ out a,cv 0=aV a∧WS K gv xb j l T out (.ret a) y∧∃ b,cv 1=P0 b∧x.heap.size≤b∧y.heap[b]? = some (.cells #[.int .i64 0,.bool false,.int .i64 0] 93 (0,0))
theorem Wi {u0 u2 u3 u5 u6 B4 B5 B6 B7 B8 B9 D0 D1 D2 D3 D4 D5 D6 D7 D8 D9 E0 E1 E2 E3 E4 E5 E6 E7 E8 E9 G0 G1 G2 G3 G4 G5 G6 G7 G8 G9 H4 H5 H6 H7 H8 H9 I0 I1 I2 I3 I4 I5 I6 I7 I8 I9 J0 R1 R2 R3 R4 R5 R6 R7 R8 R9 S0 S1 S2 S3 S4 S5 S6 S7:Value} (S:Xgn t Q K gv xb j L x0 x1):∀ (p k:Nat),k + p=L.length→∀ (x:World) (B3 J1 J2 J3 J4 J5 J6 J7 J8 J9 K0 K1 K4 K5 K6 K7 K8 K9 L0 L1 L2 L3 L4 L5 L6 L7 L8 L9 M0 M1 M4 M5 M6 M7 M8 M9 N1 N5 N6 N7 N8 N9 O0 O1 O2 O3 O4 O5 O6 O7 O8 O9 R0:Value),Xg x1 x→WM K gv xb j (L.map (X4.d t.n 8193)) (Q.st.sh j) k false x →
 (∀ (y:World) (k:Nat) (out:Bool) (B3 J1 J2 J3 J4 J5 J6 J7 J8 J9 K0 K1 K4 K5 K6 K7 K8 K9 L0 L1 L2 L3 L4 L5 L6 L7 L8 L9 M0 M1 M4 M5 M6 M7 M8 M9 N1 N5 N6 N7 N8 N9 O0 O1 O2 O3 O4 O5 O6 O7 O8 O9 R0:Value),Xg x1 y→WM K gv xb j (L.map (X4.d t.n 8193)) (Q.st.sh j) k out y→(out=true∨k=(L.map (X4.d t.n 8193)).length)→JG Try.prog Post C (G ((base 6).at ⟨List.toArray (u0::P0 t.bp::u2::u3::P0 t.bs::u5::u6::P0 q::P0 K.wb::.int .i64 j::P0 xb::.int .i64 k::.int .i64 k::B3::B4::B5::B6::B7::B8::B9::D0::D1::D2::D3::D4::D5::D6::D7::D8::D9::E0::E1::E2::E3::E4::E5::E6::E7::E8::E9::G0::G1::G2::G3::G4::G5::G6::G7::G8::G9::H4::H5::H6::H7::H8::H9::I0::I1::I2::I3::I4::I5::I6::I7::I8::I9::J0::J1::J2::J3::J4::J5::J6::J7::J8::J9::K0::K1::K4::K5::K6::K7::K8::K9::L0::L1::L2::L3::L4::L5::L6::L7::L8::L9::M0::M1::M4::M5::M6::M7::M8::M9::N1::N5::N6::N7::N8::N9::O0::O1::O2::O3::O4::O5::O6::O7::O8::O9::R0::R1::R2::R3::R4::R5::R6::R7::R8::R9::S0::S1::S2::S3::S4::S5::S6::S7::[]),[]⟩ (kk)) cs) y) →
 JG Try.prog Post C (G ((base 6).at ⟨List.toArray (u0::P0 t.bp::u2::u3::P0 t.bs::u5::u6::P0 q::P0 K.wb::.int .i64 j::P0 xb::.int .i64 k::.int .i64 k::B3::B4::B5::B6::B7::B8::B9::D0::D1::D2::D3::D4::D5::D6::D7::D8::D9::E0::E1::E2::E3::E4::E5::E6::E7::E8::E9::G0::G1::G2::G3::G4::G5::G6::G7::G8::G9::H4::H5::H6::H7::H8::H9::I0::I1::I2::I3::I4::I5::I6::I7::I8::I9::J0::J1::J2::J3::J4::J5::J6::J7::J8::J9::K0::K1::K4::K5::K6::K7::K8::K9::L0::L1::L2::L3::L4::L5::L6::L7::L8::L9::M0::M1::M4::M5::M6::M7::M8::M9::N1::N5::N6::N7::N8::N9::O0::O1::O2::O3::O4::O5::O6::O7::O8::O9::R0::R1::R2::R3::R4::R5::R6::R7::R8::R9::S0::S1::S2::S3::S4::S5::S6::S7::[]),[]⟩ (.code (Code.nav (Try.f6.body.getD .skip) [1,1,1,1,1,1,1,1,1,1,1,0,1,0,0,1,0,0,1,1,0,1,0,0])::.inLoop (Code.nav (Try.f6.body.getD .skip) [1,1,1,1,1,1,1,1,1,1,1,0,1,0,0,1,0,0,1,1,0,1,0,0])::.inBlock 4::kk)) cs) x:=by
 intro p
 induction p with
 | zero =>
  intro k hkp x B3 J1 J2 J3 J4 J5 J6 J7 J8 J9 K0 K1 K4 K5 K6 K7 K8 K9 L0 L1 L2 L3 L4 L5 L6 L7 L8 L9 M0 M1 M4 M5 M6 M7 M8 M9 N1 N5 N6 N7 N8 N9 O0 O1 O2 O3 O4 O5 O6 O7 O8 O9 R0 ho hI h;obtain rfl:k=L.length:=by omega
  have hT:=S.H.old (S.o.trans ho);have y2:=hT.c2;obtain ⟨gS,oS,aC,cC,hS1,y3,_,hl⟩:=hT.sc j L S.L;rw [hS1] at y2;have hjn:j < t.nS:=by rw [← S.H.num];exact (LE' S.L).1
  have hj0:(j:Int) < t.nS:=by omega
  replace h:=HD (h x L.length false);replace ho:=HD ho;replace hI:=HD hI;clear hT S hS1;simp only [Try.f6,Option.getD_some,Code.nav];have hx:decide ((L.length:Int) < L.length)=false:=by simp
  have hxN:decide (L.length < L.length)=false:=by simp
  repeat refine kx ?_
  refine JG.exit (by rfl) ?_
  try walk_nrm
  exact h.out _ _ _ _ _ _ _ _ _ _ _ _ _ _ _ _ _ _ _ _ _ _ _ _ _ _ _ _ _ _ _ _ _ _ _ _ _ _ _ _ _ _ _ _ _ _ _ _ _ _ _ _ _ ho.out hI.out (.inr (by rw [List.length_map]))
 | succ p ih =>
  intro k hkp x B3 J1 J2 J3 J4 J5 J6 J7 J8 J9 K0 K1 K4 K5 K6 K7 K8 K9 L0 L1 L2 L3 L4 L5 L6 L7 L8 L9 M0 M1 M4 M5 M6 M7 M8 M9 N1 N5 N6 N7 N8 N9 O0 O1 O2 O3 O4 O5 O6 O7 O8 O9 R0 ho hI h;have hkl:k < L.length:=by omega
  obtain ⟨c,hc⟩:∃ c,L[k]? = some c:=⟨_,List.getElem?_eq_getElem hkl⟩
  have hT:=S.H.old S.o;have w0:=hT.c0;have w1:=hT.c1;have w2:=hT.c2;obtain ⟨gS,oS,aC,cC,hS1,w3,hops,hl⟩:=hT.sc j L S.L;rw [hS1] at w2;obtain ⟨gO,oO,haC,_,z0,z1⟩:=hops k c hc;subst haC;have y2:=ho.cell w2;have y3:=ho.cell w3;have hjn:j < t.nS:=by rw [← S.H.num];exact (LE' S.L).1
  have hj0:(j:Int) < t.nS:=by omega
  have yx:=hI.s.cell2;have hd:(L.map (X4.d t.n 8193)).drop k=YZ t.n 8193 c.o c.v::(L.drop (k + 1)).map (X4.d t.n 8193):=by
   rw [List.drop_eq_getElem_cons (by rw [List.length_map];exact hkl),List.getElem_map,List.map_drop]
   congr 2
   have:=OI ((List.getElem?_eq_getElem hkl).symm.trans hc)
   rw [this]
  have hws:=hI.ws hd;have hkT:=hI.tl;have hown:∀ r,ZW K xb r→r < x.heap.size:=fun r hr=>hws.own_lt hr;have hktl:∀ r,Yg K xb r→r < x.heap.size:=fun r hr=>hws.ktl r hr;have IH:=HD ih;have HS:=HD S;have Hh:=HD h;have Hdd:=HD hd;replace ho:=HD ho;replace hI:=HD hI;replace hws:=HD hws;replace hc:=HD hc;replace hown:=HD hown;replace hktl:=HD hktl;clear ih S h hd hT hops hS1;simp only [Try.f6,Option.getD_some,Code.nav];have hx:decide ((k:Int) < L.length)=true:=by simp;omega
  have hxN:decide (k < L.length)=true:=by simp;omega
  have x4:(k:Int) < L.length:=by omega
  have x6:(0:Int)≤k:=by omega
  repeat refine kx ?_
  refine JG.drawPo 13 (fun i=>if i=11 then some 0 else if i=12 then some 1 else none) (fun _=>[]) (rkW K gv xb j ((L.drop (k + 1)).map (X4.d t.n 8193)) ((Q.st.sh j).drop k) (YZ t.n 8193 c.o c.v) x1 x C) 2 [some 88,some 13] (fun _=>undef) (by kernel_rfl) (by kernel_rfl) (by kernel_rfl) (by decide) (by decide) ⟨rfl,ho.out,Nat.le_refl _,hws.out⟩ ?_;clear y2 y3 yx;apply Exists.intro;apply And.intro
  ·intro D cv C' y hW
   have hoy:=hW.2.1;have v0:=hoy.cell w0;have v1:=hoy.cell w1;have y2:=hoy.cell w2;have y3:=hoy.cell w3;have u0:=hoy.cell z0;have u1:=hoy.cell z1;replace hW:=HD hW;replace hoy:=HD hoy;simp only [List.take]
   repeat first|(refine XF.rd (by rfl) (fun K hK τ d=>?_);go_simp;refine hK _ ?_;clear hK K τ d)|(refine XF.rd (by rfl) (fun K hK τ d=>?_);have hfact:=uc τ d (y2);go_simp;refine hK _ ?_;clear hfact hK K τ d)|(refine XF.rd (by rfl) (fun K hK τ d=>?_);have hfact:=uc τ d (y3);go_simp;refine hK _ ?_;clear hfact hK K τ d)
   refine XF.rd (by rfl) (fun K hK τ d=>?_);have q0:=uc τ d v0;have q1:=uc τ d v1;go_simp;refine hK _ ?_;clear q0 q1 hK K τ d
   repeat first|(refine XF.rd (by rfl) (fun K hK τ d=>?_);go_simp;refine hK _ ?_;clear hK K τ d)|(refine XF.rd (by rfl) (fun K hK τ d=>?_);have hfact:=uc τ d (y2);go_simp;refine hK _ ?_;clear hfact hK K τ d)|(refine XF.rd (by rfl) (fun K hK τ d=>?_);have hfact:=uc τ d (y3);go_simp;refine hK _ ?_;clear hfact hK K τ d)
   refine XF.rd (by rfl) (fun K hK τ d=>?_);have q0:=uc τ d u0;have q1:=uc τ d u1;go_simp;refine hK _ ?_;clear q0 q1 hK K τ d;refine XF.ch (by rfl) (fun hD0 _=>?_) ?_
   ·refine YG.call 37 #[P0 xb,.agg #[.int .i64 t.n,.int .i64 t.fr],.agg #[.int .i64 c.o,.int .i64 c.v]] rfl rfl (by decide) (fun w=>?_) (fun w=>?_) (fun a' L' hda hcc=>?_)
    iterate 2 (focus obtain ⟨fn, h1, h2, h3⟩ : Yb 37 := ⟨_, Try.func37, by kernel_rfl, by kernel_rfl⟩; have h4 : ¬ fn.name = "runtime.NumGoroutine" := (by simpa using h2); have h5 : ¬ fn.body = none := (by intro e; rw [e] at h3; cases h3); simp [go_sem, execOp, Act.eval, resolve, Deferred.ofValue, invoke, callFunc, h1, h4, h5])
    ·obtain ⟨rfl,h1,h2,h3⟩:=hW.out
     cases hD1:D 1
     ·have h3':WS K gv xb j ((L.drop (k + 1)).map (X4.d t.n 8193)) ((Q.st.sh j).drop k) false (YZ t.n 8193 c.o c.v) y:=by rw [hD0,hD1] at h3;exact h3
      refine Xa0 HS.out.ok 8193 h3' fun y' out' a hs' hk'=>?_;obtain ⟨gv',at',hWA,_⟩:=h3'.s;refine hcc _ _ _ ⟨rfl,HS.out.turned hWA h1 hk',Nat.le_trans h2 hk'.size,?_⟩;rw [upd_same,upd_ne _ _ (by decide),hD1];exact ⟨out',a,XQ,hs'⟩
     ·obtain ⟨h3',b,hcv,hb1,hb2⟩:WS K gv xb j ((L.drop (k + 1)).map (X4.d t.n 8193)) ((Q.st.sh j).drop k) false (YZ t.n 8193 c.o c.v) y∧∃ b,cv 1=P0 b∧x.heap.size≤b∧y.heap[b]? = some (.cells #[.int .i64 0,.bool false,.int .i64 0] 93 (0,0)):=by rw [hD0,hD1] at h3;exact h3
      refine Xa0 HS.out.ok 8193 h3' fun y' out' a hs' hk'=>?_;obtain ⟨gv',at',hWA,_⟩:=h3'.s;refine hcc _ _ _ ⟨rfl,HS.out.turned hWA h1 hk',Nat.le_trans h2 hk'.size,?_⟩;rw [upd_same,upd_ne _ _ (by decide),hD1];exact ⟨out',a,XQ,hs',b,(UM (by decide)).trans hcv,hb1,hk'.heap hb2 fun e=>by have:=hktl.out b e;omega⟩
   try walk_nrm
   refine XF.ch (by rfl) (fun hD1 _=>?_) ?_
   ·refine YG.op (F:=F0) Uv (fun h=>by cases h) rfl rfl rfl (by decide) (fun K hK τ d=>?_)
    replace hK:=HD hK;go_simp;show K _ (under (y.alloc (.cells #[.int .i64 0,.bool false,.int .i64 0] 93)) τ d);refine hK.out _ _ _ _ ?_;have hoa:=(Xg.refl y).alloc (.cells #[.int .i64 0,.bool false,.int .i64 0] 93);obtain ⟨rfl,h1,h2,h3⟩:=hW.out;refine ⟨rfl,h1.trans hoa,Nat.le_trans h2 hoa.1,?_⟩;cases hD0:D 0
    ·rw [hD0,hD1] at h3
     rw [upd_ne _ _ (by decide),hD0,upd_same];exact ⟨WS.old h3 hoa,y.heap.size,XQ,h2,heap_alloc_new _ _⟩
    ·rw [hD0,hD1] at h3
     obtain ⟨out,a,hcv,hs⟩:=h3;rw [upd_ne _ _ (by decide),hD0,upd_same];exact ⟨out,a,(UM (by decide)).trans hcv,hs.old hoa,y.heap.size,XQ,h2,heap_alloc_new _ _⟩
   try walk_nrm
   exact XF.nil rfl
  ·apply And.intro
   ·intro cv
    rfl
   ·intro D cv C' y hD hW
    obtain ⟨rfl,hoy,hsz,hW⟩:=hW;rw [hD 0 (by decide),hD 1 (by decide)] at hW;obtain ⟨out,a,hcv0,hsy,b,hcv1,hbx,hb⟩:=hW;rw [hcv0,hcv1,show aV a=Value.agg #[.int .i64 a.v,.bool a.is,.int .i64 a.e] from rfl];replace hsy:=HD hsy;replace hoy:=HD hoy;clear w0 w1 z0 z1;show JG _ _ _ (G ((base _).at _ (.inRegion _ [13]::_)) _) _;refine kst3 hb ?_;obtain ⟨z,hz0,hz1,hz2,hz3⟩:=W8 (.int .i64 a.v) (.bool a.is) (.int .i64 a.e) hb;rw [← hz0];have hsz2:WS K gv xb j ((L.drop (k + 1)).map (X4.d t.n 8193)) ((Q.st.sh j).drop k) out (.ret a) z:=hsy.out.frame (Nat.le_of_eq hz3.symm) fun r hr=>hz2 r fun e=>by have:=hown.out r hr;omega
    have hox:Xg x1 z:=⟨by rw [hz3];exact hoy.out.1,fun r hr=>(hz2 r fun e=>by have:=ho.out.1;omega).trans (hoy.out.2 r hr)⟩
    clear hz0 hz2 hz3 hb hsy hoy hcv0 hcv1 hD;obtain ⟨n1,n2⟩:=WM.next Hdd.out hkT hsz2;have yx:=hsz2.s.cell2;have q0:z.cell? (th b 0)=some (.int .i64 a.v):=Xa hz1 0;have q1:z.cell? (th b 1)=some (.bool a.is):=Xa hz1 1;have q2:z.cell? (th b 2)=some (.int .i64 a.e):=Xa hz1 2;have hT:=HS.out.H.old (HS.out.o.trans hox);have y4:=hT.c4;have y5:=hT.c5;obtain ⟨hd,N0,hrr⟩:=hT.rows;have y6:=hrr.cell hjn;have hrow:=hrr.row j hjn;replace hox:=HD hox;replace n1:=HD n1;replace n2:=HD n2;replace hz1:=HD hz1;clear hsz2 hT hrr;cases out with
    | true =>
     clear hrow y4 y5 y6 q0 q1 q2
     repeat refine kx ?_
     refine JG.exit (by rfl) ?_
     try walk_nrm
     exact Hh.out z k true _ _ _ _ _ _ _ _ _ _ _ _ _ _ _ _ _ _ _ _ _ _ _ _ _ _ _ _ _ _ _ _ _ _ _ _ _ _ _ _ _ _ _ _ _ _ _ _ _ _ _ _ _ hox.out (n1.out rfl) (.inl rfl)
    | false =>
     obtain ⟨hv,hnx⟩:=n2.out rfl;have hkv:k < (Q.st.sh j).length:=(LE' hv).1;obtain ⟨gT,cT',hTe,_,_,_,hcT⟩:=Ys hrow (by omega);rw [hTe] at y6;have hat:∀ i u,(XS.cells a)[i]? = some u→z.cell? ⟨gT,k * 3 + i,none⟩=some u:=fun i u hu=>hcT _ _ (XeG hv i u hu);have y7:z.cell? ⟨gT,k * 3,none⟩=some (.int .i64 a.v):=hat 0 _ rfl;have y8:z.cell? ⟨gT,k * 3 + 1,none⟩=some (.bool a.is):=hat 1 _ rfl;have y9:z.cell? ⟨gT,k * 3 + 2,none⟩=some (.int .i64 a.e):=hat 2 _ rfl;have hge:decide ((k:Int) ≥ (Q.st.sh j).length)=false:=by simp;omega
     have hgeN:decide (k ≥ (Q.st.sh j).length)=false:=by simp;omega
     have hgeM:decide ((Q.st.sh j).length≤k)=false:=by simp;omega
     have hgeI:decide (((Q.st.sh j).length:Int)≤k)=false:=by simp;omega
     have x7:(k:Int) < (Q.st.sh j).length:=by omega
     have e1:(a.v == a.v)=true:=by simp
     have e2:(a.is == a.is)=true:=by simp
     have e3:(a.e == a.e)=true:=by simp
     clear hrow hat;replace hTe:=HD hTe;replace hv:=HD hv;replace hnx:=HD hnx;have IH':=IH.out (k + 1) (by omega) z;simp only [Try.f6,Option.getD_some,Code.nav] at IH';replace IH':=HD IH';have hwr:IntKind.i64.wrap ((k:Int) + 1)=((k + 1:Nat):Int):=by
      rw [IntKind.wrap_i64];omega
     repeat refine kx ?_
     refine JG.drawCallsG (fun _=>none) (fun _=>undef) (fun _ z'=>z'=z) 0 (by kernel_rfl) (by kernel_rfl) (by decide) rfl ?_;apply Exists.intro;apply And.intro
     ·intro i hi z' hz'
      subst hz'
      repeat first|(refine Xw.un (by rfl) (by rfl) ?_;try walk_nrm)|(refine Xw.rd (by rfl) (by rfl) (by rfl) (fun K hK τ d=>?_);go_simp;refine hK _ ?_;clear hK K τ d)|(refine Xw.rd (by rfl) (by rfl) (by rfl) (fun K hK τ d=>?_);have hfact:=uc τ d (y4);go_simp;refine hK _ ?_;clear hfact hK K τ d)|(refine Xw.rd (by rfl) (by rfl) (by rfl) (fun K hK τ d=>?_);have hfact:=uc τ d (y5);go_simp;refine hK _ ?_;clear hfact hK K τ d)|(refine Xw.rd (by rfl) (by rfl) (by rfl) (fun K hK τ d=>?_);have hfact:=uc τ d (y6);go_simp;refine hK _ ?_;clear hfact hK K τ d)
      refine Xw.rd (by rfl) (by rfl) (by rfl) (fun K hK τ d=>?_);have r7:=uc τ d y7;have r8:=uc τ d y8;have r9:=uc τ d y9;go_simp;refine hK _ ?_;clear r7 r8 r9 hK K τ d;refine Xw.rd (by rfl) (by rfl) (by rfl) (fun K hK τ d=>?_);have r7:=uc τ d q0;have r8:=uc τ d q1;have r9:=uc τ d q2;go_simp;refine hK _ ?_;clear r7 r8 r9 hK K τ d
      repeat first|(refine Xw.un (by rfl) (by rfl) ?_;try walk_nrm)|(refine Xw.rd (by rfl) (by rfl) (by rfl) (fun K hK τ d=>?_);go_simp;refine hK _ ?_;clear hK K τ d)|(refine Xw.rd (by rfl) (by rfl) (by rfl) (fun K hK τ d=>?_);have hfact:=uc τ d (y4);go_simp;refine hK _ ?_;clear hfact hK K τ d)|(refine Xw.rd (by rfl) (by rfl) (by rfl) (fun K hK τ d=>?_);have hfact:=uc τ d (y5);go_simp;refine hK _ ?_;clear hfact hK K τ d)|(refine Xw.rd (by rfl) (by rfl) (by rfl) (fun K hK τ d=>?_);have hfact:=uc τ d (y6);go_simp;refine hK _ ?_;clear hfact hK K τ d)
      exact Xw.nil rfl
     ·intro z' hz'
      subst hz'
      repeat refine kx ?_
      refine JG.inLoop ?_;rw [show ((k:Int) + 1)=((k + 1:Nat):Int) from rfl];exact IH'.out _ _ _ _ _ _ _ _ _ _ _ _ _ _ _ _ _ _ _ _ _ _ _ _ _ _ _ _ _ _ _ _ _ _ _ _ _ _ _ _ _ _ _ _ _ _ _ _ _ _ _ _ _ hox.out hnx.out Hh.out
end
section
variable {Post:Value→World→Prop} {C:Ctx} {cs:List Frame} {t:TR} {Q:Xp (Nat→List Ym)} {q:Nat} {e:Int} {kk:List Item} {x0 x1:World} {K:Wk}
theorem Vv {u0 u2 u3 u5 u6 B4 B5 B6 B7 B8 B9 D0 D1 D2 D3 D4 D5 D6 D7 D8 D9 E0 E1 E2 E3 E4 E5 E6 E7 E8 E9 G0 G1 G2 G3 G4 G5 G6 G7 G8 G9 H4 H5 H6 H7 H8 H9 I0 S3 S4 S5 S6 S7:Value} (H:TlR t Q x0) (h01:Xg x0 x1) (F:Xp.RunFacts t.css t.v t.picks 16384 e Q):∀ (p j:Nat),j + p=t.nS→∀ (x:World) (gv:List Bool) (B0 B1 B2 B3 I1 I2 I3 I4 I5 I6 I7 I8 I9 J0 J1 J2 J3 J4 J5 J6 J7 J8 J9 K0 K1 K4 K5 K6 K7 K8 K9 L0 L1 L2 L3 L4 L5 L6 L7 L8 L9 M0 M1 M4 M5 M6 M7 M8 M9 N1 N5 N6 N7 N8 N9 O0 O1 O2 O3 O4 O5 O6 O7 O8 O9 R0 R1 R2 R3 R4 R5 R6 R7 R8 R9 S0 S1 S2:Value),Qo x1 K gv Q nmR t.v (hsR t.n t.fr t.n) x →
 (∀ (y:World) (gv:List Bool) (B0 B1 B2 B3 I1 I2 I3 I4 I5 I6 I7 I8 I9 J0 J1 J2 J3 J4 J5 J6 J7 J8 J9 K0 K1 K4 K5 K6 K7 K8 K9 L0 L1 L2 L3 L4 L5 L6 L7 L8 L9 M0 M1 M4 M5 M6 M7 M8 M9 N1 N5 N6 N7 N8 N9 O0 O1 O2 O3 O4 O5 O6 O7 O8 O9 R0 R1 R2 R3 R4 R5 R6 R7 R8 R9 S0 S1 S2:Value),Qo x1 K gv Q nmR t.v (hsR t.n t.fr t.n) y→JG Try.prog Post C (G ((base 6).at ⟨List.toArray (u0::P0 t.bp::u2::u3::P0 t.bs::u5::u6::P0 q::P0 K.wb::.int .i64 t.nS::B0::B1::B2::B3::B4::B5::B6::B7::B8::B9::D0::D1::D2::D3::D4::D5::D6::D7::D8::D9::E0::E1::E2::E3::E4::E5::E6::E7::E8::E9::G0::G1::G2::G3::G4::G5::G6::G7::G8::G9::H4::H5::H6::H7::H8::H9::I0::I1::I2::I3::I4::I5::I6::I7::I8::I9::J0::J1::J2::J3::J4::J5::J6::J7::J8::J9::K0::K1::K4::K5::K6::K7::K8::K9::L0::L1::L2::L3::L4::L5::L6::L7::L8::L9::M0::M1::M4::M5::M6::M7::M8::M9::N1::N5::N6::N7::N8::N9::O0::O1::O2::O3::O4::O5::O6::O7::O8::O9::R0::R1::R2::R3::R4::R5::R6::R7::R8::R9::S0::S1::S2::S3::S4::S5::S6::S7::[]),[]⟩ (kk)) cs) y) →
 JG Try.prog Post C (G ((base 6).at ⟨List.toArray (u0::P0 t.bp::u2::u3::P0 t.bs::u5::u6::P0 q::P0 K.wb::.int .i64 j::B0::B1::B2::B3::B4::B5::B6::B7::B8::B9::D0::D1::D2::D3::D4::D5::D6::D7::D8::D9::E0::E1::E2::E3::E4::E5::E6::E7::E8::E9::G0::G1::G2::G3::G4::G5::G6::G7::G8::G9::H4::H5::H6::H7::H8::H9::I0::I1::I2::I3::I4::I5::I6::I7::I8::I9::J0::J1::J2::J3::J4::J5::J6::J7::J8::J9::K0::K1::K4::K5::K6::K7::K8::K9::L0::L1::L2::L3::L4::L5::L6::L7::L8::L9::M0::M1::M4::M5::M6::M7::M8::M9::N1::N5::N6::N7::N8::N9::O0::O1::O2::O3::O4::O5::O6::O7::O8::O9::R0::R1::R2::R3::R4::R5::R6::R7::R8::R9::S0::S1::S2::S3::S4::S5::S6::S7::[]),[]⟩ (.code (Code.nav (Try.f6.body.getD .skip) [1,1,1,1,1,1,1,1,1,1,1,0,1,0,0])::.inLoop (Code.nav (Try.f6.body.getD .skip) [1,1,1,1,1,1,1,1,1,1,1,0,1,0,0])::.inBlock 2::kk)) cs) x:=by
 intro p
 induction p with
 | zero =>
  intro j hjp x gv B0 B1 B2 B3 I1 I2 I3 I4 I5 I6 I7 I8 I9 J0 J1 J2 J3 J4 J5 J6 J7 J8 J9 K0 K1 K4 K5 K6 K7 K8 K9 L0 L1 L2 L3 L4 L5 L6 L7 L8 L9 M0 M1 M4 M5 M6 M7 M8 M9 N1 N5 N6 N7 N8 N9 O0 O1 O2 O3 O4 O5 O6 O7 O8 O9 R0 R1 R2 R3 R4 R5 R6 R7 R8 R9 S0 S1 S2 hK h;obtain rfl:j=t.nS:=by omega
  have y2:=(H.old (h01.trans hK.old)).c2;replace h:=HD (h x gv);replace hK:=HD hK;clear H h01 F;simp only [Try.f6,Option.getD_some,Code.nav];have hx:decide ((t.nS:Int) < t.nS)=false:=by simp
  have hxN:decide (t.nS < t.nS)=false:=by simp
  repeat refine kx ?_
  refine JG.exit (by rfl) ?_
  try walk_nrm
  exact h.out _ _ _ _ _ _ _ _ _ _ _ _ _ _ _ _ _ _ _ _ _ _ _ _ _ _ _ _ _ _ _ _ _ _ _ _ _ _ _ _ _ _ _ _ _ _ _ _ _ _ _ _ _ _ _ _ _ _ _ _ _ _ _ _ _ _ _ _ _ _ _ _ _ _ _ _ _ _ hK.out
 | succ p ih =>
  intro j hjp x gv B0 B1 B2 B3 I1 I2 I3 I4 I5 I6 I7 I8 I9 J0 J1 J2 J3 J4 J5 J6 J7 J8 J9 K0 K1 K4 K5 K6 K7 K8 K9 L0 L1 L2 L3 L4 L5 L6 L7 L8 L9 M0 M1 M4 M5 M6 M7 M8 M9 N1 N5 N6 N7 N8 N9 O0 O1 O2 O3 O4 O5 O6 O7 O8 O9 R0 R1 R2 R3 R4 R5 R6 R7 R8 R9 S0 S1 S2 hK h;have hjn:j < t.nS:=by omega
  obtain ⟨n2,n256,hn8,_⟩:=H.small;obtain ⟨L,hL⟩:∃ L,t.Ss[j]? = some L:=⟨_,List.getElem?_eq_getElem (by rw [H.num];exact hjn)⟩
  have hcs:t.css[j]? = some (L.map (X4.d t.n 8193)):=by unfold TR.css;rw [List.getElem?_map,hL];rfl
  have y2:=(H.old (h01.trans hK.old)).c2;have hRK:RK K t.nc t.n:=⟨hK.ok2 F (by omega) (by rw [VS];omega) (fun a b _ _ e=>Xfe a b e) (fun c _=>rfl) H.lt,hK.nm,rfl,n2,by omega,H.ix⟩
  have hS:Xgn t Q K gv x.heap.size j L x0 x1:=⟨H,h01,hRK,hL,hK.M,hK.old.1⟩
  have hrest:=F.rest j _ hcs;have IH:=HD ih;have HS:=HD hS;have HK:=HD hK;have HF:=HD F;have Hh:=HD h;replace hrest:=HD hrest;clear ih hS hK F h H h01 hcs hRK;replace hL:=HD hL;have hsl:=@Wi Post;simp (config:={ maxSteps:=4000000 }) only [Try.f6,Option.getD_some,Code.nav] at hsl;simp only [Try.f6,Option.getD_some,Code.nav];have hx:decide ((j:Int) < t.nS)=true:=by simp;omega
  have hxN:decide (j < t.nS)=true:=by simp;omega
  have hj0:(j:Int) < t.nS:=by omega
  repeat refine kx ?_
  refine kf (args:=#[P0 K.wb,.int .i64 j]) Try.func23 ?_;refine XgW fun y ho hb=>?_;rw [Frame.finish_at];walk_nrm;have hKy:=HK.out.up ho;have hIn:WM K gv x.heap.size j (L.map (X4.d t.n 8193)) (Q.st.sh j) 0 false y:=WM.start hKy.at_ (by rw [hKy.B];exact hKy.old.1) hb (by rw [hKy.B];exact HK.out.old.1) (by rw [hKy.L,hKy.left,hKy.names,hKy.cells];exact hrest.out);clear y2 hb;replace hKy:=HD hKy;replace hIn:=HD hIn;replace ho:=HD ho
  repeat refine kx ?_
  refine JG.loop ?_;refine hsl HS.out L.length 0 (by omega) y _ _ _ _ _ _ _ _ _ _ _ _ _ _ _ _ _ _ _ _ _ _ _ _ _ _ _ _ _ _ _ _ _ _ _ _ _ _ _ _ _ _ _ _ _ _ _ _ _ _ _ _ _ hKy.out.old hIn.out ?_;intro y2 k out B3 J1 J2 J3 J4 J5 J6 J7 J8 J9 K0 K1 K4 K5 K6 K7 K8 K9 L0 L1 L2 L3 L4 L5 L6 L7 L8 L9 M0 M1 M4 M5 M6 M7 M8 M9 N1 N5 N6 N7 N8 N9 O0 O1 O2 O3 O4 O5 O6 O7 O8 O9 R0 ho2 hI2 hend;obtain ⟨hTl,hWSR⟩:=hI2.done hend;replace ho2:=HD ho2;replace hWSR:=HD hWSR;clear hend hI2
  repeat refine kx ?_
  refine kf (args:=#[P0 x.heap.size,.bool false]) Try.func25 ?_;refine Xgx HK.out.vF hWSR.out fun z hz=>?_;rw [Frame.finish_at];walk_nrm;obtain ⟨gv2,at2,hW2,_⟩:=hWSR.out;obtain ⟨gv3,hW3,hle,htu,hcv⟩:=hz;have hKz:Qo x1 K gv3 Q nmR t.v (hsR t.n t.fr t.n) z:=Qo.kept (gv:=gv2) { HK.out with at_:=hW2,old:=ho2.out } HK.out.old.1 htu hW3;have hT:=HS.out.H.old (HS.out.o.trans hKz.old);have y4:=hT.c4;have y5:=hT.c5;obtain ⟨hd,N0,hrr⟩:=hT.rows;have y6:=hrr.cell hjn;obtain ⟨aT,cT',hTe⟩:=Xq (hrr.row j hjn);rw [hTe,hTl] at y6;clear hT hTe hTl hW2 hW3 hle htu hcv hrr;replace hKz:=HD hKz;have IH':=IH.out (j + 1) (by omega) z gv3;simp only [Try.f6,Option.getD_some,Code.nav] at IH';replace IH':=HD IH';have hwr:IntKind.i64.wrap ((j:Int) + 1)=((j + 1:Nat):Int):=by
   rw [IntKind.wrap_i64];omega
  have hne:(!((k:Int) == k))=false:=by simp
  have hneN:(!(k == k))=false:=by simp
  repeat refine kx ?_
  refine JG.inLoop ?_;rw [show ((j:Int) + 1)=((j + 1:Nat):Int) from rfl];exact IH'.out _ _ _ _ _ _ _ _ _ _ _ _ _ _ _ _ _ _ _ _ _ _ _ _ _ _ _ _ _ _ _ _ _ _ _ _ _ _ _ _ _ _ _ _ _ _ _ _ _ _ _ _ _ _ _ _ _ _ _ _ _ _ _ _ _ _ _ _ _ _ _ _ _ _ _ _ _ _ hKz.out Hh.out
theorem Xbv {u0 u3 u5 u6 u9 B0 B1 B2 B3 B4 B5 B6 B7 B8 B9 D0 D1 D2 D3 D4 D5 D6 D7 D8 D9 E0 E1 E2 E3 E4 E5 E6 E7 E8 E9 G0 G1 G2 G3 G4 G5 G6 G7 G8 G9 H4 H5 H6 H7 H8 H9 I0 I1 I2 I3 I4 I5 I6 I7 I8 I9 J0 J1 J2 J3 J4 J5 J6 J7 J8 J9 K0 K1 K4 K5 K6 K7 K8 K9 L0 L1 L2 L3 L4 L5 L6 L7 L8 L9 M0 M1 M4 M5 M6 M7 M8 M9 N1 N5 N6 N7 N8 N9 O0 O1 O2 O3 O4 O5 O6 O7 O8 O9 R0 R1 R2 R3 R4 R5 R6 R7 R8 R9 S0 S1 S2 u2 S3 S4 S5 S6 S7:Value} {x:World} {gv:List Bool} (hK:Qo x1 K gv Q nmR t.v (hsR t.n t.fr t.n) x)
 (h:∀ (S3 S4 S5 S6 S7:Value),JG Try.prog Post C (G ((base 6).at ⟨List.toArray (u0::P0 t.bp::.bool true::u3::P0 t.bs::u5::u6::P0 q::P0 K.wb::u9::B0::B1::B2::B3::B4::B5::B6::B7::B8::B9::D0::D1::D2::D3::D4::D5::D6::D7::D8::D9::E0::E1::E2::E3::E4::E5::E6::E7::E8::E9::G0::G1::G2::G3::G4::G5::G6::G7::G8::G9::H4::H5::H6::H7::H8::H9::I0::I1::I2::I3::I4::I5::I6::I7::I8::I9::J0::J1::J2::J3::J4::J5::J6::J7::J8::J9::K0::K1::K4::K5::K6::K7::K8::K9::L0::L1::L2::L3::L4::L5::L6::L7::L8::L9::M0::M1::M4::M5::M6::M7::M8::M9::N1::N5::N6::N7::N8::N9::O0::O1::O2::O3::O4::O5::O6::O7::O8::O9::R0::R1::R2::R3::R4::R5::R6::R7::R8::R9::S0::S1::S2::S3::S4::S5::S6::S7::[]),[]⟩ (.code .ret::kk)) cs) x) :
 JG Try.prog Post C (G ((base 6).at ⟨List.toArray (u0::P0 t.bp::u2::u3::P0 t.bs::u5::u6::P0 q::P0 K.wb::u9::B0::B1::B2::B3::B4::B5::B6::B7::B8::B9::D0::D1::D2::D3::D4::D5::D6::D7::D8::D9::E0::E1::E2::E3::E4::E5::E6::E7::E8::E9::G0::G1::G2::G3::G4::G5::G6::G7::G8::G9::H4::H5::H6::H7::H8::H9::I0::I1::I2::I3::I4::I5::I6::I7::I8::I9::J0::J1::J2::J3::J4::J5::J6::J7::J8::J9::K0::K1::K4::K5::K6::K7::K8::K9::L0::L1::L2::L3::L4::L5::L6::L7::L8::L9::M0::M1::M4::M5::M6::M7::M8::M9::N1::N5::N6::N7::N8::N9::O0::O1::O2::O3::O4::O5::O6::O7::O8::O9::R0::R1::R2::R3::R4::R5::R6::R7::R8::R9::S0::S1::S2::S3::S4::S5::S6::S7::[]),[]⟩ (.code (Code.nav (Try.f6.body.getD .skip) [1,1,1,1,1,1,1,1,1,1,1,1])::kk)) cs) x:=by
 have y7:x.cell? (th K.wb 7)=some (.bool false):=Blk.cell hK.at_.blk 7;have hh:=HD h;clear h hK;simp only [Try.f6,Option.getD_some,Code.nav]
 repeat refine kx ?_
 exact hh.out _ _ _ _ _
