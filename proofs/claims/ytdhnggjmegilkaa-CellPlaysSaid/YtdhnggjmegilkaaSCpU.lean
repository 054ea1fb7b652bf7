/- The cell law goes through all threads along the record, and looks at its cells. -/
import Derived.Test.YtdhnggjmegilkaaSCpS
set_option linter.unusedSimpArgs false
set_option linter.unusedVariables false
set_option maxRecDepth 100000
set_option maxHeartbeats 16000000
namespace Go.Proofs.Ytdhnggjmegilkaa
open Go.Conc Go.RowKit
set_option maxRecDepth 100000
section
variable {Post:Value→World→Prop} {C:Ctx} {c:Frame} {cs:List Frame} {x:World}
theorem XdR {K:Wk} {gv0:List Bool} {xb j nc i:Nat} {l:List (Xr Int)} {T:List Int} {out:Bool} {op a e:Int} (hK:K.OK nc) (hnm:K.nm i=(2,(i:Int))) (H:WS K gv0 xb j l T out (YG op i a e) x) (hin:i < nc)
 (h:∀ y out' v,WS K gv0 xb j l T out' (.ret v) y→Vn (Zi K xb) x y→JG Try.prog Post C (G (c.finish (.int .i64 v)) cs) y) :
 JG Try.prog Post C (G (Frame.enter Try.prog 24 #[P0 xb,ZR op i a e] .normal) (c::cs)) x:=by
 refine JG.calls (F:=FX Vp) (Q:=fun u y=>∃ out' v,u=.int .i64 v∧WS K gv0 xb j l T out' (.ret v) y∧Vn (Zi K xb) x y) (Zd _) (by kernel_rfl) (fun τ=>?_) (fun u y hq=>?_)
 ·refine (Xbx (w:=under x τ 0) hK hnm (H.old ⟨Nat.le_refl _,fun _ _=>rfl⟩) hin).mono ?_
  rintro r y ⟨out',v,rfl,h1,h2,h3⟩
  exact ⟨_,rfl,out',v,rfl,h1,h2.turned⟩
 ·obtain ⟨out',v,rfl,h1,h2⟩:=hq
  exact h y out' v h1 h2
end
section
variable {Post:Value→World→Prop} {C:Ctx} {cs:List Frame} {t:TA} {Q:Xp (Nat→List Int)} {q xb j:Nat} {kk:List Item} {x0 x1:World} {gv:List Bool} {K:Wk} {L:List Op4}
structure XfW (t:TA) (Q:Xp (Nat→List Int)) (K:Wk) (gv:List Bool) (xb j:Nat) (L:List Op4) (x0 x1:World):Prop where
 H:Tl t Q x0
 o:Xf x0 x1
 ok:K.OK t.nC
 nm:K.nm=Ws
 L:t.Ss[j]? = some L
 M:K.M=x1.heap.size
 xb:x1.heap.size≤xb
theorem XfW.turned (h:XfW t Q K gv xb j L x0 x1) {y z:World} {gv':List Bool} (hW:WAt K gv' y) (ho:Xf x1 y) (hk:Vn (Zi K xb) y z):Xf x1 z :=
 ⟨Nat.le_trans ho.1 hk.size,fun r hr=>(hk.block r (Nat.lt_of_lt_of_le hr ho.1) fun e=>by
  rcases e with (e|e)|e
  ·have:=XF hW.nms e.symm;rw [h.M] at this;omega
  ·have:=XF hW.gvn e.symm;rw [h.M] at this;omega
  ·have:=h.xb;omega).trans (ho.2 r hr)⟩
def skW (K:Wk) (gv:List Bool) (xb j:Nat) (l:List (Xr Int)) (T:List Int) (cv0:Value) (d:Xr Int) (x1:World) (C:Ctx):Nat→(Nat→Value)→Ctx→World→Prop
 | 0,_,C',y=>C'=C∧Xf x1 y∧WS K gv xb j l T false d y
 | 1,cv,C',y=>C'=C∧Xf x1 y∧WS K gv xb j l T false d y∧cv 0=cv0
 | _,cv,C',y=>C'=C∧Xf x1 y∧∃ out v,cv 1=.int .i64 v∧WS K gv xb j l T out (.ret v) y
theorem skW.old {l:List (Xr Int)} {T:List Int} {cv0:Value} {d:Xr Int} {n:Nat} {cv:Nat→Value} {C':Ctx} {y:World} (h:skW K gv xb j l T cv0 d x1 C n cv C' y):Xf x1 y:=by
 match n,h with
 | 0,h=>exact h.2.1
 | 1,h=>exact h.2.1
 | _ + 2,h=>exact h.2.1
theorem Xae {u0 u2 u3 u5 u7 u8 B1 B7 B8 B9 D0 D1 D2 D3 D4 D5 D6 D7 D8 D9 E0 E1 E2 E3 E4 E5 E6 E7 E8 E9 G0 G1 G2 G3 G4 G5 G6 G7 G8 G9 H4 H5 H6 H7 H8 H9 I0 I1 I2 I3 I4 I5 I6 I7 I8 I9 J0 J1 J2 J3 J4 J5 J6 J7 J8 J9 K0 K1 K3 K4 K5 K6 K7 K8 K9 L0 L1 L2 L3 L4 L5 L6 L7 L8 L9 M0 M1 M4 U3 U4 U5 U6 U7 U8 U9 V0 V1 V2 V3 V4 V5 V6 V7 V8 V9 W0 W1 W2 W3:Value} (S:XfW t Q K gv xb j L x0 x1):∀ (p k:Nat),k + p=L.length→∀ (x:World) (B6 M5 M6 M7 M8 M9 N1 N5 N6 N7 N8 N9 O0 O1 O2 O3 O4 O5 O6 O7 O8 O9 R0 R1 R2 R3 R4 R5 R6 R7 R8 R9 S0 S1 S2 S3 S4 S5 S6 S7 S8 S9 T0 T1 T2 T3 T4 T5 T6 T7 T8 T9 U0 U1 U2:Value),Xf x1 x→WP K gv xb j (L.map (Op4.d t.nC)) (Q.st.sh j) k false x →
 (∀ (y:World) (k:Nat) (out:Bool) (B6 M5 M6 M7 M8 M9 N1 N5 N6 N7 N8 N9 O0 O1 O2 O3 O4 O5 O6 O7 O8 O9 R0 R1 R2 R3 R4 R5 R6 R7 R8 R9 S0 S1 S2 S3 S4 S5 S6 S7 S8 S9 T0 T1 T2 T3 T4 T5 T6 T7 T8 T9 U0 U1 U2:Value),Xf x1 y→WP K gv xb j (L.map (Op4.d t.nC)) (Q.st.sh j) k out y→(out=true∨k=(L.map (Op4.d t.nC)).length)→JG Try.prog Post C (G ((base 3).at ⟨List.toArray (u0::P0 t.bp::u2::u3::P0 t.bl::u5::P0 t.bt::u7::u8::P0 q::P0 K.wb::B1::.int .i64 j::P0 xb::.int .i64 k::.int .i64 k::B6::B7::B8::B9::D0::D1::D2::D3::D4::D5::D6::D7::D8::D9::E0::E1::E2::E3::E4::E5::E6::E7::E8::E9::G0::G1::G2::G3::G4::G5::G6::G7::G8::G9::H4::H5::H6::H7::H8::H9::I0::I1::I2::I3::I4::I5::I6::I7::I8::I9::J0::J1::J2::J3::J4::J5::J6::J7::J8::J9::K0::K1::K3::K4::K5::K6::K7::K8::K9::L0::L1::L2::L3::L4::L5::L6::L7::L8::L9::M0::M1::M4::M5::M6::M7::M8::M9::N1::N5::N6::N7::N8::N9::O0::O1::O2::O3::O4::O5::O6::O7::O8::O9::R0::R1::R2::R3::R4::R5::R6::R7::R8::R9::S0::S1::S2::S3::S4::S5::S6::S7::S8::S9::T0::T1::T2::T3::T4::T5::T6::T7::T8::T9::U0::U1::U2::U3::U4::U5::U6::U7::U8::U9::V0::V1::V2::V3::V4::V5::V6::V7::V8::V9::W0::W1::W2::W3::[]),[]⟩ (kk)) cs) y) →
 JG Try.prog Post C (G ((base 3).at ⟨List.toArray (u0::P0 t.bp::u2::u3::P0 t.bl::u5::P0 t.bt::u7::u8::P0 q::P0 K.wb::B1::.int .i64 j::P0 xb::.int .i64 k::.int .i64 k::B6::B7::B8::B9::D0::D1::D2::D3::D4::D5::D6::D7::D8::D9::E0::E1::E2::E3::E4::E5::E6::E7::E8::E9::G0::G1::G2::G3::G4::G5::G6::G7::G8::G9::H4::H5::H6::H7::H8::H9::I0::I1::I2::I3::I4::I5::I6::I7::I8::I9::J0::J1::J2::J3::J4::J5::J6::J7::J8::J9::K0::K1::K3::K4::K5::K6::K7::K8::K9::L0::L1::L2::L3::L4::L5::L6::L7::L8::L9::M0::M1::M4::M5::M6::M7::M8::M9::N1::N5::N6::N7::N8::N9::O0::O1::O2::O3::O4::O5::O6::O7::O8::O9::R0::R1::R2::R3::R4::R5::R6::R7::R8::R9::S0::S1::S2::S3::S4::S5::S6::S7::S8::S9::T0::T1::T2::T3::T4::T5::T6::T7::T8::T9::U0::U1::U2::U3::U4::U5::U6::U7::U8::U9::V0::V1::V2::V3::V4::V5::V6::V7::V8::V9::W0::W1::W2::W3::[]),[]⟩ (.code (Code.nav (Try.f3.body.getD .skip) [1,1,1,1,1,1,1,1,1,1,1,1,0,1,0,0,1,0,0,1,1,0,1,0,0])::.inLoop (Code.nav (Try.f3.body.getD .skip) [1,1,1,1,1,1,1,1,1,1,1,1,0,1,0,0,1,0,0,1,1,0,1,0,0])::.inBlock 8::kk)) cs) x:=by
 intro p
 induction p with
 | zero =>
  intro k hkp x B6 M5 M6 M7 M8 M9 N1 N5 N6 N7 N8 N9 O0 O1 O2 O3 O4 O5 O6 O7 O8 O9 R0 R1 R2 R3 R4 R5 R6 R7 R8 R9 S0 S1 S2 S3 S4 S5 S6 S7 S8 S9 T0 T1 T2 T3 T4 T5 T6 T7 T8 T9 U0 U1 U2 ho hI h
  obtain rfl:k=L.length:=by omega
  have hT:=S.H.old (S.o.trans ho)
  have y2:=hT.c2
  obtain ⟨gS,oS,aC,cC,hS1,y3,_,hl⟩:=hT.sc j L S.L
  rw [hS1] at y2
  have hjn:j < t.nS:=by rw [← S.H.num];exact (LE' S.L).1
  have hj0:(j:Int) < t.nS:=by omega
  replace h:=HD (h x L.length false)
  replace ho:=HD ho
  replace hI:=HD hI
  clear hT S hS1
  simp only [Try.f3,Option.getD_some,Code.nav]
  have hx:decide ((L.length:Int) < L.length)=false:=by simp
  have hxN:decide (L.length < L.length)=false:=by simp
  repeat first|refine jc rfl ?_|(first|refine ju rfl rfl ?_|(refine jv rfl rfl rfl fun K E f τ d=>?_;have f0:=uc τ d y2;have f1:=uc τ d y3;go_simp;refine f _ _ _ _ ?_;clear f0 f1 f K E τ d);try walk_nrm)
  refine JG.exit (by rfl) ?_
  try walk_nrm
  exact h.out _ _ _ _ _ _ _ _ _ _ _ _ _ _ _ _ _ _ _ _ _ _ _ _ _ _ _ _ _ _ _ _ _ _ _ _ _ _ _ _ _ _ _ _ _ _ _ _ _ _ _ _ _ _ _ ho.out hI.out (.inr (by rw [List.length_map]))
 | succ p ih =>
  intro k hkp x B6 M5 M6 M7 M8 M9 N1 N5 N6 N7 N8 N9 O0 O1 O2 O3 O4 O5 O6 O7 O8 O9 R0 R1 R2 R3 R4 R5 R6 R7 R8 R9 S0 S1 S2 S3 S4 S5 S6 S7 S8 S9 T0 T1 T2 T3 T4 T5 T6 T7 T8 T9 U0 U1 U2 ho hI h
  have hkl:k < L.length:=by omega
  obtain ⟨c,hc⟩:∃ c,L[k]? = some c:=⟨_,List.getElem?_eq_getElem hkl⟩
  have hT:=S.H.old S.o
  have w2:=hT.c2
  have w4:=hT.c4
  obtain ⟨gS,oS,aC,cC,hS1,w3,hops,hl⟩:=hT.sc j L S.L
  rw [hS1] at w2
  obtain ⟨gO,oO,haC,_,z0,z1,z2,z3⟩:=hops k c hc
  subst haC
  have y2:=ho.cell w2
  have y3:=ho.cell w3
  have hjn:j < t.nS:=by rw [← S.H.num];exact (LE' S.L).1
  have hj0:(j:Int) < t.nS:=by omega
  have yx:=hI.s.cell2
  have hd:(L.map (Op4.d t.nC)).drop k=Op4.d t.nC c::(L.drop (k + 1)).map (Op4.d t.nC):=by
   rw [List.drop_eq_getElem_cons (by rw [List.length_map];exact hkl),List.getElem_map,List.map_drop]
   congr 2
   exact OI ((List.getElem?_eq_getElem hkl).symm.trans hc)
  have hws:=hI.ws hd
  have hkT:=hI.tl
  obtain ⟨hn0,hn40,_,_⟩:=S.H.small
  have hz:(0:Int) < t.nC:=by omega
  have b1:=Int.emod_nonneg c.ce (show (t.nC:Int)≠0 by omega)
  have b2:=Int.emod_lt_of_pos c.ce hz
  obtain ⟨i,hi⟩:∃ i:Nat,c.ce % t.nC=(i:Int):=⟨(c.ce % t.nC).toNat,by omega⟩
  have hin:i < t.nC:=by omega
  have hdc:Op4.d t.nC c=YG c.op i c.arg c.new:=by unfold Op4.d;rw [hi];rfl
  rw [hdc] at hws hd
  have IH:=HD ih
  have HS:=HD S
  have Hh:=HD h
  have Hdd:=HD hd
  replace ho:=HD ho
  replace hI:=HD hI
  replace hws:=HD hws
  replace hc:=HD hc
  replace hi:=HD hi
  clear ih S h hd hT hops hdc b1 b2 hz hS1
  simp only [Try.f3,Option.getD_some,Code.nav]
  have hx:decide ((k:Int) < L.length)=true:=by simp;omega
  have hxN:decide (k < L.length)=true:=by simp;omega
  have x4:(k:Int) < L.length:=by omega
  have x6:(0:Int)≤k:=by omega
  repeat first|refine jc rfl ?_|(first|refine ju rfl rfl ?_|(refine jv rfl rfl rfl fun K E f τ d=>?_;have f0:=uc τ d y2;have f1:=uc τ d y3;have f2:=uc τ d yx;go_simp;refine f _ _ _ _ ?_;clear f0 f1 f2 f K E τ d);try walk_nrm)
  refine JG.drawChain 13 (fun i=>if i=11 then some 0 else if i=12 then some 1 else none) (skW K gv xb j ((L.drop (k + 1)).map (Op4.d t.nC)) ((Q.st.sh j).drop k) (ZR c.op i c.arg c.new) (YG c.op i c.arg c.new) x1 C) 2 [some 126,some 127] (fun _=>undef) (by kernel_rfl) (by kernel_rfl) (by kernel_rfl) (by decide) (by decide) ⟨rfl,ho.out,hws.out⟩ ?_
  clear y2 y3 yx
  apply Exists.intro
  apply And.intro
  ·intro s hs cv C' y hW
   have hoy:=hW.old
   have y2:=hoy.cell w2
   have y3:=hoy.cell w3
   have y4:=hoy.cell w4
   have z0:=hoy.cell z0
   have z1:=hoy.cell z1
   have z2:=hoy.cell z2
   have z3:=hoy.cell z3
   replace hW:=HD hW
   replace hoy:=HD hoy
   simp only [List.take]
   repeat first|(refine XO.rd (by rfl) (fun K hK τ d=>?_);go_simp;refine hK _ ?_;clear hK K τ d)|(refine XO.rd (by rfl) (fun K hK τ d=>?_);have hfact:=uc τ d (y2);go_simp;refine hK _ ?_;clear hfact hK K τ d)|(refine XO.rd (by rfl) (fun K hK τ d=>?_);have hfact:=uc τ d (y3);go_simp;refine hK _ ?_;clear hfact hK K τ d)|(refine XO.rd (by rfl) (fun K hK τ d=>?_);have hfact:=uc τ d (y4);go_simp;refine hK _ ?_;clear hfact hK K τ d)
   refine XO.rd (by rfl) (fun K hK τ d=>?_)
   have q0:=uc τ d z0
   have q1:=uc τ d z1
   have q2:=uc τ d z2
   have q3:=uc τ d z3
   go_simp
   refine hK _ ?_
   clear q0 q1 q2 q3 hK K τ d
   repeat first|(refine XO.rd (by rfl) (fun K hK τ d=>?_);go_simp;refine hK _ ?_;clear hK K τ d)|(refine XO.rd (by rfl) (fun K hK τ d=>?_);have hfact:=uc τ d (y4);go_simp;refine hK _ ?_;clear hfact hK K τ d)
   refine XO.ch (by rfl) (fun hq0=>?_) ?_
   ·subst hq0
    refine YA.call 17 #[ZR c.op c.ce c.arg c.new,.int .i64 t.nC] rfl rfl (by decide) (fun w=>?_) (fun w=>?_) (fun a' L hda hcc=>?_)
    iterate 2 (focus obtain ⟨fn, h1, h2, h3⟩ : Yk 17 := ⟨_, Try.func17, by kernel_rfl, by kernel_rfl⟩; have h4 : ¬ fn.name = "runtime.NumGoroutine" := (by simpa using h2); have h5 : ¬ fn.body = none := (by intro e; rw [e] at h3; cases h3); simp [ZR, go_sem, execOp, Act.eval, resolve, Deferred.ofValue, invoke, callFunc, h1, h4, h5])
    ·obtain ⟨rfl,h1,h2⟩:=hW.out
     refine XaF hn0 (by omega) fun y' ho'=>?_
     rw [hi.out]
     exact hcc _ _ _ ⟨rfl,h1.trans ho',h2.old ho',X8⟩
   try walk_nrm
   refine XO.ch (by rfl) (fun hq0=>?_) ?_
   ·subst hq0
    refine YA.call 24 #[P0 xb,cv 0] rfl rfl (by decide) (fun w=>?_) (fun w=>?_) (fun a' L hda hcc=>?_)
    iterate 2 (focus obtain ⟨fn, h1, h2, h3⟩ : Yk 24 := ⟨_, Try.func24, by kernel_rfl, by kernel_rfl⟩; have h4 : ¬ fn.name = "runtime.NumGoroutine" := (by simpa using h2); have h5 : ¬ fn.body = none := (by intro e; rw [e] at h3; cases h3); simp [ZR, go_sem, execOp, Act.eval, resolve, Deferred.ofValue, invoke, callFunc, h1, h4, h5])
    ·obtain ⟨rfl,h1,h2,h3⟩:=hW.out
     rw [h3]
     refine XdR HS.out.ok (by rw [HS.out.nm];rfl) h2 hin fun y' out' v hs' hk'=>?_
     obtain ⟨gv',at',hWA,_⟩:=h2.s
     exact hcc _ _ _ ⟨rfl,HS.out.turned hWA h1 hk',out',v,X8,hs'⟩
   try walk_nrm
   exact XO.nil rfl
  ·apply And.intro
   ·intro cv
    rfl
   ·intro cv C' y hW
    obtain ⟨rfl,hoy,out,v,hcv,hsy⟩:=hW
    rw [hcv]
    obtain ⟨n1,n2⟩:=WP.next Hdd.out hkT hsy
    have yx:=hsy.s.cell2
    have hT:=HS.out.H.old (HS.out.o.trans hoy)
    have y5:=hT.c5
    obtain ⟨hd,N0,hrr⟩:=hT.rows
    have y6:=hrr.cell hjn
    have hrow:=hrr.row j hjn
    show JG _ _ _ (G ((base _).at _ (.inRegion _ [13]::_)) _) _
    replace hoy:=HD hoy
    replace n1:=HD n1
    replace n2:=HD n2
    clear hsy hT hrr
    cases out with
    | true =>
     clear hrow y5 y6
     repeat first|refine jc rfl ?_|(first|refine ju rfl rfl ?_|(refine jv rfl rfl rfl fun K E f τ d=>?_;have f0:=uc τ d yx;go_simp;refine f _ _ _ _ ?_;clear f0 f K E τ d);try walk_nrm)
     refine JG.exit (by rfl) ?_
     try walk_nrm
     exact Hh.out y k true _ _ _ _ _ _ _ _ _ _ _ _ _ _ _ _ _ _ _ _ _ _ _ _ _ _ _ _ _ _ _ _ _ _ _ _ _ _ _ _ _ _ _ _ _ _ _ _ _ _ _ _ _ _ _ hoy.out (n1.out rfl) (.inl rfl)
    | false =>
     obtain ⟨hv,hnx⟩:=n2.out rfl
     have hkv:k < (Q.st.sh j).length:=(LE' hv).1
     obtain ⟨gT,cT',hTe,_,_,hcT⟩:=Y6 hrow (by omega)
     rw [hTe] at y6
     have y7:y.cell? ⟨gT,k,none⟩=some (.int .i64 v):=hcT k _ (by unfold XfE;rw [List.getElem?_map,hv];rfl)
     have hge:decide ((k:Int) ≥ (Q.st.sh j).length)=false:=by simp;omega
     have hgeN:decide (k ≥ (Q.st.sh j).length)=false:=by simp;omega
     have hgeM:decide ((Q.st.sh j).length≤k)=false:=by simp;omega
     have hgeI:decide (((Q.st.sh j).length:Int)≤k)=false:=by simp;omega
     have x7:(k:Int) < (Q.st.sh j).length:=by omega
     have hne:(!(v == v))=false:=by simp
     clear hrow
     replace hTe:=HD hTe
     replace hv:=HD hv
     replace hnx:=HD hnx
     have IH':=IH.out (k + 1) (by omega) y
     simp only [Try.f3,Option.getD_some,Code.nav] at IH'
     replace IH':=HD IH'
     have hwr:IntKind.i64.wrap ((k:Int) + 1)=((k + 1:Nat):Int):=by
      rw [IntKind.wrap_i64];omega
     repeat first|refine jc rfl ?_|(first|refine ju rfl rfl ?_|(refine jv rfl rfl rfl fun K E f τ d=>?_;have f0:=uc τ d yx;have f1:=uc τ d y5;have f2:=uc τ d y6;have f3:=uc τ d y7;go_simp;refine f _ _ _ _ ?_;clear f0 f1 f2 f3 f K E τ d);try walk_nrm)
     refine JG.inLoop ?_
     rw [show ((k:Int) + 1)=((k + 1:Nat):Int) from rfl]
     exact IH'.out _ _ _ _ _ _ _ _ _ _ _ _ _ _ _ _ _ _ _ _ _ _ _ _ _ _ _ _ _ _ _ _ _ _ _ _ _ _ _ _ _ _ _ _ _ _ _ _ _ _ _ _ _ _ _ hoy.out hnx.out Hh.out
end
section
variable {Post:Value→World→Prop} {C:Ctx} {cs:List Frame} {t:TA} {Q:Xp (Nat→List Int)} {q:Nat} {e:Int} {kk:List Item} {x0 x1:World} {K:Wk}
theorem VS {u0 u2 u3 u5 u7 u8 B1 B7 B8 B9 D0 D1 D2 D3 D4 D5 D6 D7 D8 D9 E0 E1 E2 E3 E4 E5 E6 E7 E8 E9 G0 G1 G2 G3 G4 G5 G6 G7 G8 G9 H4 H5 H6 H7 H8 H9 I0 I1 I2 I3 I4 I5 I6 I7 I8 I9 J0 J1 J2 J3 J4 J5 J6 J7 J8 J9 K0 K1 K3 K4 K5 K6 K7 K8 K9 L0 L1 L2 V2 V3 V4 V5 V6 V7 V8 V9 W0 W1 W2 W3:Value} (H:Tl t Q x0) (h01:Xf x0 x1) (F:Xp.RunFacts t.css t.v t.picks 16384 e Q):∀ (p j:Nat),j + p=t.nS→∀ (x:World) (gv:List Bool) (B3 B4 B5 B6 L3 L4 L5 L6 L7 L8 L9 M0 M1 M4 M5 M6 M7 M8 M9 N1 N5 N6 N7 N8 N9 O0 O1 O2 O3 O4 O5 O6 O7 O8 O9 R0 R1 R2 R3 R4 R5 R6 R7 R8 R9 S0 S1 S2 S3 S4 S5 S6 S7 S8 S9 T0 T1 T2 T3 T4 T5 T6 T7 T8 T9 U0 U1 U2 U3 U4 U5 U6 U7 U8 U9 V0 V1:Value),UU x1 K gv Q Ws t.v (Xaq Ws t.v t.nC) x→(∀ (i:Nat) (a:Xn),Q.st.log[i]? = some a→a.thread < j→gv.getD a.cell.toNat false=true) →
 (∀ (y:World) (gv:List Bool) (B3 B4 B5 B6 L3 L4 L5 L6 L7 L8 L9 M0 M1 M4 M5 M6 M7 M8 M9 N1 N5 N6 N7 N8 N9 O0 O1 O2 O3 O4 O5 O6 O7 O8 O9 R0 R1 R2 R3 R4 R5 R6 R7 R8 R9 S0 S1 S2 S3 S4 S5 S6 S7 S8 S9 T0 T1 T2 T3 T4 T5 T6 T7 T8 T9 U0 U1 U2 U3 U4 U5 U6 U7 U8 U9 V0 V1:Value),UU x1 K gv Q Ws t.v (Xaq Ws t.v t.nC) y→(∀ (i:Nat) (a:Xn),Q.st.log[i]? = some a→a.thread < t.nS→gv.getD a.cell.toNat false=true)→JG Try.prog Post C (G ((base 3).at ⟨List.toArray (u0::P0 t.bp::u2::u3::P0 t.bl::u5::P0 t.bt::u7::u8::P0 q::P0 K.wb::B1::.int .i64 t.nS::B3::B4::B5::B6::B7::B8::B9::D0::D1::D2::D3::D4::D5::D6::D7::D8::D9::E0::E1::E2::E3::E4::E5::E6::E7::E8::E9::G0::G1::G2::G3::G4::G5::G6::G7::G8::G9::H4::H5::H6::H7::H8::H9::I0::I1::I2::I3::I4::I5::I6::I7::I8::I9::J0::J1::J2::J3::J4::J5::J6::J7::J8::J9::K0::K1::K3::K4::K5::K6::K7::K8::K9::L0::L1::L2::L3::L4::L5::L6::L7::L8::L9::M0::M1::M4::M5::M6::M7::M8::M9::N1::N5::N6::N7::N8::N9::O0::O1::O2::O3::O4::O5::O6::O7::O8::O9::R0::R1::R2::R3::R4::R5::R6::R7::R8::R9::S0::S1::S2::S3::S4::S5::S6::S7::S8::S9::T0::T1::T2::T3::T4::T5::T6::T7::T8::T9::U0::U1::U2::U3::U4::U5::U6::U7::U8::U9::V0::V1::V2::V3::V4::V5::V6::V7::V8::V9::W0::W1::W2::W3::[]),[]⟩ (kk)) cs) y) →
 JG Try.prog Post C (G ((base 3).at ⟨List.toArray (u0::P0 t.bp::u2::u3::P0 t.bl::u5::P0 t.bt::u7::u8::P0 q::P0 K.wb::B1::.int .i64 j::B3::B4::B5::B6::B7::B8::B9::D0::D1::D2::D3::D4::D5::D6::D7::D8::D9::E0::E1::E2::E3::E4::E5::E6::E7::E8::E9::G0::G1::G2::G3::G4::G5::G6::G7::G8::G9::H4::H5::H6::H7::H8::H9::I0::I1::I2::I3::I4::I5::I6::I7::I8::I9::J0::J1::J2::J3::J4::J5::J6::J7::J8::J9::K0::K1::K3::K4::K5::K6::K7::K8::K9::L0::L1::L2::L3::L4::L5::L6::L7::L8::L9::M0::M1::M4::M5::M6::M7::M8::M9::N1::N5::N6::N7::N8::N9::O0::O1::O2::O3::O4::O5::O6::O7::O8::O9::R0::R1::R2::R3::R4::R5::R6::R7::R8::R9::S0::S1::S2::S3::S4::S5::S6::S7::S8::S9::T0::T1::T2::T3::T4::T5::T6::T7::T8::T9::U0::U1::U2::U3::U4::U5::U6::U7::U8::U9::V0::V1::V2::V3::V4::V5::V6::V7::V8::V9::W0::W1::W2::W3::[]),[]⟩ (.code (Code.nav (Try.f3.body.getD .skip) [1,1,1,1,1,1,1,1,1,1,1,1,0,1,0,0])::.inLoop (Code.nav (Try.f3.body.getD .skip) [1,1,1,1,1,1,1,1,1,1,1,1,0,1,0,0])::.inBlock 6::kk)) cs) x:=by
 intro p
 induction p with
 | zero =>
  intro j hjp x gv B3 B4 B5 B6 L3 L4 L5 L6 L7 L8 L9 M0 M1 M4 M5 M6 M7 M8 M9 N1 N5 N6 N7 N8 N9 O0 O1 O2 O3 O4 O5 O6 O7 O8 O9 R0 R1 R2 R3 R4 R5 R6 R7 R8 R9 S0 S1 S2 S3 S4 S5 S6 S7 S8 S9 T0 T1 T2 T3 T4 T5 T6 T7 T8 T9 U0 U1 U2 U3 U4 U5 U6 U7 U8 U9 V0 V1 hK hcov h
  obtain rfl:j=t.nS:=by omega
  have y2:=(H.old (h01.trans hK.old)).c2
  replace h:=HD (h x gv)
  replace hK:=HD hK
  replace hcov:=HD hcov
  clear H h01 F
  simp only [Try.f3,Option.getD_some,Code.nav]
  have hx:decide ((t.nS:Int) < t.nS)=false:=by simp
  have hxN:decide (t.nS < t.nS)=false:=by simp
  repeat first|refine jc rfl ?_|(first|refine ju rfl rfl ?_|(refine jv rfl rfl rfl fun K E f τ d=>?_;have f0:=uc τ d y2;go_simp;refine f _ _ _ _ ?_;clear f0 f K E τ d);try walk_nrm)
  refine JG.exit (by rfl) ?_
  try walk_nrm
  exact h.out _ _ _ _ _ _ _ _ _ _ _ _ _ _ _ _ _ _ _ _ _ _ _ _ _ _ _ _ _ _ _ _ _ _ _ _ _ _ _ _ _ _ _ _ _ _ _ _ _ _ _ _ _ _ _ _ _ _ _ _ _ _ _ _ _ _ _ _ _ _ _ _ _ _ _ _ _ hK.out hcov.out
 | succ p ih =>
  intro j hjp x gv B3 B4 B5 B6 L3 L4 L5 L6 L7 L8 L9 M0 M1 M4 M5 M6 M7 M8 M9 N1 N5 N6 N7 N8 N9 O0 O1 O2 O3 O4 O5 O6 O7 O8 O9 R0 R1 R2 R3 R4 R5 R6 R7 R8 R9 S0 S1 S2 S3 S4 S5 S6 S7 S8 S9 T0 T1 T2 T3 T4 T5 T6 T7 T8 T9 U0 U1 U2 U3 U4 U5 U6 U7 U8 U9 V0 V1 hK hcov h
  have hjn:j < t.nS:=by omega
  obtain ⟨_,hn40,hn8,_⟩:=H.small
  obtain ⟨L,hL⟩:∃ L,t.Ss[j]? = some L:=⟨_,List.getElem?_eq_getElem (by rw [H.num];exact hjn)⟩
  have hcs:t.css[j]? = some (L.map (Op4.d t.nC)):=by unfold TA.css;rw [List.getElem?_map,hL];rfl
  have y2:=(H.old (h01.trans hK.old)).c2
  have hS:XfW t Q K gv x.heap.size j L x0 x1:=⟨H,h01,hK.ok F (by omega) (by omega) (fun a b _ _ e=>by have:=(Prod.mk.injEq _ _ _ _).mp e;omega) H.lt,hK.nm,hL,hK.M,hK.old.1⟩
  have hrest:=F.rest j _ hcs
  have IH:=HD ih
  have HS:=HD hS
  have HK:=HD hK
  have HF:=HD F
  have Hh:=HD h
  replace hcov:=HD hcov
  replace hrest:=HD hrest
  clear ih hS hK F h H h01 hcs
  replace hL:=HD hL
  have hsl:=@Xae Post
  simp (config:={ maxSteps:=4000000 }) only [Try.f3,Option.getD_some,Code.nav] at hsl
  simp only [Try.f3,Option.getD_some,Code.nav]
  have hx:decide ((j:Int) < t.nS)=true:=by simp;omega
  have hxN:decide (j < t.nS)=true:=by simp;omega
  have hj0:(j:Int) < t.nS:=by omega
  repeat first|refine jc rfl ?_|(first|refine ju rfl rfl ?_|(refine jv rfl rfl rfl fun K E f τ d=>?_;have f0:=uc τ d y2;go_simp;refine f _ _ _ _ ?_;clear f0 f K E τ d);try walk_nrm)
  refine Xt (f:=23) (args:=#[P0 K.wb,.int .i64 j]) Try.func23 (by kernel_rfl) (by kernel_rfl) rfl rfl rfl rfl (by decide) ?_
  refine Xgo fun y ho hb=>?_
  rw [Frame.finish_at]
  walk_nrm
  have hKy:=HK.out.up ho
  have hIn:WP K gv x.heap.size j (L.map (Op4.d t.nC)) (Q.st.sh j) 0 false y:=WP.start hKy.at_ (by rw [hKy.B];exact hKy.old.1) hb (by rw [hKy.B];exact HK.out.old.1) (by rw [hKy.L,hKy.left,hKy.names,hKy.cells];exact hrest.out)
  clear y2 hb
  replace hKy:=HD hKy
  replace hIn:=HD hIn
  replace ho:=HD ho
  repeat first|refine jc rfl ?_|(first|refine ju rfl rfl ?_|(refine jv rfl rfl rfl fun K E f τ d=>?_;go_simp;refine f _ _ _ _ ?_;clear f K E τ d);try walk_nrm)
  refine JG.loop ?_
  refine hsl HS.out L.length 0 (by omega) y _ _ _ _ _ _ _ _ _ _ _ _ _ _ _ _ _ _ _ _ _ _ _ _ _ _ _ _ _ _ _ _ _ _ _ _ _ _ _ _ _ _ _ _ _ _ _ _ _ _ _ _ _ _ _ hKy.out.old hIn.out ?_
  intro y2 k out B6 M5 M6 M7 M8 M9 N1 N5 N6 N7 N8 N9 O0 O1 O2 O3 O4 O5 O6 O7 O8 O9 R0 R1 R2 R3 R4 R5 R6 R7 R8 R9 S0 S1 S2 S3 S4 S5 S6 S7 S8 S9 T0 T1 T2 T3 T4 T5 T6 T7 T8 T9 U0 U1 U2 ho2 hI2 hend
  obtain ⟨hTl,hWSR⟩:=hI2.done hend
  replace ho2:=HD ho2
  replace hWSR:=HD hWSR
  clear hend hI2
  repeat first|refine jc rfl ?_|(first|refine ju rfl rfl ?_|(refine jv rfl rfl rfl fun K E f τ d=>?_;go_simp;refine f _ _ _ _ ?_;clear f K E τ d);try walk_nrm)
  refine Xt (f:=25) (args:=#[P0 x.heap.size,.bool false]) Try.func25 (by kernel_rfl) (by kernel_rfl) rfl rfl rfl rfl (by decide) ?_
  refine Xf0 HK.out.vF hWSR.out fun z hz=>?_
  rw [Frame.finish_at]
  walk_nrm
  obtain ⟨gv2,at2,hW2,_⟩:=hWSR.out
  obtain ⟨gv3,hW3,hle,htu,hcv⟩:=hz
  have hKz:UU x1 K gv3 Q Ws t.v (Xaq Ws t.v t.nC) z:=UU.kept (gv:=gv2) { HK.out with at_:=hW2,old:=ho2.out } HK.out.old.1 htu hW3
  have hT:=HS.out.H.old (HS.out.o.trans hKz.old)
  have y5:=hT.c5
  obtain ⟨hd,N0,hrr⟩:=hT.rows
  have y6:=hrr.cell hjn
  obtain ⟨aT,cT',hTe⟩:=Xo (hrr.row j hjn)
  rw [hTe,hTl] at y6
  have hcov3:∀ (i:Nat) (a:Xn),Q.st.log[i]? = some a→a.thread < j + 1→gv3.getD a.cell.toNat false=true:=fun i a ha hlt=>by
   rcases Nat.lt_or_ge a.thread j with h|h
   ·exact hle _ (hcov.out i a ha h)
   ·exact hcv i a (by rw [HK.out.L];exact ha) (by omega)
  clear hT hTe hTl hW2 hW3 hle htu hcv hrr
  replace hKz:=HD hKz
  replace hcov3:=HD hcov3
  have IH':=IH.out (j + 1) (by omega) z gv3
  simp only [Try.f3,Option.getD_some,Code.nav] at IH'
  replace IH':=HD IH'
  have hwr:IntKind.i64.wrap ((j:Int) + 1)=((j + 1:Nat):Int):=by
   rw [IntKind.wrap_i64];omega
  have hne:(!((k:Int) == k))=false:=by simp
  have hneN:(!(k == k))=false:=by simp
  repeat first|refine jc rfl ?_|(first|refine ju rfl rfl ?_|(refine jv rfl rfl rfl fun K E f τ d=>?_;have f0:=uc τ d y5;have f1:=uc τ d y6;go_simp;refine f _ _ _ _ ?_;clear f0 f1 f K E τ d);try walk_nrm)
  refine JG.inLoop ?_
  rw [show ((j:Int) + 1)=((j + 1:Nat):Int) from rfl]
  exact IH'.out _ _ _ _ _ _ _ _ _ _ _ _ _ _ _ _ _ _ _ _ _ _ _ _ _ _ _ _ _ _ _ _ _ _ _ _ _ _ _ _ _ _ _ _ _ _ _ _ _ _ _ _ _ _ _ _ _ _ _ _ _ _ _ _ _ _ _ _ _ _ _ _ _ _ _ _ _ hKz.out hcov3.out Hh.out
theorem XcD {u0 u3 u5 u7 u8 B1 B2 B3 B4 B5 B6 B7 B8 B9 D0 D1 D2 D3 D4 D5 D6 D7 D8 D9 E0 E1 E2 E3 E4 E5 E6 E7 E8 E9 G0 G1 G2 G3 G4 G5 G6 G7 G8 G9 H4 H5 H6 H7 H8 H9 I0 I1 I2 I3 I4 I5 I6 I7 I8 I9 J0 J1 J2 J3 J4 J5 J6 J7 J8 J9 K0 K1 K3 K4 K5 K6 K7 K8 K9 L0 L1 L2 L3 L4 L5 L6 L7 L8 L9 M0 M1 M4 M5 M6 M7 M8 M9 N1 N5 N6 N7 N8 N9 O0 O1 O2 O3 O4 O5 O6 O7 O8 O9 R0 R1 R2 R3 R4 R5 R6 R7 R8 R9 S0 S1 S2 S3 S4 S5 S6 S7 S8 S9 T0 T1 T2 T3 T4 T5 T6 T7 T8 T9 U0 U1 U2 U3 U4 U5 U6 U7 U8 U9 V0 V1 u2 V2 V3 V4 V5 V6 V7 V8 V9 W0 W1 W2 W3:Value} {x:World} {gv:List Bool} (H:Tl t Q x) (F:Xp.RunFacts t.css t.v t.picks 16384 e Q) (hK:UU x1 K gv Q Ws t.v (Xaq Ws t.v t.nC) x) (hcov:∀ (i:Nat) (a:Xn),Q.st.log[i]? = some a→a.thread < t.nS→gv.getD a.cell.toNat false=true)
 (h:∀ (y:World) (V2 V3 V4 V5 V6 V7 V8 V9 W0 W1 W2 W3:Value),Xf x y→JG Try.prog Post C (G ((base 3).at ⟨List.toArray (u0::P0 t.bp::.bool true::u3::P0 t.bl::u5::P0 t.bt::u7::u8::P0 q::P0 K.wb::B1::B2::B3::B4::B5::B6::B7::B8::B9::D0::D1::D2::D3::D4::D5::D6::D7::D8::D9::E0::E1::E2::E3::E4::E5::E6::E7::E8::E9::G0::G1::G2::G3::G4::G5::G6::G7::G8::G9::H4::H5::H6::H7::H8::H9::I0::I1::I2::I3::I4::I5::I6::I7::I8::I9::J0::J1::J2::J3::J4::J5::J6::J7::J8::J9::K0::K1::K3::K4::K5::K6::K7::K8::K9::L0::L1::L2::L3::L4::L5::L6::L7::L8::L9::M0::M1::M4::M5::M6::M7::M8::M9::N1::N5::N6::N7::N8::N9::O0::O1::O2::O3::O4::O5::O6::O7::O8::O9::R0::R1::R2::R3::R4::R5::R6::R7::R8::R9::S0::S1::S2::S3::S4::S5::S6::S7::S8::S9::T0::T1::T2::T3::T4::T5::T6::T7::T8::T9::U0::U1::U2::U3::U4::U5::U6::U7::U8::U9::V0::V1::V2::V3::V4::V5::V6::V7::V8::V9::W0::W1::W2::W3::[]),[]⟩ (.code .ret::kk)) cs) y) :
 JG Try.prog Post C (G ((base 3).at ⟨List.toArray (u0::P0 t.bp::u2::u3::P0 t.bl::u5::P0 t.bt::u7::u8::P0 q::P0 K.wb::B1::B2::B3::B4::B5::B6::B7::B8::B9::D0::D1::D2::D3::D4::D5::D6::D7::D8::D9::E0::E1::E2::E3::E4::E5::E6::E7::E8::E9::G0::G1::G2::G3::G4::G5::G6::G7::G8::G9::H4::H5::H6::H7::H8::H9::I0::I1::I2::I3::I4::I5::I6::I7::I8::I9::J0::J1::J2::J3::J4::J5::J6::J7::J8::J9::K0::K1::K3::K4::K5::K6::K7::K8::K9::L0::L1::L2::L3::L4::L5::L6::L7::L8::L9::M0::M1::M4::M5::M6::M7::M8::M9::N1::N5::N6::N7::N8::N9::O0::O1::O2::O3::O4::O5::O6::O7::O8::O9::R0::R1::R2::R3::R4::R5::R6::R7::R8::R9::S0::S1::S2::S3::S4::S5::S6::S7::S8::S9::T0::T1::T2::T3::T4::T5::T6::T7::T8::T9::U0::U1::U2::U3::U4::U5::U6::U7::U8::U9::V0::V1::V2::V3::V4::V5::V6::V7::V8::V9::W0::W1::W2::W3::[]),[]⟩ (.code (Code.nav (Try.f3.body.getD .skip) [1,1,1,1,1,1,1,1,1,1,1,1,1])::kk)) cs) x:=by
 obtain ⟨_,hn40,hn8,_⟩:=H.small
 have y1:=H.c1
 have y4:=H.c4
 have y7:x.cell? (th K.wb 7)=some (.bool false):=Blk.cell hK.at_.blk 7
 have hok:K.OK t.nC:=hK.ok F (by omega) (by omega) (fun a b _ _ e=>by have:=(Prod.mk.injEq _ _ _ _).mp e;omega) H.lt
 have hall:∀ (i:Nat) (a:Xn),K.L[i]? = some a→∃ m:Nat,m < K.names.length∧a.cell=(m:Nat)∧gv.getD m false=true:=fun i a ha=>by
  rw [hK.L] at ha
  obtain ⟨m,m1,m2⟩:=F.left.1 i a ha
  have hw:=F.who i a ha
  have h3:=hcov i a ha (by unfold TA.css at hw;rw [List.length_map,H.num] at hw;exact hw)
  rw [m2,Int.toNat_natCast] at h3
  exact ⟨m,by rw [hK.names];exact m1,m2,h3⟩
 have hnm:∀ i:Nat,i < t.nC→K.nm i=(2,(i:Int)):=fun i _=>by rw [hK.nm];rfl
 have hv:∀ i,i < t.nC→Q.st.cells i=Yc K.L K.names i (t.v i):=fun i _=>by rw [hK.L,hK.names];exact F.left.2 i
 have hH:QV K gv t.gl t.gC t.oC t.nC t.A Q.st.cells t.v x:=⟨hK.at_,by rw [hK.B];exact hK.old.1,H.ls,H.fr,H.v⟩
 have hh:=HD h
 replace hok:=HD hok
 replace hall:=HD hall
 replace hnm:=HD hnm
 replace hv:=HD hv
 replace hH:=HD hH
 clear h F hK hcov H
 simp only [Try.f3,Option.getD_some,Code.nav]
 repeat first|refine jc rfl ?_|(first|refine ju rfl rfl ?_|(refine jv rfl rfl rfl fun K E f τ d=>?_;have f0:=uc τ d y7;have f1:=uc τ d y4;have f2:=uc τ d y1;go_simp;refine f _ _ _ _ ?_;clear f0 f1 f2 f K E τ d);try walk_nrm)
 refine Xt (f:=26) (args:=#[P0 K.wb,.slice (some ⟨t.gl,0,none⟩) t.nC t.cl,.slice (some ⟨t.gC,t.oC,none⟩) t.nC t.cC]) Try.func26 (by kernel_rfl) (by kernel_rfl) rfl rfl rfl rfl (by decide) ?_
 refine XeZ hok.out hall.out (Nat.le_refl _) (by omega) hnm.out hv.out hH.out fun y ho=>?_
 rw [Frame.finish_at]
 walk_nrm
 replace ho:=HD ho
 repeat first|refine jc rfl ?_|(first|refine ju rfl rfl ?_|(refine jv rfl rfl rfl fun K E f τ d=>?_;go_simp;refine f _ _ _ _ ?_;clear f K E τ d);try walk_nrm)
 exact hh.out y _ _ _ _ _ _ _ _ _ _ _ _ ho.out
end
end Go.Proofs.Ytdhnggjmegilkaa
