/- CellPlays, whole: any scripts of threads on cells, by any picks. Conditions: the arguments read as lists; each is at most 2^50 long. -/
import Derived.Test.YtdhnggjmegilkaaSCpU
import Derived.Test.YtdhnggjmegilkaaSPlD
set_option linter.unusedSimpArgs false
set_option linter.unusedVariables false
set_option maxRecDepth 100000
set_option maxHeartbeats 16000000
namespace Go.Proofs.Ytdhnggjmegilkaa
open Go.Conc Go.RowKit
open Go.ConcN (upd upd_same upd_ne)
set_option maxRecDepth 100000
def TA.body (t:TA) (Bs:List Nat) (j:Nat):Xa5 (Nat→List Int):=⟨15,#[P0 t.bp,P0 (Bs.getD j 0),P0 t.bt,P0 t.bl],Qa j ((t.Ss.getD j []).map (Op4.d t.nC))⟩
def TA.bodies (t:TA) (Bs:List Nat):List (Xa5 (Nat→List Int)):=(List.range t.nS).map (t.body Bs)
theorem TA.bodies_len (t:TA) (Bs:List Nat):(t.bodies Bs).length=t.nS:=by simp [TA.bodies]
theorem TA.bodies_get {t:TA} {Bs:List Nat} {j:Nat} {b:Xa5 (Nat→List Int)} (h:(t.bodies Bs)[j]? = some b):j < t.nS∧b=t.body Bs j:=by
 have hj:j < t.nS:=by have:=(LE' h).1;rwa [t.bodies_len] at this
 unfold TA.bodies at h
 rw [List.getElem?_map,List.getElem?_range hj] at h
 exact ⟨hj,(OI h).symm⟩
theorem TA.progs (t:TA) (Bs:List Nat) (hn:t.Ss.length=t.nS):(t.bodies Bs).map (fun b=>b.prog)=XU 0 t.css:=by
 apply List.ext_getElem?
 intro j
 rw [Q1,List.getElem?_map]
 unfold TA.bodies TA.css
 rw [List.getElem?_map,List.getElem?_map]
 rcases Nat.lt_or_ge j t.nS with h|h
 ·rw [List.getElem?_range h,List.getElem?_eq_getElem (show j < t.Ss.length by omega)]
  simp [TA.body,List.getElem?_eq_getElem (show j < t.Ss.length by omega)]
 ·rw [List.getElem?_eq_none (by simp;omega),List.getElem?_eq_none (show t.Ss.length≤j by omega)]
  rfl
theorem Xay {op:Int} {i:Nat} {a e:Int}:(YG op i a e).NoOut:=by
 unfold YG
 split
 ·exact .acc fun _=>.ret _
 ·exact .ret _
structure Xea (t:TA) (Bs:List Nat) (vB:Value) (w:World):Prop where
 c1:w.cell? (th t.bp 0)=some (.slice (some ⟨t.gC,t.oC,none⟩) t.nC t.cC)
 c2:w.cell? (th t.bp 1)=some (.slice t.aS t.nS t.cS)
 c3:w.cell? (th t.bp 2)=some (.slice t.aP t.picks.length t.cP)
 c4:w.cell? (th t.bl 0)=some (.slice (some ⟨t.gl,0,none⟩) t.nC t.cl)
 c5:w.cell? (th t.bt 0)=some (.slice (some ⟨t.gt,0,none⟩) t.nS t.cT)
 v:∀ i,i < t.nC→w.cell? ⟨t.gC,t.oC + i,none⟩=some (.int .i64 (t.v i))
 pk:∀ (i:Nat) (p:Int),t.picks[i]? = some p→∃ g off,t.aP=some ⟨g,off,none⟩∧g < t.N0∧w.cell? ⟨g,off + i,none⟩=some (.int .i64 p)
 capP:t.aP=none→t.cP=0
 num:t.Ss.length=t.nS
 sc:∀ (j:Nat) (L:List Op4),t.Ss[j]? = some L→∃ gS oS aC cC,t.aS=some ⟨gS,oS,none⟩∧gS < t.N0∧w.cell? ⟨gS,oS + j,none⟩=some (.slice aC L.length cC)∧QC w t.N0 aC L∧L.length≤1000000
 ls:∀ i,i < t.nC→w.cell? (th t.gl i)=some (P0 (t.A i))
 isC:∀ i,i < t.nC→XA w (t.A i) (t.v i)∧t.N0≤t.A i
 inj:∀ a b,a < t.nC→b < t.nC→t.A a=t.A b→a=b
 gt:w.heap[t.gt]? = some (.cells (List.replicate t.nS (Value.slice none 0 0)).toArray 22 (0,0))
 gtN:t.N0≤t.gt
 row:w.ownsRow t.N0 40 1 vB t.nS (Bs.map fun b=>UB t.bp t.bt t.bl b)
 box:∀ (j b:Nat),Bs[j]? = some b→w.heap[b]? = some (.cells #[.int .i64 j] 3 (0,0))
 bs:Bs.length=t.nS
 bpo:∃ cs,w.heap[t.bp]? = some (.cells cs 26 (0,0))
 blo:∃ cs,w.heap[t.bl]? = some (.cells cs 28 (0,0))
 bto:∃ cs,w.heap[t.bt]? = some (.cells cs 31 (0,0))
 glo:∃ cs,w.heap[t.gl]? = some (.cells cs 29 (0,0))
 gCN:t.gC < t.N0
 small:0 < t.nC∧t.nC≤40∧t.nS≤8∧t.picks.length≤2000
 N:t.N0≤w.heap.size
theorem QC.up {w:World} {N N':Nat} {a:Option Addr} {L:List Op4} (h:QC w N a L) (hN:N≤N'):QC w N' a L:=fun i c hi=>by
 obtain ⟨g,off,e,hg,q⟩:=h i c hi
 exact ⟨g,off,e,Nat.lt_of_lt_of_le hg hN,q⟩
theorem Qk {w:World} {a b:Nat} {c c':Array Value} {u u':TypeId} (h:w.heap[a]? = some (.cells c u (0,0))) (h':w.heap[b]? = some (.cells c' u' (0,0))) (hn:u≠u'):a≠b:=fun e=>by
 rw [e,h'] at h
 injection h with h
 injection h with _ h
 exact hn h.symm
theorem Xaf {w:World} {N:Nat} {e:TypeId} {size:Nat} {v:Value} {n:Nat} {xs:List Value} {b:Nat} (h:w.ownsRow N e size v n xs) (hv:some b=v.ownBlock):∃ cs,w.heap[b]? = some (.cells cs e (0,0)):=⟨_,Y7 h hv.symm⟩
def TA.reads (t:TA) (Bs:List Nat) (r:Nat):Prop:=r < t.N0∨r=t.bp∨r=t.bl∨r=t.bt∨r=t.gl∨r∈Bs
theorem Xea.apart {t:TA} {Bs:List Nat} {vB vp:Value} {w w1:World} (h:Xea t Bs vB w) (ho:Xf w w1) (hN:t.bp < w.heap.size) {ps:List Value} {np:Nat} (hp:w1.ownsRow w.heap.size 3 1 vp np ps) {r:Nat} (hr:t.reads Bs r):r < w.heap.size∧¬ (some r=vB.ownBlock∨some r=vp.ownBlock)∧r≠t.gt∧∀ i,i < t.nC→r≠t.A i:=by
 have hvp:r < w.heap.size→some r≠vp.ownBlock:=fun h1 e=>by have:=XF hp e.symm;omega
 have key:∀ {cs:Array Value} {u:TypeId},w.heap[r]? = some (.cells cs u (0,0))→u≠40→u≠22→u≠81→r < w.heap.size∧¬ (some r=vB.ownBlock∨some r=vp.ownBlock)∧r≠t.gt∧∀ i,i < t.nC→r≠t.A i:=fun {cs u} hc n1 n2 n3=>by
  have hl:=(GE hc).1
  refine ⟨hl,fun e=>e.elim (fun e=>?_) (hvp hl),Qk hc h.gt n2,fun i hi=>Qk hc (h.isC i hi).1 n3⟩
  obtain ⟨cs',h'⟩:=Xaf h.row e
  exact Qk hc h' n1 rfl
 rcases hr with hr|rfl|rfl|rfl|rfl|hr
 ·have:=h.N
  refine ⟨by omega,fun e=>e.elim (fun e=>?_) (hvp (by omega)),by have:=h.gtN;omega,fun i hi=>by have:=(h.isC i hi).2;omega⟩
  have:=XF h.row e.symm;omega
 ·obtain ⟨cs,hc⟩:=h.bpo;exact key hc (by decide) (by decide) (by decide)
 ·obtain ⟨cs,hc⟩:=h.blo;exact key hc (by decide) (by decide) (by decide)
 ·obtain ⟨cs,hc⟩:=h.bto;exact key hc (by decide) (by decide) (by decide)
 ·obtain ⟨cs,hc⟩:=h.glo;exact key hc (by decide) (by decide) (by decide)
 ·obtain ⟨j,hj⟩:=List.getElem?_of_mem hr
  exact key (h.box j r hj) (by decide) (by decide) (by decide)
theorem Xea.old {t:TA} {Bs:List Nat} {vB:Value} {w w1:World} (h:Xea t Bs vB w) (ho:Xf w w1):Xea t Bs vB w1:=by
 have ob:∀ {b:Nat} {u:TypeId},(∃ cs,w.heap[b]? = some (.cells cs u (0,0)))→∃ cs,w1.heap[b]? = some (.cells cs u (0,0)):=fun ⟨cs,hc⟩=>⟨cs,(ho.2 _ (GE hc).1).trans hc⟩
 exact { h with
  c1:=ho.cell h.c1,c2:=ho.cell h.c2,c3:=ho.cell h.c3,c4:=ho.cell h.c4,c5:=ho.cell h.c5,v:=fun i hi=>ho.cell (h.v i hi)
  pk:=fun i p hp=>by
   obtain ⟨g,off,e1,e2,e3⟩:=h.pk i p hp
   exact ⟨g,off,e1,e2,ho.cell e3⟩
  sc:=fun j L hL=>by
   obtain ⟨gS,oS,aC,cC,e1,e0,e2,e3,e4⟩:=h.sc j L hL
   exact ⟨gS,oS,aC,cC,e1,e0,ho.cell e2,fun i c hi=>by
    obtain ⟨g,off,e,hg,q0,q1,q2,q3⟩:=e3 i c hi
    exact ⟨g,off,e,hg,ho.cell q0,ho.cell q1,ho.cell q2,ho.cell q3⟩,e4⟩
  ls:=fun i hi=>ho.cell (h.ls i hi),isC:=fun i hi=>⟨(ho.2 _ (h.isC i hi).1.lt).trans (h.isC i hi).1,(h.isC i hi).2⟩,gt:=(ho.2 _ (GE h.gt).1).trans h.gt
  row:=Xh h.row fun g hg=>ho.2 g (Xq h.row hg),box:=fun j b hj=>(ho.2 _ (GE (h.box j b hj)).1).trans (h.box j b hj)
  bpo:=ob h.bpo,blo:=ob h.blo,bto:=ob h.bto,glo:=ob h.glo,N:=Nat.le_trans h.N ho.1 }
theorem Xea.scr {t:TA} {Bs:List Nat} {vB vp:Value} {w0:World} (h:Xea t Bs vB w0) (hap:∀ r,t.reads Bs r→r < w0.heap.size∧¬ (some r=vB.ownBlock∨some r=vp.ownBlock)∧r≠t.gt∧∀ i,i < t.nC→r≠t.A i) {j b:Nat} {L:List Op4} (hL:t.Ss[j]? = some L) (hb:Bs[j]? = some b) :
 ∃ gS oS aC cC,Scr w0 (fun r=>some r=vB.ownBlock∨some r=vp.ownBlock) t.gt t.nS t.A t.nC j L t.bp b t.bt t.bl gS oS t.gl t.cS t.cT t.cl cC aC:=by
 obtain ⟨gS,oS,aC,cC,e1,e0,e2,e3,e4⟩:=h.sc j L hL
 obtain ⟨n0,n1,_,_⟩:=h.small
 refine ⟨gS,oS,aC,cC,(GE h.gt).1,fun i hi=>⟨(h.isC i hi).1.lt,Qk h.gt (h.isC i hi).1 (by decide)⟩,by rw [← h.num];exact (LE' hL).1,n0,by omega,e4,by rw [← e1];exact h.c2,Xa (h.box j b hb) 0,h.c5,h.c4,e2,e3.up h.N,h.ls,fun r hr=>?_⟩
 by_cases hz:L≠[]∧∃ a,aC=some a∧r=a.block
 ·obtain ⟨hne,a,ha,rfl⟩:=hz
  cases L with
  | nil=>exact absurd rfl hne
  | cons c L =>
   obtain ⟨g,off,e,hg,_⟩:=e3 0 c rfl
   rw [ha] at e
   obtain rfl:=OI e
   exact (hap g (.inl hg)).2
 ·have hr':t.reads Bs r:=by
   rcases hr with rfl|rfl|rfl|rfl|rfl|rfl|hr
   ·exact .inr (.inl rfl)
   ·exact .inr (.inr (.inr (.inr (.inr (List.mem_of_getElem? hb)))))
   ·exact .inr (.inr (.inr (.inl rfl)))
   ·exact .inr (.inr (.inl rfl))
   ·exact .inl e0
   ·exact .inr (.inr (.inr (.inr (.inl rfl))))
   ·exact absurd hr hz
  exact (hap r hr').2
section
variable {Post:Value→World→Prop} {C:Ctx} {cs:List Frame} {t:TA} {kk:List Item}
theorem XdA {u0 u2 u3 u5 u8 u9 B0 B1 B2 B3 B4 B5 B6 B7 B8 B9 D0 D1 D2 D3 D4 D5 D6 D7 D8 D9 E0 E1 E2 E3 E4 E5 E6 E7 E8 E9 G0 G1 G2 G3 G4 G5 G6 G7 G8 G9 H4 H5 H6 H7 H8 H9 I0 I1 I2 I3 I4 I5 I6 I7 I8 I9 J0 J1 J2 J3 J4 J5 J6 J7 J8 J9 K0 K1 K3 K4 K5 K6 K7 K8 K9 L0 L1 L2 L3 L4 L5 L6 L7 L8 L9 M0 M1 M4 M5 M6 M7 M8 M9 N1 N5 N6 N7 N8 N9 O0 O1 O2 O3 O4 O5 O6 O7 O8 O9 R0 R1 R2 R3 R4 R5 R6 R7 R8 R9 S0 S1 S2 S3 S4 S5 S6 S7 S8 S9 T0 T1 T2 T3 T4 T5 T6 T7 T8 T9 U0 U1 U2 U3 U4 U5 U6 U7 U8 U9 V0 V1 V2 V3 V4 V5 V6 V7 V8 V9 W0 W1 W2 W3:Value} {Bs:List Nat} {vB:Value} {w:World} (hA:Xea t Bs vB w) (hC:C.Alone w.heap.size)
 (h:∀ (C':Ctx) (y:World) (u0 u3 u5 u7 u8 u9 B0 B1 B2 B3 B4 B5 B6 B7 B8 B9 D0 D1 D2 D3 D4 D5 D6 D7 D8 D9 E0 E1 E2 E3 E4 E5 E6 E7 E8 E9 G0 G1 G2 G3 G4 G5 G6 G7 G8 G9 H4 H5 H6 H7 H8 H9 I0 I1 I2 I3 I4 I5 I6 I7 I8 I9 J0 J1 J2 J3 J4 J5 J6 J7 J8 J9 K0 K1 K3 K4 K5 K6 K7 K8 K9 L0 L1 L2 L3 L4 L5 L6 L7 L8 L9 M0 M1 M4 M5 M6 M7 M8 M9 N1 N5 N6 N7 N8 N9 O0 O1 O2 O3 O4 O5 O6 O7 O8 O9 R0 R1 R2 R3 R4 R5 R6 R7 R8 R9 S0 S1 S2 S3 S4 S5 S6 S7 S8 S9 T0 T1 T2 T3 T4 T5 T6 T7 T8 T9 U0 U1 U2 U3 U4 U5 U6 U7 U8 U9 V0 V1 V2 V3 V4 V5 V6 V7 V8 V9 W0 W1 W2 W3:Value),C.Same C'→C'.Alone y.heap.size→w.heap.size≤y.heap.size→(∀ r,r < t.N0→y.heap[r]? = w.heap[r]?)→JG Try.prog Post C' (G ((base 3).at ⟨List.toArray (u0::P0 t.bp::.bool true::u3::P0 t.bl::u5::P0 t.bt::u7::u8::u9::B0::B1::B2::B3::B4::B5::B6::B7::B8::B9::D0::D1::D2::D3::D4::D5::D6::D7::D8::D9::E0::E1::E2::E3::E4::E5::E6::E7::E8::E9::G0::G1::G2::G3::G4::G5::G6::G7::G8::G9::H4::H5::H6::H7::H8::H9::I0::I1::I2::I3::I4::I5::I6::I7::I8::I9::J0::J1::J2::J3::J4::J5::J6::J7::J8::J9::K0::K1::K3::K4::K5::K6::K7::K8::K9::L0::L1::L2::L3::L4::L5::L6::L7::L8::L9::M0::M1::M4::M5::M6::M7::M8::M9::N1::N5::N6::N7::N8::N9::O0::O1::O2::O3::O4::O5::O6::O7::O8::O9::R0::R1::R2::R3::R4::R5::R6::R7::R8::R9::S0::S1::S2::S3::S4::S5::S6::S7::S8::S9::T0::T1::T2::T3::T4::T5::T6::T7::T8::T9::U0::U1::U2::U3::U4::U5::U6::U7::U8::U9::V0::V1::V2::V3::V4::V5::V6::V7::V8::V9::W0::W1::W2::W3::[]),[]⟩ (.code .ret::kk)) cs) y) :
 JG Try.prog Post C (G ((base 3).at ⟨List.toArray (u0::P0 t.bp::u2::u3::P0 t.bl::u5::P0 t.bt::vB::u8::u9::B0::B1::B2::B3::B4::B5::B6::B7::B8::B9::D0::D1::D2::D3::D4::D5::D6::D7::D8::D9::E0::E1::E2::E3::E4::E5::E6::E7::E8::E9::G0::G1::G2::G3::G4::G5::G6::G7::G8::G9::H4::H5::H6::H7::H8::H9::I0::I1::I2::I3::I4::I5::I6::I7::I8::I9::J0::J1::J2::J3::J4::J5::J6::J7::J8::J9::K0::K1::K3::K4::K5::K6::K7::K8::K9::L0::L1::L2::L3::L4::L5::L6::L7::L8::L9::M0::M1::M4::M5::M6::M7::M8::M9::N1::N5::N6::N7::N8::N9::O0::O1::O2::O3::O4::O5::O6::O7::O8::O9::R0::R1::R2::R3::R4::R5::R6::R7::R8::R9::S0::S1::S2::S3::S4::S5::S6::S7::S8::S9::T0::T1::T2::T3::T4::T5::T6::T7::T8::T9::U0::U1::U2::U3::U4::U5::U6::U7::U8::U9::V0::V1::V2::V3::V4::V5::V6::V7::V8::V9::W0::W1::W2::W3::[]),[]⟩ (.code (Code.nav (Try.f3.body.getD .skip) [1,1,1,1,1,1,1,1])::kk)) cs) w:=by
 obtain ⟨aB,cB,rfl⟩:=Xo hA.row
 obtain ⟨sm0,sm1,sm2,sm3⟩:=hA.small
 have hN:=hA.N
 have y3:=hA.c3
 have hbpw:t.bp < w.heap.size:=Xs (a:=th t.bp 0) hA.c1
 have hl1:=@Xfu Post
 have hl2:=@XcK Post
 have hl3:=@VS Post
 have hl4:=@XcD Post
 simp (config:={ maxSteps:=4000000 }) only [Try.f3,Option.getD_some,Code.nav] at hl1 hl2 hl3 hl4
 have HA:=HD hA
 have HC:=HD hC
 have Hh:=HD h
 clear hA hC h
 simp only [Try.f3,Option.getD_some,Code.nav]
 repeat first|refine jc rfl ?_|(first|refine ju rfl rfl ?_|(refine jv rfl rfl rfl fun K E f τ d=>?_;have f0:=uc τ d y3;go_simp;refine f _ _ _ _ ?_;clear f0 f K E τ d);try walk_nrm)
 refine Xt (f:=19) (args:=#[.slice t.aP t.picks.length t.cP]) Try.func19 (by kernel_rfl) (by kernel_rfl) rfl rfl rfl rfl (by decide) ?_
 refine Xe5 HA.out.capP (by omega) (fun i p hp=>by
  obtain ⟨g,off,e1,_,e3⟩:=HA.out.pk i p hp
  exact ⟨g,off,e1,e3⟩) fun vp w0 ho hp=>?_
 rw [Frame.finish_at]
 walk_nrm
 obtain ⟨ap,cp,rfl⟩:=Xo hp
 have hB0:=HA.out.old ho
 obtain ⟨Kp,hKp⟩:∃ Kp:Nat→Prop,Kp=fun r=>some r=(Value.slice aB t.nS cB).ownBlock∨some r=(Value.slice ap t.picks.length cp).ownBlock:=⟨_,rfl⟩
 have hap:∀ r,t.reads Bs r→r < w0.heap.size∧¬ Kp r∧r≠t.gt∧∀ i,i < t.nC→r≠t.A i:=fun r hr=>by
  obtain ⟨a1,a2⟩:=HA.out.apart ho hbpw hp hr
  rw [hKp]
  exact ⟨Nat.lt_of_lt_of_le a1 ho.1,a2⟩
 have hKt:∀ {r:Nat} {cs:Array Value} {u:TypeId},w0.heap[r]? = some (.cells cs u (0,0))→u≠40→u≠3→¬ Kp r:=fun {r cs u} hc n1 n2 e=>by
  rw [hKp] at e
  rcases e with e|e
  ·obtain ⟨cs',h'⟩:=Xaf hB0.row e
   exact Qk hc h' n1 rfl
  ·obtain ⟨cs',h'⟩:=Xaf hp e
   exact Qk hc h' n2 rfl
 have hKl:∀ r,Kp r→r < w0.heap.size:=fun r e=>by
  rw [hKp] at e
  rcases e with e|e
  ·exact Xq hB0.row e.symm
  ·exact Xq hp e.symm
 have hgt:t.gt < w0.heap.size:=(GE hB0.gt).1
 have hAA:∀ i,i < t.nC→t.A i < w0.heap.size∧t.gt≠t.A i:=fun i hi=>⟨(hB0.isC i hi).1.lt,Qk hB0.gt (hB0.isC i hi).1 (by decide)⟩
 have hpo:t.picks≠[]→∃ gp,ap=some ⟨gp,0,none⟩∧Kp gp∧∀ (j:Nat) (q:Int),t.picks[j]? = some q→w0.cell? (th gp j)=some (.int .i64 q):=fun hne=>by
  obtain ⟨g,cap,e1,_,_,hc⟩:=Y6 hp (fun e=>hne (List.length_eq_zero_iff.1 e))
  injection e1 with e1 _ _
  refine ⟨g,e1,by rw [hKp,e1];exact .inr rfl,fun j q hq=>hc j _ (by unfold XdL;rw [List.getElem?_map,hq];rfl)⟩
 have hbs:∀ (j:Nat) (b:Xa5 (Nat→List Int)),(t.bodies Bs)[j]? = some b→∃ bb,aB=some ⟨bb,0,none⟩∧Kp bb∧w0.cell? (th bb j)=some (.func (.func b.fb) #[] b.cap):=fun j b hb=>by
  obtain ⟨hj,rfl⟩:=TA.bodies_get hb
  obtain ⟨g,cap,e1,_,_,hc⟩:=Y6 hB0.row (by omega)
  injection e1 with e1 _ _
  have hjb:j < Bs.length:=by rw [hB0.bs];exact hj
  refine ⟨g,e1,by rw [hKp,e1];exact .inl rfl,hc j _ ?_⟩
  rw [List.getElem?_map,List.getElem?_eq_getElem hjb]
  unfold TA.body
  rw [List.getD_eq_getElem?_getD,List.getElem?_eq_getElem hjb]
  rfl
 have hok:∀ (j:Nat) (b:Xa5 (Nat→List Int)),(t.bodies Bs)[j]? = some b→Q4 Post (Zp w0 Kp t.gt t.nS t.A t.nC hB0.inj hgt hAA) j 16384 b.fb b.cap b.prog:=fun j b hb=>by
  obtain ⟨hj,rfl⟩:=TA.bodies_get hb
  have hjb:j < Bs.length:=by rw [hB0.bs];exact hj
  have hjs:j < t.Ss.length:=by rw [hB0.num];exact hj
  obtain ⟨gS,oS,aC,cC,hS⟩:=hB0.scr (vp:=.slice ap t.picks.length cp) (fun r hr=>by have:=hap r hr;rw [hKp] at this;exact this) (List.getElem?_eq_getElem hjs) (List.getElem?_eq_getElem hjb)
  rw [← hKp] at hS
  have hb2:=Xe4 (Post:=Post) (inj:=hB0.inj) (hgt:=hgt) (hA:=hAA) hS 16384
  unfold TA.body
  rw [List.getD_eq_getElem?_getD,List.getD_eq_getElem?_getD,List.getElem?_eq_getElem hjb,List.getElem?_eq_getElem hjs]
  exact hb2
 have hI0:(Zp w0 Kp t.gt t.nS t.A t.nC hB0.inj hgt hAA).I (fun _=>[]) t.v Kp w0:=⟨fun i hi=>⟨(hB0.isC i hi).1,hKt (hB0.isC i hi).1 (by decide) (by decide)⟩,WT.start hB0.gt (hKt hB0.gt (by decide) (by decide))⟩
 have hno:∀ cs∈t.css,∀ c∈cs,c.NoOut:=fun cs hcs c hc=>by
  unfold TA.css at hcs
  obtain ⟨L,_,rfl⟩:=List.mem_map.1 hcs
  obtain ⟨o,_,rfl⟩:=List.mem_map.1 hc
  exact Xay
 have hokD:∀ cs∈t.css,∀ c∈cs,c.Ok t.nC:=fun cs hcs c hc=>by
  unfold TA.css at hcs
  obtain ⟨L,_,rfl⟩:=List.mem_map.1 hcs
  obtain ⟨o,_,rfl⟩:=List.mem_map.1 hc
  have hz:(0:Int) < t.nC:=by omega
  have b1:=Int.emod_nonneg o.ce (show (t.nC:Int)≠0 by omega)
  have b2:=Int.emod_lt_of_pos o.ce hz
  exact Xd2 (by omega)
 have hprogs:=t.progs Bs hB0.num
 have hnb:t.nS=(t.bodies Bs).length:=(t.bodies_len Bs).symm
 clear y3
 replace hap:=HD hap
 clear hKt
 replace hpo:=HD hpo
 replace hbs:=HD hbs
 replace hok:=HD hok
 replace hno:=HD hno
 replace hokD:=HD hokD
 replace hp:=HD hp
 replace hKp:=HD hKp
 have HB0:=HD hB0
 replace ho:=HD ho
 replace hnb:=HD hnb
 repeat first|refine jc rfl ?_|(first|refine ju rfl rfl ?_|(refine jv rfl rfl rfl fun K E f τ d=>?_;go_simp;refine f _ _ _ _ ?_;clear f K E τ d);try walk_nrm)
 refine Xt (f:=18) (args:=#[.slice ap t.picks.length cp,.int .i64 16384,.slice aB t.nS cB]) Try.func18 (by kernel_rfl) (by kernel_rfl) rfl rfl rfl rfl (by decide) ?_
 rw [hnb.out]
 refine Xfp (S:=Zp w0 Kp t.gt t.nS t.A t.nC hB0.inj hgt hAA) (Kp:=Kp) (picks:=t.picks) (most:=16384) (m:=16384) (bodies:=t.bodies Bs) (sh:=fun _=>[]) (cells:=t.v) (by decide) HC.out.d HC.out.h (Nat.le_trans HC.out.lo ho.out.1) HC.out.none hpo.out hbs.out (by rw [← hnb.out];omega) hKl hok.out hI0 (fun l1 l2 e=>Xar (fun _=>rfl) hno.out 16384 l1 l2 (by rw [← hprogs];exact e))
  (fun Q e C' z M vL vW vR vl hQ d1 d2 d3 d4 d5 d6 hz hsz hM r1 r2 r3 r4 hI hQn hlv hnm=>?_)
 rw [← hnb.out] at hQn d3
 rw [hprogs] at hQ
 have FF:=Xp.run_facts (nc:=t.nC) (fun _=>rfl) hokD.out hQ hlv
 have q3:=FF.lens.2.2
 have hleft:Q.left.length≤Q.n:=by
  unfold Xp.left
  exact Nat.le_trans (List.length_filterMap_le _ _) (by rw [List.length_range];exact Nat.le_refl _)
 obtain ⟨aL,cL,rfl,hLL⟩:=XaZ r1 (by omega)
 obtain ⟨al,cl,rfl,hll⟩:=XaZ r4 (by omega)
 obtain ⟨aW,cW,rfl,hWW⟩:=XaP r2
 obtain ⟨aR,cR,rfl,hRR⟩:=XaP r3
 obtain ⟨hI1,hI2⟩:=hI
 have hzr:∀ r,t.reads Bs r→z.heap[r]? = w0.heap[r]?:=fun r hr=>by
  obtain ⟨a1,a2,a3,a4⟩:=hap.out r hr
  exact (hI2.2.1 r a1 a2 a3 a4).2
 have hzc:∀ {a:Addr} {v:Value},t.reads Bs a.block→w0.cell? a=some v→z.cell? a=some v:=fun hr hc=>(World.cell?_of_block (hzr _ hr)).trans hc
 have hTz:Tl t Q z:=⟨hzc (.inr (.inl rfl)) HB0.out.c1,hzc (.inr (.inl rfl)) HB0.out.c2,hzc (.inr (.inl rfl)) HB0.out.c3,hzc (.inr (.inr (.inl rfl))) HB0.out.c4,hzc (.inr (.inr (.inr (.inl rfl)))) HB0.out.c5,fun i hi=>hzc (.inl HB0.out.gCN) (HB0.out.v i hi),fun i p hp=>by
  obtain ⟨g,off,e1,e2,e3⟩:=HB0.out.pk i p hp
  exact ⟨g,off,e1,hzc (.inl e2) e3⟩,HB0.out.num,fun j L hL=>by
  obtain ⟨gS,oS,aC,cC,e1,e0,e2,e3,e4⟩:=HB0.out.sc j L hL
  refine ⟨gS,oS,aC,cC,e1,hzc (.inl e0) e2,fun i c hi=>?_,e4⟩
  obtain ⟨g,off,e,hg,k0,k1,k2,k3⟩:=e3 i c hi
  exact ⟨g,off,e,by have:=HB0.out.N;omega,hzc (.inl hg) k0,hzc (.inl hg) k1,hzc (.inl hg) k2,hzc (.inl hg) k3⟩,by
  obtain ⟨hd,hr⟩:=hI2.2.2.2
  exact ⟨hd,_,hr.head,hr.row,fun _ _ _ _ h=>h,hr.apart⟩,fun i hi=>hzc (.inr (.inr (.inr (.inr (.inl rfl))))) (HB0.out.ls i hi),fun i hi=>(hI1 i hi).1.free,HB0.out.small,hnm⟩
 have hlow:∀ r,r < t.N0→z.heap[r]? = w.heap[r]?:=fun r hr=>(hzr r (.inl hr)).trans (ho.out.2 r (by omega))
 have hwz:w.heap.size≤z.heap.size:=Nat.le_trans ho.out.1 hsz
 have hRep:∀ v:World,Xf z v→∀ q,v.heap[q]? = some (.cells #[.int .i8 e,.int .i64 Q.st.went.length,.slice aL Q.st.log.length cL,.slice aW Q.st.went.length cW,.slice aR Q.st.ready.length cR,.slice al Q.left.length cl,.slice none 0 0] 43 (0,0))→Xdi v q e Q aL aW aR al cL cW cR cl:=fun v hv q hq=>⟨hq,hLL.old hv,hll.old hv,hWW.old hv,hRR.old hv⟩
 clear hzr hzc hI1 hI2 hLL hll hWW hRR r1 r2 r3 r4 hz hM hQ hlv hnm
 rw [Frame.finish_at]
 walk_nrm
 replace FF:=HD FF
 replace hTz:=HD hTz
 replace hlow:=HD hlow
 replace hRep:=HD hRep
 replace hsz:=HD hsz
 replace hwz:=HD hwz
 repeat first|refine jc rfl ?_|(first|refine ju rfl rfl ?_|(refine jv rfl rfl rfl fun K E f τ d=>?_;go_simp;refine f _ _ _ _ ?_;clear f K E τ d);try walk_nrm)
 refine jo rfl rfl rfl (by decide) fun K E hK hE τ d=>?_
 go_simp
 refine hK _ _ (jt (x:=z.alloc (.cells #[.int .i8 0,.int .i64 0,.slice none 0 0,.slice none 0 0,.slice none 0 0,.slice none 0 0,.slice none 0 0] 43)) ?_)
 simp only [Xv]
 clear hK hE K E τ d
 have wn:(z.alloc (.cells #[.int .i8 0,.int .i64 0,.slice none 0 0,.slice none 0 0,.slice none 0 0,.slice none 0 0,.slice none 0 0] 43)).heap[z.heap.size]? = some (.cells #[.int .i8 0,.int .i64 0,.slice none 0 0,.slice none 0 0,.slice none 0 0,.slice none 0 0,.slice none 0 0] 43 (0,0)):=heap_alloc_new z _
 have s4:=(Xf.refl z).alloc (.cells #[.int .i8 0,.int .i64 0,.slice none 0 0,.slice none 0 0,.slice none 0 0,.slice none 0 0,.slice none 0 0] 43)
 generalize z.alloc (.cells #[.int .i8 0,.int .i64 0,.slice none 0 0,.slice none 0 0,.slice none 0 0,.slice none 0 0,.slice none 0 0] 43)=w2 at wn s4 ⊢
 obtain ⟨q,hq⟩:∃ q,q=z.heap.size:=⟨_,rfl⟩
 rw [← hq] at wn ⊢
 replace hq:=HD hq
 have m0:w2.cell? (th q 0)=some (.int .i8 0):=Xa wn 0
 have n0:w2.frozen? (th q 0)=false:=Xe wn 0
 have m1:w2.cell? (th q 1)=some (.int .i64 0):=Xa wn 1
 have n1:w2.frozen? (th q 1)=false:=Xe wn 1
 have m2:w2.cell? (th q 2)=some (.slice none 0 0):=Xa wn 2
 have n2:w2.frozen? (th q 2)=false:=Xe wn 2
 have m3:w2.cell? (th q 3)=some (.slice none 0 0):=Xa wn 3
 have n3:w2.frozen? (th q 3)=false:=Xe wn 3
 have m4:w2.cell? (th q 4)=some (.slice none 0 0):=Xa wn 4
 have n4:w2.frozen? (th q 4)=false:=Xe wn 4
 have m5:w2.cell? (th q 5)=some (.slice none 0 0):=Xa wn 5
 have n5:w2.frozen? (th q 5)=false:=Xe wn 5
 have m6:w2.cell? (th q 6)=some (.slice none 0 0):=Xa wn 6
 have n6:w2.frozen? (th q 6)=false:=Xe wn 6
 refine jo rfl rfl rfl (by decide) fun K E hK hE τ d=>?_
 have m0':=(Xi w2 τ d _).trans m0
 have n0':=(Xl w2 τ d _).trans n0
 have m1':=(Xi w2 τ d _).trans m1
 have n1':=(Xl w2 τ d _).trans n1
 have m2':=(Xi w2 τ d _).trans m2
 have n2':=(Xl w2 τ d _).trans n2
 have m3':=(Xi w2 τ d _).trans m3
 have n3':=(Xl w2 τ d _).trans n3
 have m4':=(Xi w2 τ d _).trans m4
 have n4':=(Xl w2 τ d _).trans n4
 have m5':=(Xi w2 τ d _).trans m5
 have n5':=(Xl w2 τ d _).trans n5
 have m6':=(Xi w2 τ d _).trans m6
 have n6':=(Xl w2 τ d _).trans n6
 go_simp
 refine hK _ _ ?_
 rw [Xd,Xd,Xd,Xd,Xd,Xd,Xd]
 refine jt ?_
 clear m0 n0 m0' n0' m1 n1 m1' n1' m2 n2 m2' n2' m3 n3 m3' n3' m4 n4 m4' n4' m5 n5 m5' n5' m6 n6 m6' n6' hK hE K E τ d
 obtain ⟨v,hv⟩:∃ v,v=(((((((w2.setCell (th q 0) (.int .i8 e)).setCell (th q 1) (.int .i64 Q.st.went.length)).setCell (th q 2) (.slice aL Q.st.log.length cL)).setCell (th q 3) (.slice aW Q.st.went.length cW)).setCell (th q 4) (.slice aR Q.st.ready.length cR)).setCell (th q 5) (.slice al Q.left.length cl)).setCell (th q 6) (.slice none 0 0)):=⟨_,rfl⟩
 rw [← hv]
 try walk_nrm
 have hsv:v.heap.size=w2.heap.size:=by rw [hv,Xg,Xg,Xg,Xg,Xg,Xg,Xg]
 have hvo:∀ r,r≠q→v.heap[r]? = w2.heap[r]?:=fun r h=>by
  rw [hv,Xb h,Xb h,Xb h,Xb h,Xb h,Xb h,Xb h]
 have hvn:v.heap[q]? = some (.cells #[.int .i8 e,.int .i64 Q.st.went.length,.slice aL Q.st.log.length cL,.slice aW Q.st.went.length cW,.slice aR Q.st.ready.length cR,.slice al Q.left.length cl,.slice none 0 0] 43 (0,0)):=by
  rw [hv]
  exact Xc (Xc (Xc (Xc (Xc (Xc (Xc wn))))))
 clear hv wn
 have hvz:Xf z v:=⟨by rw [hsv];exact s4.1,fun r hr=>(hvo r (by have:=hq.out;omega)).trans (s4.2 r hr)⟩
 have hRv:=hRep.out v hvz q hvn
 have hTv:=hTz.out.old hvz
 clear hvo hvn hsv s4
 replace hvz:=HD hvz
 refine JG.done ?_
 refine hl1 FF.out hTv hRv fun y K a62 a63 a64 a65 a66 a67 a68 a69 a70 a71 x1 o1 k1=>?_
 refine JG.loop ?_
 refine hl2 hTv o1 t.nC 0 (by omega) y K _ _ _ _ _ _ _ _ _ _ _ _ _ _ _ _ rfl k1 ?_
 intro y2 K2 b72 b73 b74 b75 b76 b77 b78 b79 b80 b81 b82 b83 b84 b85 b86 b87 hw2 k2
 rw [← hw2]
 replace hTv:=HD hTv
 replace o1:=HD o1
 replace k2:=HD k2
 clear k1 hw2 hRv
 repeat first|refine jc rfl ?_|(first|refine ju rfl rfl ?_|(refine jv rfl rfl rfl fun K E f τ d=>?_;go_simp;refine f _ _ _ _ ?_;clear f K E τ d);try walk_nrm)
 refine JG.loop ?_
 refine hl3 hTv.out o1.out FF.out t.nS 0 (by omega) y2 _ _ _ _ _ _ _ _ _ _ _ _ _ _ _ _ _ _ _ _ _ _ _ _ _ _ _ _ _ _ _ _ _ _ _ _ _ _ _ _ _ _ _ _ _ _ _ _ _ _ _ _ _ _ _ _ _ _ _ _ _ _ _ _ _ _ _ _ _ _ _ _ _ _ _ _ _ _ k2.out (fun i a _ h=>by omega) ?_
 intro y3 gv c13 c14 c15 c16 c88 c89 c90 c91 c92 c93 c94 c95 c96 c97 c98 c99 c100 c101 c102 c103 c104 c105 c106 c107 c108 c109 c110 c111 c112 c113 c114 c115 c116 c117 c118 c119 c120 c121 c122 c123 c124 c125 c126 c127 c128 c129 c130 c131 c132 c133 c134 c135 c136 c137 c138 c139 c140 c141 c142 c143 c144 c145 c146 c147 c148 c149 c150 c151 c152 c153 c154 c155 c156 c157 c158 c159 c160 k3 cov
 refine hl4 (hTv.out.old (o1.out.trans k3.old)) FF.out k3 cov ?_
 intro y4 d161 d162 d163 d164 d165 d166 d167 d168 d169 d170 d171 d172 o4
 have hold:Xf z y4:=hvz.out.trans (o1.out.trans (k3.old.trans o4))
 refine Hh.out C' y4 _ _ _ _ _ _ _ _ _ _ _ _ _ _ _ _ _ _ _ _ _ _ _ _ _ _ _ _ _ _ _ _ _ _ _ _ _ _ _ _ _ _ _ _ _ _ _ _ _ _ _ _ _ _ _ _ _ _ _ _ _ _ _ _ _ _ _ _ _ _ _ _ _ _ _ _ _ _ _ _ _ _ _ _ _ _ _ _ _ _ _ _ _ _ _ _ _ _ _ _ _ _ _ _ _ _ _ _ _ _ _ _ _ _ _ _ _ _ _ _ _ _ _ _ _ _ _ _ _ _ _ _ _ _ _ _ _ _ _ _ _ _ _ _ _ _ _ _ _ _ _ _ _ _ _ _ _ _ _ _ _ _ _ _ _ _ _ _ _ ⟨d2,d4,d5⟩ ⟨d1,by have h1:=HC.out.h;omega,by have:=HC.out.lo;have:=hwz.out;have:=hold.1;omega,fun i hi=>d6 i (by omega)⟩ (Nat.le_trans hwz.out hold.1) (fun r hr=>(hold.2 r ?_).trans (hlow.out r hr))
 have:=hwz.out;omega
end
end Go.Proofs.Ytdhnggjmegilkaa
namespace Go.Proofs.Ytdhnggjmegilkaa
open Go.Conc Go.RowKit
set_option maxRecDepth 100000
theorem Ctx.Same.trans {A B D:Ctx} (h:A.Same B) (k:B.Same D):A.Same D:=⟨k.h.trans h.h,k.lo.trans h.lo,k.io.trans h.io⟩
theorem XeR {w:World} {N N':Nat} {e:TypeId} {size:Nat} {v:Value} {n:Nat} {xs:List Value} (h:w.ownsRow N e size v n xs) (hN:N'≤N):w.ownsRow N' e size v n xs:=⟨h.1,h.2.imp id fun ⟨g,cap,cur,q1,q2,q3⟩=>⟨g,cap,cur,q1,by omega,q3⟩⟩
theorem XbT {lens:Nat→Nat}:∀ (n i:Nat),i < n→lens i≤Xbb lens n
 | n + 1,i,h=>by
  rw [Xbb]
  rcases Nat.lt_or_ge i n with h1|h1
  ·have:=XbT (lens:=lens) n i h1;omega
  ·obtain rfl:i=n:=by omega
   omega
section
variable {Post:Value→World→Prop} {C:Ctx} {x:World}
theorem VO (hC:Xgf C x) (h:Xgn Post C x) {Cs picks:List Int} {Ss:List (List Op4)} {aC aS aP:Option Addr} {cC cS cP:Nat} (hCs:XS x aC Cs) (hP:XS x aP picks) (hcap:aP=none→cP=0)
 (hS:∀ (j:Nat) (L:List Op4),Ss[j]? = some L→∃ gS oS aL cL,aS=some ⟨gS,oS,none⟩∧x.cell? ⟨gS,oS + j,none⟩=some (.slice aL L.length cL)∧QC x x.heap.size aL L) (hl:∀ L∈Ss,L.length≤1125899906842624) (hSl:Ss.length≤1125899906842624) :
 JG Try.prog Post C (G (Frame.enter Try.prog 3 #[Xci (.slice aC Cs.length cC) (.slice aS Ss.length cS) (.slice aP picks.length cP)] .normal) []) x:=by
 unfold Xci
 have hl1:=@Xby Post
 have hl2:=@XbR Post
 have hl3:=@WN Post
 have hl4:=@XdA Post
 simp (config:={ maxSteps:=4000000 }) only [Try.f3,Option.getD_some,Code.nav] at hl1 hl2 hl3 hl4
 obtain ⟨c1,c2,c3,c4,c5⟩:=hC
 have hal:C.Alone x.heap.size:=⟨c2,by omega,by omega,fun i _=>c4 i⟩
 replace h:=HD h
 replace hal:=HD hal
 have HC:=HD hCs
 have HP:=HD hP
 have HS:=HD hS
 have Hl:=HD hl
 replace hcap:=HD hcap
 replace hSl:=HD hSl
 clear hCs hP hS hl
 refine Xy Try.func3 (by rfl) (by rfl) ?_
 simp only [Try.f3,Option.getD_some,Code.nav]
 walk_nrm
 repeat first|refine jc rfl ?_|(first|refine ju rfl rfl ?_|(refine jv rfl rfl rfl fun K E f τ d=>?_;go_simp;refine f _ _ _ _ ?_;clear f K E τ d);try walk_nrm)
 refine jo rfl rfl rfl (by decide) fun K E hK hE τ d=>?_
 go_simp
 refine hK _ _ (jt (x:=x.alloc (.cells #[.slice aC Cs.length cC,.slice aS Ss.length cS,.slice aP picks.length cP] 26)) ?_)
 simp only [Xv]
 clear hK hE K E τ d
 have b0:(x.alloc (.cells #[.slice aC Cs.length cC,.slice aS Ss.length cS,.slice aP picks.length cP] 26)).heap[x.heap.size]? = some (.cells #[.slice aC Cs.length cC,.slice aS Ss.length cS,.slice aP picks.length cP] 26 (0,0)):=heap_alloc_new x _
 have o0:=(Xf.refl x).alloc (.cells #[.slice aC Cs.length cC,.slice aS Ss.length cS,.slice aP picks.length cP] 26)
 generalize x.alloc (.cells #[.slice aC Cs.length cC,.slice aS Ss.length cS,.slice aP picks.length cP] 26)=y0 at b0 o0 ⊢
 obtain ⟨bp,hbp⟩:∃ bp,bp=x.heap.size:=⟨_,rfl⟩
 rw [← hbp] at b0 ⊢
 have l0:=(GE b0).1
 replace hbp:=HD hbp
 replace o0:=HD o0
 repeat first|refine jc rfl ?_|(first|refine ju rfl rfl ?_|(refine jv rfl rfl rfl fun K E f τ d=>?_;go_simp;refine f _ _ _ _ ?_;clear f K E τ d);try walk_nrm)
 refine Xt (f:=12) (args:=#[]) Try.func12 (by kernel_rfl) (by kernel_rfl) rfl rfl rfl rfl (by decide) ?_
 refine XbK ⟨hal.out.d,hal.out.h,by have:=hal.out.lo;have:=hbp.out;omega,hal.out.none⟩ (fun C1 y1 o1 sm1 al1=>?_)
 rw [Frame.finish_at]
 walk_nrm
 have b1:=(o1.2 bp l0).trans b0
 have o2:=o0.out.trans o1
 have l1:=(GE b1).1
 clear b0 o0 o1 l0
 replace al1:=HD al1
 replace sm1:=HD sm1
 replace o2:=HD o2
 repeat first|refine jc rfl ?_|(first|refine ju rfl rfl ?_|(refine jv rfl rfl rfl fun K E f τ d=>?_;go_simp;refine f _ _ _ _ ?_;clear f K E τ d);try walk_nrm)
 refine jo rfl rfl rfl (by decide) fun K E hK hE τ d=>?_
 have m0:=uc τ d (Xa b1 0)
 have m1:=uc τ d (Xa b1 1)
 have m2:=uc τ d (Xa b1 2)
 go_simp
 refine hK _ _ (jt ?_)
 clear m0 m1 m2 hK hE K E τ d
 try walk_nrm
 repeat first|refine jc rfl ?_|(first|refine ju rfl rfl ?_|(refine jv rfl rfl rfl fun K E f τ d=>?_;go_simp;refine f _ _ _ _ ?_;clear f K E τ d);try walk_nrm)
 refine Xt (f:=13) (args:=#[.agg #[.slice aC Cs.length cC,.slice aS Ss.length cS,.slice aP picks.length cP]]) Try.func13 (by kernel_rfl) (by kernel_rfl) rfl rfl rfl rfl (by decide) ?_
 refine XdJ (lens:=fun i=>(Ss.getD i []).length) (fun i hi=>by
  obtain ⟨gS,oS,aL,cL,e1,e2,_⟩:=HS.out i _ (List.getElem?_eq_getElem hi)
  refine ⟨gS,oS,aL,cL,e1,Xs (a:=⟨gS,oS + i,none⟩) (o2.out.cell e2),?_⟩
  show y1.cell? ⟨gS,oS + i,none⟩=some (.slice aL (Ss.getD i []).length cL)
  rw [List.getD_eq_getElem?_getD,List.getElem?_eq_getElem hi]
  exact o2.out.cell e2) (fun i hi=>by
  show (Ss.getD i []).length≤1125899906842624
  rw [List.getD_eq_getElem?_getD,List.getElem?_eq_getElem hi]
  exact Hl.out _ (List.getElem_mem hi)) hSl.out fun b y2 ho hb=>?_
 rw [Frame.finish_at]
 walk_nrm
 have b2:=(ho.2 bp l1).trans b1
 have o3:=o2.out.trans ho
 have l2:=(GE b2).1
 have al2:C1.Alone y2.heap.size:=⟨al1.out.d,al1.out.h,Nat.le_trans al1.out.lo ho.1,al1.out.none⟩
 clear b1 o2 ho l1 al1
 replace o3:=HD o3
 replace al2:=HD al2
 cases b with
 | true =>
  obtain ⟨C3,hC3⟩:∃ C3,C3=C1:=⟨_,rfl⟩
  rw [← hC3] at al2 sm1 ⊢
  have hsm:=sm1
  have hal2:=al2
  have hold:=o3
  clear hl1 hl2 hl3 hl4 hb hC3
  repeat first|refine jc rfl ?_|(first|refine ju rfl rfl ?_|(refine jv rfl rfl rfl fun K E f τ d=>?_;go_simp;refine f _ _ _ _ ?_;clear f K E τ d);try walk_nrm)
  refine JG.ret ?_
  exact JG.end (hsm.out.h.trans c1) hal2.out.d (fun i hi=>hal2.out.none i (by have h1:=hsm.out.h;omega)) rfl rfl Try.func3 (by kernel_rfl) (fun w _ d=>results_tmp (t:=2) rfl _ _ _) (fun w=>events_results_tmp rfl _ _) (fun w hT hio d=>h.out (w.at d) (hio.trans hsm.out.io) (by have:=hT.size;have:=hold.out.1;show x.heap.size≤w.heap.size;omega) (fun r hr=>((hT.old r (by show r < C3.lo;have:=hsm.out.lo;omega)).symm.trans (hold.out.2 r hr))))
 | false =>
  obtain ⟨n8,n2000,n0,n40,nsum⟩:=hb rfl
  have hlen:∀ L∈Ss,L.length≤500:=fun L hL=>by
   obtain ⟨j,hj⟩:=List.getElem?_of_mem hL
   have hjl:=(LE' hj).1
   have:=XbT (lens:=fun i=>(Ss.getD i []).length) Ss.length j hjl
   simp only [List.getD_eq_getElem?_getD,hj,Option.getD_some] at this
   simp only [List.getD_eq_getElem?_getD] at nsum
   omega
  replace nsum:=HD nsum
  clear hb Hl
  replace hlen:=HD hlen
  repeat first|refine jc rfl ?_|(first|refine ju rfl rfl ?_|(refine jv rfl rfl rfl fun K E f τ d=>?_;go_simp;refine f _ _ _ _ ?_;clear f K E τ d);try walk_nrm)
  refine jo rfl rfl rfl (by decide) fun K E hK hE τ d=>?_
  go_simp
  refine hK _ _ (jt (x:=y2.alloc (.cells #[.slice none 0 0] 28)) ?_)
  simp only [Xv]
  clear hK hE K E τ d
  have d0:(y2.alloc (.cells #[.slice none 0 0] 28)).heap[y2.heap.size]? = some (.cells #[.slice none 0 0] 28 (0,0)):=heap_alloc_new y2 _
  have o4:=(Xf.refl y2).alloc (.cells #[.slice none 0 0] 28)
  have s4:(y2.alloc (.cells #[.slice none 0 0] 28)).heap.size=y2.heap.size + 1:=by simp
  generalize y2.alloc (.cells #[.slice none 0 0] 28)=y3 at d0 o4 s4 ⊢
  obtain ⟨bl,hbl⟩:∃ bl,bl=y2.heap.size:=⟨_,rfl⟩
  rw [← hbl] at d0 ⊢
  have hbpl:bp≠bl:=by omega
  have b3:=(o4.2 bp l2).trans b2
  have o5:=o3.out.trans o4
  clear b2 o4
  replace hbl:=HD hbl
  replace s4:=HD s4
  replace d0:=HD d0
  replace b3:=HD b3
  replace o5:=HD o5
  obtain ⟨gC,oC,haC,hgC⟩:∃ gC oC,aC=some ⟨gC,oC,none⟩∧gC < x.heap.size:=by
   obtain ⟨g,off,e1,e2⟩:=HC.out 0 _ (List.getElem?_eq_getElem n0)
   exact ⟨g,off,e1,Xs (a:=⟨g,off + 0,none⟩) e2⟩
  have hvC:∀ i,i < Cs.length→x.cell? ⟨gC,oC + i,none⟩=some (.int .i64 (Cs.getD i 0)):=fun i hi=>by
   obtain ⟨g,off,e1,e2⟩:=HC.out i _ (List.getElem?_eq_getElem hi)
   rw [haC] at e1
   injection e1 with e1
   injection e1 with e3 e4
   rw [e3,e4,List.getD_eq_getElem?_getD,List.getElem?_eq_getElem hi]
   exact e2
  have hck:Xep y3 bp bl gC oC Cs.length cC (fun i=>Cs.getD i 0):=⟨by rw [Xa b3.out 0,haC];rfl,fun i hi=>o5.out.cell (hvC i hi),hbpl,fun e=>by have:=hbl.out;have:=o3.out.1;omega,n40⟩
  have hci:Qm y3 bl (fun i=>Cs.getD i 0) 0 [] (.slice none 0 0) y3:=⟨rfl,Nat.le_refl _,fun _ _ _=>rfl,(GE d0.out).1,d0.out,XW,fun i b e=>by simp at e,List.nodup_nil⟩
  replace hck:=HD hck
  replace hci:=HD hci
  replace hvC:=HD hvC
  repeat first|refine jc rfl ?_|(first|refine ju rfl rfl ?_|(refine jv rfl rfl rfl fun K E f τ d=>?_;go_simp;refine f _ _ _ _ ?_;clear f K E τ d);try walk_nrm)
  refine JG.loop ?_
  refine hl1 hck.out Cs.length 0 (by omega) y3 [] (.slice none 0 0) _ _ _ _ _ _ _ _ _ _ _ _ _ _ _ _ hci.out ?_
  intro yA As vL a25 a26 a27 a28 a29 a30 a31 a32 a33 a34 a35 a36 a37 a38 a39 a40 hA
  clear hl1 hck hci
  obtain ⟨gl,cl,rfl,hgl,_,hcl⟩:=Y6 hA.row (by omega)
  have bA:yA.heap[bp]? = some (.cells #[.slice aC Cs.length cC,.slice aS Ss.length cS,.slice aP picks.length cP] 26 (0,0)):=(hA.old bp (GE b3.out).1 hbpl).trans b3.out
  have hxA:Xf x yA:=⟨Nat.le_trans o5.out.1 hA.size,fun r hr=>(hA.old r (by have:=o5.out.1;omega) (by have:=hbl.out;have:=o3.out.1;omega)).trans (o5.out.2 r hr)⟩
  have yS:yA.cell? (th bp 1)=some (.slice aS Ss.length cS):=Xa bA 1
  refine JG.seq ?_
  refine hl2 yS n8 ?_
  intro yT gt bt e41 e42 e43 e44 oT h1 h2 h3 hgt hbt
  clear hl2 yS
  have yS:yT.cell? (th bp 1)=some (.slice aS Ss.length cS):=oT.cell (Xa bA 1)
  replace oT:=HD oT
  replace hA:=HD hA
  replace hgt:=HD hgt
  replace hbt:=HD hbt
  replace bA:=HD bA
  replace hxA:=HD hxA
  replace hcl:=HD hcl
  repeat first|refine jc rfl ?_|(first|refine ju rfl rfl ?_|(refine jv rfl rfl rfl fun K E f τ d=>?_;go_simp;refine f _ _ _ _ ?_;clear f K E τ d);try walk_nrm)
  refine jo rfl rfl rfl (by decide) fun K E hK hE τ d=>?_
  go_simp
  refine hK _ _ (jt (x:=yT.alloc (.cells #[.int .i64 0] 3)) ?_)
  simp only [Xv]
  clear hK hE K E τ d
  have f0:(yT.alloc (.cells #[.int .i64 0] 3)).heap[yT.heap.size]? = some (.cells #[.int .i64 0] 3 (0,0)):=heap_alloc_new yT _
  have of_:=(Xf.refl yT).alloc (.cells #[.int .i64 0] 3)
  generalize yT.alloc (.cells #[.int .i64 0] 3)=yU at f0 of_ ⊢
  obtain ⟨cur,hcur⟩:∃ cur,cur=yT.heap.size:=⟨_,rfl⟩
  rw [← hcur] at f0 ⊢
  replace hcur:=HD hcur
  replace of_:=HD of_
  refine jo rfl rfl rfl (by decide) fun K E hK hE τ d=>?_
  have hf:=ust (And.intro (Xa f0 0) (Xe f0 0)) τ d
  obtain ⟨hf,hg⟩:=hf
  go_simp
  refine hK _ _ ?_
  rw [Xd]
  refine jt ?_
  clear hf hg hK hE K E τ d
  try walk_nrm
  have f1:(yU.setCell (th cur 0) (.int .i64 0)).heap[cur]? = some (.cells #[.int .i64 ((0:Nat):Int)] 3 (0,0)):=by rw [Xc f0];rfl
  have ov:Xf yT (yU.setCell (th cur 0) (.int .i64 0)):=of_.out.setNew (by show yT.heap.size≤cur;have:=hcur.out;omega)
  generalize yU.setCell (th cur 0) (.int .i64 0)=yV at f1 ov ⊢
  clear f0 of_
  have hbd:VR yT bp bt bl 0 [] (.slice none 0 0) yV:=⟨rfl,ov.1,ov.2,fun i b e=>by simp at e,XW⟩
  replace f1:=HD f1
  replace hbd:=HD hbd
  replace ov:=HD ov
  repeat first|refine jc rfl ?_|(first|refine ju rfl rfl ?_|(refine jv rfl rfl rfl fun K E f τ d=>?_;go_simp;refine f _ _ _ _ ?_;clear f K E τ d);try walk_nrm)
  refine JG.loop ?_
  refine hl3 yS (by omega) Ss.length 0 (by omega) yV [] cur (.slice none 0 0) _ _ _ _ _ _ _ _ _ _ _ _ hbd.out (by have:=hcur.out;omega) f1.out ?_
  intro w Bs cur2 vB g45 g46 g47 g48 g49 g50 g51 g52 g53 g54 g55 g56 hB
  clear hl3 yS hbd f1 ov
  have oTB:Xf yT w:=⟨hB.size,hB.old⟩
  have oAB:=oT.out.trans oTB
  have oxB:=hxA.out.trans oAB
  have hAw:=hA.out
  have ob:∀ {b:Nat} {cs:Array Value} {u:TypeId},yA.heap[b]? = some (.cells cs u (0,0))→w.heap[b]? = some (.cells cs u (0,0)):=fun hc=>(oAB.2 _ (GE hc).1).trans hc
  have oc:∀ {b:Nat} {cs:Array Value} {u:TypeId},yT.heap[b]? = some (.cells cs u (0,0))→w.heap[b]? = some (.cells cs u (0,0)):=fun hc=>(oTB.2 _ (GE hc).1).trans hc
  have hxy:x.heap.size≤y3.heap.size:=o5.out.1
  have hyA:=hAw.size
  have hAt:Xea { bp:=bp,bl:=bl,bt:=bt,gt:=gt,gl:=gl,gC:=gC,oC:=oC,nC:=Cs.length,cC:=cC,nS:=Ss.length,cS:=cS,cl:=cl,cT:=Ss.length,cP:=cP,N0:=x.heap.size,aS:=aS,aP:=aP,v:=fun i=>Cs.getD i 0,picks:=picks,Ss:=Ss,A:=fun i=>As.getD i 0 } Bs vB w:=by
   refine ⟨?_,Xa (ob bA.out) 1,Xa (ob bA.out) 2,Xa (ob hAw.blk) 0,Xa (oc hbt.out) 0,fun i hi=>oxB.cell (hvC.out i hi),fun i p hp=>?_,hcap.out,rfl,fun j L hL=>?_,fun i hi=>?_,fun i hi=>?_,fun a b ha hb e=>Xbn hAw.nodup a b (by rw [hAw.len];exact ha) (by rw [hAw.len];exact hb) e,oc hgt.out,by show x.heap.size≤gt;omega,XeR hB.row (by have:=hxA.out.1;have:=oT.out.1;show x.heap.size≤_;omega),fun j b hj=>(hB.box j b hj).2,hB.len,⟨_,ob bA.out⟩,⟨_,ob hAw.blk⟩,⟨_,oc hbt.out⟩,?_,hgC,⟨n0,n40,n8,n2000⟩,oxB.1⟩
   ·have:=Xa (ob bA.out) 0
    rw [haC] at this;exact this
   ·obtain ⟨g,off,e1,e2⟩:=HP.out i p hp
    exact ⟨g,off,e1,Xs (a:=⟨g,off + i,none⟩) e2,oxB.cell e2⟩
   ·obtain ⟨gS,oS,aL,cL,e1,e2,e3⟩:=HS.out j L hL
    refine ⟨gS,oS,aL,cL,e1,Xs (a:=⟨gS,oS + j,none⟩) e2,oxB.cell e2,fun i c hi=>?_,by have:=hlen.out L (List.mem_of_getElem? hL);omega⟩
    obtain ⟨g,off,e,hg,q0,q1,q2,q3⟩:=e3 i c hi
    exact ⟨g,off,e,hg,oxB.cell q0,oxB.cell q1,oxB.cell q2,oxB.cell q3⟩
   ·have hi':i < As.length:=by rw [hAw.len];exact hi
    refine oAB.cell (hcl.out i _ ?_)
    rw [List.getElem?_map,List.getElem?_eq_getElem hi']
    show _=some (P0 (As.getD i 0))
    rw [List.getD_eq_getElem?_getD,List.getElem?_eq_getElem hi'];rfl
   ·have hi':i < As.length:=by rw [hAw.len];exact hi
    have hq:As[i]? = some (As.getD i 0):=by rw [List.getD_eq_getElem?_getD,List.getElem?_eq_getElem hi'];rfl
    obtain ⟨q1,q2⟩:=hAw.cell i _ hq
    exact ⟨ob q2,Nat.le_trans hxy q1⟩
   ·exact ⟨_,ob (Y7 hAw.row rfl)⟩
  have hal3:C1.Alone w.heap.size:=⟨al2.out.d,al2.out.h,by have:=al2.out.lo;have:=o3.out.1;have:=s4.out;have:=oAB.1;omega,al2.out.none⟩
  refine hl4 hAt hal3 ?_
  intro C3 y4 k0 k3 k5 k7 k8 k9 k10 k11 k12 k13 k14 k15 k16 k17 k18 k19 k20 k21 k22 k23 k24 k25 k26 k27 k28 k29 k30 k31 k32 k33 k34 k35 k36 k37 k38 k39 k40 k41 k42 k43 k44 k45 k46 k47 k48 k49 k50 k51 k52 k53 k54 k55 k56 k57 k58 k59 k60 k61 k62 k63 k64 k65 k66 k67 k68 k69 k70 k71 k72 k73 k74 k75 k76 k77 k78 k79 k80 k81 k82 k83 k84 k85 k86 k87 k88 k89 k90 k91 k92 k93 k94 k95 k96 k97 k98 k99 k100 k101 k102 k103 k104 k105 k106 k107 k108 k109 k110 k111 k112 k113 k114 k115 k116 k117 k118 k119 k120 k121 k122 k123 k124 k125 k126 k127 k128 k129 k130 k131 k132 k133 k134 k135 k136 k137 k138 k139 k140 k141 k142 k143 k144 k145 k146 k147 k148 k149 k150 k151 k152 k153 k154 k155 k156 k157 k158 k159 k160 k161 k162 k163 k164 k165 k166 k167 k168 k169 k170 k171 k172 hsm1 hal2 hsz hlow
  have hsm:=HD (sm1.out.trans hsm1)
  have hold:=HD (show Xf x y4 from ⟨Nat.le_trans oxB.1 hsz,fun r hr=>(hlow r hr).trans (oxB.2 r hr)⟩)
  replace hal2:=HD hal2
  clear hl4 hAt hlow hAw hB hA
  refine JG.ret ?_
  exact JG.end (hsm.out.h.trans c1) hal2.out.d (fun i hi=>hal2.out.none i (by have h1:=hsm.out.h;omega)) rfl rfl Try.func3 (by kernel_rfl) (fun w _ d=>results_tmp (t:=2) rfl _ _ _) (fun w=>events_results_tmp rfl _ _) (fun w hT hio d=>h.out (w.at d) (hio.trans hsm.out.io) (by have:=hT.size;have:=hold.out.1;show x.heap.size≤w.heap.size;omega) (fun r hr=>((hT.old r (by show r < C3.lo;have:=hsm.out.lo;omega)).symm.trans (hold.out.2 r hr))))
end
end Go.Proofs.Ytdhnggjmegilkaa
