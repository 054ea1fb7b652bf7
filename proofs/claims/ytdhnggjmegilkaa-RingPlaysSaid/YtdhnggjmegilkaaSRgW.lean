/- RingPlays, whole: any scripts of threads on a ring, by any picks. Conditions: the arguments read as lists; each is at most 2^50 long. -/
import Derived.Test.YtdhnggjmegilkaaSRgU
import Derived.Test.YtdhnggjmegilkaaSCpQ
import Derived.Test.YtdhnggjmegilkaaSRwA
set_option linter.all false
set_option maxRecDepth 100000
set_option maxHeartbeats 16000000
namespace Go.Proofs.Ytdhnggjmegilkaa
open Go.Conc Go.RowKit
open Go.ConcN (upd upd_same upd_ne)
set_option maxRecDepth 100000
theorem ZK.start {α:Type} {E:Enc α} {gt n N0:Nat} {col:Nat→Prop} {x:World} (h:x.heap[gt]? = some (.cells (List.replicate n (Value.slice none 0 0)).toArray E.ts (0,0))):ZK E gt n N0 col (fun _=>[]) (fun _=>.slice none 0 0) x:=by
 refine ⟨?_,fun j hj=>⟨by simp [Enc.vals],.inl ⟨rfl,rfl⟩⟩,fun j hj g hg=>(by cases hg),fun i j _ _ _ g hg=>(by cases hg)⟩;rw [h,List.map_const',List.length_range]
theorem Z7.start {α:Type} {E:Enc α} {w0:World} {Kp:Nat→Prop} {gt n:Nat} {A:Nat→Nat} {nc:Nat} (h:w0.heap[gt]? = some (.cells (List.replicate n (Value.slice none 0 0)).toArray E.ts (0,0))) (hk:¬ Kp gt):Z7 E w0 Kp gt n A nc (fun _=>[]) Kp w0 :=
 ⟨Nat.le_refl _,fun r _ h2 _ _=>⟨h2,rfl⟩,hk,_,ZK.start h⟩
def TR.body (t:TR) (Bs:List Nat) (j:Nat):Xa8 (Nat→List Ym):=⟨34,#[P0 t.bp,P0 (Bs.getD j 0),P0 t.bs],Qa j ((t.Ss.getD j []).map (X4.d t.n 8193))⟩
def TR.bodies (t:TR) (Bs:List Nat):List (Xa8 (Nat→List Ym)):=(List.range t.nS).map (t.body Bs)
theorem TR.bodies_len (t:TR) (Bs:List Nat):(t.bodies Bs).length=t.nS:=by simp [TR.bodies]
theorem TR.bodies_get {t:TR} {Bs:List Nat} {j:Nat} {b:Xa8 (Nat→List Ym)} (h:(t.bodies Bs)[j]? = some b):j < t.nS∧b=t.body Bs j:=by
 have hj:j < t.nS:=by have:=(LE' h).1;rwa [t.bodies_len] at this
 unfold TR.bodies at h;rw [List.getElem?_map,List.getElem?_range hj] at h;exact ⟨hj,(OI h).symm⟩
theorem TR.progs (t:TR) (Bs:List Nat) (hn:t.Ss.length=t.nS):(t.bodies Bs).map (fun b=>b.prog)=XX 0 t.css:=by
 apply List.ext_getElem?;intro j;rw [Q3,List.getElem?_map];unfold TR.bodies TR.css;rw [List.getElem?_map,List.getElem?_map];rcases Nat.lt_or_ge j t.nS with h|h
 ·rw [List.getElem?_range h,List.getElem?_eq_getElem (show j < t.Ss.length by omega)]
  simp [TR.body,List.getElem?_eq_getElem (show j < t.Ss.length by omega)]
 ·rw [List.getElem?_eq_none (by simp;omega),List.getElem?_eq_none (show t.Ss.length≤j by omega)]
  rfl
structure AtR (t:TR) (Bs:List Nat) (vB:Value) (w:World):Prop where
 c0:w.cell? (th t.bp 0)=some (.int .i64 t.n)
 c1:w.cell? (th t.bp 1)=some (.int .i64 t.fr)
 c2:w.cell? (th t.bp 2)=some (.slice t.aS t.nS t.cS)
 c3:w.cell? (th t.bp 3)=some (.slice t.aP t.picks.length t.cP)
 c4:w.cell? (th t.bs 0)=some (P0 t.sb)
 s0:w.cell? (th t.sb 0)=some (P0 t.ib)
 c5:w.cell? (th t.sb 1)=some (.slice (some ⟨t.gt,0,none⟩) t.nS t.nS)
 pk:∀ (i:Nat) (p:Int),t.picks[i]? = some p→∃ g off,t.aP=some ⟨g,off,none⟩∧g < t.N0∧w.cell? ⟨g,off + i,none⟩=some (.int .i64 p)
 capP:t.aP=none→t.cP=0
 num:t.Ss.length=t.nS
 sc:∀ (j:Nat) (L:List X4),t.Ss[j]? = some L→∃ gS oS aC cC,t.aS=some ⟨gS,oS,none⟩∧gS < t.N0∧w.cell? ⟨gS,oS + j,none⟩=some (.slice aC L.length cC)∧Yl w t.N0 aC L∧L.length≤1000000
 isC:∀ i,i < t.nc→XN w (t.A i) (t.v i)∧t.N0≤t.A i
 inj:∀ a b,a < t.nc→b < t.nc→t.A a=t.A b→a=b
 gt:w.heap[t.gt]? = some (.cells (List.replicate t.nS (Value.slice none 0 0)).toArray 97 (0,0))
 gtN:t.N0≤t.gt
 row:w.ownsRow t.N0 40 1 vB t.nS (Bs.map fun b=>UO t.bp t.bs b)
 box:∀ (j b:Nat),Bs[j]? = some b→w.heap[b]? = some (.cells #[.int .i64 j] 3 (0,0))
 bs:Bs.length=t.nS
 bpo:∃ cs,w.heap[t.bp]? = some (.cells cs 87 (0,0))
 bso:∃ cs,w.heap[t.bs]? = some (.cells cs 88 (0,0))
 sbo:∃ cs,w.heap[t.sb]? = some (.cells cs 101 (0,0))
 ibo:w.heap[t.ib]? = some (.cells #[P0 (t.A 0),P0 (t.A 1),.slice (some ⟨t.pb,0,none⟩) t.n t.n] 115 (0,0))
 pbo:∃ cs,w.heap[t.pb]? = some (.cells cs 208 (0,0))
 rowC:∀ k,k < t.n→w.cell? (th t.pb (k * 2))=some (P0 (t.A (2 + 2 * k)))∧w.cell? (th t.pb (k * 2 + 1))=some (P0 (t.A (3 + 2 * k)))
 small:2≤t.n∧t.n≤256∧t.nS≤8∧t.picks.length≤2000
 ix:∀ p,ixZ t.n p=p % t.n
 N:t.N0≤w.heap.size
theorem Yl.up {w:World} {N N':Nat} {a:Option Addr} {L:List X4} (h:Yl w N a L) (hN:N≤N'):Yl w N' a L:=fun i c hi=>by
 obtain ⟨g,off,e,hg,q⟩:=h i c hi;exact ⟨g,off,e,Nat.lt_of_lt_of_le hg hN,q⟩
theorem AtR.ixb {t:TR} {Bs:List Nat} {vB:Value} {w:World} (h:AtR t Bs vB w) (p:Int):0≤ixZ t.n p∧ixZ t.n p < t.n:=by
 have:=h.small.1
 rw [h.ix];exact ⟨Int.emod_nonneg p (by omega),Int.emod_lt_of_pos p (by omega)⟩
def TR.reads (t:TR) (Bs:List Nat) (r:Nat):Prop:=r < t.N0∨r=t.bp∨r=t.bs∨r=t.sb∨r=t.ib∨r=t.pb∨r∈Bs
theorem AtR.apart {t:TR} {Bs:List Nat} {vB vp:Value} {w w1:World} (h:AtR t Bs vB w) {ps:List Value} {np:Nat} (hp:w1.ownsRow w.heap.size 3 1 vp np ps) {r:Nat} (hr:t.reads Bs r):r < w.heap.size∧¬ (some r=vB.ownBlock∨some r=vp.ownBlock)∧r≠t.gt∧∀ i,i < t.nc→r≠t.A i:=by
 have hvp:r < w.heap.size→some r≠vp.ownBlock:=fun h1 e=>by have:=XE hp e.symm;omega
 have key:∀ {cs:Array Value} {u:TypeId},w.heap[r]? = some (.cells cs u (0,0))→u≠40→u≠97→u≠81→r < w.heap.size∧¬ (some r=vB.ownBlock∨some r=vp.ownBlock)∧r≠t.gt∧∀ i,i < t.nc→r≠t.A i:=fun {cs u} hc n1 n2 n3=>by
  have hl:=(GE hc).1;refine ⟨hl,fun e=>e.elim (fun e=>?_) (hvp hl),Qm hc h.gt n2,fun i hi=>Qm hc (h.isC i hi).1 n3⟩;obtain ⟨cs',h'⟩:=W9 h.row e;exact Qm hc h' n1 rfl
 rcases hr with hr|rfl|rfl|rfl|rfl|rfl|hr
 ·have:=h.N
  refine ⟨by omega,fun e=>e.elim (fun e=>?_) (hvp (by omega)),by have:=h.gtN;omega,fun i hi=>by have:=(h.isC i hi).2;omega⟩
  have:=XE h.row e.symm;omega
 ·obtain ⟨cs,hc⟩:=h.bpo;exact key hc (by decide) (by decide) (by decide)
 ·obtain ⟨cs,hc⟩:=h.bso;exact key hc (by decide) (by decide) (by decide)
 ·obtain ⟨cs,hc⟩:=h.sbo;exact key hc (by decide) (by decide) (by decide)
 ·exact key h.ibo (by decide) (by decide) (by decide)
 ·obtain ⟨cs,hc⟩:=h.pbo;exact key hc (by decide) (by decide) (by decide)
 ·obtain ⟨j,hj⟩:=List.getElem?_of_mem hr
  exact key (h.box j r hj) (by decide) (by decide) (by decide)
theorem AtR.old {t:TR} {Bs:List Nat} {vB:Value} {w w1:World} (h:AtR t Bs vB w) (ho:Xg w w1):AtR t Bs vB w1:=by
 have ob:∀ {b:Nat} {u:TypeId},(∃ cs,w.heap[b]? = some (.cells cs u (0,0)))→∃ cs,w1.heap[b]? = some (.cells cs u (0,0)):=fun ⟨cs,hc⟩=>⟨cs,(ho.2 _ (GE hc).1).trans hc⟩
 exact { h with
  c0:=ho.cell h.c0,c1:=ho.cell h.c1,c2:=ho.cell h.c2,c3:=ho.cell h.c3,c4:=ho.cell h.c4,c5:=ho.cell h.c5,s0:=ho.cell h.s0
  pk:=fun i p hp=>by
   obtain ⟨g,off,e1,e2,e3⟩:=h.pk i p hp;exact ⟨g,off,e1,e2,ho.cell e3⟩
  sc:=fun j L hL=>by
   obtain ⟨gS,oS,aC,cC,e1,e0,e2,e3,e4⟩:=h.sc j L hL;exact ⟨gS,oS,aC,cC,e1,e0,ho.cell e2,fun i c hi=>by
    obtain ⟨g,off,e,hg,q0,q1⟩:=e3 i c hi;exact ⟨g,off,e,hg,ho.cell q0,ho.cell q1⟩,e4⟩
  isC:=fun i hi=>⟨(ho.2 _ (h.isC i hi).1.lt).trans (h.isC i hi).1,(h.isC i hi).2⟩,gt:=(ho.2 _ (GE h.gt).1).trans h.gt
  row:=Xj h.row fun g hg=>ho.2 g (own_lt h.row hg),box:=fun j b hj=>(ho.2 _ (GE (h.box j b hj)).1).trans (h.box j b hj)
  bpo:=ob h.bpo,bso:=ob h.bso,sbo:=ob h.sbo,ibo:=(ho.2 _ (GE h.ibo).1).trans h.ibo,pbo:=ob h.pbo,rowC:=fun k hk=>⟨ho.cell (h.rowC k hk).1,ho.cell (h.rowC k hk).2⟩,N:=Nat.le_trans h.N ho.1 }
theorem AtR.scr {t:TR} {Bs:List Nat} {vB vp:Value} {w0:World} (h:AtR t Bs vB w0) (hap:∀ r,t.reads Bs r→r < w0.heap.size∧¬ (some r=vB.ownBlock∨some r=vp.ownBlock)∧r≠t.gt∧∀ i,i < t.nc→r≠t.A i) {j b:Nat} {L:List X4} (hL:t.Ss[j]? = some L) (hb:Bs[j]? = some b) :
 ∃ gS oS aC cC,XbM w0 (fun r=>some r=vB.ownBlock∨some r=vp.ownBlock) t.gt t.nS t.A t.nc j L t.bp b t.bs t.sb t.ib t.pb t.n t.n gS oS t.cS t.nS cC aC:=by
 obtain ⟨gS,oS,aC,cC,e1,e0,e2,e3,e4⟩:=h.sc j L hL;refine ⟨gS,oS,aC,cC,(GE h.gt).1,fun i hi=>⟨(h.isC i hi).1.lt,Qm h.gt (h.isC i hi).1 (by decide)⟩,by rw [← h.num];exact (LE' hL).1,h.small.1,rfl,h.ixb,e4,by rw [← e1];exact h.c2,Xa (h.box j b hb) 0,h.c4,h.s0,h.c5,e2,e3.up h.N,h.ibo,h.rowC,fun r hr=>?_⟩
 by_cases hz:L≠[]∧∃ a,aC=some a∧r=a.block
 ·obtain ⟨hne,a,ha,rfl⟩:=hz
  cases L with
  | nil=>exact absurd rfl hne
  | cons c L =>
   obtain ⟨g,off,e,hg,_⟩:=e3 0 c rfl;rw [ha] at e;obtain rfl:=OI e;exact (hap g (.inl hg)).2
 ·have hr':t.reads Bs r:=by
   rcases hr with rfl|rfl|rfl|rfl|rfl|rfl|rfl|hr
   ·exact .inr (.inl rfl)
   ·exact .inr (.inr (.inr (.inr (.inr (.inr (List.mem_of_getElem? hb))))))
   ·exact .inr (.inr (.inl rfl))
   ·exact .inr (.inr (.inr (.inl rfl)))
   ·exact .inr (.inr (.inr (.inr (.inl rfl))))
   ·exact .inr (.inr (.inr (.inr (.inr (.inl rfl)))))
   ·exact .inl e0
   ·exact absurd hr hz
  exact (hap r hr').2
section
variable {Post:Value→World→Prop} {C:Ctx} {cs:List Frame} {t:TR} {kk:List Item}
theorem Xcn {u0 u2 u3 u6 u7 u8 u9 B0 B1 B2 B3 B4 B5 B6 B7 B8 B9 D0 D1 D2 D3 D4 D5 D6 D7 D8 D9 E0 E1 E2 E3 E4 E5 E6 E7 E8 E9 G0 G1 G2 G3 G4 G5 G6 G7 G8 G9 H4 H5 H6 H7 H8 H9 I0 I1 I2 I3 I4 I5 I6 I7 I8 I9 J0 J1 J2 J3 J4 J5 J6 J7 J8 J9 K0 K1 K4 K5 K6 K7 K8 K9 L0 L1 L2 L3 L4 L5 L6 L7 L8 L9 M0 M1 M4 M5 M6 M7 M8 M9 N1 N5 N6 N7 N8 N9 O0 O1 O2 O3 O4 O5 O6 O7 O8 O9 R0 R1 R2 R3 R4 R5 R6 R7 R8 R9 S0 S1 S2 S3 S4 S5 S6 S7:Value} {Bs:List Nat} {vB:Value} {w:World} (hA:AtR t Bs vB w) (hC:C.Alone w.heap.size)
 (h:∀ (C':Ctx) (y:World) (u0 u3 u5 u6 u7 u8 u9 B0 B1 B2 B3 B4 B5 B6 B7 B8 B9 D0 D1 D2 D3 D4 D5 D6 D7 D8 D9 E0 E1 E2 E3 E4 E5 E6 E7 E8 E9 G0 G1 G2 G3 G4 G5 G6 G7 G8 G9 H4 H5 H6 H7 H8 H9 I0 I1 I2 I3 I4 I5 I6 I7 I8 I9 J0 J1 J2 J3 J4 J5 J6 J7 J8 J9 K0 K1 K4 K5 K6 K7 K8 K9 L0 L1 L2 L3 L4 L5 L6 L7 L8 L9 M0 M1 M4 M5 M6 M7 M8 M9 N1 N5 N6 N7 N8 N9 O0 O1 O2 O3 O4 O5 O6 O7 O8 O9 R0 R1 R2 R3 R4 R5 R6 R7 R8 R9 S0 S1 S2 S3 S4 S5 S6 S7:Value),C.Same C'→C'.Alone y.heap.size→w.heap.size≤y.heap.size→(∀ r,r < t.N0→y.heap[r]? = w.heap[r]?)→JG Try.prog Post C' (G ((base 6).at ⟨List.toArray (u0::P0 t.bp::.bool true::u3::P0 t.bs::u5::u6::u7::u8::u9::B0::B1::B2::B3::B4::B5::B6::B7::B8::B9::D0::D1::D2::D3::D4::D5::D6::D7::D8::D9::E0::E1::E2::E3::E4::E5::E6::E7::E8::E9::G0::G1::G2::G3::G4::G5::G6::G7::G8::G9::H4::H5::H6::H7::H8::H9::I0::I1::I2::I3::I4::I5::I6::I7::I8::I9::J0::J1::J2::J3::J4::J5::J6::J7::J8::J9::K0::K1::K4::K5::K6::K7::K8::K9::L0::L1::L2::L3::L4::L5::L6::L7::L8::L9::M0::M1::M4::M5::M6::M7::M8::M9::N1::N5::N6::N7::N8::N9::O0::O1::O2::O3::O4::O5::O6::O7::O8::O9::R0::R1::R2::R3::R4::R5::R6::R7::R8::R9::S0::S1::S2::S3::S4::S5::S6::S7::[]),[]⟩ (.code .ret::kk)) cs) y) :
 JG Try.prog Post C (G ((base 6).at ⟨List.toArray (u0::P0 t.bp::u2::u3::P0 t.bs::vB::u6::u7::u8::u9::B0::B1::B2::B3::B4::B5::B6::B7::B8::B9::D0::D1::D2::D3::D4::D5::D6::D7::D8::D9::E0::E1::E2::E3::E4::E5::E6::E7::E8::E9::G0::G1::G2::G3::G4::G5::G6::G7::G8::G9::H4::H5::H6::H7::H8::H9::I0::I1::I2::I3::I4::I5::I6::I7::I8::I9::J0::J1::J2::J3::J4::J5::J6::J7::J8::J9::K0::K1::K4::K5::K6::K7::K8::K9::L0::L1::L2::L3::L4::L5::L6::L7::L8::L9::M0::M1::M4::M5::M6::M7::M8::M9::N1::N5::N6::N7::N8::N9::O0::O1::O2::O3::O4::O5::O6::O7::O8::O9::R0::R1::R2::R3::R4::R5::R6::R7::R8::R9::S0::S1::S2::S3::S4::S5::S6::S7::[]),[]⟩ (.code (Code.nav (Try.f6.body.getD .skip) [1,1,1,1,1,1,1])::kk)) cs) w:=by
 obtain ⟨aB,cB,rfl⟩:=Xq hA.row;obtain ⟨sm0,sm1,sm2,sm3⟩:=hA.small;have hN:=hA.N;have y3:=hA.c3;have hbpw:t.bp < w.heap.size:=Xt (a:=th t.bp 0) hA.c0;have hl1:=@Xfh Post;have hl3:=@Vv Post;have hl4:=@Xbv Post;simp (config:={ maxSteps:=4000000 }) only [Try.f6,Option.getD_some,Code.nav] at hl1 hl3 hl4;have HA:=HD hA;have HC:=HD hC;have Hh:=HD h;clear hA hC h;simp only [Try.f6,Option.getD_some,Code.nav]
 repeat refine kx ?_
 refine kf (args:=#[.slice t.aP t.picks.length t.cP]) Try.func19 ?_;refine Xfr HA.out.capP (by omega) (fun i p hp=>by
  obtain ⟨g,off,e1,_,e3⟩:=HA.out.pk i p hp;exact ⟨g,off,e1,e3⟩) fun vp w0 ho hp=>?_
 rw [Frame.finish_at];walk_nrm;obtain ⟨ap,cp,rfl⟩:=Xq hp;have hB0:=HA.out.old ho;obtain ⟨Kp,hKp⟩:∃ Kp:Nat→Prop,Kp=fun r=>some r=(Value.slice aB t.nS cB).ownBlock∨some r=(Value.slice ap t.picks.length cp).ownBlock:=⟨_,rfl⟩
 have hap:∀ r,t.reads Bs r→r < w0.heap.size∧¬ Kp r∧r≠t.gt∧∀ i,i < t.nc→r≠t.A i:=fun r hr=>by
  obtain ⟨a1,a2⟩:=HA.out.apart hp hr;rw [hKp];exact ⟨Nat.lt_of_lt_of_le a1 ho.1,a2⟩
 have hKt:∀ {r:Nat} {cs:Array Value} {u:TypeId},w0.heap[r]? = some (.cells cs u (0,0))→u≠40→u≠3→¬ Kp r:=fun {r cs u} hc n1 n2 e=>by
  rw [hKp] at e;rcases e with e|e
  ·obtain ⟨cs',h'⟩:=W9 hB0.row e
   exact Qm hc h' n1 rfl
  ·obtain ⟨cs',h'⟩:=W9 hp e
   exact Qm hc h' n2 rfl
 have hKl:∀ r,Kp r→r < w0.heap.size:=fun r e=>by
  rw [hKp] at e;rcases e with e|e
  ·exact own_lt hB0.row e.symm
  ·exact own_lt hp e.symm
 have hgt:t.gt < w0.heap.size:=(GE hB0.gt).1;have hAA:∀ i,i < t.nc→t.A i < w0.heap.size∧t.gt≠t.A i:=fun i hi=>⟨(hB0.isC i hi).1.lt,Qm hB0.gt (hB0.isC i hi).1 (by decide)⟩
 have hpo:t.picks≠[]→∃ gp,ap=some ⟨gp,0,none⟩∧Kp gp∧∀ (j:Nat) (q:Int),t.picks[j]? = some q→w0.cell? (th gp j)=some (.int .i64 q):=fun hne=>by
  obtain ⟨g,cap,e1,_,_,hc⟩:=Qz hp (fun e=>hne (List.length_eq_zero_iff.1 e));injection e1 with e1 _ _
  refine ⟨g,e1,by rw [hKp,e1];exact .inr rfl,fun j q hq=>hc j _ (by unfold XdY;rw [List.getElem?_map,hq];rfl)⟩
 have hbs:∀ (j:Nat) (b:Xa8 (Nat→List Ym)),(t.bodies Bs)[j]? = some b→∃ bb,aB=some ⟨bb,0,none⟩∧Kp bb∧w0.cell? (th bb j)=some (.func (.func b.fb) #[] b.cap):=fun j b hb=>by
  obtain ⟨hj,rfl⟩:=TR.bodies_get hb;obtain ⟨g,cap,e1,_,_,hc⟩:=Qz hB0.row (by omega);injection e1 with e1 _ _
  have hjb:j < Bs.length:=by rw [hB0.bs];exact hj
  refine ⟨g,e1,by rw [hKp,e1];exact .inl rfl,hc j _ ?_⟩;rw [List.getElem?_map,List.getElem?_eq_getElem hjb];unfold TR.body;rw [List.getD_eq_getElem?_getD,List.getElem?_eq_getElem hjb]
  rfl
 have hok:∀ (j:Nat) (b:Xa8 (Nat→List Ym)),(t.bodies Bs)[j]? = some b→Vu Post (Yw XS (XV.fuel (Nat→List Ym)) w0 Kp t.gt t.nS t.A t.nc hB0.inj hgt hAA) j 16384 b.fb b.cap b.prog:=fun j b hb=>by
  obtain ⟨hj,rfl⟩:=TR.bodies_get hb;have hjb:j < Bs.length:=by rw [hB0.bs];exact hj
  have hjs:j < t.Ss.length:=by rw [hB0.num];exact hj
  obtain ⟨gS,oS,aC,cC,hS⟩:=hB0.scr (vp:=.slice ap t.picks.length cp) (fun r hr=>by have:=hap r hr;rw [hKp] at this;exact this) (List.getElem?_eq_getElem hjs) (List.getElem?_eq_getElem hjb);rw [← hKp] at hS;have hb2:=XeZ (Post:=Post) (F:=XV.fuel (Nat→List Ym)) (inj:=hB0.inj) (hgt:=hgt) (hA:=hAA) hS 16384 8193;unfold TR.body;rw [List.getD_eq_getElem?_getD,List.getD_eq_getElem?_getD,List.getElem?_eq_getElem hjb,List.getElem?_eq_getElem hjs];exact hb2
 have hI0:(Yw XS (XV.fuel (Nat→List Ym)) w0 Kp t.gt t.nS t.A t.nc hB0.inj hgt hAA).I (fun _=>[]) t.v Kp w0:=⟨fun i hi=>⟨(hB0.isC i hi).1,hKt (hB0.isC i hi).1 (by decide) (by decide)⟩,Z7.start hB0.gt (hKt hB0.gt (by decide) (by decide))⟩
 have hno:∀ cs∈t.css,∀ c∈cs,c.Fuel 16384:=fun cs hcs c hc=>by
  unfold TR.css at hcs;obtain ⟨L,_,rfl⟩:=List.mem_map.1 hcs;obtain ⟨o,_,rfl⟩:=List.mem_map.1 hc;exact (Xbn 8192).less
 have hokD:∀ cs∈t.css,∀ c∈cs,c.Ok t.nc:=fun cs hcs c hc=>by
  unfold TR.css at hcs;obtain ⟨L,_,rfl⟩:=List.mem_map.1 hcs;obtain ⟨o,_,rfl⟩:=List.mem_map.1 hc;exact XdN sm0 hB0.ixb (Nat.le_refl _) 8193
 have hprogs:=t.progs Bs hB0.num;have hnb:t.nS=(t.bodies Bs).length:=(t.bodies_len Bs).symm;clear y3;replace hap:=HD hap;clear hKt;replace hpo:=HD hpo;replace hbs:=HD hbs;replace hok:=HD hok;replace hno:=HD hno;replace hokD:=HD hokD;replace hp:=HD hp;replace hKp:=HD hKp;have HB0:=HD hB0;replace ho:=HD ho;replace hnb:=HD hnb
 repeat refine kx ?_
 refine kf (args:=#[.slice ap t.picks.length cp,.int .i64 16384,.slice aB t.nS cB]) Try.func18 ?_;rw [hnb.out];refine Xgq (S:=(Yw XS (XV.fuel (Nat→List Ym)) w0 Kp t.gt t.nS t.A t.nc hB0.inj hgt hAA)) (Kp:=Kp) (picks:=t.picks) (most:=16384) (m:=16384) (bodies:=t.bodies Bs) (sh:=fun _=>[]) (cells:=t.v) (by decide) HC.out.d HC.out.h (Nat.le_trans HC.out.lo ho.out.1) HC.out.none hpo.out hbs.out (by rw [← hnb.out];omega) hKl hok.out hI0 (fun l1 l2 e=>Xam (fun _=>rfl) 16384 hno.out l1 l2 (by rw [← hprogs];exact e))
  (fun Q e C' z M vL vW vR vl hQ d1 d2 d3 d4 d5 d6 hz hsz hM r1 r2 r3 r4 hI hQn hlv hnm=>?_)
 rw [← hnb.out] at hQn d3;rw [hprogs] at hQ;have FF:=Xp.run_facts (nc:=t.nc) (fun _=>rfl) hokD.out hQ hlv;have q3:=FF.lens.2.2;have hleft:Q.left.length≤Q.n:=by
  unfold Xp.left;exact Nat.le_trans (List.length_filterMap_le _ _) (by rw [List.length_range];exact Nat.le_refl _)
 obtain ⟨aL,cL,rfl,hLL⟩:=XaZ r1 (by omega);obtain ⟨al,cl,rfl,hll⟩:=XaZ r4 (by omega);obtain ⟨aW,cW,rfl,hWW⟩:=XaM r2;obtain ⟨aR,cR,rfl,hRR⟩:=XaM r3;obtain ⟨hI1,hI2⟩:=hI;have hzr:∀ r,t.reads Bs r→z.heap[r]? = w0.heap[r]?:=fun r hr=>by
  obtain ⟨a1,a2,a3,a4⟩:=hap.out r hr;exact (hI2.2.1 r a1 a2 a3 a4).2
 have hzc:∀ {a:Addr} {v:Value},t.reads Bs a.block→w0.cell? a=some v→z.cell? a=some v:=fun hr hc=>(World.cell?_of_block (hzr _ hr)).trans hc;have hrbp:t.reads Bs t.bp:=.inr (.inl rfl);have hTz:TlR t Q z:=⟨hzc hrbp HB0.out.c0,hzc hrbp HB0.out.c1,hzc hrbp HB0.out.c2,hzc hrbp HB0.out.c3,hzc (.inr (.inr (.inl rfl))) HB0.out.c4,hzc (.inr (.inr (.inr (.inl rfl)))) HB0.out.c5,fun i p hp=>by
  obtain ⟨g,off,e1,e2,e3⟩:=HB0.out.pk i p hp;exact ⟨g,off,e1,hzc (.inl e2) e3⟩,HB0.out.num,fun j L hL=>by
  obtain ⟨gS,oS,aC,cC,e1,e0,e2,e3,e4⟩:=HB0.out.sc j L hL;refine ⟨gS,oS,aC,cC,e1,hzc (.inl e0) e2,fun i c hi=>?_,e4⟩;obtain ⟨g,off,e,hg,k0,k1⟩:=e3 i c hi;exact ⟨g,off,e,by have:=HB0.out.N;omega,hzc (.inl hg) k0,hzc (.inl hg) k1⟩,by
  obtain ⟨hd,hr⟩:=hI2.2.2.2;exact ⟨hd,_,hr.head,hr.row,fun _ _ _ _ h=>h,hr.apart⟩,HB0.out.small,HB0.out.ix,hnm⟩
 have hlow:∀ r,r < t.N0→z.heap[r]? = w.heap[r]?:=fun r hr=>(hzr r (.inl hr)).trans (ho.out.2 r (by omega));have hwz:w.heap.size≤z.heap.size:=Nat.le_trans ho.out.1 hsz;have hRep:∀ v:World,Xg z v→∀ q,v.heap[q]? = some (.cells #[.int .i8 e,.int .i64 Q.st.went.length,.slice aL Q.st.log.length cL,.slice aW Q.st.went.length cW,.slice aR Q.st.ready.length cR,.slice al Q.left.length cl,.slice none 0 0] 43 (0,0))→Xf7 v q e Q aL aW aR al cL cW cR cl:=fun v hv q hq=>⟨hq,hLL.old hv,hll.old hv,hWW.old hv,hRR.old hv⟩
 clear hzr hzc hrbp hI1 hI2 hLL hll hWW hRR r1 r2 r3 r4 hz hM hQ hlv hnm;rw [Frame.finish_at];walk_nrm;replace FF:=HD FF;replace hTz:=HD hTz;replace hlow:=HD hlow;replace hRep:=HD hRep;replace hsz:=HD hsz;replace hwz:=HD hwz
 repeat refine kx ?_
 refine ko fun K E hK hE τ d=>?_;go_simp;refine hK _ _ (jal fun w2 s4 wn _=>?_);simp only [Xs];clear hK hE K E τ d;obtain ⟨q,hq⟩:∃ q,q=z.heap.size:=⟨_,rfl⟩
 rw [← hq] at wn ⊢;replace hq:=HD hq;have m0:w2.cell? (th q 0)=some (.int .i8 0):=Xa wn 0;have n0:w2.frozen? (th q 0)=false:=Xe wn 0;have m1:w2.cell? (th q 1)=some (.int .i64 0):=Xa wn 1;have n1:w2.frozen? (th q 1)=false:=Xe wn 1;have m2:w2.cell? (th q 2)=some (.slice none 0 0):=Xa wn 2;have n2:w2.frozen? (th q 2)=false:=Xe wn 2;have m3:w2.cell? (th q 3)=some (.slice none 0 0):=Xa wn 3;have n3:w2.frozen? (th q 3)=false:=Xe wn 3;have m4:w2.cell? (th q 4)=some (.slice none 0 0):=Xa wn 4;have n4:w2.frozen? (th q 4)=false:=Xe wn 4;have m5:w2.cell? (th q 5)=some (.slice none 0 0):=Xa wn 5;have n5:w2.frozen? (th q 5)=false:=Xe wn 5;have m6:w2.cell? (th q 6)=some (.slice none 0 0):=Xa wn 6;have n6:w2.frozen? (th q 6)=false:=Xe wn 6;refine ko fun K E hK hE τ d=>?_;have m0':=(Xk w2 τ d _).trans m0;have n0':=(Xf w2 τ d _).trans n0;have m1':=(Xk w2 τ d _).trans m1;have n1':=(Xf w2 τ d _).trans n1;have m2':=(Xk w2 τ d _).trans m2;have n2':=(Xf w2 τ d _).trans n2;have m3':=(Xk w2 τ d _).trans m3;have n3':=(Xf w2 τ d _).trans n3;have m4':=(Xk w2 τ d _).trans m4;have n4':=(Xf w2 τ d _).trans n4;have m5':=(Xk w2 τ d _).trans m5;have n5':=(Xf w2 τ d _).trans n5;have m6':=(Xk w2 τ d _).trans m6;have n6':=(Xf w2 τ d _).trans n6;go_simp;refine hK _ _ ?_;rw [Xc,Xc,Xc,Xc,Xc,Xc,Xc];refine jt ?_;clear m0 n0 m0' n0' m1 n1 m1' n1' m2 n2 m2' n2' m3 n3 m3' n3' m4 n4 m4' n4' m5 n5 m5' n5' m6 n6 m6' n6' hK hE K E τ d;obtain ⟨v,hv⟩:∃ v,v=(((((((w2.setCell (th q 0) (.int .i8 e)).setCell (th q 1) (.int .i64 Q.st.went.length)).setCell (th q 2) (.slice aL Q.st.log.length cL)).setCell (th q 3) (.slice aW Q.st.went.length cW)).setCell (th q 4) (.slice aR Q.st.ready.length cR)).setCell (th q 5) (.slice al Q.left.length cl)).setCell (th q 6) (.slice none 0 0)):=⟨_,rfl⟩
 rw [← hv]
 try walk_nrm
 have hsv:v.heap.size=w2.heap.size:=by rw [hv,Xh,Xh,Xh,Xh,Xh,Xh,Xh]
 have hvo:∀ r,r≠q→v.heap[r]? = w2.heap[r]?:=fun r h=>by
  rw [hv,Xb h,Xb h,Xb h,Xb h,Xb h,Xb h,Xb h]
 have hvn:v.heap[q]? = some (.cells #[.int .i8 e,.int .i64 Q.st.went.length,.slice aL Q.st.log.length cL,.slice aW Q.st.went.length cW,.slice aR Q.st.ready.length cR,.slice al Q.left.length cl,.slice none 0 0] 43 (0,0)):=by
  rw [hv];exact Xd (Xd (Xd (Xd (Xd (Xd (Xd wn))))))
 clear hv wn;have hvz:Xg z v:=⟨by rw [hsv];exact s4.1,fun r hr=>(hvo r (by have:=hq.out;omega)).trans (s4.2 r hr)⟩
 have hRv:=hRep.out v hvz q hvn;have hTv:=hTz.out.old hvz;clear hvo hvn hsv s4;replace hvz:=HD hvz;refine JG.done ?_;refine hl1 FF.out hTv hRv fun y K a43 a44 a45 a46 a47 a48 a49 a50 a51 a52 a53 a54 a55 a56 x1 o1 k1=>?_;replace hTv:=HD hTv;replace o1:=HD o1;replace k1:=HD k1;clear hRv hl1
 repeat refine kx ?_
 refine JG.loop ?_;refine hl3 hTv.out o1.out FF.out t.nS 0 (by omega) y _ _ _ _ _ _ _ _ _ _ _ _ _ _ _ _ _ _ _ _ _ _ _ _ _ _ _ _ _ _ _ _ _ _ _ _ _ _ _ _ _ _ _ _ _ _ _ _ _ _ _ _ _ _ _ _ _ _ _ _ _ _ _ _ _ _ _ _ _ _ _ _ _ _ _ _ _ _ _ k1.out ?_;intro y3 gv c10 c11 c12 c13 c57 c58 c59 c60 c61 c62 c63 c64 c65 c66 c67 c68 c69 c70 c71 c72 c73 c74 c75 c76 c77 c78 c79 c80 c81 c82 c83 c84 c85 c86 c87 c88 c89 c90 c91 c92 c93 c94 c95 c96 c97 c98 c99 c100 c101 c102 c103 c104 c105 c106 c107 c108 c109 c110 c111 c112 c113 c114 c115 c116 c117 c118 c119 c120 c121 c122 c123 c124 c125 c126 c127 c128 c129 c130 k3;refine hl4 k3 ?_;intro d131 d132 d133 d134 d135;have hold:Xg z y3:=hvz.out.trans (o1.out.trans k3.old);refine Hh.out C' y3 _ _ _ _ _ _ _ _ _ _ _ _ _ _ _ _ _ _ _ _ _ _ _ _ _ _ _ _ _ _ _ _ _ _ _ _ _ _ _ _ _ _ _ _ _ _ _ _ _ _ _ _ _ _ _ _ _ _ _ _ _ _ _ _ _ _ _ _ _ _ _ _ _ _ _ _ _ _ _ _ _ _ _ _ _ _ _ _ _ _ _ _ _ _ _ _ _ _ _ _ _ _ _ _ _ _ _ _ _ _ _ _ _ _ _ _ _ _ _ _ _ _ _ _ _ _ _ _ _ _ _ _ _ ⟨d2,d4,d5⟩ ⟨d1,by have h1:=HC.out.h;omega,by have:=HC.out.lo;have:=hwz.out;have:=hold.1;omega,fun i hi=>d6 i (by omega)⟩ (Nat.le_trans hwz.out hold.1) (fun r hr=>(hold.2 r ?_).trans (hlow.out r hr))
 have:=hwz.out;omega
end
section
variable {Post:Value→World→Prop} {C:Ctx} {x:World}
theorem VL (hC:XgL C x) (h:XgT Post C x) {n fr:Int} {picks:List Int} {Ss:List (List X4)} {aS aP:Option Addr} {cS cP:Nat} (hP:X0 x aP picks) (hcap:aP=none→cP=0)
 (hS:∀ (j:Nat) (L:List X4),Ss[j]? = some L→∃ gS oS aL cL,aS=some ⟨gS,oS,none⟩∧x.cell? ⟨gS,oS + j,none⟩=some (.slice aL L.length cL)∧Yl x x.heap.size aL L) (hl:∀ L∈Ss,L.length≤1125899906842624) (hSl:Ss.length≤1125899906842624) :
 JG Try.prog Post C (G (Frame.enter Try.prog 6 #[UF n fr (.slice aS Ss.length cS) (.slice aP picks.length cP)] .normal) []) x:=by
 unfold UF;have hl3:=@WK Post;have hl4:=@Xcn Post;simp (config:={ maxSteps:=4000000 }) only [Try.f6,Option.getD_some,Code.nav] at hl3 hl4;obtain ⟨c1,c2,c3,c4,c5⟩:=hC;have hal:C.Alone x.heap.size:=⟨c2,by omega,by omega,fun i _=>c4 i⟩
 replace h:=HD h;replace hal:=HD hal;have HP:=HD hP;have HS:=HD hS;have Hl:=HD hl;replace hcap:=HD hcap;replace hSl:=HD hSl;clear hP hS hl;refine Xu Try.func6 (by rfl) (by rfl) ?_;simp only [Try.f6,Option.getD_some,Code.nav];walk_nrm
 repeat refine kx ?_
 refine ko fun K E hK hE τ d=>?_;go_simp;refine hK _ _ (jal fun y0 o0 b0 _=>?_);simp only [Xs];clear hK hE K E τ d;obtain ⟨bp,hbp⟩:∃ bp,bp=x.heap.size:=⟨_,rfl⟩
 rw [← hbp] at b0 ⊢;have l0:=(GE b0).1;replace hbp:=HD hbp;replace o0:=HD o0
 repeat refine kx ?_
 refine kf (args:=#[]) Try.func31 ?_;refine XeE (fun y1 s1 q1=>?_);rw [Frame.finish_at];walk_nrm;have o1:Xg y0 y1:=⟨s1,q1⟩
 have b1:=(o1.2 bp l0).trans b0;have o2:=o0.out.trans o1;have l1:=(GE b1).1;clear b0 o0 o1 l0 s1 q1;replace o2:=HD o2
 repeat refine kx ?_
 refine ko fun K E hK hE τ d=>?_;have m0:=uc τ d (Xa b1 0);have m1:=uc τ d (Xa b1 1);have m2:=uc τ d (Xa b1 2);have m3:=uc τ d (Xa b1 3);go_simp;refine hK _ _ (jt ?_);clear m0 m1 m2 m3 hK hE K E τ d
 try walk_nrm
 repeat refine kx ?_
 refine kf (args:=#[.agg #[.int .i64 n,.int .i64 fr,.slice aS Ss.length cS,.slice aP picks.length cP]]) Try.func32 ?_;refine XdW (lens:=fun i=>(Ss.getD i []).length) (fun i hi=>by
  obtain ⟨gS,oS,aL,cL,e1,e2,_⟩:=HS.out i _ (List.getElem?_eq_getElem hi);refine ⟨gS,oS,aL,cL,e1,Xt (a:=⟨gS,oS + i,none⟩) (o2.out.cell e2),?_⟩;show y1.cell? ⟨gS,oS + i,none⟩=some (.slice aL (Ss.getD i []).length cL);rw [List.getD_eq_getElem?_getD,List.getElem?_eq_getElem hi];exact o2.out.cell e2) (fun i hi=>by
  show (Ss.getD i []).length≤1125899906842624;rw [List.getD_eq_getElem?_getD,List.getElem?_eq_getElem hi];exact Hl.out _ (List.getElem_mem hi)) hSl.out fun b y2 ho hb=>?_
 rw [Frame.finish_at];walk_nrm;have b2:=(ho.2 bp l1).trans b1;have o3:=o2.out.trans ho;have l2:=(GE b2).1;clear b1 o2 ho l1;replace o3:=HD o3;cases b with
 | true =>
  obtain ⟨C3,hC3⟩:∃ C3,C3=C:=⟨_,rfl⟩
  have sm1:C.Same C3:=by rw [hC3];exact ⟨rfl,rfl,rfl⟩
  rw [← hC3] at hal ⊢;have hsm:=HD sm1;have hal2:=hal;have hold:=o3;clear hl3 hl4 hb sm1;replace hC3:=HD hC3
  repeat refine kx ?_
  refine JG.ret ?_;exact JG.end (hsm.out.h.trans c1) hal2.out.d (fun i hi=>hal2.out.none i (by have h1:=hsm.out.h;omega)) rfl rfl Try.func6 (by kernel_rfl) (fun w _ d=>results_tmp (t:=2) rfl _ _ _) (fun w=>events_results_tmp rfl _ _) (fun w hT hio d=>h.out (w.at d) (hio.trans hsm.out.io) (by have:=hT.size;have:=hold.out.1;show x.heap.size≤w.heap.size;omega) (fun r hr=>((hT.old r (by show r < C3.lo;have:=hsm.out.lo;omega)).symm.trans (hold.out.2 r hr))))
 | false =>
  obtain ⟨n8,n2000,nsum,kz,kz1,kz8,rfl⟩:=hb rfl;obtain ⟨nz,hnz⟩:∃ nz:Nat,nz=2 ^ kz:=⟨_,rfl⟩
  have hnz2:2≤nz:=by rw [hnz];simpa using Nat.pow_le_pow_right (n:=2) (by decide) kz1
  have hnz256:nz≤256:=by rw [hnz];have:=Nat.pow_le_pow_right (n:=2) (by decide) kz8;simpa using this
  have hix:∀ p,ixZ nz p=p % nz:=fun p=>by rw [hnz];exact VP kz (by omega) p
  have hpw:∃ k,k≤12∧nz=2 ^ k:=⟨kz,by omega,hnz⟩
  rw [← hnz] at b2 ⊢;have hlen:∀ L∈Ss,L.length≤400:=fun L hL=>by
   obtain ⟨j,hj⟩:=List.getElem?_of_mem hL;have hjl:=(LE' hj).1
   have:=XbY (lens:=fun i=>(Ss.getD i []).length) Ss.length j hjl
   simp only [List.getD_eq_getElem?_getD,hj,Option.getD_some] at this;simp only [List.getD_eq_getElem?_getD] at nsum
   omega
  replace nsum:=HD nsum;clear hb Hl;replace hlen:=HD hlen;replace hix:=HD hix;replace hpw:=HD hpw;replace hnz:=HD hnz
  repeat refine kx ?_
  refine ko fun K E hK hE τ d=>?_;have m0:=uc τ d (Xa b2 0);have m1:=uc τ d (Xa b2 1);have m2:=uc τ d (Xa b2 2);have m3:=uc τ d (Xa b2 3);go_simp;refine hK _ _ (jt ?_);clear m0 m1 m2 m3 hK hE K E τ d
  try walk_nrm
  repeat refine kx ?_
  refine kf (args:=#[.agg #[.int .i64 nz,.int .i64 fr,.slice aS Ss.length cS,.slice aP picks.length cP]]) Try.func33 ?_;refine Wp kz1 (by omega) hnz.out n8 fun y3 sb rb ci co pb B gt hst=>?_;rw [Frame.finish_at];walk_nrm;have b3:=(hst.old.2 bp l2).trans b2;have o4:=o3.out.trans hst.old;have hbs3:=(GE hst.sbO).1;clear b2;replace hst:=HD hst;replace b3:=HD b3;replace o4:=HD o4
  repeat refine kx ?_
  refine ko fun K E hK hE τ d=>?_;go_simp;refine hK _ _ (jal fun y4 o5 d0 _=>?_);simp only [Xs];clear hK hE K E τ d;obtain ⟨bs,hbs⟩:∃ bs,bs=y3.heap.size:=⟨_,rfl⟩
  rw [← hbs] at d0 ⊢;replace hbs:=HD hbs;replace o5:=HD o5;refine kst (And.intro (Xa d0 0) (Xe d0 0)) ?_;have d1:(y4.setCell (th bs 0) (P0 sb)).heap[bs]? = some (.cells #[P0 sb] 88 (0,0)):=by rw [Xd d0];rfl
  have o6:Xg y3 (y4.setCell (th bs 0) (P0 sb)):=o5.out.setNew (by show y3.heap.size≤bs;have:=hbs.out;omega);generalize y4.setCell (th bs 0) (P0 sb)=y5 at d1 o6 ⊢;clear d0 o5;have yb:y5.cell? (th bs 0)=some (P0 sb):=Xa d1 0;have b5:=(o6.2 bp (GE b3.out).1).trans b3.out;have yS:y5.cell? (th bp 2)=some (.slice aS Ss.length cS):=Xa b5 2;replace d1:=HD d1;replace o6:=HD o6;replace b5:=HD b5
  repeat refine kx ?_
  clear yb;refine ko fun K E hK hE τ d=>?_;go_simp;refine hK _ _ (jal fun yU of_ f0 _=>?_);simp only [Xs];clear hK hE K E τ d;obtain ⟨cur,hcur⟩:∃ cur,cur=y5.heap.size:=⟨_,rfl⟩
  rw [← hcur] at f0 ⊢;replace hcur:=HD hcur;replace of_:=HD of_;refine kst (And.intro (Xa f0 0) (Xe f0 0)) ?_;have f1:(yU.setCell (th cur 0) (.int .i64 0)).heap[cur]? = some (.cells #[.int .i64 ((0:Nat):Int)] 3 (0,0)):=by rw [Xd f0];rfl
  have ov:Xg y5 (yU.setCell (th cur 0) (.int .i64 0)):=of_.out.setNew (by show y5.heap.size≤cur;have:=hcur.out;omega);generalize yU.setCell (th cur 0) (.int .i64 0)=yV at f1 ov ⊢;clear f0 of_;have hbd:BdR y5 bp bs 0 [] (.slice none 0 0) yV:=⟨rfl,ov.1,ov.2,fun i b e=>by simp at e,X7⟩
  replace f1:=HD f1;replace hbd:=HD hbd;replace ov:=HD ov
  repeat refine kx ?_
  refine JG.loop ?_;refine hl3 yS (by omega) Ss.length 0 (by omega) yV [] cur (.slice none 0 0) _ _ _ _ _ _ _ _ _ _ _ _ hbd.out (by have:=hcur.out;omega) f1.out ?_;intro w Bs cur2 vB g26 g27 g28 g29 g30 g31 g32 g33 g34 g35 g36 g37 hB;clear hl3 yS hbd f1 ov;have oTB:Xg y5 w:=⟨hB.size,hB.old⟩
  have o3w:Xg y3 w:=o6.out.trans oTB;have oxB:=o4.out.trans o3w;have ob:∀ {b:Nat} {cs:Array Value} {u:TypeId},y3.heap[b]? = some (.cells cs u (0,0))→w.heap[b]? = some (.cells cs u (0,0)):=fun hc=>(o3w.2 _ (GE hc).1).trans hc;have oc:∀ {b:Nat} {cs:Array Value} {u:TypeId},y5.heap[b]? = some (.cells cs u (0,0))→w.heap[b]? = some (.cells cs u (0,0)):=fun hc=>(oTB.2 _ (GE hc).1).trans hc;obtain ⟨w0',w1',hRA,hRo,hRs⟩:=hst.out.ring;have orw:Xg w1' w:=hRo.trans o3w;have hx2:x.heap.size≤y2.heap.size:=o3.out.1;have hx5:x.heap.size≤y5.heap.size:=Nat.le_trans o4.out.1 o6.out.1;have hAt:AtR { bp:=bp,bs:=bs,sb:=sb,ib:=rb,pb:=pb,gt:=gt,n:=nz,fr:=fr,nS:=Ss.length,cS:=cS,cP:=cP,N0:=x.heap.size,aS:=aS,aP:=aP,picks:=picks,Ss:=Ss,A:=AR ci co B nz fr } Bs vB w:=by
   refine ⟨Xa (ob b3.out) 0,Xa (ob b3.out) 1,Xa (ob b3.out) 2,Xa (ob b3.out) 3,Xa (oc d1.out) 0,Xa (ob hst.out.sbO) 0,Xa (ob hst.out.sbO) 1,fun i p hp=>?_,hcap.out,rfl,fun j L hL=>?_,fun c hc=>?_,hRA.inj hnz2,ob hst.out.gtO,by show x.heap.size≤gt;have:=hst.out.gtN;omega,Xfb hB.row (by show x.heap.size≤_;omega),fun j b hj=>(hB.box j b hj).2,hB.len,⟨_,ob b3.out⟩,⟨_,oc d1.out⟩,⟨_,ob hst.out.sbO⟩,?_,?_,fun k hk=>?_,⟨hnz2,hnz256,n8,n2000⟩,hix.out,oxB.1⟩
   ·obtain ⟨g,off,e1,e2⟩:=HP.out i p hp
    exact ⟨g,off,e1,Xt (a:=⟨g,off + i,none⟩) e2,oxB.cell e2⟩
   ·obtain ⟨gS,oS,aL,cL,e1,e2,e3⟩:=HS.out j L hL
    refine ⟨gS,oS,aL,cL,e1,Xt (a:=⟨gS,oS + j,none⟩) e2,oxB.cell e2,fun i c hi=>?_,by have:=hlen.out L (List.mem_of_getElem? hL);omega⟩;obtain ⟨g,off,e,hg,q0,q1⟩:=e3 i c hi;exact ⟨g,off,e,hg,oxB.cell q0,oxB.cell q1⟩
   ·obtain ⟨q1,q2⟩:=hRA.isC hnz2 hpw.out c hc
    exact ⟨(orw.2 _ q1.lt).trans q1,by show x.heap.size≤AR ci co B nz fr c;omega⟩
   ·exact (orw.2 _ (Blk.lt hRA.blk)).trans hRA.blk
   ·obtain ⟨cs,hb,_⟩:=hRA.places.row
    exact ⟨cs,(orw.2 _ (Blk.lt hb)).trans hb⟩
   ·obtain ⟨q1,q2⟩:=hRA.rowC hnz2 hix.out k hk
    exact ⟨orw.cell q1,orw.cell q2⟩
  have hal3:C.Alone w.heap.size:=⟨hal.out.d,hal.out.h,by have:=hal.out.lo;have:=oxB.1;omega,hal.out.none⟩
  refine hl4 hAt hal3 ?_;intro C3 y6 k0 k3 k5 k6 k7 k8 k9 k10 k11 k12 k13 k14 k15 k16 k17 k18 k19 k20 k21 k22 k23 k24 k25 k26 k27 k28 k29 k30 k31 k32 k33 k34 k35 k36 k37 k38 k39 k40 k41 k42 k43 k44 k45 k46 k47 k48 k49 k50 k51 k52 k53 k54 k55 k56 k57 k58 k59 k60 k61 k62 k63 k64 k65 k66 k67 k68 k69 k70 k71 k72 k73 k74 k75 k76 k77 k78 k79 k80 k81 k82 k83 k84 k85 k86 k87 k88 k89 k90 k91 k92 k93 k94 k95 k96 k97 k98 k99 k100 k101 k102 k103 k104 k105 k106 k107 k108 k109 k110 k111 k112 k113 k114 k115 k116 k117 k118 k119 k120 k121 k122 k123 k124 k125 k126 k127 k128 k129 k130 k131 k132 k133 k134 k135 hsm1 hal2 hsz hlow;have hsm:=HD hsm1;have hold:=HD (show Xg x y6 from ⟨Nat.le_trans oxB.1 hsz,fun r hr=>(hlow r hr).trans (oxB.2 r hr)⟩);replace hal2:=HD hal2;clear hl4 hAt hlow hB;refine JG.ret ?_;exact JG.end (hsm.out.h.trans c1) hal2.out.d (fun i hi=>hal2.out.none i (by have h1:=hsm.out.h;omega)) rfl rfl Try.func6 (by kernel_rfl) (fun w _ d=>results_tmp (t:=2) rfl _ _ _) (fun w=>events_results_tmp rfl _ _) (fun w hT hio d=>h.out (w.at d) (hio.trans hsm.out.io) (by have:=hT.size;have:=hold.out.1;show x.heap.size≤w.heap.size;omega) (fun r hr=>((hT.old r (by show r < C3.lo;have:=hsm.out.lo;omega)).symm.trans (hold.out.2 r hr))))
