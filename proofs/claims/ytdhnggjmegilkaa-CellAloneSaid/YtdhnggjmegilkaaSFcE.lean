/- CellAlone's loop over the calls. -/
import Derived.Test.YtdhnggjmegilkaaSRnX
import Derived.Test.YtdhnggjmegilkaaSRnM
set_option linter.all false
set_option maxRecDepth 100000
set_option maxHeartbeats 16000000
namespace Go.Proofs.Ytdhnggjmegilkaa
open Go.Conc Go.RowKit
open Go.ConcN (upd upd_same upd_ne)
section
variable {Post:Value→World→Prop} {C:Ctx} {cs:List Frame} {xe:World} {aL:Option Addr} {n cL N0 bt gl cb:Nat} {tv:Value} {op ce ar ne:Nat→Int} {kk:List Item}
theorem alone_loop {u0 u2 u3 u4 u5 u6 u7 B8 B9 D0 D1 D2 D3 D4 D5 D6 D7 D8 D9 E0 E1 E2 E3 E4 E5 L9 M0 M1 M2:Value} (hN:∀ r,¬ C.prot.objs r) (hn:n≤2000) (H:CallsIn xe xe.heap.size aL n op ce ar ne):∀ (q k:Nat),k + q=n→∀ (x:World) (now:Int) (B3 B4 B5 B6 B7 E6 E7 E8 E9 G0 G1 G2 G3 G4 G5 G6 G7 G8 G9 H0 H4 H5 H6 H7 H8 H9 I0 I1 I2 I3 I4 I5 I6 I7 I8 I9 J0 J1 J2 J3 J4 J5 J6 J7 J8 J9 K0 K1 K2 K3 K4 K5 K6 K7 K8 K9 L0 L1 L2 L3 L4 L5 L6 L7 L8:Value),AlInv xe N0 bt gl cb tv x now →
 (∀ (y:World) (now:Int) (B3 B4 B5 B6 B7 E6 E7 E8 E9 G0 G1 G2 G3 G4 G5 G6 G7 G8 G9 H0 H4 H5 H6 H7 H8 H9 I0 I1 I2 I3 I4 I5 I6 I7 I8 I9 J0 J1 J2 J3 J4 J5 J6 J7 J8 J9 K0 K1 K2 K3 K4 K5 K6 K7 K8 K9 L0 L1 L2 L3 L4 L5 L6 L7 L8:Value),AlInv xe N0 bt gl cb tv y now→JG Try.prog Post C (G ((base 4).at ⟨List.toArray (u0::.slice aL n cL::u2::u3::u4::u5::u6::u7::P0 bt::P0 cb::.slice (some ⟨gl,0,none⟩) 1 1::.int .i64 now::.int .i64 n::B3::B4::B5::B6::B7::B8::B9::D0::D1::D2::D3::D4::D5::D6::D7::D8::D9::E0::E1::E2::E3::E4::E5::E6::E7::E8::E9::G0::G1::G2::G3::G4::G5::G6::G7::G8::G9::H0::H4::H5::H6::H7::H8::H9::I0::I1::I2::I3::I4::I5::I6::I7::I8::I9::J0::J1::J2::J3::J4::J5::J6::J7::J8::J9::K0::K1::K2::K3::K4::K5::K6::K7::K8::K9::L0::L1::L2::L3::L4::L5::L6::L7::L8::L9::M0::M1::M2::[]),[]⟩ kk) cs) y) →
 JG Try.prog Post C (G ((base 4).at ⟨List.toArray (u0::.slice aL n cL::u2::u3::u4::u5::u6::u7::P0 bt::P0 cb::.slice (some ⟨gl,0,none⟩) 1 1::.int .i64 now::.int .i64 k::B3::B4::B5::B6::B7::B8::B9::D0::D1::D2::D3::D4::D5::D6::D7::D8::D9::E0::E1::E2::E3::E4::E5::E6::E7::E8::E9::G0::G1::G2::G3::G4::G5::G6::G7::G8::G9::H0::H4::H5::H6::H7::H8::H9::I0::I1::I2::I3::I4::I5::I6::I7::I8::I9::J0::J1::J2::J3::J4::J5::J6::J7::J8::J9::K0::K1::K2::K3::K4::K5::K6::K7::K8::K9::L0::L1::L2::L3::L4::L5::L6::L7::L8::L9::M0::M1::M2::[]),[]⟩ (.code (Code.nav (Try.f4.body.getD .skip) [1,1,1,1,1,1,1,1,0,1,0,0])::.inLoop (Code.nav (Try.f4.body.getD .skip) [1,1,1,1,1,1,1,1,0,1,0,0])::.inBlock 0::kk)) cs) x:=by
 intro q
 induction q with
 | zero =>
  intro k hkq x now B3 B4 B5 B6 B7 E6 E7 E8 E9 G0 G1 G2 G3 G4 G5 G6 G7 G8 G9 H0 H4 H5 H6 H7 H8 H9 I0 I1 I2 I3 I4 I5 I6 I7 I8 I9 J0 J1 J2 J3 J4 J5 J6 J7 J8 J9 K0 K1 K2 K3 K4 K5 K6 K7 K8 K9 L0 L1 L2 L3 L4 L5 L6 L7 L8 hI h;obtain rfl:k=n:=by omega
  replace h:=HD (h x now);replace hI:=HD hI;clear H;simp only [Try.f4,Option.getD_some,Code.nav];have hx:decide ((k:Int) < k)=false:=by simp
  have hxN:decide (k < k)=false:=by simp
  repeat refine kx ?_
  refine JG.exit (by rfl) ?_
  try walk_nrm
  exact h.out _ _ _ _ _ _ _ _ _ _ _ _ _ _ _ _ _ _ _ _ _ _ _ _ _ _ _ _ _ _ _ _ _ _ _ _ _ _ _ _ _ _ _ _ _ _ _ _ _ _ _ _ _ _ _ _ _ _ _ _ _ _ _ _ _ hI.out
 | succ q ih =>
  intro k hkq x now B3 B4 B5 B6 B7 E6 E7 E8 E9 G0 G1 G2 G3 G4 G5 G6 G7 G8 G9 H0 H4 H5 H6 H7 H8 H9 I0 I1 I2 I3 I4 I5 I6 I7 I8 I9 J0 J1 J2 J3 J4 J5 J6 J7 J8 J9 K0 K1 K2 K3 K4 K5 K6 K7 K8 K9 L0 L1 L2 L3 L4 L5 L6 L7 L8 hI h;have hkn:k < n:=by omega
  have IH:=HD ih;have Hh:=HD h;obtain ⟨g,off,rfl,hg,c0,c1,c2,c3⟩:=H k hkn;have t:∀ {a:Addr} {u:Value},xe.cell? a=some u→x.cell? a=some u:=fun hc=>hI.old.cell hc;have c0':=t c0;have c1':=t c1;have c2':=t c2;have c3':=t c3;have HI:=HD hI;clear ih hI h c0 c1 c2 c3 t;simp only [Try.f4,Option.getD_some,Code.nav];have hx:decide ((k:Int) < n)=true:=by simp;omega
  have hxN:decide (k < n)=true:=by simp;omega
  have x4:(k:Int) < n:=by omega
  have x6:(0:Int)≤k:=by omega
  repeat refine kx ?_
  refine ko fun K E hK hE τ d=>?_;go_simp;refine hK _ _ (jal fun y hy w0 sy=>?_);simp only [Xs];clear hK hE K E τ d;generalize hq:x.heap.size=qb at w0 sy ⊢;clear c0' c1' c2' c3';have m0:y.cell? (th qb 0)=some (.int .i8 0):=Xa w0 0;have m1:y.cell? (th qb 1)=some (.int .i64 0):=Xa w0 1;have m2:y.cell? (th qb 2)=some (.int .i64 0):=Xa w0 2;have m3:y.cell? (th qb 3)=some (.int .i64 0):=Xa w0 3;have n0:y.frozen? (th qb 0)=false:=Xe w0 0;have n1:y.frozen? (th qb 1)=false:=Xe w0 1;have n2:y.frozen? (th qb 2)=false:=Xe w0 2;have n3:y.frozen? (th qb 3)=false:=Xe w0 3;refine ko fun K E hK hE τ d=>?_;have m0':=(Xk y τ d _).trans m0;have n0':=(Xf y τ d _).trans n0;have m1':=(Xk y τ d _).trans m1;have n1':=(Xf y τ d _).trans n1;have m2':=(Xk y τ d _).trans m2;have n2':=(Xf y τ d _).trans n2;have m3':=(Xk y τ d _).trans m3;have n3':=(Xf y τ d _).trans n3;go_simp;refine hK _ _ ?_;rw [Xc,Xc,Xc,Xc];refine jt ?_;clear hK hE K E τ d m0 n0 m0' n0' m1 n1 m1' n1' m2 n2 m2' n2' m3 n3 m3' n3';have w1:((((y.setCell (th qb 0) (.int .i8 (op k))).setCell (th qb 1) (.int .i64 (ce k))).setCell (th qb 2) (.int .i64 (ar k))).setCell (th qb 3) (.int .i64 (ne k))).heap[qb]? = some (.cells #[.int .i8 (op k),.int .i64 (ce k),.int .i64 (ar k),.int .i64 (ne k)] 38 (0,0)):=by
   rw [Xd (Xd (Xd (Xd w0)))];rfl
  have h1:∀ r,r < qb→((((y.setCell (th qb 0) (.int .i8 (op k))).setCell (th qb 1) (.int .i64 (ce k))).setCell (th qb 2) (.int .i64 (ar k))).setCell (th qb 3) (.int .i64 (ne k))).heap[r]? = y.heap[r]?:=fun r hr=>by
   have hne:r≠qb:=by omega
   rw [Xb hne,Xb hne,Xb hne,Xb hne]
  have s1:((((y.setCell (th qb 0) (.int .i8 (op k))).setCell (th qb 1) (.int .i64 (ce k))).setCell (th qb 2) (.int .i64 (ar k))).setCell (th qb 3) (.int .i64 (ne k))).heap.size=y.heap.size:=by rw [Xh,Xh,Xh,Xh]
  generalize (((y.setCell (th qb 0) (.int .i8 (op k))).setCell (th qb 1) (.int .i64 (ce k))).setCell (th qb 2) (.int .i64 (ar k))).setCell (th qb 3) (.int .i64 (ne k))=w at w1 h1 s1 ⊢
  try walk_nrm
  repeat refine kx ?_
  refine kst (And.intro (Xa w1 1) (Xe w1 1)) ?_;have w2:(w.setCell (th qb 1) (.int .i64 0)).heap[qb]? = some (.cells #[.int .i8 (op k),.int .i64 0,.int .i64 (ar k),.int .i64 (ne k)] 38 (0,0)):=by rw [Xd w1];rfl
  have o2:Xg x (w.setCell (th qb 1) (.int .i64 0)):=⟨by rw [Xh];omega,fun r hr=>by rw [Xb (by omega),h1 r (by omega)];exact hy.2 r hr⟩
  generalize w.setCell (th qb 1) (.int .i64 0)=z at w2 o2 ⊢;have HI2:=HD (HI.out.old_ o2);have hqb:x.heap.size≤qb:=by omega
  have hqN:N0≤qb:=by have:=HI.out.lt;omega
  clear w0 w1 h1 s1 hy sy hq hqb o2 HI;have q0:z.cell? (th qb 0)=some (.int .i8 (op k)):=Xa w2 0;have q1:z.cell? (th qb 1)=some (.int .i64 0):=Xa w2 1;have q2:z.cell? (th qb 2)=some (.int .i64 (ar k)):=Xa w2 2;have q3:z.cell? (th qb 3)=some (.int .i64 (ne k)):=Xa w2 3;have hqz:=(GE w2).1;generalize op k=o at q0 w2 ⊢;generalize ar k=a at q2 w2 ⊢;generalize ne k=e at q3 w2 ⊢;generalize ce k=ce' at ⊢;have hcases:(o=6∧a=now)∨o < 1∨6 < o∨o=1∨o=2∨o=3∨o=4∨o=5∨(o=6∧a≠now):=by omega
  rcases hcases with ⟨ho,ha⟩|ho|ho|ho|ho|ho|ho|ho|⟨ho,hne⟩
  ·subst ho
   have e1:(a == now)=true:=by simp [ha]
   clear ha w2
   repeat refine kx ?_
   refine JG.exit (by rfl) ?_
   try walk_nrm
   have IH':=IH.out (k + 1) (by omega) z (now);simp only [Try.f4,Option.getD_some,Code.nav] at IH';replace IH':=HD IH';have hw:IntKind.i64.wrap ((k:Int) + 1)=((k + 1:Nat):Int):=by rw [IntKind.wrap_i64];omega
   repeat refine kx ?_
   refine JG.inLoop ?_
   first|rw [hw]|rw [show ((k:Int) + 1)=((k + 1:Nat):Int) from rfl]
   exact IH'.out _ _ _ _ _ _ _ _ _ _ _ _ _ _ _ _ _ _ _ _ _ _ _ _ _ _ _ _ _ _ _ _ _ _ _ _ _ _ _ _ _ _ _ _ _ _ _ _ _ _ _ _ _ _ _ _ _ _ _ _ _ _ _ _ _ HI2.out Hh.out
  ·have e1:(o == 6)=false:=by rw [beq_eq_false_iff_ne];omega
   have e2:decide (o < 1)=true:=by simpa using ho
   have e3:decide (6 < o)=false:=by simp;omega
   clear w2
   repeat refine kx ?_
   refine JG.exit (by rfl) ?_
   try walk_nrm
   have IH':=IH.out (k + 1) (by omega) z (now);simp only [Try.f4,Option.getD_some,Code.nav] at IH';replace IH':=HD IH';have hw:IntKind.i64.wrap ((k:Int) + 1)=((k + 1:Nat):Int):=by rw [IntKind.wrap_i64];omega
   repeat refine kx ?_
   refine JG.inLoop ?_
   first|rw [hw]|rw [show ((k:Int) + 1)=((k + 1:Nat):Int) from rfl]
   exact IH'.out _ _ _ _ _ _ _ _ _ _ _ _ _ _ _ _ _ _ _ _ _ _ _ _ _ _ _ _ _ _ _ _ _ _ _ _ _ _ _ _ _ _ _ _ _ _ _ _ _ _ _ _ _ _ _ _ _ _ _ _ _ _ _ _ _ HI2.out Hh.out
  ·have e1:(o == 6)=false:=by rw [beq_eq_false_iff_ne];omega
   have e2:decide (o < 1)=false:=by simp;omega
   have e3:decide (6 < o)=true:=by simpa using ho
   clear w2
   repeat refine kx ?_
   refine JG.exit (by rfl) ?_
   try walk_nrm
   have IH':=IH.out (k + 1) (by omega) z (now);simp only [Try.f4,Option.getD_some,Code.nav] at IH';replace IH':=HD IH';have hw:IntKind.i64.wrap ((k:Int) + 1)=((k + 1:Nat):Int):=by rw [IntKind.wrap_i64];omega
   repeat refine kx ?_
   refine JG.inLoop ?_
   first|rw [hw]|rw [show ((k:Int) + 1)=((k + 1:Nat):Int) from rfl]
   exact IH'.out _ _ _ _ _ _ _ _ _ _ _ _ _ _ _ _ _ _ _ _ _ _ _ _ _ _ _ _ _ _ _ _ _ _ _ _ _ _ _ _ _ _ _ _ _ _ _ _ _ _ _ _ _ _ _ _ _ _ _ _ _ _ _ _ _ HI2.out Hh.out
  ·subst ho
   have hb:behind 1 now a e=(now,false):=by simp [behind]
   have ha':ansF 1 now a e=now:=by simp [ansF]
   replace hb:=HD hb;replace ha':=HD ha'
   repeat refine kx ?_
   refine kf (args:=#[.int .i8 1,.int .i64 now,.int .i64 a,.int .i64 e]) Try.func28 ?_;refine behind_J (by omega) ?_;rw [hb.out];rw [Frame.finish_at];walk_nrm;have bx:z.cell? (th bt 0)=some tv:=Xa HI2.out.box 0
   repeat refine kx ?_
   refine kf (args:=#[.slice (some ⟨gl,0,none⟩) 1 1,tv,.agg #[.int .i8 1,.int .i64 0,.int .i64 a,.int .i64 e]]) Try.func16 ?_;obtain ⟨ch,hfc,hch⟩:=HI2.out.cell;refine callC_J hN (by omega) (Xa HI2.out.lst 0) HI2.out.ne.2.1 (fun e=>by have:=hch gl e;have:=HI2.out.lt;omega) hfc HI2.out.dead (by omega) (fun e=>by cases e) fun z' hz=>?_;rw [hb.out] at hz;rw [ha'.out];rw [Frame.finish_at];walk_nrm;have HI3:=HD (HI2.out.after hch hz);clear hfc hch hz bx HI2 q0 q1 q2 q3 w2
   repeat refine kx ?_
   have IH':=IH.out (k + 1) (by omega) z' (now);simp only [Try.f4,Option.getD_some,Code.nav] at IH';replace IH':=HD IH';have hw:IntKind.i64.wrap ((k:Int) + 1)=((k + 1:Nat):Int):=by rw [IntKind.wrap_i64];omega
   repeat refine kx ?_
   refine JG.inLoop ?_
   first|rw [hw]|rw [show ((k:Int) + 1)=((k + 1:Nat):Int) from rfl]
   exact IH'.out _ _ _ _ _ _ _ _ _ _ _ _ _ _ _ _ _ _ _ _ _ _ _ _ _ _ _ _ _ _ _ _ _ _ _ _ _ _ _ _ _ _ _ _ _ _ _ _ _ _ _ _ _ _ _ _ _ _ _ _ _ _ _ _ _ HI3.out Hh.out
  ·subst ho
   have hb:behind 2 now a e=(a,false):=by simp [behind]
   have ha':ansF 2 now a e=0:=by simp [ansF]
   replace hb:=HD hb;replace ha':=HD ha'
   repeat refine kx ?_
   refine kf (args:=#[.int .i8 2,.int .i64 now,.int .i64 a,.int .i64 e]) Try.func28 ?_;refine behind_J (by omega) ?_;rw [hb.out];rw [Frame.finish_at];walk_nrm;have bx:z.cell? (th bt 0)=some tv:=Xa HI2.out.box 0
   repeat refine kx ?_
   refine kf (args:=#[.slice (some ⟨gl,0,none⟩) 1 1,tv,.agg #[.int .i8 2,.int .i64 0,.int .i64 a,.int .i64 e]]) Try.func16 ?_;obtain ⟨ch,hfc,hch⟩:=HI2.out.cell;refine callC_J hN (by omega) (Xa HI2.out.lst 0) HI2.out.ne.2.1 (fun e=>by have:=hch gl e;have:=HI2.out.lt;omega) hfc HI2.out.dead (by omega) (fun e=>by cases e) fun z' hz=>?_;rw [hb.out] at hz;rw [ha'.out];rw [Frame.finish_at];walk_nrm;have HI3:=HD (HI2.out.after hch hz);clear hfc hch hz bx HI2 q0 q1 q2 q3 w2
   repeat refine kx ?_
   have IH':=IH.out (k + 1) (by omega) z' (a);simp only [Try.f4,Option.getD_some,Code.nav] at IH';replace IH':=HD IH';have hw:IntKind.i64.wrap ((k:Int) + 1)=((k + 1:Nat):Int):=by rw [IntKind.wrap_i64];omega
   repeat refine kx ?_
   refine JG.inLoop ?_
   first|rw [hw]|rw [show ((k:Int) + 1)=((k + 1:Nat):Int) from rfl]
   exact IH'.out _ _ _ _ _ _ _ _ _ _ _ _ _ _ _ _ _ _ _ _ _ _ _ _ _ _ _ _ _ _ _ _ _ _ _ _ _ _ _ _ _ _ _ _ _ _ _ _ _ _ _ _ _ _ _ _ _ _ _ _ _ _ _ _ _ HI3.out Hh.out
  ·subst ho
   by_cases hva:now=a
   ·have hb:behind 3 now a e=(e,true):=by simp [behind,hva]
    have ha':ansF 3 now a e=1:=by simp [ansF,hva]
    replace hb:=HD hb;replace ha':=HD ha';clear hva
    repeat refine kx ?_
    refine kf (args:=#[.int .i8 3,.int .i64 now,.int .i64 a,.int .i64 e]) Try.func28 ?_;refine behind_J (by omega) ?_;rw [hb.out];rw [Frame.finish_at];walk_nrm;have bx:z.cell? (th bt 0)=some tv:=Xa HI2.out.box 0
    repeat refine kx ?_
    refine kf (args:=#[.slice (some ⟨gl,0,none⟩) 1 1,tv,.agg #[.int .i8 3,.int .i64 0,.int .i64 a,.int .i64 e]]) Try.func16 ?_;obtain ⟨ch,hfc,hch⟩:=HI2.out.cell;refine callC_J hN (by omega) (Xa HI2.out.lst 0) HI2.out.ne.2.1 (fun e=>by have:=hch gl e;have:=HI2.out.lt;omega) hfc HI2.out.dead (by omega) (fun e=>by cases e) fun z' hz=>?_;rw [hb.out] at hz;rw [ha'.out];rw [Frame.finish_at];walk_nrm;have HI3:=HD (HI2.out.after hch hz);clear hfc hch hz bx HI2 q0 q1 q2 q3 w2
    repeat refine kx ?_
    have IH':=IH.out (k + 1) (by omega) z' (e);simp only [Try.f4,Option.getD_some,Code.nav] at IH';replace IH':=HD IH';have hw:IntKind.i64.wrap ((k:Int) + 1)=((k + 1:Nat):Int):=by rw [IntKind.wrap_i64];omega
    repeat refine kx ?_
    refine JG.inLoop ?_
    first|rw [hw]|rw [show ((k:Int) + 1)=((k + 1:Nat):Int) from rfl]
    exact IH'.out _ _ _ _ _ _ _ _ _ _ _ _ _ _ _ _ _ _ _ _ _ _ _ _ _ _ _ _ _ _ _ _ _ _ _ _ _ _ _ _ _ _ _ _ _ _ _ _ _ _ _ _ _ _ _ _ _ _ _ _ _ _ _ _ _ HI3.out Hh.out
   ·have hb:behind 3 now a e=(now,false):=by simp [behind,hva]
    have ha':ansF 3 now a e=0:=by simp [ansF,hva]
    replace hb:=HD hb;replace ha':=HD ha';clear hva
    repeat refine kx ?_
    refine kf (args:=#[.int .i8 3,.int .i64 now,.int .i64 a,.int .i64 e]) Try.func28 ?_;refine behind_J (by omega) ?_;rw [hb.out];rw [Frame.finish_at];walk_nrm;have bx:z.cell? (th bt 0)=some tv:=Xa HI2.out.box 0
    repeat refine kx ?_
    refine kf (args:=#[.slice (some ⟨gl,0,none⟩) 1 1,tv,.agg #[.int .i8 3,.int .i64 0,.int .i64 a,.int .i64 e]]) Try.func16 ?_;obtain ⟨ch,hfc,hch⟩:=HI2.out.cell;refine callC_J hN (by omega) (Xa HI2.out.lst 0) HI2.out.ne.2.1 (fun e=>by have:=hch gl e;have:=HI2.out.lt;omega) hfc HI2.out.dead (by omega) (fun e=>by cases e) fun z' hz=>?_;rw [hb.out] at hz;rw [ha'.out];rw [Frame.finish_at];walk_nrm;have HI3:=HD (HI2.out.after hch hz);clear hfc hch hz bx HI2 q0 q1 q2 q3 w2
    repeat refine kx ?_
    have IH':=IH.out (k + 1) (by omega) z' (now);simp only [Try.f4,Option.getD_some,Code.nav] at IH';replace IH':=HD IH';have hw:IntKind.i64.wrap ((k:Int) + 1)=((k + 1:Nat):Int):=by rw [IntKind.wrap_i64];omega
    repeat refine kx ?_
    refine JG.inLoop ?_
    first|rw [hw]|rw [show ((k:Int) + 1)=((k + 1:Nat):Int) from rfl]
    exact IH'.out _ _ _ _ _ _ _ _ _ _ _ _ _ _ _ _ _ _ _ _ _ _ _ _ _ _ _ _ _ _ _ _ _ _ _ _ _ _ _ _ _ _ _ _ _ _ _ _ _ _ _ _ _ _ _ _ _ _ _ _ _ _ _ _ _ HI3.out Hh.out
  ·subst ho
   have hb:behind 4 now a e=(wrap64 (now + a),false):=by simp [behind]
   have ha':ansF 4 now a e=wrap64 (now + a):=by simp [ansF]
   replace hb:=HD hb;replace ha':=HD ha'
   repeat refine kx ?_
   refine kf (args:=#[.int .i8 4,.int .i64 now,.int .i64 a,.int .i64 e]) Try.func28 ?_;refine behind_J (by omega) ?_;rw [hb.out];rw [Frame.finish_at];walk_nrm;have bx:z.cell? (th bt 0)=some tv:=Xa HI2.out.box 0
   repeat refine kx ?_
   refine kf (args:=#[.slice (some ⟨gl,0,none⟩) 1 1,tv,.agg #[.int .i8 4,.int .i64 0,.int .i64 a,.int .i64 e]]) Try.func16 ?_;obtain ⟨ch,hfc,hch⟩:=HI2.out.cell;refine callC_J hN (by omega) (Xa HI2.out.lst 0) HI2.out.ne.2.1 (fun e=>by have:=hch gl e;have:=HI2.out.lt;omega) hfc HI2.out.dead (by omega) (fun e=>by cases e) fun z' hz=>?_;rw [hb.out] at hz;rw [ha'.out];rw [Frame.finish_at];walk_nrm;have HI3:=HD (HI2.out.after hch hz);clear hfc hch hz bx HI2 q0 q1 q2 q3 w2
   repeat refine kx ?_
   have IH':=IH.out (k + 1) (by omega) z' (wrap64 (now + a));simp only [Try.f4,Option.getD_some,Code.nav] at IH';replace IH':=HD IH';have hw:IntKind.i64.wrap ((k:Int) + 1)=((k + 1:Nat):Int):=by rw [IntKind.wrap_i64];omega
   repeat refine kx ?_
   refine JG.inLoop ?_
   first|rw [hw]|rw [show ((k:Int) + 1)=((k + 1:Nat):Int) from rfl]
   exact IH'.out _ _ _ _ _ _ _ _ _ _ _ _ _ _ _ _ _ _ _ _ _ _ _ _ _ _ _ _ _ _ _ _ _ _ _ _ _ _ _ _ _ _ _ _ _ _ _ _ _ _ _ _ _ _ _ _ _ _ _ _ _ _ _ _ _ HI3.out Hh.out
  ·subst ho
   have hb:behind 5 now a e=(a,false):=by simp [behind]
   have ha':ansF 5 now a e=now:=by simp [ansF]
   replace hb:=HD hb;replace ha':=HD ha'
   repeat refine kx ?_
   refine kf (args:=#[.int .i8 5,.int .i64 now,.int .i64 a,.int .i64 e]) Try.func28 ?_;refine behind_J (by omega) ?_;rw [hb.out];rw [Frame.finish_at];walk_nrm;have bx:z.cell? (th bt 0)=some tv:=Xa HI2.out.box 0
   repeat refine kx ?_
   refine kf (args:=#[.slice (some ⟨gl,0,none⟩) 1 1,tv,.agg #[.int .i8 5,.int .i64 0,.int .i64 a,.int .i64 e]]) Try.func16 ?_;obtain ⟨ch,hfc,hch⟩:=HI2.out.cell;refine callC_J hN (by omega) (Xa HI2.out.lst 0) HI2.out.ne.2.1 (fun e=>by have:=hch gl e;have:=HI2.out.lt;omega) hfc HI2.out.dead (by omega) (fun e=>by cases e) fun z' hz=>?_;rw [hb.out] at hz;rw [ha'.out];rw [Frame.finish_at];walk_nrm;have HI3:=HD (HI2.out.after hch hz);clear hfc hch hz bx HI2 q0 q1 q2 q3 w2
   repeat refine kx ?_
   have IH':=IH.out (k + 1) (by omega) z' (a);simp only [Try.f4,Option.getD_some,Code.nav] at IH';replace IH':=HD IH';have hw:IntKind.i64.wrap ((k:Int) + 1)=((k + 1:Nat):Int):=by rw [IntKind.wrap_i64];omega
   repeat refine kx ?_
   refine JG.inLoop ?_
   first|rw [hw]|rw [show ((k:Int) + 1)=((k + 1:Nat):Int) from rfl]
   exact IH'.out _ _ _ _ _ _ _ _ _ _ _ _ _ _ _ _ _ _ _ _ _ _ _ _ _ _ _ _ _ _ _ _ _ _ _ _ _ _ _ _ _ _ _ _ _ _ _ _ _ _ _ _ _ _ _ _ _ _ _ _ _ _ _ _ _ HI3.out Hh.out
  ·subst ho
   have e1:(a == now)=false:=by rw [beq_eq_false_iff_ne];exact hne
   have hb:behind 6 now a e=(now,false):=by simp [behind]
   have ha':ansF 6 now a e=now:=by simp [ansF]
   replace hb:=HD hb;replace ha':=HD ha'
   repeat refine kx ?_
   refine kf (args:=#[.int .i8 6,.int .i64 now,.int .i64 a,.int .i64 e]) Try.func28 ?_;refine behind_J (by omega) ?_;rw [hb.out];rw [Frame.finish_at];walk_nrm;have bx:z.cell? (th bt 0)=some tv:=Xa HI2.out.box 0
   repeat refine kx ?_
   refine kf (args:=#[.slice (some ⟨gl,0,none⟩) 1 1,tv,.agg #[.int .i8 6,.int .i64 0,.int .i64 a,.int .i64 e]]) Try.func16 ?_;obtain ⟨ch,hfc,hch⟩:=HI2.out.cell;refine callC_J hN (by omega) (Xa HI2.out.lst 0) HI2.out.ne.2.1 (fun e=>by have:=hch gl e;have:=HI2.out.lt;omega) hfc HI2.out.dead (by omega) (fun _=>by simpa [bne_iff_ne] using fun e=>hne e.symm) fun z' hz=>?_;rw [hb.out] at hz;rw [ha'.out];rw [Frame.finish_at];walk_nrm;have HI3:=HD (HI2.out.after hch hz);clear hfc hch hz bx HI2 q0 q1 q2 q3 w2
   repeat refine kx ?_
   have IH':=IH.out (k + 1) (by omega) z' (now);simp only [Try.f4,Option.getD_some,Code.nav] at IH';replace IH':=HD IH';have hw:IntKind.i64.wrap ((k:Int) + 1)=((k + 1:Nat):Int):=by rw [IntKind.wrap_i64];omega
   repeat refine kx ?_
   refine JG.inLoop ?_
   first|rw [hw]|rw [show ((k:Int) + 1)=((k + 1:Nat):Int) from rfl]
   exact IH'.out _ _ _ _ _ _ _ _ _ _ _ _ _ _ _ _ _ _ _ _ _ _ _ _ _ _ _ _ _ _ _ _ _ _ _ _ _ _ _ _ _ _ _ _ _ _ _ _ _ _ _ _ _ _ _ _ _ _ _ _ _ _ _ _ _ HI3.out Hh.out
