/- LatchAlone's bodies under J. -/
import Derived.Test.YtdgfekplfipekaaULuE
set_option linter.all false
set_option maxRecDepth 100000
set_option maxHeartbeats 16000000
namespace Go.Proofs.Ytdgfekplfipekaa
open Go.Conc Go.RowKit
open Go.ConcN (upd upd_same upd_ne)
section
variable {Post:Value→World→Prop} {q:Aq} {num tb rb:Nat} {cb:Frame} {F:Nat} {i:Nat} {rest:Xx ASh Unit} {j:Nat}
def NX (Post:Value→World→Prop) (q:Aq) (num tb rb:Nat) (cb:Frame) (i j:Nat) (rest:Xx ASh Unit):Prop:=∀ (m:Nat) (C:Ctx) (x0 x:World) (col:Nat→Prop) (sh:ASh) (cells:Nat→Int) (u9 B1 B2 B3 B4 B5 B6 B7 B8 B9 D0 D1 D2 D3 D4 D5 D6 D7 D8 D9 E0 E1 E2 E3 E4 E5 E6 E7 E8 E9 G0 G1 G2 G3 G4 G5 G6 G7 G8 G9 H0 H4 H5 H6 H7 H8 H9 I1 I2 I3 I4 I5 I6 I7:Value),TSt Post q.side num tb rb cb m C x0 x col none_ sh cells (rest)→JG Try.prog Post C (G ((base 10).at ⟨List.toArray (P0 tb::P0 q.bm::P0 q.bt::P0 (q.bi j)::P0 q.bk::P0 q.be::P0 q.bs::P0 q.bc::P0 q.bh::u9::.int .i64 i::B1::B2::B3::B4::B5::B6::B7::B8::B9::D0::D1::D2::D3::D4::D5::D6::D7::D8::D9::E0::E1::E2::E3::E4::E5::E6::E7::E8::E9::G0::G1::G2::G3::G4::G5::G6::G7::G8::G9::H0::H4::H5::H6::H7::H8::H9::I1::I2::I3::I4::I5::I6::I7::[]),[]⟩ [.code (Code.nav (Try.f10.body.getD .skip) [1,0,0,1,1]),.inLoop (Code.nav (Try.f10.body.getD .skip) [1,0,0]),.inBlock 0]) [cb,YX Try.prog]) x
theorem NX.out (h:NX Post q num tb rb cb i j rest):∀ (m:Nat) (C:Ctx) (x0 x:World) (col:Nat→Prop) (sh:ASh) (cells:Nat→Int) (u9 B1 B2 B3 B4 B5 B6 B7 B8 B9 D0 D1 D2 D3 D4 D5 D6 D7 D8 D9 E0 E1 E2 E3 E4 E5 E6 E7 E8 E9 G0 G1 G2 G3 G4 G5 G6 G7 G8 G9 H0 H4 H5 H6 H7 H8 H9 I1 I2 I3 I4 I5 I6 I7:Value),TSt Post q.side num tb rb cb m C x0 x col none_ sh cells (rest)→JG Try.prog Post C (G ((base 10).at ⟨List.toArray (P0 tb::P0 q.bm::P0 q.bt::P0 (q.bi j)::P0 q.bk::P0 q.be::P0 q.bs::P0 q.bc::P0 q.bh::u9::.int .i64 i::B1::B2::B3::B4::B5::B6::B7::B8::B9::D0::D1::D2::D3::D4::D5::D6::D7::D8::D9::E0::E1::E2::E3::E4::E5::E6::E7::E8::E9::G0::G1::G2::G3::G4::G5::G6::G7::G8::G9::H0::H4::H5::H6::H7::H8::H9::I1::I2::I3::I4::I5::I6::I7::[]),[]⟩ [.code (Code.nav (Try.f10.body.getD .skip) [1,0,0,1,1]),.inLoop (Code.nav (Try.f10.body.getD .skip) [1,0,0]),.inBlock 0]) [cb,YX Try.prog]) x:=h
theorem ne_bs (i:Nat):q.bs≠q.A i:=by have:=q.o;unfold Aq.A;split<;>omega
theorem ne_be (i:Nat):q.be≠q.A i:=by have:=q.o;unfold Aq.A;split<;>omega
theorem ne_bh (i:Nat):q.bh≠q.A i:=by have:=q.o;unfold Aq.A;split<;>omega
section
variable {m:Nat} {C:Ctx} {x0 x:World} {col Pv:Nat→Prop} {sh:ASh} {cells:Nat→Int} {c:Frame} {cs:List Frame} {k:Told→Xx ASh Unit}
theorem loadC_T (h:TSt Post q.side num tb rb cb m C x0 x col Pv sh cells (.acc ⟨1,1,0,0⟩ k)) (hm:x.cell? (th q.cb 1)=some (.bool true)) (hs:Yq Post cb c cs) (hn:NextT Post q.side num tb rb cb Pv x (fun a=>.int .i64 a.was) k c cs) :
 JG Try.prog Post C (G (Frame.enter Try.prog 13 #[P0 q.cb,P0 tb] .normal) (c::cs)) x:=load_T (S:=q.side) (i:=1) h (show 1 < 2 by decide) hm hs hn
theorem storeC_T {v:Int} (h:TSt Post q.side num tb rb cb m C x0 x col Pv sh cells (.acc ⟨2,1,v,0⟩ k)) (hm:x.cell? (th q.cb 1)=some (.bool true)) (hs:Yq Post cb c cs) (hn:NextT Post q.side num tb rb cb Pv x (fun _=>.tuple #[]) k c cs) :
 JG Try.prog Post C (G (Frame.enter Try.prog 14 #[P0 q.cb,P0 tb,.int .i64 v] .normal) (c::cs)) x:=store_T (S:=q.side) (i:=1) h (show 1 < 2 by decide) hm hs hn
end
theorem critC_J (NH:NX Post q num tb rb cb i j rest):∀ (m:Nat) (C:Ctx) (x0 x:World) (col:Nat→Prop) (sh:ASh) (cells:Nat→Int) (u9 B1 B2 B3 B4 B5 B6 B7 B8 B9 D0 D1 D2 D3 D4 D5 D6 D7 D8 D9 E0 E1 E2 E3 E4 E5 E6 E7 E8 E9 G0 G1 G2 G3 G4 G5 G6 G7 G8 G9 H0 H4 H5 H6 H7 H8 H9 I1 I2 I3 I4 I5 I6 I7:Value),TSt Post q.side num tb rb cb m C x0 x col none_ sh cells (critC rest) →
 JG Try.prog Post C (G ((base 10).at ⟨List.toArray (P0 tb::P0 q.bm::P0 q.bt::P0 (q.bi j)::P0 q.bk::P0 q.be::P0 q.bs::P0 q.bc::P0 q.bh::u9::.int .i64 i::B1::B2::B3::B4::B5::B6::B7::B8::B9::D0::D1::D2::D3::D4::D5::D6::D7::D8::D9::E0::E1::E2::E3::E4::E5::E6::E7::E8::E9::G0::G1::G2::G3::G4::G5::G6::G7::G8::G9::H0::H4::H5::H6::H7::H8::H9::I1::I2::I3::I4::I5::I6::I7::[]),[]⟩ [.code (Code.nav (Try.f10.body.getD .skip) [1,0,0,1,0,0,1,1,1,1,1,1]),.inBlock 1,.code (Code.nav (Try.f10.body.getD .skip) [1,0,0,1,1]),.inLoop (Code.nav (Try.f10.body.getD .skip) [1,0,0]),.inBlock 0]) [cb,YX Try.prog]) x:=by
 intro m C x0 x col sh cells u9 B1 B2 B3 B4 B5 B6 B7 B8 B9 D0 D1 D2 D3 D4 D5 D6 D7 D8 D9 E0 E1 E2 E3 E4 E5 E6 E7 E8 E9 G0 G1 G2 G3 G4 G5 G6 G7 G8 G9 H0 H4 H5 H6 H7 H8 H9 I1 I2 I3 I4 I5 I6 I7 h;have NH':=HD NH.out;clear NH;have hM:q.M sh col x:=h.I0.2;obtain ⟨inside,wrong,held⟩:=sh;have hw1:wrap64 (held + 1)=IntKind.i64.wrap (held + 1):=(wrap_eq64 _).symm;have hw2:wrap64 (inside - 1)=IntKind.i64.wrap (inside - 1):=(wrap_eq64 _).symm;have T2:=h.did (f:=fun s=>⟨wrap64 (s.inside - 1),s.wrong,wrap64 (s.held + 1)⟩) (k:=fun s=>if s.wrong then rest else unP.bind (gU rest)) (y:=(x.setCell (th q.bh 0) (.int .i64 (wrap64 (held + 1)))).setCell (th q.bs 0) (.int .i64 (wrap64 (inside - 1)))) (by rw [Xh,Xh]) (fun r hr=>(Xb (show r≠q.bs from fun e'=>hM.s.2 (e' ▸ hr))).trans (Xb (show r≠q.bh from fun e'=>hM.h.2 (e' ▸ hr)))) (Aq.I_set (Aq.I_set h.I0 ne_bh (hM.setH (wrap64 (held + 1)))) ne_bs ((hM.setH (wrap64 (held + 1))).setS (wrap64 (inside - 1)))) Aq.keep_no;have lh:x.cell? (th q.bh 0)=some (.int .i64 held):=Xa hM.h.1 0;have fh:x.frozen? (th q.bh 0)=false:=Xe hM.h.1 0;have M1:=hM.setH (wrap64 (held + 1));have ls:=Xa M1.s.1 0;have fs:=Xe M1.s.1 0;have M2:=M1.setS (wrap64 (inside - 1));have le:=Xa M2.e.1 0;have fe:=Xe M2.e.1 0;have lk:=Xa M2.k 0;clear hM h M1 M2;rw [hw1,hw2] at T2;rw [hw1] at ls fs;rw [hw1,hw2] at le fe lk;clear hw1 hw2;replace T2:=HD T2;replace ls:=HD ls;replace le:=HD le;replace fs:=HD fs;replace fe:=HD fe;replace lk:=HD lk;simp only [Try.f10,Option.getD_some,Code.nav]
 repeat refine kx ?_
 refine kst (And.intro lh fh) ?_;generalize x.setCell (th q.bh 0) (.int .i64 (IntKind.i64.wrap (held + 1)))=x1 at T2 ls fs le fe lk ⊢;clear lh fh;have ls':=ls.out;simp only [List.getElem_toArray,List.getElem_cons_zero] at ls'
 repeat refine kx ?_
 refine kst (And.intro ls' fs.out) ?_;clear ls ls' fs;generalize x1.setCell (th q.bs 0) (.int .i64 (IntKind.i64.wrap (inside - 1)))=x2 at T2 le fe lk ⊢;have le':x2.cell? (th q.be 0)=some (.bool wrong):=le.out;cases wrong with
 | true =>
  have T3:TSt Post q.side num tb rb cb m C x0 x2 col none_ ⟨IntKind.i64.wrap (inside - 1),true,IntKind.i64.wrap (held + 1)⟩ cells rest:=T2.out;have NZ:=HD (fun u9 B1 B2 B3 B4 B5 B6 B7 B8 B9 D0 D1 D2 D3 D4 D5 D6 D7 D8 D9 E0 E1 E2 E3 E4 E5 E6 E7 E8 E9 G0 G1 G2 G3 G4 G5 G6 G7 G8 G9 H0 H4 H5 H6 H7 H8 H9 I1 I2 I3 I4 I5 I6 I7=>NH'.out m C x0 x2 col _ cells u9 B1 B2 B3 B4 B5 B6 B7 B8 B9 D0 D1 D2 D3 D4 D5 D6 D7 D8 D9 E0 E1 E2 E3 E4 E5 E6 E7 E8 E9 G0 G1 G2 G3 G4 G5 G6 G7 G8 G9 H0 H4 H5 H6 H7 H8 H9 I1 I2 I3 I4 I5 I6 I7 T3);simp only [Try.f10,Option.getD_some,Code.nav] at NZ;clear T2 T3 NH'
  repeat refine kx ?_
  refine kst (And.intro le' fe.out) ?_;rw [setCell_self le']
  iterate 2 refine kc ?_
  exact NZ.out _ _ _ _ _ _ _ _ _ _ _ _ _ _ _ _ _ _ _ _ _ _ _ _ _ _ _ _ _ _ _ _ _ _ _ _ _ _ _ _ _ _ _ _ _ _ _ _ _ _ _ _ _ _
 | false =>
  have lk':x2.cell? (th q.bk 0)=some (P0 q.lb):=lk.out;have T3:TSt Post q.side num tb rb cb m C x0 x2 col none_ ⟨IntKind.i64.wrap (inside - 1),false,IntKind.i64.wrap (held + 1)⟩ cells (unP.bind (gU rest)):=T2.out;replace T3:=HD T3;clear T2
  repeat refine kx ?_
  refine kf (args:=#[P0 q.lb,P0 tb]) Try.func15 ?_;refine unlock_T Aq.lockS ?_ T3.out fun m' C' y col' sh' cells' e hT _ _=>?_
  ·exact Yq.body fun C x h=>JG.raise rfl Try.func10 h
  rw [Frame.finish_at];clear lk le lk' le' fe T3;have hM:q.M sh' col' y:=hT.I0.2;have fe:y.frozen? (th q.be 0)=false:=Xe hM.e.1 0;have le:y.cell? (th q.be 0)=some (.bool sh'.wrong):=Xa hM.e.1 0;have T3:=hT.did (f:=fun s=>⟨s.inside,!e,s.held⟩) (k:=fun _=>rest) (y:=y.setCell (th q.be 0) (.bool !e)) (by rw [Xh]) (fun r hr=>Xb (show r≠q.be from fun e'=>hM.e.2 (e' ▸ hr))) (Aq.I_set hT.I0 ne_be (hM.setE !e)) Aq.keep_no;have NZ:=HD (fun u9 B1 B2 B3 B4 B5 B6 B7 B8 B9 D0 D1 D2 D3 D4 D5 D6 D7 D8 D9 E0 E1 E2 E3 E4 E5 E6 E7 E8 E9 G0 G1 G2 G3 G4 G5 G6 G7 G8 G9 H0 H4 H5 H6 H7 H8 H9 I1 I2 I3 I4 I5 I6 I7=>NH'.out m' C' _ _ col' _ cells' u9 B1 B2 B3 B4 B5 B6 B7 B8 B9 D0 D1 D2 D3 D4 D5 D6 D7 D8 D9 E0 E1 E2 E3 E4 E5 E6 E7 E8 E9 G0 G1 G2 G3 G4 G5 G6 G7 G8 G9 H0 H4 H5 H6 H7 H8 H9 I1 I2 I3 I4 I5 I6 I7 T3);simp only [Try.f10,Option.getD_some,Code.nav] at NZ;clear hM hT T3 NH';cases e with
  | false =>
   simp only [unV,Bool.not_true,Bool.not_false,if_true,Bool.false_eq_true,if_false] at NZ ⊢
   try walk_nrm
   repeat refine kx ?_
   refine kst (And.intro le fe) ?_
   iterate 2 refine kc ?_
   exact NZ.out _ _ _ _ _ _ _ _ _ _ _ _ _ _ _ _ _ _ _ _ _ _ _ _ _ _ _ _ _ _ _ _ _ _ _ _ _ _ _ _ _ _ _ _ _ _ _ _ _ _ _ _ _ _
  | true =>
   simp only [unV,Bool.not_true,Bool.not_false,if_true,Bool.false_eq_true,if_false] at NZ ⊢
   try walk_nrm
   repeat refine kx ?_
   refine kst (And.intro le fe) ?_
   iterate 2 refine kc ?_
   exact NZ.out _ _ _ _ _ _ _ _ _ _ _ _ _ _ _ _ _ _ _ _ _ _ _ _ _ _ _ _ _ _ _ _ _ _ _ _ _ _ _ _ _ _ _ _ _ _ _ _ _ _ _ _ _ _
theorem critS_J (NH:NX Post q num tb rb cb i j rest) {v:Int}:∀ (m:Nat) (C:Ctx) (x0 x:World) (col:Nat→Prop) (sh:ASh) (cells:Nat→Int) (u9 B2 B3 B4 B5 B6 B7 B8 B9 D0 D1 D2 D3 D4 D5 D6 D7 D8 D9 E0 E1 E2 E3 E4 E5 E6 E7 E8 E9 G0 G1 G2 G3 G4 G5 G6 G7 G8 G9 H0 H4 H5 H6 H7 H8 H9 I1 I2 I3 I4 I5 I6 I7:Value),TSt Post q.side num tb rb cb m C x0 x col none_ sh cells (.acc ⟨2,1,wrap64 (v + 1),0⟩ fun _=>critC rest) →
 JG Try.prog Post C (G ((base 10).at ⟨List.toArray (P0 tb::P0 q.bm::P0 q.bt::P0 (q.bi j)::P0 q.bk::P0 q.be::P0 q.bs::P0 q.bc::P0 q.bh::u9::.int .i64 i::.int .i64 v::B2::B3::B4::B5::B6::B7::B8::B9::D0::D1::D2::D3::D4::D5::D6::D7::D8::D9::E0::E1::E2::E3::E4::E5::E6::E7::E8::E9::G0::G1::G2::G3::G4::G5::G6::G7::G8::G9::H0::H4::H5::H6::H7::H8::H9::I1::I2::I3::I4::I5::I6::I7::[]),[]⟩ [.code (Code.nav (Try.f10.body.getD .skip) [1,0,0,1,0,0,1,1,1,1,1]),.inBlock 1,.code (Code.nav (Try.f10.body.getD .skip) [1,0,0,1,1]),.inLoop (Code.nav (Try.f10.body.getD .skip) [1,0,0]),.inBlock 0]) [cb,YX Try.prog]) x:=by
 intro m C x0 x col sh cells u9 B2 B3 B4 B5 B6 B7 B8 B9 D0 D1 D2 D3 D4 D5 D6 D7 D8 D9 E0 E1 E2 E3 E4 E5 E6 E7 E8 E9 G0 G1 G2 G3 G4 G5 G6 G7 G8 G9 H0 H4 H5 H6 H7 H8 H9 I1 I2 I3 I4 I5 I6 I7 h;have hM:q.M sh col x:=h.I0.2;have lc:x.cell? (th q.bc 0)=some (P0 q.cb):=Xa hM.c 0;have m1:x.cell? (th q.cb 1)=some (.bool true):=(h.I0.1 1 (show 1 < 2 by decide)).1.c1;have hw:IntKind.i64.wrap (v + 1)=wrap64 (v + 1):=wrap_eq64 _;clear hM;have HC:=HD (@critC_J Post q num tb rb cb i rest j NH);simp only [Try.f10,Option.getD_some,Code.nav] at HC;replace h:=HD h;replace hw:=HD hw;replace m1:=HD m1;clear NH;simp only [Try.f10,Option.getD_some,Code.nav]
 repeat refine kx ?_
 rw [hw.out];refine kf (args:=#[P0 q.cb,P0 tb,.int .i64 (wrap64 (v + 1))]) Try.func14 ?_;refine storeC_T h.out m1.out ?_ fun m' C' y col' sh' cells' a hT _ _=>?_
 ·exact Yq.body fun C x h=>JG.raise rfl Try.func10 h
 rw [Frame.finish_at]
 try walk_nrm
 clear h lc m1;have HZ:=HD (fun u9 B1 B2 B3 B4 B5 B6 B7 B8 B9 D0 D1 D2 D3 D4 D5 D6 D7 D8 D9 E0 E1 E2 E3 E4 E5 E6 E7 E8 E9 G0 G1 G2 G3 G4 G5 G6 G7 G8 G9 H0 H4 H5 H6 H7 H8 H9 I1 I2 I3 I4 I5 I6 I7=>HC.out m' C' y y col' sh' cells' u9 B1 B2 B3 B4 B5 B6 B7 B8 B9 D0 D1 D2 D3 D4 D5 D6 D7 D8 D9 E0 E1 E2 E3 E4 E5 E6 E7 E8 E9 G0 G1 G2 G3 G4 G5 G6 G7 G8 G9 H0 H4 H5 H6 H7 H8 H9 I1 I2 I3 I4 I5 I6 I7 hT);clear HC hT;refine kc ?_;exact HZ.out _ _ _ _ _ _ _ _ _ _ _ _ _ _ _ _ _ _ _ _ _ _ _ _ _ _ _ _ _ _ _ _ _ _ _ _ _ _ _ _ _ _ _ _ _ _ _ _ _ _ _ _ _ _
theorem critB_J (NH:NX Post q num tb rb cb i j rest) {v:Int}:∀ (m:Nat) (C:Ctx) (x0 x:World) (col:Nat→Prop) (sh:ASh) (cells:Nat→Int) (u9 B2 B3 B4 B5 B6 B7 B8 B9 D0 D1 D2 D3 D4 D5 D6 D7 D8 D9 E0 E1 E2 E3 E4 E5 E6 E7 E8 E9 G0 G1 G2 G3 G4 G5 G6 G7 G8 G9 H0 H4 H5 H6 H7 H8 H9 I1 I2 I3 I4 I5 I6 I7:Value),TSt Post q.side num tb rb cb m C x0 x col none_ sh cells (critB rest v) →
 JG Try.prog Post C (G ((base 10).at ⟨List.toArray (P0 tb::P0 q.bm::P0 q.bt::P0 (q.bi j)::P0 q.bk::P0 q.be::P0 q.bs::P0 q.bc::P0 q.bh::u9::.int .i64 i::.int .i64 v::B2::B3::B4::B5::B6::B7::B8::B9::D0::D1::D2::D3::D4::D5::D6::D7::D8::D9::E0::E1::E2::E3::E4::E5::E6::E7::E8::E9::G0::G1::G2::G3::G4::G5::G6::G7::G8::G9::H0::H4::H5::H6::H7::H8::H9::I1::I2::I3::I4::I5::I6::I7::[]),[]⟩ [.code (Code.nav (Try.f10.body.getD .skip) [1,0,0,1,0,0,1,1,1,1]),.inBlock 1,.code (Code.nav (Try.f10.body.getD .skip) [1,0,0,1,1]),.inLoop (Code.nav (Try.f10.body.getD .skip) [1,0,0]),.inBlock 0]) [cb,YX Try.prog]) x:=by
 intro m C x0 x col sh cells u9 B2 B3 B4 B5 B6 B7 B8 B9 D0 D1 D2 D3 D4 D5 D6 D7 D8 D9 E0 E1 E2 E3 E4 E5 E6 E7 E8 E9 G0 G1 G2 G3 G4 G5 G6 G7 G8 G9 H0 H4 H5 H6 H7 H8 H9 I1 I2 I3 I4 I5 I6 I7 h;have hM:q.M sh col x:=h.I0.2;obtain ⟨inside,wrong,held⟩:=sh;have T2:=h.did (f:=fun s=>⟨s.inside,s.wrong || decide (s.inside≠1),s.held⟩) (k:=fun _=>.acc ⟨2,1,wrap64 (v + 1),0⟩ fun _=>critC rest) (y:=x.setCell (th q.be 0) (.bool (wrong || decide (inside≠1)))) (by rw [Xh]) (fun r hr=>Xb (show r≠q.be from fun e'=>hM.e.2 (e' ▸ hr))) (Aq.I_set h.I0 ne_be (hM.setE _)) Aq.keep_no;have le:x.cell? (th q.be 0)=some (.bool wrong):=Xa hM.e.1 0;have fe:x.frozen? (th q.be 0)=false:=Xe hM.e.1 0;have ls:x.cell? (th q.bs 0)=some (.int .i64 inside):=Xa hM.s.1 0;clear hM h;have HC:=HD (fun u9 B2 B3 B4 B5 B6 B7 B8 B9 D0 D1 D2 D3 D4 D5 D6 D7 D8 D9 E0 E1 E2 E3 E4 E5 E6 E7 E8 E9 G0 G1 G2 G3 G4 G5 G6 G7 G8 G9 H0 H4 H5 H6 H7 H8 H9 I1 I2 I3 I4 I5 I6 I7=>@critS_J Post q num tb rb cb i rest j NH v m C x0 _ col _ cells u9 B2 B3 B4 B5 B6 B7 B8 B9 D0 D1 D2 D3 D4 D5 D6 D7 D8 D9 E0 E1 E2 E3 E4 E5 E6 E7 E8 E9 G0 G1 G2 G3 G4 G5 G6 G7 G8 G9 H0 H4 H5 H6 H7 H8 H9 I1 I2 I3 I4 I5 I6 I7 T2);clear T2 NH;simp only [Try.f10,Option.getD_some,Code.nav] at HC ⊢;cases wrong with
 | true =>
  simp only [Bool.true_or] at HC;replace ls:=HD ls
  repeat refine kx ?_
  refine kst (And.intro le fe) ?_;refine kc ?_;exact HC.out _ _ _ _ _ _ _ _ _ _ _ _ _ _ _ _ _ _ _ _ _ _ _ _ _ _ _ _ _ _ _ _ _ _ _ _ _ _ _ _ _ _ _ _ _ _ _ _ _ _ _ _ _
 | false =>
  simp only [Bool.false_or] at HC
  by_cases h1:inside=1
  ·rw [show decide (inside≠1)=false from by simp [h1]] at HC
   have hx:(inside != 1)=false:=by simp [h1]
   replace HC:=HD HC;clear h1
   repeat refine kx ?_
   refine kst (And.intro le fe) ?_;refine kc ?_;exact HC.out.out _ _ _ _ _ _ _ _ _ _ _ _ _ _ _ _ _ _ _ _ _ _ _ _ _ _ _ _ _ _ _ _ _ _ _ _ _ _ _ _ _ _ _ _ _ _ _ _ _ _ _ _ _
  ·rw [show decide (inside≠1)=true from by simp [h1]] at HC
   have hx:(inside != 1)=true:=by simp [h1]
   replace HC:=HD HC;clear h1
   repeat refine kx ?_
   refine kst (And.intro le fe) ?_;refine kc ?_;exact HC.out.out _ _ _ _ _ _ _ _ _ _ _ _ _ _ _ _ _ _ _ _ _ _ _ _ _ _ _ _ _ _ _ _ _ _ _ _ _ _ _ _ _ _ _ _ _ _ _ _ _ _ _ _ _
theorem critL_J (NH:NX Post q num tb rb cb i j rest):∀ (m:Nat) (C:Ctx) (x0 x:World) (col:Nat→Prop) (sh:ASh) (cells:Nat→Int) (u9 B1 B2 B3 B4 B5 B6 B7 B8 B9 D0 D1 D2 D3 D4 D5 D6 D7 D8 D9 E0 E1 E2 E3 E4 E5 E6 E7 E8 E9 G0 G1 G2 G3 G4 G5 G6 G7 G8 G9 H0 H4 H5 H6 H7 H8 H9 I1 I2 I3 I4 I5 I6 I7:Value),TSt Post q.side num tb rb cb m C x0 x col none_ sh cells (.acc ⟨1,1,0,0⟩ fun a=>critB rest a.was) →
 JG Try.prog Post C (G ((base 10).at ⟨List.toArray (P0 tb::P0 q.bm::P0 q.bt::P0 (q.bi j)::P0 q.bk::P0 q.be::P0 q.bs::P0 q.bc::P0 q.bh::u9::.int .i64 i::B1::B2::B3::B4::B5::B6::B7::B8::B9::D0::D1::D2::D3::D4::D5::D6::D7::D8::D9::E0::E1::E2::E3::E4::E5::E6::E7::E8::E9::G0::G1::G2::G3::G4::G5::G6::G7::G8::G9::H0::H4::H5::H6::H7::H8::H9::I1::I2::I3::I4::I5::I6::I7::[]),[]⟩ [.code (Code.nav (Try.f10.body.getD .skip) [1,0,0,1,0,0,1,1,1]),.inBlock 1,.code (Code.nav (Try.f10.body.getD .skip) [1,0,0,1,1]),.inLoop (Code.nav (Try.f10.body.getD .skip) [1,0,0]),.inBlock 0]) [cb,YX Try.prog]) x:=by
 intro m C x0 x col sh cells u9 B1 B2 B3 B4 B5 B6 B7 B8 B9 D0 D1 D2 D3 D4 D5 D6 D7 D8 D9 E0 E1 E2 E3 E4 E5 E6 E7 E8 E9 G0 G1 G2 G3 G4 G5 G6 G7 G8 G9 H0 H4 H5 H6 H7 H8 H9 I1 I2 I3 I4 I5 I6 I7 h;have hM:q.M sh col x:=h.I0.2;have lc:x.cell? (th q.bc 0)=some (P0 q.cb):=Xa hM.c 0;have m1:x.cell? (th q.cb 1)=some (.bool true):=(h.I0.1 1 (show 1 < 2 by decide)).1.c1;clear hM;have HC:=HD (fun v=>@critB_J Post q num tb rb cb i rest j NH v);simp only [Try.f10,Option.getD_some,Code.nav] at HC;replace h:=HD h;replace m1:=HD m1;clear NH;simp only [Try.f10,Option.getD_some,Code.nav]
 repeat refine kx ?_
 refine kf (args:=#[P0 q.cb,P0 tb]) Try.func13 ?_;refine loadC_T h.out m1.out ?_ fun m' C' y col' sh' cells' a hT _ _=>?_
 ·exact Yq.body fun C x h=>JG.raise rfl Try.func10 h
 rw [Frame.finish_at]
 try walk_nrm
 clear h lc m1;have HZ:=HD (fun u9 B2 B3 B4 B5 B6 B7 B8 B9 D0 D1 D2 D3 D4 D5 D6 D7 D8 D9 E0 E1 E2 E3 E4 E5 E6 E7 E8 E9 G0 G1 G2 G3 G4 G5 G6 G7 G8 G9 H0 H4 H5 H6 H7 H8 H9 I1 I2 I3 I4 I5 I6 I7=>HC.out a.was m' C' y y col' sh' cells' u9 B2 B3 B4 B5 B6 B7 B8 B9 D0 D1 D2 D3 D4 D5 D6 D7 D8 D9 E0 E1 E2 E3 E4 E5 E6 E7 E8 E9 G0 G1 G2 G3 G4 G5 G6 G7 G8 G9 H0 H4 H5 H6 H7 H8 H9 I1 I2 I3 I4 I5 I6 I7 hT);clear HC hT
 iterate 2 refine kx ?_
 exact HZ.out _ _ _ _ _ _ _ _ _ _ _ _ _ _ _ _ _ _ _ _ _ _ _ _ _ _ _ _ _ _ _ _ _ _ _ _ _ _ _ _ _ _ _ _ _ _ _ _ _ _ _ _ _
theorem crit_J (NH:NX Post q num tb rb cb i j rest):∀ (m:Nat) (C:Ctx) (x0 x:World) (col:Nat→Prop) (sh:ASh) (cells:Nat→Int) (u9 B1 B2 B3 B4 B5 B6 B7 B8 B9 D0 D1 D2 D3 D4 D5 D6 D7 D8 D9 E0 E1 E2 E3 E4 E5 E6 E7 E8 E9 G0 G1 G2 G3 G4 G5 G6 G7 G8 G9 H0 H4 H5 H6 H7 H8 H9 I1 I2 I3 I4 I5 I6 I7:Value),TSt Post q.side num tb rb cb m C x0 x col none_ sh cells (crit rest) →
 JG Try.prog Post C (G ((base 10).at ⟨List.toArray (P0 tb::P0 q.bm::P0 q.bt::P0 (q.bi j)::P0 q.bk::P0 q.be::P0 q.bs::P0 q.bc::P0 q.bh::u9::.int .i64 i::B1::B2::B3::B4::B5::B6::B7::B8::B9::D0::D1::D2::D3::D4::D5::D6::D7::D8::D9::E0::E1::E2::E3::E4::E5::E6::E7::E8::E9::G0::G1::G2::G3::G4::G5::G6::G7::G8::G9::H0::H4::H5::H6::H7::H8::H9::I1::I2::I3::I4::I5::I6::I7::[]),[]⟩ [.code (Code.nav (Try.f10.body.getD .skip) [1,0,0,1,0,0,1]),.inBlock 1,.code (Code.nav (Try.f10.body.getD .skip) [1,0,0,1,1]),.inLoop (Code.nav (Try.f10.body.getD .skip) [1,0,0]),.inBlock 0]) [cb,YX Try.prog]) x:=by
 intro m C x0 x col sh cells u9 B1 B2 B3 B4 B5 B6 B7 B8 B9 D0 D1 D2 D3 D4 D5 D6 D7 D8 D9 E0 E1 E2 E3 E4 E5 E6 E7 E8 E9 G0 G1 G2 G3 G4 G5 G6 G7 G8 G9 H0 H4 H5 H6 H7 H8 H9 I1 I2 I3 I4 I5 I6 I7 h;have hM:q.M sh col x:=h.I0.2;obtain ⟨inside,wrong,held⟩:=sh;have hw1:wrap64 (inside + 1)=IntKind.i64.wrap (inside + 1):=(wrap_eq64 _).symm;have T2:=h.did (f:=fun s=>⟨wrap64 (s.inside + 1),s.wrong || decide (wrap64 (s.inside + 1)≠1),s.held⟩) (k:=fun _=>.acc ⟨1,1,0,0⟩ fun a=>critB rest a.was) (y:=(x.setCell (th q.bs 0) (.int .i64 (wrap64 (inside + 1)))).setCell (th q.be 0) (.bool (wrong || decide (wrap64 (inside + 1)≠1)))) (by rw [Xh,Xh]) (fun r hr=>(Xb (show r≠q.be from fun e'=>hM.e.2 (e' ▸ hr))).trans (Xb (show r≠q.bs from fun e'=>hM.s.2 (e' ▸ hr)))) (Aq.I_set (Aq.I_set h.I0 ne_bs (hM.setS _)) ne_be ((hM.setS _).setE _)) Aq.keep_no;have ls:x.cell? (th q.bs 0)=some (.int .i64 inside):=Xa hM.s.1 0;have fs:x.frozen? (th q.bs 0)=false:=Xe hM.s.1 0;have M1:=hM.setS (wrap64 (inside + 1));have le:(x.setCell (th q.bs 0) (.int .i64 (wrap64 (inside + 1)))).cell? (th q.be 0)=some (.bool wrong):=Xa M1.e.1 0;have fe:(x.setCell (th q.bs 0) (.int .i64 (wrap64 (inside + 1)))).frozen? (th q.be 0)=false:=Xe M1.e.1 0;have ls1:(x.setCell (th q.bs 0) (.int .i64 (wrap64 (inside + 1)))).cell? (th q.bs 0)=some (.int .i64 (wrap64 (inside + 1))):=Xa M1.s.1 0;clear hM h M1;have HC:=HD (fun u9 B1 B2 B3 B4 B5 B6 B7 B8 B9 D0 D1 D2 D3 D4 D5 D6 D7 D8 D9 E0 E1 E2 E3 E4 E5 E6 E7 E8 E9 G0 G1 G2 G3 G4 G5 G6 G7 G8 G9 H0 H4 H5 H6 H7 H8 H9 I1 I2 I3 I4 I5 I6 I7=>@critL_J Post q num tb rb cb i rest j NH m C x0 _ col _ cells u9 B1 B2 B3 B4 B5 B6 B7 B8 B9 D0 D1 D2 D3 D4 D5 D6 D7 D8 D9 E0 E1 E2 E3 E4 E5 E6 E7 E8 E9 G0 G1 G2 G3 G4 G5 G6 G7 G8 G9 H0 H4 H5 H6 H7 H8 H9 I1 I2 I3 I4 I5 I6 I7 T2);clear T2 NH;simp only [Try.f10,Option.getD_some,Code.nav] at HC ⊢;rw [hw1] at HC le fe ls1;clear hw1;replace HC:=HD HC;replace le:=HD le;replace fe:=HD fe;replace ls1:=HD ls1
 repeat refine kx ?_
 refine kst (And.intro ls fs) ?_;clear ls fs;generalize IntKind.i64.wrap (inside + 1)=v at HC le fe ls1 ⊢;generalize x.setCell (th q.bs 0) (.int .i64 v)=x1 at HC le fe ls1 ⊢;have le:=le.out;have fe:=fe.out;have ls1:=ls1.out;have HC:=HC.out;cases wrong with
 | true =>
  simp only [Bool.true_or] at HC;replace ls1:=HD ls1
  repeat refine kx ?_
  refine kst (And.intro le fe) ?_;refine kc ?_;exact HC.out _ _ _ _ _ _ _ _ _ _ _ _ _ _ _ _ _ _ _ _ _ _ _ _ _ _ _ _ _ _ _ _ _ _ _ _ _ _ _ _ _ _ _ _ _ _ _ _ _ _ _ _ _ _
 | false =>
  simp only [Bool.false_or] at HC
  by_cases h1:v=1
  ·rw [show decide (v≠1)=false from by simp [h1]] at HC
   have hx:(v != 1)=false:=by simp [h1]
   replace HC:=HD HC;clear h1
   repeat refine kx ?_
   refine kst (And.intro le fe) ?_;refine kc ?_;exact HC.out.out _ _ _ _ _ _ _ _ _ _ _ _ _ _ _ _ _ _ _ _ _ _ _ _ _ _ _ _ _ _ _ _ _ _ _ _ _ _ _ _ _ _ _ _ _ _ _ _ _ _ _ _ _ _
  ·rw [show decide (v≠1)=true from by simp [h1]] at HC
   have hx:(v != 1)=true:=by simp [h1]
   replace HC:=HD HC;clear h1
   repeat refine kx ?_
   refine kst (And.intro le fe) ?_;refine kc ?_;exact HC.out.out _ _ _ _ _ _ _ _ _ _ _ _ _ _ _ _ _ _ _ _ _ _ _ _ _ _ _ _ _ _ _ _ _ _ _ _ _ _ _ _ _ _ _ _ _ _ _ _ _ _ _ _ _ _
