/- LatchRounds makes its bodies: one closure, again and again; and looks at what each round's last one told. -/
import Derived.Test.YtdgfekplfipekaaVRnL
import Derived.Test.YtdgfekplfipekaaVLbA
import Derived.Deep.AppendLies
import Derived.Test.YtdgfekplfipekaaVLrF
set_option linter.all false
set_option maxRecDepth 100000
set_option maxHeartbeats 16000000
namespace Go.Proofs.Ytdgfekplfipekaa
open Go.Conc Go.RowKit
open Go.ConcN (upd upd_same upd_ne)
set_option maxRecDepth 100000
theorem infoFL:(Try.prog.info? 39).map (fun i=>(i.zero,i.size,i.bytes))=some (some .nilFunc,1,8):=by kernel_rfl
theorem run_append_opL {P:Program} {a:Act} {o:Oper} {s x:Operand} {t:TypeId} {v v2 u:Value} {w w':World} (ho:o.op=.call { callee:=.builtin .append,args:=#[s,x],argTypes:=#[t,t] }) (hs:a.eval s=v) (hx:a.eval x=v2) (hr:(Builtin.append_ #[t,t] o.type #[v,v2]).run P w=.ok u w'):(execOp a.eval o).run P w=.ok (.value u) w':=by
 unfold execOp;simp only [ho,resolve,invoke,builtin,Sem.run_bind,Sem.run_pure,Result.andThen_ok,List.map_toArray,List.map_cons,List.map_nil,hs,hx,hr]
def fl {α:Type} (F1 F2:α):Nat→List α
 | 0=>[]
 | k + 1=>fl F1 F2 k ++ [F1,F2]
structure LB (x0:World) (F1 F2:Value) (k:Nat) (vB:Value) (x:World):Prop where
 old:Xg x0 x
 row:x.ownsRow x0.heap.size 39 1 vB (2 * k) (fl F1 F2 k)
theorem LB.up {x0 x y:World} {F1 F2:Value} {k:Nat} {vB:Value} (h:LB x0 F1 F2 k vB x) (ho:Xg x y):LB x0 F1 F2 k vB y:=⟨h.old.trans ho,Xj h.row fun g hg=>ho.2 g (own_lt h.row hg)⟩
theorem LB.more {x0 y:World} {f1 f2:FuncId} {c1 c2:Array Value} {k:Nat} {vB:Value} (h:LB x0 (.func (.func f1) #[] c1) (.func (.func f2) #[] c2) k vB y) (hk:k < 1000) {B:Nat} (hB:y.heap[B]? = some (.cells #[.func (.func f1) #[] c1,.func (.func f2) #[] c2] 39 (0,0))) (τ:Nat→Question→Nat) (d:Nat) :
 ∃ g cap y',(Builtin.append_ #[32,32] 32 #[vB,.slice (some ⟨B,0,none⟩) 2 2]).run Try.prog (under y τ d)=.ok (.slice (some ⟨g,0,none⟩) (2 * k + 2) cap) y'∧LB x0 (.func (.func f1) #[] c1) (.func (.func f2) #[] c2) (k + 1) (.slice (some ⟨g,0,none⟩) (2 * k + 2) cap) y':=by
 obtain ⟨i0,hi0,hz0,hz1,hz2⟩:=XM infoFL;obtain ⟨g,cap,y',e1,e2,e3,e4,e5⟩:=run_append_lies (P:=Try.prog) (under y τ d) 32 32 x0.heap.size 39 i0 _ 1 8 Try.underlying32 hi0 hz0 hz1 hz2 rfl (by omega) vB _ _ h.row ⟨B,0,none⟩ 2 2 [.func (.func f1) #[] c1,.func (.func f2) #[] c2] rfl (World.news_of_block (cs:=#[.func (.func f1) #[] c1,.func (.func f2) #[] c2]) (t:=39) (fr:=(0,0)) hB) (by simp [Value.oneCell']) (by omega) (by unfold maxLen;omega) (by omega) h.old.1 _ rfl;have hlow:∀ r,r < x0.heap.size→y'.heap[r]? = y.heap[r]?:=fun r h1=>e3.block r (Nat.lt_of_lt_of_le h1 h.old.1) fun e=>by have:=XE h.row e.symm;omega
 exact ⟨g,cap,y',e1,⟨Nat.le_trans h.old.1 e3.size,fun r h1=>(hlow r h1).trans (h.old.2 r h1)⟩,e2⟩
section
variable {Post:Value→World→Prop} {C:Ctx} {cs:List Frame} {x0:World} {bm ba bo bl bd be bw:Nat}
end
section
variable {Post:Value→World→Prop} {q:Rq} {num tb rb:Nat} {cb:Frame}
theorem rnd_loop (hm:q.M < 1000) (hB:1≤q.B):∀ (k i:Nat),i + k=q.M→∀ (m:Nat) (C:Ctx) (x0 x:World) (col:Nat→Prop) (sh:RSh) (cells:Nat→Int) (u7 u9 B0 B1 B2 B3 B4 B5 B6 B7 B8 B9 D0 D1 D2 D3 D4 D5 D6 D7 D8 D9 E0 E1 E2 E3 E4 E5 E6 E7 E8 E9 G0 G1 G2 G3 G4 G5 G6 G7 G8 G9 H0 H4 H5 H6 H7:Value),TSt Post q.side num tb rb cb m C x0 x col none_ sh cells (rnds (q.B:Nat) q.N k i) →
 JG Try.prog Post C (G ((base 18).at ⟨List.toArray (P0 tb::P0 q.bm::P0 q.bc::P0 q.bq::P0 q.be::P0 q.bn::P0 q.bl::u7::.int .i64 i::u9::B0::B1::B2::B3::B4::B5::B6::B7::B8::B9::D0::D1::D2::D3::D4::D5::D6::D7::D8::D9::E0::E1::E2::E3::E4::E5::E6::E7::E8::E9::G0::G1::G2::G3::G4::G5::G6::G7::G8::G9::H0::H4::H5::H6::H7::[]),[]⟩ [.code (Code.nav (Try.f18.body.getD .skip) [1,0,0]),.inLoop (Code.nav (Try.f18.body.getD .skip) [1,0,0]),.inBlock 0]) [cb,YX Try.prog]) x:=by
 intro k
 induction k with
 | zero =>
  intro i hik m C x0 x col sh cells u7 u9 B0 B1 B2 B3 B4 B5 B6 B7 B8 B9 D0 D1 D2 D3 D4 D5 D6 D7 D8 D9 E0 E1 E2 E3 E4 E5 E6 E7 E8 E9 G0 G1 G2 G3 G4 G5 G6 G7 G8 G9 H0 H4 H5 H6 H7 h;have hM:q.M_ sh col x:=h.I0.2;have hx:decide ((i:Int) < (q.M:Nat))=false:=by simp;omega
  have hxN:decide (i < q.M)=false:=by simp;omega
  have lm:x.cell? (th q.bm 0)=some (.int .i64 (q.M:Nat)):=Xa hM.m 0;simp only [Try.f18,Option.getD_some,Code.nav];replace h:=HD h;clear hM
  repeat refine kx ?_
  refine JG.exit (by rfl) ?_
  try walk_nrm
  first|refine JG.fin ?_|refine JG.done (JG.fin ?_)
  exact JG.leave0 rfl rfl Try.func18 (by rfl) (h.out.fin _)
 | succ k ih =>
  intro i hik m C x0 x col sh cells u7 u9 B0 B1 B2 B3 B4 B5 B6 B7 B8 B9 D0 D1 D2 D3 D4 D5 D6 D7 D8 D9 E0 E1 E2 E3 E4 E5 E6 E7 E8 E9 G0 G1 G2 G3 G4 G5 G6 G7 G8 G9 H0 H4 H5 H6 H7 h;have IH:=ih (i + 1) (by omega);clear ih;have hi:i < q.M:=by omega
  have hw:IntKind.i64.wrap ((i:Int) + 1)=((i + 1:Nat):Int):=by rw [IntKind.wrap_i64];omega
  replace hw:=HD hw;have hN:NXR Post q num tb rb cb i (rnds (q.B:Nat) q.N k (i + 1)):=by
   unfold NXR;intro m C x0 x col sh cells u7 u9 B0 B1 B2 B3 B4 B5 B6 B7 B8 B9 D0 D1 D2 D3 D4 D5 D6 D7 D8 D9 E0 E1 E2 E3 E4 E5 E6 E7 E8 E9 G0 G1 G2 G3 G4 G5 G6 G7 G8 G9 H0 H4 H5 H6 H7 h;have HZ:=HD (fun u7 u9 B0 B1 B2 B3 B4 B5 B6 B7 B8 B9 D0 D1 D2 D3 D4 D5 D6 D7 D8 D9 E0 E1 E2 E3 E4 E5 E6 E7 E8 E9 G0 G1 G2 G3 G4 G5 G6 G7 G8 G9 H0 H4 H5 H6 H7=>IH m C x0 x col sh cells u7 u9 B0 B1 B2 B3 B4 B5 B6 B7 B8 B9 D0 D1 D2 D3 D4 D5 D6 D7 D8 D9 E0 E1 E2 E3 E4 E5 E6 E7 E8 E9 G0 G1 G2 G3 G4 G5 G6 G7 G8 G9 H0 H4 H5 H6 H7 h);simp only [Try.f18,Option.getD_some,Code.nav] at HZ ⊢;clear IH h
   repeat refine kx ?_
   refine JG.inLoop ?_;rw [hw.out];exact HZ.out _ _ _ _ _ _ _ _ _ _ _ _ _ _ _ _ _ _ _ _ _ _ _ _ _ _ _ _ _ _ _ _ _ _ _ _ _ _ _ _ _ _ _ _ _ _ _
  clear IH hw;have hM:q.M_ sh col x:=h.I0.2;have hx:decide ((i:Int) < (q.M:Nat))=true:=by simp;omega
  have hxN:decide (i < q.M)=true:=by simp;omega
  obtain ⟨come,last,wrong⟩:=sh;have h1:=h.did (f:=fun s=>⟨upd s.come i (wrap64 (s.come i + 1)),s.last,s.wrong⟩) (k:=fun _=>(arrP ((q.B:Nat):Int)).bind (gR q.N i (rnds (q.B:Nat) q.N k (i + 1)))) (y:=x.setCell (th q.gc i) (.int .i64 (wrap64 (come i + 1)))) (by rw [Xh]) (fun r hr=>Xb (show r≠q.gc from fun e'=>hM.gc.2 (e' ▸ hr))) (Rq.I_set h.I0 Rq.ne_gc (hM.setC _ _)) Rq.keep_no;have lm:x.cell? (th q.bm 0)=some (.int .i64 (q.M:Nat)):=Xa hM.m 0;have lc:x.cell? (th q.bc 0)=some (.slice (some ⟨q.gc,0,none⟩) q.M q.M):=Xa hM.c 0;have lk:x.cell? (th q.gc i)=some (.int .i64 (come i)):=(Xa hM.gc.1 i).trans (arrF_get hi);have fk:x.frozen? (th q.gc i)=false:=Xe hM.gc.1 i;have lq:(x.setCell (th q.gc i) (.int .i64 (wrap64 (come i + 1)))).cell? (th q.bq 0)=some (P0 q.bb):=Xa (hM.setC i (wrap64 (come i + 1))).bq 0;clear h hM;replace h1:=HD h1;replace lq:=HD lq;replace hN:=HD hN;simp only [Try.f18,Option.getD_some,Code.nav]
  repeat refine kx ?_
  refine kst (And.intro lk fk) ?_;rw [wrap_eq64];generalize x.setCell (th q.gc i) (.int .i64 (wrap64 (come i + 1)))=x1 at h1 lq ⊢;clear lm lc lk fk;have lq':=lq.out
  repeat refine kx ?_
  refine kf (args:=#[P0 q.bb,P0 tb]) Try.func19 ?_;refine arrive_T Rq.barS (by simp;omega) ?_ h1.out fun m' C' y col' sh' cells' e hT _ _=>?_
  ·exact Yq.body fun C x h=>JG.raise rfl Try.func18 h
  rw [Frame.finish_at]
  try walk_nrm
  clear h1 lq lq';obtain ⟨r,is⟩:=e;have HZ:=HD (fun u7 B2 B3 B4 B5 B6 B7 B8 B9 D0 D1 D2 D3 D4 D5 D6 D7 D8 D9 E0 E1 E2 E3 E4 E5 E6 E7 E8 E9 G0 G1 G2 G3 G4 G5 G6 G7 G8 G9 H0 H4 H5 H6 H7=>finR_J hi hm hN.out m' C' y y col' sh' cells' u7 B2 B3 B4 B5 B6 B7 B8 B9 D0 D1 D2 D3 D4 D5 D6 D7 D8 D9 E0 E1 E2 E3 E4 E5 E6 E7 E8 E9 G0 G1 G2 G3 G4 G5 G6 G7 G8 G9 H0 H4 H5 H6 H7 hT);simp only [Try.f18,Option.getD_some,Code.nav] at HZ;clear hT hN
  iterate 8 refine kx ?_
  exact HZ.out _ _ _ _ _ _ _ _ _ _ _ _ _ _ _ _ _ _ _ _ _ _ _ _ _ _ _ _ _ _ _ _ _ _ _ _ _ _ _ _ _ _ _ _
theorem rnd_b {m:Nat} (hm:q.M < 1000) (hB:1≤q.B):Vu Post q.side num m 18 #[P0 q.bm,P0 q.bc,P0 q.bq,P0 q.be,P0 q.bn,P0 q.bl] (rnds (q.B:Nat) q.N q.M 0):=by
 refine ⟨⟨_,Try.func18,by kernel_rfl,by kernel_rfl⟩,fun C x col sh cells tb rb cbf hd hL hct hcb hI R=>?_⟩;have h:TSt Post q.side num tb rb cbf m C x x col none_ sh cells (rnds (q.B:Nat) q.N q.M 0):=.begin hd hL hct hcb hI R;have HL:=HD (fun u7 u9 B0 B1 B2 B3 B4 B5 B6 B7 B8 B9 D0 D1 D2 D3 D4 D5 D6 D7 D8 D9 E0 E1 E2 E3 E4 E5 E6 E7 E8 E9 G0 G1 G2 G3 G4 G5 G6 G7 G8 G9 H0 H4 H5 H6 H7=>rnd_loop hm hB q.M 0 (by omega) m C x x col sh cells u7 u9 B0 B1 B2 B3 B4 B5 B6 B7 B8 B9 D0 D1 D2 D3 D4 D5 D6 D7 D8 D9 E0 E1 E2 E3 E4 E5 E6 E7 E8 E9 G0 G1 G2 G3 G4 G5 G6 G7 G8 G9 H0 H4 H5 H6 H7 h);clear h hI R;refine Xu Try.func18 (by rfl) (by rfl) ?_;simp only [Try.f18,Option.getD_some];simp only [Try.f18,Option.getD_some,Code.nav] at HL;walk_nrm
 repeat refine kx ?_
 refine JG.loop ?_;exact HL.out _ _ _ _ _ _ _ _ _ _ _ _ _ _ _ _ _ _ _ _ _ _ _ _ _ _ _ _ _ _ _ _ _ _ _ _ _ _ _ _ _ _ _ _ _ _ _
end
end Go.Proofs.Ytdgfekplfipekaa
namespace Go.Proofs.Ytdgfekplfipekaa
open Go.Conc Go.RowKit
set_option maxRecDepth 100000
def lrV (bm bc bq be bn bl:Nat):Value:=.func (.func 18) #[] #[P0 bm,P0 bc,P0 bq,P0 be,P0 bn,P0 bl]
structure LrBd (x0:World) (Fv:Value) (k:Nat) (vB:Value) (x:World):Prop where
 old:Xg x0 x
 row:x.ownsRow x0.heap.size 39 1 vB k (List.replicate k Fv)
theorem LrBd.up {x0 x y:World} {Fv:Value} {k:Nat} {vB:Value} (h:LrBd x0 Fv k vB x) (ho:Xg x y):LrBd x0 Fv k vB y:=⟨h.old.trans ho,Xj h.row fun g hg=>ho.2 g (own_lt h.row hg)⟩
theorem LrBd.more {x0 y:World} {bm bc bq be bn bl k:Nat} {vB:Value} (h:LrBd x0 (lrV bm bc bq be bn bl) k vB y) (hk:k < 1000) {B:Nat} (hB:y.heap[B]? = some (.cells #[lrV bm bc bq be bn bl] 39 (0,0))) (τ:Nat→Question→Nat) (d:Nat) :
 ∃ g cap y',(Builtin.append_ #[32,32] 32 #[vB,.slice (some ⟨B,0,none⟩) 1 1]).run Try.prog (under y τ d)=.ok (.slice (some ⟨g,0,none⟩) (k + 1) cap) y'∧LrBd x0 (lrV bm bc bq be bn bl) (k + 1) (.slice (some ⟨g,0,none⟩) (k + 1) cap) y':=by
 obtain ⟨i0,hi0,hz0,hz1,hz2⟩:=XM infoFL;obtain ⟨g,cap,y',e1,e2,e3,e4,e5⟩:=run_append_lies (P:=Try.prog) (under y τ d) 32 32 x0.heap.size 39 i0 _ 1 8 Try.underlying32 hi0 hz0 hz1 hz2 rfl (by omega) vB _ _ h.row ⟨B,0,none⟩ 1 1 [lrV bm bc bq be bn bl] rfl (World.news_of_block (cs:=#[lrV bm bc bq be bn bl]) (t:=39) (fr:=(0,0)) hB) (by simp [Value.oneCell',lrV]) (by omega) (by unfold maxLen;omega) (by omega) h.old.1 _ rfl;have hlow:∀ r,r < x0.heap.size→y'.heap[r]? = y.heap[r]?:=fun r h1=>e3.block r (Nat.lt_of_lt_of_le h1 h.old.1) fun e=>by have:=XE h.row e.symm;omega
 exact ⟨g,cap,y',e1,⟨Nat.le_trans h.old.1 e3.size,fun r h1=>(hlow r h1).trans (h.old.2 r h1)⟩,by rw [List.replicate_succ'];exact e2⟩
section
variable {Post:Value→World→Prop} {C:Ctx} {cs:List Frame} {x0:World} {bm bc bq be bn bl n:Nat}
theorem lr_bodies (hn:n < 1000) (hb:x0.cell? (th bn 0)=some (.int .i64 n)) {u0 u1 u2 u3 u4 u5 u8 u9 B1 B7 B8 B9 D0 D1 D2 D3 D4 D5 D6 D7 D8 D9 E0 E1 E2 E3 E4 E5 E6 E7 E8 E9 G0 G1 G2 G3 G4 G5 G6 G7 G8 G9 H0 H4 I5 I6 I7 I8 I9 J0 J1 J2 J3 J4 J5 J6 J7 J8 J9 K0 K1 K2 K3 K4 K5 K6 K7 K8 K9 L0 L1 L2 L3 L4 L5 L6 L7 L8 L9 M0 M3 M4 M5 M6 M7 M8:Value}:∀ (q k:Nat),k + q=n→∀ (x:World) (vB:Value) (H5 H6 H7 H8 H9 I1 I2 I3 I4:Value),LrBd x0 (lrV bm bc bq be bn bl) k vB x →
 (∀ (y:World) (vB:Value) (H5 H6 H7 H8 H9 I1 I2 I3 I4:Value),LrBd x0 (lrV bm bc bq be bn bl) n vB y→JG Try.prog Post C (G ((base 4).at ⟨List.toArray (u0::u1::u2::u3::u4::u5::P0 bn::P0 bm::u8::u9::P0 bq::B1::P0 bc::P0 bl::P0 be::vB::.int .i64 n::B7::B8::B9::D0::D1::D2::D3::D4::D5::D6::D7::D8::D9::E0::E1::E2::E3::E4::E5::E6::E7::E8::E9::G0::G1::G2::G3::G4::G5::G6::G7::G8::G9::H0::H4::H5::H6::H7::H8::H9::I1::I2::I3::I4::I5::I6::I7::I8::I9::J0::J1::J2::J3::J4::J5::J6::J7::J8::J9::K0::K1::K2::K3::K4::K5::K6::K7::K8::K9::L0::L1::L2::L3::L4::L5::L6::L7::L8::L9::M0::M3::M4::M5::M6::M7::M8::[]),[]⟩ [.code (Code.nav (Try.f4.body.getD .skip) [1,1,1,1,1,1,1,1,1,1,1,1,1])]) cs) y) →
 JG Try.prog Post C (G ((base 4).at ⟨List.toArray (u0::u1::u2::u3::u4::u5::P0 bn::P0 bm::u8::u9::P0 bq::B1::P0 bc::P0 bl::P0 be::vB::.int .i64 k::B7::B8::B9::D0::D1::D2::D3::D4::D5::D6::D7::D8::D9::E0::E1::E2::E3::E4::E5::E6::E7::E8::E9::G0::G1::G2::G3::G4::G5::G6::G7::G8::G9::H0::H4::H5::H6::H7::H8::H9::I1::I2::I3::I4::I5::I6::I7::I8::I9::J0::J1::J2::J3::J4::J5::J6::J7::J8::J9::K0::K1::K2::K3::K4::K5::K6::K7::K8::K9::L0::L1::L2::L3::L4::L5::L6::L7::L8::L9::M0::M3::M4::M5::M6::M7::M8::[]),[]⟩ [.code (Code.nav (Try.f4.body.getD .skip) [1,1,1,1,1,1,1,1,1,1,1,1,0,1,0,0]),.inLoop (Code.nav (Try.f4.body.getD .skip) [1,1,1,1,1,1,1,1,1,1,1,1,0,1,0,0]),.inBlock 0,.code (Code.nav (Try.f4.body.getD .skip) [1,1,1,1,1,1,1,1,1,1,1,1,1])]) cs) x:=by
 intro q
 induction q with
 | zero =>
  intro k hk x vB H5 H6 H7 H8 H9 I1 I2 I3 I4 hI h;obtain rfl:k=n:=by omega
  have y2:x.cell? (th bn 0)=some (.int .i64 k):=hI.old.cell hb;have hx:decide ((k:Int) < k)=false:=by simp
  have hxN:decide (k < k)=false:=by simp
  simp only [Try.f4,Option.getD_some,Code.nav] at h ⊢;replace h:=HD (h x vB);replace hI:=HD hI;clear hb
  repeat refine kx ?_
  refine JG.exit (by rfl) ?_
  try walk_nrm
  exact h.out _ _ _ _ _ _ _ _ _ hI.out
 | succ q ih =>
  intro k hk x vB H5 H6 H7 H8 H9 I1 I2 I3 I4 hI h;have hkn:k < n:=by omega
  have y2:x.cell? (th bn 0)=some (.int .i64 n):=hI.old.cell hb;have hx:decide ((k:Int) < n)=true:=by simp;omega
  have hxN:decide (k < n)=true:=by simp;omega
  have hw:IntKind.i64.wrap ((k:Int) + 1)=((k + 1:Nat):Int):=by rw [IntKind.wrap_i64];omega
  have IH:=HD (ih (k + 1) (by omega));have Hh:=HD h;have HI:=HD hI;clear ih h hI hb;replace hw:=HD hw;simp only [Try.f4,Option.getD_some,Code.nav]
  repeat refine kx ?_
  refine ko fun K E hK hE τ d=>?_;go_simp;refine hK _ _ (jt (x:=x.alloc (.cells #[lrV bm bc bq be bn bl] 39)) ?_);simp only [Xs];clear hK hE K E τ d;have ho:=(Xg.refl x).alloc (.cells #[lrV bm bc bq be bn bl] 39);have HI1:=HI.out.up ho;have hB:(x.alloc (.cells #[lrV bm bc bq be bn bl] 39)).heap[x.heap.size]? = some (.cells #[lrV bm bc bq be bn bl] 39 (0,0)):=heap_alloc_new _ _;generalize x.alloc (.cells #[lrV bm bc bq be bn bl] 39)=x1 at HI1 hB ⊢;generalize x.heap.size=B at hB ⊢;clear ho HI y2;refine ko (fun K E hK hE τ d=>?_);obtain ⟨g,cap,y',r1,r2⟩:=HI1.more (by omega) hB τ d;rw [run_append_opL (s:=.tmp 57) (x:=.tmp 59) rfl rfl rfl r1,uponE_value];refine hK _ _ ?_;clear hK hE K E r1 HI1 hB;replace r2:=HD r2
  try walk_nrm
  have IH':=IH.out y' (.slice (some ⟨g,0,none⟩) (k + 1) cap);simp only [Try.f4,Option.getD_some,Code.nav] at IH';replace IH':=HD IH'
  repeat refine kx ?_
  refine JG.inLoop ?_;rw [hw.out];exact IH'.out _ _ _ _ _ _ _ _ _ r2.out Hh.out
theorem lr_look {x:World} {gl M:Nat} (hM:M < 1000) (hm:x.cell? (th bm 0)=some (.int .i64 M)) (hl:x.cell? (th bl 0)=some (.slice (some ⟨gl,0,none⟩) M M)) (hg:∀ k,k < M→x.cell? (th gl k)=some (.int .i64 1)) {u0 u1 u2 u3 u4 u5 u6 u8 u9 B0 B1 B2 B4 B5 B6 B7 B9 D0 D1 D2 D3 D4 D5 D6 D7 D8 D9 E0 E1 E2 E3 E4 E5 E6 E7 E8 E9 G0 G1 G2 G3 G4 G5 G6 G7 G8 G9 H0 H4 H5 H6 H7 H8 H9 I1 I2 I3 I4 I5 I6 I7 I8 I9 J0 J1 J2 J3 J4 J5 J6 J7 J8 J9 K0 K1 K2 K3 K4 K5 K6 K7 K8 K9 L0 L1 L2 L3 M6 M7 M8:Value}
 (h:∀ (L4 L5 L6 L7 L8 L9 M0 M3 M4 M5:Value),JG Try.prog Post C (G ((base 4).at ⟨List.toArray (u0::u1::u2::u3::u4::u5::u6::P0 bm::u8::u9::B0::B1::B2::P0 bl::B4::B5::B6::B7::.int .i64 M::B9::D0::D1::D2::D3::D4::D5::D6::D7::D8::D9::E0::E1::E2::E3::E4::E5::E6::E7::E8::E9::G0::G1::G2::G3::G4::G5::G6::G7::G8::G9::H0::H4::H5::H6::H7::H8::H9::I1::I2::I3::I4::I5::I6::I7::I8::I9::J0::J1::J2::J3::J4::J5::J6::J7::J8::J9::K0::K1::K2::K3::K4::K5::K6::K7::K8::K9::L0::L1::L2::L3::L4::L5::L6::L7::L8::L9::M0::M3::M4::M5::M6::M7::M8::[]),[]⟩ [.code (Code.nav (Try.f4.body.getD .skip) [1,1,1,1,1,1,1,1,1,1,1,1,1,1,1,1,1])]) cs) x):∀ (q k:Nat),k + q=M→∀ (L4 L5 L6 L7 L8 L9 M0 M3 M4 M5:Value),
 JG Try.prog Post C (G ((base 4).at ⟨List.toArray (u0::u1::u2::u3::u4::u5::u6::P0 bm::u8::u9::B0::B1::B2::P0 bl::B4::B5::B6::B7::.int .i64 k::B9::D0::D1::D2::D3::D4::D5::D6::D7::D8::D9::E0::E1::E2::E3::E4::E5::E6::E7::E8::E9::G0::G1::G2::G3::G4::G5::G6::G7::G8::G9::H0::H4::H5::H6::H7::H8::H9::I1::I2::I3::I4::I5::I6::I7::I8::I9::J0::J1::J2::J3::J4::J5::J6::J7::J8::J9::K0::K1::K2::K3::K4::K5::K6::K7::K8::K9::L0::L1::L2::L3::L4::L5::L6::L7::L8::L9::M0::M3::M4::M5::M6::M7::M8::[]),[]⟩ [.code (Code.nav (Try.f4.body.getD .skip) [1,1,1,1,1,1,1,1,1,1,1,1,1,1,1,1,0,1,0,0]),.inLoop (Code.nav (Try.f4.body.getD .skip) [1,1,1,1,1,1,1,1,1,1,1,1,1,1,1,1,0,1,0,0]),.inBlock 2,.code (Code.nav (Try.f4.body.getD .skip) [1,1,1,1,1,1,1,1,1,1,1,1,1,1,1,1,1])]) cs) x:=by
 intro q
 induction q with
 | zero =>
  intro k hk L4 L5 L6 L7 L8 L9 M0 M3 M4 M5;obtain rfl:k=M:=by omega
  have hx:decide ((k:Int) < k)=false:=by simp
  have hxN:decide (k < k)=false:=by simp
  simp only [Try.f4,Option.getD_some,Code.nav] at h ⊢;replace h:=HD h;clear hl hg
  repeat refine kx ?_
  refine JG.exit (by rfl) ?_
  try walk_nrm
  exact h.out _ _ _ _ _ _ _ _ _ _
 | succ q ih =>
  intro k hk L4 L5 L6 L7 L8 L9 M0 M3 M4 M5;have hkn:k < M:=by omega
  have g1:=hg k hkn;have hx:decide ((k:Int) < M)=true:=by simp;omega
  have hxN:decide (k < M)=true:=by simp;omega
  have hw:IntKind.i64.wrap ((k:Int) + 1)=((k + 1:Nat):Int):=by rw [IntKind.wrap_i64];omega
  have IH:=ih (k + 1) (by omega);clear ih h hg;simp only [Try.f4,Option.getD_some,Code.nav] at IH ⊢;replace IH:=HD IH;replace hw:=HD hw
  repeat refine kx ?_
  refine JG.inLoop ?_;rw [hw.out];exact IH.out _ _ _ _ _ _ _ _ _ _
