/- As CpE's told_store, for answers of any kind: the append and the store that tell an answer. -/
import Derived.Test.YtdhnggjmegilkaaSRwA
import Derived.Test.YtdhnggjmegilkaaSTkK
set_option linter.all false
set_option maxRecDepth 100000
set_option maxHeartbeats 16000000
namespace Go.Proofs.Ytdhnggjmegilkaa
open Go.Conc Go.RowKit
open Go.ConcN (upd upd_same upd_ne)
set_option maxRecDepth 100000
structure Ym where
 v:Int
 is:Bool
 e:Int
def XfR (n:Nat) (v:Int) (f:Nat):Xm Ym:=Q5 n 0 0 (fun p ok=>if ok then .acc ⟨2,3 + 2 * (ixZ n p).toNat,v,0⟩ fun _=>.acc ⟨2,2 + 2 * (ixZ n p).toNat,IntKind.i64.wrap (p + 1),0⟩ fun _=>.ret ⟨0,false,0⟩ else .ret ⟨0,false,12⟩) f
def takeD (n f:Nat):Xm Ym:=Q5 n 1 1 (fun p ok=>if ok then .acc ⟨1,3 + 2 * (ixZ n p).toNat,0,0⟩ fun a=>.acc ⟨2,2 + 2 * (ixZ n p).toNat,IntKind.i64.wrap (p + n),0⟩ fun _=>.ret ⟨a.was,true,0⟩ else .ret ⟨0,false,0⟩) f
def Xgj:Xm Ym:=.acc ⟨1,1,0,0⟩ fun o=>.acc ⟨1,0,0,0⟩ fun i=>.ret ⟨IntKind.i64.wrap (i.was - o.was),false,0⟩
section
variable {Sh:Type} {Post:Value→World→Prop} {S:Zv Sh} {num tb rb pb n cap m:Nat} {cb:Frame} {C:Ctx} {x0 x:World} {Pv:Nat→Prop} {c:Frame} {cs:List Frame} {ib:Nat} {col:Nat→Prop} {sh:Sh} {cells:Nat→Int} {g:Ym→Xx Sh Unit}
theorem Xgr {v:Int} (f:Nat) (hn2:2≤n) (hnc:2 + 2 * n≤S.nc) (hix:∀ p,0≤ixZ n p∧ixZ n p < n) (hC:∀ sh cells col y,S.I sh cells col y→Xaz y ib pb n cap S.A)
 (h:TSt Post S num tb rb cb m C x0 x col Pv sh cells ((XfR n v f).into g)) (hs:Yq Post cb c cs)
 (hn:∀ (m':Nat) (C':Ctx) (y0 y:World) (col':Nat→Prop) (sh':Sh) (cells':Nat→Int) (e:Int),TSt Post S num tb rb cb m' C' y0 y col' Pv sh' cells' (g ⟨0,false,e⟩)→(∀ r,Pv r→y.heap[r]? = x.heap[r]?)→(∀ b,S.keep num b→y.cell? b=x.cell? b)→JG Try.prog Post C' (G (c.finish (.int .i64 e)) cs) y) :
 JG Try.prog Post C (G (Frame.enter Try.prog 39 #[P0 ib,P0 tb,.int .i64 v] .normal) (c::cs)) x:=by
 have ho:=(hC _ _ _ _ h.I).blk;have hup:∀ (fr:Frame),(∀ (C:Ctx) (x:World),JG Try.prog Post C (G (c.raise [{ v:=YI,recovered:=false }]) cs) x→JG Try.prog Post C (G (fr.raise [{ v:=YI,recovered:=false }]) (c::cs)) x)→Yq Post cb fr (c::cs):=fun fr hf=>hs.up hf;replace hn:=HD hn;replace hup:=HD hup;replace hC:=HD hC;replace h:=HD h;refine Xu Try.func39 (by rfl) (by rfl) ?_;simp only [Try.f39,Option.getD_some];walk_nrm;have r0:x.cell? (th ib 0)=some (P0 (S.A 0)):=Xa ho 0
 repeat refine kx ?_
 refine kf (args:=#[P0 ib]) Try.func109 ?_;refine ZT ho ?_;rw [Frame.finish_at];walk_nrm
 repeat refine kx ?_
 refine kf (args:=#[P0 ib,P0 tb,P0 (S.A 0),.int .i64 0]) Try.func110 ?_;refine Xdh f (by omega) hnc (by omega) hix hC.out h.out (hup.out _ fun C x h=>JG.raise rfl Try.func39 h) ?_;intro m1 C1 y0 y1 col1 sh1 cells1 p b h1 hp1 hk1;clear h r0 ho;rw [Frame.finish_at];walk_nrm;have hR:=hC.out _ _ _ _ h1.I;have hix1:=hix p;have hrow:=hR.row (ixZ n p).toNat (by omega);have hm:=hR.made (3 + 2 * (ixZ n p).toNat) (by omega);have hlt:2 + 2 * (ixZ n p).toNat + 1 < S.nc:=by omega
 have hlt2:2 + 2 * (ixZ n p).toNat < 2 + 2 * n:=by omega
 replace hp1:=HD hp1;replace hk1:=HD hk1;cases b
 ·rw [if_neg (by decide)] at h1
  dsimp only [Xm.into] at h1;replace h1:=HD h1
  repeat refine kx ?_
  refine JG.ret ?_;exact JG.leave rfl rfl Try.func39 (fun τ d=>results_tmp (t:=6) rfl _ _ _) (hn.out m1 C1 y0 y1 col1 sh1 cells1 _ h1.out hp1.out hk1.out)
 ·rw [if_pos rfl] at h1
  dsimp only [Xm.into] at h1;replace h1:=HD h1
  repeat refine kx ?_
  refine kf (args:=#[P0 ib,.int .i64 p]) Try.func111 ?_;refine Xfx hR.blk hix1.1 hix1.2 ?_;rw [Frame.finish_at];walk_nrm;obtain ⟨hr1,hr2⟩:=hrow;generalize hg:(ixZ n p).toNat=q at hr1 hr2 hm hlt hlt2 h1 ⊢
  repeat refine kx ?_
  refine kf (args:=#[P0 (S.A (3 + 2 * q)),P0 tb,.int .i64 v]) Try.func79 ?_;refine WP h1.out (by omega) hm (hup.out _ fun C x h=>JG.raise rfl Try.func39 h) ?_;intro m2 C2 y2 col2 sh2 cells2 a2 h2 hp2 hk2;have hR2:=hC.out _ _ _ _ h2.I;have hrow2:=(hR2.row q (by omega)).1;have hm2:=hR2.made (2 + 2 * q) hlt2;clear h1 hm hR hr1 hr2;dsimp only [Xm.into] at h2;replace h2:=HD h2;have hp2':=HD fun r hr=>(hp2 r hr).trans (hp1.out r hr);have hk2':=HD fun b hb=>(hk2 b hb).trans (hk1.out b hb);clear hp2 hk2;rw [Frame.finish_at]
  try walk_nrm
  repeat refine kx ?_
  refine kf (args:=#[P0 (S.A (2 + 2 * q)),P0 tb,.int .i64 (IntKind.i64.wrap (p + 1))]) Try.func79 ?_;refine WP h2.out (by omega) hm2 (hup.out _ fun C x h=>JG.raise rfl Try.func39 h) ?_;intro m3 C3 y3 col3 sh3 cells3 a3 h3 hp3 hk3;clear h2 hm2 hR2 hrow2;dsimp only [Xm.into] at h3;replace h3:=HD h3;have hp3':=HD fun r hr=>(hp3 r hr).trans (hp2'.out r hr);have hk3':=HD fun b hb=>(hk3 b hb).trans (hk2'.out b hb);clear hp3 hk3;rw [Frame.finish_at]
  try walk_nrm
  repeat refine kx ?_
  refine JG.ret ?_;exact JG.leave rfl rfl Try.func39 (fun τ d=>results_tmp (t:=6) rfl _ _ _) (hn.out m3 C3 y3 y3 col3 sh3 cells3 _ h3.out hp3'.out hk3'.out)
end
section
variable {Sh:Type} {Post:Value→World→Prop} {S:Zv Sh} {num tb rb pb n cap m:Nat} {cb:Frame} {C:Ctx} {x0 x:World} {Pv:Nat→Prop} {c:Frame} {cs:List Frame} {ib:Nat} {col:Nat→Prop} {sh:Sh} {cells:Nat→Int} {g:Ym→Xx Sh Unit}
theorem XfL (f:Nat) (hn2:2≤n) (hnc:2 + 2 * n≤S.nc) (hix:∀ p,0≤ixZ n p∧ixZ n p < n) (hC:∀ sh cells col y,S.I sh cells col y→Xaz y ib pb n cap S.A)
 (h:TSt Post S num tb rb cb m C x0 x col Pv sh cells ((takeD n f).into g)) (hs:Yq Post cb c cs)
 (hn:∀ (m':Nat) (C':Ctx) (y0 y:World) (col':Nat→Prop) (sh':Sh) (cells':Nat→Int) (u:Int) (is:Bool),TSt Post S num tb rb cb m' C' y0 y col' Pv sh' cells' (g ⟨u,is,0⟩)→(∀ r,Pv r→y.heap[r]? = x.heap[r]?)→(∀ b,S.keep num b→y.cell? b=x.cell? b)→JG Try.prog Post C' (G (c.finish (.tuple #[.int .i64 u,.bool is])) cs) y) :
 JG Try.prog Post C (G (Frame.enter Try.prog 40 #[P0 ib,P0 tb] .normal) (c::cs)) x:=by
 have ho:=(hC _ _ _ _ h.I).blk;have hup:∀ (fr:Frame),(∀ (C:Ctx) (x:World),JG Try.prog Post C (G (c.raise [{ v:=YI,recovered:=false }]) cs) x→JG Try.prog Post C (G (fr.raise [{ v:=YI,recovered:=false }]) (c::cs)) x)→Yq Post cb fr (c::cs):=fun fr hf=>hs.up hf;replace hn:=HD hn;replace hup:=HD hup;replace hC:=HD hC;replace h:=HD h;refine Xu Try.func40 (by rfl) (by rfl) ?_;simp only [Try.f40,Option.getD_some];walk_nrm;have r0:x.cell? (th ib 1)=some (P0 (S.A 1)):=Xa ho 1
 repeat refine kx ?_
 refine kf (args:=#[P0 ib]) Try.func109 ?_;refine ZT ho ?_;rw [Frame.finish_at];walk_nrm
 repeat refine kx ?_
 refine kf (args:=#[P0 ib,P0 tb,P0 (S.A 1),.int .i64 1]) Try.func110 ?_;refine Xdh f (by omega) hnc (by omega) hix hC.out h.out (hup.out _ fun C x h=>JG.raise rfl Try.func40 h) ?_;intro m1 C1 y0 y1 col1 sh1 cells1 p b h1 hp1 hk1;clear h r0 ho;rw [Frame.finish_at];walk_nrm;have hR:=hC.out _ _ _ _ h1.I;have hix1:=hix p;have hrow:=hR.row (ixZ n p).toNat (by omega);have hm:=hR.made (3 + 2 * (ixZ n p).toNat) (by omega);have hlt:2 + 2 * (ixZ n p).toNat + 1 < S.nc:=by omega
 have hlt2:2 + 2 * (ixZ n p).toNat < 2 + 2 * n:=by omega
 replace hp1:=HD hp1;replace hk1:=HD hk1;cases b
 ·rw [if_neg (by decide)] at h1
  dsimp only [Xm.into] at h1;replace h1:=HD h1
  repeat refine kx ?_
  refine JG.ret ?_;exact JG.leave rfl rfl Try.func40 (fun τ d=>results_tmp2 (t:=4) (u:=5) rfl _ _ _) (hn.out m1 C1 y0 y1 col1 sh1 cells1 _ _ h1.out hp1.out hk1.out)
 ·rw [if_pos rfl] at h1
  dsimp only [Xm.into] at h1;replace h1:=HD h1
  repeat refine kx ?_
  refine kf (args:=#[P0 ib,.int .i64 p]) Try.func111 ?_;refine Xfx hR.blk hix1.1 hix1.2 ?_;rw [Frame.finish_at];walk_nrm;obtain ⟨hr1,hr2⟩:=hrow;generalize hg:(ixZ n p).toNat=q at hr1 hr2 hm hlt hlt2 h1 ⊢
  repeat refine kx ?_
  refine kf (args:=#[P0 (S.A (3 + 2 * q)),P0 tb]) Try.func29 ?_;refine Wr h1.out (by omega) hm (hup.out _ fun C x h=>JG.raise rfl Try.func40 h) ?_;intro m2 C2 y2 col2 sh2 cells2 a2 h2 hp2 hk2;have hR2:=hC.out _ _ _ _ h2.I;have hrow2:=(hR2.row q (by omega)).1;have hm2:=hR2.made (2 + 2 * q) hlt2;clear h1 hm hR hr1 hr2;dsimp only [Xm.into] at h2;replace h2:=HD h2;have hp2':=HD fun r hr=>(hp2 r hr).trans (hp1.out r hr);have hk2':=HD fun b hb=>(hk2 b hb).trans (hk1.out b hb);clear hp2 hk2;rw [Frame.finish_at]
  try walk_nrm
  have y2c:y2.cell? (th ib 2)=some (.slice (some ⟨pb,0,none⟩) n cap):=Xa hR2.blk 2
  repeat refine kx ?_
  refine JG.drawTail 12 (by kernel_rfl) (by kernel_rfl) (by rfl) (by decide) (fun τ d=>?_);simp only [List.take_succ_cons,List.take_zero];have k1:=(Xk y2 τ d _).trans hrow2;have k2:=(Xk y2 τ d _).trans y2c
  repeat still_step
  refine wpStill_nil ?_;simp only [List.length_cons,List.length_nil,Nat.reduceAdd,Nat.reduceSub,List.range'_succ,List.range'_zero];clear k1 k2 τ d y2c;refine kf (args:=#[P0 (S.A (2 + 2 * q)),P0 tb,.int .i64 (IntKind.i64.wrap (p + n))]) Try.func79 ?_;refine WP h2.out (by omega) hm2 (hup.out _ fun C x h=>JG.raise rfl Try.func40 h) ?_;intro m3 C3 y3 col3 sh3 cells3 a3 h3 hp3 hk3;clear h2 hm2 hR2 hrow2;dsimp only [Xm.into] at h3;replace h3:=HD h3;have hp3':=HD fun r hr=>(hp3 r hr).trans (hp2'.out r hr);have hk3':=HD fun b hb=>(hk3 b hb).trans (hk2'.out b hb);clear hp3 hk3;rw [Frame.finish_at]
  try walk_nrm
  repeat refine kx ?_
  refine JG.ret ?_;exact JG.leave rfl rfl Try.func40 (fun τ d=>results_tmp2 (t:=4) (u:=5) rfl _ _ _) (hn.out m3 C3 y3 y3 col3 sh3 cells3 _ _ h3.out hp3'.out hk3'.out)
theorem Xgt (hnc:2 + 2 * n≤S.nc) (hC:∀ sh cells col y,S.I sh cells col y→Xaz y ib pb n cap S.A)
 (h:TSt Post S num tb rb cb m C x0 x col Pv sh cells (Xgj.into g)) (hs:Yq Post cb c cs)
 (hn:∀ (m':Nat) (C':Ctx) (y0 y:World) (col':Nat→Prop) (sh':Sh) (cells':Nat→Int) (u:Int),TSt Post S num tb rb cb m' C' y0 y col' Pv sh' cells' (g ⟨u,false,0⟩)→(∀ r,Pv r→y.heap[r]? = x.heap[r]?)→(∀ b,S.keep num b→y.cell? b=x.cell? b)→JG Try.prog Post C' (G (c.finish (.int .i64 u)) cs) y) :
 JG Try.prog Post C (G (Frame.enter Try.prog 43 #[P0 ib,P0 tb] .normal) (c::cs)) x:=by
 have hR:=hC _ _ _ _ h.I;have hup:∀ (fr:Frame),(∀ (C:Ctx) (x:World),JG Try.prog Post C (G (c.raise [{ v:=YI,recovered:=false }]) cs) x→JG Try.prog Post C (G (fr.raise [{ v:=YI,recovered:=false }]) (c::cs)) x)→Yq Post cb fr (c::cs):=fun fr hf=>hs.up hf;have hm:=hR.made 1 (by omega);have r1:x.cell? (th ib 1)=some (P0 (S.A 1)):=Xa hR.blk 1;replace hn:=HD hn;replace hup:=HD hup;replace hC:=HD hC;dsimp only [Xgj,Xm.into] at h;replace h:=HD h;refine Xu Try.func43 (by rfl) (by rfl) ?_;simp only [Try.f43,Option.getD_some];walk_nrm
 repeat refine kx ?_
 refine kf (args:=#[P0 ib]) Try.func109 ?_;refine ZT hR.blk ?_;rw [Frame.finish_at];walk_nrm
 repeat refine kx ?_
 refine kf (args:=#[P0 (S.A 1),P0 tb]) Try.func29 ?_;refine Wr h.out (by omega) hm (hup.out _ fun C x h=>JG.raise rfl Try.func43 h) ?_;intro m1 C1 y1 col1 sh1 cells1 a1 h1 hp1 hk1;clear h hm r1 hR;have hR:=hC.out _ _ _ _ h1.I;have hm:=hR.made 0 (by omega);have r0:y1.cell? (th ib 0)=some (P0 (S.A 0)):=Xa hR.blk 0;dsimp only at h1;replace h1:=HD h1;replace hp1:=HD hp1;replace hk1:=HD hk1;rw [Frame.finish_at];walk_nrm;generalize a1.was=p1 at h1 ⊢
 repeat refine kx ?_
 refine kf (args:=#[P0 (S.A 0),P0 tb]) Try.func29 ?_;refine Wr h1.out (by omega) hm (hup.out _ fun C x h=>JG.raise rfl Try.func43 h) ?_;intro m2 C2 y2 col2 sh2 cells2 a2 h2 hp2 hk2;clear h1 hm r0 hR;dsimp only at h2;replace h2:=HD h2;have hp2':=HD fun r hr=>(hp2 r hr).trans (hp1.out r hr);have hk2':=HD fun b hb=>(hk2 b hb).trans (hk1.out b hb);clear hp2 hk2;rw [Frame.finish_at];walk_nrm
 repeat refine kx ?_
 refine JG.ret ?_;exact JG.leave rfl rfl Try.func43 (fun τ d=>results_tmp (t:=4) rfl _ _ _) (hn.out m2 C2 y2 y2 col2 sh2 cells2 _ h2.out hp2'.out hk2'.out)
end
def YZ (n f:Nat) (o v:Int):Xm Ym:=if o=0 then XfR n v f else if o=1 then takeD n f else if o=2 then Xgj else .ret ⟨0,false,0⟩
section
variable {Sh:Type} {Post:Value→World→Prop} {S:Zv Sh} {num tb rb pb n cap m:Nat} {cb:Frame} {C:Ctx} {x0 x:World} {Pv:Nat→Prop} {c:Frame} {cs:List Frame} {ib sb:Nat} {col:Nat→Prop} {sh:Sh} {cells:Nat→Int} {g:Ym→Xx Sh Unit} {p:Xx Sh Unit}
theorem TSt.fewer {Pv':Nat→Prop} (h:TSt Post S num tb rb cb m C x0 x col Pv sh cells p) (hp:∀ r,Pv' r→Pv r):TSt Post S num tb rb cb m C x0 x col Pv' sh cells p :=
 { h with
   pv:=fun r hr=>h.pv r (hp r hr)
   I:=S.frame h.I _ x (Nat.le_refl _) (fun _ _ _=>rfl) fun r _ h2=>h2.imp id (hp r) }
theorem TSt.turn1 {y:World} (h:TSt Post S num tb rb cb m C x0 x col Pv sh cells p) (N:Nat→Prop) (hN:∀ r,N r→Pv r) (hs:y.heap.size=x.heap.size) (hy:∀ r,¬ N r→y.heap[r]? = x.heap[r]?) (hk:∀ i a,i≠num→S.keep i a→¬ N a.block):TSt Post S num tb rb cb m C x0 y col Pv sh cells p :=
 have htb:¬ N tb:=fun e=>(h.pv tb (hN tb e)).2 h.mine;have hl:Qn y tb rb:=⟨(World.cell?_of_block (hy tb htb)).trans h.lives.1,(World.cell?_of_block (hy tb htb)).trans h.lives.2.1,h.lives.2.2⟩
 ⟨h.d,hl,h.mine,fun r hr=>by rw [hs];exact h.lt r hr,fun r hr=>⟨by rw [hs];exact (h.pv r hr).1,(h.pv r hr).2⟩,S.frame h.I _ y (by rw [hs];exact Nat.le_refl _) (fun r _ h1=>hy r fun e=>h1 (.inr (hN r e))) fun _ _ h=>h,by rw [hs];exact h.size,
  fun r hr=>(hy r fun e=>(h.pv r (hN r e)).2 hr).trans (h.old r hr),fun i a h1 h2=>(World.cell?_of_block (hy _ (hk i a h1 h2))).trans (h.keep i a h1 h2),fun i a h1=>by rw [hs];exact h.klt i a h1,h.reach⟩
theorem Zf (w:World) (o:Obj):(w.alloc o).heap.size=w.heap.size + 1:=by rw [show (w.alloc o).heap=w.heap.push o from rfl,Array.size_push]
def aV (a:Ym):Value:=.agg #[.int .i64 a.v,.bool a.is,.int .i64 a.e]
theorem Ui {z:World} {a:Ym} {q0 q1:Nat} {v0 v1 v2:Value} (u3 u4 u7 u8 u9 B0 B1 B2 B3 B4 B5 B6 B7 B8 B9 D0 D1 D2 D3 D4 D5 D6 D7 D8 D9 E0 E1 E2 E3 E4 E5 E6 E7 E8 E9 G0 G1 G2:Value) (hb:z.heap[q1]? = some (.cells #[.int .i64 a.v,.bool a.is,.int .i64 a.e] 93 (0,0)))
 (h:∀ z',z'.heap=z.heap→JG Try.prog Post C (G (c.finish (aV a)) cs) z') :
 JG Try.prog Post C (G ((base 35).at ⟨#[v0,v1,v2,u3,u4,P0 q0,P0 q1,u7,u8,u9,B0,B1,B2,B3,B4,B5,B6,B7,B8,B9,D0,D1,D2,D3,D4,D5,D6,D7,D8,D9,E0,E1,E2,E3,E4,E5,E6,E7,E8,E9,G0,G1,G2],[]⟩ [.code (Code.nav (Try.f35.body.getD .skip) [1,1])]) (c::cs)) z:=by
 simp only [Try.f35,Option.getD_some,Code.nav];have e0:z.cell? (th q1 0)=some (.int .i64 a.v):=Xa hb 0;have e1:z.cell? (th q1 1)=some (.bool a.is):=Xa hb 1;have e2:z.cell? (th q1 2)=some (.int .i64 a.e):=Xa hb 2;replace h:=HD h;refine JG.seq ?_;refine JG.code (XO _) (by kernel_rfl) rfl (.inr (by kernel_rfl)) rfl (fun K R hK hR τ=>?_);replace hK:=HD hK;clear hR;have k0:=(Xk z τ 0 _).trans e0;have k1:=(Xk z τ 0 _).trans e1;have k2:=(Xk z τ 0 _).trans e2;have kb:(under z τ 0).heap[q1]? = some (.cells #[.int .i64 a.v,.bool a.is,.int .i64 a.e] 93 (0,0)):=hb;have hlt:q1 < (under z τ 0).heap.size:=Xt k0;have f0:(under z τ 0).frozen? ⟨q1,0,none⟩=false:=Lib.frozen_of_heap kb 0;have f1:(under z τ 0).frozen? ⟨q1,1,none⟩=false:=Lib.frozen_of_heap kb 1;have f2:(under z τ 0).frozen? ⟨q1,2,none⟩=false:=Lib.frozen_of_heap kb 2
 go_wp2
 refine hK.out _ _ ?_;have hn:∀ r,((((under z τ 0).setCell (th q1 0) (.int .i64 a.v)).setCell (th q1 1) (.bool a.is)).setCell (th q1 2) (.int .i64 a.e)).heap[r]? = z.heap[r]?:=fun r=>by
  by_cases e:r=q1
  ·subst e
   rw [hb];exact Xd (Xd (Xd kb))
  ·rw [Xb e,Xb e,Xb e]
   exact congrArg (·[r]?) (Vd z τ 0)
 generalize (((under z τ 0).setCell (th q1 0) (.int .i64 a.v)).setCell (th q1 1) (.bool a.is)).setCell (th q1 2) (.int .i64 a.e)=z' at hn ⊢;refine JG.ret ?_;exact JG.leave rfl rfl Try.func35 (fun τ d=>results_cell_row (p:=6) rfl _ _ q1 _ _ _ _ rfl ((hn q1).trans hb) Try.underlying93 rfl (by kernel_rfl)) (h.out z' (Array.ext_getElem? hn))
theorem Xey {o v:Int} (f:Nat) (hn2:2≤n) (hnc:2 + 2 * n≤S.nc) (hix:∀ p,0≤ixZ n p∧ixZ n p < n) (hC:∀ sh cells col y,S.I sh cells col y→Xaz y ib pb n cap S.A) (hsb:∀ sh cells col y,S.I sh cells col y→y.cell? (th sb 0)=some (P0 ib))
 (h:TSt Post S num tb rb cb m C x0 x col Pv sh cells ((YZ n f o v).into g)) (hs:Yq Post cb c cs)
 (hn:∀ (m':Nat) (C':Ctx) (y0 y:World) (col':Nat→Prop) (sh':Sh) (cells':Nat→Int) (a:Ym),TSt Post S num tb rb cb m' C' y0 y col' Pv sh' cells' (g a)→(∀ r,Pv r→y.heap[r]? = x.heap[r]?)→(∀ b,S.keep num b→y.cell? b=x.cell? b)→JG Try.prog Post C' (G (c.finish (aV a)) cs) y) :
 JG Try.prog Post C (G (Frame.enter Try.prog 35 #[P0 sb,P0 tb,.agg #[.int .i64 o,.int .i64 v]] .normal) (c::cs)) x:=by
 have hup:∀ (fr:Frame),(∀ (C:Ctx) (x:World),JG Try.prog Post C (G (c.raise [{ v:=YI,recovered:=false }]) cs) x→JG Try.prog Post C (G (fr.raise [{ v:=YI,recovered:=false }]) (c::cs)) x)→Yq Post cb fr (c::cs):=fun fr hf=>hs.up hf;replace hn:=HD hn;replace hup:=HD hup;replace hC:=HD hC;replace hsb:=HD hsb;replace h:=HD h;refine Xu Try.func35 (by rfl) (by rfl) ?_;simp only [Try.f35,Option.getD_some];walk_nrm
 repeat refine kx ?_
 refine ko fun K E hK hE τ d=>?_;go_simp;refine hK _ _ (jt (x:=x.alloc (.cells #[.int .i64 o,.int .i64 v] 96)) ?_);simp only [Xs];clear hK hE K E τ d
 try walk_nrm
 refine ko fun K E hK hE τ d=>?_;go_simp;refine hK _ _ (jt (x:=(x.alloc (.cells #[.int .i64 o,.int .i64 v] 96)).alloc (.cells #[.int .i64 0,.bool false,.int .i64 0] 93)) ?_);simp only [Xs];clear hK hE K E τ d
 try walk_nrm
 have hO:Xg x ((x.alloc (.cells #[.int .i64 o,.int .i64 v] 96)).alloc (.cells #[.int .i64 0,.bool false,.int .i64 0] 93)):=((Xg.refl x).alloc _).alloc _;have w1:((x.alloc (.cells #[.int .i64 o,.int .i64 v] 96)).alloc (.cells #[.int .i64 0,.bool false,.int .i64 0] 93)).heap[x.heap.size + 1]? = some (.cells #[.int .i64 0,.bool false,.int .i64 0] 93 (0,0)):=by
  have:=heap_alloc_new (x.alloc (.cells #[.int .i64 o,.int .i64 v] 96)) (.cells #[.int .i64 0,.bool false,.int .i64 0] 93)
  rwa [Zf] at this
 have w0:((x.alloc (.cells #[.int .i64 o,.int .i64 v] 96)).alloc (.cells #[.int .i64 0,.bool false,.int .i64 0] 93)).heap[x.heap.size]? = some (.cells #[.int .i64 o,.int .i64 v] 96 (0,0)):=by
  exact (heap_alloc_old _ _ (by rw [Zf];omega)).trans (heap_alloc_new x _)
 have hsz:((x.alloc (.cells #[.int .i64 o,.int .i64 v] 96)).alloc (.cells #[.int .i64 0,.bool false,.int .i64 0] 93)).heap.size=x.heap.size + 1 + 1:=by rw [Zf,Zf]
 rw [Zf];generalize ((x.alloc (.cells #[.int .i64 o,.int .i64 v] 96)).alloc (.cells #[.int .i64 0,.bool false,.int .i64 0] 93))=y at hO w0 w1 hsz ⊢;obtain ⟨q0,hq0⟩:∃ q,q=x.heap.size:=⟨_,rfl⟩
 obtain ⟨q1,hq1⟩:∃ q,q=x.heap.size + 1:=⟨_,rfl⟩
 rw [← hq0] at w0;rw [← hq1] at w1;rw [← hq1,← hq0];have z0:y.cell? (th q0 0)=some (.int .i64 o):=Xa w0 0;have z1:y.cell? (th q0 1)=some (.int .i64 v):=Xa w0 1;have lsz:=h.out.lt tb h.out.mine;have hown:TSt Post S num tb rb cb m C x0 y col (fun r=>Pv r∨(r=q0∨r=q1)) sh cells ((YZ n f o v).into g):=h.out.own hO (fun r=>r=q0∨r=q1) fun r hr=>by rcases hr with rfl|rfl<;>omega
 have hback:∀ (m':Nat) (C':Ctx) (y0 z:World) (col':Nat→Prop) (sh':Sh) (cells':Nat→Int) (a:Ym),TSt Post S num tb rb cb m' C' y0 z col' (fun r=>Pv r∨(r=q0∨r=q1)) sh' cells' (g a)→(∀ r,r≠q1→(Pv r∨(r=q0∨r=q1))→z.heap[r]? = y.heap[r]?)→(∀ b,S.keep num b→z.cell? b=y.cell? b)→JG Try.prog Post C' (G (c.finish (aV a)) cs) z:=by
  intro m' C' y0 z col' sh' cells' a ht hp hk;refine hn.out m' C' y0 z col' sh' cells' a (ht.fewer fun r h=>.inl h) (fun r hr=>?_) fun b hb=>?_
  ·have:=(h.out.pv r hr).1
   exact (hp r (by omega) (.inl hr)).trans (hO.2 r this)
  ·exact (hk b hb).trans (World.cell?_of_block (hO.2 _ (h.out.klt num b hb)))
 have hklt:∀ i a,S.keep i a→a.block < x.heap.size:=fun i a h1=>h.out.klt i a h1;have hpvlt:∀ r,Pv r→r < x.heap.size:=fun r hr=>(h.out.pv r hr).1;have hturn:∀ (m':Nat) (C':Ctx) (y0 y1 z z':World) (col':Nat→Prop) (sh':Sh) (cells':Nat→Int) {p:Xx Sh Unit},TSt Post S num tb rb cb m' C' y0 y1 col' (fun r=>Pv r∨(r=q0∨r=q1)) sh' cells' p→z.heap.size=y1.heap.size→(∀ r,r≠q1→z.heap[r]? = y1.heap[r]?)→z'.heap=z.heap→TSt Post S num tb rb cb m' C' y0 z' col' (fun r=>Pv r∨(r=q0∨r=q1)) sh' cells' p:=by
  intro m' C' y0 y1 z z' col' sh' cells' p ht h1 h2 h3;refine ht.turn1 (fun r=>r=q1) (fun r e=>.inr (.inr e)) (by rw [h3,h1]) (fun r hr=>by rw [h3];exact h2 r hr) (fun i a _ h5 h6=>?_)
  have:=hklt i a h5
  omega
 clear h hn;replace hturn:=HD hturn;replace hown:=HD hown;replace hback:=HD hback;replace hO:=HD hO;replace hsz:=HD hsz;replace hq0:=HD hq0;replace hq1:=HD hq1;replace hklt:=HD hklt;replace hpvlt:=HD hpvlt;replace w0:=HD w0
 repeat refine kx ?_
 have hops:o=0∨o=1∨o=2∨(o≠0∧o≠1∧o≠2):=by omega
 rcases hops with rfl|rfl|rfl|⟨n0,n1,n2⟩
 ·have h:=hown.out
  unfold YZ at h;rw [if_pos rfl] at h;have s0:=hsb.out _ _ _ _ h.I;replace h:=HD h
  repeat refine kx ?_
  refine JG.drawTail 7 (by kernel_rfl) (by kernel_rfl) (by rfl) (by decide) (fun τ d=>?_);simp only [List.take_succ_cons,List.take_zero];have k1:=(Xk y τ d _).trans s0;have k2:=(Xk y τ d _).trans z1
  repeat still_step
  refine wpStill_nil ?_;simp only [List.length_cons,List.length_nil,Nat.reduceAdd,Nat.reduceSub,List.range'_succ,List.range'_zero];clear k1 k2 τ d;refine kf (args:=#[P0 ib,P0 tb,.int .i64 v]) Try.func39 ?_;refine Xgr f hn2 hnc hix hC.out h.out (hup.out _ fun C x h=>JG.raise rfl Try.func35 h) ?_;intro m1 C1 y0 y1 col1 sh1 cells1 a h1 hp1 hk1;rw [Frame.finish_at];walk_nrm;have b1:=(hp1 q1 (.inr (.inr rfl))).trans w1;replace hp1:=HD hp1;replace hk1:=HD hk1;replace h1:=HD h1
  repeat refine kx ?_
  refine kst (And.intro (Xa b1 2) (Xe b1 2)) ?_;have hne:∀ r,r≠q1→(y1.setCell (th q1 2) (.int .i64 a)).heap[r]? = y1.heap[r]?:=fun r hr=>Xb hr;have hbx:=Xd (k:=2) (v:=.int .i64 a) b1;have hsz1:(y1.setCell (th q1 2) (.int .i64 a)).heap.size=y1.heap.size:=Xh _ _ _;generalize y1.setCell (th q1 2) (.int .i64 a)=z at hne hbx hsz1 ⊢;replace hbx:z.heap[q1]? = some (.cells #[.int .i64 0,.bool false,.int .i64 a] 93 (0,0)):=hbx
  repeat first|refine JG.done ?_|refine JG.inBlock ?_
  refine Ui (a:=⟨0,false,a⟩) _ _ _ _ _ _ _ _ _ _ _ _ _ _ _ _ _ _ _ _ _ _ _ _ _ _ _ _ _ _ _ _ _ _ _ _ _ _ hbx fun z' hz'=>?_;refine hback.out m1 C1 y0 z' col1 sh1 cells1 ⟨0,false,a⟩ (hturn.out _ _ _ _ _ _ _ _ _ h1.out hsz1 (fun r hr=>hne r hr) hz') (fun r h1 h2=>?_) (fun b hb=>?_)
  ·rw [hz',hne r h1];exact hp1.out r h2
  ·have hb1:b.block≠q1:=fun e=>by
    have h5:=hklt.out num b hb;have h6:=hq1.out
    omega
   exact (World.cell?_of_block (by rw [hz'];exact hne _ hb1)).trans (hk1.out b hb)
 ·have h:=hown.out
  unfold YZ at h;rw [if_neg (by decide),if_pos rfl] at h;have s0:=hsb.out _ _ _ _ h.I;replace h:=HD h
  repeat refine kx ?_
  refine kf (args:=#[P0 ib,P0 tb]) Try.func40 ?_;refine XfL f hn2 hnc hix hC.out h.out (hup.out _ fun C x h=>JG.raise rfl Try.func35 h) ?_;intro m1 C1 y0 y1 col1 sh1 cells1 a ia h1 hp1 hk1;rw [Frame.finish_at];walk_nrm;have b1:=(hp1 q1 (.inr (.inr rfl))).trans w1;replace hp1:=HD hp1;replace hk1:=HD hk1;replace h1:=HD h1
  repeat refine kx ?_
  refine kst (And.intro (Xa b1 0) (Xe b1 0)) ?_;have hne:∀ r,r≠q1→(y1.setCell (th q1 0) (.int .i64 a)).heap[r]? = y1.heap[r]?:=fun r hr=>Xb hr;have hbx:=Xd (k:=0) (v:=.int .i64 a) b1;have hsz1:(y1.setCell (th q1 0) (.int .i64 a)).heap.size=y1.heap.size:=Xh _ _ _;generalize y1.setCell (th q1 0) (.int .i64 a)=z0 at hne hbx hsz1 ⊢;replace hbx:z0.heap[q1]? = some (.cells #[.int .i64 a,.bool false,.int .i64 0] 93 (0,0)):=hbx
  repeat refine kx ?_
  refine kst (And.intro (Xa hbx 1) (Xe hbx 1)) ?_;have hne2:∀ r,r≠q1→(z0.setCell (th q1 1) (.bool ia)).heap[r]? = y1.heap[r]?:=fun r hr=>(Xb hr).trans (hne r hr);have hbx2:=Xd (k:=1) (v:=.bool ia) hbx;have hsz2:(z0.setCell (th q1 1) (.bool ia)).heap.size=y1.heap.size:=(Xh _ _ _).trans hsz1;clear hne hbx hsz1;generalize z0.setCell (th q1 1) (.bool ia)=z at hne2 hbx2 hsz2 ⊢;replace hbx2:z.heap[q1]? = some (.cells #[.int .i64 a,.bool ia,.int .i64 0] 93 (0,0)):=hbx2
  repeat first|refine JG.done ?_|refine JG.inBlock ?_
  refine Ui (a:=⟨a,ia,0⟩) _ _ _ _ _ _ _ _ _ _ _ _ _ _ _ _ _ _ _ _ _ _ _ _ _ _ _ _ _ _ _ _ _ _ _ _ _ _ hbx2 fun z' hz'=>?_;refine hback.out m1 C1 y0 z' col1 sh1 cells1 ⟨a,ia,0⟩ (hturn.out _ _ _ _ _ _ _ _ _ h1.out hsz2 (fun r hr=>hne2 r hr) hz') (fun r h1 h2=>?_) (fun b hb=>?_)
  ·rw [hz',hne2 r h1];exact hp1.out r h2
  ·have hb1:b.block≠q1:=fun e=>by
    have h5:=hklt.out num b hb;have h6:=hq1.out
    omega
   exact (World.cell?_of_block (by rw [hz'];exact hne2 _ hb1)).trans (hk1.out b hb)
 ·have h:=hown.out
  unfold YZ at h;rw [if_neg (by decide),if_neg (by decide),if_pos rfl] at h;have s0:=hsb.out _ _ _ _ h.I;replace h:=HD h
  repeat refine kx ?_
  refine kf (args:=#[P0 ib,P0 tb]) Try.func43 ?_;refine Xgt hnc hC.out h.out (hup.out _ fun C x h=>JG.raise rfl Try.func35 h) ?_;intro m1 C1 y0 y1 col1 sh1 cells1 a h1 hp1 hk1;rw [Frame.finish_at];walk_nrm;have b1:=(hp1 q1 (.inr (.inr rfl))).trans w1;replace hp1:=HD hp1;replace hk1:=HD hk1;replace h1:=HD h1
  repeat refine kx ?_
  refine kst (And.intro (Xa b1 0) (Xe b1 0)) ?_;have hne:∀ r,r≠q1→(y1.setCell (th q1 0) (.int .i64 a)).heap[r]? = y1.heap[r]?:=fun r hr=>Xb hr;have hbx:=Xd (k:=0) (v:=.int .i64 a) b1;have hsz1:(y1.setCell (th q1 0) (.int .i64 a)).heap.size=y1.heap.size:=Xh _ _ _;generalize y1.setCell (th q1 0) (.int .i64 a)=z at hne hbx hsz1 ⊢;replace hbx:z.heap[q1]? = some (.cells #[.int .i64 a,.bool false,.int .i64 0] 93 (0,0)):=hbx
  repeat first|refine JG.done ?_|refine JG.inBlock ?_
  refine Ui (a:=⟨a,false,0⟩) _ _ _ _ _ _ _ _ _ _ _ _ _ _ _ _ _ _ _ _ _ _ _ _ _ _ _ _ _ _ _ _ _ _ _ _ _ _ hbx fun z' hz'=>?_;refine hback.out m1 C1 y0 z' col1 sh1 cells1 ⟨a,false,0⟩ (hturn.out _ _ _ _ _ _ _ _ _ h1.out hsz1 (fun r hr=>hne r hr) hz') (fun r h1 h2=>?_) (fun b hb=>?_)
  ·rw [hz',hne r h1];exact hp1.out r h2
  ·have hb1:b.block≠q1:=fun e=>by
    have h5:=hklt.out num b hb;have h6:=hq1.out
    omega
   exact (World.cell?_of_block (by rw [hz'];exact hne _ hb1)).trans (hk1.out b hb)
 ·have h:=hown.out
  unfold YZ at h;rw [if_neg n0,if_neg n1,if_neg n2] at h;dsimp only [Xm.into] at h;replace h:=HD h;have d0:(o == 0)=false:=by simpa using n0
  have d1:(o == 1)=false:=by simpa using n1
  have d2:(o == 2)=false:=by simpa using n2
  clear n0 n1 n2;replace d1:=HD d1;replace d2:=HD d2;rw [d0]
  repeat refine kx ?_
  rw [d1.out]
  repeat refine kx ?_
  rw [d2.out]
  repeat first|refine JG.condF rfl ?_|refine JG.skip ?_|refine JG.done ?_|refine JG.inBlock ?_
  refine Ui (a:=⟨0,false,0⟩) _ _ _ _ _ _ _ _ _ _ _ _ _ _ _ _ _ _ _ _ _ _ _ _ _ _ _ _ _ _ _ _ _ _ _ _ _ _ w1 fun z' hz'=>?_;refine hback.out m C x0 z' col sh cells ⟨0,false,0⟩ (h.out.up ⟨by rw [hz'];exact Nat.le_refl _,fun r _=>by rw [hz']⟩) (fun r _ _=>by rw [hz']) (fun b hb=>World.cell?_of_block (by rw [hz']))
end
structure Enc.OK {α:Type} (E:Enc α):Prop where
 under:Try.prog.underlying E.ts=some (.slice E.e)
 info:∃ (z:Value) (bs:Nat),(Try.prog.info? E.e).map (fun i=>(i.zero,i.size,i.bytes))=some (some z,E.size,bs)∧z.cells.size=E.size∧bs≤128
 pos:0 < E.size
 len:∀ a,(E.cells a).length=E.size
 one:∀ a u,u∈E.cells a→u.oneCell'=true
section
variable {α:Type} {E:Enc α} {w0:World} {Kp:Nat→Prop} {gt n:Nat} {A:Nat→Nat} {nc j:Nat}
abbrev Yw (E:Enc α) (F:XV (Nat→List α)) (w0:World) (Kp:Nat→Prop) (gt n:Nat) (A:Nat→Nat) (nc:Nat) (inj:∀ a b,a < nc→b < nc→A a=A b→a=b) (hgt:gt < w0.heap.size) (hA:∀ i,i < nc→A i < w0.heap.size∧gt≠A i):Zv (Nat→List α) :=
 Xed A nc inj (V3 E w0 Kp gt n A nc hgt hA) F (Xbb E w0 Kp gt n A nc hgt hA)
variable {F:XV (Nat→List α)} {Post:Value→World→Prop} {tb rb m k:Nat} {cb:Frame} {C:Ctx} {x0 x y:World} {col Pv:Nat→Prop} {sh:Nat→List α} {cells:Nat→Int} {inj:∀ a b,a < nc→b < nc→A a=A b→a=b} {hgt:gt < w0.heap.size} {hA:∀ i,i < nc→A i < w0.heap.size∧gt≠A i} {p:Xx (Nat→List α) Unit}
theorem XfK (hE:E.OK) (hj:j < n) (hm:k < 1000000) {v:α} {B:Nat} {hv:Value} (hb:TSt Post (Yw E F w0 Kp gt n A nc inj hgt hA) j tb rb cb m C x0 y col Pv sh cells (.act (Zw j v) fun _=>p)) (hnum:(sh j).length=k) (h8:y.cell? (th gt j)=some hv) (hBk:y.heap[B]? = some (.cells (E.cells v).toArray E.e (0,0))) (τ:Nat→Question→Nat) (d:Nat) :
 ∃ u y',(Builtin.append_ #[E.ts,E.ts] E.ts #[hv,.slice (some ⟨B,0,none⟩) 1 1]).run Try.prog (under y τ d)=.ok u y'∧y.heap.size≤y'.heap.size∧(∀ r,r < w0.heap.size→y'.heap[r]? = y.heap[r]?)∧(∀ r,r < y.heap.size→(¬ ∃ g,hv.ownBlock=some g∧r=g)→y'.heap[r]? = y.heap[r]?)∧y'.frozen? (th gt j)=false∧(∃ a l c,u=.slice a l c) ∧
  TSt Post (Yw E F w0 Kp gt n A nc inj hgt hA) j tb rb cb m C x0 (y'.setCell (th gt j) u) col Pv (Zw j v sh) cells p∧(Zw j v sh j).length=k + 1:=by
 obtain ⟨hIc,hI1,hI2,hI3,hd,hr⟩:=hb.I;have hdj:hd j=hv:=OI ((hr.cell hj).symm.trans h8);have hrow:=hr.row j hj;rw [hdj] at hrow;obtain ⟨z,bs,hif,hzs,hbs⟩:=hE.info;obtain ⟨i0,hi0,hz0,hz1,hz2⟩:=XM hif;have hlt:∀ r,(col r∨Pv r)→r < y.heap.size:=fun r h=>h.elim (hb.lt r) fun h=>(hb.pv r h).1;have hby:(k + 1) * bs≤140737488355328:=Nat.le_trans (Nat.mul_le_mul (show k + 1≤1000000 by omega) hbs) (by decide);obtain ⟨g,cap,y',e1,e2,e3,e4,e5⟩:=run_append_lies (P:=Try.prog) (under y τ d) E.ts E.ts w0.heap.size E.e i0 _ E.size bs hE.under hi0 hz0 hz1 hz2 hzs hE.pos hv _ _ hrow ⟨B,0,none⟩ 1 1 (E.cells v) (by rw [hE.len];omega) (World.news_of_block (cs:=(E.cells v).toArray) (t:=E.e) (fr:=(0,0)) hBk) (fun u hu=>hE.one v u hu) (by omega) (by rw [hnum];unfold maxLen;omega) (by rw [hnum];exact hby) hI1 _ rfl;have hgb:∀ r,r < y.heap.size→(¬ ∃ g,hv.ownBlock=some g∧r=g)→y'.heap[r]? = y.heap[r]?:=fun r h1 h2=>e3.block r h1 fun e=>h2 ⟨r,e.symm,rfl⟩;have hlow:∀ r,r < w0.heap.size→y'.heap[r]? = y.heap[r]?:=fun r h1=>hgb r (Nat.lt_of_lt_of_le h1 hI1) fun ⟨g,h2,h3⟩=>by have:=Za hrow h2;omega
 have hfree:∀ r,(col r∨Pv r)→¬ ∃ g,hv.ownBlock=some g∧r=g:=fun r h1 ⟨g,h2,h3⟩=>by subst h3;exact hr.free j hj r (hdj ▸ h2) h1
 have hsz:y.heap.size≤y'.heap.size:=e3.size;have hne2:∀ r,(col r∨Pv r)→r≠gt:=fun r h e=>hI3 (e ▸ h);have hset:∀ r,(col r∨Pv r)→(y'.setCell (th gt j) (.slice (some ⟨g,0,none⟩) ((sh j).length + 1) cap)).heap[r]? = y.heap[r]?:=fun r h=>(Xb (hne2 r h)).trans (hgb r (hlt r h) (hfree r h));have hlen:(Zw j v sh j).length=k + 1:=by unfold Zw;rw [upd_same,List.length_append,hnum];rfl
 refine ⟨_,y',e1,hsz,hlow,hgb,?_,⟨_,_,_,rfl⟩,⟨hb.d,?_,hb.mine,fun r h=>by rw [Xh];exact Nat.lt_of_lt_of_le (hb.lt r h) hsz,fun r h=>by rw [Xh];exact ⟨Nat.lt_of_lt_of_le (hb.pv r h).1 hsz,(hb.pv r h).2⟩,⟨fun i hi=>?_,?_⟩,?_,?_,?_,fun i a h=>?_,hb.reach⟩,hlen⟩
 ·rw [show y'.frozen? (th gt j)=y.frozen? (th gt j) from World.frozen?_of_block (hlow gt hgt)]
  exact Xe hr.head j
 ·have hblk:=hset tb (.inl hb.mine)
  exact ⟨(World.cell?_of_block hblk).trans hb.lives.1,(World.cell?_of_block hblk).trans hb.lives.2.1,hb.lives.2.2⟩
 ·obtain ⟨q1,q2⟩:=hIc i hi
  exact ⟨((Xb (fun e=>(hA i hi).2 e.symm)).trans (hlow _ (hA i hi).1)).trans q1,q2⟩
 ·refine ⟨by rw [Xh];exact Nat.le_trans hI1 hsz,fun r q1 q2 q3 q4=>?_,hI3,_,hr.tell hgt hI1 hlt hj (a:=v) (g:=g) (cap:=cap) (y:=y') ?_ ?_ ?_⟩
  ·obtain ⟨p1,p2⟩:=hI2 r q1 q2 q3 q4
   exact ⟨p1,((Xb q3).trans (hlow r q1)).trans p2⟩
  ·exact e2
  ·rw [hdj];exact e3.block
  ·rw [hdj];exact e4
 ·rw [Xh];exact Nat.le_trans hb.size hsz
 ·exact fun r h=>(hset r (.inl h)).trans (hb.old r h)
 ·intro i a h1 h2
  rw [← hb.keep i a h1 h2];obtain ⟨h3,rfl⟩:=h2;have hx:(y'.setCell (th gt j) (.slice (some ⟨g,0,none⟩) ((sh j).length + 1) cap)).cell? (th gt i)=y'.cell? (th gt i):=by
   rw [World.cell?_setCell_other];exact fun e=>h1 (by simpa [th] using (congrArg Addr.off e).symm)
  rw [hx];exact World.cell?_of_block (hlow gt hgt)
 ·rw [Xh];exact Nat.lt_of_lt_of_le (hb.klt i a h) hsz
