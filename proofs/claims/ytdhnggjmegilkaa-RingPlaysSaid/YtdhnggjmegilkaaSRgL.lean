/- The ring document's put along a run's record. Conditions: the walker stands in the midst of that call. -/
import Derived.Test.YtdhnggjmegilkaaSCpQ
import Derived.Test.YtdhnggjmegilkaaSRwA
import Derived.Test.YtdhnggjmegilkaaSRwB
import Derived.Test.YtdhnggjmegilkaaSGtS
import Derived.Test.YtdhnggjmegilkaaSRgI
import Derived.Test.YtdhnggjmegilkaaSTkN
set_option linter.all false
set_option maxRecDepth 100000
set_option maxHeartbeats 16000000
namespace Go.Proofs.Ytdhnggjmegilkaa
open Go.Conc Go.RowKit
set_option maxRecDepth 100000
def nmR (i:Nat):Nm:=if i=0 then (60,0) else if i=1 then (61,0) else if i % 2=0 then (62,((i - 2) / 2:Nat)) else (63,((i - 3) / 2:Nat))
theorem XaP (k:Nat):nmR (2 + 2 * k)=(62,(k:Int)):=by
 unfold nmR;rw [if_neg (by omega),if_neg (by omega),if_pos (by omega)]
 congr 2
 omega
theorem XaQ (k:Nat):nmR (3 + 2 * k)=(63,(k:Int)):=by
 unfold nmR;rw [if_neg (by omega),if_neg (by omega),if_neg (by omega)]
 congr 2
 omega
theorem Xfe:∀ a b:Nat,nmR a=nmR b→a=b:=by
 intro a b h;unfold nmR at h;have key:∀ {x y u v:Int},((x,y):Int × Int)=(u,v)→x=u∧y=v:=fun h=>by simpa using h
 split at h<;>split at h<;>(try split at h)<;>(try split at h)<;>(try split at h)<;>(try split at h)<;>first|omega|(obtain ⟨h1,h2⟩:=key h;omega)
theorem Xbc (p:Int) (n:Nat) (hn:0 < n):(p.tmod n < 0→p.tmod n + n=p % n)∧(¬ p.tmod n < 0→p.tmod n=p % n):=by
 have h:=@Int.tmod_eq_emod p n;have b1:=Int.emod_nonneg p (show (n:Int)≠0 by omega);have b2:=Int.emod_lt_of_pos p (show (0:Int) < n by omega);rw [Int.natAbs_natCast] at h
 split at h<;>constructor<;>intro h2<;>omega
theorem Vk (n:Nat) (fr p:Int) (hn:2≤n) (hn2:n≤4096) (w:World):Calls Try.prog 140 #[.agg #[.int .i64 n,.int .i64 fr],.int .i64 p] w (fun e w'=>e=.returned (.int .i64 (p % n))∧Xg w w'):=by
 obtain ⟨t1,t2⟩:=Xbc p n (by omega);have hn0:¬ n=0:=by omega
 have b1:=Int.emod_nonneg p (show (n:Int)≠0 by omega);have b2:=Int.emod_lt_of_pos p (show (0:Int) < n by omega)
 by_cases hp:p.tmod n < 0
 ·have t:=t1 hp
  have d1:decide (p.tmod n < 0)=true:=by simpa using hp
  have hw:IntKind.i64.wrap (p.tmod n + n)=p % n:=by rw [t,IntKind.wrap_i64];omega
  have hw1:IntKind.i64.wrap (p.tmod n)=p.tmod n:=by rw [IntKind.wrap_i64];omega
  have hw2:IntKind.i64.wrap (p % n)=p % n:=by rw [IntKind.wrap_i64];omega
  clear t1 t2 t b1 b2 hp
  go_enter Try.func140,Try.ntmps140
  go_wp2_with fail
  go_ret;exact ⟨rfl,(Xg.refl w).alloc _⟩
 ·have t:=t2 hp
  have d1:decide (p.tmod n < 0)=false:=by simpa using hp
  have hw1:IntKind.i64.wrap (p.tmod n)=p.tmod n:=by rw [IntKind.wrap_i64];omega
  clear t1 t2 b1 b2 hp;replace t:=HD t
  go_enter Try.func140,Try.ntmps140
  go_wp2_with fail
  go_ret;exact ⟨by rw [← t.out];rfl,(Xg.refl w).alloc _⟩
theorem XbU (n:Nat) (fr p:Int) (hn:2≤n) (hn2:n≤4096) (w:World):Calls Try.prog 106 #[.agg #[.int .i64 n,.int .i64 fr],.int .i64 p] w (fun e w'=>e=.returned (nmV (62,p % n))∧Xg w w'):=by
 go_enter Try.func106,Try.ntmps106
 go_upto_region 1 with (fail)
 have ho:=((Xg.refl w).alloc (.cells #[.int .i64 n,.int .i64 fr] 84)).alloc (.cells #[.int .i64 0,.int .i64 0] 51);have hm:Blk ((w.alloc (.cells #[.int .i64 n,.int .i64 fr] 84)).alloc (.cells #[.int .i64 0,.int .i64 0] 51)) w.heap.size 84 #[.int .i64 n,.int .i64 fr]:=(Blk.new w _ _).alloc _;have hq:Blk ((w.alloc (.cells #[.int .i64 n,.int .i64 fr] 84)).alloc (.cells #[.int .i64 0,.int .i64 0] 51)) (w.heap.size + 1) 51 #[.int .i64 0,.int .i64 0]:=heap_alloc2_new _ _ _;generalize (w.alloc (.cells #[.int .i64 n,.int .i64 fr] 84)).alloc (.cells #[.int .i64 0,.int .i64 0] 51)=w1 at ho hm hq ⊢;obtain ⟨qb,hqb⟩:∃ q,q=w.heap.size + 1:=⟨_,rfl⟩
 have hge:w.heap.size≤qb:=by omega
 rw [← hqb] at hq ⊢;clear hqb;generalize hpb:w.heap.size=pb at hm hge ⊢;have m0:w1.cell? ⟨pb,0,none⟩=some (.int .i64 n):=Blk.cell hm 0;have m1:w1.cell? ⟨pb,1,none⟩=some (.int .i64 fr):=Blk.cell hm 1;have hml:=Blk.lt hm;replace hpb:=HD hpb;replace ho:=HD ho;replace hm:=HD hm;replace hq:=HD hq;replace hge:=HD hge
 go_upto_region 1 with (fail)
 go_wp2_with (go_at_call 140;go_must (refine (Vk n fr p hn hn2 _).mono ?_);rintro e w2 ⟨rfl,h2⟩;have hq2:=(h2.2 qb (Blk.lt hq.out)).trans hq.out;have q0:w2.cell? ⟨qb,0,none⟩=some (.int .i64 0):=Blk.cell hq2 0;have q1:w2.cell? ⟨qb,1,none⟩=some (.int .i64 0):=Blk.cell hq2 1;have f0:w2.frozen? ⟨qb,0,none⟩=false:=Lib.frozen_of_heap hq2 0;have f1:w2.frozen? ⟨qb,1,none⟩=false:=Lib.frozen_of_heap hq2 1;have hql:=Blk.lt hq2;replace h2:=HD h2;replace hq2:=HD hq2)
 refine bodyPost_ret (results_cell_row rfl _ _ qb 51 _ (0,0) _ rfl (Xd (Xd hq2.out)) Try.underlying51 rfl (by kernel_rfl)) rfl ⟨rfl,((ho.out.trans h2.out).setNew (by rw [hpb.out];exact hge.out)).setNew (by rw [hpb.out];exact hge.out)⟩
theorem Xb4 (n:Nat) (fr p:Int) (hn:2≤n) (hn2:n≤4096) (w:World):Calls Try.prog 141 #[.agg #[.int .i64 n,.int .i64 fr],.int .i64 p] w (fun e w'=>e=.returned (nmV (63,p % n))∧Xg w w'):=by
 go_enter Try.func141,Try.ntmps141
 go_upto_region 1 with (fail)
 have ho:=((Xg.refl w).alloc (.cells #[.int .i64 n,.int .i64 fr] 84)).alloc (.cells #[.int .i64 0,.int .i64 0] 51);have hm:Blk ((w.alloc (.cells #[.int .i64 n,.int .i64 fr] 84)).alloc (.cells #[.int .i64 0,.int .i64 0] 51)) w.heap.size 84 #[.int .i64 n,.int .i64 fr]:=(Blk.new w _ _).alloc _;have hq:Blk ((w.alloc (.cells #[.int .i64 n,.int .i64 fr] 84)).alloc (.cells #[.int .i64 0,.int .i64 0] 51)) (w.heap.size + 1) 51 #[.int .i64 0,.int .i64 0]:=heap_alloc2_new _ _ _;generalize (w.alloc (.cells #[.int .i64 n,.int .i64 fr] 84)).alloc (.cells #[.int .i64 0,.int .i64 0] 51)=w1 at ho hm hq ⊢;obtain ⟨qb,hqb⟩:∃ q,q=w.heap.size + 1:=⟨_,rfl⟩
 have hge:w.heap.size≤qb:=by omega
 rw [← hqb] at hq ⊢;clear hqb;generalize hpb:w.heap.size=pb at hm hge ⊢;have m0:w1.cell? ⟨pb,0,none⟩=some (.int .i64 n):=Blk.cell hm 0;have m1:w1.cell? ⟨pb,1,none⟩=some (.int .i64 fr):=Blk.cell hm 1;have hml:=Blk.lt hm;replace hpb:=HD hpb;replace ho:=HD ho;replace hm:=HD hm;replace hq:=HD hq;replace hge:=HD hge
 go_upto_region 1 with (fail)
 go_wp2_with (go_at_call 140;go_must (refine (Vk n fr p hn hn2 _).mono ?_);rintro e w2 ⟨rfl,h2⟩;have hq2:=(h2.2 qb (Blk.lt hq.out)).trans hq.out;have q0:w2.cell? ⟨qb,0,none⟩=some (.int .i64 0):=Blk.cell hq2 0;have q1:w2.cell? ⟨qb,1,none⟩=some (.int .i64 0):=Blk.cell hq2 1;have f0:w2.frozen? ⟨qb,0,none⟩=false:=Lib.frozen_of_heap hq2 0;have f1:w2.frozen? ⟨qb,1,none⟩=false:=Lib.frozen_of_heap hq2 1;have hql:=Blk.lt hq2;replace h2:=HD h2;replace hq2:=HD hq2)
 refine bodyPost_ret (results_cell_row rfl _ _ qb 51 _ (0,0) _ rfl (Xd (Xd hq2.out)) Try.underlying51 rfl (by kernel_rfl)) rfl ⟨rfl,((ho.out.trans h2.out).setNew (by rw [hpb.out];exact hge.out)).setNew (by rw [hpb.out];exact hge.out)⟩
theorem Xfm (w:World):Calls Try.prog 104 #[] w (fun e w'=>e=.returned (nmV (60,0))∧Xg w w'):=by
 go_enter Try.func104,Try.ntmps104
 go_wp2_with fail
 refine bodyPost_ret (results_cell_row rfl _ _ w.heap.size 51 _ (0,0) _ rfl (heap_alloc_new _ _) Try.underlying51 rfl (by kernel_rfl)) rfl ⟨rfl,(Xg.refl w).alloc _⟩
theorem XdS (w:World):Calls Try.prog 105 #[] w (fun e w'=>e=.returned (nmV (61,0))∧Xg w w'):=by
 go_enter Try.func105,Try.ntmps105
 go_wp2_with fail
 refine bodyPost_ret (results_cell_row rfl _ _ w.heap.size 51 _ (0,0) _ rfl (heap_alloc_new _ _) Try.underlying51 rfl (by kernel_rfl)) rfl ⟨rfl,(Xg.refl w).alloc _⟩
noncomputable def Xco:List FuncId:=[104,105,140,106,141]
theorem Uh (S:YK):Closed Try.prog S (FX Xco):=Xat S (by kernel_rfl)
section
variable {Post:Value→World→Prop} {C:Ctx} {x:World} {c:Frame} {cs:List Frame}
theorem Xd0 (h:∀ y,Xg x y→JG Try.prog Post C (G (c.finish (nmV (60,0))) cs) y):JG Try.prog Post C (G (Frame.enter Try.prog 104 #[] .normal) (c::cs)) x:=by
 refine JG.calls (F:=FX Xco) (Q:=fun u y=>u=(nmV (60,0))∧Xg x y) (Uh _) (by kernel_rfl) (fun τ=>?_) (fun u y hq=>?_)
 ·refine (Xfm (under x τ 0)).mono ?_
  rintro r y ⟨rfl,h2⟩;exact ⟨_,rfl,rfl,h2⟩
 ·obtain ⟨rfl,h1⟩:=hq
  exact h y h1
theorem XaK (h:∀ y,Xg x y→JG Try.prog Post C (G (c.finish (nmV (61,0))) cs) y):JG Try.prog Post C (G (Frame.enter Try.prog 105 #[] .normal) (c::cs)) x:=by
 refine JG.calls (F:=FX Xco) (Q:=fun u y=>u=(nmV (61,0))∧Xg x y) (Uh _) (by kernel_rfl) (fun τ=>?_) (fun u y hq=>?_)
 ·refine (XdS (under x τ 0)).mono ?_
  rintro r y ⟨rfl,h2⟩;exact ⟨_,rfl,rfl,h2⟩
 ·obtain ⟨rfl,h1⟩:=hq
  exact h y h1
theorem Ut {n:Nat} {fr p:Int} (hn:2≤n) (hn2:n≤4096) (h:∀ y,Xg x y→JG Try.prog Post C (G (c.finish (nmV (62,p % n))) cs) y):JG Try.prog Post C (G (Frame.enter Try.prog 106 #[.agg #[.int .i64 n,.int .i64 fr],.int .i64 p] .normal) (c::cs)) x:=by
 refine JG.calls (F:=FX Xco) (Q:=fun u y=>u=(nmV (62,p % n))∧Xg x y) (Uh _) (by kernel_rfl) (fun τ=>?_) (fun u y hq=>?_)
 ·refine (XbU n fr p hn hn2 (under x τ 0)).mono ?_
  rintro r y ⟨rfl,h2⟩;exact ⟨_,rfl,rfl,h2⟩
 ·obtain ⟨rfl,h1⟩:=hq
  exact h y h1
theorem Xb5 {n:Nat} {fr p:Int} (hn:2≤n) (hn2:n≤4096) (h:∀ y,Xg x y→JG Try.prog Post C (G (c.finish (nmV (63,p % n))) cs) y):JG Try.prog Post C (G (Frame.enter Try.prog 141 #[.agg #[.int .i64 n,.int .i64 fr],.int .i64 p] .normal) (c::cs)) x:=by
 refine JG.calls (F:=FX Xco) (Q:=fun u y=>u=(nmV (63,p % n))∧Xg x y) (Uh _) (by kernel_rfl) (fun τ=>?_) (fun u y hq=>?_)
 ·refine (Xb4 n fr p hn hn2 (under x τ 0)).mono ?_
  rintro r y ⟨rfl,h2⟩;exact ⟨_,rfl,rfl,h2⟩
 ·obtain ⟨rfl,h1⟩:=hq
  exact h y h1
end
section
variable {Post:Value→World→Prop} {C:Ctx} {x:World} {c:Frame} {cs:List Frame} {α:Type} {K:Wk} {nc:Nat} {gv0:List Bool} {xb j:Nat} {l:List (Xm α)} {T:List α} {out:Bool} {k:Told→Xm α}
theorem XA.trans {S:Nat→Prop} {x y z:World} (h:XA S x y) (h2:XA S y z):XA S x z:=⟨Nat.le_trans h.size h2.size,fun r hr hn=>(h2.block r (Nat.lt_of_lt_of_le hr h.size) hn).trans (h.block r hr hn)⟩
theorem Xg.turned {S:Nat→Prop} {x y:World} (h:Xg x y):XA S x y:=⟨h.1,fun r hr _=>h.2 r hr⟩
theorem XA.heap {S:Nat→Prop} {x y:World} (h:XA S x y) {r:Nat} {o:Obj} (hr:x.heap[r]? = some o) (hn:¬ S r):y.heap[r]? = some o:=(h.block r (GE hr).1 hn).trans hr
theorem WS.ktl {d:Xm α} (h:WS K gv0 xb j l T out d x):∀ r,Yg K xb r→r < x.heap.size:=fun r hr=>by
 obtain ⟨gv,at',hW,_,_,_,_,h6,_⟩:=h.s;rcases hr with (e|e)|e
 ·exact own_lt hW.nms e.symm
 ·exact own_lt hW.gvn e.symm
 ·rw [e];exact Blk.lt h6
theorem Qe {i:Nat} {nmi:Nm} (hK:K.OK nc) (hn:K.nm i=nmi) (H:WS K gv0 xb j l T out (.acc ⟨1,i,0,0⟩ k) x) (hi:i < nc) (h:∀ y out' t,WS K gv0 xb j l T out' (k t) y→XA (Yg K xb) x y→(out=true→out'=true)→JG Try.prog Post C (G (c.finish (.int .i64 t.was)) cs) y) :
 JG Try.prog Post C (G (Frame.enter Try.prog 89 #[P0 xb,nmV nmi] .normal) (c::cs)) x:=by
 subst hn;refine JG.calls (F:=FX UY) (Q:=fun u y=>∃ out' t,u=.int .i64 t.was∧WS K gv0 xb j l T out' (k t) y∧XA (Yg K xb) x y∧(out=true→out'=true)) (Y8 _) (by kernel_rfl) (fun τ=>?_) (fun u y hq=>?_)
 ·refine (XdB (w:=under x τ 0) hK i (H.old ⟨Nat.le_refl _,fun _ _=>rfl⟩) hi).mono ?_
  rintro r y ⟨out',t,rfl,h1,h2,h3⟩;exact ⟨_,rfl,out',t,rfl,h1,h2.turned,h3⟩
 ·obtain ⟨out',t,rfl,h1,h2,h3⟩:=hq
  exact h y out' t h1 h2 h3
theorem Vw {i:Nat} {v:Int} {nmi:Nm} (hK:K.OK nc) (hn:K.nm i=nmi) (H:WS K gv0 xb j l T out (.acc ⟨2,i,v,0⟩ k) x) (hi:i < nc) (h:∀ y out' t,WS K gv0 xb j l T out' (k t) y→XA (Yg K xb) x y→(out=true→out'=true)→JG Try.prog Post C (G (c.finish (.tuple #[])) cs) y) :
 JG Try.prog Post C (G (Frame.enter Try.prog 90 #[P0 xb,nmV nmi,.int .i64 v] .normal) (c::cs)) x:=by
 subst hn;refine JG.calls (F:=FX UY) (Q:=fun u y=>∃ out' t,u=.tuple #[]∧WS K gv0 xb j l T out' (k t) y∧XA (Yg K xb) x y∧(out=true→out'=true)) (Y8 _) (by kernel_rfl) (fun τ=>?_) (fun u y hq=>?_)
 ·refine (XbR (w:=under x τ 0) hK i v (H.old ⟨Nat.le_refl _,fun _ _=>rfl⟩) hi).mono ?_
  rintro r y ⟨out',t,rfl,h1,h2,h3⟩;exact ⟨_,rfl,out',t,rfl,h1,h2.turned,h3⟩
 ·obtain ⟨out',t,rfl,h1,h2,h3⟩:=hq
  exact h y out' t h1 h2 h3
theorem Xep {i:Nat} {o n:Int} {nmi:Nm} (hK:K.OK nc) (hn:K.nm i=nmi) (H:WS K gv0 xb j l T out (.acc ⟨3,i,o,n⟩ k) x) (hi:i < nc) (h:∀ y out' t,WS K gv0 xb j l T out' (k t) y→XA (Yg K xb) x y→(out=true→out'=true)→JG Try.prog Post C (G (c.finish (.bool t.ok)) cs) y) :
 JG Try.prog Post C (G (Frame.enter Try.prog 91 #[P0 xb,nmV nmi,.int .i64 o,.int .i64 n] .normal) (c::cs)) x:=by
 subst hn;refine JG.calls (F:=FX UY) (Q:=fun u y=>∃ out' t,u=.bool t.ok∧WS K gv0 xb j l T out' (k t) y∧XA (Yg K xb) x y∧(out=true→out'=true)) (Y8 _) (by kernel_rfl) (fun τ=>?_) (fun u y hq=>?_)
 ·refine (XeF (w:=under x τ 0) hK i o n (H.old ⟨Nat.le_refl _,fun _ _=>rfl⟩) hi).mono ?_
  rintro r y ⟨out',t,rfl,h1,h2,h3⟩;exact ⟨_,rfl,out',t,rfl,h1,h2.turned,h3⟩
 ·obtain ⟨out',t,rfl,h1,h2,h3⟩:=hq
  exact h y out' t h1 h2 h3
end
def ZW (K:Wk) (xb q:Nat):Prop:=(q < K.B∨q=K.wb∨some q=K.vN.ownBlock∨some q=K.vG.ownBlock∨some q=K.v1.ownBlock∨some q=K.vH.ownBlock∨some q=K.vS.ownBlock)∨q=xb
theorem ZW.of {K:Wk} {xb q:Nat} (h:Yg K xb q):ZW K xb q:=by
 rcases h with (e|e)|e
 ·exact .inl (.inr (.inr (.inl e)))
 ·exact .inl (.inr (.inr (.inr (.inl e))))
 ·exact .inr e
section
variable {α:Type} {K:Wk} {gv0:List Bool} {xb j q:Nat} {l:List (Xm α)} {T:List α} {out:Bool} {d:Xm α} {x y:World}
theorem WS.own_lt (h:WS K gv0 xb j l T out d x) (hq:ZW K xb q):q < x.heap.size:=by
 obtain ⟨gv,at',hW,_,_,hB,_,h6,_⟩:=h.s;rcases hq with e|e
 ·exact hW.lt hB e
 ·rw [e];exact Blk.lt h6
theorem WS.frame (h:WS K gv0 xb j l T out d x) (hs:x.heap.size≤y.heap.size) (hy:∀ r,ZW K xb r→y.heap[r]? = x.heap[r]?):WS K gv0 xb j l T out d y:=by
 refine ⟨?_,h.t⟩;obtain ⟨gv,at',h1,h2,h3,h4,h5,h6,h7⟩:=h.s;exact ⟨gv,at',h1.frame fun r hr=>hy r (.inl hr),h2,h3,Nat.le_trans h4 hs,h5,(hy xb (.inr rfl)).trans h6,h7⟩
end
theorem W8 {y:World} {q:Nat} {a b c:Value} {t:TypeId} (A B D:Value) (h:y.heap[q]? = some (.cells #[a,b,c] t (0,0))):∃ z,z=((y.setCell ⟨q,0,none⟩ A).setCell ⟨q,1,none⟩ B).setCell ⟨q,2,none⟩ D∧z.heap[q]? = some (.cells #[A,B,D] t (0,0))∧(∀ r,r≠q→z.heap[r]? = y.heap[r]?)∧z.heap.size=y.heap.size :=
 ⟨_,rfl,Xd (k:=2) (v:=D) (Xd (k:=1) (v:=B) (Xd (k:=0) (v:=A) h)),fun r hr=>by rw [Xb hr,Xb hr,Xb hr],by rw [Xh,Xh,Xh]⟩
theorem XbO (a b:Int):IntKind.i64.wrap (a - IntKind.i64.wrap (b + 0))=IntKind.i64.wrap (a - b):=by
 rw [IntKind.wrap_i64,IntKind.wrap_i64,IntKind.wrap_i64];omega
structure RK (K:Wk) (nc n:Nat):Prop where
 ok:K.OK nc
 nm:K.nm=nmR
 nc_:nc=2 + 2 * n
 n2:2≤n
 n4:n≤4096
 ix:∀ p,ixZ n p=p % n
theorem RK.turn {K:Wk} {nc n:Nat} (R:RK K nc n) (p:Int):K.nm (2 + 2 * (ixZ n p).toNat)=(62,p % n)∧2 + 2 * (ixZ n p).toNat < nc:=by
 have b1:=Int.emod_nonneg p (show (n:Int)≠0 by have:=R.n2;omega);have b2:=Int.emod_lt_of_pos p (show (0:Int) < n by have:=R.n2;omega)
 have:=R.nc_
 refine ⟨?_,by rw [R.ix];omega⟩;rw [R.nm,XaP,R.ix]
 congr 1
 omega
theorem RK.slot {K:Wk} {nc n:Nat} (R:RK K nc n) (p:Int):K.nm (3 + 2 * (ixZ n p).toNat)=(63,p % n)∧3 + 2 * (ixZ n p).toNat < nc:=by
 have b1:=Int.emod_nonneg p (show (n:Int)≠0 by have:=R.n2;omega);have b2:=Int.emod_lt_of_pos p (show (0:Int) < n by have:=R.n2;omega)
 have:=R.nc_
 refine ⟨?_,by rw [R.ix];omega⟩;rw [R.nm,XaQ,R.ix]
 congr 1
 omega
theorem RK.nm0 {K:Wk} {nc n:Nat} (R:RK K nc n):K.nm 0=(60,0)∧0 < nc:=⟨by rw [R.nm];rfl,by have:=R.nc_;omega⟩
theorem RK.nm1 {K:Wk} {nc n:Nat} (R:RK K nc n):K.nm 1=(61,0)∧1 < nc:=⟨by rw [R.nm];rfl,by have:=R.nc_;omega⟩
section
variable {Post:Value→World→Prop} {C:Ctx} {x:World} {c:Frame} {cs:List Frame} {K:Wk} {nc n:Nat} {gv0:List Bool} {xb j:Nat} {l:List (Xm Ym)} {T:List Ym} {fr v:Int} {bm qa:Nat}
theorem XA.mono {S S':Nat→Prop} {x y:World} (h:XA S x y) (hS:∀ r,S r→S' r):XA S' x y:=⟨h.size,fun r hr hn=>h.block r hr fun e=>hn (hS r e)⟩
theorem XA.refl {S:Nat→Prop} {x:World}:XA S x x:=⟨Nat.le_refl _,fun _ _ _=>rfl⟩
def tkW (K:Wk) (gv0:List Bool) (xb j:Nat) (l:List (Xm Ym)) (T:List Ym) (x:World) (bm qa n:Nat) (fr p vv:Int) (C:Ctx) (y8:World) (out8:Bool):Nat→(Nat→Value)→Ctx→World→Prop
 | 0,_,C',y=>C'=C∧y=y8
 | 1,cv,C',y=>C'=C∧Xg y8 y∧cv 0=nmV (62,p % n)
 | _,cv,C',y=>C'=C∧XA (Yg K xb) y8 y∧∃ outa,WS K gv0 xb j l T outa (.ret ⟨vv,true,0⟩) y
theorem tkW.made {y y8:World} {out8:Bool} {p vv:Int} {s:Nat} {cv:Nat→Value} {C':Ctx} (hm:Blk y8 bm 84 #[.int .i64 n,.int .i64 fr]) (h:tkW K gv0 xb j l T x bm qa n fr p vv C y8 out8 s cv C' y) (hn:¬ Yg K xb bm):Blk y bm 84 #[.int .i64 n,.int .i64 fr]:=by
 match s,h with
 | 0,h=>rw [h.2];exact hm
 | 1,h=>exact (h.2.1.turned (S:=Yg K xb)).heap hm hn
 | _ + 2,h=>exact h.2.1.heap hm hn
end
section
variable {Post:Value→World→Prop} {C:Ctx} {x:World} {c:Frame} {cs:List Frame} {K:Wk} {nc n:Nat} {gv0:List Bool} {xb j:Nat} {l:List (Xm Ym)} {T:List Ym} {fr v:Int} {bm qa:Nat}
theorem Xbo {u3 u5:Value} (R:RK K nc n) (nb:¬ ZW K xb bm) (nq:¬ ZW K xb qa) (hbq:bm≠qa):∀ (f:Nat) (x:World) (out:Bool) (u7 u8 u9 B0 B1 B2 B3 B4 B5 B6 B7 B8 B9 D0 D1 D2 D3 D4 D5 D6 D7 D8 D9 E0 E1 E2 E3 E4 E5 E6 E7 E8 E9 G0 G1 G2 G3 G4 G5 G6 G7 G8 G9 H4 H5 H6 H7 H8 H9:Value),WS K gv0 xb j l T out (XfR n v f) x→Blk x bm 84 #[.int .i64 n,.int .i64 fr]→x.heap[qa]? = some (.cells #[.int .i64 0,.bool false,.int .i64 0] 93 (0,0)) →
 (∀ y out' a,WS K gv0 xb j l T out' (.ret a) y→XA (fun r=>Yg K xb r∨r=qa) x y→JG Try.prog Post C (G (c.finish (aV a)) cs) y) →
 JG Try.prog Post C (G ((base 107).at ⟨#[P0 xb,.agg #[.int .i64 n,.int .i64 fr],.int .i64 v,u3,P0 bm,u5,P0 qa,u7,u8,u9,B0,B1,B2,B3,B4,B5,B6,B7,B8,B9,D0,D1,D2,D3,D4,D5,D6,D7,D8,D9,E0,E1,E2,E3,E4,E5,E6,E7,E8,E9,G0,G1,G2,G3,G4,G5,G6,G7,G8,G9,H4,H5,H6,H7,H8,H9],[]⟩ [.code (Code.nav (Try.f107.body.getD .skip) [1,0,0,0]),.inLoop (Code.nav (Try.f107.body.getD .skip) [1,0,0,0]),.inBlock 0,.code (Code.nav (Try.f107.body.getD .skip) [1,1])]) (c::cs)) x:=by
 intro f
 induction f with
 | zero =>
  intro x out u7 u8 u9 B0 B1 B2 B3 B4 B5 B6 B7 B8 B9 D0 D1 D2 D3 D4 D5 D6 D7 D8 D9 E0 E1 E2 E3 E4 E5 E6 E7 E8 E9 G0 G1 G2 G3 G4 G5 G6 G7 G8 G9 H4 H5 H6 H7 H8 H9 hS hm hq h;cases out with
  | false=>exact absurd hS WS.no
  | true =>
   have yx:=hS.cell2;have nb:=HD nb;replace nq:=HD nq;replace h:=HD h;replace hS:=HD hS;replace hm:=HD hm;simp only [Try.f107,Option.getD_some,Code.nav]
   repeat refine kx ?_
   refine JG.exit (by rfl) ?_
   repeat refine kx ?_
   refine kst3 (hq) ?_;obtain ⟨z,hz0,hz1,hz2,hz3⟩:=W8 (.int .i64 (0)) (.bool false) (.int .i64 (0)) (hq);rw [← hz0];clear hz0;replace hz1:=HD hz1;replace hz2:=HD hz2;replace hz3:=HD hz3
   repeat refine kx ?_
   refine JG.ret ?_;exact JG.leave rfl rfl Try.func107 (fun τ d=>results_cell_row (p:=6) rfl _ _ qa _ _ _ _ rfl hz1.out Try.underlying93 rfl (by kernel_rfl)) (h.out z _ ⟨0,false,0⟩ ((hS.out.out_).frame (Nat.le_of_eq hz3.out.symm) fun r hr=>hz2.out r fun e=>nq.out (e ▸ hr)) (XA.refl.trans ⟨Nat.le_of_eq hz3.out.symm,fun r _ hr=>hz2.out r fun e=>hr (.inr e)⟩))
 | succ f ih =>
  intro x out u7 u8 u9 B0 B1 B2 B3 B4 B5 B6 B7 B8 B9 D0 D1 D2 D3 D4 D5 D6 D7 D8 D9 E0 E1 E2 E3 E4 E5 E6 E7 E8 E9 G0 G1 G2 G3 G4 G5 G6 G7 G8 G9 H4 H5 H6 H7 H8 H9 hS hm hq h;have yx:=hS.cell2;have nb:=HD nb;replace nq:=HD nq;cases out with
  | true =>
   replace h:=HD h;replace hS:=HD hS;replace hm:=HD hm;clear ih;simp only [Try.f107,Option.getD_some,Code.nav]
   repeat refine kx ?_
   refine JG.exit (by rfl) ?_
   repeat refine kx ?_
   refine kst3 (hq) ?_;obtain ⟨z,hz0,hz1,hz2,hz3⟩:=W8 (.int .i64 (0)) (.bool false) (.int .i64 (0)) (hq);rw [← hz0];clear hz0;replace hz1:=HD hz1;replace hz2:=HD hz2;replace hz3:=HD hz3
   repeat refine kx ?_
   refine JG.ret ?_;exact JG.leave rfl rfl Try.func107 (fun τ d=>results_cell_row (p:=6) rfl _ _ qa _ _ _ _ rfl hz1.out Try.underlying93 rfl (by kernel_rfl)) (h.out z _ ⟨0,false,0⟩ ((hS.out.out_).frame (Nat.le_of_eq hz3.out.symm) fun r hr=>hz2.out r fun e=>nq.out (e ▸ hr)) (XA.refl.trans ⟨Nat.le_of_eq hz3.out.symm,fun r _ hr=>hz2.out r fun e=>hr (.inr e)⟩))
  | false =>
   have IH:=HD ih;have HR:=HD R;replace h:=HD h;replace hS:=HD hS;replace hm:=HD hm;replace hq:=HD hq;replace hbq:=HD hbq;clear ih R;simp only [Try.f107,Option.getD_some,Code.nav]
   repeat refine kx ?_
   refine kf (args:=#[]) Try.func104 ?_;refine Xd0 fun y1 ho1=>?_;rw [Frame.finish_at];walk_nrm;clear yx;replace ho1:=HD ho1
   repeat refine kx ?_
   refine kf (args:=#[P0 xb,nmV (60,0)]) Try.func89 ?_;refine Qe HR.out.ok HR.out.nm0.1 (hS.out.old ho1.out) HR.out.nm0.2 fun y2 out2 t2 hS2 hu2 _=>?_;rw [Frame.finish_at];walk_nrm
   try dsimp only at hS2
   have hu2':XA (fun r=>Yg K xb r∨r=qa) x y2:=(ho1.out.turned.trans hu2).mono fun r h=>.inl h;have hm2:Blk y2 bm 84 #[.int .i64 n,.int .i64 fr]:=(ho1.out.turned.trans hu2).heap hm.out fun e=>nb.out (ZW.of e);have hq2:=(ho1.out.turned.trans hu2).heap hq.out fun e=>nq.out (ZW.of e);have m0:y2.cell? ⟨bm,0,none⟩=some (.int .i64 n):=Blk.cell hm2 0;have m1:y2.cell? ⟨bm,1,none⟩=some (.int .i64 fr):=Blk.cell hm2 1;generalize t2.was=p at *;clear hu2 hq hm hS ho1;replace hS2:=HD hS2;replace hu2':=HD hu2';replace hm2:=HD hm2;replace hq2:=HD hq2
   repeat refine kx ?_
   refine kf (args:=#[.agg #[.int .i64 n,.int .i64 fr],.int .i64 p]) Try.func106 ?_;refine Ut HR.out.n2 HR.out.n4 fun y3 ho3=>?_;rw [Frame.finish_at];walk_nrm;clear m0 m1;replace ho3:=HD ho3
   repeat refine kx ?_
   refine kf (args:=#[P0 xb,nmV (62,p % n)]) Try.func89 ?_;refine Qe HR.out.ok (HR.out.turn p).1 (hS2.out.old ho3.out) (HR.out.turn p).2 fun y4 out4 t4 hS4 hu4 _=>?_;rw [Frame.finish_at];walk_nrm
   try dsimp only at hS4
   have hu4':XA (fun r=>Yg K xb r∨r=qa) x y4:=hu2'.out.trans ((ho3.out.turned.trans hu4).mono fun r h=>.inl h);have hm4:Blk y4 bm 84 #[.int .i64 n,.int .i64 fr]:=(ho3.out.turned.trans hu4).heap hm2.out fun e=>nb.out (ZW.of e);have hq4:=(ho3.out.turned.trans hu4).heap hq2.out fun e=>nq.out (ZW.of e);generalize t4.was=t at *;clear hu4 hq2 hm2 hS2 ho3 hu2';rw [XbO] at hS4;obtain ⟨dd,hdd⟩:∃ dd,IntKind.i64.wrap (t - p)=dd:=⟨_,rfl⟩
   rw [hdd] at hS4;have yx:=hS4.cell2;have m0:y4.cell? ⟨bm,0,none⟩=some (.int .i64 n):=Blk.cell hm4 0;have m1:y4.cell? ⟨bm,1,none⟩=some (.int .i64 fr):=Blk.cell hm4 1;replace hu4':=HD hu4';replace hm4:=HD hm4;cases out4 with
   | true =>
    replace hS4:=HD hS4
    repeat refine kx ?_
    refine JG.exit (by rfl) ?_
    repeat refine kx ?_
    refine kst3 (hq4) ?_;obtain ⟨z,hz0,hz1,hz2,hz3⟩:=W8 (.int .i64 (0)) (.bool false) (.int .i64 (0)) (hq4);rw [← hz0];clear hz0;replace hz1:=HD hz1;replace hz2:=HD hz2;replace hz3:=HD hz3
    repeat refine kx ?_
    refine JG.ret ?_;exact JG.leave rfl rfl Try.func107 (fun τ d=>results_cell_row (p:=6) rfl _ _ qa _ _ _ _ rfl hz1.out Try.underlying93 rfl (by kernel_rfl)) (h.out z _ ⟨0,false,0⟩ ((hS4.out.out_).frame (Nat.le_of_eq hz3.out.symm) fun r hr=>hz2.out r fun e=>nq.out (e ▸ hr)) (hu4'.out.trans ⟨Nat.le_of_eq hz3.out.symm,fun r _ hr=>hz2.out r fun e=>hr (.inr e)⟩))
   | false =>
    by_cases d1:dd < 0
    ·have d0:¬ dd=0:=by omega
     rw [if_neg d0,if_pos d1] at hS4;have e1:decide (dd < 0)=true:=by simpa using d1
     replace hS4:=HD hS4;clear d0 d1
     repeat refine kx ?_
     refine kst3 (hq4) ?_;obtain ⟨z,hz0,hz1,hz2,hz3⟩:=W8 (.int .i64 (0)) (.bool false) (.int .i64 (12)) (hq4);rw [← hz0];clear hz0;replace hz1:=HD hz1;replace hz2:=HD hz2;replace hz3:=HD hz3
     repeat refine kx ?_
     refine JG.ret ?_;exact JG.leave rfl rfl Try.func107 (fun τ d=>results_cell_row (p:=6) rfl _ _ qa _ _ _ _ rfl hz1.out Try.underlying93 rfl (by kernel_rfl)) (h.out z _ ⟨0,false,12⟩ ((hS4.out).frame (Nat.le_of_eq hz3.out.symm) fun r hr=>hz2.out r fun e=>nq.out (e ▸ hr)) (hu4'.out.trans ⟨Nat.le_of_eq hz3.out.symm,fun r _ hr=>hz2.out r fun e=>hr (.inr e)⟩))
    ·by_cases d0:dd=0
     ·subst d0
      rw [if_pos rfl] at hS4;replace hq4:=HD hq4;replace hS4:=HD hS4;clear d1
      repeat refine kx ?_
      refine kf (args:=#[]) Try.func104 ?_;refine Xd0 fun y5 ho5=>?_;rw [Frame.finish_at];walk_nrm;replace ho5:=HD ho5;clear yx
      repeat refine kx ?_
      refine kf (args:=#[P0 xb,nmV (60,0),.int .i64 p,.int .i64 (IntKind.i64.wrap (p + 1))]) Try.func91 ?_;refine Xep HR.out.ok HR.out.nm0.1 (hS4.out.old ho5.out) HR.out.nm0.2 fun y6 out6 t6 hS6 hu6 _=>?_;rw [Frame.finish_at];walk_nrm
      try dsimp only at hS6
      have hu6':XA (fun r=>Yg K xb r∨r=qa) x y6:=hu4'.out.trans ((ho5.out.turned.trans hu6).mono fun r h=>.inl h);have hm6:Blk y6 bm 84 #[.int .i64 n,.int .i64 fr]:=(ho5.out.turned.trans hu6).heap hm4.out fun e=>nb.out (ZW.of e);have hq6:=(ho5.out.turned.trans hu6).heap hq4.out fun e=>nq.out (ZW.of e);clear m0 m1;have m0:y6.cell? ⟨bm,0,none⟩=some (.int .i64 n):=Blk.cell hm6 0;have m1:y6.cell? ⟨bm,1,none⟩=some (.int .i64 fr):=Blk.cell hm6 1;clear hu6 hq4 hm4 hS4 ho5 hu4';replace hu6':=HD hu6';replace hm6:=HD hm6;cases hok:t6.ok
      ·rw [hok,if_neg (by decide)] at hS6
       have IH':=IH.out y6 out6;simp only [Try.f107,Option.getD_some,Code.nav] at IH';replace IH':=HD IH';replace hS6:=HD hS6;replace hq6:=HD hq6
       repeat refine kx ?_
       refine JG.inLoop ?_;exact IH'.out _ _ _ _ _ _ _ _ _ _ _ _ _ _ _ _ _ _ _ _ _ _ _ _ _ _ _ _ _ _ _ _ _ _ _ _ _ _ _ _ _ _ _ _ _ _ _ _ _ hS6.out hm6.out hq6.out fun y out' a h1 h2=>h.out y out' a h1 (hu6'.out.trans h2)
      ·rw [hok,if_pos rfl] at hS6
       simp only [if_true] at hS6;replace hS6:=HD hS6;replace hq6:=HD hq6
       repeat refine kx ?_
       refine kf (args:=#[.agg #[.int .i64 n,.int .i64 fr],.int .i64 p]) Try.func141 ?_;refine Xb5 HR.out.n2 HR.out.n4 fun y7 ho7=>?_;rw [Frame.finish_at];walk_nrm;clear m0 m1;replace ho7:=HD ho7
       repeat refine kx ?_
       refine kf (args:=#[P0 xb,nmV (63,p % n),.int .i64 v]) Try.func90 ?_;refine Vw HR.out.ok (HR.out.slot p).1 (hS6.out.old ho7.out) (HR.out.slot p).2 fun y8 out8 t8 hS8 hu8 _=>?_;rw [Frame.finish_at];walk_nrm
       try dsimp only at hS8
       have hu8':XA (fun r=>Yg K xb r∨r=qa) x y8:=hu6'.out.trans ((ho7.out.turned.trans hu8).mono fun r h=>.inl h);have hm8:Blk y8 bm 84 #[.int .i64 n,.int .i64 fr]:=(ho7.out.turned.trans hu8).heap hm6.out fun e=>nb.out (ZW.of e);have hq8:=(ho7.out.turned.trans hu8).heap hq6.out fun e=>nq.out (ZW.of e);have m0:y8.cell? ⟨bm,0,none⟩=some (.int .i64 n):=Blk.cell hm8 0;have m1:y8.cell? ⟨bm,1,none⟩=some (.int .i64 fr):=Blk.cell hm8 1;clear hu8 hq6 hm6 hS6 ho7 hu6';replace hS8:=HD hS8;replace hu8':=HD hu8';replace hm8:=HD hm8;replace hq8:=HD hq8
       repeat refine kx ?_
       refine kf (args:=#[.agg #[.int .i64 n,.int .i64 fr],.int .i64 p]) Try.func106 ?_;refine Ut HR.out.n2 HR.out.n4 fun y9 ho9=>?_;rw [Frame.finish_at];walk_nrm;clear m0 m1;replace ho9:=HD ho9
       repeat refine kx ?_
       refine kf (args:=#[P0 xb,nmV (62,p % n),.int .i64 (IntKind.i64.wrap (p + 1))]) Try.func90 ?_;refine Vw HR.out.ok (HR.out.turn p).1 (hS8.out.old ho9.out) (HR.out.turn p).2 fun ya outa ta hSa hua _=>?_;rw [Frame.finish_at];walk_nrm
       try dsimp only at hSa
       have hua':XA (fun r=>Yg K xb r∨r=qa) x ya:=hu8'.out.trans ((ho9.out.turned.trans hua).mono fun r h=>.inl h);have hqa:=(ho9.out.turned.trans hua).heap hq8.out fun e=>nq.out (ZW.of e);clear hua hq8 hm8 hS8 ho9 hu8';replace hSa:=HD hSa;replace hua':=HD hua'
       repeat refine kx ?_
       refine kst3 (hqa) ?_;obtain ⟨z,hz0,hz1,hz2,hz3⟩:=W8 (.int .i64 (0)) (.bool false) (.int .i64 (0)) (hqa);rw [← hz0];clear hz0;replace hz1:=HD hz1;replace hz2:=HD hz2;replace hz3:=HD hz3
       repeat refine kx ?_
       refine JG.ret ?_;exact JG.leave rfl rfl Try.func107 (fun τ d=>results_cell_row (p:=6) rfl _ _ qa _ _ _ _ rfl hz1.out Try.underlying93 rfl (by kernel_rfl)) (h.out z _ ⟨0,false,0⟩ ((hSa.out).frame (Nat.le_of_eq hz3.out.symm) fun r hr=>hz2.out r fun e=>nq.out (e ▸ hr)) (hua'.out.trans ⟨Nat.le_of_eq hz3.out.symm,fun r _ hr=>hz2.out r fun e=>hr (.inr e)⟩))
     ·have e0:(dd == 0)=false:=by simpa using d0
      have e1:decide (dd < 0)=false:=by simpa using d1
      rw [if_neg d0,if_neg d1] at hS4;have IH':=IH.out y4 false;simp only [Try.f107,Option.getD_some,Code.nav] at IH';replace IH':=HD IH';replace hS4:=HD hS4;replace hq4:=HD hq4;clear d0 d1
      repeat refine kx ?_
      refine JG.inLoop ?_;exact IH'.out _ _ _ _ _ _ _ _ _ _ _ _ _ _ _ _ _ _ _ _ _ _ _ _ _ _ _ _ _ _ _ _ _ _ _ _ _ _ _ _ _ _ _ _ _ _ _ _ _ hS4.out hm4.out hq4.out fun y out' a h1 h2=>h.out y out' a h1 (hu4'.out.trans h2)
theorem Xe7 {out:Bool} (R:RK K nc n) (f:Nat) (hS:WS K gv0 xb j l T out (XfR n v f) x) (h:∀ y out' a,WS K gv0 xb j l T out' (.ret a) y→XA (Yg K xb) x y→JG Try.prog Post C (G (c.finish (aV a)) cs) y) :
 JG Try.prog Post C (G (Frame.enter Try.prog 107 #[P0 xb,.agg #[.int .i64 n,.int .i64 fr],.int .i64 v] .normal) (c::cs)) x:=by
 have hlt:∀ r,ZW K xb r→r < x.heap.size:=fun r hr=>hS.own_lt hr;replace hS:=HD hS;replace h:=HD h;replace hlt:=HD hlt;refine Xu Try.func107 (by rfl) (by rfl) ?_;simp only [Try.f107,Option.getD_some];walk_nrm
 repeat refine kx ?_
 refine ko fun K E hK hE τ d=>?_;go_simp;refine hK _ _ (jt (x:=x.alloc (.cells #[.int .i64 n,.int .i64 fr] 84)) ?_);simp only [Xs];clear hK hE K E τ d
 try walk_nrm
 refine ko fun K E hK hE τ d=>?_;go_simp;refine hK _ _ (jt (x:=(x.alloc (.cells #[.int .i64 n,.int .i64 fr] 84)).alloc (.cells #[.int .i64 0,.bool false,.int .i64 0] 93)) ?_);simp only [Xs];clear hK hE K E τ d
 try walk_nrm
 have hO:Xg x ((x.alloc (.cells #[.int .i64 n,.int .i64 fr] 84)).alloc (.cells #[.int .i64 0,.bool false,.int .i64 0] 93)):=((Xg.refl x).alloc _).alloc _;have w1:((x.alloc (.cells #[.int .i64 n,.int .i64 fr] 84)).alloc (.cells #[.int .i64 0,.bool false,.int .i64 0] 93)).heap[x.heap.size + 1]? = some (.cells #[.int .i64 0,.bool false,.int .i64 0] 93 (0,0)):=by
  have:=heap_alloc_new (x.alloc (.cells #[.int .i64 n,.int .i64 fr] 84)) (.cells #[.int .i64 0,.bool false,.int .i64 0] 93)
  rwa [Zf] at this
 have w0:Blk ((x.alloc (.cells #[.int .i64 n,.int .i64 fr] 84)).alloc (.cells #[.int .i64 0,.bool false,.int .i64 0] 93)) x.heap.size 84 #[.int .i64 n,.int .i64 fr]:=by
  exact (heap_alloc_old _ _ (by rw [Zf];omega)).trans (heap_alloc_new x _)
 rw [Zf];generalize ((x.alloc (.cells #[.int .i64 n,.int .i64 fr] 84)).alloc (.cells #[.int .i64 0,.bool false,.int .i64 0] 93))=y at hO w0 w1 ⊢;have hL:=@Xbo Post C c cs K nc n gv0 xb j l T fr v ;simp only [Try.f107,Option.getD_some,Code.nav] at hL;replace w0:=HD w0;replace w1:=HD w1;replace hO:=HD hO
 repeat refine kx ?_
 refine JG.loop ?_;refine hL R (fun e=>by have:=hlt.out _ e;omega) (fun e=>by have:=hlt.out _ e;omega) (by omega) f y out _ _ _ _ _ _ _ _ _ _ _ _ _ _ _ _ _ _ _ _ _ _ _ _ _ _ _ _ _ _ _ _ _ _ _ _ _ _ _ _ _ _ _ _ _ _ _ _ _ (hS.out.old hO.out) w0.out w1.out fun z out' a h1 h2=>h.out z out' a h1 ⟨Nat.le_trans hO.out.1 h2.size,fun r hr hk=>(h2.block r (Nat.lt_of_lt_of_le hr hO.out.1) fun e=>e.elim hk fun e=>by omega).trans (hO.out.2 r hr)⟩
