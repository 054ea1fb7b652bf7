/- The latch's works under J. -/
import Derived.Test.YtdgfekplfipekaaVPlD
import Derived.Test.YtdgfekplfipekaaVLbB
set_option linter.all false
set_option maxRecDepth 100000
set_option maxHeartbeats 16000000
namespace Go.Proofs.Ytdgfekplfipekaa
open Go.Conc Go.RowKit
open Go.ConcN (upd upd_same upd_ne)
inductive Fuel {Sh α:Type}:Nat→Xx Sh α→Prop
 | ret (n:Nat) (a:α):Fuel n (.ret a)
 | fall (n:Nat):Fuel n .fall
 | acc0 {r:Ask} {k:Told→Xx Sh α}:Fuel 0 (.acc r k)
 | acc {n:Nat} {r:Ask} {k:Told→Xx Sh α} (hk:∀ a,Fuel n (k a)):Fuel (n + 1) (.acc r k)
 | act {n:Nat} {f:Sh→Sh} {k:Sh→Xx Sh α} (hk:∀ s,Fuel n (k s)):Fuel n (.act f k)
section
variable {Sh α:Type}
theorem Fuel.less:∀ {p:Xx Sh α} {n:Nat},Fuel (n + 1) p→Fuel n p
 | .ret a,n,h=>.ret n a
 | .fall,n,h=>.fall n
 | .out,n,h=>by cases h
 | .acc r k,0,h=>.acc0
 | .acc r k,n + 1,h=>by
  cases h with
  | acc hk=>exact .acc fun a=>(hk a).less
 | .act f k,n,h=>by
  cases h with
  | act hk=>exact .act fun s=>(hk s).less
theorem Fuel.pass:∀ {p:Xx Sh α} {n:Nat},Fuel n p→∀ s,Fuel n (p.pass s).2
 | .ret a,n,h,s=>h
 | .fall,n,h,s=>h
 | .out,n,h,s=>h
 | .acc r k,n,h,s=>h
 | .act f k,n,h,s=>by
  cases h with
  | act hk=>simp only [Xx.pass];exact Fuel.pass (hk s) (f s)
def XV.fuel (Sh:Type):XV Sh where
 f:=fun m P=>∀ j,j < P.n→Fuel m (P.progs j)
 out:=fun h j hj e=>by have:=h j hj;rw [e] at this;cases this
 less:=fun h j hj=>(h j hj).less
 st:=fun _ _ h=>h
 turn:=fun {m P q} h hq j hj=>by
  obtain ⟨h1,h2⟩:=List.mem_filter.1 hq;have hqn:=List.mem_range.1 h1;unfold Xp.can at h2;cases hp:P.progs q with
  | acc r k =>
   rw [Xp.turn_acc hp] at hj ⊢;show Fuel m (upd P.progs q _ j)
   by_cases e:j=q
   ·subst e
    rw [upd_same]
    have:=h j hj
    rw [hp] at this;cases this with
    | acc hk=>exact (hk _).pass _
   ·rw [upd_ne _ _ e];exact (h j hj).less
  | ret a=>rw [hp] at h2;simp [Xx.req] at h2
  | fall=>rw [hp] at h2;simp [Xx.req] at h2
  | out=>rw [hp] at h2;simp [Xx.req] at h2
  | act f k=>rw [hp] at h2;simp [Xx.req] at h2
theorem XV.fuel_start:∀ (l:List (Xx Sh Unit)) (P:Xp Sh) (m:Nat),(∀ p∈l,Fuel m p)→(XV.fuel Sh).f m P→(XV.fuel Sh).f m (P.start l)
 | [],P,m,_,h=>h
 | p::l,P,m,hl,h=>by
  refine XV.fuel_start l _ m (fun q hq=>hl q (List.mem_cons_of_mem _ hq)) fun j hj=>?_;show Fuel m (upd P.progs P.n (p.pass P.st.sh).2 j)
  by_cases e:j=P.n
  ·subst e;rw [upd_same];exact (hl p List.mem_cons_self).pass _
  ·rw [upd_ne _ _ e]
   replace hj:j < P.n + 1:=hj;exact h j (by omega)
inductive Doing.Fuel:Nat→Doing α→Prop
 | ret (n:Nat) (a:α):Fuel n (.ret a)
 | acc0 {r:Ask} {k:Told→Doing α}:Fuel 0 (.acc r k)
 | acc {n:Nat} {r:Ask} {k:Told→Doing α} (hk:∀ a,Fuel n (k a)):Fuel (n + 1) (.acc r k)
theorem Doing.Fuel.into {g:α→Xx Sh Unit}:∀ {c:Doing α} {n:Nat},c.Fuel n→(∀ a,Go.Proofs.Ytdgfekplfipekaa.Fuel n (g a))→Go.Proofs.Ytdgfekplfipekaa.Fuel n (c.into g)
 | .ret a,n,_,hg=>hg a
 | .out,n,h,_=>by cases h
 | .acc r k,0,h,hg=>.acc0
 | .acc r k,n + 1,h,hg=>by
  cases h with
  | acc hk=>exact .acc fun a=>(hk a).into fun b=>(hg b).less
theorem Doing.Fuel.less:∀ {c:Doing α} {n:Nat},c.Fuel (n + 1)→c.Fuel n
 | .ret a,n,h=>.ret n a
 | .out,n,h=>by cases h
 | .acc r k,0,h=>.acc0
 | .acc r k,n + 1,h=>by
  cases h with
  | acc hk=>exact .acc fun a=>(hk a).less
theorem Doing.NoOut.fuel:∀ {c:Doing α} (n:Nat),c.NoOut→c.Fuel n
 | .ret a,n,_=>.ret n a
 | .acc r k,0,_=>.acc0
 | .acc r k,n + 1,h=>by
  cases h with
  | acc hk=>exact .acc fun a=>(hk a).fuel n
end
set_option maxRecDepth 100000
section
variable {Post:Value→World→Prop} {C:Ctx} {x:World} {c:Frame} {cs:List Frame} {l s:Nat} {v n k:Int}
theorem down_J (hl:x.cell? (th l 0)=some (P0 s)) (hs:Xr x s v) (h1:decide (k < 1)=false) (h2:decide (v < k)=false) (hne:l≠s)
 (h:∀ y,But s x y→Xr y s (IntKind.i64.wrap (v - k))→JG Try.prog Post C (G (c.finish (.int .i64 0)) cs) y) :
 JG Try.prog Post C (G (Frame.enter Try.prog 22 #[P0 l,.pointer none,.int .i64 k] .normal) (c::cs)) x:=by
 refine Xu Try.func22 (by rfl) (by rfl) ?_;simp only [Try.f22,Option.getD_some];walk_nrm
 repeat refine kx ?_
 refine JG.scope ?_
 repeat refine kx ?_
 refine kf (args:=#[P0 s,.pointer none]) Try.func13 ?_;refine UG hs ?_;rw [Frame.finish_at]
 try walk_nrm
 repeat refine kx ?_
 refine kf (args:=#[P0 s,.pointer none,.int .i64 v,.int .i64 (IntKind.i64.wrap (v - k))]) Try.func28 ?_;refine XgA hs ?_;rw [if_pos rfl,decide_eq_true rfl,Frame.finish_at];walk_nrm
 repeat refine kx ?_
 refine JG.ret ?_;exact JG.leave rfl rfl Try.func22 (fun τ d=>results_tmp (t:=6) rfl _ _ _) (h _ (But.set _ _ _ _) hs.set)
theorem wait_J (hl:x.cell? (th l 0)=some (P0 s)) (hs:Xr x s 0) (h:JG Try.prog Post C (G (c.finish (.int .i64 0)) cs) x) :
 JG Try.prog Post C (G (Frame.enter Try.prog 24 #[P0 l,.pointer none] .normal) (c::cs)) x:=by
 refine Xu Try.func24 (by rfl) (by rfl) ?_;simp only [Try.f24,Option.getD_some];walk_nrm
 repeat refine kx ?_
 refine JG.scope ?_
 repeat refine kx ?_
 refine kf (args:=#[P0 s,.pointer none]) Try.func13 ?_;refine UG hs ?_;rw [Frame.finish_at]
 try walk_nrm
 repeat refine kx ?_
 refine JG.ret ?_;exact JG.leave rfl rfl Try.func24 (fun τ d=>results_tmp (t:=4) rfl _ _ _) h
theorem lkLock_J (hl:x.cell? (th l 0)=some (P0 s)) (hs:Xr x s 0) (h:∀ y,But s x y→Xr y s 1→JG Try.prog Post C (G (c.finish (.int .i64 0)) cs) y) :
 JG Try.prog Post C (G (Frame.enter Try.prog 12 #[P0 l,.pointer none] .normal) (c::cs)) x:=by
 refine Xu Try.func12 (by rfl) (by rfl) ?_;simp only [Try.f12,Option.getD_some];walk_nrm
 repeat refine kx ?_
 refine JG.scope ?_
 repeat refine kx ?_
 refine kf (args:=#[P0 s,.pointer none,.int .i64 0,.int .i64 1]) Try.func28 ?_;refine XgA hs ?_;rw [if_pos rfl,decide_eq_true rfl,Frame.finish_at];walk_nrm
 repeat refine kx ?_
 refine JG.ret ?_;exact JG.leave rfl rfl Try.func12 (fun τ d=>results_tmp (t:=4) rfl _ _ _) (h _ (But.set _ _ _ _) hs.set)
theorem lkTry_J (hl:x.cell? (th l 0)=some (P0 s)) (hs:Xr x s 0) (h:∀ y,But s x y→Xr y s 1→JG Try.prog Post C (G (c.finish (.bool true)) cs) y) :
 JG Try.prog Post C (G (Frame.enter Try.prog 11 #[P0 l,.pointer none] .normal) (c::cs)) x:=by
 refine Xu Try.func11 (by rfl) (by rfl) ?_;simp only [Try.f11,Option.getD_some];walk_nrm
 repeat refine kx ?_
 refine kf (args:=#[P0 s,.pointer none,.int .i64 0,.int .i64 1]) Try.func28 ?_;refine XgA hs ?_;rw [if_pos rfl,decide_eq_true rfl,Frame.finish_at];walk_nrm
 repeat refine kx ?_
 refine JG.ret ?_;exact JG.leave rfl rfl Try.func11 (fun τ d=>results_tmp (t:=4) rfl _ _ _) (h _ (But.set _ _ _ _) hs.set)
theorem lkTryF_J (hl:x.cell? (th l 0)=some (P0 s)) (hs:Xr x s 1) (h:JG Try.prog Post C (G (c.finish (.bool false)) cs) x) :
 JG Try.prog Post C (G (Frame.enter Try.prog 11 #[P0 l,.pointer none] .normal) (c::cs)) x:=by
 refine Xu Try.func11 (by rfl) (by rfl) ?_;simp only [Try.f11,Option.getD_some];walk_nrm
 repeat refine kx ?_
 refine kf (args:=#[P0 s,.pointer none,.int .i64 0,.int .i64 1]) Try.func28 ?_;refine XgA hs ?_;rw [if_neg (by decide),decide_eq_false (by decide),Frame.finish_at];walk_nrm
 repeat refine kx ?_
 refine JG.ret ?_;exact JG.leave rfl rfl Try.func11 (fun τ d=>results_tmp (t:=4) rfl _ _ _) h
theorem lkUnlock_J (hl:x.cell? (th l 0)=some (P0 s)) (hs:Xr x s 1) (h:∀ y,But s x y→Xr y s 0→JG Try.prog Post C (G (c.finish (.int .i64 0)) cs) y) :
 JG Try.prog Post C (G (Frame.enter Try.prog 15 #[P0 l,.pointer none] .normal) (c::cs)) x:=by
 refine Xu Try.func15 (by rfl) (by rfl) ?_;simp only [Try.f15,Option.getD_some];walk_nrm
 repeat refine kx ?_
 refine kf (args:=#[P0 s,.pointer none,.int .i64 0]) Try.func29 ?_;refine swap_J hs ?_;rw [Frame.finish_at];walk_nrm
 repeat refine kx ?_
 refine JG.ret ?_;exact JG.leave rfl rfl Try.func15 (fun τ d=>results_tmp (t:=4) rfl _ _ _) (h _ (But.set _ _ _ _) hs.set)
end
theorem results_tmp3 {fn:Func} {t u w:Tmp} (h:fn.results=#[.tmp t,.tmp u,.tmp w]) (tmps:Array Value) (P:Program) (y:World):(results fn tmps).run P y=.ok (.tuple #[tmps.getD t undef,tmps.getD u undef,tmps.getD w undef]) y:=by
 simp [results,h]
section
variable {Post:Value→World→Prop} {C:Ctx} {x:World} {c:Frame} {cs:List Frame} {b s t:Nat} {v:Int}
theorem arrive_J (hb:x.heap[b]? = some (.cells #[.int .i64 1,P0 s,P0 t] 96 (0,0))) (hs:Xr x s v) (ht:Xr x t 0) (n1:b≠s) (n2:b≠t) (n3:s≠t)
 (h:∀ y,y.heap.size=x.heap.size→(∀ r,r≠s→r≠t→y.heap[r]? = x.heap[r]?)→Xr y s (wrap64 (v + 1))→Xr y t 0→JG Try.prog Post C (G (c.finish (.tuple #[.int .i64 v,.bool true,.int .i64 0])) cs) y) :
 JG Try.prog Post C (G (Frame.enter Try.prog 19 #[P0 b,.pointer none] .normal) (c::cs)) x:=by
 refine Xu Try.func19 (by rfl) (by rfl) ?_;simp only [Try.f19,Option.getD_some];walk_nrm;have b0:x.cell? (th b 0)=some (.int .i64 1):=Xa hb 0;have b1:x.cell? (th b 1)=some (P0 s):=Xa hb 1;have b2:x.cell? (th b 2)=some (P0 t):=Xa hb 2
 repeat refine kx ?_
 refine kf (args:=#[P0 s,.pointer none]) Try.func13 ?_;refine UG hs ?_;rw [Frame.finish_at]
 try walk_nrm
 repeat refine kx ?_
 have k0:(x.setCell (th t 0) (.int .i64 1)).cell? (th b 0)=some (.int .i64 1):=Xi (by simp [th,n2]) b0;have k1:(x.setCell (th t 0) (.int .i64 1)).cell? (th b 1)=some (P0 s):=Xi (by simp [th,n2]) b1;have k2:(x.setCell (th t 0) (.int .i64 1)).cell? (th b 2)=some (P0 t):=Xi (by simp [th,n2]) b2;refine JG.drawCalls (fun i=>if i=6 then some 0 else none) (fun _=>.int .i64 1) (fun k y=>if k=0 then y=x else y=x.setCell (th t 0) (.int .i64 1)) 1 (by kernel_rfl) (by kernel_rfl) (by decide) rfl ?_;apply Exists.intro;apply And.intro
 ·intro k hk y hy
  have hk':k=0∨k=1:=by omega
  rcases hk' with rfl|rfl
  ·rw [show y=x from hy]
   repeat first|(refine Vb.rd (by rfl) (fun K hK τ d=>?_);go_simp;refine hK _ ?_;clear hK K τ d)|(refine Vb.rd (by rfl) (fun K hK τ d=>?_);have hfact:=uc τ d (b0);go_simp;refine hK _ ?_;clear hfact hK K τ d)|(refine Vb.rd (by rfl) (fun K hK τ d=>?_);have hfact:=uc τ d (b1);go_simp;refine hK _ ?_;clear hfact hK K τ d)|(refine Vb.rd (by rfl) (fun K hK τ d=>?_);have hfact:=uc τ d (b2);go_simp;refine hK _ ?_;clear hfact hK K τ d)
   refine Vb.cl (by rfl) (fun _=>⟨39,#[P0 t,.pointer none,.int .i64 1],fun w=>?_,fun w=>?_,fun c hc=>?_⟩) ?_
   iterate 2 (focus obtain ⟨fn, h1, h2, h3⟩ : Yb 39 := ⟨_, Try.func39, by kernel_rfl, by kernel_rfl⟩; have h4 : ¬ fn.name = "runtime.NumGoroutine" := (by simpa using h2); have h5 : ¬ fn.body = none := (by intro e; rw [e] at h3; cases h3); simp [go_sem, execOp, Act.eval, resolve, Deferred.ofValue, invoke, callFunc, h1, h4, h5])
   ·refine add_J ht ?_
    rw [show wrap64 (0 + 1)=1 from by decide +kernel];exact hc _ rfl
   repeat first|(refine Vb.rd (by rfl) (fun K hK τ d=>?_);go_simp;refine hK _ ?_;clear hK K τ d)|(refine Vb.rd (by rfl) (fun K hK τ d=>?_);have hfact:=uc τ d (b0);go_simp;refine hK _ ?_;clear hfact hK K τ d)|(refine Vb.rd (by rfl) (fun K hK τ d=>?_);have hfact:=uc τ d (b1);go_simp;refine hK _ ?_;clear hfact hK K τ d)|(refine Vb.rd (by rfl) (fun K hK τ d=>?_);have hfact:=uc τ d (b2);go_simp;refine hK _ ?_;clear hfact hK K τ d)
   exact rfl
  ·rw [show y=x.setCell (th t 0) (.int .i64 1) from hy]
   repeat first|(refine Vb.rd (by rfl) (fun K hK τ d=>?_);go_simp;refine hK _ ?_;clear hK K τ d)|(refine Vb.rd (by rfl) (fun K hK τ d=>?_);have hfact:=uc τ d (k0);go_simp;refine hK _ ?_;clear hfact hK K τ d)|(refine Vb.rd (by rfl) (fun K hK τ d=>?_);have hfact:=uc τ d (k1);go_simp;refine hK _ ?_;clear hfact hK K τ d)|(refine Vb.rd (by rfl) (fun K hK τ d=>?_);have hfact:=uc τ d (k2);go_simp;refine hK _ ?_;clear hfact hK K τ d)
   refine Vb.cl (by rfl) (fun h=>by cases h) ?_
   repeat first|(refine Vb.rd (by rfl) (fun K hK τ d=>?_);go_simp;refine hK _ ?_;clear hK K τ d)|(refine Vb.rd (by rfl) (fun K hK τ d=>?_);have hfact:=uc τ d (k0);go_simp;refine hK _ ?_;clear hfact hK K τ d)|(refine Vb.rd (by rfl) (fun K hK τ d=>?_);have hfact:=uc τ d (k1);go_simp;refine hK _ ?_;clear hfact hK K τ d)|(refine Vb.rd (by rfl) (fun K hK τ d=>?_);have hfact:=uc τ d (k2);go_simp;refine hK _ ?_;clear hfact hK K τ d)
   exact rfl
 ·intro y hy
  rw [show y=x.setCell (th t 0) (.int .i64 1) from hy];clear b0 b1 b2 hy y;have ht1:Xr (x.setCell (th t 0) (.int .i64 1)) t 1:=ht.set;have hs1:Xr (x.setCell (th t 0) (.int .i64 1)) s v:=hs.set_ne n3;obtain ⟨y,hy⟩:∃ y,y=x.setCell (th t 0) (.int .i64 1):=⟨_,rfl⟩
  rw [← hy] at k0 k1 k2 ht1 hs1 ⊢;have q1:y.heap.size=x.heap.size:=by rw [hy,Xh]
  have q2:∀ r,r≠t→y.heap[r]? = x.heap[r]?:=fun r hr=>by rw [hy,Xb hr]
  clear hy
  try walk_nrm
  repeat refine kx ?_
  refine kf (args:=#[P0 t,.pointer none,.int .i64 0]) Try.func14 ?_;refine store_J ht1 ?_;rw [Frame.finish_at]
  try walk_nrm
  have m1:(y.setCell (th t 0) (.int .i64 0)).cell? (th b 1)=some (P0 s):=Xi (by simp [th,n2]) k1;have hs2:Xr (y.setCell (th t 0) (.int .i64 0)) s v:=hs1.set_ne n3;have ht2:Xr (y.setCell (th t 0) (.int .i64 0)) t 0:=ht1.set
  repeat refine kx ?_
  refine kf (args:=#[P0 s,.pointer none,.int .i64 1]) Try.func39 ?_;refine add_J hs2 ?_;rw [Frame.finish_at]
  try walk_nrm
  repeat refine kx ?_
  refine JG.ret ?_;exact JG.leave rfl rfl Try.func19 (fun τ d=>results_tmp3 (t:=4) (u:=5) (w:=6) rfl _ _ _) (h _ (by rw [Xh,Xh,q1]) (fun r h1 h2=>by rw [Xb h1,Xb h2,q2 r h2]) hs2.set (ht2.set_ne (fun e=>n3 e.symm)))
end
theorem free_lt {x:World} {b:Nat} {v:Int} (h:Xr x b v):b < x.heap.size:=Xt (a:=th b 0) h.v
section
variable {Post:Value→World→Prop} {C:Ctx} {x:World} {c:Frame} {cs:List Frame} {n:Int}
theorem latchNew_R (hn:decide (n < 0)=false) (h:∀ y l s,Xg x y→x.heap.size≤s→x.heap.size≤l→l≠s→Xr y s n→y.cell? (th l 0)=some (P0 s)→JG Try.prog Post C (G (c.finish (.tuple #[P0 l,.int .i64 0])) cs) y) :
 JG Try.prog Post C (G (Frame.enter Try.prog 20 #[.int .i64 n] .normal) (c::cs)) x :=
 latchNew_J hn fun y o f hl=>h y _ _ o (Nat.le_refl _) (Nat.le_succ _) (by omega) f hl
theorem newLock_R (h:∀ y l s,Xg x y→x.heap.size≤s→x.heap.size≤l→l≠s→Xr y s 0→y.cell? (th l 0)=some (P0 s)→JG Try.prog Post C (G (c.finish (P0 l)) cs) y) :
 JG Try.prog Post C (G (Frame.enter Try.prog 8 #[] .normal) (c::cs)) x :=
 newLock_J fun y o f hl=>h y _ _ o (Nat.le_refl _) (Nat.le_succ _) (by omega) f hl
theorem barrierNew_R (hn:decide (n < 1)=false) (h:∀ y b s t,Xg x y→x.heap.size≤s→x.heap.size≤t→x.heap.size≤b→b≠s→b≠t→s≠t→Xr y s 0→Xr y t 0→y.heap[b]? = some (.cells #[.int .i64 n,P0 s,P0 t] 96 (0,0))→JG Try.prog Post C (G (c.finish (.tuple #[P0 b,.int .i64 0])) cs) y) :
 JG Try.prog Post C (G (Frame.enter Try.prog 17 #[.int .i64 n] .normal) (c::cs)) x :=
 barrierNew_J hn fun y o f g hb=>h y _ _ _ o (Nat.le_refl _) (by omega) (by omega) (by omega) (by omega) (by omega) f g hb
theorem works5_J (h:∀ y,Xg x y→JG Try.prog Post C (G (c.finish (.bool true)) cs) y) :
 JG Try.prog Post C (G (Frame.enter Try.prog 6 #[] .normal) (c::cs)) x:=by
 refine Xu Try.func6 (by rfl) (by rfl) ?_;simp only [Try.f6,Option.getD_some];walk_nrm
 repeat refine kx ?_
 refine kf (args:=#[.int .i64 2]) Try.func20 ?_;refine latchNew_R (by decide) fun y1 l s o1 a1 a2 a3 fs hl=>?_;rw [Frame.finish_at];walk_nrm
 repeat refine kx ?_
 refine kf (args:=#[]) Try.func8 ?_;refine newLock_R fun y2 k t o2 b1 b2 b3 ft hk=>?_;rw [Frame.finish_at];walk_nrm;have c1:=free_lt fs;have c2:l < y1.heap.size:=Xt hl;replace fs:=o2.free fs;replace hl:=o2.cell hl;replace o1:=o1.trans o2;have c3:=o2.1;clear o2
 repeat refine kx ?_
 refine kf (args:=#[.int .i64 1]) Try.func17 ?_;refine barrierNew_R (by decide) fun y3 b p q o3 d1 d2 d3 d4 d5 d6 fp fq hb=>?_;rw [Frame.finish_at];walk_nrm;have c4:=free_lt ft;have c5:k < y2.heap.size:=Xt hk;have c6:=o1.1;replace fs:=o3.free fs;replace hl:=o3.cell hl;replace ft:=o3.free ft;replace hk:=o3.cell hk;replace o1:=o1.trans o3;clear o3
 repeat refine kx ?_
 refine kf (args:=#[P0 b,.pointer none]) Try.func19 ?_;refine arrive_J hb fp fq d4 d5 d6 fun y4 e1 e2 fp1 fq1=>?_;rw [Frame.finish_at];walk_nrm;rw [show wrap64 (0 + 1)=1 from by decide +kernel] at fp1;have hb1:=(e2 b d4 d5).trans hb;have old:Xg y3 y4→True:=fun _=>trivial;have k1:∀ r v,r≠p→r≠q→Xr y3 r v→Xr y4 r v:=fun r v h1 h2 hf=>⟨(World.cell?_of_block (e2 r h1 h2)).trans hf.v,(World.cell?_of_block (e2 r h1 h2)).trans hf.made,(World.cell?_of_block (e2 r h1 h2)).trans hf.mu,(World.cell?_of_block (e2 r h1 h2)).trans hf.ch,fun j=>by have:=hf.fr j;unfold World.frozen? at this ⊢;rw [show y4.heap[(th r j).block]? = y3.heap[(th r j).block]? from e2 r h1 h2];exact this⟩
 replace fs:=k1 s _ (by omega) (by omega) fs;replace ft:=k1 t _ (by omega) (by omega) ft;replace hl:=(World.cell?_of_block (a:=th l 0) (e2 l (by omega) (by omega))).trans hl;replace hk:=(World.cell?_of_block (a:=th k 0) (e2 k (by omega) (by omega))).trans hk;replace o1:Xg x y4:=⟨by rw [e1];exact o1.1,fun r hr=>(e2 r (by omega) (by omega)).trans (o1.2 r hr)⟩
 clear k1 old e1 e2 hb fp fq
 repeat refine kx ?_
 refine kf (args:=#[P0 b,.pointer none]) Try.func19 ?_;refine arrive_J hb1 fp1 fq1 d4 d5 d6 fun y5 e1 e2 fp2 fq2=>?_;rw [Frame.finish_at];walk_nrm;have k1:∀ r v,r≠p→r≠q→Xr y4 r v→Xr y5 r v:=fun r v h1 h2 hf=>⟨(World.cell?_of_block (e2 r h1 h2)).trans hf.v,(World.cell?_of_block (e2 r h1 h2)).trans hf.made,(World.cell?_of_block (e2 r h1 h2)).trans hf.mu,(World.cell?_of_block (e2 r h1 h2)).trans hf.ch,fun j=>by have:=hf.fr j;unfold World.frozen? at this ⊢;rw [show y5.heap[(th r j).block]? = y4.heap[(th r j).block]? from e2 r h1 h2];exact this⟩
 replace fs:=k1 s _ (by omega) (by omega) fs;replace ft:=k1 t _ (by omega) (by omega) ft;replace hl:=(World.cell?_of_block (a:=th l 0) (e2 l (by omega) (by omega))).trans hl;replace hk:=(World.cell?_of_block (a:=th k 0) (e2 k (by omega) (by omega))).trans hk;replace o1:Xg x y5:=⟨by rw [e1];exact o1.1,fun r hr=>(e2 r (by omega) (by omega)).trans (o1.2 r hr)⟩
 clear k1 e1 e2 hb1 fp1 fq1 fp2 fq2
 repeat refine kx ?_
 refine kf (args:=#[P0 l,.pointer none,.int .i64 2]) Try.func22 ?_;refine down_J hl fs (by decide) (by decide) a3 fun y6 q1 fs1=>?_;rw [Frame.finish_at];walk_nrm;rw [show IntKind.i64.wrap (2 - 2)=0 from by decide +kernel] at fs1;replace hl:=(q1.cell (p:=th l 0) a3).trans hl;replace hk:=(q1.cell (p:=th k 0) (show k≠s by omega)).trans hk;replace ft:=q1.free (show t≠s by omega) ft;replace o1:=o1.but q1 a1;clear q1 fs
 repeat refine kx ?_
 refine kf (args:=#[P0 l,.pointer none]) Try.func24 ?_;refine wait_J hl fs1 ?_;rw [Frame.finish_at];walk_nrm
 repeat refine kx ?_
 refine kf (args:=#[P0 k,.pointer none]) Try.func12 ?_;refine lkLock_J hk ft fun y7 q1 ft1=>?_;rw [Frame.finish_at];walk_nrm;replace hk:=(q1.cell (p:=th k 0) b3).trans hk;replace o1:=o1.but q1 (by omega);clear q1 ft fs1 hl
 repeat refine kx ?_
 refine kf (args:=#[P0 k,.pointer none]) Try.func11 ?_;refine lkTryF_J hk ft1 ?_;rw [Frame.finish_at];walk_nrm
 repeat refine kx ?_
 refine kf (args:=#[P0 k,.pointer none]) Try.func15 ?_;refine lkUnlock_J hk ft1 fun y8 q1 ft=>?_;rw [Frame.finish_at];walk_nrm;replace hk:=(q1.cell (p:=th k 0) b3).trans hk;replace o1:=o1.but q1 (by omega);clear q1 ft1
 repeat refine kx ?_
 refine kf (args:=#[P0 k,.pointer none]) Try.func11 ?_;refine lkTry_J hk ft fun y9 q1 ft1=>?_;rw [Frame.finish_at];walk_nrm;replace o1:=o1.but q1 (by omega)
 repeat refine kx ?_
 refine JG.ret ?_;exact JG.leave rfl rfl Try.func6 (fun τ d=>results_tmp (t:=0) rfl _ _ _) (h _ o1)
