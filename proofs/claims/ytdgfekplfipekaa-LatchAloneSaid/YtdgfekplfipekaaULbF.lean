/- The latch's works under J. -/
import Derived.Test.YtdgfekplfipekaaULuE
import Derived.Test.YtdgfekplfipekaaULbB
set_option linter.all false
set_option maxRecDepth 100000
set_option maxHeartbeats 16000000
namespace Go.Proofs.Ytdgfekplfipekaa
open Go.Conc Go.RowKit
open Go.ConcN (upd upd_same upd_ne)
set_option maxRecDepth 100000
section
variable {Post:Value→World→Prop} {q:Lq} {num tb rb:Nat} {cb:Frame} {F:Nat}
end
section
variable {Post:Value→World→Prop} {C:Ctx} {x:World} {c:Frame} {cs:List Frame} {l s:Nat} {v n k:Int}
theorem down_J (hl:x.cell? (th l 0)=some (P0 s)) (hs:Xr x s v) (h1:decide (k < 1)=false) (h2:decide (v < k)=false) (hne:l≠s)
 (h:∀ y,But s x y→Xr y s (IntKind.i64.wrap (v - k))→JG Try.prog Post C (G (c.finish (.int .i64 0)) cs) y) :
 JG Try.prog Post C (G (Frame.enter Try.prog 22 #[P0 l,.pointer none,.int .i64 k] .normal) (c::cs)) x:=by
 refine Xu Try.func22 (by rfl) (by rfl) ?_;simp only [Try.f22,Option.getD_some];walk_nrm
 repeat refine kx ?_
 refine JG.scope ?_
 repeat refine kx ?_
 refine kf (args:=#[P0 s,.pointer none]) Try.func13 ?_;refine UG hs ?_;rw [Frame.finish_at]
 try walk_nrm
 repeat refine kx ?_
 refine kf (args:=#[P0 s,.pointer none,.int .i64 v,.int .i64 (IntKind.i64.wrap (v - k))]) Try.func28 ?_;refine XgA hs ?_;rw [if_pos rfl,decide_eq_true rfl,Frame.finish_at];walk_nrm
 repeat refine kx ?_
 refine JG.ret ?_;exact JG.leave rfl rfl Try.func22 (fun τ d=>results_tmp (t:=6) rfl _ _ _) (h _ (But.set _ _ _ _) hs.set)
theorem wait_J (hl:x.cell? (th l 0)=some (P0 s)) (hs:Xr x s 0) (h:JG Try.prog Post C (G (c.finish (.int .i64 0)) cs) x) :
 JG Try.prog Post C (G (Frame.enter Try.prog 24 #[P0 l,.pointer none] .normal) (c::cs)) x:=by
 refine Xu Try.func24 (by rfl) (by rfl) ?_;simp only [Try.f24,Option.getD_some];walk_nrm
 repeat refine kx ?_
 refine JG.scope ?_
 repeat refine kx ?_
 refine kf (args:=#[P0 s,.pointer none]) Try.func13 ?_;refine UG hs ?_;rw [Frame.finish_at]
 try walk_nrm
 repeat refine kx ?_
 refine JG.ret ?_;exact JG.leave rfl rfl Try.func24 (fun τ d=>results_tmp (t:=4) rfl _ _ _) h
theorem lkLock_J (hl:x.cell? (th l 0)=some (P0 s)) (hs:Xr x s 0) (h:∀ y,But s x y→Xr y s 1→JG Try.prog Post C (G (c.finish (.int .i64 0)) cs) y) :
 JG Try.prog Post C (G (Frame.enter Try.prog 12 #[P0 l,.pointer none] .normal) (c::cs)) x:=by
 refine Xu Try.func12 (by rfl) (by rfl) ?_;simp only [Try.f12,Option.getD_some];walk_nrm
 repeat refine kx ?_
 refine JG.scope ?_
 repeat refine kx ?_
 refine kf (args:=#[P0 s,.pointer none,.int .i64 0,.int .i64 1]) Try.func28 ?_;refine XgA hs ?_;rw [if_pos rfl,decide_eq_true rfl,Frame.finish_at];walk_nrm
 repeat refine kx ?_
 refine JG.ret ?_;exact JG.leave rfl rfl Try.func12 (fun τ d=>results_tmp (t:=4) rfl _ _ _) (h _ (But.set _ _ _ _) hs.set)
theorem lkTry_J (hl:x.cell? (th l 0)=some (P0 s)) (hs:Xr x s 0) (h:∀ y,But s x y→Xr y s 1→JG Try.prog Post C (G (c.finish (.bool true)) cs) y) :
 JG Try.prog Post C (G (Frame.enter Try.prog 11 #[P0 l,.pointer none] .normal) (c::cs)) x:=by
 refine Xu Try.func11 (by rfl) (by rfl) ?_;simp only [Try.f11,Option.getD_some];walk_nrm
 repeat refine kx ?_
 refine kf (args:=#[P0 s,.pointer none,.int .i64 0,.int .i64 1]) Try.func28 ?_;refine XgA hs ?_;rw [if_pos rfl,decide_eq_true rfl,Frame.finish_at];walk_nrm
 repeat refine kx ?_
 refine JG.ret ?_;exact JG.leave rfl rfl Try.func11 (fun τ d=>results_tmp (t:=4) rfl _ _ _) (h _ (But.set _ _ _ _) hs.set)
theorem lkTryF_J (hl:x.cell? (th l 0)=some (P0 s)) (hs:Xr x s 1) (h:JG Try.prog Post C (G (c.finish (.bool false)) cs) x) :
 JG Try.prog Post C (G (Frame.enter Try.prog 11 #[P0 l,.pointer none] .normal) (c::cs)) x:=by
 refine Xu Try.func11 (by rfl) (by rfl) ?_;simp only [Try.f11,Option.getD_some];walk_nrm
 repeat refine kx ?_
 refine kf (args:=#[P0 s,.pointer none,.int .i64 0,.int .i64 1]) Try.func28 ?_;refine XgA hs ?_;rw [if_neg (by decide),decide_eq_false (by decide),Frame.finish_at];walk_nrm
 repeat refine kx ?_
 refine JG.ret ?_;exact JG.leave rfl rfl Try.func11 (fun τ d=>results_tmp (t:=4) rfl _ _ _) h
theorem lkUnlock_J (hl:x.cell? (th l 0)=some (P0 s)) (hs:Xr x s 1) (h:∀ y,But s x y→Xr y s 0→JG Try.prog Post C (G (c.finish (.int .i64 0)) cs) y) :
 JG Try.prog Post C (G (Frame.enter Try.prog 15 #[P0 l,.pointer none] .normal) (c::cs)) x:=by
 refine Xu Try.func15 (by rfl) (by rfl) ?_;simp only [Try.f15,Option.getD_some];walk_nrm
 repeat refine kx ?_
 refine kf (args:=#[P0 s,.pointer none,.int .i64 0]) Try.func29 ?_;refine swap_J hs ?_;rw [Frame.finish_at];walk_nrm
 repeat refine kx ?_
 refine JG.ret ?_;exact JG.leave rfl rfl Try.func15 (fun τ d=>results_tmp (t:=4) rfl _ _ _) (h _ (But.set _ _ _ _) hs.set)
end
theorem free_lt {x:World} {b:Nat} {v:Int} (h:Xr x b v):b < x.heap.size:=Xt (a:=th b 0) h.v
section
variable {Post:Value→World→Prop} {C:Ctx} {x:World} {c:Frame} {cs:List Frame} {n:Int}
theorem latchNew_R (hn:decide (n < 0)=false) (h:∀ y l s,Xg x y→x.heap.size≤s→x.heap.size≤l→l≠s→Xr y s n→y.cell? (th l 0)=some (P0 s)→JG Try.prog Post C (G (c.finish (.tuple #[P0 l,.int .i64 0])) cs) y) :
 JG Try.prog Post C (G (Frame.enter Try.prog 20 #[.int .i64 n] .normal) (c::cs)) x :=
 latchNew_J hn fun y o f hl=>h y _ _ o (Nat.le_refl _) (Nat.le_succ _) (by omega) f hl
theorem newLock_R (h:∀ y l s,Xg x y→x.heap.size≤s→x.heap.size≤l→l≠s→Xr y s 0→y.cell? (th l 0)=some (P0 s)→JG Try.prog Post C (G (c.finish (P0 l)) cs) y) :
 JG Try.prog Post C (G (Frame.enter Try.prog 8 #[] .normal) (c::cs)) x :=
 newLock_J fun y o f hl=>h y _ _ o (Nat.le_refl _) (Nat.le_succ _) (by omega) f hl
theorem barrierNew_R (hn:decide (n < 1)=false) (h:∀ y b s t,Xg x y→x.heap.size≤s→x.heap.size≤t→x.heap.size≤b→b≠s→b≠t→s≠t→Xr y s 0→Xr y t 0→y.heap[b]? = some (.cells #[.int .i64 n,P0 s,P0 t] 96 (0,0))→JG Try.prog Post C (G (c.finish (.tuple #[P0 b,.int .i64 0])) cs) y) :
 JG Try.prog Post C (G (Frame.enter Try.prog 17 #[.int .i64 n] .normal) (c::cs)) x :=
 barrierNew_J hn fun y o f g hb=>h y _ _ _ o (Nat.le_refl _) (by omega) (by omega) (by omega) (by omega) (by omega) f g hb
theorem works5_J (h:∀ y,Xg x y→JG Try.prog Post C (G (c.finish (.bool true)) cs) y) :
 JG Try.prog Post C (G (Frame.enter Try.prog 6 #[] .normal) (c::cs)) x:=by
 refine Xu Try.func6 (by rfl) (by rfl) ?_;simp only [Try.f6,Option.getD_some];walk_nrm
 repeat refine kx ?_
 refine kf (args:=#[.int .i64 2]) Try.func20 ?_;refine latchNew_R (by decide) fun y1 l s o1 a1 a2 a3 fs hl=>?_;rw [Frame.finish_at];walk_nrm
 repeat refine kx ?_
 refine kf (args:=#[]) Try.func8 ?_;refine newLock_R fun y2 k t o2 b1 b2 b3 ft hk=>?_;rw [Frame.finish_at];walk_nrm;have c1:=free_lt fs;have c2:l < y1.heap.size:=Xt hl;replace fs:=o2.free fs;replace hl:=o2.cell hl;replace o1:=o1.trans o2;have c3:=o2.1;clear o2
 repeat refine kx ?_
 refine kf (args:=#[.int .i64 1]) Try.func17 ?_;refine barrierNew_R (by decide) fun y3 b p q o3 d1 d2 d3 d4 d5 d6 fp fq hb=>?_;rw [Frame.finish_at];walk_nrm;have c4:=free_lt ft;have c5:k < y2.heap.size:=Xt hk;have c6:=o1.1;replace fs:=o3.free fs;replace hl:=o3.cell hl;replace ft:=o3.free ft;replace hk:=o3.cell hk;replace o1:=o1.trans o3;clear o3
 repeat refine kx ?_
 refine kf (args:=#[P0 b,.pointer none]) Try.func19 ?_;refine arrive_J hb fp fq d4 d5 d6 fun y4 e1 e2 fp1 fq1=>?_;rw [Frame.finish_at];walk_nrm;rw [show wrap64 (0 + 1)=1 from by decide +kernel] at fp1;have hb1:=(e2 b d4 d5).trans hb;have old:Xg y3 y4→True:=fun _=>trivial;have k1:∀ r v,r≠p→r≠q→Xr y3 r v→Xr y4 r v:=fun r v h1 h2 hf=>⟨(World.cell?_of_block (e2 r h1 h2)).trans hf.v,(World.cell?_of_block (e2 r h1 h2)).trans hf.made,(World.cell?_of_block (e2 r h1 h2)).trans hf.mu,(World.cell?_of_block (e2 r h1 h2)).trans hf.ch,fun j=>by have:=hf.fr j;unfold World.frozen? at this ⊢;rw [show y4.heap[(th r j).block]? = y3.heap[(th r j).block]? from e2 r h1 h2];exact this⟩
 replace fs:=k1 s _ (by omega) (by omega) fs;replace ft:=k1 t _ (by omega) (by omega) ft;replace hl:=(World.cell?_of_block (a:=th l 0) (e2 l (by omega) (by omega))).trans hl;replace hk:=(World.cell?_of_block (a:=th k 0) (e2 k (by omega) (by omega))).trans hk;replace o1:Xg x y4:=⟨by rw [e1];exact o1.1,fun r hr=>(e2 r (by omega) (by omega)).trans (o1.2 r hr)⟩
 clear k1 old e1 e2 hb fp fq
 repeat refine kx ?_
 refine kf (args:=#[P0 b,.pointer none]) Try.func19 ?_;refine arrive_J hb1 fp1 fq1 d4 d5 d6 fun y5 e1 e2 fp2 fq2=>?_;rw [Frame.finish_at];walk_nrm;have k1:∀ r v,r≠p→r≠q→Xr y4 r v→Xr y5 r v:=fun r v h1 h2 hf=>⟨(World.cell?_of_block (e2 r h1 h2)).trans hf.v,(World.cell?_of_block (e2 r h1 h2)).trans hf.made,(World.cell?_of_block (e2 r h1 h2)).trans hf.mu,(World.cell?_of_block (e2 r h1 h2)).trans hf.ch,fun j=>by have:=hf.fr j;unfold World.frozen? at this ⊢;rw [show y5.heap[(th r j).block]? = y4.heap[(th r j).block]? from e2 r h1 h2];exact this⟩
 replace fs:=k1 s _ (by omega) (by omega) fs;replace ft:=k1 t _ (by omega) (by omega) ft;replace hl:=(World.cell?_of_block (a:=th l 0) (e2 l (by omega) (by omega))).trans hl;replace hk:=(World.cell?_of_block (a:=th k 0) (e2 k (by omega) (by omega))).trans hk;replace o1:Xg x y5:=⟨by rw [e1];exact o1.1,fun r hr=>(e2 r (by omega) (by omega)).trans (o1.2 r hr)⟩
 clear k1 e1 e2 hb1 fp1 fq1 fp2 fq2
 repeat refine kx ?_
 refine kf (args:=#[P0 l,.pointer none,.int .i64 2]) Try.func22 ?_;refine down_J hl fs (by decide) (by decide) a3 fun y6 q1 fs1=>?_;rw [Frame.finish_at];walk_nrm;rw [show IntKind.i64.wrap (2 - 2)=0 from by decide +kernel] at fs1;replace hl:=(q1.cell (p:=th l 0) a3).trans hl;replace hk:=(q1.cell (p:=th k 0) (show k≠s by omega)).trans hk;replace ft:=q1.free (show t≠s by omega) ft;replace o1:=o1.but q1 a1;clear q1 fs
 repeat refine kx ?_
 refine kf (args:=#[P0 l,.pointer none]) Try.func24 ?_;refine wait_J hl fs1 ?_;rw [Frame.finish_at];walk_nrm
 repeat refine kx ?_
 refine kf (args:=#[P0 k,.pointer none]) Try.func12 ?_;refine lkLock_J hk ft fun y7 q1 ft1=>?_;rw [Frame.finish_at];walk_nrm;replace hk:=(q1.cell (p:=th k 0) b3).trans hk;replace o1:=o1.but q1 (by omega);clear q1 ft fs1 hl
 repeat refine kx ?_
 refine kf (args:=#[P0 k,.pointer none]) Try.func11 ?_;refine lkTryF_J hk ft1 ?_;rw [Frame.finish_at];walk_nrm
 repeat refine kx ?_
 refine kf (args:=#[P0 k,.pointer none]) Try.func15 ?_;refine lkUnlock_J hk ft1 fun y8 q1 ft=>?_;rw [Frame.finish_at];walk_nrm;replace hk:=(q1.cell (p:=th k 0) b3).trans hk;replace o1:=o1.but q1 (by omega);clear q1 ft1
 repeat refine kx ?_
 refine kf (args:=#[P0 k,.pointer none]) Try.func11 ?_;refine lkTry_J hk ft fun y9 q1 ft1=>?_;rw [Frame.finish_at];walk_nrm;replace o1:=o1.but q1 (by omega)
 repeat refine kx ?_
 refine JG.ret ?_;exact JG.leave rfl rfl Try.func6 (fun τ d=>results_tmp (t:=0) rfl _ _ _) (h _ o1)
