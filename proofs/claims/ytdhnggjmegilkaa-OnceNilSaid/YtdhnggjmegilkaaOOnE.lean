/- A Once's Do and Done from no thread, and the works of law 3, under J. -/
import Derived.Test.YtdhnggjmegilkaaOOnC
set_option linter.all false
set_option maxRecDepth 100000
set_option maxHeartbeats 16000000
namespace Go.Proofs.Ytdhnggjmegilkaa
open Go.Conc Go.RowKit
open Go.ConcN (upd upd_same upd_ne)
set_option maxRecDepth 100000
section
variable {Post:Value→World→Prop} {C:Ctx} {x:World} {c:Frame} {cs:List Frame} {b:Nat} {u:Int}
theorem seven_J (h:JG Try.prog Post C (G (c.finish (.int .i64 7)) cs) x):JG Try.prog Post C (G (Frame.enter Try.prog 120 #[] .normal) (c::cs)) x:=by
 refine Xu Try.func120 (by rfl) (by rfl) ?_;simp only [Try.f120,Option.getD_some];walk_nrm
 repeat refine kx ?_
 refine JG.ret ?_;exact JG.leave rfl rfl Try.func120 (fun τ d=>results_tmp (t:=0) rfl _ _ _) h
abbrev seven:Value:=.func (.func 120) #[] #[]
theorem getRec_J {lx:Nat} (hcm:c.mode=.returning) (h:JG Try.prog Post C (G (X3 c) cs) x):JG Try.prog Post C (G (Frame.enter Try.prog 118 #[P0 lx] .deferred) (c::cs)) x:=by
 refine Xc8 Try.func118 (by rfl) (by rfl) ?_;simp only [Try.f118,Option.getD_some];walk_nrm
 repeat refine kx ?_
 refine JG.recover0 rfl (by rfl) (by decide) (fun w=>by simp [go_sem,execOp,Act.eval,resolve,Deferred.ofValue]) (fun w=>by simp [go_sem,execOp,Act.eval,resolve,Deferred.ofValue]) (by simp [tryRecover,Frame.at,baseD,hcm]) ?_
 try walk_nrm
 repeat refine kx ?_
 refine JG.fin ?_;exact JG.leaveD rfl rfl Try.func118 (by rfl) h
theorem getBody_J {lx:Nat} (h0:x.cell? (th lx 0)=some (P0 b)) (h3:x.cell? (th b 3)=some seven) (h4:x.cell? (th b 4)=some (.int .i64 0)) (f4:x.frozen? (th b 4)=false)
 (h:JG Try.prog Post C (G (c.finish (.tuple #[])) cs) (x.setCell (th b 4) (.int .i64 7))):JG Try.prog Post C (G (Frame.enter Try.prog 117 #[P0 lx] .normal) (c::cs)) x:=by
 refine Xu Try.func117 (by rfl) (by rfl) ?_;simp only [Try.f117,Option.getD_some];walk_nrm
 repeat refine kx ?_
 refine JG.defer (d:={ target:=.fn (.func 118) #[P0 lx],args:=#[] }) rfl (by rfl) (by decide) (fun w=>by simp [go_sem,execOp,Act.eval,resolve,Deferred.ofValue]) (fun w=>by simp [go_sem,execOp,Act.eval,resolve,Deferred.ofValue]) ?_
 try walk_nrm
 repeat refine kx ?_
 refine JG.drawCallsS (fun i=>if i=5 then some 0 else if i=8 then some 1 else none) (fun i=>if i=0 then .int .i64 7 else undef) (fun k' z=>if k'=2 then z=x.setCell (th b 4) (.int .i64 7) else z=x) 2 (by kernel_rfl) (by kernel_rfl) (by decide) rfl ?_;apply Exists.intro;apply And.intro
 ·intro k' hk z hz
  have hk':k'=0∨k'=1∨k'=2:=by omega
  rcases hk' with rfl|rfl|rfl
  ·rw [show z=x from hz]
   repeat first|(refine JPassS.rd (by rfl) (fun K hK τ d=>?_);go_simp;refine hK _ ?_;clear hK K τ d)|(refine JPassS.rd (by rfl) (fun K hK τ d=>?_);have hfact:=uc τ d (h0);go_simp;refine hK _ ?_;clear hfact hK K τ d)|(refine JPassS.rd (by rfl) (fun K hK τ d=>?_);have hfact:=uc τ d (h3);go_simp;refine hK _ ?_;clear hfact hK K τ d)
   refine JPassS.cl (by rfl) (fun _=>.inl ⟨120,#[],fun w=>?_,fun w=>?_,fun c hc=>?_⟩) ?_
   iterate 2 (focus obtain ⟨fn, h1, h2, h3⟩ : Yb 120 := ⟨_, Try.func120, by kernel_rfl, by kernel_rfl⟩; have h4 : ¬ fn.name = "runtime.NumGoroutine" := (by simpa using h2); have h5 : ¬ fn.body = none := (by intro e; rw [e] at h3; cases h3); simp [go_sem, execOp, Act.eval, resolve, Deferred.ofValue, invoke, callFunc, h1, h4, h5] <;> decide +kernel)
   ·exact seven_J (hc x rfl)
   repeat first|(refine JPassS.rd (by rfl) (fun K hK τ d=>?_);go_simp;refine hK _ ?_;clear hK K τ d)|(refine JPassS.rd (by rfl) (fun K hK τ d=>?_);have hfact:=uc τ d (h0);go_simp;refine hK _ ?_;clear hfact hK K τ d)|(refine JPassS.rd (by rfl) (fun K hK τ d=>?_);have hfact:=uc τ d (h3);go_simp;refine hK _ ?_;clear hfact hK K τ d)
   refine JPassS.cl (by rfl) (fun h=>by cases h) ?_;exact rfl
  ·rw [show z=x from hz]
   repeat first|(refine JPassS.rd (by rfl) (fun K hK τ d=>?_);go_simp;refine hK _ ?_;clear hK K τ d)|(refine JPassS.rd (by rfl) (fun K hK τ d=>?_);have hfact:=uc τ d (h0);go_simp;refine hK _ ?_;clear hfact hK K τ d)|(refine JPassS.rd (by rfl) (fun K hK τ d=>?_);have hfact:=uc τ d (h3);go_simp;refine hK _ ?_;clear hfact hK K τ d)
   refine JPassS.cl (by rfl) (fun h=>by cases h) ?_
   repeat first|(refine JPassS.rd (by rfl) (fun K hK τ d=>?_);go_simp;refine hK _ ?_;clear hK K τ d)|(refine JPassS.rd (by rfl) (fun K hK τ d=>?_);have hfact:=uc τ d (h0);go_simp;refine hK _ ?_;clear hfact hK K τ d)|(refine JPassS.rd (by rfl) (fun K hK τ d=>?_);have hfact:=uc τ d (h3);go_simp;refine hK _ ?_;clear hfact hK K τ d)
   refine JPassS.cl (by rfl) (fun _=>.inr ⟨F00,Ub,rfl,by rfl,_,rfl,.inr ⟨rfl,fun τ d=>?_⟩⟩) ?_
   ·have hf:=(Xk x τ d _).trans h4
    have hg:(under x τ d).frozen? (th b 4)=false:=f4;go_simp;exact Xc ..
   exact rfl
  ·have hz':z=x.setCell (th b 4) (.int .i64 7):=hz
   clear hz;have g0:z.cell? (th lx 0)=some (P0 b):=by rw [hz'];exact Xi (by intro e;rw [e] at h0;rw [h0] at h4;cases h4) h0
   have g3:z.cell? (th b 3)=some seven:=by rw [hz'];exact Xi (by simp [th]) h3
   clear hz'
   repeat first|(refine JPassS.rd (by rfl) (fun K hK τ d=>?_);go_simp;refine hK _ ?_;clear hK K τ d)|(refine JPassS.rd (by rfl) (fun K hK τ d=>?_);have hfact:=uc τ d (g0);go_simp;refine hK _ ?_;clear hfact hK K τ d)|(refine JPassS.rd (by rfl) (fun K hK τ d=>?_);have hfact:=uc τ d (g3);go_simp;refine hK _ ?_;clear hfact hK K τ d)
   refine JPassS.cl (by rfl) (fun h=>by cases h) ?_
   repeat first|(refine JPassS.rd (by rfl) (fun K hK τ d=>?_);go_simp;refine hK _ ?_;clear hK K τ d)|(refine JPassS.rd (by rfl) (fun K hK τ d=>?_);have hfact:=uc τ d (g0);go_simp;refine hK _ ?_;clear hfact hK K τ d)|(refine JPassS.rd (by rfl) (fun K hK τ d=>?_);have hfact:=uc τ d (g3);go_simp;refine hK _ ?_;clear hfact hK K τ d)
   refine JPassS.cl (by rfl) (fun h=>by cases h) ?_;exact rfl
 ·intro z hz
  rw [show z=x.setCell (th b 4) (.int .i64 7) from hz];clear hz z;generalize x.setCell (th b 4) (.int .i64 7)=z at h ⊢;clear h0 h3 h4 f4;replace h:=HD h;refine JG.fin ?_;refine JG.unwind (m:=.returning) (by simp) rfl rfl Try.func118 (by rfl) (by rfl) ?_;refine getRec_J rfl ?_;exact JG.leave0 rfl rfl Try.func117 (by rfl) h.out
abbrev lz (a k v:Int) (fv:Value):Obj:=.cells #[.int .u32 a,.int .i32 k,.int .u32 0,fv,.int .i64 v,.int .i64 0] 134 (0,0)
theorem newLazy_J (h:JG Try.prog Post C (G (c.finish (P0 x.heap.size)) cs) (x.alloc (.cells #[.int .u32 0,.int .i32 0,.int .u32 0,seven,.int .i64 0,.int .i64 0] 134))):JG Try.prog Post C (G (Frame.enter Try.prog 52 #[seven] .normal) (c::cs)) x:=by
 replace h:=HD h;refine Xu Try.func52 (by rfl) (by rfl) ?_;simp only [Try.f52,Option.getD_some];walk_nrm
 repeat refine kx ?_
 refine ko fun K E hK hE τ d=>?_;go_simp;refine hK _ _ (jt (x:=x.alloc (.cells #[.int .u32 0,.int .i32 0,.int .u32 0,seven,.int .i64 0,.int .i64 0] 134)) ?_);simp only [Xs];clear hK hE K E τ d;generalize x.alloc (.cells #[.int .u32 0,.int .i32 0,.int .u32 0,seven,.int .i64 0,.int .i64 0] 134)=y at h ⊢;generalize x.heap.size=lb at h ⊢
 repeat refine kx ?_
 refine JG.ret ?_;exact JG.leave rfl rfl Try.func52 (fun τ d=>results_tmp (t:=2) rfl _ _ _) h.out
theorem newLazyNil_J (h:JG Try.prog Post C (G (c.finish (.pointer none)) cs) x):JG Try.prog Post C (G (Frame.enter Try.prog 52 #[.nilFunc] .normal) (c::cs)) x:=by
 refine Xu Try.func52 (by rfl) (by rfl) ?_;simp only [Try.f52,Option.getD_some];walk_nrm
 repeat refine kx ?_
 refine JG.ret ?_;exact JG.leave rfl rfl Try.func52 (fun τ d=>results_tmp (t:=2) rfl _ _ _) h
theorem getNil_J (h:∀ y,Xg x y→JG Try.prog Post C (G (c.finish (.tuple #[.int .i64 0,.int .i64 2])) cs) y):JG Try.prog Post C (G (Frame.enter Try.prog 50 #[.pointer none] .normal) (c::cs)) x:=by
 refine Xu Try.func50 (by rfl) (by rfl) ?_;simp only [Try.f50,Option.getD_some];walk_nrm
 repeat refine kx ?_
 refine ko fun K E hK hE τ d=>?_;go_simp;refine hK _ _ (jt (x:=x.alloc (.cells #[.pointer none] 118)) ?_);simp only [Xs];clear hK hE K E τ d;have o1:=(Xg.refl x).alloc (.cells #[.pointer none] 118);have a0:(x.alloc (.cells #[.pointer none] 118)).heap[x.heap.size]? = some (.cells #[.pointer none] 118 (0,0)):=heap_alloc_new x _;have hy:=h _ o1;clear h;generalize x.alloc (.cells #[.pointer none] 118)=y at hy a0 o1 ⊢;generalize x.heap.size=lx at a0 ⊢;have l0:y.cell? (th lx 0)=some (.pointer none):=Xa a0 0;clear a0 o1;replace hy:=HD hy
 repeat refine kx ?_
 refine JG.ret ?_;exact JG.leave rfl rfl Try.func50 (fun τ d=>results_tmp2 (t:=2) (u:=3) rfl _ _ _) hy.out
theorem getBare_J (h3:x.cell? (th b 3)=some .nilFunc) (h:∀ y,Xg x y→JG Try.prog Post C (G (c.finish (.tuple #[.int .i64 0,.int .i64 2])) cs) y):JG Try.prog Post C (G (Frame.enter Try.prog 50 #[P0 b] .normal) (c::cs)) x:=by
 refine Xu Try.func50 (by rfl) (by rfl) ?_;simp only [Try.f50,Option.getD_some];walk_nrm
 repeat refine kx ?_
 refine ko fun K E hK hE τ d=>?_;go_simp;refine hK _ _ (jt (x:=x.alloc (.cells #[P0 b] 118)) ?_);simp only [Xs];clear hK hE K E τ d;have o1:=(Xg.refl x).alloc (.cells #[P0 b] 118);have a0:(x.alloc (.cells #[P0 b] 118)).heap[x.heap.size]? = some (.cells #[P0 b] 118 (0,0)):=heap_alloc_new x _;have hy:=h _ o1;clear h;have g3:=o1.cell h3;generalize x.alloc (.cells #[P0 b] 118)=y at hy a0 o1 g3 ⊢;generalize x.heap.size=lx at a0 ⊢;have l0:y.cell? (th lx 0)=some (P0 b):=Xa a0 0;clear a0 o1;replace hy:=HD hy
 repeat refine kx ?_
 refine JG.ret ?_;exact JG.leave rfl rfl Try.func50 (fun τ d=>results_tmp2 (t:=2) (u:=3) rfl _ _ _) hy.out
theorem get_J (hb:x.heap[b]? = some (lz 0 0 0 seven)) (h:∀ y,x.heap.size≤y.heap.size→(∀ r,r < x.heap.size→r≠b→y.heap[r]? = x.heap[r]?)→JG Try.prog Post C (G (c.finish (.tuple #[.int .i64 7,.int .i64 0])) cs) y):JG Try.prog Post C (G (Frame.enter Try.prog 50 #[P0 b] .normal) (c::cs)) x:=by
 replace h:=HD h;refine Xu Try.func50 (by rfl) (by rfl) ?_;simp only [Try.f50,Option.getD_some];walk_nrm
 repeat refine kx ?_
 refine ko fun K E hK hE τ d=>?_;go_simp;refine hK _ _ (jt (x:=x.alloc (.cells #[P0 b] 118)) ?_);simp only [Xs];clear hK hE K E τ d;have o1:=(Xg.refl x).alloc (.cells #[P0 b] 118);have a0:(x.alloc (.cells #[P0 b] 118)).heap[x.heap.size]? = some (.cells #[P0 b] 118 (0,0)):=heap_alloc_new x _;have hlt:b < x.heap.size:=(GE hb).1;have b1:(x.alloc (.cells #[P0 b] 118)).heap[b]? = some (lz 0 0 0 seven):=(o1.2 b hlt).trans hb;generalize x.alloc (.cells #[P0 b] 118)=y at o1 a0 b1 ⊢;generalize hlx:x.heap.size=lx at a0 hlt ⊢;have l0:y.cell? (th lx 0)=some (P0 b):=Xa a0 0;have g3:y.cell? (th b 3)=some seven:=Xa b1 3;replace o1:=HD o1;replace hlx:=HD hlx;have hne:lx≠b:=by omega
 replace hlt:=HD hlt
 repeat refine kx ?_
 refine kf (args:=#[P0 b,.func (.func 117) #[] #[P0 lx]]) Try.func116 ?_;have f0:y.frozen? (th b 0)=false:=Xe b1 0;have f1:y.frozen? (th b 1)=false:=Xe b1 1;refine onceDo_J (M:=fun z=>y.heap.size≤z.heap.size∧(∀ r,r < y.heap.size→r≠b→z.heap[r]? = y.heap[r]?)∧z.heap[b]? = some (lz 0 1 7 seven)) (Xa b1 0) f0 (Xa b1 1) f1 (fun c' cs' hq=>?_) fun z hM=>?_
 ·refine getBody_J (b:=b) (Xi (by intro e;exact hne (congrArg Addr.block e)) l0) (Xi (by simp [th]) g3) (Xi (by simp [th]) (Xa b1 4)) (by rw [QU];exact Xe b1 4) ?_
  have hh:((y.setCell (th b 1) (.int .i32 1)).setCell (th b 4) (.int .i64 7)).heap[b]? = some (lz 0 1 7 seven):=by rw [Xd (Xd b1)];rfl
  refine hq _ (Xa hh 0) (Xe hh 0) (Xa hh 1) (Xe hh 1) ⟨by rw [Xh,Xh];exact Nat.le_refl _,fun r _ hr=>by rw [Xb hr,Xb hr],hh⟩
 rw [Frame.finish_at];walk_nrm;obtain ⟨s1,s2,s3⟩:=hM;have hh:((z.setCell (th b 0) (.int .u32 1)).setCell (th b 1) (.int .i32 0)).heap[b]? = some (lz 1 0 7 seven):=by rw [Xd (Xd s3)];rfl
 have m0:((z.setCell (th b 0) (.int .u32 1)).setCell (th b 1) (.int .i32 0)).heap[lx]? = some (.cells #[P0 b] 118 (0,0)):=by rw [Xb hne,Xb hne,s2 _ (GE a0).1 hne];exact a0
 have hy:=h.out ((z.setCell (th b 0) (.int .u32 1)).setCell (th b 1) (.int .i32 0)) (by rw [Xh,Xh,hlx.out];exact Nat.le_trans (hlx.out ▸ o1.out.1) s1) (fun r hr hrb=>by rw [Xb hrb,Xb hrb,s2 _ (Nat.lt_of_lt_of_le (hlx.out.symm ▸ hr) o1.out.1) hrb];exact o1.out.2 r (hlx.out.symm ▸ hr));generalize (z.setCell (th b 0) (.int .u32 1)).setCell (th b 1) (.int .i32 0)=w at hh m0 hy ⊢;clear h s1 s2 s3 l0 g3 f0 f1 a0 b1 o1 hlx;have l0:w.cell? (th lx 0)=some (P0 b):=Xa m0 0;have g4:w.cell? (th b 4)=some (.int .i64 7):=Xa hh 4;have g5:w.cell? (th b 5)=some (.int .i64 0):=Xa hh 5;clear m0 hh;replace hy:=HD hy
 repeat refine kx ?_
 refine JG.drawCalls (fun _=>none) (fun _=>undef) (fun _ z'=>z'=w) 0 (by kernel_rfl) (by kernel_rfl) (by decide) rfl ?_;apply Exists.intro;apply And.intro
 ·intro k' hk z' hz
  rw [show z'=w from hz]
  repeat first|(refine Vb.rd (by rfl) (fun K hK τ d=>?_);go_simp;refine hK _ ?_;clear hK K τ d)|(refine Vb.rd (by rfl) (fun K hK τ d=>?_);have hfact:=uc τ d (l0);go_simp;refine hK _ ?_;clear hfact hK K τ d)|(refine Vb.rd (by rfl) (fun K hK τ d=>?_);have hfact:=uc τ d (g4);go_simp;refine hK _ ?_;clear hfact hK K τ d)|(refine Vb.rd (by rfl) (fun K hK τ d=>?_);have hfact:=uc τ d (g5);go_simp;refine hK _ ?_;clear hfact hK K τ d)
  exact rfl
 intro z' hz;rw [show z'=w from hz]
 repeat refine kx ?_
 refine JG.ret ?_;exact JG.leave rfl rfl Try.func50 (fun τ d=>results_tmp2 (t:=2) (u:=3) rfl _ _ _) hy.out
end
section
variable {Post:Value→World→Prop} {C:Ctx} {x:World} {c:Frame} {cs:List Frame} {b cb nb:Nat} {u:Int}
abbrev cntF (nb:Nat):Value:=.func (.func 119) #[] #[P0 nb]
theorem cnt_J {n:Int} {v:Value} (h0:x.cell? (th nb 0)=some (.int .i64 n)) (f0:x.frozen? (th nb 0)=false) (h:JG Try.prog Post C (G (c.finish (.tuple #[])) cs) (x.setCell (th nb 0) (.int .i64 (IntKind.i64.wrap (n + 1))))):JG Try.prog Post C (G (Frame.enter Try.prog 119 #[v,P0 nb] .normal) (c::cs)) x:=by
 refine Xu Try.func119 (by rfl) (by rfl) ?_;simp only [Try.f119,Option.getD_some];walk_nrm
 repeat refine kx ?_
 refine kst (And.intro h0 f0) ?_;generalize x.setCell (th nb 0) (.int .i64 (IntKind.i64.wrap (n + 1)))=y at h ⊢;clear h0 f0
 repeat refine kx ?_
 refine JG.fin ?_;exact JG.leave0 rfl rfl Try.func119 (by rfl) h
theorem onRec_J {A B:Nat} (hcm:c.mode=.returning) (h:JG Try.prog Post C (G (X3 c) cs) x):JG Try.prog Post C (G (Frame.enter Try.prog 142 #[P0 A,P0 B] .deferred) (c::cs)) x:=by
 refine Xc8 Try.func142 (by rfl) (by rfl) ?_;simp only [Try.f142,Option.getD_some];walk_nrm
 repeat refine kx ?_
 refine JG.recover0 rfl (by rfl) (by decide) (fun w=>by simp [go_sem,execOp,Act.eval,resolve,Deferred.ofValue]) (fun w=>by simp [go_sem,execOp,Act.eval,resolve,Deferred.ofValue]) (by simp [tryRecover,Frame.at,baseD,hcm]) ?_
 try walk_nrm
 repeat refine kx ?_
 first|refine JG.ret ?_|refine JG.fin ?_
 exact JG.leaveD rfl rfl Try.func142 (by rfl) h
theorem runs_J (hb:x.heap[b]? = some (.cells #[P0 cb] 120 (0,0))) (hc:XN x cb 1) (hn:x.heap[nb]? = some (.cells #[.int .i64 0] 3 (0,0)))
 (h:∀ y,x.heap.size≤y.heap.size→(∀ r,r < x.heap.size→r≠cb→r≠nb→y.heap[r]? = x.heap[r]?)→XN y cb 2→y.heap[nb]? = some (.cells #[.int .i64 1] 3 (0,0))→JG Try.prog Post C (G (c.finish (.tuple #[])) cs) y) :
 JG Try.prog Post C (G (Frame.enter Try.prog 115 #[P0 b,.pointer none,cntF nb] .normal) (c::cs)) x:=by
 replace h:=HD h;have lb:=(GE hb).1;have lc:=(GE hc).1;have ln:=(GE hn).1;have nbc:nb≠cb:=fun e=>by rw [e] at hn;exact absurd (congrArg (fun o=>match o with|some (.cells _ t _)=>t|_=>0) (hn.symm.trans hc)) (Nat.ne_of_beq_eq_false rfl)
 have nbb:b≠nb:=fun e=>by rw [e] at hb;exact absurd (congrArg (fun o=>match o with|some (.cells _ t _)=>t|_=>0) (hb.symm.trans hn)) (Nat.ne_of_beq_eq_false rfl)
 refine Xu Try.func115 (by rfl) (by rfl) ?_;simp only [Try.f115,Option.getD_some];walk_nrm
 repeat refine kx ?_
 refine ko fun K E hK hE τ d=>?_;go_simp;refine hK _ _ (jt (x:=x.alloc (.cells #[P0 b] 117)) ?_);simp only [Xs];clear hK hE K E τ d;have o1:=(Xg.refl x).alloc (.cells #[P0 b] 117);have a1:(x.alloc (.cells #[P0 b] 117)).heap[x.heap.size]? = some (.cells #[P0 b] 117 (0,0)):=heap_alloc_new x _;have sz1:(x.alloc (.cells #[P0 b] 117)).heap.size=x.heap.size + 1:=Array.size_push ..;generalize x.alloc (.cells #[P0 b] 117)=x1 at o1 a1 sz1 ⊢;generalize hA:x.heap.size=A at a1 sz1 ⊢;replace hA:=HD hA
 repeat refine kx ?_
 refine ko fun K E hK hE τ d=>?_;go_simp;refine hK _ _ (jt (x:=x1.alloc (.cells #[.pointer none] 33)) ?_);simp only [Xs];clear hK hE K E τ d;have o2:=(Xg.refl x1).alloc (.cells #[.pointer none] 33);have a2:(x1.alloc (.cells #[.pointer none] 33)).heap[x1.heap.size]? = some (.cells #[.pointer none] 33 (0,0)):=heap_alloc_new x1 _;have a1':=(o2.2 A (by omega)).trans a1;have oo:=o1.trans o2;have lA:A < x1.heap.size:=by omega
 generalize x1.alloc (.cells #[.pointer none] 33)=x2 at a2 a1' oo ⊢;generalize x1.heap.size=B at a2 lA ⊢;clear a1 o2 o1 sz1;have b2:=(oo.2 b lb).trans hb;have c2:XN x2 cb 1:=(oo.2 cb lc).trans hc;have n2:=(oo.2 nb ln).trans hn;have nA:A≠cb∧A≠nb∧B≠cb∧B≠nb:=by have:=hA.out;omega
 have nAc:A≠cb:=nA.1;have nBc:B≠cb:=nA.2.2.1;have nbc':b≠cb:=fun e=>by rw [e] at hb;exact absurd (congrArg (fun o=>match o with|some (.cells _ t _)=>t|_=>0) (hb.symm.trans hc)) (Nat.ne_of_beq_eq_false rfl)
 clear lA hb hc hn;have lB:x2.cell? (th B 0)=some (.pointer none):=Xa a2 0;have nn:x2.cell? (th nb 0)=some (.int .i64 0):=Xa n2 0;replace oo:=HD oo;replace a1':=HD a1';replace a2:=HD a2;replace nA:=HD nA
 repeat refine kx ?_
 refine JG.defer (d:={ target:=.fn (.func 142) #[P0 A,P0 B],args:=#[] }) rfl (by rfl) (by decide) (fun w=>by simp [go_sem,execOp,Act.eval,resolve,Deferred.ofValue]) (fun w=>by simp [go_sem,execOp,Act.eval,resolve,Deferred.ofValue]) ?_
 try walk_nrm
 repeat refine kx ?_
 refine JG.call (f:=119) (args:=#[.pointer none,P0 nb]) rfl (by rfl) (by decide) (fun w=>?_) (fun w=>?_) ?_
 iterate 2 (focus obtain ⟨fn, h1, h2, h3⟩ : Yb 119 := ⟨_, Try.func119, by kernel_rfl, by kernel_rfl⟩; have h4 : ¬ fn.name = "runtime.NumGoroutine" := (by simpa using h2); have h5 : ¬ fn.body = none := (by intro e; rw [e] at h3; cases h3); simp [go_sem, execOp, Act.eval, resolve, Deferred.ofValue, invoke, callFunc, h1, h4, h5])
 refine cnt_J nn (Xe n2 0) ?_;rw [show IntKind.i64.wrap (0 + 1)=1 from by decide +kernel,Frame.finish_at]
 try walk_nrm
 have n3:(x2.setCell (th nb 0) (.int .i64 1)).heap[nb]? = some (.cells #[.int .i64 1] 3 (0,0)):=by rw [Xd n2];rfl
 have c3:XN (x2.setCell (th nb 0) (.int .i64 1)) cb 1:=(Xb nbc.symm).trans c2;have b3:(x2.setCell (th nb 0) (.int .i64 1)).heap[b]? = some (.cells #[P0 cb] 120 (0,0)):=(Xb nbb).trans b2;have e1:(x2.setCell (th nb 0) (.int .i64 1)).heap[A]? = some (.cells #[P0 b] 117 (0,0)):=(Xb nA.out.2.1).trans a1'.out;have e2:(x2.setCell (th nb 0) (.int .i64 1)).heap[B]? = some (.cells #[.pointer none] 33 (0,0)):=(Xb nA.out.2.2.2).trans a2.out;have hold:∀ r,r < x.heap.size→r≠nb→(x2.setCell (th nb 0) (.int .i64 1)).heap[r]? = x.heap[r]?:=fun r hr hrn=>(Xb hrn).trans (oo.out.2 r hr);have hsz:x.heap.size≤(x2.setCell (th nb 0) (.int .i64 1)).heap.size:=by rw [Xh];exact oo.out.1
 generalize x2.setCell (th nb 0) (.int .i64 1)=x3 at n3 c3 b3 e1 e2 hold hsz ⊢;clear a1' a2 lB nn b2 c2 n2 oo nA;have lA:x3.cell? (th A 0)=some (P0 b):=Xa e1 0;have lB:x3.cell? (th B 0)=some (.pointer none):=Xa e2 0;have lo:x3.cell? (th b 0)=some (P0 cb):=Xa b3 0;replace hold:=HD hold;replace hsz:=HD hsz;replace n3:=HD n3;have hh:(x3.setCell (th cb 0) (.int .i64 2)).heap.size=x3.heap.size:=Xh ..;have c4:XN (x3.setCell (th cb 0) (.int .i64 2)) cb 2:=c3.set 2;have n4:(x3.setCell (th cb 0) (.int .i64 2)).heap[nb]? = some (.cells #[.int .i64 1] 3 (0,0)):=(Xb nbc).trans n3.out;have hy:=h.out (x3.setCell (th cb 0) (.int .i64 2)) (by rw [hh];exact hsz.out) (fun r hr hrc hrn=>(Xb hrc).trans (hold.out r hr hrn)) c4 n4;clear h hold hsz n3 e1 e2 b3 hh c4 n4;replace hy:=HD hy;have f3:=c3.free;replace f3:=HD f3
 repeat refine kx ?_
 refine JG.drawCalls (fun i=>if i=5 then some 0 else none) (fun _=>.tuple #[]) (fun k z=>if k=1 then z=x3.setCell (th cb 0) (.int .i64 2) else z=x3) 1 (by kernel_rfl) (by kernel_rfl) (by decide) rfl ?_;apply Exists.intro;apply And.intro
 ·intro k hk z hz
  have hk':k=0∨k=1:=by omega
  rcases hk' with rfl|rfl
  ·rw [show z=x3 from hz]
   repeat first|(refine Vb.rd (by rfl) (fun K hK τ d=>?_);go_simp;refine hK _ ?_;clear hK K τ d)|(refine Vb.rd (by rfl) (fun K hK τ d=>?_);have hfact:=uc τ d (lA);go_simp;refine hK _ ?_;clear hfact hK K τ d)|(refine Vb.rd (by rfl) (fun K hK τ d=>?_);have hfact:=uc τ d (lB);go_simp;refine hK _ ?_;clear hfact hK K τ d)|(refine Vb.rd (by rfl) (fun K hK τ d=>?_);have hfact:=uc τ d (lo);go_simp;refine hK _ ?_;clear hfact hK K τ d)
   refine Vb.cl (by rfl) (fun _=>⟨79,#[P0 cb,.pointer none,.int .i64 2],fun w=>?_,fun w=>?_,fun c hc=>?_⟩) ?_
   iterate 2 (focus obtain ⟨fn, h1, h2, h3⟩ : Yb 79 := ⟨_, Try.func79, by kernel_rfl, by kernel_rfl⟩; have h4 : ¬ fn.name = "runtime.NumGoroutine" := (by simpa using h2); have h5 : ¬ fn.body = none := (by intro e; rw [e] at h3; cases h3); simp [go_sem, execOp, Act.eval, resolve, Deferred.ofValue, invoke, callFunc, h1, h4, h5])
   ·exact store_J f3.out (hc _ rfl)
   exact rfl
  ·have hz':z=x3.setCell (th cb 0) (.int .i64 2):=hz
   have gA:z.cell? (th A 0)=some (P0 b):=by rw [hz'];exact Xi (fun e=>nAc (congrArg Addr.block e)) lA
   have gB:z.cell? (th B 0)=some (.pointer none):=by rw [hz'];exact Xi (fun e=>nBc (congrArg Addr.block e)) lB
   have go:z.cell? (th b 0)=some (P0 cb):=by rw [hz'];exact Xi (fun e=>nbc' (congrArg Addr.block e)) lo
   clear hz hz'
   repeat first|(refine Vb.rd (by rfl) (fun K hK τ d=>?_);go_simp;refine hK _ ?_;clear hK K τ d)|(refine Vb.rd (by rfl) (fun K hK τ d=>?_);have hfact:=uc τ d (gA);go_simp;refine hK _ ?_;clear hfact hK K τ d)|(refine Vb.rd (by rfl) (fun K hK τ d=>?_);have hfact:=uc τ d (gB);go_simp;refine hK _ ?_;clear hfact hK K τ d)|(refine Vb.rd (by rfl) (fun K hK τ d=>?_);have hfact:=uc τ d (go);go_simp;refine hK _ ?_;clear hfact hK K τ d)
   refine Vb.cl (by rfl) (fun h=>by cases h) ?_;exact rfl
 ·intro z hz
  rw [show z=x3.setCell (th cb 0) (.int .i64 2) from hz];clear lA lB lo hz z f3 c3;generalize x3.setCell (th cb 0) (.int .i64 2)=z at hy ⊢
  repeat refine kx ?_
  refine JG.fin ?_;refine JG.unwind (m:=.returning) (by simp) rfl rfl Try.func142 (by rfl) (by rfl) ?_;refine onRec_J rfl ?_;exact JG.leave0 rfl rfl Try.func115 (by rfl) hy.out
