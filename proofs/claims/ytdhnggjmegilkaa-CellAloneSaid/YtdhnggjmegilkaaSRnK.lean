/- Which threads are ready: gate's can. -/
import Derived.Test.YtdhnggjmegilkaaSRnE
import Derived.Test.YtdhnggjmegilkaaSTkP
import Derived.Test.YtdhnggjmegilkaaSRnJ
import Derived.Test.YtdhnggjmegilkaaSRnG
import Derived.Test.YtdhnggjmegilkaaSTkJ
set_option linter.all false
set_option maxRecDepth 100000
set_option maxHeartbeats 16000000
namespace Go.Proofs.Ytdhnggjmegilkaa
open Go.Conc Go.RowKit
open Go.ConcN (upd upd_same upd_ne)
set_option maxRecDepth 100000
def Dead (x:World) (tv:Value):Prop:=tv=.pointer none∨∃ tb rb,tv=P0 tb∧x.cell? (th tb 0)=some (P0 rb)∧x.cell? (th tb 13)=some (.bool true)
structure FreeC (x:World) (b:Nat) (v:Int) (ch:Option Nat):Prop where
 v:x.cell? (th b 0)=some (.int .i64 v)
 made:x.cell? (th b 1)=some (.bool true)
 mu:x.cell? (th b 2)=some (.int .i32 0)
 hch:x.cell? (th b 4)=some (.chan ch)
 fr:∀ k,x.frozen? (th b k)=false
 op:∀ c,ch=some c→x.heap[c]? = some (.chan 0 #[] false 0 0 false)∧c≠b
theorem FreeC.lt {x:World} {b:Nat} {v:Int} {ch:Option Nat} (h:FreeC x b v ch):b < x.heap.size:=Xt h.v
theorem FreeC.set {x:World} {b:Nat} {v:Int} {ch:Option Nat} (h:FreeC x b v ch) (u:Int):FreeC (x.setCell (th b 0) (.int .i64 u)) b u ch :=
 ⟨World.cell?_setCell_same (w:=x) (a:=th b 0) (v:=.int .i64 u) h.v,Xi (by simp [th]) h.made,Xi (by simp [th]) h.mu,Xi (by simp [th]) h.hch,fun k=>by rw [QU];exact h.fr k,
  fun c e=>⟨(Xb (h.op c e).2).trans (h.op c e).1,(h.op c e).2⟩⟩
theorem FreeC.old {x y:World} {b:Nat} {v:Int} {ch:Option Nat} (h:FreeC x b v ch) (o:Xg x y):FreeC y b v ch:=by
 have hb:y.heap[b]? = x.heap[b]?:=o.2 b h.lt;have hc:∀ k,y.cell? (th b k)=x.cell? (th b k):=fun k=>by unfold World.cell?;rw [show (th b k).block=b from rfl,hb]
 exact ⟨(hc 0).trans h.v,(hc 1).trans h.made,(hc 2).trans h.mu,(hc 4).trans h.hch,fun k=>by have:=h.fr k;unfold World.frozen? at this ⊢;rw [show (th b k).block=b from rfl] at this ⊢;rw [hb];exact this,
  fun c e=>⟨(o.2 c (GE (h.op c e).1).1).trans (h.op c e).1,(h.op c e).2⟩⟩
structure After (x z:World) (b:Nat) (v':Int) (ch:Option Nat):Prop where
 cell:∃ ch',FreeC z b v' ch'∧∀ c,ch'=some c→ch=some c∨x.heap.size≤c
 size:x.heap.size≤z.heap.size
 old:∀ r,r < x.heap.size→r≠b→ch≠some r→z.heap[r]? = x.heap[r]?
theorem Dead.cells {x z:World} {tv:Value} (h:Dead x tv) (ho:∀ tb,tv=P0 tb→z.heap[tb]? = x.heap[tb]?):Dead z tv:=by
 rcases h with rfl|⟨tb,rb,rfl,h0,h13⟩
 ·exact .inl rfl
 ·have hb:=ho tb rfl
  have hc:∀ k,z.cell? (th tb k)=x.cell? (th tb k):=fun k=>by unfold World.cell?;rw [show (th tb k).block=tb from rfl,hb]
  exact .inr ⟨tb,rb,rfl,(hc 0).trans h0,(hc 13).trans h13⟩
section
variable {Post:Value→World→Prop} {C:Ctx} {x:World} {c:Frame} {cs:List Frame} {b:Nat} {v:Int} {ch:Option Nat} {tv:Value}
theorem deadLive_J (ht:Dead x tv) (h:JG Try.prog Post C (G (c.finish (.bool false)) cs) x):JG Try.prog Post C (G (Frame.enter Try.prog 100 #[tv] .normal) (c::cs)) x:=by
 rcases ht with rfl|⟨tb,rb,rfl,h0,h13⟩
 ·exact Xag h
 ·refine Xu Try.func100 (by rfl) (by rfl) ?_
  simp only [Try.f100,Option.getD_some];walk_nrm
  repeat refine kx ?_
  refine JG.ret ?_;exact JG.leave rfl rfl Try.func100 (fun τ d=>results_tmp (t:=2) rfl _ _ _) h
def closedW (x:World) (cc:Nat):World:={ x with heap:=x.heap.setIfInBounds cc (.chan 0 #[] true 0 0 false) }
theorem closedW_ne {x:World} {cc r:Nat} (h:r≠cc):(closedW x cc).heap[r]? = x.heap[r]?:=by
 simp [closedW,Array.getElem?_setIfInBounds,Ne.symm h]
theorem closedW_size (x:World) (cc:Nat):(closedW x cc).heap.size=x.heap.size:=by simp [closedW]
theorem run_close {x:World} {cc:Nat} {ts:Array TypeId} {t:TypeId} (h:x.heap[cc]? = some (.chan 0 #[] false 0 0 false)):(Builtin.close_ ts t #[.chan (some cc)]).run Try.prog x=.ok (.tuple #[]) (closedW x cc):=by
 have h1:(getObj cc).run Try.prog x=.ok (.chan 0 #[] false 0 0 false) x:=by simp [getObj,Sem.run,h]
 refine (Sem.run_bind (x:=getObj cc) ..).trans ?_;rw [h1];simp [Result.andThen,closedW,setObj,Sem.run,h]
theorem wakesC_J (hN:∀ r,¬ C.prot.objs r) (hc:FreeC x b v ch) (h:∀ z,After x z b v ch→JG Try.prog Post C (G (c.finish (.tuple #[])) cs) z) :
 JG Try.prog Post C (G (Frame.enter Try.prog 125 #[P0 b] .normal) (c::cs)) x:=by
 cases ch with
 | none=>exact XbQ hc.mu (hc.fr 2) hc.hch (h x ⟨⟨none,hc,fun c e=>by cases e⟩,Nat.le_refl _,fun _ _ _ _=>rfl⟩)
 | some cc =>
  obtain ⟨ho,hne⟩:=hc.op cc rfl;replace h:=HD h;have hcc:=HD hc;have h4:=hc.hch;refine Xu Try.func125 (by rfl) (by rfl) ?_;simp only [Try.f125,Option.getD_some];walk_nrm
  repeat refine kx ?_
  refine kf (args:=#[.pointer (some ⟨b,2,none⟩)]) Try.func147 ?_;refine XfV hc.mu (hc.fr 2) ?_;rw [Frame.finish_at];walk_nrm;have k4:=Xi (v:=.int .i32 1) (show (th b 4)≠(th b 2) by simp [th]) h4
  repeat refine kx ?_
  refine JG.defer (d:={ target:=.fn (.func 148) #[],args:=#[.pointer (some ⟨b,2,none⟩)] }) rfl (by rfl) (by decide) (fun w=>by simp [go_sem,execOp,Act.eval,resolve,Deferred.ofValue]) (fun w=>by simp [go_sem,execOp,Act.eval,resolve,Deferred.ofValue]) ?_
  try walk_nrm
  repeat refine kx ?_
  have hrun:∀ (ts:Array TypeId) (t:TypeId) τ d,(Builtin.close_ ts t #[.chan (some cc)]).run Try.prog (under (x.setCell (th b 2) (.int .i32 1)) τ d)=.ok (.tuple #[]) (under (closedW (x.setCell (th b 2) (.int .i32 1)) cc) τ d):=fun ts t τ d=>run_close ((Xb hne).trans ho);refine JG.close (m:=cc) rfl (by simp [Act.eval]) (hN cc) rfl (by rfl) (by decide) fun K E hK hE τ d=>?_;have hr:=hrun #[79] 0 τ d;go_simp;refine hK _ _ (jt ?_);clear hr hK hE K E τ d hrun
  try walk_nrm
  have hsz:(closedW (x.setCell (th b 2) (.int .i32 1)) cc).heap.size=x.heap.size:=by rw [closedW_size,Xh]
  have hb1:(closedW (x.setCell (th b 2) (.int .i32 1)) cc).heap[b]? = (x.setCell (th b 2) (.int .i32 1)).heap[b]?:=closedW_ne (fun e=>hne e.symm);have hold:∀ r,r≠b→r≠cc→(closedW (x.setCell (th b 2) (.int .i32 1)) cc).heap[r]? = x.heap[r]?:=fun r h1 h2=>(closedW_ne h2).trans (Xb h1);have hcell:∀ k,(closedW (x.setCell (th b 2) (.int .i32 1)) cc).cell? (th b k)=(x.setCell (th b 2) (.int .i32 1)).cell? (th b k):=fun k=>by unfold World.cell?;rw [show (th b k).block=b from rfl,hb1]
  have hfz:∀ k,(closedW (x.setCell (th b 2) (.int .i32 1)) cc).frozen? (th b k)=false:=fun k=>by
   have:=(QU x (th b 2) (th b k) (.int .i32 1)).trans (hcc.out.fr k)
   unfold World.frozen? at this ⊢;rw [show (th b k).block=b from rfl] at this ⊢;rw [hb1];exact this
  have g0:=(hcell 0).trans (Xi (v:=.int .i32 1) (show (th b 0)≠(th b 2) by simp [th]) hcc.out.v);have g1:=(hcell 1).trans (Xi (v:=.int .i32 1) (show (th b 1)≠(th b 2) by simp [th]) hcc.out.made);have g2:=(hcell 2).trans (World.cell?_setCell_same (w:=x) (a:=th b 2) (v:=.int .i32 1) hcc.out.mu);have g4:=(hcell 4).trans k4;generalize closedW (x.setCell (th b 2) (.int .i32 1)) cc=y at hsz hold hfz g0 g1 g2 g4 ⊢;clear hb1 hcell k4 h4 ho hc
  repeat refine kx ?_
  refine kst (And.intro g4 (hfz 4)) ?_;have q0:=Xi (v:=.chan none) (show (th b 0)≠(th b 4) by simp [th]) g0;have q1:=Xi (v:=.chan none) (show (th b 1)≠(th b 4) by simp [th]) g1;have q2:=Xi (v:=.chan none) (show (th b 2)≠(th b 4) by simp [th]) g2;have q4:=World.cell?_setCell_same (w:=y) (a:=th b 4) (v:=.chan none) g4;have qf:∀ k,(y.setCell (th b 4) (.chan none)).frozen? (th b k)=false:=fun k=>by rw [QU];exact hfz k
  repeat refine kx ?_
  refine JG.fin ?_;refine JG.unwind (m:=.returning) (by simp) rfl rfl Try.func148 (by rfl) (by rfl) ?_;refine XbS q2 (qf 2) ?_;refine JG.leave0 rfl rfl Try.func125 (by rfl) (h.out _ ⟨⟨none,⟨?_,?_,?_,?_,fun k=>by rw [QU];exact qf k,fun c e=>by cases e⟩,fun c e=>by cases e⟩,by rw [Xh,Xh];omega,fun r h1 h2 h3=>?_⟩)
  ·exact Xi (by simp [th]) q0
  ·exact Xi (by simp [th]) q1
  ·exact World.cell?_setCell_same (w:=y.setCell (th b 4) (.chan none)) (a:=th b 2) (v:=.int .i32 0) q2
  ·exact Xi (by simp [th]) q4
  ·rw [Xb (by exact h2),Xb (by exact h2),hold r h2 (fun e=>h3 (by rw [e]))]
theorem nextC_J (hc:FreeC x b v ch) (h:∀ z c',FreeC z b v (some c')→(ch=some c'∨x.heap.size≤c')→x.heap.size≤z.heap.size→(∀ r,r < x.heap.size→r≠b→ch≠some r→z.heap[r]? = x.heap[r]?)→JG Try.prog Post C (G (c.finish (.chan (some c'))) cs) z) :
 JG Try.prog Post C (G (Frame.enter Try.prog 128 #[P0 b] .normal) (c::cs)) x:=by
 replace h:=HD h;have hcc:=HD hc;have h4:=hc.hch;refine Xu Try.func128 (by rfl) (by rfl) ?_;simp only [Try.f128,Option.getD_some];walk_nrm
 repeat refine kx ?_
 refine kf (args:=#[.pointer (some ⟨b,2,none⟩)]) Try.func147 ?_;refine XfV hc.mu (hc.fr 2) ?_;rw [Frame.finish_at];walk_nrm;have k4:=Xi (v:=.int .i32 1) (show (th b 4)≠(th b 2) by simp [th]) h4
 repeat refine kx ?_
 refine JG.defer (d:={ target:=.fn (.func 148) #[],args:=#[.pointer (some ⟨b,2,none⟩)] }) rfl (by rfl) (by decide) (fun w=>by simp [go_sem,execOp,Act.eval,resolve,Deferred.ofValue]) (fun w=>by simp [go_sem,execOp,Act.eval,resolve,Deferred.ofValue]) ?_
 try walk_nrm
 clear hc h4;cases ch with
 | some cc =>
  repeat refine kx ?_
  refine JG.ret ?_;refine JG.unwind (m:=.returning) (by simp) rfl rfl Try.func148 (by rfl) (by rfl) ?_;refine XbS (World.cell?_setCell_same (w:=x) (a:=th b 2) (v:=.int .i32 1) hcc.out.mu) (by rw [QU];exact hcc.out.fr 2) ?_;rw [Xcl hcc.out.mu];exact JG.leave rfl rfl Try.func128 (fun τ d=>results_tmp (t:=2) rfl _ _ _) (h.out x cc hcc.out (.inl rfl) (Nat.le_refl _) (fun _ _ _ _=>rfl))
 | none =>
  have g0:=Xi (v:=.int .i32 1) (show (th b 0)≠(th b 2) by simp [th]) hcc.out.v;have g1:=Xi (v:=.int .i32 1) (show (th b 1)≠(th b 2) by simp [th]) hcc.out.made;have g2:=World.cell?_setCell_same (w:=x) (a:=th b 2) (v:=.int .i32 1) hcc.out.mu;have gf:∀ k,(x.setCell (th b 2) (.int .i32 1)).frozen? (th b k)=false:=fun k=>by rw [QU];exact hcc.out.fr k
  have hold:∀ r,r≠b→(x.setCell (th b 2) (.int .i32 1)).heap[r]? = x.heap[r]?:=fun r h1=>Xb h1;have hsz:(x.setCell (th b 2) (.int .i32 1)).heap.size=x.heap.size:=Xh _ _ _;have hbl:=hcc.out.lt;generalize x.setCell (th b 2) (.int .i32 1)=y at k4 g0 g1 g2 gf hold hsz ⊢
  repeat refine kx ?_
  refine ko fun K E hK hE τ d=>?_;have hmc:=XcI (under y τ d);go_simp;refine hK _ _ (jt (x:=y.alloc (.chan 0 #[] false 0 0 false)) ?_);simp only [Xs];clear hK hE K E τ d hmc
  try walk_nrm
  have a0:=XU (o:=.chan 0 #[] false 0 0 false) g0;have a1:=XU (o:=.chan 0 #[] false 0 0 false) g1;have a2:=XU (o:=.chan 0 #[] false 0 0 false) g2;have a4:=XU (o:=.chan 0 #[] false 0 0 false) k4;have an:(y.alloc (.chan 0 #[] false 0 0 false)).heap[y.heap.size]? = some (.chan 0 #[] false 0 0 false):=by rw [Xl,Array.getElem?_push,if_pos rfl]
  have ao:∀ r,r < y.heap.size→(y.alloc (.chan 0 #[] false 0 0 false)).heap[r]? = y.heap[r]?:=fun r h=>by rw [Xl,Array.getElem?_push,if_neg (by omega)]
  have af:∀ k,(y.alloc (.chan 0 #[] false 0 0 false)).frozen? (th b k)=false:=fun k=>by
   have:=gf k
   unfold World.frozen? at this ⊢;rw [show (th b k).block=b from rfl] at this ⊢;rw [ao b (by omega)];exact this
  have asz:(y.alloc (.chan 0 #[] false 0 0 false)).heap.size=y.heap.size + 1:=by simp
  generalize y.alloc (.chan 0 #[] false 0 0 false)=w at a0 a1 a2 a4 an ao af asz ⊢;generalize hcn:y.heap.size=cn at an ao asz ⊢
  repeat refine kx ?_
  refine kst (And.intro a4 (af 4)) ?_;have q0:=Xi (v:=.chan (some cn)) (show (th b 0)≠(th b 4) by simp [th]) a0;have q1:=Xi (v:=.chan (some cn)) (show (th b 1)≠(th b 4) by simp [th]) a1;have q2:=Xi (v:=.chan (some cn)) (show (th b 2)≠(th b 4) by simp [th]) a2;have q4:=World.cell?_setCell_same (w:=w) (a:=th b 4) (v:=.chan (some cn)) a4;have qf:∀ k,(w.setCell (th b 4) (.chan (some cn))).frozen? (th b k)=false:=fun k=>by rw [QU];exact af k
  repeat refine kx ?_
  refine JG.ret ?_;refine JG.unwind (m:=.returning) (by simp) rfl rfl Try.func148 (by rfl) (by rfl) ?_;refine XbS q2 (qf 2) ?_;have hcb:cn≠b:=by omega
  refine JG.leave rfl rfl Try.func128 (fun τ d=>results_tmp (t:=2) rfl _ _ _) (h.out _ cn ⟨?_,?_,?_,?_,fun k=>by rw [QU];exact qf k,fun c e=>?_⟩ (.inr (by omega)) (by rw [Xh,Xh];omega) fun r h1 h2 h3=>?_)
  ·exact Xi (by simp [th]) q0
  ·exact Xi (by simp [th]) q1
  ·exact World.cell?_setCell_same (w:=w.setCell (th b 4) (.chan (some cn))) (a:=th b 2) (v:=.int .i32 0) q2
  ·exact Xi (by simp [th]) q4
  ·obtain rfl:cn=c:=OI e
   exact ⟨by rw [Xb hcb,Xb hcb];exact an,hcb⟩
  ·rw [Xb h2,Xb h2,ao r (by omega),hold r h2]
end
theorem After.refl {x:World} {b:Nat} {v:Int} {ch:Option Nat} (h:FreeC x b v ch):After x x b v ch:=⟨⟨ch,h,fun c e=>.inl e⟩,Nat.le_refl _,fun _ _ _ _=>rfl⟩
theorem After.of_set {x z:World} {b:Nat} {u:Value} {v:Int} {ch:Option Nat} (h:After (x.setCell (th b 0) u) z b v ch):After x z b v ch:=by
 obtain ⟨⟨c',h1,h2⟩,h3,h4⟩:=h;rw [Xh] at h2 h3 h4;exact ⟨⟨c',h1,h2⟩,h3,fun r a1 a2 a3=>(h4 r a1 a2 a3).trans (Xb a2)⟩
theorem After.of_old {x y z:World} {b:Nat} {v:Int} {ch:Option Nat} (o:Xg x y) (h:After y z b v ch):After x z b v ch:=by
 obtain ⟨⟨c',h1,h2⟩,h3,h4⟩:=h;exact ⟨⟨c',h1,fun c e=>(h2 c e).imp id fun h=>Nat.le_trans o.1 h⟩,Nat.le_trans o.1 h3,fun r a1 a2 a3=>(h4 r (Nat.lt_of_lt_of_le a1 o.1) a2 a3).trans (o.2 r a1)⟩
section
variable {Post:Value→World→Prop} {C:Ctx} {x:World} {c:Frame} {cs:List Frame} {b:Nat} {v:Int} {ch:Option Nat} {tv:Value}
theorem loadC_J (hN:∀ r,¬ C.prot.objs r) (hc:FreeC x b v ch) (ht:Dead x tv) (h:∀ z,After x z b (v) ch→JG Try.prog Post C (G (c.finish (.int .i64 v)) cs) z) :
 JG Try.prog Post C (G (Frame.enter Try.prog 29 #[P0 b,tv] .normal) (c::cs)) x:=by
 replace h:=HD h;replace ht:=HD ht;refine Xu Try.func29 (by rfl) (by rfl) ?_;simp only [Try.f29,Option.getD_some];walk_nrm
 repeat refine kx ?_
 refine kf (args:=#[P0 b]) Try.func99 ?_;refine Vl hc.made ?_;rw [Frame.finish_at];walk_nrm
 repeat refine kx ?_
 refine kf (args:=#[tv]) Try.func100 ?_;refine deadLive_J ht.out ?_;rw [Frame.finish_at];walk_nrm
 repeat refine kx ?_
 refine kf (args:=#[P0 b]) Try.func102 ?_;refine Y1 hc.v ?_;rw [Frame.finish_at];walk_nrm
 repeat refine kx ?_
 refine JG.ret ?_;exact JG.leave rfl rfl Try.func29 (fun τ d=>results_tmp (t:=4) rfl _ _ _) (h.out x (After.refl hc))
theorem storeC_J {u:Int} (hN:∀ r,¬ C.prot.objs r) (hc:FreeC x b v ch) (ht:Dead x tv) (h:∀ z,After x z b (u) ch→JG Try.prog Post C (G (c.finish (.tuple #[])) cs) z) :
 JG Try.prog Post C (G (Frame.enter Try.prog 79 #[P0 b,tv,.int .i64 u] .normal) (c::cs)) x:=by
 replace h:=HD h;replace ht:=HD ht;refine Xu Try.func79 (by rfl) (by rfl) ?_;simp only [Try.f79,Option.getD_some];walk_nrm
 repeat refine kx ?_
 refine kf (args:=#[P0 b]) Try.func99 ?_;refine Vl hc.made ?_;rw [Frame.finish_at];walk_nrm
 repeat refine kx ?_
 refine kf (args:=#[tv]) Try.func100 ?_;refine deadLive_J ht.out ?_;rw [Frame.finish_at];walk_nrm
 repeat refine kx ?_
 refine kf (args:=#[P0 b,.int .i64 u]) Try.func80 ?_;refine VQ hc.v (hc.fr 0) ?_;rw [Frame.finish_at]
 try walk_nrm
 repeat refine kx ?_
 refine kf (args:=#[P0 b]) Try.func125 ?_;refine wakesC_J hN (hc.set (u)) fun z hz=>?_;rw [Frame.finish_at]
 try walk_nrm
 repeat refine kx ?_
 refine JG.fin ?_;exact JG.leave0 rfl rfl Try.func79 (by rfl) (h.out z hz.of_set)
theorem swapC_J {u:Int} (hN:∀ r,¬ C.prot.objs r) (hc:FreeC x b v ch) (ht:Dead x tv) (h:∀ z,After x z b (u) ch→JG Try.prog Post C (G (c.finish (.int .i64 v)) cs) z) :
 JG Try.prog Post C (G (Frame.enter Try.prog 75 #[P0 b,tv,.int .i64 u] .normal) (c::cs)) x:=by
 replace h:=HD h;replace ht:=HD ht;refine Xu Try.func75 (by rfl) (by rfl) ?_;simp only [Try.f75,Option.getD_some];walk_nrm
 repeat refine kx ?_
 refine kf (args:=#[P0 b]) Try.func99 ?_;refine Vl hc.made ?_;rw [Frame.finish_at];walk_nrm
 repeat refine kx ?_
 refine kf (args:=#[tv]) Try.func100 ?_;refine deadLive_J ht.out ?_;rw [Frame.finish_at];walk_nrm
 repeat refine kx ?_
 refine kf (args:=#[P0 b,.int .i64 u]) Try.func127 ?_;refine iswap_J hc.v (hc.fr 0) ?_;rw [Frame.finish_at]
 try walk_nrm
 repeat refine kx ?_
 refine kf (args:=#[P0 b]) Try.func125 ?_;refine wakesC_J hN (hc.set (u)) fun z hz=>?_;rw [Frame.finish_at]
 try walk_nrm
 repeat refine kx ?_
 refine JG.ret ?_;exact JG.leave rfl rfl Try.func75 (fun τ d=>results_tmp (t:=6) rfl _ _ _) (h.out z hz.of_set)
theorem addC_J {u:Int} (hN:∀ r,¬ C.prot.objs r) (hc:FreeC x b v ch) (ht:Dead x tv) (h:∀ z,After x z b (wrap64 (v + u)) ch→JG Try.prog Post C (G (c.finish (.int .i64 (wrap64 (v + u)))) cs) z) :
 JG Try.prog Post C (G (Frame.enter Try.prog 73 #[P0 b,tv,.int .i64 u] .normal) (c::cs)) x:=by
 replace h:=HD h;replace ht:=HD ht;refine Xu Try.func73 (by rfl) (by rfl) ?_;simp only [Try.f73,Option.getD_some];walk_nrm
 repeat refine kx ?_
 refine kf (args:=#[P0 b]) Try.func99 ?_;refine Vl hc.made ?_;rw [Frame.finish_at];walk_nrm
 repeat refine kx ?_
 refine kf (args:=#[tv]) Try.func100 ?_;refine deadLive_J ht.out ?_;rw [Frame.finish_at];walk_nrm
 repeat refine kx ?_
 refine kf (args:=#[P0 b,.int .i64 u]) Try.func124 ?_;refine Xf1 hc.v (hc.fr 0) ?_;rw [Frame.finish_at]
 try walk_nrm
 repeat refine kx ?_
 refine kf (args:=#[P0 b]) Try.func125 ?_;refine wakesC_J hN (hc.set (wrap64 (v + u))) fun z hz=>?_;rw [Frame.finish_at]
 try walk_nrm
 repeat refine kx ?_
 refine JG.ret ?_;exact JG.leave rfl rfl Try.func73 (fun τ d=>results_tmp (t:=6) rfl _ _ _) (h.out z hz.of_set)
theorem casC_J {o u:Int} (hN:∀ r,¬ C.prot.objs r) (hc:FreeC x b v ch) (ht:Dead x tv) (h:∀ z,After x z b (if v=o then u else v) ch→JG Try.prog Post C (G (c.finish (.bool (decide (v=o)))) cs) z) :
 JG Try.prog Post C (G (Frame.enter Try.prog 74 #[P0 b,tv,.int .i64 o,.int .i64 u] .normal) (c::cs)) x:=by
 replace h:=HD h;replace ht:=HD ht;refine Xu Try.func74 (by rfl) (by rfl) ?_;simp only [Try.f74,Option.getD_some];walk_nrm
 repeat refine kx ?_
 refine kf (args:=#[P0 b]) Try.func99 ?_;refine Vl hc.made ?_;rw [Frame.finish_at];walk_nrm
 repeat refine kx ?_
 refine kf (args:=#[tv]) Try.func100 ?_;refine deadLive_J ht.out ?_;rw [Frame.finish_at];walk_nrm
 repeat refine kx ?_
 refine kf (args:=#[P0 b,.int .i64 o,.int .i64 u]) Try.func126 ?_;refine XcT hc.v (hc.fr 0) ?_;rw [Frame.finish_at]
 by_cases e:v=o
 ·have h':=h.out
  rw [if_pos e,decide_eq_true e] at h';replace h:=HD h';clear h';rw [if_pos e,decide_eq_true e];clear e;walk_nrm
  repeat refine kx ?_
  refine kf (args:=#[P0 b]) Try.func125 ?_;refine wakesC_J hN (hc.set (u)) fun z hz=>?_;rw [Frame.finish_at]
  try walk_nrm
  repeat refine kx ?_
  refine JG.ret ?_;exact JG.leave rfl rfl Try.func74 (fun τ d=>results_tmp (t:=8) rfl _ _ _) (h.out z hz.of_set)
 ·have h':=h.out
  rw [if_neg e,decide_eq_false e] at h';replace h:=HD h';clear h';rw [if_neg e,decide_eq_false e];clear e;walk_nrm
  repeat refine kx ?_
  refine JG.ret ?_;exact JG.leave rfl rfl Try.func74 (fun τ d=>results_tmp (t:=8) rfl _ _ _) (h.out x (After.refl hc))
theorem parkC_J {u:Int} (hN:∀ r,¬ C.prot.objs r) (hc:FreeC x b v ch) (ht:Dead x tv) (hne:(v != u)=true) (h:∀ z,After x z b (v) ch→JG Try.prog Post C (G (c.finish (.int .i64 v)) cs) z) :
 JG Try.prog Post C (G (Frame.enter Try.prog 77 #[P0 b,tv,.int .i64 u] .normal) (c::cs)) x:=by
 replace h:=HD h;replace ht:=HD ht;refine Xu Try.func77 (by rfl) (by rfl) ?_;simp only [Try.f77,Option.getD_some];walk_nrm
 repeat refine kx ?_
 refine kf (args:=#[P0 b]) Try.func99 ?_;refine Vl hc.made ?_;rw [Frame.finish_at];walk_nrm
 repeat refine kx ?_
 refine kf (args:=#[tv]) Try.func100 ?_;refine deadLive_J ht.out ?_;rw [Frame.finish_at];walk_nrm
 repeat refine kx ?_
 refine JG.loop ?_
 repeat refine kx ?_
 refine kf (args:=#[P0 b]) Try.func128 ?_;refine nextC_J hc fun z c' hz h1 h2 h3=>?_;rw [Frame.finish_at]
 try walk_nrm
 repeat refine kx ?_
 refine kf (args:=#[P0 b]) Try.func102 ?_;refine Y1 hz.v ?_;rw [Frame.finish_at]
 try walk_nrm
 repeat refine kx ?_
 refine JG.ret ?_;exact JG.leave rfl rfl Try.func77 (fun τ d=>results_tmp (t:=6) rfl _ _ _) (h.out z ⟨⟨some c',hz,fun c e=>by obtain rfl:c'=c:=OI e;exact h1⟩,h2,h3⟩)
end
section
variable {Post:Value→World→Prop} {C:Ctx} {x:World} {c:Frame} {cs:List Frame} {tb rb num wk st b:Nat} {a:Xo} {vv:Value} {v:Int}
theorem XgY (htb:x.heap[tb]? = some (.cells (Yk rb num wk st vv a false) 184 (2,4))) (hop:a.op≠6)
 (h:JG Try.prog Post C (G (c.finish (.bool true)) cs) x):JG Try.prog Post C (G (Frame.enter Try.prog 153 #[P0 tb] .normal) (c::cs)) x:=by
 refine Xu Try.func153 (by rfl) (by rfl) ?_;simp only [Try.f153,Option.getD_some];walk_nrm
 repeat refine kx ?_
 refine JG.code (XO _) (by kernel_rfl) rfl (.inr (by kernel_rfl)) rfl (fun K R hK hR τ=>?_);replace hK:=HD hK;clear hR;have h13:(under x τ 0).cell? (th tb 13)=some (.bool false):=Xa htb 13;have h6:(under x τ 0).cell? (th tb 6)=some (.int .i8 a.op):=Xa htb 6;have hb:tb < (under x τ 0).heap.size:=Xt h13;have hq:(a.op != 6)=true:=by simp [bne,hop]
 have hq2:decide (a.op=6)=false:=by simp [hop]
 go_region
 all_goals (
  refine hK.out _ _ (jt (x:=x) (τ:=τ) (d:=1) ?_);clear hK h13 h6 hb K hq hq2
  repeat refine kx ?_
  refine JG.ret ?_;exact JG.leave rfl rfl Try.func153 (fun τ d=>results_tmp (t:=2) rfl _ _ _) h)
theorem XgX (htb:x.heap[tb]? = some (.cells (Yk rb num wk st (P0 b) a false) 184 (2,4))) (hop:a.op=6) (hv:x.cell? (th b 0)=some (.int .i64 v))
 (h:JG Try.prog Post C (G (c.finish (.bool (v != a.arg))) cs) x):JG Try.prog Post C (G (Frame.enter Try.prog 153 #[P0 tb] .normal) (c::cs)) x:=by
 refine Xu Try.func153 (by rfl) (by rfl) ?_;simp only [Try.f153,Option.getD_some];walk_nrm
 repeat refine kx ?_
 have h13:x.cell? (th tb 13)=some (.bool false):=Xa htb 13;have h6:x.cell? (th tb 6)=some (.int .i8 6):=(Xa htb 6).trans (by rw [← hop];rfl);have h4:x.cell? (th tb 4)=some (P0 b):=Xa htb 4;have h8:x.cell? (th tb 8)=some (.int .i64 a.arg):=Xa htb 8;refine JG.drawCallsG (fun i=>if i=17 then some 0 else none) (fun _=>.int .i64 v) (fun k z=>z=x) 1 (by kernel_rfl) (by kernel_rfl) (by decide) rfl ?_;apply Exists.intro;apply And.intro
 ·intro k hk z hz
  have hk':k=0∨k=1:=by omega
  rcases hk' with rfl|rfl
  ·rw [show z=x from hz]
   repeat first|(refine Xw.un (by rfl) (by rfl) ?_;try walk_nrm)|(refine Xw.rd (by rfl) (by rfl) (by rfl) (fun K hK τ d=>?_);go_simp;refine hK _ ?_;clear hK K τ d)|(refine Xw.rd (by rfl) (by rfl) (by rfl) (fun K hK τ d=>?_);have hfact:=uc τ d (h13);go_simp;refine hK _ ?_;clear hfact hK K τ d)|(refine Xw.rd (by rfl) (by rfl) (by rfl) (fun K hK τ d=>?_);have hfact:=uc τ d (h6);go_simp;refine hK _ ?_;clear hfact hK K τ d)|(refine Xw.rd (by rfl) (by rfl) (by rfl) (fun K hK τ d=>?_);have hfact:=uc τ d (h4);go_simp;refine hK _ ?_;clear hfact hK K τ d)|(refine Xw.rd (by rfl) (by rfl) (by rfl) (fun K hK τ d=>?_);have hfact:=uc τ d (h8);go_simp;refine hK _ ?_;clear hfact hK K τ d)
   refine Xw.cl (by rfl) (by rfl) (fun _=>⟨102,#[P0 b],fun w=>?_,fun w=>?_,fun c hc=>?_⟩) ?_
   iterate 2 (focus obtain ⟨fn, h1, h2, h3⟩ : Yb 102 := ⟨_, Try.func102, by kernel_rfl, by kernel_rfl⟩; have h4 : ¬ fn.name = "runtime.NumGoroutine" := (by simpa using h2); have h5 : ¬ fn.body = none := (by intro e; rw [e] at h3; cases h3); simp [go_sem, execOp, Act.eval, resolve, Deferred.ofValue, invoke, callFunc, h1, h4, h5] <;> decide +kernel)
   ·exact Y1 hv (hc _ rfl)
   repeat first|(refine Xw.un (by rfl) (by rfl) ?_;try walk_nrm)|(refine Xw.rd (by rfl) (by rfl) (by rfl) (fun K hK τ d=>?_);go_simp;refine hK _ ?_;clear hK K τ d)|(refine Xw.rd (by rfl) (by rfl) (by rfl) (fun K hK τ d=>?_);have hfact:=uc τ d (h13);go_simp;refine hK _ ?_;clear hfact hK K τ d)|(refine Xw.rd (by rfl) (by rfl) (by rfl) (fun K hK τ d=>?_);have hfact:=uc τ d (h6);go_simp;refine hK _ ?_;clear hfact hK K τ d)|(refine Xw.rd (by rfl) (by rfl) (by rfl) (fun K hK τ d=>?_);have hfact:=uc τ d (h4);go_simp;refine hK _ ?_;clear hfact hK K τ d)|(refine Xw.rd (by rfl) (by rfl) (by rfl) (fun K hK τ d=>?_);have hfact:=uc τ d (h8);go_simp;refine hK _ ?_;clear hfact hK K τ d)
   exact Xw.nil rfl
  ·rw [show z=x from hz]
   repeat first|(refine Xw.un (by rfl) (by rfl) ?_;try walk_nrm)|(refine Xw.rd (by rfl) (by rfl) (by rfl) (fun K hK τ d=>?_);go_simp;refine hK _ ?_;clear hK K τ d)|(refine Xw.rd (by rfl) (by rfl) (by rfl) (fun K hK τ d=>?_);have hfact:=uc τ d (h13);go_simp;refine hK _ ?_;clear hfact hK K τ d)|(refine Xw.rd (by rfl) (by rfl) (by rfl) (fun K hK τ d=>?_);have hfact:=uc τ d (h6);go_simp;refine hK _ ?_;clear hfact hK K τ d)|(refine Xw.rd (by rfl) (by rfl) (by rfl) (fun K hK τ d=>?_);have hfact:=uc τ d (h4);go_simp;refine hK _ ?_;clear hfact hK K τ d)|(refine Xw.rd (by rfl) (by rfl) (by rfl) (fun K hK τ d=>?_);have hfact:=uc τ d (h8);go_simp;refine hK _ ?_;clear hfact hK K τ d)
   refine Xw.cl (by rfl) (by rfl) (fun h=>by cases h) ?_
   repeat first|(refine Xw.un (by rfl) (by rfl) ?_;try walk_nrm)|(refine Xw.rd (by rfl) (by rfl) (by rfl) (fun K hK τ d=>?_);go_simp;refine hK _ ?_;clear hK K τ d)|(refine Xw.rd (by rfl) (by rfl) (by rfl) (fun K hK τ d=>?_);have hfact:=uc τ d (h13);go_simp;refine hK _ ?_;clear hfact hK K τ d)|(refine Xw.rd (by rfl) (by rfl) (by rfl) (fun K hK τ d=>?_);have hfact:=uc τ d (h6);go_simp;refine hK _ ?_;clear hfact hK K τ d)|(refine Xw.rd (by rfl) (by rfl) (by rfl) (fun K hK τ d=>?_);have hfact:=uc τ d (h4);go_simp;refine hK _ ?_;clear hfact hK K τ d)|(refine Xw.rd (by rfl) (by rfl) (by rfl) (fun K hK τ d=>?_);have hfact:=uc τ d (h8);go_simp;refine hK _ ?_;clear hfact hK K τ d)
   exact Xw.nil rfl
 ·intro z hz
  rw [show z=x from hz]
  try walk_nrm
  repeat refine kx ?_
  refine JG.ret ?_;exact JG.leave rfl rfl Try.func153 (fun τ d=>results_tmp (t:=2) rfl _ _ _) h
def VO (a:Xo) (e:Bool) (v:Int):Bool:=!e && (a.op != 6 || v != a.arg)
theorem XgB {e:Bool} (htb:x.heap[tb]? = some (.cells (Yk rb num wk st vv a e) 184 (2,4))) (hv:e=false→a.op=6→vv=P0 b∧x.cell? (th b 0)=some (.int .i64 v))
 (h:JG Try.prog Post C (G (c.finish (.bool (VO a e v))) cs) x):JG Try.prog Post C (G (Frame.enter Try.prog 153 #[P0 tb] .normal) (c::cs)) x:=by
 cases e with
 | true=>exact XgZ (Xa htb 13) (by simpa [VO] using h)
 | false =>
  by_cases ho:a.op=6
  ·obtain ⟨rfl,h2⟩:=hv rfl ho
   exact XgX htb ho h2 (by simpa [VO,ho] using h)
  ·refine XgY htb ho ?_
   have:VO a false v=true:=by simp [VO,ho]
   rw [this] at h;exact h
