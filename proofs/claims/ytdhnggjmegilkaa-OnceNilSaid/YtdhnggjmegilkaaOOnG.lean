/- OnceNil, whole. -/
import Derived.Test.YtdhnggjmegilkaaOOnC
import Derived.Test.YtdhnggjmegilkaaOOnE
set_option linter.all false
set_option maxRecDepth 100000
set_option maxHeartbeats 16000000
namespace Go.Proofs.Ytdhnggjmegilkaa
open Go.Conc Go.RowKit
open Go.ConcN (upd upd_same upd_ne)
set_option maxRecDepth 100000
def onP:Xx Unit Unit:=.acc ⟨1,0,0,0⟩ fun _=>.ret ()
theorem on_no:∀ p∈[onP],NoOut p:=fun p hp=>by
 rw [List.mem_singleton.1 hp];exact .acc fun _=>.ret _
def onrun:Int × Xp Unit:=((Xp.init () fun _=>0).start [onP]).runs (picked []) 9
theorem on_went:onrun.2.st.went = [0]:=by decide +kernel
abbrev onF:Value:=.func (.func 45) #[] #[]
def OnBox (bn bf bg bc cb:Nat) (x:World):Prop:=x.heap[bn]? = some (.cells #[.pointer none] 117 (0,0))∧x.heap[bf]? = some (.cells #[onF] 40 (0,0))∧x.heap[bg]? = some (.cells #[.bool true] 4 (0,0))∧x.heap[bc]? = some (.cells #[P0 cb] 29 (0,0))
theorem OnBox.of {bn bf bg bc cb:Nat} {x y:World} (h:OnBox bn bf bg bc cb x) (ho:∀ r,r=bn∨r=bf∨r=bg∨r=bc→r < x.heap.size→y.heap[r]? = x.heap[r]?):OnBox bn bf bg bc cb y:=by
 obtain ⟨h1,h2,h3,h4⟩:=h;have lt:∀ {r:Nat} {o:Obj},x.heap[r]? = some o→r < x.heap.size:=fun e=>(GE e).1;exact ⟨(ho _ (.inl rfl) (lt h1)).trans h1,(ho _ (.inr (.inl rfl)) (lt h2)).trans h2,(ho _ (.inr (.inr (.inl rfl))) (lt h3)).trans h3,(ho _ (.inr (.inr (.inr rfl))) (lt h4)).trans h4⟩
def onMore (bn bf bg bc cb:Nat) (h:bn≠cb∧bf≠cb∧bg≠cb∧bc≠cb):Xgc Unit (fun _=>cb) 1 where
 M:=fun _ col x=>OnBox bn bf bg bc cb x∧¬ col bn∧¬ col bf∧¬ col bg∧¬ col bc
 frame:=fun {sh col x} hM col' y hs ho hc=>by
  obtain ⟨h0,h1,h2,h3,h4⟩:=hM;have lt:∀ {r:Nat} {o:Obj},x.heap[r]? = some o→r < x.heap.size:=fun e=>(GE e).1;refine ⟨h0.of fun r hr hl=>ho r hl (by rcases hr with rfl|rfl|rfl|rfl<;>assumption) (fun _ _=>by rcases hr with rfl|rfl|rfl|rfl<;>simp [h]),fun e=>h1 (hc _ (lt h0.1) e),fun e=>h2 (hc _ (lt h0.2.1) e),fun e=>h3 (hc _ (lt h0.2.2.1) e),fun e=>h4 (hc _ (lt h0.2.2.2) e)⟩
abbrev onSide (bn bf bg bc cb:Nat) (h:bn≠cb∧bf≠cb∧bg≠cb∧bc≠cb):Zv Unit:=Xed (fun _=>cb) 1 (fun a b ha hb _=>by omega) (onMore bn bf bg bc cb h)
section
variable {Post:Value→World→Prop} {bn bf bg bc cb num m:Nat} {hne:bn≠cb∧bf≠cb∧bg≠cb∧bc≠cb}
theorem on_b:Vu Post (onSide bn bf bg bc cb hne) num m 46 #[P0 bn,P0 bf,P0 bg,P0 bc] onP:=by
 refine ⟨⟨_,Try.func46,by kernel_rfl,by kernel_rfl⟩,fun C x col sh cells tb rb cbf hd hL hct hcb hI R=>?_⟩;have hB:=hI.2.1;have ln:x.cell? (th bn 0)=some (.pointer none):=Xa hB.1 0;replace hI:=HD hI;replace R:=HD R;refine Xu Try.func46 (by rfl) (by rfl) ?_;simp only [Try.f46,Option.getD_some];walk_nrm
 repeat refine kx ?_
 refine ko fun K E hK hE τ d=>?_;go_simp;refine hK _ _ (jal fun y1 o1 w0 _=>?_);simp only [Xs];clear hK hE K E τ d;generalize hob:x.heap.size=ob at w0 ⊢;replace hob:=HD hob;refine ko fun K E hK hE τ d=>?_;go_simp;refine hK _ _ (jt (x:=y1.alloc (.cells #[.pointer none,P0 ob] 117)) ?_);simp only [Xs];clear hK hE K E τ d;have a0:(y1.alloc (.cells #[.pointer none,P0 ob] 117)).heap[y1.heap.size]? = some (.cells #[.pointer none,P0 ob] 117 (0,0)):=heap_alloc_new y1 _;have o2:=(Xg.refl y1).alloc (.cells #[.pointer none,P0 ob] 117);have w2:(y1.alloc (.cells #[.pointer none,P0 ob] 117)).heap[ob]? = some (.cells #[.pointer none] 120 (0,0)):=(o2.2 ob (GE w0).1).trans w0;have oz:=o1.trans o2;generalize y1.alloc (.cells #[.pointer none,P0 ob] 117)=z at a0 o2 w2 oz ⊢;generalize y1.heap.size=ab at a0 ⊢;clear o1 o2 w0 ln;have hBz:OnBox bn bf bg bc cb z:=hB.of fun r _ hr=>oz.2 r hr;have ln:z.cell? (th bn 0)=some (.pointer none):=Xa hBz.1 0;have nf:z.cell? (th bf 0)=some onF:=Xa hBz.2.1 0;have hg0:z.cell? (th bg 0)=some (.bool true):=Xa hBz.2.2.1 0;have hgf:z.frozen? (th bg 0)=false:=Xe hBz.2.2.1 0;have he0:z.cell? (th ab 0)=some (.pointer none):=Xa a0 0;have he1:z.cell? (th ab 1)=some (P0 ob):=Xa a0 1;have ho0:z.cell? (th ob 0)=some (.pointer none):=Xa w2 0;replace oz:=HD oz;replace hBz:=HD hBz;clear a0 w2
 repeat refine kx ?_
 refine JG.loop ?_
 repeat refine kx ?_
 refine kf (args:=#[.pointer none,P0 tb,.func (.func 45) #[] #[]]) Try.func47 ?_;refine doNone_J (.inl rfl) ?_;rw [Frame.finish_at];walk_nrm
 repeat refine kx ?_
 refine kf (args:=#[.pointer none,P0 tb]) Try.func48 ?_;refine doneNone_J (.inl rfl) ?_;rw [Frame.finish_at];walk_nrm
 repeat refine kx ?_
 refine kst (And.intro hg0 hgf) ?_;rw [setCell_self hg0]
 repeat refine kx ?_
 refine JG.inLoop ?_;rw [show IntKind.i64.wrap 1=1 from by decide +kernel]
 repeat refine kx ?_
 refine kf (args:=#[P0 ob,P0 tb,.func (.func 45) #[] #[]]) Try.func47 ?_;refine doNone_J (.inr ⟨ob,rfl,ho0⟩) ?_;rw [Frame.finish_at];walk_nrm
 repeat refine kx ?_
 refine kf (args:=#[P0 ob,P0 tb]) Try.func48 ?_;refine doneNone_J (.inr ⟨ob,rfl,ho0⟩) ?_;rw [Frame.finish_at];walk_nrm
 repeat refine kx ?_
 refine kst (And.intro hg0 hgf) ?_;rw [setCell_self hg0]
 repeat refine kx ?_
 refine JG.inLoop ?_;rw [show IntKind.i64.wrap 2=2 from by decide +kernel]
 repeat refine kx ?_
 refine JG.exit (by rfl) ?_
 try walk_nrm
 repeat refine kx ?_
 refine kf (args:=#[]) Try.func49 ?_;refine onceNew_J fun z2 nb oq lnb wb _=>?_;rw [Frame.finish_at];walk_nrm;have hB2:OnBox bn bf bg bc cb z2:=hBz.out.of fun r _ hr=>oq.2 r hr;have oz2:=oz.out.trans oq;have nbf:z2.cell? (th nb 0)=some (P0 z.heap.size):=Xa wb 0;clear ln nf hg0 hgf he0 he1 ho0 oz hBz wb;have ln:z2.cell? (th bn 0)=some (.pointer none):=Xa hB2.1 0;have hg0:z2.cell? (th bg 0)=some (.bool true):=Xa hB2.2.2.1 0;have hgf:z2.frozen? (th bg 0)=false:=Xe hB2.2.2.1 0;have hc0:z2.cell? (th bc 0)=some (P0 cb):=Xa hB2.2.2.2 0;replace hB2:=HD hB2;replace oz2:=HD oz2;replace oq:=HD oq
 repeat refine kx ?_
 refine kf (args:=#[P0 nb,P0 tb,.nilFunc]) Try.func47 ?_;refine doNilF_J nbf ?_;rw [Frame.finish_at];walk_nrm
 repeat refine kx ?_
 refine kf (args:=#[.pointer none,P0 tb,.nilFunc]) Try.func47 ?_;refine doNone_J (.inl rfl) ?_;rw [Frame.finish_at];walk_nrm
 repeat refine kx ?_
 refine kst (And.intro hg0 hgf) ?_;rw [setCell_self hg0]
 repeat refine kx ?_
 have hI2:(onSide bn bf bg bc cb hne).I sh cells col z2:=(onSide bn bf bg bc cb hne).frame hI.out col z2 oz2.out.1 (fun r hl _=>oz2.out.2 r hl) (fun _ _=>id);have hR:Q6 Post (onSide bn bf bg bc cb hne) num tb rb cbf m none_ C z2 ⟨1,0,0,0⟩ (fun _=>.ret ()):=Reach.step0 (x0:=x) R.out oz2.out.1 (fun r hr=>oz2.out.2 r (hcb r hr)) hI2 (fun _ _=>id);replace hR:=HD hR;obtain ⟨hc1,hc2⟩:=hI2.1 0 (by decide);have hL2:Qn z2 tb rb:=⟨oz2.out.cell hL.1,oz2.out.cell hL.2.1,hL.2.2⟩
 clear hI2 R hI hB2 oz2 oq;refine kf (args:=#[P0 cb,P0 tb]) Try.func29 ?_;refine cellLoad_R (S:=onSide bn bf bg bc cb hne) (i:=0) hc1.c1 hL2 (show 0 < 1 from Nat.zero_lt_one) hR.out (XR.body (fun C x h=>JG.raise rfl Try.func46 h) (fun m' _ C y col' sh' cells' a hd' hL' hct' hcb' _ _ hI' R'=>?_));rw [Frame.finish_at];walk_nrm;have hR':=Reach.end0 R' (x:=y) (Nat.le_refl _) (fun r hr=>rfl) hI' (fun _ _ _ h=>h.elim);replace hR':=HD hR';clear R' hI'
 repeat refine kx ?_
 first|refine JG.fin ?_|refine JG.done (JG.fin ?_)
 exact JG.leave0 rfl rfl Try.func46 (by rfl) (hR'.out _)
end
section
variable {Post:Value→World→Prop} {C:Ctx} {x:World} {c:Frame} {cs:List Frame} {b cb nb:Nat} {u:Int}
theorem doFirst_J (hb:x.heap[b]? = some (.cells #[P0 cb] 120 (0,0))) (hc:XN x cb 0) (hn:x.heap[nb]? = some (.cells #[.int .i64 0] 3 (0,0)))
 (h:∀ y,x.heap.size≤y.heap.size→(∀ r,r < x.heap.size→r≠cb→r≠nb→y.heap[r]? = x.heap[r]?)→XN y cb 2→y.heap[nb]? = some (.cells #[.int .i64 1] 3 (0,0))→JG Try.prog Post C (G (c.finish (.tuple #[.bool true,.int .i64 0])) cs) y) :
 JG Try.prog Post C (G (Frame.enter Try.prog 47 #[P0 b,.pointer none,cntF nb] .normal) (c::cs)) x:=by
 replace h:=HD h;have nbc:nb≠cb:=fun e=>by rw [e] at hn;exact absurd (congrArg (fun o=>match o with|some (.cells _ t _)=>t|_=>0) (hn.symm.trans hc)) (Nat.ne_of_beq_eq_false rfl)
 have nbc':b≠cb:=fun e=>by rw [e] at hb;exact absurd (congrArg (fun o=>match o with|some (.cells _ t _)=>t|_=>0) (hb.symm.trans hc)) (Nat.ne_of_beq_eq_false rfl)
 have lo:x.cell? (th b 0)=some (P0 cb):=Xa hb 0;have fc:=HD hc.free;have c1:XN (x.setCell (th cb 0) (.int .i64 1)) cb 1:=hc.set 1;have b1:(x.setCell (th cb 0) (.int .i64 1)).heap[b]? = some (.cells #[P0 cb] 120 (0,0)):=(Xb nbc').trans hb;have n1:(x.setCell (th cb 0) (.int .i64 1)).heap[nb]? = some (.cells #[.int .i64 0] 3 (0,0)):=(Xb nbc).trans hn;have hs:x.heap.size=(x.setCell (th cb 0) (.int .i64 1)).heap.size:=(Xh ..).symm;have hold:∀ r,r≠cb→(x.setCell (th cb 0) (.int .i64 1)).heap[r]? = x.heap[r]?:=fun r hr=>Xb hr;replace hold:=HD hold;replace hs:=HD hs;replace c1:=HD c1;replace b1:=HD b1;replace n1:=HD n1;clear hb hc hn;refine Xu Try.func47 (by rfl) (by rfl) ?_;simp only [Try.f47,Option.getD_some];walk_nrm
 repeat refine kx ?_
 refine kf (args:=#[P0 b]) Try.func114 ?_;refine realO_J lo ?_;rw [Frame.finish_at];walk_nrm
 repeat refine kx ?_
 refine JG.loop ?_
 repeat refine kx ?_
 refine kf (args:=#[P0 cb,.pointer none]) Try.func29 ?_;refine UG fc.out ?_;rw [Frame.finish_at];walk_nrm
 repeat refine kx ?_
 refine kf (args:=#[P0 cb,.pointer none,.int .i64 0,.int .i64 1]) Try.func74 ?_;refine XgA fc.out ?_;rw [if_pos rfl,decide_eq_true rfl,Frame.finish_at];walk_nrm;clear lo;generalize x.setCell (th cb 0) (.int .i64 1)=y at c1 b1 n1 hold hs ⊢
 repeat refine kx ?_
 refine kf (args:=#[P0 b,.pointer none,cntF nb]) Try.func115 ?_;refine runs_J b1.out c1.out n1.out fun z s1 s2 s3 s4=>?_;rw [Frame.finish_at]
 try walk_nrm
 have hz:=h.out z (by rw [hs.out];exact s1) (fun r hr hrc hrn=>(s2 r (hs.out ▸ hr) hrc hrn).trans (hold.out r hrc)) s3 s4;clear h c1 b1 n1 hold hs fc s1 s2 s3 s4
 repeat refine kx ?_
 refine JG.ret ?_;exact JG.leave rfl rfl Try.func47 (fun τ d=>results_tmp2 (t:=6) (u:=7) rfl _ _ _) hz
theorem doAgain_J (lo:x.cell? (th b 0)=some (P0 cb)) (hc:XN x cb 2) (h:JG Try.prog Post C (G (c.finish (.tuple #[.bool false,.int .i64 0])) cs) x) :
 JG Try.prog Post C (G (Frame.enter Try.prog 47 #[P0 b,.pointer none,cntF nb] .normal) (c::cs)) x:=by
 have fc:=HD hc.free;clear hc;refine Xu Try.func47 (by rfl) (by rfl) ?_;simp only [Try.f47,Option.getD_some];walk_nrm
 repeat refine kx ?_
 refine kf (args:=#[P0 b]) Try.func114 ?_;refine realO_J lo ?_;rw [Frame.finish_at];walk_nrm
 repeat refine kx ?_
 refine JG.loop ?_
 repeat refine kx ?_
 refine kf (args:=#[P0 cb,.pointer none]) Try.func29 ?_;refine UG fc.out ?_;rw [Frame.finish_at];walk_nrm
 repeat refine kx ?_
 refine JG.ret ?_;exact JG.leave rfl rfl Try.func47 (fun τ d=>results_tmp2 (t:=6) (u:=7) rfl _ _ _) h
theorem done_J (lo:x.cell? (th b 0)=some (P0 cb)) (hc:XN x cb 2) (h:JG Try.prog Post C (G (c.finish (.tuple #[.bool true,.int .i64 0])) cs) x) :
 JG Try.prog Post C (G (Frame.enter Try.prog 48 #[P0 b,.pointer none] .normal) (c::cs)) x:=by
 have fc:=HD hc.free;clear hc;refine Xu Try.func48 (by rfl) (by rfl) ?_;simp only [Try.f48,Option.getD_some];walk_nrm
 repeat refine kx ?_
 refine kf (args:=#[P0 b]) Try.func114 ?_;refine realO_J lo ?_;rw [Frame.finish_at];walk_nrm
 repeat refine kx ?_
 refine kf (args:=#[P0 cb,.pointer none]) Try.func29 ?_;refine UG fc.out ?_;rw [Frame.finish_at];walk_nrm
 repeat refine kx ?_
 refine JG.ret ?_;exact JG.leave rfl rfl Try.func48 (fun τ d=>results_tmp2 (t:=4) (u:=5) rfl _ _ _) h
theorem works_J (h:∀ y,Xg x y→JG Try.prog Post C (G (c.finish (.bool true)) cs) y) :
 JG Try.prog Post C (G (Frame.enter Try.prog 51 #[] .normal) (c::cs)) x:=by
 replace h:=HD h;refine Xu Try.func51 (by rfl) (by rfl) ?_;simp only [Try.f51,Option.getD_some];walk_nrm
 repeat refine kx ?_
 refine kf (args:=#[]) Try.func49 ?_;refine onceNew_J fun y1 b o1 lb b1 c1=>?_;rw [Frame.finish_at];walk_nrm;generalize hcb:x.heap.size=cb at lb b1 c1 ⊢;replace lb:=HD lb;replace o1:=HD o1;replace hcb:=HD hcb
 repeat refine kx ?_
 refine ko fun K E hK hE τ d=>?_;go_simp;refine hK _ _ (jt (x:=y1.alloc (.cells #[.int .i64 0] 3)) ?_);simp only [Xs];clear hK hE K E τ d;have o2:=(Xg.refl y1).alloc (.cells #[.int .i64 0] 3);have n2:(y1.alloc (.cells #[.int .i64 0] 3)).heap[y1.heap.size]? = some (.cells #[.int .i64 0] 3 (0,0)):=heap_alloc_new y1 _;have b2:=(o2.2 b (GE b1).1).trans b1;have c2:XN (y1.alloc (.cells #[.int .i64 0] 3)) cb 0:=(o2.2 cb (GE c1).1).trans c1;have oo:=o1.out.trans o2;have lnb:x.heap.size≤y1.heap.size:=o1.out.1;generalize y1.alloc (.cells #[.int .i64 0] 3)=y2 at n2 b2 c2 oo ⊢;generalize y1.heap.size=nb at n2 lnb ⊢;clear o1 o2 b1 c1 y1;have nv:y2.cell? (th nb 0)=some (.int .i64 0):=Xa n2 0;replace oo:=HD oo;replace lnb:=HD lnb
 repeat refine kx ?_
 refine kst (And.intro nv (Xe n2 0)) ?_;rw [setCell_self nv]
 repeat refine kx ?_
 refine kf (args:=#[P0 b,.pointer none,cntF nb]) Try.func47 ?_;refine doFirst_J b2 c2 n2 fun y3 s1 s2 c3 n3=>?_;rw [Frame.finish_at]
 try walk_nrm
 have nbc':b≠cb:=fun e=>by rw [e] at b2;exact absurd (congrArg (fun o=>match o with|some (.cells _ t _)=>t|_=>0) (b2.symm.trans c2)) (Nat.ne_of_beq_eq_false rfl)
 have nbn:b≠nb:=fun e=>by rw [e] at b2;exact absurd (congrArg (fun o=>match o with|some (.cells _ t _)=>t|_=>0) (b2.symm.trans n2)) (Nat.ne_of_beq_eq_false rfl)
 have b3:=(s2 b (GE b2).1 nbc' nbn).trans b2;have o3:Xg x y3:=⟨Nat.le_trans oo.out.1 s1,fun r hr=>(s2 r (Nat.lt_of_lt_of_le hr oo.out.1) (by have:=hcb.out;omega) (by have:=lnb.out;omega)).trans (oo.out.2 r hr)⟩
 clear oo s1 s2 c2 n2 b2 nv nbn nbc' y2;have lo:y3.cell? (th b 0)=some (P0 cb):=Xa b3 0;replace o3:=HD o3;replace n3:=HD n3
 repeat refine kx ?_
 refine kf (args:=#[P0 b,.pointer none,cntF nb]) Try.func47 ?_;refine doAgain_J lo c3 ?_;rw [Frame.finish_at]
 try walk_nrm
 repeat refine kx ?_
 refine kf (args:=#[P0 b,.pointer none]) Try.func48 ?_;refine done_J lo c3 ?_;rw [Frame.finish_at]
 try walk_nrm
 replace c3:=HD c3
 repeat refine kx ?_
 refine kf (args:=#[seven]) Try.func52 ?_;refine newLazy_J ?_;rw [Frame.finish_at]
 try walk_nrm
 have o4:=(Xg.refl y3).alloc (.cells #[.int .u32 0,.int .i32 0,.int .u32 0,seven,.int .i64 0,.int .i64 0] 134);have z4:(y3.alloc (.cells #[.int .u32 0,.int .i32 0,.int .u32 0,seven,.int .i64 0,.int .i64 0] 134)).heap[y3.heap.size]? = some (lz 0 0 0 seven):=heap_alloc_new y3 _;have n4:=(o4.2 nb (GE n3.out).1).trans n3.out;have oo:=o3.out.trans o4;have hlt:=(GE n3.out).1;have hle:=o3.out.1;clear n3 o3 lo c3 b3;generalize y3.alloc (.cells #[.int .u32 0,.int .i32 0,.int .u32 0,seven,.int .i64 0,.int .i64 0] 134)=y4 at o4 z4 n4 oo ⊢;generalize y3.heap.size=lb' at z4 hlt hle ⊢;clear o4 y3;replace oo:=HD oo;replace n4:=HD n4;replace hlt:=HD hlt;replace hle:=HD hle
 repeat refine kx ?_
 refine kf (args:=#[P0 lb']) Try.func50 ?_;refine get_J z4 fun y5 s1 s2=>?_;rw [Frame.finish_at]
 try walk_nrm
 have n5:=(s2 nb (GE n4.out).1 (by have:=hlt.out;omega)).trans n4.out;have hy:=h.out y5 ⟨Nat.le_trans oo.out.1 s1,fun r hr=>(s2 r (Nat.lt_of_lt_of_le hr oo.out.1) (by have:=hle.out;omega)).trans (oo.out.2 r hr)⟩;clear s1 s2 oo n4 hlt hle z4 h;have nv:y5.cell? (th nb 0)=some (.int .i64 1):=Xa n5 0;clear n5
 repeat refine kx ?_
 refine JG.ret ?_;exact JG.leave rfl rfl Try.func51 (fun τ d=>results_tmp (t:=0) rfl _ _ _) hy
end
theorem fresh (y:World) (v0:Value) (t:TypeId):(y.alloc (.cells #[v0] t)).heap[y.heap.size]? = some (.cells #[v0] t (0,0))∧Xg y (y.alloc (.cells #[v0] t))∧(y.alloc (.cells #[v0] t)).heap.size=y.heap.size + 1 :=
 ⟨heap_alloc_new y _,(Xg.refl y).alloc _,by simp⟩
theorem boxed (y:World) (v0 v:Value) (t:TypeId):((y.alloc (.cells #[v0] t)).setCell (th y.heap.size 0) v).heap[y.heap.size]? = some (.cells #[v] t (0,0))∧Xg y ((y.alloc (.cells #[v0] t)).setCell (th y.heap.size 0) v)∧((y.alloc (.cells #[v0] t)).setCell (th y.heap.size 0) v).heap.size=y.heap.size + 1:=by
 obtain ⟨h1,h2,h3⟩:=fresh y v0 t;exact ⟨by rw [Xd h1];rfl,⟨by rw [Xh];exact h2.1,fun r hr=>by rw [Xb (by omega)];exact h2.2 r hr⟩,by rw [Xh];exact h3⟩
section
variable {Post:Value→World→Prop} {C:Ctx} {x:World}
theorem onceNil_all (hC:XgL C x) (h:XgT Post C x) :
 JG Try.prog Post C (G (Frame.enter Try.prog 9 #[] .normal) []) x:=by
 replace hC:=HD hC;replace h:=HD h;refine Xu Try.func9 (by rfl) (by rfl) ?_;simp only [Try.f9,Option.getD_some];walk_nrm
 repeat refine kx ?_
 refine ko fun K E hK hE τ d=>?_;go_simp;refine hK _ _ (jt (x:=x.alloc (.cells #[.pointer none] 117)) ?_);simp only [Xs];clear hK hE K E τ d;obtain ⟨kbn,obn,sbn⟩:=fresh x (.pointer none) 117;generalize x.alloc (.cells #[.pointer none] 117)=y1 at kbn obn sbn ⊢;generalize hbn:x.heap.size=bn at kbn sbn ⊢;replace kbn:=HD kbn;replace obn:=HD obn;replace sbn:=HD sbn;replace hbn:=HD hbn
 repeat refine kx ?_
 refine ko fun K E hK hE τ d=>?_;go_simp;refine hK _ _ (jt (x:=y1.alloc (.cells #[.nilFunc] 40)) ?_);simp only [Xs];clear hK hE K E τ d;refine kst (And.intro (Xa (heap_alloc_new y1 (.cells #[.nilFunc] 40)) 0) (Xe (heap_alloc_new y1 (.cells #[.nilFunc] 40)) 0)) ?_;obtain ⟨kbf,obf,sbf⟩:=boxed y1 (.nilFunc) (.func (.func 45) #[] #[]) 40;generalize (y1.alloc (.cells #[.nilFunc] 40)).setCell (th y1.heap.size 0) (.func (.func 45) #[] #[])=y2 at kbf obf sbf ⊢;generalize hbf:y1.heap.size=bf at kbf sbf ⊢;replace kbf:=HD kbf;replace obf:=HD obf;replace sbf:=HD sbf;replace hbf:=HD hbf
 repeat refine kx ?_
 refine kf (args:=#[.int .i64 0]) Try.func14 ?_;refine cellNewI_J fun y3 o3 i3 s3=>?_;rw [Frame.finish_at];walk_nrm;generalize hcb:y2.heap.size=cb at i3 s3 ⊢;replace i3:=HD i3;replace o3:=HD o3;replace s3:=HD s3;replace hcb:=HD hcb
 repeat refine kx ?_
 refine ko fun K E hK hE τ d=>?_;go_simp;refine hK _ _ (jt (x:=y3.alloc (.cells #[.pointer none] 29)) ?_);simp only [Xs];clear hK hE K E τ d;refine kst (And.intro (Xa (heap_alloc_new y3 (.cells #[.pointer none] 29)) 0) (Xe (heap_alloc_new y3 (.cells #[.pointer none] 29)) 0)) ?_;obtain ⟨kbc,obc,sbc⟩:=boxed y3 (.pointer none) (P0 cb) 29;generalize (y3.alloc (.cells #[.pointer none] 29)).setCell (th y3.heap.size 0) (P0 cb)=y4 at kbc obc sbc ⊢;generalize hbc:y3.heap.size=bc at kbc sbc ⊢;replace kbc:=HD kbc;replace obc:=HD obc;replace sbc:=HD sbc;replace hbc:=HD hbc
 repeat refine kx ?_
 refine ko fun K E hK hE τ d=>?_;go_simp;refine hK _ _ (jt (x:=y4.alloc (.cells #[.bool false] 4)) ?_);simp only [Xs];clear hK hE K E τ d;refine kst (And.intro (Xa (heap_alloc_new y4 (.cells #[.bool false] 4)) 0) (Xe (heap_alloc_new y4 (.cells #[.bool false] 4)) 0)) ?_;obtain ⟨kbg,obg,sbg⟩:=boxed y4 (.bool false) (.bool true) 4;generalize (y4.alloc (.cells #[.bool false] 4)).setCell (th y4.heap.size 0) (.bool true)=y5 at kbg obg sbg ⊢;generalize hbg:y4.heap.size=bg at kbg sbg ⊢;replace kbg:=HD kbg;replace obg:=HD obg;replace sbg:=HD sbg;replace hbg:=HD hbg
 repeat refine kx ?_
 refine ko fun K E hK hE τ d=>?_;go_simp;refine hK _ _ (jt (x:=y5.alloc (.cells #[.func (.func 46) #[] #[P0 bn,P0 bf,P0 bg,P0 bc]] 40)) ?_);simp only [Xs];clear hK hE K E τ d;obtain ⟨kbb,obb,sbb⟩:=fresh y5 (.func (.func 46) #[] #[P0 bn,P0 bf,P0 bg,P0 bc]) 40;generalize y5.alloc (.cells #[.func (.func 46) #[] #[P0 bn,P0 bf,P0 bg,P0 bc]] 40)=w1 at kbb obb sbb ⊢;generalize hbb:y5.heap.size=bb at kbb sbb ⊢;replace kbb:=HD kbb;replace obb:=HD obb;replace sbb:=HD sbb;replace hbb:=HD hbb;have n1:bn=x.heap.size:=hbn.out.symm;have n2:bf=x.heap.size + 1:=by have:=hbf.out;have:=sbn.out;omega
 have n3:cb=x.heap.size + 2:=by have:=hcb.out;have:=sbf.out;omega
 have n4:bc=x.heap.size + 3:=by have:=hbc.out;have:=s3.out;omega
 have n5:bg=x.heap.size + 4:=by have:=hbg.out;have:=sbc.out;omega
 have n6:bb=x.heap.size + 5:=by have:=hbb.out;have:=sbg.out;omega
 have n7:w1.heap.size=x.heap.size + 6:=by have:=sbb.out;omega
 have p5:=obb.out;have p4:=obg.out.trans p5;have p3:=obc.out.trans p4;have p2:=o3.out.trans p3;have p1:=obf.out.trans p2;have p0:=obn.out.trans p1;have wB:OnBox bn bf bg bc cb w1:=⟨(p1.2 bn (GE kbn.out).1).trans kbn.out,(p2.2 bf (GE kbf.out).1).trans kbf.out,(p5.2 bg (GE kbg.out).1).trans kbg.out,(p4.2 bc (GE kbc.out).1).trans kbc.out⟩
 have wC:XN w1 cb 0:=(p3.2 cb (GE i3.out).1).trans i3.out;clear p1 p2 p3 p4 p5 kbn kbf kbg kbc i3 o3 obn obf obg obc obb sbn sbf sbg sbc s3 hbn hbf hbg hbc hcb hbb sbb y1 y2 y3 y4 y5;have hne:bn≠cb∧bf≠cb∧bg≠cb∧bc≠cb:=by omega
 have nn:=HD (And.intro n1 (And.intro n2 (And.intro n3 (And.intro n4 (And.intro n5 (And.intro n6 n7))))));clear n1 n2 n3 n4 n5 n6 n7;replace p0:=HD p0;replace wB:=HD wB;replace wC:=HD wC
 repeat refine kx ?_
 refine kf (args:=#[.slice none 0 0,.int .i64 9,.slice (some ⟨bb,0,none⟩) 1 1]) Try.func18 ?_;refine Xgq (S:=onSide bn bf bg bc cb hne) (Kp:=fun r=>r < x.heap.size∨r=bb) (picks:=[]) (most:=9) (m:=9) (bodies:=[⟨46,#[P0 bn,P0 bf,P0 bg,P0 bc],onP⟩]) (sh:=()) (cells:=fun _=>0) (by decide) hC.out.2.1 (by have h1:=hC.out.1;have h2:=hC.out.2.2.1;omega) (by have h1:=hC.out.2.2.2.2;have:=p0.out.1;obtain ⟨n1,n2,n3,n4,n5,n6,n7⟩:=nn.out;omega) (fun i _=>hC.out.2.2.2.1 i) (fun e=>absurd rfl e) (fun j b e=>?_) (show 1≤64 by decide) (fun r hr=>?_) (fun j b hb=>?_) ?_ (fun l1 l2 e=>XV.no_start l1 _ _ (fun p hp=>on_no p (by rw [show [onP] = l1 ++ l2 from e];exact List.mem_append_left _ hp)) (fun j hj=>absurd hj (Nat.not_lt_zero j)))
  (fun Q e C' z M vL vW vR vl hQ d1 d2 d3 d4 d5 d6 hz hsz hM r1 r2 r3 r4 hI hQn hlv hnm=>?_)
 ·refine ⟨bb,rfl,.inr rfl,?_⟩
  match j,e with
  | 0,e=>obtain rfl:=OI e;exact Xa kbb.out 0
  | j + 1,e=>simp at e
 ·obtain ⟨n1,n2,n3,n4,n5,n6,n7⟩:=nn.out
  rcases hr with h|rfl<;>omega
 ·match j,hb with
  | 0,e=>obtain rfl:=OI e;exact on_b
  | j + 1,e=>simp at e
 ·exact ⟨fun i _=>⟨wC.out,show ¬ (cb < x.heap.size∨cb=bb) by obtain ⟨n1,n2,n3,n4,n5,n6,n7⟩:=nn.out;omega⟩,wB.out,show ¬ (bn < x.heap.size∨bn=bb) by obtain ⟨n1,n2,n3,n4,n5,n6,n7⟩:=nn.out;omega,show ¬ (bf < x.heap.size∨bf=bb) by obtain ⟨n1,n2,n3,n4,n5,n6,n7⟩:=nn.out;omega,show ¬ (bg < x.heap.size∨bg=bb) by obtain ⟨n1,n2,n3,n4,n5,n6,n7⟩:=nn.out;omega,show ¬ (bc < x.heap.size∨bc=bb) by obtain ⟨n1,n2,n3,n4,n5,n6,n7⟩:=nn.out;omega⟩
 rw [Frame.finish_at];walk_nrm;have hw:Q.st.went = [0]:=by have:=on_went;rw [show onrun=(e,Q) from hQ] at this;exact this
 have hg:=hI.2.1.2.2.1;have oz:Xg x z:=⟨by obtain ⟨n1,n2,n3,n4,n5,n6,n7⟩:=nn.out;omega,fun r hr=>(hz r (.inl hr)).trans (p0.out.2 r hr)⟩
 obtain ⟨aL,cL,rfl⟩:=Xq r1;obtain ⟨aW,cW,rfl⟩:=Xq r2;obtain ⟨aR,cR,rfl⟩:=Xq r3;obtain ⟨al,cl,rfl⟩:=Xq r4;rw [hw];clear hQ hI r1 r2 r3 r4 hz wB wC p0 kbb hnm hlv hw;have lg:=(GE hg).1;replace oz:=HD oz;replace hg:=HD hg;generalize Q.st.log.length=l1;generalize Q.st.ready.length=l2;generalize Q.left.length=l3
 repeat refine kx ?_
 refine ko fun K E hK hE τ d=>?_;go_simp;refine hK _ _ (jal fun w2 s4 wn _=>?_);simp only [Xs];clear hK hE K E τ d;generalize hq:z.heap.size=q at wn s4 lg hsz ⊢;have m0:w2.cell? (th q 0)=some (.int .i8 0):=Xa wn 0;have n0_:w2.frozen? (th q 0)=false:=Xe wn 0;have m1:w2.cell? (th q 1)=some (.int .i64 0):=Xa wn 1;have n1_:w2.frozen? (th q 1)=false:=Xe wn 1;have m2:w2.cell? (th q 2)=some (.slice none 0 0):=Xa wn 2;have n2_:w2.frozen? (th q 2)=false:=Xe wn 2;have m3:w2.cell? (th q 3)=some (.slice none 0 0):=Xa wn 3;have n3_:w2.frozen? (th q 3)=false:=Xe wn 3;have m4:w2.cell? (th q 4)=some (.slice none 0 0):=Xa wn 4;have n4_:w2.frozen? (th q 4)=false:=Xe wn 4;have m5:w2.cell? (th q 5)=some (.slice none 0 0):=Xa wn 5;have n5_:w2.frozen? (th q 5)=false:=Xe wn 5;have m6:w2.cell? (th q 6)=some (.slice none 0 0):=Xa wn 6;have n6_:w2.frozen? (th q 6)=false:=Xe wn 6;refine ko fun K E hK hE τ d=>?_;have m0':=(Xk w2 τ d _).trans m0;have n0':=(Xf w2 τ d _).trans n0_;have m1':=(Xk w2 τ d _).trans m1;have n1':=(Xf w2 τ d _).trans n1_;have m2':=(Xk w2 τ d _).trans m2;have n2':=(Xf w2 τ d _).trans n2_;have m3':=(Xk w2 τ d _).trans m3;have n3':=(Xf w2 τ d _).trans n3_;have m4':=(Xk w2 τ d _).trans m4;have n4':=(Xf w2 τ d _).trans n4_;have m5':=(Xk w2 τ d _).trans m5;have n5':=(Xf w2 τ d _).trans n5_;have m6':=(Xk w2 τ d _).trans m6;have n6':=(Xf w2 τ d _).trans n6_;go_simp;refine hK _ _ ?_;rw [Xc,Xc,Xc,Xc,Xc,Xc,Xc];refine jt ?_;clear m0 n0_ m0' n0' m1 n1_ m1' n1' m2 n2_ m2' n2' m3 n3_ m3' n3' m4 n4_ m4' n4' m5 n5_ m5' n5' m6 n6_ m6' n6' hK hE K E τ d;obtain ⟨v,hv⟩:∃ v,v=(((((((w2.setCell (th q 0) (.int .i8 e)).setCell (th q 1) (.int .i64 1)).setCell (th q 2) (.slice aL l1 cL)).setCell (th q 3) (.slice aW 1 cW)).setCell (th q 4) (.slice aR l2 cR)).setCell (th q 5) (.slice al l3 cl)).setCell (th q 6) (.slice none 0 0)):=⟨_,rfl⟩
 rw [← hv]
 try walk_nrm
 have hsv:v.heap.size=w2.heap.size:=by rw [hv,Xh,Xh,Xh,Xh,Xh,Xh,Xh]
 have hvo:∀ r,r≠q→v.heap[r]? = w2.heap[r]?:=fun r h=>by
  rw [hv,Xb h,Xb h,Xb h,Xb h,Xb h,Xb h,Xb h]
 have hvn:v.heap[q]? = some (.cells #[.int .i8 e,.int .i64 1,.slice aL l1 cL,.slice aW 1 cW,.slice aR l2 cR,.slice al l3 cl,.slice none 0 0] 43 (0,0)):=by
  rw [hv];exact Xd (Xd (Xd (Xd (Xd (Xd (Xd wn))))))
 clear hv wn;have hvz:Xg z v:=⟨by rw [hsv];exact s4.1,fun r hr=>(hvo r (by omega)).trans (s4.2 r (by omega))⟩
 have vg:=(hvz.2 bg (by omega)).trans hg.out;have ov:=oz.out.trans hvz;clear hvz hvo hsv s4 hg oz nn hne lg hsz hM hQn d3;replace hvn:=HD hvn;replace vg:=HD vg;replace ov:=HD ov
 repeat refine kx ?_
 refine kf (args:=#[.pointer none]) Try.func50 ?_;refine getNil_J fun v1 o1=>?_;rw [Frame.finish_at];walk_nrm
 repeat refine kx ?_
 refine ko fun K E hK hE τ d=>?_;go_simp;refine hK _ _ (jt (x:=v1.alloc (.cells #[.int .u32 0,.int .i32 0,.int .u32 0,.nilFunc,.int .i64 0,.int .i64 0] 134)) ?_);simp only [Xs];clear hK hE K E τ d;have z0:(v1.alloc (.cells #[.int .u32 0,.int .i32 0,.int .u32 0,.nilFunc,.int .i64 0,.int .i64 0] 134)).heap[v1.heap.size]? = some (lz 0 0 0 .nilFunc):=heap_alloc_new v1 _;have o2:=(Xg.refl v1).alloc (.cells #[.int .u32 0,.int .i32 0,.int .u32 0,.nilFunc,.int .i64 0,.int .i64 0] 134);generalize v1.alloc (.cells #[.int .u32 0,.int .i32 0,.int .u32 0,.nilFunc,.int .i64 0,.int .i64 0] 134)=v2 at z0 o2 ⊢;generalize v1.heap.size=zb at z0 ⊢
 repeat refine kx ?_
 refine kf (args:=#[P0 zb]) Try.func50 ?_;refine getBare_J (Xa z0 3) fun v3 o3=>?_;rw [Frame.finish_at];walk_nrm;have p3:=(o1.trans o2).trans o3;clear o1 o2 o3 z0
 repeat refine kx ?_
 refine kf (args:=#[]) Try.func51 ?_;refine works_J fun v4 o4=>?_;rw [Frame.finish_at];walk_nrm;have p4:=p3.trans o4;have f4:=(p4.2 q (GE hvn.out).1).trans hvn.out;have g4:=(p4.2 bg (GE vg.out).1).trans vg.out;have ow:=ov.out.trans p4;clear p3 o4 p4 hvn vg ov;have t1:v4.cell? (th q 1)=some (.int .i64 1):=Xa f4 1;have t2:v4.cell? (th bg 0)=some (.bool true):=Xa g4 0;clear f4 g4 hq;replace ow:=HD ow
 repeat refine kx ?_
 refine kf (args:=#[.nilFunc]) Try.func52 ?_;refine newLazyNil_J ?_;rw [Frame.finish_at];walk_nrm
 repeat refine kx ?_
 refine JG.ret ?_;exact JG.end (d2.trans hC.out.1) d1 (fun i hi=>d6 i (by have:=hC.out.1;omega)) rfl rfl Try.func9 (by kernel_rfl) (fun w _ d=>results_tmp (t:=0) rfl _ _ _) (fun w=>events_results_tmp rfl _ _) (fun w hT hio d=>h.out (w.at d) (hio.trans d5) (by have:=hT.size;have:=ow.out.1;show x.heap.size≤w.heap.size;omega) (fun r hr=>((hT.old r (by show r < C'.lo;rw [d4,hC.out.2.2.2.2];exact hr)).symm.trans (ow.out.2 r hr))))
