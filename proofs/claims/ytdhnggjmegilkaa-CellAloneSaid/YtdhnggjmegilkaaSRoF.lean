/- The cell law's works under J: a cell alone, and two threads, one asleep till the other stores. -/
import Derived.Test.YtdhnggjmegilkaaSRnR
import Derived.Test.YtdhnggjmegilkaaSGtO
import Derived.Test.YtdhnggjmegilkaaSRoC
import Derived.Test.YtdhnggjmegilkaaSRnE
set_option linter.all false
set_option maxRecDepth 100000
set_option maxHeartbeats 16000000
namespace Go.Proofs.Ytdhnggjmegilkaa
open Go.Conc Go.RowKit
open Go.ConcN (upd upd_same upd_ne)
set_option maxRecDepth 100000
section
variable {Sh:Type} {Post:Value→World→Prop} {S:Zv Sh} {num tb rb m:Nat} {cb:Frame} {Pv:Nat→Prop} {C:Ctx} {x:World} {k:Told→Xx Sh Unit} {c:Frame} {cs:List Frame} {i:Nat}
theorem XR.up {f f':Told→Value} {pf:Frame} (h1:∀ (a:Told) (C:Ctx) (x:World),JG Try.prog Post C (G (c.finish (f' a)) cs) x→JG Try.prog Post C (G (pf.finish (f a)) (c::cs)) x)
 (h2:∀ (C:Ctx) (x:World),JG Try.prog Post C (G (c.raise [{ v:=YI,recovered:=false }]) cs) x→JG Try.prog Post C (G (pf.raise [{ v:=YI,recovered:=false }]) (c::cs)) x) :
 XR Post S num tb rb cb m Pv x f' k c cs→XR Post S num tb rb cb m Pv x f k pf (c::cs):=by
 cases m with
 | zero=>exact fun h C x hb=>h2 C x (h C x hb)
 | succ m=>exact fun h=>⟨fun C x hb=>h2 C x (h.1 C x hb),fun C x col sh cells a e1 e2 e3 e4 ep ek e5 e6=>h1 a C x (h.2 C x col sh cells a e1 e2 e3 e4 ep ek e5 e6)⟩
def Q6 (Post:Value→World→Prop) (S:Zv Sh) (num tb rb:Nat) (cb:Frame) (m:Nat) (Pv:Nat→Prop) (C:Ctx) (x:World) (r:Ask) (k:Told→Xx Sh Unit):Prop :=
 ∀ (c:Frame) (cs:List Frame),r.Good→r.cell < S.nc→XR Post S num tb rb cb m Pv x QG k c cs→JG Try.prog Post C (G (Frame.enter Try.prog 101 #[P0 tb,P0 (S.A r.cell),.int .i8 r.op,.int .i64 r.arg,.int .i64 r.new] .normal) (c::cs)) x
theorem Reach.step {col:Nat→Prop} {cells:Nat→Int} {sh:Sh} {r:Ask} {x0:World} (R:Reach Post S num tb cb (fun Pv y=>XR Post S num tb rb cb m Pv y QG) C col cells x0 sh (.acc r k)) (h1:x0.heap.size≤x.heap.size) (h2:∀ r,col r→x.heap[r]? = x0.heap[r]?) (hp:∀ r,Pv r→r < x.heap.size∧¬ col r) (h3:S.I sh cells (fun r=>col r∨Pv r) x) (h4:∀ i a,i≠num→S.keep i a→x.cell? a=x0.cell? a):Q6 Post S num tb rb cb m Pv C x r k:=R x Pv h1 h2 hp h3 h4
def none_:Nat→Prop:=fun _=>False
theorem VN (col:Nat→Prop):(fun r=>col r∨none_ r)=col:=by funext r;exact propext ⟨fun h=>h.elim id fun h=>h.elim,.inl⟩
theorem Reach.step0 {col:Nat→Prop} {cells:Nat→Int} {sh:Sh} {r:Ask} {x0:World} (R:Reach Post S num tb cb (fun Pv y=>XR Post S num tb rb cb m Pv y QG) C col cells x0 sh (.acc r k)) (h1:x0.heap.size≤x.heap.size) (h2:∀ r,col r→x.heap[r]? = x0.heap[r]?) (h3:S.I sh cells col x) (h4:∀ i a,¬ S.keep i a):Q6 Post S num tb rb cb m none_ C x r k:=R.step h1 h2 (fun _ h=>h.elim) (by rw [VN];exact h3) fun i a _ h=>absurd h (h4 i a)
theorem Reach.end0 {Aft:(Nat→Prop)→World→(Told→Xx Sh Unit)→Frame→List Frame→Prop} {col:Nat→Prop} {cells:Nat→Int} {sh:Sh} {x0:World} {v0:Unit} (R:Reach Post S num tb cb Aft C col cells x0 sh (.ret v0)) (h1:x0.heap.size≤x.heap.size) (h2:∀ r,col r→x.heap[r]? = x0.heap[r]?) (h3:S.I sh cells col x) (h4:∀ i a,i≠num→S.keep i a→x.cell? a=x0.cell? a):∀ v,JG Try.prog Post C (G (cb.finish v) [YX Try.prog]) x:=R x none_ h1 h2 (fun _ h=>h.elim) (by rw [VN];exact h3) h4
theorem Xav {v:Int} (hm:x.cell? (th (S.A i) 1)=some (.bool true)) (hL:Qn x tb rb) (hi:i < S.nc) (R:Q6 Post S num tb rb cb m Pv C x ⟨2,i,v,0⟩ k) (ha:XR Post S num tb rb cb m Pv x (fun a=>.tuple #[]) k c cs) :
 JG Try.prog Post C (G (Frame.enter Try.prog 79 #[P0 (S.A i),P0 tb,.int .i64 v] .normal) (c::cs)) x:=by
 obtain ⟨h0,h13,_⟩:=hL;have R':=R;unfold Q6 at R';replace R':=HD R';clear R;refine Xu Try.func79 (by rfl) (by rfl) ?_;simp only [Try.f79,Option.getD_some];walk_nrm
 repeat refine kx ?_
 refine kf (args:=#[P0 (S.A i)]) Try.func99 ?_;refine Vl hm ?_;rw [Frame.finish_at];walk_nrm
 repeat refine kx ?_
 refine kf (args:=#[P0 tb]) Try.func100 ?_;refine Zz h0 h13 ?_;rw [Frame.finish_at];walk_nrm
 repeat refine kx ?_
 refine kf (args:=#[P0 tb,P0 (S.A i),.int .i8 2,.int .i64 (v),.int .i64 (0)]) Try.func101 ?_;refine R'.out _ _ ⟨(by decide:(1:Int)≤2),(by decide:(2:Int)≤6),fun e=>absurd e (by decide:(2:Int)≠1),fun _=>rfl⟩ hi (XR.up (fun a C x h=>?_) (fun C x h=>JG.raise rfl Try.func79 h) ha);rw [Frame.finish_at];simp only [QG];walk_nrm
 repeat refine kx ?_
 refine JG.ret ?_;exact JG.leave rfl rfl Try.func79 (fun τ d=>results_none rfl _ _ _) h
theorem cellPark_R {v:Int} (hm:x.cell? (th (S.A i) 1)=some (.bool true)) (hL:Qn x tb rb) (hi:i < S.nc) (R:Q6 Post S num tb rb cb m Pv C x ⟨6,i,v,0⟩ k) (ha:XR Post S num tb rb cb m Pv x (fun a=>.int .i64 a.was) k c cs) :
 JG Try.prog Post C (G (Frame.enter Try.prog 77 #[P0 (S.A i),P0 tb,.int .i64 v] .normal) (c::cs)) x:=by
 obtain ⟨h0,h13,_⟩:=hL;have R':=R;unfold Q6 at R';replace R':=HD R';clear R;refine Xu Try.func77 (by rfl) (by rfl) ?_;simp only [Try.f77,Option.getD_some];walk_nrm
 repeat refine kx ?_
 refine kf (args:=#[P0 (S.A i)]) Try.func99 ?_;refine Vl hm ?_;rw [Frame.finish_at];walk_nrm
 repeat refine kx ?_
 refine kf (args:=#[P0 tb]) Try.func100 ?_;refine Zz h0 h13 ?_;rw [Frame.finish_at];walk_nrm
 repeat refine kx ?_
 refine kf (args:=#[P0 tb,P0 (S.A i),.int .i8 6,.int .i64 (v),.int .i64 (0)]) Try.func101 ?_;refine R'.out _ _ ⟨(by decide:(1:Int)≤6),(by decide:(6:Int)≤6),fun e=>absurd e (by decide:(6:Int)≠1),fun _=>rfl⟩ hi (XR.up (fun a C x h=>?_) (fun C x h=>JG.raise rfl Try.func77 h) ha);rw [Frame.finish_at];simp only [QG];walk_nrm
 repeat refine kx ?_
 refine JG.ret ?_;exact JG.leave rfl rfl Try.func77 (fun τ d=>results_tmp (t:=6) rfl _ _ _) h
end
structure Xgc (Sh:Type) (A:Nat→Nat) (nc:Nat) where
 M:Sh→(Nat→Prop)→World→Prop
 frame:∀ {sh:Sh} {col:Nat→Prop} {x:World},M sh col x→∀ (col':Nat→Prop) (y:World),x.heap.size≤y.heap.size→(∀ r,r < x.heap.size→¬ col r→(∀ i,i < nc→r≠A i)→y.heap[r]? = x.heap[r]?)→(∀ r,r < x.heap.size→col' r→col r)→M sh col' y
theorem XN.lt {x:World} {b:Nat} {v:Int} (h:XN x b v):b < x.heap.size:=(GE h).1
structure Xdu {Sh:Type} {A:Nat→Nat} {nc:Nat} (W:Xgc Sh A nc) where
 k:Nat→Addr→Prop
 i:∀ {sh:Sh} {col:Nat→Prop} {x:World},W.M sh col x→∀ j a,k j a→a.block < x.heap.size∧¬ col a.block∧∀ c,c < nc→a.block≠A c
def Xdu.no {Sh:Type} {A:Nat→Nat} {nc:Nat} (W:Xgc Sh A nc):Xdu W:=⟨fun _ _=>False,fun _ _ _ h=>h.elim⟩
def Xed {Sh:Type} (A:Nat→Nat) (nc:Nat) (inj:∀ a b,a < nc→b < nc→A a=A b→a=b) (W:Xgc Sh A nc) (fin:XV Sh:=XV.no Sh) (kp:Xdu W:=Xdu.no W):Zv Sh where
 fin:=fin
 keep:=kp.k
 keepI:=fun h j a ha=>kp.i h.2 j a ha
 A:=A
 nc:=nc
 I:=fun sh cells col x=>(∀ i,i < nc→XN x (A i) (cells i)∧¬ col (A i))∧W.M sh col x
 inj:=inj
 cell:=fun h i hi=>⟨⟨_,_,(h.1 i hi).1⟩,(h.1 i hi).1.c0,(h.1 i hi).2⟩
 frame:=fun h col' y hs ho hc=>⟨fun i hi=>by
  obtain ⟨h1,h2⟩:=h.1 i hi;exact ⟨(ho _ h1.lt h2).trans h1,fun e=>h2 (hc _ h1.lt e)⟩,W.frame h.2 col' y hs (fun r hr hn _=>ho r hr hn) hc⟩
 set:=fun {sh cells col x} h i v col' y hi hs ho hv hc=>⟨fun j hj=>by
  obtain ⟨h1,h2⟩:=h.1 j hj;refine ⟨?_,fun e=>h2 (hc _ h1.lt e)⟩
  by_cases e:j=i
  ·subst e
   rw [upd_same];exact hv.trans (h1.set v)
  ·rw [upd_ne _ _ e]
   exact (ho _ h1.lt h2 fun e2=>e (inj j i hj hi e2)).trans h1,W.frame h.2 col' y hs (fun r hr hn hna=>ho r hr hn (hna i hi)) hc⟩
section
variable {Sh:Type} {Post:Value→World→Prop} {S:Zv Sh} {num tb rb m:Nat} {cb c:Frame} {Pv:Nat→Prop} {x0:World} {f:Told→Value} {k:Told→Xx Sh Unit}
theorem XR.body (h1:∀ (C:Ctx) (x:World),JG Try.prog Post C (G (cb.raise [{ v:=YI,recovered:=false }]) [YX Try.prog]) x→JG Try.prog Post C (G (c.raise [{ v:=YI,recovered:=false }]) [cb,YX Try.prog]) x)
 (h2:∀ m',m=m' + 1→∀ (C:Ctx) (x:World) (col:Nat→Prop) (sh:Sh) (cells:Nat→Int) (a:Told),C.d=0→Qn x tb rb→col tb→(∀ r,col r→r < x.heap.size)→(∀ r,Pv r→¬ col r∧x.heap[r]? = x0.heap[r]?)→(∀ b,S.keep num b→x.cell? b=x0.cell? b)→S.I sh cells col x →
   Reach Post S num tb cb (fun Pv y=>XR Post S num tb rb cb m' Pv y QG) C col cells x ((k a).pass sh).1 ((k a).pass sh).2→JG Try.prog Post C (G (c.finish (f a)) [cb,YX Try.prog]) x):XR Post S num tb rb cb m Pv x0 f k c [cb,YX Try.prog]:=by
 have hs:Yq Post cb c [cb,YX Try.prog]:=fun C x hb=>h1 C x (hb x (Nat.le_refl _) fun _ _=>rfl);cases m with
 | zero=>exact hs
 | succ m=>exact ⟨hs,fun C x col sh cells a e1 e2 e3 e4 ep ek e5 e6=>h2 m rfl C x col sh cells a e1 e2 e3 e4 ep ek (S.frame e5 _ _ (Nat.le_refl _) (fun _ _ _=>rfl) fun _ _ h=>.inl h) e6⟩
end
section
variable {Post:Value→World→Prop} {C:Ctx} {x:World} {c:Frame} {cs:List Frame}
theorem cellNewI_J {v:Int} (h:∀ y,Xg x y→XN y x.heap.size v→y.heap.size=x.heap.size + 1→JG Try.prog Post C (G (c.finish (P0 x.heap.size)) cs) y):JG Try.prog Post C (G (Frame.enter Try.prog 14 #[.int .i64 v] .normal) (c::cs)) x:=by
 refine JG.calls (F:=FX makersX) (Q:=fun u y=>u=P0 x.heap.size∧Xg x y∧XN y x.heap.size v∧y.heap.size=x.heap.size + 1) (closedMX _) (by kernel_rfl) (fun τ=>?_) (fun u y hq=>?_)
 ·refine (Xa4 v _).mono ?_
  rintro e y ⟨rfl,rfl⟩;exact ⟨_,rfl,rfl,(Xg.refl (under x τ 0)).alloc _,Xbx (under x τ 0) v,by simp [Xs]⟩
 ·obtain ⟨rfl,h1,h2,h3⟩:=hq
  exact h y h1 h2 h3
end
def w02P1:Xx Int Unit:=.acc ⟨6,0,0,0⟩ fun a=>.act (fun _=>a.was) fun _=>.ret ()
def w02P2:Xx Int Unit:=.acc ⟨2,0,4,0⟩ fun _=>.ret ()
theorem w02_no:∀ p∈[w02P1,w02P2],NoOut p:=fun p hp=>by
 rcases List.mem_cons.1 hp with rfl|hp
 ·exact .acc fun a=>.act fun _=>.ret _
 ·rw [List.mem_singleton.1 hp];exact .acc fun _=>.ret _
def w02run:Int × Xp Int:=((Xp.init 0 fun _=>0).start [w02P1,w02P2]).runs (picked []) 9
theorem w02_end:w02run.1=1:=by decide +kernel
theorem w02_sh:w02run.2.st.sh=4:=by decide +kernel
theorem w02_cell:w02run.2.st.cells 0=4:=by decide +kernel
theorem w02_log:w02run.2.st.log = [⟨1,2,0,4,0,0,4,false⟩,⟨0,6,0,0,0,4,4,false⟩]:=by rfl
def w02More (bc bg cb:Nat) (h:bc≠cb∧bg≠cb):Xgc Int (fun _=>cb) 1 where
 M:=fun sh col x=>(x.heap[bc]? = some (.cells #[P0 cb] 29 (0,0))∧¬ col bc)∧x.heap[bg]? = some (.cells #[.int .i64 sh] 2 (0,0))∧¬ col bg
 frame:=fun {sh col x} hM col' y hs ho hc=>by
  obtain ⟨⟨h1,h2⟩,h3,h4⟩:=hM;have l1:=(GE h1).1;have l3:=(GE h3).1;exact ⟨⟨(ho _ l1 h2 fun _ _=>h.1).trans h1,fun e=>h2 (hc _ l1 e)⟩,(ho _ l3 h4 fun _ _=>h.2).trans h3,fun e=>h4 (hc _ l3 e)⟩
abbrev w02Side (bc bg cb:Nat) (h:bc≠cb∧bg≠cb):Zv Int:=Xed (fun _=>cb) 1 (fun a b ha hb _=>by omega) (w02More bc bg cb h)
section
variable {Post:Value→World→Prop} {bc bg cb num m:Nat} {hne:bc≠cb∧bg≠cb}
theorem w02_b1 (hgc:bg≠bc):Vu Post (w02Side bc bg cb hne) num m 76 #[P0 bc,P0 bg] w02P1:=by
 refine ⟨⟨_,Try.func76,by kernel_rfl,by kernel_rfl⟩,fun C x col sh cells tb rb cbf hd hL hct hcb hI R=>?_⟩;have hI0:=hI;obtain ⟨hc,⟨hM1,hM2⟩,hM3,hM4⟩:=hI;obtain ⟨hc1,hc2⟩:=hc 0 (by decide);have k1:x.cell? (th bc 0)=some (P0 cb):=Xa hM1 0;have hR:Q6 Post (w02Side bc bg cb hne) num tb rb cbf m none_ C x ⟨6,0,0,0⟩ (fun a=>.act (fun _=>a.was) fun _=>.ret ()):=Reach.step0 (x0:=x) R (Nat.le_refl _) (fun _ _=>rfl) hI0 (fun _ _=>id);replace hR:=HD hR;replace hI0:=HD hI0;clear R hc hM1 hM3;refine Xu Try.func76 (by rfl) (by rfl) ?_;simp only [Try.f76,Option.getD_some];walk_nrm
 repeat refine kx ?_
 refine kf (args:=#[P0 cb,P0 tb,.int .i64 0]) Try.func77 ?_;refine cellPark_R (S:=w02Side bc bg cb hne) (i:=0) (v:=0) hc1.c1 hL (show 0 < 1 from Nat.zero_lt_one) hR.out (XR.body (fun C x h=>JG.raise rfl Try.func76 h) (fun m' _ C y col' sh' cells' a hd' hL' hct' hcb' _ _ hI' R'=>?_));rw [Frame.finish_at];walk_nrm;have hI1:=hI';obtain ⟨hc',⟨hM1',hM2'⟩,hM3',hM4'⟩:=hI';have g1:y.cell? (th bg 0)=some (.int .i64 sh'):=Xa hM3' 0;have g2:y.frozen? (th bg 0)=false:=Xe hM3' 0;refine kst (And.intro g1 g2) ?_;have hR':=Reach.end0 R' (x:=y.setCell (th bg 0) (.int .i64 a.was)) (by rw [Xh];exact Nat.le_refl _) (fun r hr=>Xb fun e=>hM4' (e ▸ hr)) ⟨fun i hi=>⟨(Xb (fun e=>hne.2 e.symm)).trans (hc' i hi).1,(hc' i hi).2⟩,⟨(Xb fun e=>hgc e.symm).trans hM1',hM2'⟩,by rw [Xd hM3'];rfl,hM4'⟩ (fun _ _ _ h=>h.elim);replace hR':=HD hR';clear g1 g2 hM1' hM3' hc' hI1 R'
 repeat refine kx ?_
 first|refine JG.fin ?_|refine JG.done (JG.fin ?_)
 exact JG.leave0 rfl rfl Try.func76 (by rfl) (hR'.out _)
theorem w02_b2:Vu Post (w02Side bc bg cb hne) num m 78 #[P0 bc] w02P2:=by
 refine ⟨⟨_,Try.func78,by kernel_rfl,by kernel_rfl⟩,fun C x col sh cells tb rb cbf hd hL hct hcb hI R=>?_⟩;have hI0:=hI;obtain ⟨hc,⟨hM1,hM2⟩,hM3,hM4⟩:=hI;obtain ⟨hc1,hc2⟩:=hc 0 (by decide);have k1:x.cell? (th bc 0)=some (P0 cb):=Xa hM1 0;have hR:Q6 Post (w02Side bc bg cb hne) num tb rb cbf m none_ C x ⟨2,0,4,0⟩ (fun _=>.ret ()):=Reach.step0 (x0:=x) R (Nat.le_refl _) (fun _ _=>rfl) hI0 (fun _ _=>id);replace hR:=HD hR;replace hI0:=HD hI0;clear R hc hM1 hM3;refine Xu Try.func78 (by rfl) (by rfl) ?_;simp only [Try.f78,Option.getD_some];walk_nrm
 repeat refine kx ?_
 refine kf (args:=#[P0 cb,P0 tb,.int .i64 4]) Try.func79 ?_;refine Xav (S:=w02Side bc bg cb hne) (i:=0) (v:=4) hc1.c1 hL (show 0 < 1 from Nat.zero_lt_one) hR.out (XR.body (fun C x h=>JG.raise rfl Try.func78 h) (fun m' _ C y col' sh' cells' a hd' hL' hct' hcb' _ _ hI' R'=>?_));rw [Frame.finish_at];walk_nrm;have hR':=Reach.end0 R' (x:=y) (Nat.le_refl _) (fun r hr=>rfl) hI' (fun _ _ _ h=>h.elim);replace hR':=HD hR';clear R' hI'
 repeat refine kx ?_
 first|refine JG.fin ?_|refine JG.done (JG.fin ?_)
 exact JG.leave0 rfl rfl Try.func78 (by rfl) (hR'.out _)
