/- Bodies that begin where nothing has been told them yet. No program in sight. -/
import Derived.Test.YtdhnggjmegilkaaSRoC
import Derived.Test.YtdhnggjmegilkaaSRoD
import Derived.Test.YtdhnggjmegilkaaSRnU
import Derived.Test.YtdhnggjmegilkaaSPlB
set_option linter.unusedSimpArgs false
set_option linter.unusedVariables false
set_option maxRecDepth 100000
set_option maxHeartbeats 16000000
namespace Go.Proofs.Ytdhnggjmegilkaa
open Go.Conc Go.RowKit
open Go.ConcN (upd upd_same upd_ne)
set_option maxRecDepth 100000
structure XfO (Sh:Type) (A:Nat→Nat) (nc:Nat) where
 M:Sh→(Nat→Prop)→World→Prop
 frame:∀ {sh:Sh} {col:Nat→Prop} {x:World},M sh col x→∀ (col':Nat→Prop) (y:World),x.heap.size≤y.heap.size→(∀ r,r < x.heap.size→¬ col r→(∀ i,i < nc→r≠A i)→y.heap[r]? = x.heap[r]?)→(∀ r,r < x.heap.size→col' r→col r)→M sh col' y
theorem XA.lt {x:World} {b:Nat} {v:Int} (h:XA x b v):b < x.heap.size:=(GE h).1
structure Xdj {Sh:Type} {A:Nat→Nat} {nc:Nat} (W:XfO Sh A nc) where
 k:Nat→Addr→Prop
 i:∀ {sh:Sh} {col:Nat→Prop} {x:World},W.M sh col x→∀ j a,k j a→a.block < x.heap.size∧¬ col a.block∧∀ c,c < nc→a.block≠A c
def Xdj.no {Sh:Type} {A:Nat→Nat} {nc:Nat} (W:XfO Sh A nc):Xdj W:=⟨fun _ _=>False,fun _ _ _ h=>h.elim⟩
def Xa0 {Sh:Type} (A:Nat→Nat) (nc:Nat) (inj:∀ a b,a < nc→b < nc→A a=A b→a=b) (W:XfO Sh A nc) (fin:YJ Sh:=YJ.no Sh) (kp:Xdj W:=Xdj.no W):ZT Sh where
 fin:=fin
 keep:=kp.k
 keepI:=fun h j a ha=>kp.i h.2 j a ha
 A:=A
 nc:=nc
 I:=fun sh cells col x=>(∀ i,i < nc→XA x (A i) (cells i)∧¬ col (A i))∧W.M sh col x
 inj:=inj
 cell:=fun h i hi=>⟨⟨_,_,(h.1 i hi).1⟩,(h.1 i hi).1.c0,(h.1 i hi).2⟩
 frame:=fun h col' y hs ho hc=>⟨fun i hi=>by
  obtain ⟨h1,h2⟩:=h.1 i hi
  exact ⟨(ho _ h1.lt h2).trans h1,fun e=>h2 (hc _ h1.lt e)⟩,W.frame h.2 col' y hs (fun r hr hn _=>ho r hr hn) hc⟩
 set:=fun {sh cells col x} h i v col' y hi hs ho hv hc=>⟨fun j hj=>by
  obtain ⟨h1,h2⟩:=h.1 j hj
  refine ⟨?_,fun e=>h2 (hc _ h1.lt e)⟩
  by_cases e:j=i
  ·subst e
   rw [upd_same]
   exact hv.trans (h1.set v)
  ·rw [upd_ne _ _ e]
   exact (ho _ h1.lt h2 fun e2=>e (inj j i hj hi e2)).trans h1,W.frame h.2 col' y hs (fun r hr hn hna=>ho r hr hn (hna i hi)) hc⟩
section
variable {Sh:Type} {Post:Value→World→Prop} {S:ZT Sh} {num tb rb m:Nat} {cb c:Frame} {Pv:Nat→Prop} {x0:World} {f:Told→Value} {k:Told→XB Sh Unit}
theorem Xz.body (h1:∀ (C:Ctx) (x:World),JG Try.prog Post C (G (cb.raise [{ v:=Z3,recovered:=false }]) [Y0 Try.prog]) x→JG Try.prog Post C (G (c.raise [{ v:=Z3,recovered:=false }]) [cb,Y0 Try.prog]) x)
 (h2:∀ m',m=m' + 1→∀ (C:Ctx) (x:World) (col:Nat→Prop) (sh:Sh) (cells:Nat→Int) (a:Told),C.d=0→Ql x tb rb→col tb→(∀ r,col r→r < x.heap.size)→(∀ r,Pv r→¬ col r∧x.heap[r]? = x0.heap[r]?)→(∀ b,S.keep num b→x.cell? b=x0.cell? b)→S.I sh cells col x →
   Reach Post S num tb cb (fun Pv y=>Xz Post S num tb rb cb m' Pv y ZK) C col cells x ((k a).pass sh).1 ((k a).pass sh).2→JG Try.prog Post C (G (c.finish (f a)) [cb,Y0 Try.prog]) x):Xz Post S num tb rb cb m Pv x0 f k c [cb,Y0 Try.prog]:=by
 have hs:WO Post cb c [cb,Y0 Try.prog]:=fun C x hb=>h1 C x (hb x (Nat.le_refl _) fun _ _=>rfl)
 cases m with
 | zero=>exact hs
 | succ m=>exact ⟨hs,h2 m rfl⟩
end
section
variable {Post:Value→World→Prop} {C:Ctx} {x:World} {c:Frame} {cs:List Frame}
theorem Vl {v:Int} (h:∀ y,Xf x y→XA y x.heap.size v→y.heap.size=x.heap.size + 1→JG Try.prog Post C (G (c.finish (P0 x.heap.size)) cs) y):JG Try.prog Post C (G (Frame.enter Try.prog 14 #[.int .i64 v] .normal) (c::cs)) x:=by
 refine JG.calls (F:=FX Xcv) (Q:=fun u y=>u=P0 x.heap.size∧Xf x y∧XA y x.heap.size v∧y.heap.size=x.heap.size + 1) (XdY _) (by kernel_rfl) (fun τ=>?_) (fun u y hq=>?_)
 ·refine (Xd0 v _).mono ?_
  rintro e y ⟨rfl,rfl⟩
  exact ⟨_,rfl,rfl,(Xf.refl (under x τ 0)).alloc _,Ve (under x τ 0) v,by simp [Xv]⟩
 ·obtain ⟨rfl,h1,h2,h3⟩:=hq
  exact h y h1 h2 h3
end
def XbO:XB Int Unit:=.acc ⟨6,0,0,0⟩ fun a=>.act (fun _=>a.was) fun _=>.ret ()
def XbN:XB Int Unit:=.acc ⟨2,0,4,0⟩ fun _=>.ret ()
theorem Xfh:∀ p∈[XbO,XbN],NoOut p:=fun p hp=>by
 rcases List.mem_cons.1 hp with rfl|hp
 ·exact .acc fun a=>.act fun _=>.ret _
 ·rw [List.mem_singleton.1 hp];exact .acc fun _=>.ret _
def VT:Int × Xp Int:=((Xp.init 0 fun _=>0).start [XbO,XbN]).runs (picked []) 9
theorem Xeu:VT.1=1:=by decide +kernel
theorem Xfg:VT.2.st.sh=4:=by decide +kernel
theorem Xdt:VT.2.st.cells 0=4:=by decide +kernel
theorem Xet:VT.2.st.log = [⟨1,2,0,4,0,0,4,false⟩,⟨0,6,0,0,0,4,4,false⟩]:=by rfl
def Xev (bc bg cb:Nat) (h:bc≠cb∧bg≠cb):XfO Int (fun _=>cb) 1 where
 M:=fun sh col x=>(x.heap[bc]? = some (.cells #[P0 cb] 29 (0,0))∧¬ col bc)∧x.heap[bg]? = some (.cells #[.int .i64 sh] 2 (0,0))∧¬ col bg
 frame:=fun {sh col x} hM col' y hs ho hc=>by
  obtain ⟨⟨h1,h2⟩,h3,h4⟩:=hM
  have l1:=(GE h1).1
  have l3:=(GE h3).1
  exact ⟨⟨(ho _ l1 h2 fun _ _=>h.1).trans h1,fun e=>h2 (hc _ l1 e)⟩,(ho _ l3 h4 fun _ _=>h.2).trans h3,fun e=>h4 (hc _ l3 e)⟩
abbrev Qc (bc bg cb:Nat) (h:bc≠cb∧bg≠cb):ZT Int:=Xa0 (fun _=>cb) 1 (fun a b ha hb _=>by omega) (Xev bc bg cb h)
section
variable {Post:Value→World→Prop} {bc bg cb num m:Nat} {hne:bc≠cb∧bg≠cb}
theorem Xfj (hgc:bg≠bc):Q4 Post (Qc bc bg cb hne) num m 76 #[P0 bc,P0 bg] XbO:=by
 refine ⟨⟨_,Try.func76,by kernel_rfl,by kernel_rfl⟩,fun C x col sh cells tb rb cbf hd hL hct hcb hI R=>?_⟩
 have hI0:=hI
 obtain ⟨hc,⟨hM1,hM2⟩,hM3,hM4⟩:=hI
 obtain ⟨hc1,hc2⟩:=hc 0 (by decide)
 have k1:x.cell? (th bc 0)=some (P0 cb):=Xa hM1 0
 have hR:YT Post (Qc bc bg cb hne) num tb rb cbf m none_ C x ⟨6,0,0,0⟩ (fun a=>.act (fun _=>a.was) fun _=>.ret ()):=Reach.step0 (x0:=x) R (Nat.le_refl _) (fun _ _=>rfl) hI0 (fun _ _=>id)
 replace hR:=HD hR
 replace hI0:=HD hI0
 clear R hc hM1 hM3
 refine Xy Try.func76 (by rfl) (by rfl) ?_
 simp only [Try.f76,Option.getD_some]
 walk_nrm
 repeat first|refine jc rfl ?_|(first|refine ju rfl rfl ?_|(refine jv rfl rfl rfl fun K E f τ d=>?_;have f0:=uc τ d k1;go_simp;refine f _ _ _ _ ?_;clear f0 f K E τ d);try walk_nrm)
 refine Xt (f:=77) (args:=#[P0 cb,P0 tb,.int .i64 0]) Try.func77 (by kernel_rfl) (by kernel_rfl) rfl rfl rfl rfl (by decide) ?_
 refine Vk (S:=Qc bc bg cb hne) (i:=0) (v:=0) hc1.c1 hL (show 0 < 1 from Nat.zero_lt_one) hR.out (Xz.body (fun C x h=>JG.raise rfl Try.func76 h) (fun m' _ C y col' sh' cells' a hd' hL' hct' hcb' _ _ hI' R'=>?_))
 rw [Frame.finish_at]
 walk_nrm
 have hI1:=hI'
 obtain ⟨hc',⟨hM1',hM2'⟩,hM3',hM4'⟩:=hI'
 have g1:y.cell? (th bg 0)=some (.int .i64 sh'):=Xa hM3' 0
 have g2:y.frozen? (th bg 0)=false:=Xe hM3' 0
 refine jo rfl rfl rfl (by decide) fun K E hK hE τ d=>?_
 have hf:=ust (And.intro g1 g2) τ d
 obtain ⟨hf,hg⟩:=hf
 go_simp
 refine hK _ _ ?_
 rw [Xd]
 refine jt ?_
 clear hf hg hK hE K E τ d
 try walk_nrm
 have hR':=Reach.end0 R' (x:=y.setCell (th bg 0) (.int .i64 a.was)) (by rw [Xg];exact Nat.le_refl _) (fun r hr=>Xb fun e=>hM4' (e ▸ hr)) ⟨fun i hi=>⟨(Xb (fun e=>hne.2 e.symm)).trans (hc' i hi).1,(hc' i hi).2⟩,⟨(Xb fun e=>hgc e.symm).trans hM1',hM2'⟩,by rw [Xc hM3'];rfl,hM4'⟩ (fun _ _ _ h=>h.elim)
 replace hR':=HD hR'
 clear g1 g2 hM1' hM3' hc' hI1 R'
 repeat first|refine jc rfl ?_|(first|refine ju rfl rfl ?_|(refine jv rfl rfl rfl fun K E f τ d=>?_;go_simp;refine f _ _ _ _ ?_;clear f K E τ d);try walk_nrm)
 first|refine JG.fin ?_|refine JG.done (JG.fin ?_)
 exact JG.leave0 rfl rfl Try.func76 (by rfl) (hR'.out _)
theorem Xfi:Q4 Post (Qc bc bg cb hne) num m 78 #[P0 bc] XbN:=by
 refine ⟨⟨_,Try.func78,by kernel_rfl,by kernel_rfl⟩,fun C x col sh cells tb rb cbf hd hL hct hcb hI R=>?_⟩
 have hI0:=hI
 obtain ⟨hc,⟨hM1,hM2⟩,hM3,hM4⟩:=hI
 obtain ⟨hc1,hc2⟩:=hc 0 (by decide)
 have k1:x.cell? (th bc 0)=some (P0 cb):=Xa hM1 0
 have hR:YT Post (Qc bc bg cb hne) num tb rb cbf m none_ C x ⟨2,0,4,0⟩ (fun _=>.ret ()):=Reach.step0 (x0:=x) R (Nat.le_refl _) (fun _ _=>rfl) hI0 (fun _ _=>id)
 replace hR:=HD hR
 replace hI0:=HD hI0
 clear R hc hM1 hM3
 refine Xy Try.func78 (by rfl) (by rfl) ?_
 simp only [Try.f78,Option.getD_some]
 walk_nrm
 repeat first|refine jc rfl ?_|(first|refine ju rfl rfl ?_|(refine jv rfl rfl rfl fun K E f τ d=>?_;have f0:=uc τ d k1;go_simp;refine f _ _ _ _ ?_;clear f0 f K E τ d);try walk_nrm)
 refine Xt (f:=79) (args:=#[P0 cb,P0 tb,.int .i64 4]) Try.func79 (by kernel_rfl) (by kernel_rfl) rfl rfl rfl rfl (by decide) ?_
 refine Uz (S:=Qc bc bg cb hne) (i:=0) (v:=4) hc1.c1 hL (show 0 < 1 from Nat.zero_lt_one) hR.out (Xz.body (fun C x h=>JG.raise rfl Try.func78 h) (fun m' _ C y col' sh' cells' a hd' hL' hct' hcb' _ _ hI' R'=>?_))
 rw [Frame.finish_at]
 walk_nrm
 have hR':=Reach.end0 R' (x:=y) (Nat.le_refl _) (fun r hr=>rfl) hI' (fun _ _ _ h=>h.elim)
 replace hR':=HD hR'
 clear R' hI'
 repeat first|refine jc rfl ?_|(first|refine ju rfl rfl ?_|(refine jv rfl rfl rfl fun K E f τ d=>?_;go_simp;refine f _ _ _ _ ?_;clear f K E τ d);try walk_nrm)
 first|refine JG.fin ?_|refine JG.done (JG.fin ?_)
 exact JG.leave0 rfl rfl Try.func78 (by rfl) (hR'.out _)
end
structure Ctx.Alone (C:Ctx) (N:Nat):Prop where
 d:C.d=0
 h:C.h < C.n
 lo:C.lo≤N
 none:∀ i,i≠C.h→C.Ch i=none
structure Ctx.Same (C C':Ctx):Prop where
 h:C'.h=C.h
 lo:C'.lo=C.lo
 io:C'.io=C.io
theorem Xaz {x y:World} {bc cb n:Nat} {v:Int} (u:Int) (hne:bc≠cb) (b:y.heap[bc]? = some (.cells #[P0 cb] 29 (0,0))) (i:XA y cb v) (o:Xf x y) (hcb:x.heap.size≤cb) (s:y.heap.size=n) :
 (y.setCell (th cb 0) (.int .i64 u)).heap[bc]? = some (.cells #[P0 cb] 29 (0,0))∧XA (y.setCell (th cb 0) (.int .i64 u)) cb u∧Xf x (y.setCell (th cb 0) (.int .i64 u))∧(y.setCell (th cb 0) (.int .i64 u)).heap.size=n :=
 ⟨(Xb hne).trans b,i.set u,⟨by rw [Xg];exact o.1,fun r hr=>by rw [Xb (by omega)];exact o.2 r hr⟩,by rw [Xg];exact s⟩
theorem Y6 {w:World} {N:Nat} {e:TypeId} {size:Nat} {v:Value} {n:Nat} {xs:List Value} (h:w.ownsRow N e size v n xs) (hn:n≠0):∃ g cap,v=.slice (some ⟨g,0,none⟩) n cap∧N≤g∧g < w.heap.size∧∀ i u,xs[i]? = some u→w.cell? (th g i)=some u:=by
 rcases h.2 with ⟨_,h0⟩|⟨g,cap,cur,rfl,hb,hg,_,_,_,ht⟩
 ·exact absurd h0 hn
 ·refine ⟨g,cap,rfl,hb,(GE hg).1,fun i u hu=>?_⟩
  rw [Xa hg,← Array.getElem?_toList]
  rw [← ht,List.getElem?_take] at hu
  split at hu
  ·exact hu
  ·cases hu
section
variable {Post:Value→World→Prop} {C:Ctx} {x:World} {c:Frame} {cs:List Frame}
theorem XbK (hC:C.Alone x.heap.size) (h:∀ (C':Ctx) (y:World),Xf x y→C.Same C'→C'.Alone y.heap.size→JG Try.prog Post C' (G (c.finish (.bool true)) cs) y) :
 JG Try.prog Post C (G (Frame.enter Try.prog 12 #[] .normal) (c::cs)) x:=by
 replace hC:=HD hC
 replace h:=HD h
 refine Xy Try.func12 (by rfl) (by rfl) ?_
 simp only [Try.f12,Option.getD_some]
 walk_nrm
 repeat first|refine jc rfl ?_|(first|refine ju rfl rfl ?_|(refine jv rfl rfl rfl fun K E f τ d=>?_;go_simp;refine f _ _ _ _ ?_;clear f K E τ d);try walk_nrm)
 refine Xt (f:=14) (args:=#[.int .i64 5]) Try.func14 (by kernel_rfl) (by kernel_rfl) rfl rfl rfl rfl (by decide) ?_
 refine Vl fun y1 o1 i1 s1=>?_
 rw [Frame.finish_at]
 walk_nrm
 generalize hcb:x.heap.size=cb at i1 s1 hC ⊢
 replace i1:=HD i1
 replace o1:=HD o1
 replace s1:=HD s1
 repeat first|refine jc rfl ?_|(first|refine ju rfl rfl ?_|(refine jv rfl rfl rfl fun K E f τ d=>?_;go_simp;refine f _ _ _ _ ?_;clear f K E τ d);try walk_nrm)
 refine jo rfl rfl rfl (by decide) fun K E hK hE τ d=>?_
 go_simp
 refine hK _ _ (jt (x:=y1.alloc (.cells #[.pointer none] 29)) ?_)
 simp only [Xv]
 clear hK hE K E τ d
 have b1:(y1.alloc (.cells #[.pointer none] 29)).heap[y1.heap.size]? = some (.cells #[.pointer none] 29 (0,0)):=heap_alloc_new y1 _
 have o2:=o1.out.alloc (.cells #[.pointer none] 29)
 have i2:XA (y1.alloc (.cells #[.pointer none] 29)) cb 5:=by unfold XA;rw [Xj,Array.getElem?_push,if_neg (by have:=s1.out;omega)];exact i1.out
 have s2:(y1.alloc (.cells #[.pointer none] 29)).heap.size=y1.heap.size + 1:=by simp
 generalize y1.alloc (.cells #[.pointer none] 29)=y2 at b1 o2 i2 s2 ⊢
 have s1':=s1.out
 clear s1
 generalize hbc:y1.heap.size=bc at b1 s1' s2 ⊢
 clear i1 o1
 have q0:y2.cell? (th bc 0)=some (.pointer none):=Xa b1 0
 have q1:y2.frozen? (th bc 0)=false:=Xe b1 0
 replace s1':=HD s1'
 refine jo rfl rfl rfl (by decide) fun K E hK hE τ d=>?_
 have hf:=ust (And.intro q0 q1) τ d
 obtain ⟨hf,hg⟩:=hf
 go_simp
 refine hK _ _ ?_
 rw [Xd]
 refine jt ?_
 clear hf hg hK hE K E τ d
 try walk_nrm
 have hne:bc≠cb:=by have:=s1'.out;omega
 have b2:(y2.setCell (th bc 0) (P0 cb)).heap[bc]? = some (.cells #[P0 cb] 29 (0,0)):=by rw [Xc b1];rfl
 have i3:XA (y2.setCell (th bc 0) (P0 cb)) cb 5:=(Xb hne.symm).trans i2
 have o3:Xf x (y2.setCell (th bc 0) (P0 cb)):=⟨by rw [Xg];exact o2.1,fun r hr=>by rw [Xb (by have:=s1'.out;omega)];exact o2.2 r hr⟩
 have s3:(y2.setCell (th bc 0) (P0 cb)).heap.size=bc + 1:=by rw [Xg,s2]
 clear q0 q1 b1 i2 o2 s2
 generalize y2.setCell (th bc 0) (P0 cb)=y3 at b2 i3 o3 s3 ⊢
 have k3:y3.cell? (th bc 0)=some (P0 cb):=Xa b2 0
 replace s3:=HD s3
 replace o3:=HD o3
 repeat first|refine jc rfl ?_|(first|refine ju rfl rfl ?_|(refine jv rfl rfl rfl fun K E f τ d=>?_;have f0:=uc τ d k3;go_simp;refine f _ _ _ _ ?_;clear f0 f K E τ d);try walk_nrm)
 refine Xt (f:=29) (args:=#[P0 cb,.pointer none]) Try.func29 (by kernel_rfl) (by kernel_rfl) rfl rfl rfl rfl (by decide) ?_
 refine Xcx i3.free ?_
 rw [Frame.finish_at]
 walk_nrm
 repeat first|refine jc rfl ?_|(first|refine ju rfl rfl ?_|(refine jv rfl rfl rfl fun K E f τ d=>?_;have f0:=uc τ d k3;go_simp;refine f _ _ _ _ ?_;clear f0 f K E τ d);try walk_nrm)
 refine Xt (f:=73) (args:=#[P0 cb,.pointer none,.int .i64 2]) Try.func73 (by kernel_rfl) (by kernel_rfl) rfl rfl rfl rfl (by decide) ?_
 refine Xf3 i3.free ?_
 rw [Frame.finish_at]
 walk_nrm
 rw [show wrap64 (5 + 2)=7 from by decide +kernel]
 have hcbx:x.heap.size≤cb:=by omega
 obtain ⟨b4,i4,o4,s4⟩:=Xaz 7 hne b2 i3 o3.out hcbx s3.out
 generalize y3.setCell (th cb 0) (.int .i64 7)=y4 at b4 i4 o4 s4 ⊢
 have k4:y4.cell? (th bc 0)=some (P0 cb):=Xa b4 0
 replace s4:=HD s4
 replace o4:=HD o4
 clear b2 i3 o3 s3 k3
 repeat first|refine jc rfl ?_|(first|refine ju rfl rfl ?_|(refine jv rfl rfl rfl fun K E f τ d=>?_;have f0:=uc τ d k4;go_simp;refine f _ _ _ _ ?_;clear f0 f K E τ d);try walk_nrm)
 refine Xt (f:=74) (args:=#[P0 cb,.pointer none,.int .i64 7,.int .i64 1]) Try.func74 (by kernel_rfl) (by kernel_rfl) rfl rfl rfl rfl (by decide) ?_
 refine Xf1 i4.free ?_
 rw [if_pos rfl,Frame.finish_at,show decide ((7:Int)=7)=true from rfl]
 walk_nrm
 obtain ⟨b5,i5,o5,s5⟩:=Xaz 1 hne b4 i4 o4.out hcbx s4.out
 generalize y4.setCell (th cb 0) (.int .i64 1)=y5 at b5 i5 o5 s5 ⊢
 have k5:y5.cell? (th bc 0)=some (P0 cb):=Xa b5 0
 replace s5:=HD s5
 replace o5:=HD o5
 clear b4 i4 o4 s4 k4
 repeat first|refine jc rfl ?_|(first|refine ju rfl rfl ?_|(refine jv rfl rfl rfl fun K E f τ d=>?_;have f0:=uc τ d k5;go_simp;refine f _ _ _ _ ?_;clear f0 f K E τ d);try walk_nrm)
 refine Xt (f:=75) (args:=#[P0 cb,.pointer none,.int .i64 0]) Try.func75 (by kernel_rfl) (by kernel_rfl) rfl rfl rfl rfl (by decide) ?_
 refine Xfm i5.free ?_
 rw [Frame.finish_at]
 walk_nrm
 obtain ⟨b6,i6,o6,s6⟩:=Xaz 0 hne b5 i5 o5.out hcbx s5.out
 generalize y5.setCell (th cb 0) (.int .i64 0)=y6 at b6 i6 o6 s6 ⊢
 replace s6:=HD s6
 replace o6:=HD o6
 clear b5 i5 o5 s5 k5
 repeat first|refine jc rfl ?_|(first|refine ju rfl rfl ?_|(refine jv rfl rfl rfl fun K E f τ d=>?_;go_simp;refine f _ _ _ _ ?_;clear f K E τ d);try walk_nrm)
 refine jo rfl rfl rfl (by decide) fun K E hK hE τ d=>?_
 go_simp
 refine hK _ _ (jt (x:=y6.alloc (.cells #[.int .i64 0] 2)) ?_)
 simp only [Xv]
 clear hK hE K E τ d
 have g0:(y6.alloc (.cells #[.int .i64 0] 2)).heap[y6.heap.size]? = some (.cells #[.int .i64 0] 2 (0,0)):=heap_alloc_new y6 _
 have o7:Xf y6 (y6.alloc (.cells #[.int .i64 0] 2)):=(Xf.refl y6).alloc _
 generalize y6.alloc (.cells #[.int .i64 0] 2)=y7 at g0 o7 ⊢
 have l6c:=i6.lt
 have l6b:=(GE b6).1
 generalize hgb:y6.heap.size=gb at g0 o7 l6c l6b ⊢
 refine jo rfl rfl rfl (by decide) fun K E hK hE τ d=>?_
 have hf:=ust (And.intro (Xa g0 0) (Xe g0 0)) τ d
 obtain ⟨hf,hg⟩:=hf
 go_simp
 refine hK _ _ ?_
 rw [Xd]
 refine jt ?_
 clear hf hg hK hE K E τ d
 try walk_nrm
 have g8:(y7.setCell (th gb 0) (.int .i64 0)).heap[gb]? = some (.cells #[.int .i64 0] 2 (0,0)):=by rw [Xc g0];rfl
 have o8:Xf y6 (y7.setCell (th gb 0) (.int .i64 0)):=⟨by rw [Xg];exact o7.1,fun r hr=>by rw [Xb (by omega)];exact o7.2 r hr⟩
 generalize y7.setCell (th gb 0) (.int .i64 0)=y8 at g8 o8 ⊢
 have i8:XA y8 cb 0:=(o8.2 cb (by omega)).trans i6
 have b8:=(o8.2 bc (by omega)).trans b6
 have o9:=o6.out.trans o8
 clear g0 o7 o8 i6 b6 o6
 repeat first|refine jc rfl ?_|(first|refine ju rfl rfl ?_|(refine jv rfl rfl rfl fun K E f τ d=>?_;go_simp;refine f _ _ _ _ ?_;clear f K E τ d);try walk_nrm)
 refine jo rfl rfl rfl (by decide) fun K E hK hE τ d=>?_
 go_simp
 refine hK _ _ (jt (x:=y8.alloc (.cells #[.func (.func 76) #[] #[P0 bc,P0 gb],.func (.func 78) #[] #[P0 bc]] 40)) ?_)
 simp only [Xv]
 clear hK hE K E τ d
 have f0:(y8.alloc (.cells #[.func (.func 76) #[] #[P0 bc,P0 gb],.func (.func 78) #[] #[P0 bc]] 40)).heap[y8.heap.size]? = some (.cells #[.func (.func 76) #[] #[P0 bc,P0 gb],.func (.func 78) #[] #[P0 bc]] 40 (0,0)):=heap_alloc_new y8 _
 have o10:=(Xf.refl y8).alloc (.cells #[.func (.func 76) #[] #[P0 bc,P0 gb],.func (.func 78) #[] #[P0 bc]] 40)
 generalize y8.alloc (.cells #[.func (.func 76) #[] #[P0 bc,P0 gb],.func (.func 78) #[] #[P0 bc]] 40)=w1 at f0 o10 ⊢
 have l8g:=(GE g8).1
 have l8c:=i8.lt
 have l8b:=(GE b8).1
 generalize hbb:y8.heap.size=bb at f0 o10 l8g l8c l8b ⊢
 rw [← hbb] at l8g l8c l8b
 have gw:=(o10.2 gb (by omega)).trans g8
 have bw:=(o10.2 bc (by omega)).trans b8
 have iw:XA w1 cb 0:=(o10.2 cb (by omega)).trans i8
 have ow:=o9.trans o10
 clear g8 i8 b8 o9 o10
 have lbb:=(GE f0).1
 have hbcx:x.heap.size≤bc:=by have:=s1'.out;omega
 have hgbx:x.heap.size≤gb:=by have:=s6.out;omega
 have hne':bc≠cb∧gb≠cb:=⟨hne,by omega⟩
 replace ow:=HD ow
 replace gw:=HD gw
 replace bw:=HD bw
 replace iw:=HD iw
 replace f0:=HD f0
 repeat first|refine jc rfl ?_|(first|refine ju rfl rfl ?_|(refine jv rfl rfl rfl fun K E f τ d=>?_;go_simp;refine f _ _ _ _ ?_;clear f K E τ d);try walk_nrm)
 refine Xt (f:=18) (args:=#[.slice none 0 0,.int .i64 9,.slice (some ⟨bb,0,none⟩) 2 2]) Try.func18 (by kernel_rfl) (by kernel_rfl) rfl rfl rfl rfl (by decide) ?_
 refine Xfp (S:=Qc bc gb cb hne') (Kp:=fun r=>r < x.heap.size∨r=bb) (picks:=[]) (most:=9) (m:=9) (bodies:=[⟨76,#[P0 bc,P0 gb],XbO⟩,⟨78,#[P0 bc],XbN⟩]) (sh:=0) (cells:=fun _=>0) (by decide) hC.out.d hC.out.h (Nat.le_trans hC.out.lo (by have:=ow.out.1;omega)) hC.out.none (fun e=>absurd rfl e) (fun j b e=>?_) (show 2≤64 by decide) (fun r hr=>?_) (fun j b hb=>?_) ?_ (fun l1 l2 e=>YJ.no_start l1 _ _ (fun p hp=>Xfh p (by rw [show [XbO,XbN] = l1 ++ l2 from e];exact List.mem_append_left _ hp)) (fun j hj=>absurd hj (Nat.not_lt_zero j)))
  (fun Q e C' z M vL vW vR vl hQ d1 d2 d3 d4 d5 d6 hz hsz hM r1 r2 r3 r4 hI hQn hlv hnm=>?_)
 ·refine ⟨bb,rfl,.inr rfl,?_⟩
  match j,e with
  | 0,e=>obtain rfl:=OI e;exact Xa f0.out 0
  | 1,e=>obtain rfl:=OI e;exact Xa f0.out 1
  | j + 2,e=>simp at e
 ·rcases hr with h|rfl
  ·have:=ow.out.1;omega
  ·exact lbb
 ·match j,hb with
  | 0,e=>obtain rfl:=OI e;exact Xfj (by omega)
  | 1,e=>obtain rfl:=OI e;exact Xfi
  | j + 2,e=>simp at e
 ·exact ⟨fun i _=>⟨iw.out,show ¬ (cb < x.heap.size∨cb=bb) by omega⟩,⟨bw.out,show ¬ (bc < x.heap.size∨bc=bb) by omega⟩,gw.out,show ¬ (gb < x.heap.size∨gb=bb) by omega⟩
 rw [Frame.finish_at]
 walk_nrm
 have hq:VT=(e,Q):=hQ
 have he:e=1:=by have:=Xeu;rw [hq] at this;exact this
 have hsh:Q.st.sh=4:=by have:=Xfg;rw [hq] at this;exact this
 have hcl:Q.st.cells 0=4:=by have:=Xdt;rw [hq] at this;exact this
 have hlog:Q.st.log = [⟨1,2,0,4,0,0,4,false⟩,⟨0,6,0,0,0,4,4,false⟩]:=by have:=Xet;rw [hq] at this;exact this
 obtain ⟨hIc,⟨hIb,_⟩,hIg,_⟩:=hI
 have iz:XA z cb 4:=by have:=(hIc 0 (show 0 < 1 from Nat.zero_lt_one)).1;rw [hcl] at this;exact this
 rw [hsh] at hIg
 rw [hlog] at r1
 obtain ⟨gL,cL,rfl,hLM,hLz,hLc⟩:=Y6 r1 (by decide)
 obtain ⟨aW,cW,rfl⟩:=Xo r2
 obtain ⟨aR,cR,rfl⟩:=Xo r3
 obtain ⟨al,cl,rfl⟩:=Xo r4
 have oz:Xf x z:=⟨by have:=ow.out.1;omega,fun r hr=>(hz r (.inl hr)).trans (ow.out.2 r hr)⟩
 have x0:z.cell? (th gL 0)=some (.int .i64 1):=hLc 0 _ rfl
 have x9:z.cell? (th gL 9)=some (.int .i8 6):=hLc 9 _ rfl
 subst he
 clear hQ hq hsh hcl hlog hIc r1 r2 r3 r4 hLc hz f0 gw bw iw ow hnm hlv
 replace oz:=HD oz
 replace iz:=HD iz
 repeat first|refine jc rfl ?_|(first|refine ju rfl rfl ?_|(refine jv rfl rfl rfl fun K E f τ d=>?_;go_simp;refine f _ _ _ _ ?_;clear f K E τ d);try walk_nrm)
 refine jo rfl rfl rfl (by decide) fun K E hK hE τ d=>?_
 go_simp
 refine hK _ _ (jt (x:=z.alloc (.cells #[.int .i8 0,.int .i64 0,.slice none 0 0,.slice none 0 0,.slice none 0 0,.slice none 0 0,.slice none 0 0] 43)) ?_)
 simp only [Xv]
 clear hK hE K E τ d
 have wn:(z.alloc (.cells #[.int .i8 0,.int .i64 0,.slice none 0 0,.slice none 0 0,.slice none 0 0,.slice none 0 0,.slice none 0 0] 43)).heap[z.heap.size]? = some (.cells #[.int .i8 0,.int .i64 0,.slice none 0 0,.slice none 0 0,.slice none 0 0,.slice none 0 0,.slice none 0 0] 43 (0,0)):=heap_alloc_new z _
 have s4:=(Xf.refl z).alloc (.cells #[.int .i8 0,.int .i64 0,.slice none 0 0,.slice none 0 0,.slice none 0 0,.slice none 0 0,.slice none 0 0] 43)
 generalize z.alloc (.cells #[.int .i8 0,.int .i64 0,.slice none 0 0,.slice none 0 0,.slice none 0 0,.slice none 0 0,.slice none 0 0] 43)=w2 at wn s4 ⊢
 have lzg:=(GE hIg).1
 have lzb:=(GE hIb).1
 have lzc:=iz.out.lt
 generalize hq:z.heap.size=q at wn s4 lzg lzb lzc hLz hsz ⊢
 have m0:w2.cell? (th q 0)=some (.int .i8 0):=Xa wn 0
 have n0:w2.frozen? (th q 0)=false:=Xe wn 0
 have m1:w2.cell? (th q 1)=some (.int .i64 0):=Xa wn 1
 have n1:w2.frozen? (th q 1)=false:=Xe wn 1
 have m2:w2.cell? (th q 2)=some (.slice none 0 0):=Xa wn 2
 have n2:w2.frozen? (th q 2)=false:=Xe wn 2
 have m3:w2.cell? (th q 3)=some (.slice none 0 0):=Xa wn 3
 have n3:w2.frozen? (th q 3)=false:=Xe wn 3
 have m4:w2.cell? (th q 4)=some (.slice none 0 0):=Xa wn 4
 have n4:w2.frozen? (th q 4)=false:=Xe wn 4
 have m5:w2.cell? (th q 5)=some (.slice none 0 0):=Xa wn 5
 have n5:w2.frozen? (th q 5)=false:=Xe wn 5
 have m6:w2.cell? (th q 6)=some (.slice none 0 0):=Xa wn 6
 have n6:w2.frozen? (th q 6)=false:=Xe wn 6
 refine jo rfl rfl rfl (by decide) fun K E hK hE τ d=>?_
 have m0':=(Xi w2 τ d _).trans m0
 have n0':=(Xl w2 τ d _).trans n0
 have m1':=(Xi w2 τ d _).trans m1
 have n1':=(Xl w2 τ d _).trans n1
 have m2':=(Xi w2 τ d _).trans m2
 have n2':=(Xl w2 τ d _).trans n2
 have m3':=(Xi w2 τ d _).trans m3
 have n3':=(Xl w2 τ d _).trans n3
 have m4':=(Xi w2 τ d _).trans m4
 have n4':=(Xl w2 τ d _).trans n4
 have m5':=(Xi w2 τ d _).trans m5
 have n5':=(Xl w2 τ d _).trans n5
 have m6':=(Xi w2 τ d _).trans m6
 have n6':=(Xl w2 τ d _).trans n6
 go_simp
 refine hK _ _ ?_
 rw [Xd,Xd,Xd,Xd,Xd,Xd,Xd]
 refine jt ?_
 clear m0 n0 m0' n0' m1 n1 m1' n1' m2 n2 m2' n2' m3 n3 m3' n3' m4 n4 m4' n4' m5 n5 m5' n5' m6 n6 m6' n6' hK hE K E τ d
 obtain ⟨v,hv⟩:∃ v,v=(((((((w2.setCell (th q 0) (.int .i8 1)).setCell (th q 1) (.int .i64 Q.st.went.length)).setCell (th q 2) (.slice (some ⟨gL,0,none⟩) 2 cL)).setCell (th q 3) (.slice aW Q.st.went.length cW)).setCell (th q 4) (.slice aR Q.st.ready.length cR)).setCell (th q 5) (.slice al Q.left.length cl)).setCell (th q 6) (.slice none 0 0)):=⟨_,rfl⟩
 rw [← hv]
 try walk_nrm
 have hsv:v.heap.size=w2.heap.size:=by rw [hv,Xg,Xg,Xg,Xg,Xg,Xg,Xg]
 have hvo:∀ r,r≠q→v.heap[r]? = w2.heap[r]?:=fun r h=>by
  rw [hv,Xb h,Xb h,Xb h,Xb h,Xb h,Xb h,Xb h]
 have hvn:v.heap[q]? = some (.cells #[.int .i8 1,.int .i64 Q.st.went.length,.slice (some ⟨gL,0,none⟩) 2 cL,.slice aW Q.st.went.length cW,.slice aR Q.st.ready.length cR,.slice al Q.left.length cl,.slice none 0 0] 43 (0,0)):=by
  rw [hv]
  exact Xc (Xc (Xc (Xc (Xc (Xc (Xc wn))))))
 clear hv wn
 have hvz:Xf z v:=⟨by rw [hsv];exact s4.1,fun r hr=>(hvo r (by omega)).trans (s4.2 r (by omega))⟩
 have v0:v.cell? (th q 0)=some (.int .i8 1):=Xa hvn 0
 have v2:v.cell? (th q 2)=some (.slice (some ⟨gL,0,none⟩) 2 cL):=Xa hvn 2
 have v3:v.cell? (th gL 0)=some (.int .i64 1):=hvz.cell x0
 have v4:v.cell? (th gL 9)=some (.int .i8 6):=hvz.cell x9
 have v5:v.cell? (th gb 0)=some (.int .i64 4):=Xa ((hvz.2 gb (by omega)).trans hIg) 0
 have v6:v.cell? (th bc 0)=some (P0 cb):=Xa ((hvz.2 bc (by omega)).trans hIb) 0
 have iv:XA v cb 4:=(hvz.2 cb (by omega)).trans iz.out
 have ov:=oz.out.trans hvz
 have hal:C'.Alone v.heap.size:=⟨d1,by have h1:=hC.out.h;have h2:C'.n=C.n + 2:=d3;omega,by have:=hC.out.lo;have:=ov.1;omega,fun i hi=>d6 i (by omega)⟩
 have hsm:C.Same C':=⟨d2,d4,d5⟩
 clear hvo hvz s4 x0 x9 hIg hIb
 replace ov:=HD ov
 repeat first|refine jc rfl ?_|(first|refine ju rfl rfl ?_|(refine jv rfl rfl rfl fun K E f τ d=>?_;have f0:=uc τ d v0;have f1:=uc τ d v2;have f2:=uc τ d v3;have f3:=uc τ d v4;have f4:=uc τ d v5;have f5:=uc τ d v6;go_simp;refine f _ _ _ _ ?_;clear f0 f1 f2 f3 f4 f5 f K E τ d);try walk_nrm)
 refine Xt (f:=29) (args:=#[P0 cb,.pointer none]) Try.func29 (by kernel_rfl) (by kernel_rfl) rfl rfl rfl rfl (by decide) ?_
 refine Xcx iv.free ?_
 rw [Frame.finish_at]
 walk_nrm
 repeat first|refine jc rfl ?_|(first|refine ju rfl rfl ?_|(refine jv rfl rfl rfl fun K E f τ d=>?_;have f0:=uc τ d v0;have f1:=uc τ d v2;have f2:=uc τ d v3;have f3:=uc τ d v4;have f4:=uc τ d v5;have f5:=uc τ d v6;go_simp;refine f _ _ _ _ ?_;clear f0 f1 f2 f3 f4 f5 f K E τ d);try walk_nrm)
 refine JG.ret ?_
 exact JG.leave rfl rfl Try.func12 (fun τ d=>results_tmp (t:=0) rfl _ _ _) (h.out C' v ov.out hsm hal)
end
section
variable {α:Type}
def Qa (j:Nat) (cs:List (Xr α)):XB (Nat→List α) Unit:=.act id fun s=>if (s j).isEmpty then Yj j cs else .out
theorem Vh {j:Nat} {cs:List (Xr α)} {s:Nat→List α} (h:s j = []):(Qa j cs).pass s=(Yj j cs).pass s:=by
 simp [Qa,XB.pass,h]
theorem XcN {j:Nat} {cs:List (Xr α)} {s:Nat→List α} (h:s j≠[]):(Qa j cs).pass s=(s,.out):=by
 have:(s j).isEmpty=false:=by cases hs:s j with
  | nil=>exact absurd hs h
  | cons a l=>rfl
 simp [Qa,XB.pass,h]
def XU (b:Nat):List (List (Xr α))→List (XB (Nat→List α) Unit)
 | []=>[]
 | cs::l=>Qa b cs::XU (b + 1) l
theorem Q1:∀ (css:List (List (Xr α))) (b j:Nat),(XU b css)[j]? = (css[j]?).map (Qa (b + j))
 | [],b,j=>by simp [XU]
 | cs::l,b,0=>by simp [XU]
 | cs::l,b,j + 1=>by
  have:=Q1 l (b + 1) j
  simp only [XU,List.getElem?_cons_succ,this]
  rw [show b + 1 + j=b + (j + 1) by omega]
inductive Xr.NoOut:Xr α→Prop
 | ret (a:α):NoOut (.ret a)
 | acc {r:Ask} {k:Told→Xr α} (hk:∀ a,NoOut (k a)):NoOut (.acc r k)
theorem Xr.NoOut.into {Sh:Type} {g:α→XB Sh Unit} (hg:∀ a,Go.Proofs.Ytdhnggjmegilkaa.NoOut (g a)):∀ {c:Xr α},c.NoOut→Go.Proofs.Ytdhnggjmegilkaa.NoOut (c.into g)
 | .ret a,_=>hg a
 | .acc r k,h=>by
  cases h with
  | acc hk=>exact .acc fun a=>(hk a).into hg
theorem Q3 (j:Nat):∀ {cs:List (Xr α)},(∀ c∈cs,c.NoOut)→NoOut (Yj j cs)
 | [],_=>.ret ()
 | c::l,h=>(h c List.mem_cons_self).into fun a=>.act fun _=>Q3 j fun d hd=>h d (List.mem_cons_of_mem _ hd)
namespace Xp
theorem start_guards:∀ (css:List (List (Xr α))) (P:Xp (Nat→List α)),(∀ j,P.n≤j→P.st.sh j = [])→P.start (XU P.n css)=P.start (bodiesOf P.n css)
 | [],P,h=>rfl
 | cs::l,P,h=>by
  have hs:settle { P with n:=P.n + 1 } P.n (Qa P.n cs)=settle { P with n:=P.n + 1 } P.n (Yj P.n cs):=by
   unfold settle
   simp only [Vh (h P.n (Nat.le_refl _))]
  show (settle { P with n:=P.n + 1 } P.n (Qa P.n cs)).start _=(settle { P with n:=P.n + 1 } P.n (Yj P.n cs)).start _
  rw [hs]
  have hn:(settle { P with n:=P.n + 1 } P.n (Yj P.n cs)).n=P.n + 1:=rfl
  rw [show XU (P.n + 1) l=XU (settle { P with n:=P.n + 1 } P.n (Yj P.n cs)).n l from rfl,show bodiesOf (P.n + 1) l=bodiesOf (settle { P with n:=P.n + 1 } P.n (Yj P.n cs)).n l from rfl]
  refine start_guards l _ fun j hj=>?_
  have hp:=Qf P.n cs P.st.sh
  have hsh:(settle { P with n:=P.n + 1 } P.n (Yj P.n cs)).st.sh=upd P.st.sh P.n (P.st.sh P.n ++ (QQ cs).1):=congrArg Prod.fst hp
  rw [hn] at hj
  rw [hsh,upd_ne _ _ (by omega)]
  exact h j (by omega)
end Xp
theorem Qz:∀ (css:List (List (Xr α))) (b:Nat) (l1 l2:List (XB (Nat→List α) Unit)),XU b css=l1 ++ l2→l1=XU b (css.take l1.length)
 | css,b,[],l2,h=>by simp [XU]
 | [],b,p::l1,l2,h=>by simp [XU] at h
 | cs::l,b,p::l1,l2,h=>by
  simp only [XU,List.cons_append,List.cons.injEq] at h
  obtain ⟨rfl,h2⟩:=h
  have:=Qz l (b + 1) l1 l2 h2
  simp only [List.length_cons,List.take_succ_cons,XU,List.cons.injEq,true_and]
  exact this
theorem Xar {css:List (List (Xr α))} {cells:Nat→Int} {sh0:Nat→List α} (h0:∀ j,sh0 j = []) (hno:∀ cs∈css,∀ c∈cs,c.NoOut) (m:Nat) (l1 l2:List (XB (Nat→List α) Unit)) (h:XU 0 css=l1 ++ l2):(YJ.no (Nat→List α)).f m ((Xp.init sh0 cells).start l1):=by
 rw [Qz css 0 l1 l2 h]
 have h1:=Xp.start_guards (css.take l1.length) (Xp.init sh0 cells) (fun j _=>h0 j)
 rw [show (Xp.init sh0 cells).n=0 from rfl] at h1
 rw [h1]
 have hb:∀ (css':List (List (Xr α))) (b:Nat),(∀ cs∈css',∀ c∈cs,c.NoOut)→∀ p∈Xp.bodiesOf b css',NoOut p:=by
  intro css'
  induction css' with
  | nil=>intro b _ p hp;simp [Xp.bodiesOf] at hp
  | cons cs l ih =>
   intro b hn p hp
   rcases List.mem_cons.1 hp with rfl|hp
   ·exact Q3 b (hn cs List.mem_cons_self)
   ·exact ih (b + 1) (fun cs' h'=>hn cs' (List.mem_cons_of_mem _ h')) p hp
 exact YJ.no_start _ _ _ (hb _ _ fun cs hcs=>hno cs (List.mem_of_mem_take hcs)) (fun j hj=>absurd hj (Nat.not_lt_zero j))
end
end Go.Proofs.Ytdhnggjmegilkaa
