/- Bodies that begin where nothing has been told them yet. No program in sight. -/
import Derived.Test.YtdgfekplfipekaaVRnR
import Derived.Test.YtdgfekplfipekaaVGtO
import Derived.Test.YtdgfekplfipekaaVRoC
import Derived.Test.YtdgfekplfipekaaVLbA
import Derived.Test.YtdgfekplfipekaaVPlB
set_option linter.all false
set_option maxRecDepth 100000
set_option maxHeartbeats 16000000
namespace Go.Proofs.Ytdgfekplfipekaa
open Go.Conc Go.RowKit
open Go.ConcN (upd upd_same upd_ne)
set_option maxRecDepth 100000
section
variable {Sh:Type} {Post:Value→World→Prop} {S:Zv Sh} {num tb rb m:Nat} {cb:Frame} {Pv:Nat→Prop} {C:Ctx} {x:World} {k:Told→Xx Sh Unit} {c:Frame} {cs:List Frame} {i:Nat}
theorem XR.up {f f':Told→Value} {pf:Frame} (h1:∀ (a:Told) (C:Ctx) (x:World),JG Try.prog Post C (G (c.finish (f' a)) cs) x→JG Try.prog Post C (G (pf.finish (f a)) (c::cs)) x)
 (h2:∀ (C:Ctx) (x:World),JG Try.prog Post C (G (c.raise [{ v:=YI,recovered:=false }]) cs) x→JG Try.prog Post C (G (pf.raise [{ v:=YI,recovered:=false }]) (c::cs)) x) :
 XR Post S num tb rb cb m Pv x f' k c cs→XR Post S num tb rb cb m Pv x f k pf (c::cs):=by
 cases m with
 | zero=>exact fun h C x hb=>h2 C x (h C x hb)
 | succ m=>exact fun h=>⟨fun C x hb=>h2 C x (h.1 C x hb),fun C x col sh cells a e1 e2 e3 e4 ep ek e5 e6=>h1 a C x (h.2 C x col sh cells a e1 e2 e3 e4 ep ek e5 e6)⟩
def Q6 (Post:Value→World→Prop) (S:Zv Sh) (num tb rb:Nat) (cb:Frame) (m:Nat) (Pv:Nat→Prop) (C:Ctx) (x:World) (r:Ask) (k:Told→Xx Sh Unit):Prop :=
 ∀ (c:Frame) (cs:List Frame),r.Good→r.cell < S.nc→XR Post S num tb rb cb m Pv x QG k c cs→JG Try.prog Post C (G (Frame.enter Try.prog 33 #[P0 tb,P0 (S.A r.cell),.int .i8 r.op,.int .i64 r.arg,.int .i64 r.new] .normal) (c::cs)) x
theorem Reach.step {col:Nat→Prop} {cells:Nat→Int} {sh:Sh} {r:Ask} {x0:World} (R:Reach Post S num tb cb (fun Pv y=>XR Post S num tb rb cb m Pv y QG) C col cells x0 sh (.acc r k)) (h1:x0.heap.size≤x.heap.size) (h2:∀ r,col r→x.heap[r]? = x0.heap[r]?) (hp:∀ r,Pv r→r < x.heap.size∧¬ col r) (h3:S.I sh cells (fun r=>col r∨Pv r) x) (h4:∀ i a,i≠num→S.keep i a→x.cell? a=x0.cell? a):Q6 Post S num tb rb cb m Pv C x r k:=R x Pv h1 h2 hp h3 h4
def none_:Nat→Prop:=fun _=>False
theorem VN (col:Nat→Prop):(fun r=>col r∨none_ r)=col:=by funext r;exact propext ⟨fun h=>h.elim id fun h=>h.elim,.inl⟩
theorem cellLoad_R (hm:x.cell? (th (S.A i) 1)=some (.bool true)) (hL:Qn x tb rb) (hi:i < S.nc) (R:Q6 Post S num tb rb cb m Pv C x ⟨1,i,0,0⟩ k) (ha:XR Post S num tb rb cb m Pv x (fun a=>.int .i64 a.was) k c cs) :
 JG Try.prog Post C (G (Frame.enter Try.prog 13 #[P0 (S.A i),P0 tb] .normal) (c::cs)) x:=by
 obtain ⟨h0,h13,_⟩:=hL;have R':=R;unfold Q6 at R';replace R':=HD R';clear R;refine Xu Try.func13 (by rfl) (by rfl) ?_;simp only [Try.f13,Option.getD_some];walk_nrm
 repeat refine kx ?_
 refine kf (args:=#[P0 (S.A i)]) Try.func31 ?_;refine Vl hm ?_;rw [Frame.finish_at];walk_nrm
 repeat refine kx ?_
 refine kf (args:=#[P0 tb]) Try.func32 ?_;refine Zz h0 h13 ?_;rw [Frame.finish_at];walk_nrm
 repeat refine kx ?_
 refine kf (args:=#[P0 tb,P0 (S.A i),.int .i8 1,.int .i64 (0),.int .i64 (0)]) Try.func33 ?_;refine R'.out _ _ ⟨(by decide:(1:Int)≤1),(by decide:(1:Int)≤6),fun _=>rfl,fun _=>rfl⟩ hi (XR.up (fun a C x h=>?_) (fun C x h=>JG.raise rfl Try.func13 h) ha);rw [Frame.finish_at];simp only [QG];walk_nrm
 repeat refine kx ?_
 refine JG.ret ?_;exact JG.leave rfl rfl Try.func13 (fun τ d=>results_tmp (t:=4) rfl _ _ _) h
theorem cellStore_R {v:Int} (hm:x.cell? (th (S.A i) 1)=some (.bool true)) (hL:Qn x tb rb) (hi:i < S.nc) (R:Q6 Post S num tb rb cb m Pv C x ⟨2,i,v,0⟩ k) (ha:XR Post S num tb rb cb m Pv x (fun a=>.tuple #[]) k c cs) :
 JG Try.prog Post C (G (Frame.enter Try.prog 14 #[P0 (S.A i),P0 tb,.int .i64 v] .normal) (c::cs)) x:=by
 obtain ⟨h0,h13,_⟩:=hL;have R':=R;unfold Q6 at R';replace R':=HD R';clear R;refine Xu Try.func14 (by rfl) (by rfl) ?_;simp only [Try.f14,Option.getD_some];walk_nrm
 repeat refine kx ?_
 refine kf (args:=#[P0 (S.A i)]) Try.func31 ?_;refine Vl hm ?_;rw [Frame.finish_at];walk_nrm
 repeat refine kx ?_
 refine kf (args:=#[P0 tb]) Try.func32 ?_;refine Zz h0 h13 ?_;rw [Frame.finish_at];walk_nrm
 repeat refine kx ?_
 refine kf (args:=#[P0 tb,P0 (S.A i),.int .i8 2,.int .i64 (v),.int .i64 (0)]) Try.func33 ?_;refine R'.out _ _ ⟨(by decide:(1:Int)≤2),(by decide:(2:Int)≤6),fun e=>absurd e (by decide:(2:Int)≠1),fun _=>rfl⟩ hi (XR.up (fun a C x h=>?_) (fun C x h=>JG.raise rfl Try.func14 h) ha);rw [Frame.finish_at];simp only [QG];walk_nrm
 repeat refine kx ?_
 refine JG.ret ?_;exact JG.leave rfl rfl Try.func14 (fun τ d=>results_none rfl _ _ _) h
theorem cellAdd_R {v:Int} (hm:x.cell? (th (S.A i) 1)=some (.bool true)) (hL:Qn x tb rb) (hi:i < S.nc) (R:Q6 Post S num tb rb cb m Pv C x ⟨4,i,v,0⟩ k) (ha:XR Post S num tb rb cb m Pv x (fun a=>.int .i64 a.now) k c cs) :
 JG Try.prog Post C (G (Frame.enter Try.prog 39 #[P0 (S.A i),P0 tb,.int .i64 v] .normal) (c::cs)) x:=by
 obtain ⟨h0,h13,_⟩:=hL;have R':=R;unfold Q6 at R';replace R':=HD R';clear R;refine Xu Try.func39 (by rfl) (by rfl) ?_;simp only [Try.f39,Option.getD_some];walk_nrm
 repeat refine kx ?_
 refine kf (args:=#[P0 (S.A i)]) Try.func31 ?_;refine Vl hm ?_;rw [Frame.finish_at];walk_nrm
 repeat refine kx ?_
 refine kf (args:=#[P0 tb]) Try.func32 ?_;refine Zz h0 h13 ?_;rw [Frame.finish_at];walk_nrm
 repeat refine kx ?_
 refine kf (args:=#[P0 tb,P0 (S.A i),.int .i8 4,.int .i64 (v),.int .i64 (0)]) Try.func33 ?_;refine R'.out _ _ ⟨(by decide:(1:Int)≤4),(by decide:(4:Int)≤6),fun e=>absurd e (by decide:(4:Int)≠1),fun _=>rfl⟩ hi (XR.up (fun a C x h=>?_) (fun C x h=>JG.raise rfl Try.func39 h) ha);rw [Frame.finish_at];simp only [QG];walk_nrm
 repeat refine kx ?_
 refine JG.ret ?_;exact JG.leave rfl rfl Try.func39 (fun τ d=>results_tmp (t:=6) rfl _ _ _) h
theorem cellPark_R {v:Int} (hm:x.cell? (th (S.A i) 1)=some (.bool true)) (hL:Qn x tb rb) (hi:i < S.nc) (R:Q6 Post S num tb rb cb m Pv C x ⟨6,i,v,0⟩ k) (ha:XR Post S num tb rb cb m Pv x (fun a=>.int .i64 a.was) k c cs) :
 JG Try.prog Post C (G (Frame.enter Try.prog 30 #[P0 (S.A i),P0 tb,.int .i64 v] .normal) (c::cs)) x:=by
 obtain ⟨h0,h13,_⟩:=hL;have R':=R;unfold Q6 at R';replace R':=HD R';clear R;refine Xu Try.func30 (by rfl) (by rfl) ?_;simp only [Try.f30,Option.getD_some];walk_nrm
 repeat refine kx ?_
 refine kf (args:=#[P0 (S.A i)]) Try.func31 ?_;refine Vl hm ?_;rw [Frame.finish_at];walk_nrm
 repeat refine kx ?_
 refine kf (args:=#[P0 tb]) Try.func32 ?_;refine Zz h0 h13 ?_;rw [Frame.finish_at];walk_nrm
 repeat refine kx ?_
 refine kf (args:=#[P0 tb,P0 (S.A i),.int .i8 6,.int .i64 (v),.int .i64 (0)]) Try.func33 ?_;refine R'.out _ _ ⟨(by decide:(1:Int)≤6),(by decide:(6:Int)≤6),fun e=>absurd e (by decide:(6:Int)≠1),fun _=>rfl⟩ hi (XR.up (fun a C x h=>?_) (fun C x h=>JG.raise rfl Try.func30 h) ha);rw [Frame.finish_at];simp only [QG];walk_nrm
 repeat refine kx ?_
 refine JG.ret ?_;exact JG.leave rfl rfl Try.func30 (fun τ d=>results_tmp (t:=6) rfl _ _ _) h
end
structure Xgc (Sh:Type) (A:Nat→Nat) (nc:Nat) where
 M:Sh→(Nat→Prop)→World→Prop
 frame:∀ {sh:Sh} {col:Nat→Prop} {x:World},M sh col x→∀ (col':Nat→Prop) (y:World),x.heap.size≤y.heap.size→(∀ r,r < x.heap.size→¬ col r→(∀ i,i < nc→r≠A i)→y.heap[r]? = x.heap[r]?)→(∀ r,r < x.heap.size→col' r→col r)→M sh col' y
theorem XN.lt {x:World} {b:Nat} {v:Int} (h:XN x b v):b < x.heap.size:=(GE h).1
structure Xdu {Sh:Type} {A:Nat→Nat} {nc:Nat} (W:Xgc Sh A nc) where
 k:Nat→Addr→Prop
 i:∀ {sh:Sh} {col:Nat→Prop} {x:World},W.M sh col x→∀ j a,k j a→a.block < x.heap.size∧¬ col a.block∧∀ c,c < nc→a.block≠A c
def Xdu.no {Sh:Type} {A:Nat→Nat} {nc:Nat} (W:Xgc Sh A nc):Xdu W:=⟨fun _ _=>False,fun _ _ _ h=>h.elim⟩
def Xed {Sh:Type} (A:Nat→Nat) (nc:Nat) (inj:∀ a b,a < nc→b < nc→A a=A b→a=b) (W:Xgc Sh A nc) (fin:XV Sh:=XV.no Sh) (kp:Xdu W:=Xdu.no W):Zv Sh where
 fin:=fin
 keep:=kp.k
 keepI:=fun h j a ha=>kp.i h.2 j a ha
 A:=A
 nc:=nc
 I:=fun sh cells col x=>(∀ i,i < nc→XN x (A i) (cells i)∧¬ col (A i))∧W.M sh col x
 inj:=inj
 cell:=fun h i hi=>⟨⟨_,_,(h.1 i hi).1⟩,(h.1 i hi).1.c0,(h.1 i hi).2⟩
 frame:=fun h col' y hs ho hc=>⟨fun i hi=>by
  obtain ⟨h1,h2⟩:=h.1 i hi;exact ⟨(ho _ h1.lt h2).trans h1,fun e=>h2 (hc _ h1.lt e)⟩,W.frame h.2 col' y hs (fun r hr hn _=>ho r hr hn) hc⟩
 set:=fun {sh cells col x} h i v col' y hi hs ho hv hc=>⟨fun j hj=>by
  obtain ⟨h1,h2⟩:=h.1 j hj;refine ⟨?_,fun e=>h2 (hc _ h1.lt e)⟩
  by_cases e:j=i
  ·subst e
   rw [upd_same];exact hv.trans (h1.set v)
  ·rw [upd_ne _ _ e]
   exact (ho _ h1.lt h2 fun e2=>e (inj j i hj hi e2)).trans h1,W.frame h.2 col' y hs (fun r hr hn hna=>ho r hr hn (hna i hi)) hc⟩
section
variable {Sh:Type} {Post:Value→World→Prop} {S:Zv Sh} {num tb rb m:Nat} {cb c:Frame} {Pv:Nat→Prop} {x0:World} {f:Told→Value} {k:Told→Xx Sh Unit}
theorem XR.body (h1:∀ (C:Ctx) (x:World),JG Try.prog Post C (G (cb.raise [{ v:=YI,recovered:=false }]) [YX Try.prog]) x→JG Try.prog Post C (G (c.raise [{ v:=YI,recovered:=false }]) [cb,YX Try.prog]) x)
 (h2:∀ m',m=m' + 1→∀ (C:Ctx) (x:World) (col:Nat→Prop) (sh:Sh) (cells:Nat→Int) (a:Told),C.d=0→Qn x tb rb→col tb→(∀ r,col r→r < x.heap.size)→(∀ r,Pv r→¬ col r∧x.heap[r]? = x0.heap[r]?)→(∀ b,S.keep num b→x.cell? b=x0.cell? b)→S.I sh cells col x →
   Reach Post S num tb cb (fun Pv y=>XR Post S num tb rb cb m' Pv y QG) C col cells x ((k a).pass sh).1 ((k a).pass sh).2→JG Try.prog Post C (G (c.finish (f a)) [cb,YX Try.prog]) x):XR Post S num tb rb cb m Pv x0 f k c [cb,YX Try.prog]:=by
 have hs:Yq Post cb c [cb,YX Try.prog]:=fun C x hb=>h1 C x (hb x (Nat.le_refl _) fun _ _=>rfl);cases m with
 | zero=>exact hs
 | succ m=>exact ⟨hs,fun C x col sh cells a e1 e2 e3 e4 ep ek e5 e6=>h2 m rfl C x col sh cells a e1 e2 e3 e4 ep ek (S.frame e5 _ _ (Nat.le_refl _) (fun _ _ _=>rfl) fun _ _ h=>.inl h) e6⟩
end
section
variable {Post:Value→World→Prop} {C:Ctx} {x:World} {c:Frame} {cs:List Frame}
theorem cellNewI_J {v:Int} (h:∀ y,Xg x y→XN y x.heap.size v→y.heap.size=x.heap.size + 1→JG Try.prog Post C (G (c.finish (P0 x.heap.size)) cs) y):JG Try.prog Post C (G (Frame.enter Try.prog 9 #[.int .i64 v] .normal) (c::cs)) x:=by
 refine JG.calls (F:=FX makersX) (Q:=fun u y=>u=P0 x.heap.size∧Xg x y∧XN y x.heap.size v∧y.heap.size=x.heap.size + 1) (closedMX _) (by kernel_rfl) (fun τ=>?_) (fun u y hq=>?_)
 ·refine (Xa4 v _).mono ?_
  rintro e y ⟨rfl,rfl⟩;exact ⟨_,rfl,rfl,(Xg.refl (under x τ 0)).alloc _,Xbx (under x τ 0) v,by simp [Xs]⟩
 ·obtain ⟨rfl,h1,h2,h3⟩:=hq
  exact h y h1 h2 h3
end
section
variable {α:Type}
inductive Doing.NoOut:Doing α→Prop
 | ret (a:α):NoOut (.ret a)
 | acc {r:Ask} {k:Told→Doing α} (hk:∀ a,NoOut (k a)):NoOut (.acc r k)
theorem Doing.NoOut.into {Sh:Type} {g:α→Xx Sh Unit} (hg:∀ a,Go.Proofs.Ytdgfekplfipekaa.NoOut (g a)):∀ {c:Doing α},c.NoOut→Go.Proofs.Ytdgfekplfipekaa.NoOut (c.into g)
 | .ret a,_=>hg a
 | .acc r k,h=>by
  cases h with
  | acc hk=>exact .acc fun a=>(hk a).into hg
namespace Xp
