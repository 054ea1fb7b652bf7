/- sync.Once and atomic.Bool under J. -/
import Derived.Test.YtdhnggjmegilkaaORnR
import Derived.Test.YtdhnggjmegilkaaOGtO
import Derived.Test.YtdhnggjmegilkaaORoC
import Derived.Test.YtdhnggjmegilkaaOLbA
import Derived.Test.YtdhnggjmegilkaaOTkS
set_option linter.all false
set_option maxRecDepth 100000
set_option maxHeartbeats 16000000
namespace Go.Proofs.Ytdhnggjmegilkaa
open Go.Conc Go.RowKit
open Go.ConcN (upd upd_same upd_ne)
set_option maxRecDepth 100000
section
variable {Sh:Type} {Post:Value→World→Prop} {S:Zv Sh} {num tb rb m:Nat} {cb:Frame} {Pv:Nat→Prop} {C:Ctx} {x:World} {k:Told→Xx Sh Unit} {c:Frame} {cs:List Frame} {i:Nat}
theorem XR.up {f f':Told→Value} {pf:Frame} (h1:∀ (a:Told) (C:Ctx) (x:World),JG Try.prog Post C (G (c.finish (f' a)) cs) x→JG Try.prog Post C (G (pf.finish (f a)) (c::cs)) x)
 (h2:∀ (C:Ctx) (x:World),JG Try.prog Post C (G (c.raise [{ v:=YI,recovered:=false }]) cs) x→JG Try.prog Post C (G (pf.raise [{ v:=YI,recovered:=false }]) (c::cs)) x) :
 XR Post S num tb rb cb m Pv x f' k c cs→XR Post S num tb rb cb m Pv x f k pf (c::cs):=by
 cases m with
 | zero=>exact fun h C x hb=>h2 C x (h C x hb)
 | succ m=>exact fun h=>⟨fun C x hb=>h2 C x (h.1 C x hb),fun C x col sh cells a e1 e2 e3 e4 ep ek e5 e6=>h1 a C x (h.2 C x col sh cells a e1 e2 e3 e4 ep ek e5 e6)⟩
def Q6 (Post:Value→World→Prop) (S:Zv Sh) (num tb rb:Nat) (cb:Frame) (m:Nat) (Pv:Nat→Prop) (C:Ctx) (x:World) (r:Ask) (k:Told→Xx Sh Unit):Prop :=
 ∀ (c:Frame) (cs:List Frame),r.Good→r.cell < S.nc→XR Post S num tb rb cb m Pv x QG k c cs→JG Try.prog Post C (G (Frame.enter Try.prog 101 #[P0 tb,P0 (S.A r.cell),.int .i8 r.op,.int .i64 r.arg,.int .i64 r.new] .normal) (c::cs)) x
theorem Reach.step {col:Nat→Prop} {cells:Nat→Int} {sh:Sh} {r:Ask} {x0:World} (R:Reach Post S num tb cb (fun Pv y=>XR Post S num tb rb cb m Pv y QG) C col cells x0 sh (.acc r k)) (h1:x0.heap.size≤x.heap.size) (h2:∀ r,col r→x.heap[r]? = x0.heap[r]?) (hp:∀ r,Pv r→r < x.heap.size∧¬ col r) (h3:S.I sh cells (fun r=>col r∨Pv r) x) (h4:∀ i a,i≠num→S.keep i a→x.cell? a=x0.cell? a):Q6 Post S num tb rb cb m Pv C x r k:=R x Pv h1 h2 hp h3 h4
def none_:Nat→Prop:=fun _=>False
theorem VN (col:Nat→Prop):(fun r=>col r∨none_ r)=col:=by funext r;exact propext ⟨fun h=>h.elim id fun h=>h.elim,.inl⟩
theorem Reach.step0 {col:Nat→Prop} {cells:Nat→Int} {sh:Sh} {r:Ask} {x0:World} (R:Reach Post S num tb cb (fun Pv y=>XR Post S num tb rb cb m Pv y QG) C col cells x0 sh (.acc r k)) (h1:x0.heap.size≤x.heap.size) (h2:∀ r,col r→x.heap[r]? = x0.heap[r]?) (h3:S.I sh cells col x) (h4:∀ i a,¬ S.keep i a):Q6 Post S num tb rb cb m none_ C x r k:=R.step h1 h2 (fun _ h=>h.elim) (by rw [VN];exact h3) fun i a _ h=>absurd h (h4 i a)
theorem Reach.end0 {Aft:(Nat→Prop)→World→(Told→Xx Sh Unit)→Frame→List Frame→Prop} {col:Nat→Prop} {cells:Nat→Int} {sh:Sh} {x0:World} {v0:Unit} (R:Reach Post S num tb cb Aft C col cells x0 sh (.ret v0)) (h1:x0.heap.size≤x.heap.size) (h2:∀ r,col r→x.heap[r]? = x0.heap[r]?) (h3:S.I sh cells col x) (h4:∀ i a,i≠num→S.keep i a→x.cell? a=x0.cell? a):∀ v,JG Try.prog Post C (G (cb.finish v) [YX Try.prog]) x:=R x none_ h1 h2 (fun _ h=>h.elim) (by rw [VN];exact h3) h4
theorem cellLoad_R (hm:x.cell? (th (S.A i) 1)=some (.bool true)) (hL:Qn x tb rb) (hi:i < S.nc) (R:Q6 Post S num tb rb cb m Pv C x ⟨1,i,0,0⟩ k) (ha:XR Post S num tb rb cb m Pv x (fun a=>.int .i64 a.was) k c cs) :
 JG Try.prog Post C (G (Frame.enter Try.prog 29 #[P0 (S.A i),P0 tb] .normal) (c::cs)) x:=by
 obtain ⟨h0,h13,_⟩:=hL;have R':=R;unfold Q6 at R';replace R':=HD R';clear R;refine Xu Try.func29 (by rfl) (by rfl) ?_;simp only [Try.f29,Option.getD_some];walk_nrm
 repeat refine kx ?_
 refine kf (args:=#[P0 (S.A i)]) Try.func99 ?_;refine Vl hm ?_;rw [Frame.finish_at];walk_nrm
 repeat refine kx ?_
 refine kf (args:=#[P0 tb]) Try.func100 ?_;refine Zz h0 h13 ?_;rw [Frame.finish_at];walk_nrm
 repeat refine kx ?_
 refine kf (args:=#[P0 tb,P0 (S.A i),.int .i8 1,.int .i64 (0),.int .i64 (0)]) Try.func101 ?_;refine R'.out _ _ ⟨(by decide:(1:Int)≤1),(by decide:(1:Int)≤6),fun _=>rfl,fun _=>rfl⟩ hi (XR.up (fun a C x h=>?_) (fun C x h=>JG.raise rfl Try.func29 h) ha);rw [Frame.finish_at];simp only [QG];walk_nrm
 repeat refine kx ?_
 refine JG.ret ?_;exact JG.leave rfl rfl Try.func29 (fun τ d=>results_tmp (t:=4) rfl _ _ _) h
end
structure Xgc (Sh:Type) (A:Nat→Nat) (nc:Nat) where
 M:Sh→(Nat→Prop)→World→Prop
 frame:∀ {sh:Sh} {col:Nat→Prop} {x:World},M sh col x→∀ (col':Nat→Prop) (y:World),x.heap.size≤y.heap.size→(∀ r,r < x.heap.size→¬ col r→(∀ i,i < nc→r≠A i)→y.heap[r]? = x.heap[r]?)→(∀ r,r < x.heap.size→col' r→col r)→M sh col' y
theorem XN.lt {x:World} {b:Nat} {v:Int} (h:XN x b v):b < x.heap.size:=(GE h).1
structure Xdu {Sh:Type} {A:Nat→Nat} {nc:Nat} (W:Xgc Sh A nc) where
 k:Nat→Addr→Prop
 i:∀ {sh:Sh} {col:Nat→Prop} {x:World},W.M sh col x→∀ j a,k j a→a.block < x.heap.size∧¬ col a.block∧∀ c,c < nc→a.block≠A c
def Xdu.no {Sh:Type} {A:Nat→Nat} {nc:Nat} (W:Xgc Sh A nc):Xdu W:=⟨fun _ _=>False,fun _ _ _ h=>h.elim⟩
def Xed {Sh:Type} (A:Nat→Nat) (nc:Nat) (inj:∀ a b,a < nc→b < nc→A a=A b→a=b) (W:Xgc Sh A nc) (fin:XV Sh:=XV.no Sh) (kp:Xdu W:=Xdu.no W):Zv Sh where
 fin:=fin
 keep:=kp.k
 keepI:=fun h j a ha=>kp.i h.2 j a ha
 A:=A
 nc:=nc
 I:=fun sh cells col x=>(∀ i,i < nc→XN x (A i) (cells i)∧¬ col (A i))∧W.M sh col x
 inj:=inj
 cell:=fun h i hi=>⟨⟨_,_,(h.1 i hi).1⟩,(h.1 i hi).1.c0,(h.1 i hi).2⟩
 frame:=fun h col' y hs ho hc=>⟨fun i hi=>by
  obtain ⟨h1,h2⟩:=h.1 i hi;exact ⟨(ho _ h1.lt h2).trans h1,fun e=>h2 (hc _ h1.lt e)⟩,W.frame h.2 col' y hs (fun r hr hn _=>ho r hr hn) hc⟩
 set:=fun {sh cells col x} h i v col' y hi hs ho hv hc=>⟨fun j hj=>by
  obtain ⟨h1,h2⟩:=h.1 j hj;refine ⟨?_,fun e=>h2 (hc _ h1.lt e)⟩
  by_cases e:j=i
  ·subst e
   rw [upd_same];exact hv.trans (h1.set v)
  ·rw [upd_ne _ _ e]
   exact (ho _ h1.lt h2 fun e2=>e (inj j i hj hi e2)).trans h1,W.frame h.2 col' y hs (fun r hr hn hna=>ho r hr hn (hna i hi)) hc⟩
section
variable {Sh:Type} {Post:Value→World→Prop} {S:Zv Sh} {num tb rb m:Nat} {cb c:Frame} {Pv:Nat→Prop} {x0:World} {f:Told→Value} {k:Told→Xx Sh Unit}
theorem XR.body (h1:∀ (C:Ctx) (x:World),JG Try.prog Post C (G (cb.raise [{ v:=YI,recovered:=false }]) [YX Try.prog]) x→JG Try.prog Post C (G (c.raise [{ v:=YI,recovered:=false }]) [cb,YX Try.prog]) x)
 (h2:∀ m',m=m' + 1→∀ (C:Ctx) (x:World) (col:Nat→Prop) (sh:Sh) (cells:Nat→Int) (a:Told),C.d=0→Qn x tb rb→col tb→(∀ r,col r→r < x.heap.size)→(∀ r,Pv r→¬ col r∧x.heap[r]? = x0.heap[r]?)→(∀ b,S.keep num b→x.cell? b=x0.cell? b)→S.I sh cells col x →
   Reach Post S num tb cb (fun Pv y=>XR Post S num tb rb cb m' Pv y QG) C col cells x ((k a).pass sh).1 ((k a).pass sh).2→JG Try.prog Post C (G (c.finish (f a)) [cb,YX Try.prog]) x):XR Post S num tb rb cb m Pv x0 f k c [cb,YX Try.prog]:=by
 have hs:Yq Post cb c [cb,YX Try.prog]:=fun C x hb=>h1 C x (hb x (Nat.le_refl _) fun _ _=>rfl);cases m with
 | zero=>exact hs
 | succ m=>exact ⟨hs,fun C x col sh cells a e1 e2 e3 e4 ep ek e5 e6=>h2 m rfl C x col sh cells a e1 e2 e3 e4 ep ek (S.frame e5 _ _ (Nat.le_refl _) (fun _ _ _=>rfl) fun _ _ h=>.inl h) e6⟩
end
section
variable {Post:Value→World→Prop} {C:Ctx} {x:World} {c:Frame} {cs:List Frame}
theorem cellNewI_J {v:Int} (h:∀ y,Xg x y→XN y x.heap.size v→y.heap.size=x.heap.size + 1→JG Try.prog Post C (G (c.finish (P0 x.heap.size)) cs) y):JG Try.prog Post C (G (Frame.enter Try.prog 14 #[.int .i64 v] .normal) (c::cs)) x:=by
 refine JG.calls (F:=FX makersX) (Q:=fun u y=>u=P0 x.heap.size∧Xg x y∧XN y x.heap.size v∧y.heap.size=x.heap.size + 1) (closedMX _) (by kernel_rfl) (fun τ=>?_) (fun u y hq=>?_)
 ·refine (Xa4 v _).mono ?_
  rintro e y ⟨rfl,rfl⟩;exact ⟨_,rfl,rfl,(Xg.refl (under x τ 0)).alloc _,Xbx (under x τ 0) v,by simp [Xs]⟩
 ·obtain ⟨rfl,h1,h2,h3⟩:=hq
  exact h y h1 h2 h3
end
def NoOnce (x:World) (v:Value):Prop:=v=.pointer none∨∃ b,v=P0 b∧x.cell? (th b 0)=some (.pointer none)
section
variable {Post:Value→World→Prop} {C:Ctx} {x:World} {c:Frame} {cs:List Frame} {v tv fv:Value} {b s:Nat}
theorem noneO_J (hn:NoOnce x v) (h:JG Try.prog Post C (G (c.finish (.bool true)) cs) x):JG Try.prog Post C (G (Frame.enter Try.prog 114 #[v] .normal) (c::cs)) x:=by
 rcases hn with rfl|⟨b,rfl,h1⟩
 ·refine Xu Try.func114 (by rfl) (by rfl) ?_
  simp only [Try.f114,Option.getD_some];walk_nrm
  repeat refine kx ?_
  refine JG.ret ?_;exact JG.leave rfl rfl Try.func114 (fun τ d=>results_tmp (t:=2) rfl _ _ _) h
 ·refine Xu Try.func114 (by rfl) (by rfl) ?_
  simp only [Try.f114,Option.getD_some];walk_nrm
  repeat refine kx ?_
  refine JG.ret ?_;exact JG.leave rfl rfl Try.func114 (fun τ d=>results_tmp (t:=2) rfl _ _ _) h
theorem realO_J (h1:x.cell? (th b 0)=some (P0 s)) (h:JG Try.prog Post C (G (c.finish (.bool false)) cs) x):JG Try.prog Post C (G (Frame.enter Try.prog 114 #[P0 b] .normal) (c::cs)) x:=by
 refine Xu Try.func114 (by rfl) (by rfl) ?_;simp only [Try.f114,Option.getD_some];walk_nrm
 repeat refine kx ?_
 refine JG.ret ?_;exact JG.leave rfl rfl Try.func114 (fun τ d=>results_tmp (t:=2) rfl _ _ _) h
theorem doNone_J (hn:NoOnce x v) (h:JG Try.prog Post C (G (c.finish (.tuple #[.bool false,.int .i64 2])) cs) x):JG Try.prog Post C (G (Frame.enter Try.prog 47 #[v,tv,fv] .normal) (c::cs)) x:=by
 replace hn:=HD hn;refine Xu Try.func47 (by rfl) (by rfl) ?_;simp only [Try.f47,Option.getD_some];walk_nrm
 repeat refine kx ?_
 refine kf (args:=#[v]) Try.func114 ?_;refine noneO_J hn.out ?_;rw [Frame.finish_at];walk_nrm
 repeat refine kx ?_
 refine JG.ret ?_;exact JG.leave rfl rfl Try.func47 (fun τ d=>results_tmp2 (t:=6) (u:=7) rfl _ _ _) h
theorem doNilF_J (h1:x.cell? (th b 0)=some (P0 s)) (h:JG Try.prog Post C (G (c.finish (.tuple #[.bool false,.int .i64 1])) cs) x):JG Try.prog Post C (G (Frame.enter Try.prog 47 #[P0 b,tv,.nilFunc] .normal) (c::cs)) x:=by
 refine Xu Try.func47 (by rfl) (by rfl) ?_;simp only [Try.f47,Option.getD_some];walk_nrm
 repeat refine kx ?_
 refine kf (args:=#[P0 b]) Try.func114 ?_;refine realO_J h1 ?_;rw [Frame.finish_at];walk_nrm
 repeat refine kx ?_
 refine JG.ret ?_;exact JG.leave rfl rfl Try.func47 (fun τ d=>results_tmp2 (t:=6) (u:=7) rfl _ _ _) h
theorem doneNone_J (hn:NoOnce x v) (h:JG Try.prog Post C (G (c.finish (.tuple #[.bool false,.int .i64 2])) cs) x):JG Try.prog Post C (G (Frame.enter Try.prog 48 #[v,tv] .normal) (c::cs)) x:=by
 replace hn:=HD hn;refine Xu Try.func48 (by rfl) (by rfl) ?_;simp only [Try.f48,Option.getD_some];walk_nrm
 repeat refine kx ?_
 refine kf (args:=#[v]) Try.func114 ?_;refine noneO_J hn.out ?_;rw [Frame.finish_at];walk_nrm
 repeat refine kx ?_
 refine JG.ret ?_;exact JG.leave rfl rfl Try.func48 (fun τ d=>results_tmp2 (t:=4) (u:=5) rfl _ _ _) h
theorem onceNew_J (h:∀ y b,Xg x y→x.heap.size≤b→y.heap[b]? = some (.cells #[P0 x.heap.size] 120 (0,0))→XN y x.heap.size 0→JG Try.prog Post C (G (c.finish (P0 b)) cs) y):JG Try.prog Post C (G (Frame.enter Try.prog 49 #[] .normal) (c::cs)) x:=by
 replace h:=HD h;refine Xu Try.func49 (by rfl) (by rfl) ?_;simp only [Try.f49,Option.getD_some];walk_nrm
 repeat refine kx ?_
 refine kf (args:=#[.int .i64 0]) Try.func14 ?_;refine cellNewI_J fun y1 o1 i1 s1=>?_;rw [Frame.finish_at];walk_nrm
 repeat refine kx ?_
 refine ko fun K E hK hE τ d=>?_;go_simp;refine hK _ _ (jt (x:=y1.alloc (.cells #[P0 x.heap.size] 120)) ?_);simp only [Xs];clear hK hE K E τ d;have w0:(y1.alloc (.cells #[P0 x.heap.size] 120)).heap[y1.heap.size]? = some (.cells #[P0 x.heap.size] 120 (0,0)):=heap_alloc_new y1 _;have o2:=(Xg.refl y1).alloc (.cells #[P0 x.heap.size] 120);have i2:XN (y1.alloc (.cells #[P0 x.heap.size] 120)) x.heap.size 0:=(o2.2 _ (by omega)).trans i1;have hfin:=h.out _ y1.heap.size (o1.trans o2) (by omega) w0 i2;generalize y1.alloc (.cells #[P0 x.heap.size] 120)=y2 at hfin ⊢;clear h w0 o2 i2 o1 i1 s1;replace hfin:=HD hfin
 repeat refine kx ?_
 refine JG.ret ?_;exact JG.leave rfl rfl Try.func49 (fun τ d=>results_tmp (t:=0) rfl _ _ _) hfin.out
end
noncomputable def extsU:List (FuncId):=[159,163]
noncomputable def FU:Fns:={ fn:=fun _=>false,maps:=false,top:=fun f=>decide (f < Try.prog.funcs.size),ext:=fun f=>extsU.contains f }
theorem ext_LoadUint32:QY Try.prog 159:=⟨Try.f159,Extern.Atomic.loadT (.int .u32),Try.func159,by rfl,by rfl,by kernel_rfl,by kernel_rfl,fun P S args=>Xca⟩
theorem ext_StoreUint32:QY Try.prog 163:=⟨Try.f163,Extern.Atomic.storeT,Try.func163,by rfl,by rfl,by kernel_rfl,by kernel_rfl,fun P S args=>Xbh⟩
theorem extsU_ok (f:FuncId) (h:extsU.contains f=true):QY Try.prog f:=by
 have h:=List.contains_iff_mem.1 h;simp only [extsU,List.mem_cons,List.not_mem_nil,or_false] at h;rcases h with rfl|rfl
 ·exact ext_LoadUint32
 ·exact ext_StoreUint32
theorem closedU (S:YK):Closed Try.prog S FU where
 maps:=fun h=>by cases h
 text:=fun f h=>by cases h
 exts:=extsU_ok
 tops:=fun f h=>by
  have h:f < Try.prog.funcs.size:=by simpa [FU] using h
  exact ⟨_,Array.getElem?_eq_getElem h⟩
 early:=Ug
theorem r_loadu32 {w:World} {ad:Addr} {v:Int} (hc:w.cell? ad=some (.int .u32 v)):(callFunc 159 #[.pointer (some ad)]).run Try.prog w=.ok (.value (.int .u32 v)) w:=by
 rw [run_callFunc_extern Try.func159 (by kernel_rfl) (by kernel_rfl) (by rfl) (by rfl:_=some (Extern.Atomic.loadT (.int .u32)))]
 change (Sem.run Try.prog (do
  let a' ← asAddr (.pointer (some ad))
  Extern.Atomic.read (.int .u32) a') w).andThen _=_
 simp [Extern.Atomic.read,asAddr,hc,Result.andThen]
theorem r_storeu32 {w:World} {ad:Addr} {v u:Int} (hc:w.cell? ad=some (.int .u32 v)) (hz:w.frozen? ad=false):(callFunc 163 #[.pointer (some ad),.int .u32 u]).run Try.prog w=.ok (.value (.tuple #[])) (w.setCell ad (.int .u32 u)):=by
 rw [run_callFunc_extern Try.func163 (by kernel_rfl) (by kernel_rfl) (by rfl) (by rfl:_=some Extern.Atomic.storeT)];show (Sem.run Try.prog (do let a ← asAddr (.pointer (some ad));store a (.int .u32 u) .atomic;pure Extern.Atomic.none_) w).andThen _=_;simp [asAddr,hc,hz,run_store Try.prog w ad (.int .u32 u) .atomic rfl,Result.andThen,Extern.Atomic.none_]
section
variable {Post:Value→World→Prop} {C:Ctx} {x:World} {c:Frame} {cs:List Frame} {b k:Nat} {u:Int}
theorem bload_J (h0:x.cell? (th b k)=some (.int .u32 u)) (h:JG Try.prog Post C (G (c.finish (.bool (u != 0))) cs) x):JG Try.prog Post C (G (Frame.enter Try.prog 144 #[.pointer (some ⟨b,k,none⟩)] .normal) (c::cs)) x:=by
 refine Xu Try.func144 (by rfl) (by rfl) ?_;simp only [Try.f144,Option.getD_some];walk_nrm;refine JG.code (closedU _) (by kernel_rfl) rfl (.inr (by kernel_rfl)) rfl (fun K R hK hR τ=>?_);replace hK:=HD hK;replace hR:=HD hR;have k0:(under x τ 0).cell? (th b k)=some (.int .u32 u):=h0;have hr:=r_loadu32 k0
 go_wp2
 refine ⟨rfl,?_⟩;refine hR.out _ _ (fun todo=>jt (x:=x) (τ:=τ) (d:=0) ?_);exact JG.leave rfl rfl Try.func144 (fun τ d=>results_tmp (t:=2) rfl _ _ _) h
theorem b32_J (h:JG Try.prog Post C (G (c.finish (.int .u32 1)) cs) x):JG Try.prog Post C (G (Frame.enter Try.prog 164 #[.bool true] .normal) (c::cs)) x:=by
 refine Xu Try.func164 (by rfl) (by rfl) ?_;simp only [Try.f164,Option.getD_some];walk_nrm
 repeat refine kx ?_
 refine JG.ret ?_;exact JG.leave rfl rfl Try.func164 (fun τ d=>results_tmp (t:=2) rfl _ _ _) h
theorem bstoreD_J (h0:x.cell? (th b k)=some (.int .u32 u)) (f0:x.frozen? (th b k)=false) (h:JG Try.prog Post C (G (X3 c) cs) (x.setCell (th b k) (.int .u32 1))):JG Try.prog Post C (G (Frame.enter Try.prog 160 #[.pointer (some ⟨b,k,none⟩),.bool true] .deferred) (c::cs)) x:=by
 refine Xc8 Try.func160 (by rfl) (by rfl) ?_;simp only [Try.f160,Option.getD_some];walk_nrm;refine JG.drawCallsS (fun i=>if i=4 then some 0 else if i=5 then some 1 else none) (fun i=>if i=0 then .int .u32 1 else .tuple #[]) (fun k' z=>if k'=2 then z=x.setCell (th b k) (.int .u32 1) else z=x) 2 (by kernel_rfl) (by kernel_rfl) (by decide) rfl ?_;apply Exists.intro;apply And.intro
 ·intro k' hk z hz
  have hk':k'=0∨k'=1∨k'=2:=by omega
  rcases hk' with rfl|rfl|rfl
  ·rw [show z=x from hz]
   repeat first|(refine JPassS.rd (by rfl) (fun K hK τ d=>?_);go_simp;refine hK _ ?_;clear hK K τ d)
   refine JPassS.cl (by rfl) (fun _=>.inl ⟨164,#[.bool true],fun w=>?_,fun w=>?_,fun c hc=>?_⟩) ?_
   iterate 2 (focus obtain ⟨fn, h1, h2, h3⟩ : Yb 164 := ⟨_, Try.func164, by kernel_rfl, by kernel_rfl⟩; have h4 : ¬ fn.name = "runtime.NumGoroutine" := (by simpa using h2); have h5 : ¬ fn.body = none := (by intro e; rw [e] at h3; cases h3); simp [go_sem, execOp, Act.eval, resolve, Deferred.ofValue, invoke, callFunc, h1, h4, h5] <;> decide +kernel)
   ·exact b32_J (hc x rfl)
   repeat first|(refine JPassS.rd (by rfl) (fun K hK τ d=>?_);go_simp;refine hK _ ?_;clear hK K τ d)
   refine JPassS.cl (by rfl) (fun h=>by cases h) ?_;exact rfl
  ·rw [show z=x from hz]
   repeat first|(refine JPassS.rd (by rfl) (fun K hK τ d=>?_);go_simp;refine hK _ ?_;clear hK K τ d)
   refine JPassS.cl (by rfl) (fun h=>by cases h) ?_
   repeat first|(refine JPassS.rd (by rfl) (fun K hK τ d=>?_);go_simp;refine hK _ ?_;clear hK K τ d)
   refine JPassS.cl (by rfl) (fun _=>.inr ⟨FU,(closedU C.prot).stands,rfl,by kernel_rfl,_,rfl,.inl fun τ d=>?_⟩) ?_
   ·have hr:=r_storeu32 (w:=under x τ d) (u:=1) ((Xk x τ d _).trans h0) f0
    simp [go_sem,execOp,Act.eval,Act.put,resolve,invoke,hr,Xc]
   exact rfl
  ·have hz':z=x.setCell (th b k) (.int .u32 1):=hz
   clear hz
   repeat first|(refine JPassS.rd (by rfl) (fun K hK τ d=>?_);go_simp;refine hK _ ?_;clear hK K τ d)
   refine JPassS.cl (by rfl) (fun h=>by cases h) ?_
   repeat first|(refine JPassS.rd (by rfl) (fun K hK τ d=>?_);go_simp;refine hK _ ?_;clear hK K τ d)
   refine JPassS.cl (by rfl) (fun h=>by cases h) ?_;exact rfl
 ·intro z hz
  rw [show z=x.setCell (th b k) (.int .u32 1) from hz];refine JG.fin ?_;exact JG.leaveD rfl rfl Try.func160 (by rfl) h
theorem doSlow_J {lx:Nat} {M:World→Prop} (h0:x.cell? (th b 0)=some (.int .u32 0)) (f0:x.frozen? (th b 0)=false) (h1:x.cell? (th b 1)=some (.int .i32 0)) (f1:x.frozen? (th b 1)=false)
 (hbody:∀ c' cs',(∀ z,z.cell? (th b 0)=some (.int .u32 0)→z.frozen? (th b 0)=false→z.cell? (th b 1)=some (.int .i32 1)→z.frozen? (th b 1)=false→M z→JG Try.prog Post C (G (c'.finish (.tuple #[])) cs') z)→JG Try.prog Post C (G (Frame.enter Try.prog 117 #[P0 lx] .normal) (c'::cs')) (x.setCell (th b 1) (.int .i32 1)))
 (h:∀ z,M z→JG Try.prog Post C (G (c.finish (.tuple #[])) cs) ((z.setCell (th b 0) (.int .u32 1)).setCell (th b 1) (.int .i32 0))):JG Try.prog Post C (G (Frame.enter Try.prog 145 #[P0 b,.func (.func 117) #[] #[P0 lx]] .normal) (c::cs)) x:=by
 replace hbody:=HD hbody;refine Xu Try.func145 (by rfl) (by rfl) ?_;simp only [Try.f145,Option.getD_some];walk_nrm
 repeat refine kx ?_
 refine kf (args:=#[.pointer (some ⟨b,1,none⟩)]) Try.func147 ?_;refine XfV h1 f1 ?_;rw [Frame.finish_at];walk_nrm
 repeat refine kx ?_
 refine JG.defer (d:={ target:=.fn (.func 148) #[],args:=#[.pointer (some ⟨b,1,none⟩)] }) rfl (by rfl) (by decide) (fun w=>by simp [go_sem,execOp,Act.eval,resolve,Deferred.ofValue]) (fun w=>by simp [go_sem,execOp,Act.eval,resolve,Deferred.ofValue]) ?_
 try walk_nrm
 repeat refine kx ?_
 refine kf (args:=#[.pointer (some ⟨b,0,none⟩)]) Try.func144 ?_;have k0:=Xi (v:=.int .i32 1) (show (th b 0)≠(th b 1) by simp [th]) h0;refine bload_J k0 ?_;rw [Frame.finish_at];walk_nrm
 repeat refine kx ?_
 refine JG.defer (d:={ target:=.fn (.func 160) #[],args:=#[.pointer (some ⟨b,0,none⟩),.bool true] }) rfl (by rfl) (by decide) (fun w=>by simp [go_sem,execOp,Act.eval,resolve,Deferred.ofValue]) (fun w=>by simp [go_sem,execOp,Act.eval,resolve,Deferred.ofValue]) ?_
 try walk_nrm
 repeat refine kx ?_
 refine JG.call (f:=117) (args:=#[P0 lx]) rfl (by rfl) (by decide) (fun w=>?_) (fun w=>?_) ?_
 iterate 2 (focus obtain ⟨fn, h1, h2, h3⟩ : Yb 117 := ⟨_, Try.func117, by kernel_rfl, by kernel_rfl⟩; have h4 : ¬ fn.name = "runtime.NumGoroutine" := (by simpa using h2); have h5 : ¬ fn.body = none := (by intro e; rw [e] at h3; cases h3); simp [go_sem, execOp, Act.eval, resolve, Deferred.ofValue, invoke, callFunc, h1, h4, h5])
 refine hbody.out _ _ fun z z0 zf0 z1 zf1 hM=>?_;rw [Frame.finish_at];walk_nrm;have hz:=h z hM;clear h hM hbody
 repeat refine kx ?_
 refine JG.fin ?_;refine JG.unwind (m:=.returning) (by simp) rfl rfl Try.func160 (by rfl) (by rfl) ?_;refine bstoreD_J z0 zf0 ?_;refine JG.unwind (m:=.returning) (by simp) rfl rfl Try.func148 (by rfl) (by rfl) ?_;refine XbS (Xi (show (th b 1)≠(th b 0) by simp [th]) z1) (by rw [QU];exact zf1) ?_;exact JG.leave0 rfl rfl Try.func145 (by rfl) hz
theorem onceDo_J {lx:Nat} {M:World→Prop} (h0:x.cell? (th b 0)=some (.int .u32 0)) (f0:x.frozen? (th b 0)=false) (h1:x.cell? (th b 1)=some (.int .i32 0)) (f1:x.frozen? (th b 1)=false)
 (hbody:∀ c' cs',(∀ z,z.cell? (th b 0)=some (.int .u32 0)→z.frozen? (th b 0)=false→z.cell? (th b 1)=some (.int .i32 1)→z.frozen? (th b 1)=false→M z→JG Try.prog Post C (G (c'.finish (.tuple #[])) cs') z)→JG Try.prog Post C (G (Frame.enter Try.prog 117 #[P0 lx] .normal) (c'::cs')) (x.setCell (th b 1) (.int .i32 1)))
 (h:∀ z,M z→JG Try.prog Post C (G (c.finish (.tuple #[])) cs) ((z.setCell (th b 0) (.int .u32 1)).setCell (th b 1) (.int .i32 0))):JG Try.prog Post C (G (Frame.enter Try.prog 116 #[P0 b,.func (.func 117) #[] #[P0 lx]] .normal) (c::cs)) x:=by
 replace hbody:=HD hbody;replace h:=HD h;refine Xu Try.func116 (by rfl) (by rfl) ?_;simp only [Try.f116,Option.getD_some];walk_nrm
 repeat refine kx ?_
 refine kf (args:=#[P0 b]) Try.func144 ?_;refine bload_J h0 ?_;rw [Frame.finish_at];walk_nrm
 repeat refine kx ?_
 refine kf (args:=#[P0 b,.func (.func 117) #[] #[P0 lx]]) Try.func145 ?_;refine doSlow_J h0 f0 h1 f1 hbody.out fun z hM=>?_;rw [Frame.finish_at];walk_nrm;have hz:=h.out z hM;clear h hM hbody
 repeat refine kx ?_
 refine JG.fin ?_;exact JG.leave0 rfl rfl Try.func116 (by rfl) hz
