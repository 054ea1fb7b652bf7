/- LatchOpens in plain words: how the run begins, what it comes to. -/
import Derived.Test.YtdgfekplfipekaaURnR
import Derived.Test.YtdgfekplfipekaaUGtO
import Derived.Test.YtdgfekplfipekaaULpA
set_option linter.all false
set_option maxRecDepth 100000
set_option maxHeartbeats 16000000
namespace Go.Proofs.Ytdgfekplfipekaa
open Go.Conc Go.RowKit
open Go.ConcN (upd upd_same upd_ne)
set_option maxRecDepth 100000
section
variable {Sh:Type} {Post:Value→World→Prop} {S:Zv Sh} {num tb rb m:Nat} {cb:Frame} {Pv:Nat→Prop} {C:Ctx} {x:World} {k:Told→Xx Sh Unit} {c:Frame} {cs:List Frame} {i:Nat}
theorem XR.up {f f':Told→Value} {pf:Frame} (h1:∀ (a:Told) (C:Ctx) (x:World),JG Try.prog Post C (G (c.finish (f' a)) cs) x→JG Try.prog Post C (G (pf.finish (f a)) (c::cs)) x)
 (h2:∀ (C:Ctx) (x:World),JG Try.prog Post C (G (c.raise [{ v:=YI,recovered:=false }]) cs) x→JG Try.prog Post C (G (pf.raise [{ v:=YI,recovered:=false }]) (c::cs)) x) :
 XR Post S num tb rb cb m Pv x f' k c cs→XR Post S num tb rb cb m Pv x f k pf (c::cs):=by
 cases m with
 | zero=>exact fun h C x hb=>h2 C x (h C x hb)
 | succ m=>exact fun h=>⟨fun C x hb=>h2 C x (h.1 C x hb),fun C x col sh cells a e1 e2 e3 e4 ep ek e5 e6=>h1 a C x (h.2 C x col sh cells a e1 e2 e3 e4 ep ek e5 e6)⟩
def Q6 (Post:Value→World→Prop) (S:Zv Sh) (num tb rb:Nat) (cb:Frame) (m:Nat) (Pv:Nat→Prop) (C:Ctx) (x:World) (r:Ask) (k:Told→Xx Sh Unit):Prop :=
 ∀ (c:Frame) (cs:List Frame),r.Good→r.cell < S.nc→XR Post S num tb rb cb m Pv x QG k c cs→JG Try.prog Post C (G (Frame.enter Try.prog 33 #[P0 tb,P0 (S.A r.cell),.int .i8 r.op,.int .i64 r.arg,.int .i64 r.new] .normal) (c::cs)) x
theorem Reach.step {col:Nat→Prop} {cells:Nat→Int} {sh:Sh} {r:Ask} {x0:World} (R:Reach Post S num tb cb (fun Pv y=>XR Post S num tb rb cb m Pv y QG) C col cells x0 sh (.acc r k)) (h1:x0.heap.size≤x.heap.size) (h2:∀ r,col r→x.heap[r]? = x0.heap[r]?) (hp:∀ r,Pv r→r < x.heap.size∧¬ col r) (h3:S.I sh cells (fun r=>col r∨Pv r) x) (h4:∀ i a,i≠num→S.keep i a→x.cell? a=x0.cell? a):Q6 Post S num tb rb cb m Pv C x r k:=R x Pv h1 h2 hp h3 h4
def none_:Nat→Prop:=fun _=>False
theorem VN (col:Nat→Prop):(fun r=>col r∨none_ r)=col:=by funext r;exact propext ⟨fun h=>h.elim id fun h=>h.elim,.inl⟩
theorem cellLoad_R (hm:x.cell? (th (S.A i) 1)=some (.bool true)) (hL:Qn x tb rb) (hi:i < S.nc) (R:Q6 Post S num tb rb cb m Pv C x ⟨1,i,0,0⟩ k) (ha:XR Post S num tb rb cb m Pv x (fun a=>.int .i64 a.was) k c cs) :
 JG Try.prog Post C (G (Frame.enter Try.prog 13 #[P0 (S.A i),P0 tb] .normal) (c::cs)) x:=by
 obtain ⟨h0,h13,_⟩:=hL;have R':=R;unfold Q6 at R';replace R':=HD R';clear R;refine Xu Try.func13 (by rfl) (by rfl) ?_;simp only [Try.f13,Option.getD_some];walk_nrm
 repeat refine kx ?_
 refine kf (args:=#[P0 (S.A i)]) Try.func31 ?_;refine Vl hm ?_;rw [Frame.finish_at];walk_nrm
 repeat refine kx ?_
 refine kf (args:=#[P0 tb]) Try.func32 ?_;refine Zz h0 h13 ?_;rw [Frame.finish_at];walk_nrm
 repeat refine kx ?_
 refine kf (args:=#[P0 tb,P0 (S.A i),.int .i8 1,.int .i64 (0),.int .i64 (0)]) Try.func33 ?_;refine R'.out _ _ ⟨(by decide:(1:Int)≤1),(by decide:(1:Int)≤6),fun _=>rfl,fun _=>rfl⟩ hi (XR.up (fun a C x h=>?_) (fun C x h=>JG.raise rfl Try.func13 h) ha);rw [Frame.finish_at];simp only [QG];walk_nrm
 repeat refine kx ?_
 refine JG.ret ?_;exact JG.leave rfl rfl Try.func13 (fun τ d=>results_tmp (t:=4) rfl _ _ _) h
theorem cellStore_R {v:Int} (hm:x.cell? (th (S.A i) 1)=some (.bool true)) (hL:Qn x tb rb) (hi:i < S.nc) (R:Q6 Post S num tb rb cb m Pv C x ⟨2,i,v,0⟩ k) (ha:XR Post S num tb rb cb m Pv x (fun a=>.tuple #[]) k c cs) :
 JG Try.prog Post C (G (Frame.enter Try.prog 14 #[P0 (S.A i),P0 tb,.int .i64 v] .normal) (c::cs)) x:=by
 obtain ⟨h0,h13,_⟩:=hL;have R':=R;unfold Q6 at R';replace R':=HD R';clear R;refine Xu Try.func14 (by rfl) (by rfl) ?_;simp only [Try.f14,Option.getD_some];walk_nrm
 repeat refine kx ?_
 refine kf (args:=#[P0 (S.A i)]) Try.func31 ?_;refine Vl hm ?_;rw [Frame.finish_at];walk_nrm
 repeat refine kx ?_
 refine kf (args:=#[P0 tb]) Try.func32 ?_;refine Zz h0 h13 ?_;rw [Frame.finish_at];walk_nrm
 repeat refine kx ?_
 refine kf (args:=#[P0 tb,P0 (S.A i),.int .i8 2,.int .i64 (v),.int .i64 (0)]) Try.func33 ?_;refine R'.out _ _ ⟨(by decide:(1:Int)≤2),(by decide:(2:Int)≤6),fun e=>absurd e (by decide:(2:Int)≠1),fun _=>rfl⟩ hi (XR.up (fun a C x h=>?_) (fun C x h=>JG.raise rfl Try.func14 h) ha);rw [Frame.finish_at];simp only [QG];walk_nrm
 repeat refine kx ?_
 refine JG.ret ?_;exact JG.leave rfl rfl Try.func14 (fun τ d=>results_none rfl _ _ _) h
theorem cellCas_R {o n:Int} (hm:x.cell? (th (S.A i) 1)=some (.bool true)) (hL:Qn x tb rb) (hi:i < S.nc) (R:Q6 Post S num tb rb cb m Pv C x ⟨3,i,o,n⟩ k) (ha:XR Post S num tb rb cb m Pv x (fun a=>.bool a.ok) k c cs) :
 JG Try.prog Post C (G (Frame.enter Try.prog 28 #[P0 (S.A i),P0 tb,.int .i64 o,.int .i64 n] .normal) (c::cs)) x:=by
 obtain ⟨h0,h13,_⟩:=hL;have R':=R;unfold Q6 at R';replace R':=HD R';clear R;refine Xu Try.func28 (by rfl) (by rfl) ?_;simp only [Try.f28,Option.getD_some];walk_nrm
 repeat refine kx ?_
 refine kf (args:=#[P0 (S.A i)]) Try.func31 ?_;refine Vl hm ?_;rw [Frame.finish_at];walk_nrm
 repeat refine kx ?_
 refine kf (args:=#[P0 tb]) Try.func32 ?_;refine Zz h0 h13 ?_;rw [Frame.finish_at];walk_nrm
 repeat refine kx ?_
 refine kf (args:=#[P0 tb,P0 (S.A i),.int .i8 3,.int .i64 (o),.int .i64 (n)]) Try.func33 ?_;refine R'.out _ _ ⟨(by decide:(1:Int)≤3),(by decide:(3:Int)≤6),fun e=>absurd e (by decide:(3:Int)≠1),fun e=>absurd rfl e⟩ hi (XR.up (fun a C x h=>?_) (fun C x h=>JG.raise rfl Try.func28 h) ha);rw [Frame.finish_at];simp only [QG];walk_nrm
 repeat refine kx ?_
 refine JG.ret ?_;exact JG.leave rfl rfl Try.func28 (fun τ d=>results_tmp (t:=8) rfl _ _ _) h
theorem cellSwap_R {v:Int} (hm:x.cell? (th (S.A i) 1)=some (.bool true)) (hL:Qn x tb rb) (hi:i < S.nc) (R:Q6 Post S num tb rb cb m Pv C x ⟨5,i,v,0⟩ k) (ha:XR Post S num tb rb cb m Pv x (fun a=>.int .i64 a.was) k c cs) :
 JG Try.prog Post C (G (Frame.enter Try.prog 29 #[P0 (S.A i),P0 tb,.int .i64 v] .normal) (c::cs)) x:=by
 obtain ⟨h0,h13,_⟩:=hL;have R':=R;unfold Q6 at R';replace R':=HD R';clear R;refine Xu Try.func29 (by rfl) (by rfl) ?_;simp only [Try.f29,Option.getD_some];walk_nrm
 repeat refine kx ?_
 refine kf (args:=#[P0 (S.A i)]) Try.func31 ?_;refine Vl hm ?_;rw [Frame.finish_at];walk_nrm
 repeat refine kx ?_
 refine kf (args:=#[P0 tb]) Try.func32 ?_;refine Zz h0 h13 ?_;rw [Frame.finish_at];walk_nrm
 repeat refine kx ?_
 refine kf (args:=#[P0 tb,P0 (S.A i),.int .i8 5,.int .i64 (v),.int .i64 (0)]) Try.func33 ?_;refine R'.out _ _ ⟨(by decide:(1:Int)≤5),(by decide:(5:Int)≤6),fun e=>absurd e (by decide:(5:Int)≠1),fun _=>rfl⟩ hi (XR.up (fun a C x h=>?_) (fun C x h=>JG.raise rfl Try.func29 h) ha);rw [Frame.finish_at];simp only [QG];walk_nrm
 repeat refine kx ?_
 refine JG.ret ?_;exact JG.leave rfl rfl Try.func29 (fun τ d=>results_tmp (t:=6) rfl _ _ _) h
theorem cellPark_R {v:Int} (hm:x.cell? (th (S.A i) 1)=some (.bool true)) (hL:Qn x tb rb) (hi:i < S.nc) (R:Q6 Post S num tb rb cb m Pv C x ⟨6,i,v,0⟩ k) (ha:XR Post S num tb rb cb m Pv x (fun a=>.int .i64 a.was) k c cs) :
 JG Try.prog Post C (G (Frame.enter Try.prog 30 #[P0 (S.A i),P0 tb,.int .i64 v] .normal) (c::cs)) x:=by
 obtain ⟨h0,h13,_⟩:=hL;have R':=R;unfold Q6 at R';replace R':=HD R';clear R;refine Xu Try.func30 (by rfl) (by rfl) ?_;simp only [Try.f30,Option.getD_some];walk_nrm
 repeat refine kx ?_
 refine kf (args:=#[P0 (S.A i)]) Try.func31 ?_;refine Vl hm ?_;rw [Frame.finish_at];walk_nrm
 repeat refine kx ?_
 refine kf (args:=#[P0 tb]) Try.func32 ?_;refine Zz h0 h13 ?_;rw [Frame.finish_at];walk_nrm
 repeat refine kx ?_
 refine kf (args:=#[P0 tb,P0 (S.A i),.int .i8 6,.int .i64 (v),.int .i64 (0)]) Try.func33 ?_;refine R'.out _ _ ⟨(by decide:(1:Int)≤6),(by decide:(6:Int)≤6),fun e=>absurd e (by decide:(6:Int)≠1),fun _=>rfl⟩ hi (XR.up (fun a C x h=>?_) (fun C x h=>JG.raise rfl Try.func30 h) ha);rw [Frame.finish_at];simp only [QG];walk_nrm
 repeat refine kx ?_
 refine JG.ret ?_;exact JG.leave rfl rfl Try.func30 (fun τ d=>results_tmp (t:=6) rfl _ _ _) h
end
theorem Xp.start_append {Sh:Type}:∀ (l l':List (Xx Sh Unit)) (P:Xp Sh),P.start (l ++ l')=(P.start l).start l'
 | [],_,_=>rfl
 | p::l,l',P=>Xp.start_append l l' _
theorem sumTo_zero {f:Nat→Nat}:∀ {n:Nat},(∀ i,i < n→f i=0)→sumTo f n=0
 | 0,_=>rfl
 | n + 1,h=>by simp only [sumTo];rw [sumTo_zero fun i hi=>h i (by omega),h n (by omega)]
theorem Fuel.bind {Sh α β:Type} {g:α→Xx Sh β}:∀ {p:Xx Sh α} {m:Nat},Fuel m p→(∀ k a,k≤m→Fuel k (g a))→Fuel m (p.bind g)
 | .ret a,m,_,hg=>hg m a (Nat.le_refl _)
 | .fall,m,h,_=>.fall m
 | .out,m,h,_=>by cases h
 | .acc r k,0,h,hg=>.acc0
 | .acc r k,m + 1,h,hg=>by
  cases h with
  | acc hk=>exact .acc fun a=>Fuel.bind (hk a) fun k a hk=>hg k a (by omega)
 | .act f k,m,h,hg=>by
  cases h with
  | act hk=>exact .act fun s=>Fuel.bind (hk s) hg
