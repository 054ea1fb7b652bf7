/- A cell's functions, called by a thread that lives: each is one Step. -/
import Derived.Test.YtdhnggjmegilkaaSRnS
import Derived.Test.YtdhnggjmegilkaaSGtO
set_option linter.unusedSimpArgs false
set_option linter.unusedVariables false
set_option maxRecDepth 100000
set_option maxHeartbeats 16000000
namespace Go.Proofs.Ytdhnggjmegilkaa
open Go.Conc Go.RowKit
open Go.ConcN (upd upd_same upd_ne)
section
variable {Sh:Type} {Post:Value→World→Prop} {S:ZT Sh} {num tb rb m:Nat} {cb:Frame} {Pv:Nat→Prop} {C:Ctx} {x:World} {k:Told→XB Sh Unit} {c:Frame} {cs:List Frame} {i:Nat}
theorem Xz.up {f f':Told→Value} {pf:Frame} (h1:∀ (a:Told) (C:Ctx) (x:World),JG Try.prog Post C (G (c.finish (f' a)) cs) x→JG Try.prog Post C (G (pf.finish (f a)) (c::cs)) x)
 (h2:∀ (C:Ctx) (x:World),JG Try.prog Post C (G (c.raise [{ v:=Z3,recovered:=false }]) cs) x→JG Try.prog Post C (G (pf.raise [{ v:=Z3,recovered:=false }]) (c::cs)) x) :
 Xz Post S num tb rb cb m Pv x f' k c cs→Xz Post S num tb rb cb m Pv x f k pf (c::cs):=by
 cases m with
 | zero=>exact fun h C x hb=>h2 C x (h C x hb)
 | succ m=>exact fun h=>⟨fun C x hb=>h2 C x (h.1 C x hb),fun C x col sh cells a e1 e2 e3 e4 ep ek e5 e6=>h1 a C x (h.2 C x col sh cells a e1 e2 e3 e4 ep ek e5 e6)⟩
def YT (Post:Value→World→Prop) (S:ZT Sh) (num tb rb:Nat) (cb:Frame) (m:Nat) (Pv:Nat→Prop) (C:Ctx) (x:World) (r:Ask) (k:Told→XB Sh Unit):Prop :=
 ∀ (c:Frame) (cs:List Frame),r.Good→r.cell < S.nc→Xz Post S num tb rb cb m Pv x ZK k c cs→JG Try.prog Post C (G (Frame.enter Try.prog 101 #[P0 tb,P0 (S.A r.cell),.int .i8 r.op,.int .i64 r.arg,.int .i64 r.new] .normal) (c::cs)) x
theorem Reach.step {col:Nat→Prop} {cells:Nat→Int} {sh:Sh} {r:Ask} {x0:World} (R:Reach Post S num tb cb (fun Pv y=>Xz Post S num tb rb cb m Pv y ZK) C col cells x0 sh (.acc r k)) (h1:x0.heap.size≤x.heap.size) (h2:∀ r,col r→x.heap[r]? = x0.heap[r]?) (hp:∀ r,Pv r→r < x.heap.size∧¬ col r) (h3:S.I sh cells (fun r=>col r∨Pv r) x) (h4:∀ i a,i≠num→S.keep i a→x.cell? a=x0.cell? a):YT Post S num tb rb cb m Pv C x r k:=R x Pv h1 h2 hp h3 h4
def none_:Nat→Prop:=fun _=>False
theorem VF (col:Nat→Prop):(fun r=>col r∨none_ r)=col:=by funext r;exact propext ⟨fun h=>h.elim id fun h=>h.elim,.inl⟩
theorem Reach.step0 {col:Nat→Prop} {cells:Nat→Int} {sh:Sh} {r:Ask} {x0:World} (R:Reach Post S num tb cb (fun Pv y=>Xz Post S num tb rb cb m Pv y ZK) C col cells x0 sh (.acc r k)) (h1:x0.heap.size≤x.heap.size) (h2:∀ r,col r→x.heap[r]? = x0.heap[r]?) (h3:S.I sh cells col x) (h4:∀ i a,¬ S.keep i a):YT Post S num tb rb cb m none_ C x r k:=R.step h1 h2 (fun _ h=>h.elim) (by rw [VF];exact h3) fun i a _ h=>absurd h (h4 i a)
theorem Reach.end0 {Aft:(Nat→Prop)→World→(Told→XB Sh Unit)→Frame→List Frame→Prop} {col:Nat→Prop} {cells:Nat→Int} {sh:Sh} {x0:World} {v0:Unit} (R:Reach Post S num tb cb Aft C col cells x0 sh (.ret v0)) (h1:x0.heap.size≤x.heap.size) (h2:∀ r,col r→x.heap[r]? = x0.heap[r]?) (h3:S.I sh cells col x) (h4:∀ i a,i≠num→S.keep i a→x.cell? a=x0.cell? a):∀ v,JG Try.prog Post C (G (cb.finish v) [Y0 Try.prog]) x:=R x none_ h1 h2 (fun _ h=>h.elim) (by rw [VF];exact h3) h4
theorem XbA (hm:x.cell? (th (S.A i) 1)=some (.bool true)) (hL:Ql x tb rb) (hi:i < S.nc) (R:YT Post S num tb rb cb m Pv C x ⟨1,i,0,0⟩ k) (ha:Xz Post S num tb rb cb m Pv x (fun a=>.int .i64 a.was) k c cs) :
 JG Try.prog Post C (G (Frame.enter Try.prog 29 #[P0 (S.A i),P0 tb] .normal) (c::cs)) x:=by
 obtain ⟨h0,h13,_⟩:=hL
 have R':=R
 unfold YT at R'
 replace R':=HD R'
 clear R
 refine Xy Try.func29 (by rfl) (by rfl) ?_
 simp only [Try.f29,Option.getD_some]
 walk_nrm
 repeat first|refine jc rfl ?_|(first|refine ju rfl rfl ?_|(refine jv rfl rfl rfl fun K E f τ d=>?_;go_simp;refine f _ _ _ _ ?_;clear f K E τ d);try walk_nrm)
 refine Xt (f:=99) (args:=#[P0 (S.A i)]) Try.func99 (by kernel_rfl) (by kernel_rfl) rfl rfl rfl rfl (by decide) ?_
 refine Z9 hm ?_
 rw [Frame.finish_at]
 walk_nrm
 repeat first|refine jc rfl ?_|(first|refine ju rfl rfl ?_|(refine jv rfl rfl rfl fun K E f τ d=>?_;go_simp;refine f _ _ _ _ ?_;clear f K E τ d);try walk_nrm)
 refine Xt (f:=100) (args:=#[P0 tb]) Try.func100 (by kernel_rfl) (by kernel_rfl) rfl rfl rfl rfl (by decide) ?_
 refine YU h0 h13 ?_
 rw [Frame.finish_at]
 walk_nrm
 repeat first|refine jc rfl ?_|(first|refine ju rfl rfl ?_|(refine jv rfl rfl rfl fun K E f τ d=>?_;go_simp;refine f _ _ _ _ ?_;clear f K E τ d);try walk_nrm)
 refine Xt (f:=101) (args:=#[P0 tb,P0 (S.A i),.int .i8 1,.int .i64 (0),.int .i64 (0)]) Try.func101 (by kernel_rfl) (by kernel_rfl) rfl rfl rfl rfl (by decide) ?_
 refine R'.out _ _ ⟨(by decide:(1:Int)≤1),(by decide:(1:Int)≤6),fun _=>rfl,fun _=>rfl⟩ hi (Xz.up (fun a C x h=>?_) (fun C x h=>JG.raise rfl Try.func29 h) ha)
 rw [Frame.finish_at]
 simp only [ZK]
 walk_nrm
 repeat first|refine jc rfl ?_|(first|refine ju rfl rfl ?_|(refine jv rfl rfl rfl fun K E f τ d=>?_;go_simp;refine f _ _ _ _ ?_;clear f K E τ d);try walk_nrm)
 refine JG.ret ?_
 exact JG.leave rfl rfl Try.func29 (fun τ d=>results_tmp (t:=4) rfl _ _ _) h
theorem Uz {v:Int} (hm:x.cell? (th (S.A i) 1)=some (.bool true)) (hL:Ql x tb rb) (hi:i < S.nc) (R:YT Post S num tb rb cb m Pv C x ⟨2,i,v,0⟩ k) (ha:Xz Post S num tb rb cb m Pv x (fun a=>.tuple #[]) k c cs) :
 JG Try.prog Post C (G (Frame.enter Try.prog 79 #[P0 (S.A i),P0 tb,.int .i64 v] .normal) (c::cs)) x:=by
 obtain ⟨h0,h13,_⟩:=hL
 have R':=R
 unfold YT at R'
 replace R':=HD R'
 clear R
 refine Xy Try.func79 (by rfl) (by rfl) ?_
 simp only [Try.f79,Option.getD_some]
 walk_nrm
 repeat first|refine jc rfl ?_|(first|refine ju rfl rfl ?_|(refine jv rfl rfl rfl fun K E f τ d=>?_;go_simp;refine f _ _ _ _ ?_;clear f K E τ d);try walk_nrm)
 refine Xt (f:=99) (args:=#[P0 (S.A i)]) Try.func99 (by kernel_rfl) (by kernel_rfl) rfl rfl rfl rfl (by decide) ?_
 refine Z9 hm ?_
 rw [Frame.finish_at]
 walk_nrm
 repeat first|refine jc rfl ?_|(first|refine ju rfl rfl ?_|(refine jv rfl rfl rfl fun K E f τ d=>?_;go_simp;refine f _ _ _ _ ?_;clear f K E τ d);try walk_nrm)
 refine Xt (f:=100) (args:=#[P0 tb]) Try.func100 (by kernel_rfl) (by kernel_rfl) rfl rfl rfl rfl (by decide) ?_
 refine YU h0 h13 ?_
 rw [Frame.finish_at]
 walk_nrm
 repeat first|refine jc rfl ?_|(first|refine ju rfl rfl ?_|(refine jv rfl rfl rfl fun K E f τ d=>?_;go_simp;refine f _ _ _ _ ?_;clear f K E τ d);try walk_nrm)
 refine Xt (f:=101) (args:=#[P0 tb,P0 (S.A i),.int .i8 2,.int .i64 (v),.int .i64 (0)]) Try.func101 (by kernel_rfl) (by kernel_rfl) rfl rfl rfl rfl (by decide) ?_
 refine R'.out _ _ ⟨(by decide:(1:Int)≤2),(by decide:(2:Int)≤6),fun e=>absurd e (by decide:(2:Int)≠1),fun _=>rfl⟩ hi (Xz.up (fun a C x h=>?_) (fun C x h=>JG.raise rfl Try.func79 h) ha)
 rw [Frame.finish_at]
 simp only [ZK]
 walk_nrm
 repeat first|refine jc rfl ?_|(first|refine ju rfl rfl ?_|(refine jv rfl rfl rfl fun K E f τ d=>?_;go_simp;refine f _ _ _ _ ?_;clear f K E τ d);try walk_nrm)
 refine JG.ret ?_
 exact JG.leave rfl rfl Try.func79 (fun τ d=>results_none rfl _ _ _) h
theorem Xc8 {o n:Int} (hm:x.cell? (th (S.A i) 1)=some (.bool true)) (hL:Ql x tb rb) (hi:i < S.nc) (R:YT Post S num tb rb cb m Pv C x ⟨3,i,o,n⟩ k) (ha:Xz Post S num tb rb cb m Pv x (fun a=>.bool a.ok) k c cs) :
 JG Try.prog Post C (G (Frame.enter Try.prog 74 #[P0 (S.A i),P0 tb,.int .i64 o,.int .i64 n] .normal) (c::cs)) x:=by
 obtain ⟨h0,h13,_⟩:=hL
 have R':=R
 unfold YT at R'
 replace R':=HD R'
 clear R
 refine Xy Try.func74 (by rfl) (by rfl) ?_
 simp only [Try.f74,Option.getD_some]
 walk_nrm
 repeat first|refine jc rfl ?_|(first|refine ju rfl rfl ?_|(refine jv rfl rfl rfl fun K E f τ d=>?_;go_simp;refine f _ _ _ _ ?_;clear f K E τ d);try walk_nrm)
 refine Xt (f:=99) (args:=#[P0 (S.A i)]) Try.func99 (by kernel_rfl) (by kernel_rfl) rfl rfl rfl rfl (by decide) ?_
 refine Z9 hm ?_
 rw [Frame.finish_at]
 walk_nrm
 repeat first|refine jc rfl ?_|(first|refine ju rfl rfl ?_|(refine jv rfl rfl rfl fun K E f τ d=>?_;go_simp;refine f _ _ _ _ ?_;clear f K E τ d);try walk_nrm)
 refine Xt (f:=100) (args:=#[P0 tb]) Try.func100 (by kernel_rfl) (by kernel_rfl) rfl rfl rfl rfl (by decide) ?_
 refine YU h0 h13 ?_
 rw [Frame.finish_at]
 walk_nrm
 repeat first|refine jc rfl ?_|(first|refine ju rfl rfl ?_|(refine jv rfl rfl rfl fun K E f τ d=>?_;go_simp;refine f _ _ _ _ ?_;clear f K E τ d);try walk_nrm)
 refine Xt (f:=101) (args:=#[P0 tb,P0 (S.A i),.int .i8 3,.int .i64 (o),.int .i64 (n)]) Try.func101 (by kernel_rfl) (by kernel_rfl) rfl rfl rfl rfl (by decide) ?_
 refine R'.out _ _ ⟨(by decide:(1:Int)≤3),(by decide:(3:Int)≤6),fun e=>absurd e (by decide:(3:Int)≠1),fun e=>absurd rfl e⟩ hi (Xz.up (fun a C x h=>?_) (fun C x h=>JG.raise rfl Try.func74 h) ha)
 rw [Frame.finish_at]
 simp only [ZK]
 walk_nrm
 repeat first|refine jc rfl ?_|(first|refine ju rfl rfl ?_|(refine jv rfl rfl rfl fun K E f τ d=>?_;go_simp;refine f _ _ _ _ ?_;clear f K E τ d);try walk_nrm)
 refine JG.ret ?_
 exact JG.leave rfl rfl Try.func74 (fun τ d=>results_tmp (t:=8) rfl _ _ _) h
theorem Xc9 {v:Int} (hm:x.cell? (th (S.A i) 1)=some (.bool true)) (hL:Ql x tb rb) (hi:i < S.nc) (R:YT Post S num tb rb cb m Pv C x ⟨4,i,v,0⟩ k) (ha:Xz Post S num tb rb cb m Pv x (fun a=>.int .i64 a.now) k c cs) :
 JG Try.prog Post C (G (Frame.enter Try.prog 73 #[P0 (S.A i),P0 tb,.int .i64 v] .normal) (c::cs)) x:=by
 obtain ⟨h0,h13,_⟩:=hL
 have R':=R
 unfold YT at R'
 replace R':=HD R'
 clear R
 refine Xy Try.func73 (by rfl) (by rfl) ?_
 simp only [Try.f73,Option.getD_some]
 walk_nrm
 repeat first|refine jc rfl ?_|(first|refine ju rfl rfl ?_|(refine jv rfl rfl rfl fun K E f τ d=>?_;go_simp;refine f _ _ _ _ ?_;clear f K E τ d);try walk_nrm)
 refine Xt (f:=99) (args:=#[P0 (S.A i)]) Try.func99 (by kernel_rfl) (by kernel_rfl) rfl rfl rfl rfl (by decide) ?_
 refine Z9 hm ?_
 rw [Frame.finish_at]
 walk_nrm
 repeat first|refine jc rfl ?_|(first|refine ju rfl rfl ?_|(refine jv rfl rfl rfl fun K E f τ d=>?_;go_simp;refine f _ _ _ _ ?_;clear f K E τ d);try walk_nrm)
 refine Xt (f:=100) (args:=#[P0 tb]) Try.func100 (by kernel_rfl) (by kernel_rfl) rfl rfl rfl rfl (by decide) ?_
 refine YU h0 h13 ?_
 rw [Frame.finish_at]
 walk_nrm
 repeat first|refine jc rfl ?_|(first|refine ju rfl rfl ?_|(refine jv rfl rfl rfl fun K E f τ d=>?_;go_simp;refine f _ _ _ _ ?_;clear f K E τ d);try walk_nrm)
 refine Xt (f:=101) (args:=#[P0 tb,P0 (S.A i),.int .i8 4,.int .i64 (v),.int .i64 (0)]) Try.func101 (by kernel_rfl) (by kernel_rfl) rfl rfl rfl rfl (by decide) ?_
 refine R'.out _ _ ⟨(by decide:(1:Int)≤4),(by decide:(4:Int)≤6),fun e=>absurd e (by decide:(4:Int)≠1),fun _=>rfl⟩ hi (Xz.up (fun a C x h=>?_) (fun C x h=>JG.raise rfl Try.func73 h) ha)
 rw [Frame.finish_at]
 simp only [ZK]
 walk_nrm
 repeat first|refine jc rfl ?_|(first|refine ju rfl rfl ?_|(refine jv rfl rfl rfl fun K E f τ d=>?_;go_simp;refine f _ _ _ _ ?_;clear f K E τ d);try walk_nrm)
 refine JG.ret ?_
 exact JG.leave rfl rfl Try.func73 (fun τ d=>results_tmp (t:=6) rfl _ _ _) h
theorem Xbz {v:Int} (hm:x.cell? (th (S.A i) 1)=some (.bool true)) (hL:Ql x tb rb) (hi:i < S.nc) (R:YT Post S num tb rb cb m Pv C x ⟨5,i,v,0⟩ k) (ha:Xz Post S num tb rb cb m Pv x (fun a=>.int .i64 a.was) k c cs) :
 JG Try.prog Post C (G (Frame.enter Try.prog 75 #[P0 (S.A i),P0 tb,.int .i64 v] .normal) (c::cs)) x:=by
 obtain ⟨h0,h13,_⟩:=hL
 have R':=R
 unfold YT at R'
 replace R':=HD R'
 clear R
 refine Xy Try.func75 (by rfl) (by rfl) ?_
 simp only [Try.f75,Option.getD_some]
 walk_nrm
 repeat first|refine jc rfl ?_|(first|refine ju rfl rfl ?_|(refine jv rfl rfl rfl fun K E f τ d=>?_;go_simp;refine f _ _ _ _ ?_;clear f K E τ d);try walk_nrm)
 refine Xt (f:=99) (args:=#[P0 (S.A i)]) Try.func99 (by kernel_rfl) (by kernel_rfl) rfl rfl rfl rfl (by decide) ?_
 refine Z9 hm ?_
 rw [Frame.finish_at]
 walk_nrm
 repeat first|refine jc rfl ?_|(first|refine ju rfl rfl ?_|(refine jv rfl rfl rfl fun K E f τ d=>?_;go_simp;refine f _ _ _ _ ?_;clear f K E τ d);try walk_nrm)
 refine Xt (f:=100) (args:=#[P0 tb]) Try.func100 (by kernel_rfl) (by kernel_rfl) rfl rfl rfl rfl (by decide) ?_
 refine YU h0 h13 ?_
 rw [Frame.finish_at]
 walk_nrm
 repeat first|refine jc rfl ?_|(first|refine ju rfl rfl ?_|(refine jv rfl rfl rfl fun K E f τ d=>?_;go_simp;refine f _ _ _ _ ?_;clear f K E τ d);try walk_nrm)
 refine Xt (f:=101) (args:=#[P0 tb,P0 (S.A i),.int .i8 5,.int .i64 (v),.int .i64 (0)]) Try.func101 (by kernel_rfl) (by kernel_rfl) rfl rfl rfl rfl (by decide) ?_
 refine R'.out _ _ ⟨(by decide:(1:Int)≤5),(by decide:(5:Int)≤6),fun e=>absurd e (by decide:(5:Int)≠1),fun _=>rfl⟩ hi (Xz.up (fun a C x h=>?_) (fun C x h=>JG.raise rfl Try.func75 h) ha)
 rw [Frame.finish_at]
 simp only [ZK]
 walk_nrm
 repeat first|refine jc rfl ?_|(first|refine ju rfl rfl ?_|(refine jv rfl rfl rfl fun K E f τ d=>?_;go_simp;refine f _ _ _ _ ?_;clear f K E τ d);try walk_nrm)
 refine JG.ret ?_
 exact JG.leave rfl rfl Try.func75 (fun τ d=>results_tmp (t:=6) rfl _ _ _) h
theorem Vk {v:Int} (hm:x.cell? (th (S.A i) 1)=some (.bool true)) (hL:Ql x tb rb) (hi:i < S.nc) (R:YT Post S num tb rb cb m Pv C x ⟨6,i,v,0⟩ k) (ha:Xz Post S num tb rb cb m Pv x (fun a=>.int .i64 a.was) k c cs) :
 JG Try.prog Post C (G (Frame.enter Try.prog 77 #[P0 (S.A i),P0 tb,.int .i64 v] .normal) (c::cs)) x:=by
 obtain ⟨h0,h13,_⟩:=hL
 have R':=R
 unfold YT at R'
 replace R':=HD R'
 clear R
 refine Xy Try.func77 (by rfl) (by rfl) ?_
 simp only [Try.f77,Option.getD_some]
 walk_nrm
 repeat first|refine jc rfl ?_|(first|refine ju rfl rfl ?_|(refine jv rfl rfl rfl fun K E f τ d=>?_;go_simp;refine f _ _ _ _ ?_;clear f K E τ d);try walk_nrm)
 refine Xt (f:=99) (args:=#[P0 (S.A i)]) Try.func99 (by kernel_rfl) (by kernel_rfl) rfl rfl rfl rfl (by decide) ?_
 refine Z9 hm ?_
 rw [Frame.finish_at]
 walk_nrm
 repeat first|refine jc rfl ?_|(first|refine ju rfl rfl ?_|(refine jv rfl rfl rfl fun K E f τ d=>?_;go_simp;refine f _ _ _ _ ?_;clear f K E τ d);try walk_nrm)
 refine Xt (f:=100) (args:=#[P0 tb]) Try.func100 (by kernel_rfl) (by kernel_rfl) rfl rfl rfl rfl (by decide) ?_
 refine YU h0 h13 ?_
 rw [Frame.finish_at]
 walk_nrm
 repeat first|refine jc rfl ?_|(first|refine ju rfl rfl ?_|(refine jv rfl rfl rfl fun K E f τ d=>?_;go_simp;refine f _ _ _ _ ?_;clear f K E τ d);try walk_nrm)
 refine Xt (f:=101) (args:=#[P0 tb,P0 (S.A i),.int .i8 6,.int .i64 (v),.int .i64 (0)]) Try.func101 (by kernel_rfl) (by kernel_rfl) rfl rfl rfl rfl (by decide) ?_
 refine R'.out _ _ ⟨(by decide:(1:Int)≤6),(by decide:(6:Int)≤6),fun e=>absurd e (by decide:(6:Int)≠1),fun _=>rfl⟩ hi (Xz.up (fun a C x h=>?_) (fun C x h=>JG.raise rfl Try.func77 h) ha)
 rw [Frame.finish_at]
 simp only [ZK]
 walk_nrm
 repeat first|refine jc rfl ?_|(first|refine ju rfl rfl ?_|(refine jv rfl rfl rfl fun K E f τ d=>?_;go_simp;refine f _ _ _ _ ?_;clear f K E τ d);try walk_nrm)
 refine JG.ret ?_
 exact JG.leave rfl rfl Try.func77 (fun τ d=>results_tmp (t:=6) rfl _ _ _) h
end
end Go.Proofs.Ytdhnggjmegilkaa
