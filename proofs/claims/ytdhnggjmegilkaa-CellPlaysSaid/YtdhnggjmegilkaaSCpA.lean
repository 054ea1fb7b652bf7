/- The cell law's call, by a living thread: one Step, or none; and its tidy. -/
import Derived.Test.YtdhnggjmegilkaaSPlD
import Derived.Test.YtdhnggjmegilkaaSPlB
set_option linter.unusedSimpArgs false
set_option linter.unusedVariables false
set_option maxRecDepth 100000
set_option maxHeartbeats 16000000
namespace Go.Proofs.Ytdhnggjmegilkaa
open Go.Conc Go.RowKit
open Go.ConcN (upd upd_same upd_ne)
def VD (op:Int) (i:Nat) (a e:Int):Ask:=⟨op,i,if op=1 then 0 else a,if op=3 then e else 0⟩
def Z4 (op:Int) (t:Told):Int:=if op=2 then 0 else if op=3 then (if t.ok then 1 else 0) else if op=4 then t.now else t.was
def YG (op:Int) (i:Nat) (a e:Int):Xr Int:=if 1≤op∧op≤6 then .acc (VD op i a e) fun t=>.ret (Z4 op t) else .ret 0
theorem Xbm {op a e:Int} {i:Nat} (h1:1≤op) (h2:op≤6):(VD op i a e).Good:=⟨h1,h2,fun h=>if_pos h,fun h=>if_neg h⟩
theorem Xd2 {nc i:Nat} {op a e:Int} (hi:i < nc):(YG op i a e).Ok nc:=by
 unfold YG
 split
 ·exact .acc (Xbm (by omega) (by omega)) hi fun t=>.ret _
 ·exact .ret _
section
variable {Sh:Type} {Post:Value→World→Prop} {S:ZT Sh} {num tb rb m:Nat} {cb:Frame} {Pv:Nat→Prop} {C:Ctx} {x:World} {k:Told→XB Sh Unit} {c:Frame} {cs:List Frame} {i:Nat}
theorem Xd3 {g n cap:Nat} {op a e:Int} (hn:i < n) (hg:x.cell? (th g i)=some (P0 (S.A i))) (hm:x.cell? (th (S.A i) 1)=some (.bool true)) (hL:Ql x tb rb) (hi:i < S.nc)
 (h1:1≤op→op≤6→∀ y,Xf x y→YT Post S num tb rb cb m Pv C y (VD op i a e) k∧Xz Post S num tb rb cb m Pv y (fun t=>.int .i64 (Z4 op t)) k c cs)
 (h2:¬ (1≤op∧op≤6)→∀ y,Xf x y→JG Try.prog Post C (G (c.finish (.int .i64 0)) cs) y) :
 JG Try.prog Post C (G (Frame.enter Try.prog 16 #[.slice (some ⟨g,0,none⟩) n cap,P0 tb,.agg #[.int .i8 op,.int .i64 i,.int .i64 a,.int .i64 e]] .normal) (c::cs)) x:=by
 have hg0:g < x.heap.size:=Xs hg
 have x0:(0:Int)≤i:=by omega
 have x1:(i:Int) < n:=by omega
 have x2:(i:Int).toNat=i:=by simp
 obtain ⟨l1,l2,l3⟩:=hL
 replace h1:=HD h1
 replace h2:=HD h2
 refine Xy Try.func16 (by rfl) (by rfl) ?_
 simp only [Try.f16,Option.getD_some]
 walk_nrm
 repeat first|refine jc rfl ?_|(first|refine ju rfl rfl ?_|(refine jv rfl rfl rfl fun K E f τ d=>?_;go_simp;refine f _ _ _ _ ?_;clear f K E τ d);try walk_nrm)
 refine jo rfl rfl rfl (by decide) fun K E hK hE τ d=>?_
 go_simp
 refine hK _ _ (jt (x:=x.alloc (.cells #[.int .i8 op,.int .i64 i,.int .i64 a,.int .i64 e] 38)) ?_)
 simp only [Xv]
 clear hK hE K E τ d
 have w0:(x.alloc (.cells #[.int .i8 op,.int .i64 i,.int .i64 a,.int .i64 e] 38)).heap[x.heap.size]? = some (.cells #[.int .i8 op,.int .i64 i,.int .i64 a,.int .i64 e] 38 (0,0)):=heap_alloc_new x _
 have hy:=(Xf.refl x).alloc (.cells #[.int .i8 op,.int .i64 i,.int .i64 a,.int .i64 e] 38)
 replace hg:=hy.cell hg
 replace hm:=hy.cell hm
 replace l1:=hy.cell l1
 replace l2:=hy.cell l2
 generalize x.alloc (.cells #[.int .i8 op,.int .i64 i,.int .i64 a,.int .i64 e] 38)=y at w0 hy hg hm l1 l2 ⊢
 generalize x.heap.size=q at w0 hg0 ⊢
 have z0:y.cell? (th q 0)=some (.int .i8 op):=Xa w0 0
 have z1:y.cell? (th q 1)=some (.int .i64 i):=Xa w0 1
 have z2:y.cell? (th q 2)=some (.int .i64 a):=Xa w0 2
 have z3:y.cell? (th q 3)=some (.int .i64 e):=Xa w0 3
 have hL:Ql y tb rb:=⟨l1,l2,l3⟩
 replace hy:=HD hy
 replace hm:=HD hm
 replace hL:=HD hL
 clear w0 l1 l2
 repeat first|refine jc rfl ?_|(first|refine ju rfl rfl ?_|(refine jv rfl rfl rfl fun K E f τ d=>?_;have f0:=uc τ d z0;have f1:=uc τ d z1;have f2:=uc τ d hg;go_simp;refine f _ _ _ _ ?_;clear f0 f1 f2 f K E τ d);try walk_nrm)
 have hops:op=1∨op=2∨op=3∨op=4∨op=5∨op=6∨¬ (1≤op∧op≤6):=by omega
 rcases hops with rfl|rfl|rfl|rfl|rfl|rfl|h0
 ·obtain ⟨R,ha⟩:=h1.out (by decide) (by decide) y hy.out
  replace R:=HD R
  replace ha:=HD ha
  repeat first|refine jc rfl ?_|(first|refine ju rfl rfl ?_|(refine jv rfl rfl rfl fun K E f τ d=>?_;have f0:=uc τ d z0;have f1:=uc τ d z2;have f2:=uc τ d z3;have f3:=uc τ d hg;go_simp;refine f _ _ _ _ ?_;clear f0 f1 f2 f3 f K E τ d);try walk_nrm)
  refine Xt (f:=29) (args:=#[P0 (S.A i),P0 tb]) Try.func29 (by kernel_rfl) (by kernel_rfl) rfl rfl rfl rfl (by decide) ?_
  refine XbA (S:=S) (i:=i) (k:=k) (m:=m) (num:=num) (Pv:=Pv) (cb:=cb) hm.out hL.out hi R.out (Xz.up (fun t C x h=>?_) (fun C x h=>JG.raise rfl Try.func16 h) ha.out)
  rw [Frame.finish_at]
  walk_nrm
  repeat first|refine jc rfl ?_|(first|refine ju rfl rfl ?_|(refine jv rfl rfl rfl fun K E f τ d=>?_;go_simp;refine f _ _ _ _ ?_;clear f K E τ d);try walk_nrm)
  refine JG.ret ?_
  exact JG.leave rfl rfl Try.func16 (fun τ d=>results_tmp (t:=6) rfl _ _ _) h
 ·obtain ⟨R,ha⟩:=h1.out (by decide) (by decide) y hy.out
  replace R:=HD R
  replace ha:=HD ha
  repeat first|refine jc rfl ?_|(first|refine ju rfl rfl ?_|(refine jv rfl rfl rfl fun K E f τ d=>?_;have f0:=uc τ d z0;have f1:=uc τ d z2;have f2:=uc τ d z3;have f3:=uc τ d hg;go_simp;refine f _ _ _ _ ?_;clear f0 f1 f2 f3 f K E τ d);try walk_nrm)
  refine Xt (f:=79) (args:=#[P0 (S.A i),P0 tb,.int .i64 a]) Try.func79 (by kernel_rfl) (by kernel_rfl) rfl rfl rfl rfl (by decide) ?_
  refine Uz (S:=S) (i:=i) (k:=k) (m:=m) (num:=num) (Pv:=Pv) (cb:=cb) hm.out hL.out hi R.out (Xz.up (fun t C x h=>?_) (fun C x h=>JG.raise rfl Try.func16 h) ha.out)
  rw [Frame.finish_at]
  walk_nrm
  repeat first|refine jc rfl ?_|(first|refine ju rfl rfl ?_|(refine jv rfl rfl rfl fun K E f τ d=>?_;go_simp;refine f _ _ _ _ ?_;clear f K E τ d);try walk_nrm)
  refine JG.ret ?_
  exact JG.leave rfl rfl Try.func16 (fun τ d=>results_tmp (t:=6) rfl _ _ _) h
 ·obtain ⟨R,ha⟩:=h1.out (by decide) (by decide) y hy.out
  replace R:=HD R
  replace ha:=HD ha
  repeat first|refine jc rfl ?_|(first|refine ju rfl rfl ?_|(refine jv rfl rfl rfl fun K E f τ d=>?_;have f0:=uc τ d z0;have f1:=uc τ d z2;have f2:=uc τ d z3;have f3:=uc τ d hg;go_simp;refine f _ _ _ _ ?_;clear f0 f1 f2 f3 f K E τ d);try walk_nrm)
  refine Xt (f:=74) (args:=#[P0 (S.A i),P0 tb,.int .i64 a,.int .i64 e]) Try.func74 (by kernel_rfl) (by kernel_rfl) rfl rfl rfl rfl (by decide) ?_
  refine Xc8 (S:=S) (i:=i) (k:=k) (m:=m) (num:=num) (Pv:=Pv) (cb:=cb) hm.out hL.out hi R.out (Xz.up (fun t C x h=>?_) (fun C x h=>JG.raise rfl Try.func16 h) ha.out)
  rw [Frame.finish_at]
  cases ht:t.ok
  all_goals
   walk_nrm
   repeat first|refine jc rfl ?_|(first|refine ju rfl rfl ?_|(refine jv rfl rfl rfl fun K E f τ d=>?_;go_simp;refine f _ _ _ _ ?_;clear f K E τ d);try walk_nrm)
   simp only [Z4,ht] at h
   refine JG.ret ?_
   exact JG.leave rfl rfl Try.func16 (fun τ d=>results_tmp (t:=6) rfl _ _ _) h
 ·obtain ⟨R,ha⟩:=h1.out (by decide) (by decide) y hy.out
  replace R:=HD R
  replace ha:=HD ha
  repeat first|refine jc rfl ?_|(first|refine ju rfl rfl ?_|(refine jv rfl rfl rfl fun K E f τ d=>?_;have f0:=uc τ d z0;have f1:=uc τ d z2;have f2:=uc τ d z3;have f3:=uc τ d hg;go_simp;refine f _ _ _ _ ?_;clear f0 f1 f2 f3 f K E τ d);try walk_nrm)
  refine Xt (f:=73) (args:=#[P0 (S.A i),P0 tb,.int .i64 a]) Try.func73 (by kernel_rfl) (by kernel_rfl) rfl rfl rfl rfl (by decide) ?_
  refine Xc9 (S:=S) (i:=i) (k:=k) (m:=m) (num:=num) (Pv:=Pv) (cb:=cb) hm.out hL.out hi R.out (Xz.up (fun t C x h=>?_) (fun C x h=>JG.raise rfl Try.func16 h) ha.out)
  rw [Frame.finish_at]
  walk_nrm
  repeat first|refine jc rfl ?_|(first|refine ju rfl rfl ?_|(refine jv rfl rfl rfl fun K E f τ d=>?_;go_simp;refine f _ _ _ _ ?_;clear f K E τ d);try walk_nrm)
  refine JG.ret ?_
  exact JG.leave rfl rfl Try.func16 (fun τ d=>results_tmp (t:=6) rfl _ _ _) h
 ·obtain ⟨R,ha⟩:=h1.out (by decide) (by decide) y hy.out
  replace R:=HD R
  replace ha:=HD ha
  repeat first|refine jc rfl ?_|(first|refine ju rfl rfl ?_|(refine jv rfl rfl rfl fun K E f τ d=>?_;have f0:=uc τ d z0;have f1:=uc τ d z2;have f2:=uc τ d z3;have f3:=uc τ d hg;go_simp;refine f _ _ _ _ ?_;clear f0 f1 f2 f3 f K E τ d);try walk_nrm)
  refine Xt (f:=75) (args:=#[P0 (S.A i),P0 tb,.int .i64 a]) Try.func75 (by kernel_rfl) (by kernel_rfl) rfl rfl rfl rfl (by decide) ?_
  refine Xbz (S:=S) (i:=i) (k:=k) (m:=m) (num:=num) (Pv:=Pv) (cb:=cb) hm.out hL.out hi R.out (Xz.up (fun t C x h=>?_) (fun C x h=>JG.raise rfl Try.func16 h) ha.out)
  rw [Frame.finish_at]
  walk_nrm
  repeat first|refine jc rfl ?_|(first|refine ju rfl rfl ?_|(refine jv rfl rfl rfl fun K E f τ d=>?_;go_simp;refine f _ _ _ _ ?_;clear f K E τ d);try walk_nrm)
  refine JG.ret ?_
  exact JG.leave rfl rfl Try.func16 (fun τ d=>results_tmp (t:=6) rfl _ _ _) h
 ·obtain ⟨R,ha⟩:=h1.out (by decide) (by decide) y hy.out
  replace R:=HD R
  replace ha:=HD ha
  repeat first|refine jc rfl ?_|(first|refine ju rfl rfl ?_|(refine jv rfl rfl rfl fun K E f τ d=>?_;have f0:=uc τ d z0;have f1:=uc τ d z2;have f2:=uc τ d z3;have f3:=uc τ d hg;go_simp;refine f _ _ _ _ ?_;clear f0 f1 f2 f3 f K E τ d);try walk_nrm)
  refine Xt (f:=77) (args:=#[P0 (S.A i),P0 tb,.int .i64 a]) Try.func77 (by kernel_rfl) (by kernel_rfl) rfl rfl rfl rfl (by decide) ?_
  refine Vk (S:=S) (i:=i) (k:=k) (m:=m) (num:=num) (Pv:=Pv) (cb:=cb) hm.out hL.out hi R.out (Xz.up (fun t C x h=>?_) (fun C x h=>JG.raise rfl Try.func16 h) ha.out)
  rw [Frame.finish_at]
  walk_nrm
  repeat first|refine jc rfl ?_|(first|refine ju rfl rfl ?_|(refine jv rfl rfl rfl fun K E f τ d=>?_;go_simp;refine f _ _ _ _ ?_;clear f K E τ d);try walk_nrm)
  refine JG.ret ?_
  exact JG.leave rfl rfl Try.func16 (fun τ d=>results_tmp (t:=6) rfl _ _ _) h
 ·have d1:(op == 1)=false:=by simp only [beq_eq_false_iff_ne,ne_eq];omega
  have d2:(op == 2)=false:=by simp only [beq_eq_false_iff_ne,ne_eq];omega
  have d3:(op == 3)=false:=by simp only [beq_eq_false_iff_ne,ne_eq];omega
  have d4:(op == 4)=false:=by simp only [beq_eq_false_iff_ne,ne_eq];omega
  have d5:(op == 5)=false:=by simp only [beq_eq_false_iff_ne,ne_eq];omega
  have d6:(op == 6)=false:=by simp only [beq_eq_false_iff_ne,ne_eq];omega
  have h3:=h2.out h0 y hy.out
  replace h3:=HD h3
  clear h0
  rw [d1]
  repeat first|refine jc rfl ?_|(first|refine ju rfl rfl ?_|(refine jv rfl rfl rfl fun K E f τ d=>?_;have f0:=uc τ d z0;have f1:=uc τ d z2;have f2:=uc τ d z3;have f3:=uc τ d hg;go_simp;refine f _ _ _ _ ?_;clear f0 f1 f2 f3 f K E τ d);try walk_nrm)
  refine JG.ret ?_
  exact JG.leave rfl rfl Try.func16 (fun τ d=>results_tmp (t:=6) rfl _ _ _) h3.out
end
end Go.Proofs.Ytdhnggjmegilkaa
