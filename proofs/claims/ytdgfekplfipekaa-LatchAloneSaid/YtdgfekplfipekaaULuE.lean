/- LatchAlone's bodies: what they share lies in boxes. -/
import Derived.Test.YtdgfekplfipekaaULuA
import Derived.Test.YtdgfekplfipekaaULpB
import Derived.Test.YtdgfekplfipekaaULbB
import Derived.Test.YtdgfekplfipekaaULuD
set_option linter.all false
set_option maxRecDepth 100000
set_option maxHeartbeats 16000000
namespace Go.Proofs.Ytdgfekplfipekaa
open Go.Conc Go.RowKit
open Go.ConcN (upd upd_same upd_ne)
set_option maxRecDepth 100000
section
variable {Sh:Type} {Post:Value→World→Prop} {S:Zv Sh} {num tb rb m:Nat} {cb:Frame} {C:Ctx} {x0 x y:World} {col Pv:Nat→Prop} {sh:Sh} {cells:Nat→Int}
theorem TSt.begin {p:Xx Sh Unit} (hd:C.d=0) (hL:Qn x tb rb) (hct:col tb) (hcb:∀ r,col r→r < x.heap.size) (hI:S.I sh cells col x) (R:Reach Post S num tb cb (fun Pv y=>XR Post S num tb rb cb m Pv y QG) C col cells x (p.pass sh).1 (p.pass sh).2):TSt Post S num tb rb cb m C x x col none_ sh cells p :=
 ⟨hd,hL,hct,hcb,fun r hr=>hr.elim,by rw [VN];exact hI,Nat.le_refl _,fun _ _=>rfl,fun _ _ _ _=>rfl,fun i a h=>(S.keepI hI i a h).1,R⟩
theorem TSt.did {f:Sh→Sh} {k:Sh→Xx Sh Unit} (h:TSt Post S num tb rb cb m C x0 x col none_ sh cells (.act f k)) (hs:y.heap.size=x.heap.size) (hy:∀ r,col r→y.heap[r]? = x.heap[r]?) (hI:S.I (f sh) cells col y) (hk:∀ i a,¬ S.keep i a):TSt Post S num tb rb cb m C x0 y col none_ (f sh) cells (k sh) :=
 ⟨h.d,⟨(World.cell?_of_block (hy tb h.mine)).trans h.lives.1,(World.cell?_of_block (hy tb h.mine)).trans h.lives.2.1,h.lives.2.2⟩,h.mine,fun r hr=>by rw [hs];exact h.lt r hr,fun r hr=>hr.elim,by rw [VN];exact hI,by rw [hs];exact h.size,fun r hr=>(hy r hr).trans (h.old r hr),fun i a _ h2=>(hk i a h2).elim,fun i a h1=>(hk i a h1).elim,h.reach⟩
theorem TSt.I0 {p:Xx Sh Unit} (h:TSt Post S num tb rb cb m C x0 x col none_ sh cells p):S.I sh cells col x:=by have:=h.I;rw [VN] at this;exact this
theorem TSt.fin (h:TSt Post S num tb rb cb m C x0 x col Pv sh cells (.ret ())):∀ v,JG Try.prog Post C (G (cb.finish v) [YX Try.prog]) x:=h.reach x Pv h.size h.old h.pv h.I h.keep
theorem Yq.body {c:Frame} (h1:∀ (C:Ctx) (x:World),JG Try.prog Post C (G (cb.raise [{ v:=YI,recovered:=false }]) [YX Try.prog]) x→JG Try.prog Post C (G (c.raise [{ v:=YI,recovered:=false }]) [cb,YX Try.prog]) x):Yq Post cb c [cb,YX Try.prog]:=fun C x hb=>h1 C x (hb x (Nat.le_refl _) fun _ _=>rfl)
end
structure Lq where
 bm:Nat
 ba:Nat
 bo:Nat
 cb:Nat
 lb:Nat
 bl:Nat
 bd:Nat
 be:Nat
 bw:Nat
 m:Nat
 all:Nat
 more:Nat
 o:bm < ba∧ba < bo∧bo < cb∧cb < lb∧lb < bl∧bl < bd∧bd < be∧be < bw
namespace Lq
variable (q:Lq)
def rows (sh:OSh):List (Nat × Obj):=[(q.bm,.cells #[.int .i64 (q.m:Nat)] 3 (0,0)),(q.ba,.cells #[.int .i64 (q.all:Nat)] 2 (0,0)),(q.bo,.cells #[.int .i64 (q.more:Nat)] 2 (0,0)),(q.lb,.cells #[P0 q.cb] 98 (0,0)),
 (q.bl,.cells #[P0 q.lb] 52 (0,0)),(q.bd,.cells #[.int .i64 sh.down] 2 (0,0)),(q.be,.cells #[.bool sh.early] 4 (0,0)),(q.bw,.cells #[.int .i64 sh.waits] 3 (0,0))]
theorem ne_cb {sh:OSh}:∀ p∈q.rows sh,p.1≠q.cb:=fun p hp=>by
 have:=q.o
 simp only [rows,List.mem_cons,List.not_mem_nil,or_false] at hp;rcases hp with rfl|rfl|rfl|rfl|rfl|rfl|rfl|rfl<;>simp only<;>omega
def M (sh:OSh) (col:Nat→Prop) (x:World):Prop:=∀ p∈q.rows sh,x.heap[p.1]? = some p.2∧¬ col p.1
def more_:Xgc OSh (fun _=>q.cb) 1 where
 M:=q.M
 frame:=fun {sh col x} h col' y hs ho hc p hp=>by
  obtain ⟨h1,h2⟩:=h p hp;have hl:=(GE h1).1;exact ⟨(ho _ hl h2 fun _ _=>q.ne_cb p hp).trans h1,fun e=>h2 (hc _ hl e)⟩
abbrev side:Zv OSh:=Xed (fun _=>q.cb) 1 (fun a b ha hb _=>by omega) q.more_ (XV.fuel OSh)
variable {q}
section
variable {sh:OSh} {col:Nat→Prop} {x:World}
theorem M.m (h:q.M sh col x):x.heap[q.bm]? = some (.cells #[.int .i64 (q.m:Nat)] 3 (0,0)):=(h (q.bm,_) (by simp [rows])).1
theorem M.a (h:q.M sh col x):x.heap[q.ba]? = some (.cells #[.int .i64 (q.all:Nat)] 2 (0,0)):=(h (q.ba,_) (by simp [rows])).1
theorem M.o (h:q.M sh col x):x.heap[q.bo]? = some (.cells #[.int .i64 (q.more:Nat)] 2 (0,0)):=(h (q.bo,_) (by simp [rows])).1
theorem M.lb (h:q.M sh col x):x.heap[q.lb]? = some (.cells #[P0 q.cb] 98 (0,0)):=(h (q.lb,_) (by simp [rows])).1
theorem M.l (h:q.M sh col x):x.heap[q.bl]? = some (.cells #[P0 q.lb] 52 (0,0)):=(h (q.bl,_) (by simp [rows])).1
theorem M.d (h:q.M sh col x):x.heap[q.bd]? = some (.cells #[.int .i64 sh.down] 2 (0,0))∧¬ col q.bd:=h (q.bd,_) (by simp [rows])
theorem M.e (h:q.M sh col x):x.heap[q.be]? = some (.cells #[.bool sh.early] 4 (0,0))∧¬ col q.be:=h (q.be,_) (by simp [rows])
theorem M.w (h:q.M sh col x):x.heap[q.bw]? = some (.cells #[.int .i64 sh.waits] 3 (0,0))∧¬ col q.bw:=h (q.bw,_) (by simp [rows])
theorem M.mk (hm:x.heap[q.bm]? = some (.cells #[.int .i64 (q.m:Nat)] 3 (0,0))) (ha:x.heap[q.ba]? = some (.cells #[.int .i64 (q.all:Nat)] 2 (0,0))) (ho:x.heap[q.bo]? = some (.cells #[.int .i64 (q.more:Nat)] 2 (0,0))) (hlb:x.heap[q.lb]? = some (.cells #[P0 q.cb] 98 (0,0))) (hl:x.heap[q.bl]? = some (.cells #[P0 q.lb] 52 (0,0)))
 (hd:x.heap[q.bd]? = some (.cells #[.int .i64 sh.down] 2 (0,0))) (he:x.heap[q.be]? = some (.cells #[.bool sh.early] 4 (0,0))) (hw:x.heap[q.bw]? = some (.cells #[.int .i64 sh.waits] 3 (0,0))) (hc:∀ p∈q.rows sh,¬ col p.1):q.M sh col x:=fun p hp=>by
 refine ⟨?_,hc p hp⟩;simp only [rows,List.mem_cons,List.not_mem_nil,or_false] at hp;rcases hp with rfl|rfl|rfl|rfl|rfl|rfl|rfl|rfl<;>assumption
theorem free_of {sh sh':OSh} (h:∀ p∈q.rows sh,¬ col p.1):∀ p∈q.rows sh',¬ col p.1:=fun p hp=>by
 have h1:p.1∈(q.rows sh').map Prod.fst:=List.mem_map_of_mem hp;rw [show (q.rows sh').map Prod.fst=(q.rows sh).map Prod.fst from rfl] at h1;obtain ⟨p',hp',e⟩:=List.mem_map.1 h1;rw [← e];exact h p' hp'
theorem M.setE (h:q.M sh col x) (e:Bool):q.M ⟨e,sh.down,sh.waits⟩ col (x.setCell (th q.be 0) (.bool e)):=by
 have:=q.o
 exact .mk ((Xb (by omega)).trans h.m) ((Xb (by omega)).trans h.a) ((Xb (by omega)).trans h.o) ((Xb (by omega)).trans h.lb) ((Xb (by omega)).trans h.l) ((Xb (by omega)).trans h.d.1) (by rw [Xd h.e.1];rfl) ((Xb (by omega)).trans h.w.1) (free_of fun p hp=>(h p hp).2)
end
theorem keep_no:∀ i a,¬ q.side.keep i a:=fun _ _ h=>h
theorem I_set {sh sh':OSh} {cells:Nat→Int} {col:Nat→Prop} {x:World} {b:Nat} {v:Value} (h:q.side.I sh cells col x) (hb:b≠q.cb) (hM:q.M sh' col (x.setCell (th b 0) v)):q.side.I sh' cells col (x.setCell (th b 0) v) :=
 ⟨fun i hi=>⟨(Xb (show q.cb≠b from fun e=>hb e.symm)).trans (h.1 i hi).1,(h.1 i hi).2⟩,hM⟩
end Lq
theorem results_tmp3 {fn:Func} {t u w:Tmp} (h:fn.results=#[.tmp t,.tmp u,.tmp w]) (tmps:Array Value) (P:Program) (y:World):(results fn tmps).run P y=.ok (.tuple #[tmps.getD t undef,tmps.getD u undef,tmps.getD w undef]) y:=by
 simp [results,h]
section
variable {Post:Value→World→Prop} {C:Ctx} {x:World} {c:Frame} {cs:List Frame} {b s t:Nat} {v:Int}
theorem arrive_J (hb:x.heap[b]? = some (.cells #[.int .i64 1,P0 s,P0 t] 96 (0,0))) (hs:Xr x s v) (ht:Xr x t 0) (n1:b≠s) (n2:b≠t) (n3:s≠t)
 (h:∀ y,y.heap.size=x.heap.size→(∀ r,r≠s→r≠t→y.heap[r]? = x.heap[r]?)→Xr y s (wrap64 (v + 1))→Xr y t 0→JG Try.prog Post C (G (c.finish (.tuple #[.int .i64 v,.bool true,.int .i64 0])) cs) y) :
 JG Try.prog Post C (G (Frame.enter Try.prog 19 #[P0 b,.pointer none] .normal) (c::cs)) x:=by
 refine Xu Try.func19 (by rfl) (by rfl) ?_;simp only [Try.f19,Option.getD_some];walk_nrm;have b0:x.cell? (th b 0)=some (.int .i64 1):=Xa hb 0;have b1:x.cell? (th b 1)=some (P0 s):=Xa hb 1;have b2:x.cell? (th b 2)=some (P0 t):=Xa hb 2
 repeat refine kx ?_
 refine kf (args:=#[P0 s,.pointer none]) Try.func13 ?_;refine UG hs ?_;rw [Frame.finish_at]
 try walk_nrm
 repeat refine kx ?_
 have k0:(x.setCell (th t 0) (.int .i64 1)).cell? (th b 0)=some (.int .i64 1):=Xi (by simp [th,n2]) b0;have k1:(x.setCell (th t 0) (.int .i64 1)).cell? (th b 1)=some (P0 s):=Xi (by simp [th,n2]) b1;have k2:(x.setCell (th t 0) (.int .i64 1)).cell? (th b 2)=some (P0 t):=Xi (by simp [th,n2]) b2;refine JG.drawCalls (fun i=>if i=6 then some 0 else none) (fun _=>.int .i64 1) (fun k y=>if k=0 then y=x else y=x.setCell (th t 0) (.int .i64 1)) 1 (by kernel_rfl) (by kernel_rfl) (by decide) rfl ?_;apply Exists.intro;apply And.intro
 ·intro k hk y hy
  have hk':k=0∨k=1:=by omega
  rcases hk' with rfl|rfl
  ·rw [show y=x from hy]
   repeat first|(refine Vb.rd (by rfl) (fun K hK τ d=>?_);go_simp;refine hK _ ?_;clear hK K τ d)|(refine Vb.rd (by rfl) (fun K hK τ d=>?_);have hfact:=uc τ d (b0);go_simp;refine hK _ ?_;clear hfact hK K τ d)|(refine Vb.rd (by rfl) (fun K hK τ d=>?_);have hfact:=uc τ d (b1);go_simp;refine hK _ ?_;clear hfact hK K τ d)|(refine Vb.rd (by rfl) (fun K hK τ d=>?_);have hfact:=uc τ d (b2);go_simp;refine hK _ ?_;clear hfact hK K τ d)
   refine Vb.cl (by rfl) (fun _=>⟨39,#[P0 t,.pointer none,.int .i64 1],fun w=>?_,fun w=>?_,fun c hc=>?_⟩) ?_
   iterate 2 (focus obtain ⟨fn, h1, h2, h3⟩ : Yb 39 := ⟨_, Try.func39, by kernel_rfl, by kernel_rfl⟩; have h4 : ¬ fn.name = "runtime.NumGoroutine" := (by simpa using h2); have h5 : ¬ fn.body = none := (by intro e; rw [e] at h3; cases h3); simp [go_sem, execOp, Act.eval, resolve, Deferred.ofValue, invoke, callFunc, h1, h4, h5])
   ·refine add_J ht ?_
    rw [show wrap64 (0 + 1)=1 from by decide +kernel];exact hc _ rfl
   repeat first|(refine Vb.rd (by rfl) (fun K hK τ d=>?_);go_simp;refine hK _ ?_;clear hK K τ d)|(refine Vb.rd (by rfl) (fun K hK τ d=>?_);have hfact:=uc τ d (b0);go_simp;refine hK _ ?_;clear hfact hK K τ d)|(refine Vb.rd (by rfl) (fun K hK τ d=>?_);have hfact:=uc τ d (b1);go_simp;refine hK _ ?_;clear hfact hK K τ d)|(refine Vb.rd (by rfl) (fun K hK τ d=>?_);have hfact:=uc τ d (b2);go_simp;refine hK _ ?_;clear hfact hK K τ d)
   exact rfl
  ·rw [show y=x.setCell (th t 0) (.int .i64 1) from hy]
   repeat first|(refine Vb.rd (by rfl) (fun K hK τ d=>?_);go_simp;refine hK _ ?_;clear hK K τ d)|(refine Vb.rd (by rfl) (fun K hK τ d=>?_);have hfact:=uc τ d (k0);go_simp;refine hK _ ?_;clear hfact hK K τ d)|(refine Vb.rd (by rfl) (fun K hK τ d=>?_);have hfact:=uc τ d (k1);go_simp;refine hK _ ?_;clear hfact hK K τ d)|(refine Vb.rd (by rfl) (fun K hK τ d=>?_);have hfact:=uc τ d (k2);go_simp;refine hK _ ?_;clear hfact hK K τ d)
   refine Vb.cl (by rfl) (fun h=>by cases h) ?_
   repeat first|(refine Vb.rd (by rfl) (fun K hK τ d=>?_);go_simp;refine hK _ ?_;clear hK K τ d)|(refine Vb.rd (by rfl) (fun K hK τ d=>?_);have hfact:=uc τ d (k0);go_simp;refine hK _ ?_;clear hfact hK K τ d)|(refine Vb.rd (by rfl) (fun K hK τ d=>?_);have hfact:=uc τ d (k1);go_simp;refine hK _ ?_;clear hfact hK K τ d)|(refine Vb.rd (by rfl) (fun K hK τ d=>?_);have hfact:=uc τ d (k2);go_simp;refine hK _ ?_;clear hfact hK K τ d)
   exact rfl
 ·intro y hy
  rw [show y=x.setCell (th t 0) (.int .i64 1) from hy];clear b0 b1 b2 hy y;have ht1:Xr (x.setCell (th t 0) (.int .i64 1)) t 1:=ht.set;have hs1:Xr (x.setCell (th t 0) (.int .i64 1)) s v:=hs.set_ne n3;obtain ⟨y,hy⟩:∃ y,y=x.setCell (th t 0) (.int .i64 1):=⟨_,rfl⟩
  rw [← hy] at k0 k1 k2 ht1 hs1 ⊢;have q1:y.heap.size=x.heap.size:=by rw [hy,Xh]
  have q2:∀ r,r≠t→y.heap[r]? = x.heap[r]?:=fun r hr=>by rw [hy,Xb hr]
  clear hy
  try walk_nrm
  repeat refine kx ?_
  refine kf (args:=#[P0 t,.pointer none,.int .i64 0]) Try.func14 ?_;refine store_J ht1 ?_;rw [Frame.finish_at]
  try walk_nrm
  have m1:(y.setCell (th t 0) (.int .i64 0)).cell? (th b 1)=some (P0 s):=Xi (by simp [th,n2]) k1;have hs2:Xr (y.setCell (th t 0) (.int .i64 0)) s v:=hs1.set_ne n3;have ht2:Xr (y.setCell (th t 0) (.int .i64 0)) t 0:=ht1.set
  repeat refine kx ?_
  refine kf (args:=#[P0 s,.pointer none,.int .i64 1]) Try.func39 ?_;refine add_J hs2 ?_;rw [Frame.finish_at]
  try walk_nrm
  repeat refine kx ?_
  refine JG.ret ?_;exact JG.leave rfl rfl Try.func19 (fun τ d=>results_tmp3 (t:=4) (u:=5) (w:=6) rfl _ _ _) (h _ (by rw [Xh,Xh,q1]) (fun r h1 h2=>by rw [Xb h1,Xb h2,q2 r h2]) hs2.set (ht2.set_ne (fun e=>n3 e.symm)))
end
section
variable {Sh:Type} {Post:Value→World→Prop} {S:Zv Sh} {num tb rb:Nat} {cb:Frame} {Pv:Nat→Prop} {c:Frame} {cs:List Frame} {lb:Nat}
theorem lock_loop (hS:LatchS S lb) (hs:Yq Post cb c cs) {g:Unit→Xx Sh Unit}:∀ (f m:Nat) (C:Ctx) (x0 x:World) (col:Nat→Prop) (sh:Sh) (cells:Nat→Int) (u2 u3 u4 u5 u6 u7 u8 u9 B0 B1 B2 B3 B4 B5 B6 B7 B8 B9 D0 D1 D2 D3 D4 D5 D6 D7 D8 D9 E0 E1 E2:Value),TSt Post S num tb rb cb m C x0 x col Pv sh cells ((lkP f).bind g)→NextC Post S num tb rb cb Pv x (fun _=>.int .i64 0) g c cs →
 JG Try.prog Post C (G ((base 12).at ⟨#[P0 lb,P0 tb,u2,u3,u4,u5,u6,u7,u8,u9,B0,B1,B2,B3,B4,B5,B6,B7,B8,B9,D0,D1,D2,D3,D4,D5,D6,D7,D8,D9,E0,E1,E2],[]⟩ [.code (Code.navS (Try.f12.body.getD .skip) [1,0,1,1,1]),.inScope (Code.navS (Try.f12.body.getD .skip) [1,0])]) (c::cs)) x:=by
 intro f
 induction f with
 | zero=>intro m C x0 x col sh cells u2 u3 u4 u5 u6 u7 u8 u9 B0 B1 B2 B3 B4 B5 B6 B7 B8 B9 D0 D1 D2 D3 D4 D5 D6 D7 D8 D9 E0 E1 E2 h hn;exact h.no.elim
 | succ f ih =>
  intro m C x0 x col sh cells u2 u3 u4 u5 u6 u7 u8 u9 B0 B1 B2 B3 B4 B5 B6 B7 B8 B9 D0 D1 D2 D3 D4 D5 D6 D7 D8 D9 E0 E1 E2 h hn;have IH:=HD ih;clear ih;simp only [Try.f12,Option.getD_some,Code.navS] at IH ⊢;obtain ⟨l0,m0⟩:=hS.2 h.I;replace hn:=HD hn;replace h:=HD h
  repeat refine kx ?_
  refine kf (args:=#[P0 (S.A 0),P0 tb,.int .i64 2]) Try.func29 ?_;refine swap_T (i:=0) h.out hS.1 m0 (Yq.up hs fun C x h=>JG.raise rfl Try.func12 h) fun m' C' y col' sh' cells' a hT hp hk=>?_;rw [Frame.finish_at]
  try walk_nrm
  clear h l0 m0;obtain ⟨l0,m0⟩:=hS.2 hT.I
  by_cases h0:a.was=0
  ·have hT':TSt Post S num tb rb cb m' C' y y col' Pv sh' cells' (g ()):=by
    have:=hT
    simp only [if_pos h0] at this;exact this
   have hz:=hn.out m' C' y col' sh' cells' () hT' hp hk;clear hT hT' hn IH hp hk;replace hz:=HD hz;have hx:(a.was != 0)=false:=by simp [h0]
   repeat refine kx ?_
   refine JG.ret ?_;exact JG.leave rfl rfl Try.func12 (fun τ d=>results_tmp (t:=4) rfl _ _ _) hz.out
  ·have hT':TSt Post S num tb rb cb m' C' y y col' Pv sh' cells' (.acc ⟨6,0,2,0⟩ fun _=>(lkP f).bind g):=by
    have:=hT
    simp only [if_neg h0] at this;exact this
   clear hT;have hx:(a.was != 0)=true:=by simp [h0]
   replace hT':=HD hT';replace hp:=HD hp;replace hk:=HD hk
   repeat refine kx ?_
   refine kf (args:=#[P0 (S.A 0),P0 tb,.int .i64 2]) Try.func30 ?_;refine park_T (i:=0) hT'.out hS.1 m0 (Yq.up hs fun C x h=>JG.raise rfl Try.func12 h) fun m2 C2 z col2 sh2 cells2 b hT2 hp2 hk2=>?_;rw [Frame.finish_at]
   try walk_nrm
   clear hT' l0 m0;have hn2:NextC Post S num tb rb cb Pv z (fun _=>.int .i64 0) g c cs:=fun m3 C3 w col3 sh3 cells3 e hT3 hp3 hk3=>hn.out m3 C3 w col3 sh3 cells3 e hT3 (fun r hr=>((hp3 r hr).trans (hp2 r hr)).trans (hp.out r hr)) (fun q hq=>((hk3 q hq).trans (hk2 q hq)).trans (hk.out q hq));clear hn hp hk hp2 hk2;replace hT2:=HD hT2;replace hn2:=HD hn2
   repeat refine kx ?_
   refine JG.goto rfl ?_
   iterate 2 refine kx ?_
   exact IH.out m2 C2 z z col2 sh2 cells2 _ _ _ _ _ _ _ _ _ _ _ _ _ _ _ _ _ _ _ _ _ _ _ _ _ _ _ _ _ _ _ hT2.out hn2.out
theorem lock_T (hS:LatchS S lb) (hs:Yq Post cb c cs) {g:Unit→Xx Sh Unit} {F:Nat} {m:Nat} {C:Ctx} {x0 x:World} {col:Nat→Prop} {sh:Sh} {cells:Nat→Int} (h:TSt Post S num tb rb cb m C x0 x col Pv sh cells ((lockP F).bind g)) (hn:NextC Post S num tb rb cb Pv x (fun _=>.int .i64 0) g c cs) :
 JG Try.prog Post C (G (Frame.enter Try.prog 12 #[P0 lb,P0 tb] .normal) (c::cs)) x:=by
 obtain ⟨l0,m0⟩:=hS.2 h.I;replace h:=HD h;replace hn:=HD hn;refine Xu Try.func12 (by rfl) (by rfl) ?_;simp only [Try.f12,Option.getD_some];walk_nrm
 repeat refine kx ?_
 refine JG.scope ?_
 repeat refine kx ?_
 refine kf (args:=#[P0 (S.A 0),P0 tb,.int .i64 0,.int .i64 1]) Try.func28 ?_;refine cas_T (i:=0) (k:=fun a=>(if a.ok then Xx.ret () else lkP F).bind g) h.out hS.1 m0 (Yq.up hs fun C x h=>JG.raise rfl Try.func12 h) fun m' C' y col' sh' cells' a hT hp hk=>?_;rw [Frame.finish_at]
 try walk_nrm
 clear h l0 m0;cases ha:a.ok with
 | true =>
  have hT':TSt Post S num tb rb cb m' C' y y col' Pv sh' cells' (g ()):=by
   have:=hT
   simp only [ha] at this;exact this
  have hz:=hn.out m' C' y col' sh' cells' () hT' hp hk;clear hT hT' hn hp hk;replace hz:=HD hz
  repeat refine kx ?_
  refine JG.ret ?_;exact JG.leave rfl rfl Try.func12 (fun τ d=>results_tmp (t:=4) rfl _ _ _) hz.out
 | false =>
  have hT':TSt Post S num tb rb cb m' C' y y col' Pv sh' cells' ((lkP F).bind g):=by
   have:=hT
   simp only [ha] at this;exact this
  have hn2:NextC Post S num tb rb cb Pv y (fun _=>.int .i64 0) g c cs:=fun m3 C3 w col3 sh3 cells3 e hT3 hp3 hk3=>hn.out m3 C3 w col3 sh3 cells3 e hT3 (fun r hr=>(hp3 r hr).trans (hp r hr)) (fun q hq=>(hk3 q hq).trans (hk q hq));have HL:=HD (fun u2 u3 u4 u5 u6 u7 u8 u9 B0 B1 B2 B3 B4 B5 B6 B7 B8 B9 D0 D1 D2 D3 D4 D5 D6 D7 D8 D9 E0 E1 E2=>lock_loop hS hs F m' C' y y col' sh' cells' u2 u3 u4 u5 u6 u7 u8 u9 B0 B1 B2 B3 B4 B5 B6 B7 B8 B9 D0 D1 D2 D3 D4 D5 D6 D7 D8 D9 E0 E1 E2 hT' hn2);simp only [Try.f12,Option.getD_some,Code.navS] at HL;clear hT hT' hn hn2 hp hk
  iterate 5 refine kx ?_
  exact HL.out _ _ _ _ _ _ _ _ _ _ _ _ _ _ _ _ _ _ _ _ _ _ _ _ _ _ _ _ _ _ _
theorem try_T (hS:LatchS S lb) (hs:Yq Post cb c cs) {g:Bool→Xx Sh Unit} {m:Nat} {C:Ctx} {x0 x:World} {col:Nat→Prop} {sh:Sh} {cells:Nat→Int} (h:TSt Post S num tb rb cb m C x0 x col Pv sh cells (tryP.bind g)) (hn:NextC Post S num tb rb cb Pv x (fun b=>.bool b) g c cs) :
 JG Try.prog Post C (G (Frame.enter Try.prog 11 #[P0 lb,P0 tb] .normal) (c::cs)) x:=by
 obtain ⟨l0,m0⟩:=hS.2 h.I;replace h:=HD h;replace hn:=HD hn;refine Xu Try.func11 (by rfl) (by rfl) ?_;simp only [Try.f11,Option.getD_some];walk_nrm
 repeat refine kx ?_
 refine kf (args:=#[P0 (S.A 0),P0 tb,.int .i64 0,.int .i64 1]) Try.func28 ?_;refine cas_T (i:=0) (k:=fun a=>g a.ok) h.out hS.1 m0 (Yq.up hs fun C x h=>JG.raise rfl Try.func11 h) fun m' C' y col' sh' cells' a hT hp hk=>?_;rw [Frame.finish_at]
 try walk_nrm
 clear h l0 m0;have hz:=hn.out m' C' y col' sh' cells' a.ok hT hp hk;clear hT hn hp hk;replace hz:=HD hz
 repeat refine kx ?_
 refine JG.ret ?_;exact JG.leave rfl rfl Try.func11 (fun τ d=>results_tmp (t:=4) rfl _ _ _) hz.out
def unV (e:Bool):Value:=.int .i64 (if e then 0 else 11)
theorem unlock_T (hS:LatchS S lb) (hs:Yq Post cb c cs) {g:Bool→Xx Sh Unit} {m:Nat} {C:Ctx} {x0 x:World} {col:Nat→Prop} {sh:Sh} {cells:Nat→Int} (h:TSt Post S num tb rb cb m C x0 x col Pv sh cells (unP.bind g)) (hn:NextC Post S num tb rb cb Pv x unV g c cs) :
 JG Try.prog Post C (G (Frame.enter Try.prog 15 #[P0 lb,P0 tb] .normal) (c::cs)) x:=by
 obtain ⟨l0,m0⟩:=hS.2 h.I;replace h:=HD h;replace hn:=HD hn;refine Xu Try.func15 (by rfl) (by rfl) ?_;simp only [Try.f15,Option.getD_some];walk_nrm
 repeat refine kx ?_
 refine kf (args:=#[P0 (S.A 0),P0 tb,.int .i64 0]) Try.func29 ?_;refine swap_T (i:=0) (k:=fun a=>g (decide (a.was≠0))) h.out hS.1 m0 (Yq.up hs fun C x h=>JG.raise rfl Try.func15 h) fun m' C' y col' sh' cells' a hT hp hk=>?_;rw [Frame.finish_at]
 try walk_nrm
 clear h l0 m0;have hz:=hn.out m' C' y col' sh' cells' _ hT hp hk;clear hT hn hp hk
 by_cases h0:a.was=0
 ·rw [show decide (a.was≠0)=false from by simp [h0]] at hz
  replace hz:=HD hz;have hx:(a.was == 0)=true:=by simp [h0]
  repeat refine kx ?_
  refine JG.ret ?_;exact JG.leave rfl rfl Try.func15 (fun τ d=>results_tmp (t:=4) rfl _ _ _) hz.out
 ·rw [show decide (a.was≠0)=true from by simp [h0]] at hz
  replace hz:=HD hz;have hx:(a.was == 0)=false:=by simp [h0]
  repeat refine kx ?_
  refine JG.ret ?_;exact JG.leave rfl rfl Try.func15 (fun τ d=>results_tmp (t:=4) rfl _ _ _) hz.out
end
structure Aq where
 bt:Nat
 bm:Nat
 kb:Nat
 lb:Nat
 bk:Nat
 cb:Nat
 bc:Nat
 bs:Nat
 be:Nat
 bh:Nat
 bi:Nat→Nat
 n:Nat
 m:Nat
 tries:Int
 o:bt < bm∧bm < kb∧kb < lb∧lb < bk∧bk < cb∧cb < bc∧bc < bs∧bs < be∧be < bh
 i:∀ j,j < n→bh < bi j
namespace Aq
variable (q:Aq)
def rows (sh:ASh):List (Nat × Obj):=[(q.bt,.cells #[.int .u8 q.tries] 5 (0,0)),(q.bm,.cells #[.int .i64 (q.m:Nat)] 3 (0,0)),(q.lb,.cells #[P0 q.kb] 58 (0,0)),(q.bk,.cells #[P0 q.lb] 28 (0,0)),
 (q.bc,.cells #[P0 q.cb] 30 (0,0)),(q.bs,.cells #[.int .i64 sh.inside] 3 (0,0)),(q.be,.cells #[.bool sh.wrong] 4 (0,0)),(q.bh,.cells #[.int .i64 sh.held] 2 (0,0))]
def A (i:Nat):Nat:=if i=0 then q.kb else q.cb
theorem ne_A {sh:ASh}:∀ p∈q.rows sh,∀ i,p.1≠q.A i:=fun p hp i=>by
 have:=q.o
 simp only [rows,List.mem_cons,List.not_mem_nil,or_false] at hp;unfold A;rcases hp with rfl|rfl|rfl|rfl|rfl|rfl|rfl|rfl<;>simp only<;>split<;>omega
def M (sh:ASh) (col:Nat→Prop) (x:World):Prop:=(∀ p∈q.rows sh,x.heap[p.1]? = some p.2∧¬ col p.1)∧∀ j,j < q.n→x.heap[q.bi j]? = some (.cells #[.int .i64 (j:Nat)] 3 (0,0))∧¬ col (q.bi j)
def more_:Xgc ASh q.A 2 where
 M:=q.M
 frame:=fun {sh col x} h col' y hs ho hc=>by
  refine ⟨fun p hp=>?_,fun j hj=>?_⟩
  ·obtain ⟨h1,h2⟩:=h.1 p hp
   have hl:=(GE h1).1;exact ⟨(ho _ hl h2 fun i _=>q.ne_A p hp i).trans h1,fun e=>h2 (hc _ hl e)⟩
  ·obtain ⟨h1,h2⟩:=h.2 j hj
   have hl:=(GE h1).1;have h3:=q.i j hj;have h4:=q.o;exact ⟨(ho _ hl h2 fun i _=>by unfold A;split<;>omega).trans h1,fun e=>h2 (hc _ hl e)⟩
theorem inj:∀ a b,a < 2→b < 2→q.A a=q.A b→a=b:=fun a b ha hb h=>by
 have:=q.o
 unfold A at h
 split at h<;>split at h<;>omega
abbrev side:Zv ASh:=Xed q.A 2 q.inj q.more_ (XV.fuel ASh)
variable {q}
section
variable {sh:ASh} {col:Nat→Prop} {x:World}
theorem M.t (h:q.M sh col x):x.heap[q.bt]? = some (.cells #[.int .u8 q.tries] 5 (0,0)):=(h.1 (q.bt,_) (by simp [rows])).1
theorem M.m (h:q.M sh col x):x.heap[q.bm]? = some (.cells #[.int .i64 (q.m:Nat)] 3 (0,0)):=(h.1 (q.bm,_) (by simp [rows])).1
theorem M.l (h:q.M sh col x):x.heap[q.lb]? = some (.cells #[P0 q.kb] 58 (0,0)):=(h.1 (q.lb,_) (by simp [rows])).1
theorem M.k (h:q.M sh col x):x.heap[q.bk]? = some (.cells #[P0 q.lb] 28 (0,0)):=(h.1 (q.bk,_) (by simp [rows])).1
theorem M.c (h:q.M sh col x):x.heap[q.bc]? = some (.cells #[P0 q.cb] 30 (0,0)):=(h.1 (q.bc,_) (by simp [rows])).1
theorem M.s (h:q.M sh col x):x.heap[q.bs]? = some (.cells #[.int .i64 sh.inside] 3 (0,0))∧¬ col q.bs:=h.1 (q.bs,_) (by simp [rows])
theorem M.e (h:q.M sh col x):x.heap[q.be]? = some (.cells #[.bool sh.wrong] 4 (0,0))∧¬ col q.be:=h.1 (q.be,_) (by simp [rows])
theorem M.h (h:q.M sh col x):x.heap[q.bh]? = some (.cells #[.int .i64 sh.held] 2 (0,0))∧¬ col q.bh:=h.1 (q.bh,_) (by simp [rows])
theorem M.mk (ht:x.heap[q.bt]? = some (.cells #[.int .u8 q.tries] 5 (0,0))) (hm:x.heap[q.bm]? = some (.cells #[.int .i64 (q.m:Nat)] 3 (0,0))) (hl:x.heap[q.lb]? = some (.cells #[P0 q.kb] 58 (0,0))) (hk:x.heap[q.bk]? = some (.cells #[P0 q.lb] 28 (0,0))) (hc:x.heap[q.bc]? = some (.cells #[P0 q.cb] 30 (0,0)))
 (hs:x.heap[q.bs]? = some (.cells #[.int .i64 sh.inside] 3 (0,0))) (he:x.heap[q.be]? = some (.cells #[.bool sh.wrong] 4 (0,0))) (hh:x.heap[q.bh]? = some (.cells #[.int .i64 sh.held] 2 (0,0))) (hf:∀ p∈q.rows sh,¬ col p.1) (hi:∀ j,j < q.n→x.heap[q.bi j]? = some (.cells #[.int .i64 (j:Nat)] 3 (0,0))∧¬ col (q.bi j)):q.M sh col x:=⟨fun p hp=>by
 refine ⟨?_,hf p hp⟩;simp only [rows,List.mem_cons,List.not_mem_nil,or_false] at hp;rcases hp with rfl|rfl|rfl|rfl|rfl|rfl|rfl|rfl<;>assumption,hi⟩
theorem free_of {sh sh':ASh} (h:∀ p∈q.rows sh,¬ col p.1):∀ p∈q.rows sh',¬ col p.1:=fun p hp=>by
 have h1:p.1∈(q.rows sh').map Prod.fst:=List.mem_map_of_mem hp;rw [show (q.rows sh').map Prod.fst=(q.rows sh).map Prod.fst from rfl] at h1;obtain ⟨p',hp',e⟩:=List.mem_map.1 h1;rw [← e];exact h p' hp'
theorem M.setS (h:q.M sh col x) (v:Int):q.M ⟨v,sh.wrong,sh.held⟩ col (x.setCell (th q.bs 0) (.int .i64 v)):=by
 have:=q.o
 exact .mk ((Xb (by omega)).trans h.t) ((Xb (by omega)).trans h.m) ((Xb (by omega)).trans h.l) ((Xb (by omega)).trans h.k) ((Xb (by omega)).trans h.c) (by rw [Xd h.s.1];rfl) ((Xb (by omega)).trans h.e.1) ((Xb (by omega)).trans h.h.1) (free_of fun p hp=>(h.1 p hp).2) fun j hj=>⟨(Xb (by have:=q.i j hj;omega)).trans (h.2 j hj).1,(h.2 j hj).2⟩
theorem M.setE (h:q.M sh col x) (v:Bool):q.M ⟨sh.inside,v,sh.held⟩ col (x.setCell (th q.be 0) (.bool v)):=by
 have:=q.o
 exact .mk ((Xb (by omega)).trans h.t) ((Xb (by omega)).trans h.m) ((Xb (by omega)).trans h.l) ((Xb (by omega)).trans h.k) ((Xb (by omega)).trans h.c) ((Xb (by omega)).trans h.s.1) (by rw [Xd h.e.1];rfl) ((Xb (by omega)).trans h.h.1) (free_of fun p hp=>(h.1 p hp).2) fun j hj=>⟨(Xb (by have:=q.i j hj;omega)).trans (h.2 j hj).1,(h.2 j hj).2⟩
theorem M.setH (h:q.M sh col x) (v:Int):q.M ⟨sh.inside,sh.wrong,v⟩ col (x.setCell (th q.bh 0) (.int .i64 v)):=by
 have:=q.o
 exact .mk ((Xb (by omega)).trans h.t) ((Xb (by omega)).trans h.m) ((Xb (by omega)).trans h.l) ((Xb (by omega)).trans h.k) ((Xb (by omega)).trans h.c) ((Xb (by omega)).trans h.s.1) ((Xb (by omega)).trans h.e.1) (by rw [Xd h.h.1];rfl) (free_of fun p hp=>(h.1 p hp).2) fun j hj=>⟨(Xb (by have:=q.i j hj;omega)).trans (h.2 j hj).1,(h.2 j hj).2⟩
end
theorem lockS:LatchS q.side q.lb:=⟨show 0 < 2 from Nat.zero_lt_two,fun h=>⟨Xa (M.l h.2) 0,(h.1 0 (show 0 < 2 from Nat.zero_lt_two)).1.c1⟩⟩
theorem keep_no:∀ i a,¬ q.side.keep i a:=fun _ _ h=>h
theorem I_set {sh sh':ASh} {cells:Nat→Int} {col:Nat→Prop} {x:World} {b:Nat} {v:Value} (h:q.side.I sh cells col x) (hb:∀ i,b≠q.A i) (hM:q.M sh' col (x.setCell (th b 0) v)):q.side.I sh' cells col (x.setCell (th b 0) v) :=
 ⟨fun i hi=>⟨(Xb (show q.A i≠b from fun e=>hb i e.symm)).trans (h.1 i hi).1,(h.1 i hi).2⟩,hM⟩
