/- Threads that go through a barrier again and again: what every run comes to. No program in sight. -/
import Derived.Test.YtdgfekplfipekaaVLpB
import Derived.Test.YtdgfekplfipekaaVLbB
set_option linter.all false
set_option maxRecDepth 100000
set_option maxHeartbeats 16000000
namespace Go.Proofs.Ytdgfekplfipekaa
open Go.Conc Go.RowKit
open Go.ConcN (upd upd_same upd_ne)
set_option maxRecDepth 100000
theorem JG.goto {P:Program} {Post:Value→World→Prop} {C:Ctx} {x:World} {b:Frame} {a:Act} {k k':List Item} {cs:List Frame} {l:Nat} (he:gotoIn l k=some k') (h:JG P Post C (G (b.at a k') cs) x):JG P Post C (G (b.at a (.code (.goto l)::k)) cs) x:=.ctl rfl (fun _ _=>by simp [G,stepG,stepG.exec,Frame.at,he]) h
section
variable {Sh:Type} {Post:Value→World→Prop} {S:Zv Sh} {num tb rb:Nat} {cb:Frame} {Pv:Nat→Prop} {c:Frame} {cs:List Frame} {lb:Nat}
def NextC {α:Type} (Post:Value→World→Prop) (S:Zv Sh) (num tb rb:Nat) (cb:Frame) (Pv:Nat→Prop) (x:World) (f:α→Value) (g:α→Xx Sh Unit) (c:Frame) (cs:List Frame):Prop :=
 ∀ (m':Nat) (C':Ctx) (y:World) (col':Nat→Prop) (sh':Sh) (cells':Nat→Int) (a:α),TSt Post S num tb rb cb m' C' y y col' Pv sh' cells' (g a)→(∀ r,Pv r→y.heap[r]? = x.heap[r]?)→(∀ b,S.keep num b→y.cell? b=x.cell? b)→JG Try.prog Post C' (G (c.finish (f a)) cs) y
end
section
variable {Sh:Type} {Post:Value→World→Prop} {S:Zv Sh} {num tb rb m:Nat} {cb:Frame} {C:Ctx} {x0 x y:World} {col Pv:Nat→Prop} {sh:Sh} {cells:Nat→Int}
theorem TSt.begin {p:Xx Sh Unit} (hd:C.d=0) (hL:Qn x tb rb) (hct:col tb) (hcb:∀ r,col r→r < x.heap.size) (hI:S.I sh cells col x) (R:Reach Post S num tb cb (fun Pv y=>XR Post S num tb rb cb m Pv y QG) C col cells x (p.pass sh).1 (p.pass sh).2):TSt Post S num tb rb cb m C x x col none_ sh cells p :=
 ⟨hd,hL,hct,hcb,fun r hr=>hr.elim,by rw [VN];exact hI,Nat.le_refl _,fun _ _=>rfl,fun _ _ _ _=>rfl,fun i a h=>(S.keepI hI i a h).1,R⟩
theorem TSt.did {f:Sh→Sh} {k:Sh→Xx Sh Unit} (h:TSt Post S num tb rb cb m C x0 x col none_ sh cells (.act f k)) (hs:y.heap.size=x.heap.size) (hy:∀ r,col r→y.heap[r]? = x.heap[r]?) (hI:S.I (f sh) cells col y) (hk:∀ i a,¬ S.keep i a):TSt Post S num tb rb cb m C x0 y col none_ (f sh) cells (k sh) :=
 ⟨h.d,⟨(World.cell?_of_block (hy tb h.mine)).trans h.lives.1,(World.cell?_of_block (hy tb h.mine)).trans h.lives.2.1,h.lives.2.2⟩,h.mine,fun r hr=>by rw [hs];exact h.lt r hr,fun r hr=>hr.elim,by rw [VN];exact hI,by rw [hs];exact h.size,fun r hr=>(hy r hr).trans (h.old r hr),fun i a _ h2=>(hk i a h2).elim,fun i a h1=>(hk i a h1).elim,h.reach⟩
theorem TSt.I0 {p:Xx Sh Unit} (h:TSt Post S num tb rb cb m C x0 x col none_ sh cells p):S.I sh cells col x:=by have:=h.I;rw [VN] at this;exact this
theorem TSt.fin (h:TSt Post S num tb rb cb m C x0 x col Pv sh cells (.ret ())):∀ v,JG Try.prog Post C (G (cb.finish v) [YX Try.prog]) x:=h.reach x Pv h.size h.old h.pv h.I h.keep
theorem Yq.body {c:Frame} (h1:∀ (C:Ctx) (x:World),JG Try.prog Post C (G (cb.raise [{ v:=YI,recovered:=false }]) [YX Try.prog]) x→JG Try.prog Post C (G (c.raise [{ v:=YI,recovered:=false }]) [cb,YX Try.prog]) x):Yq Post cb c [cb,YX Try.prog]:=fun C x hb=>h1 C x (hb x (Nat.le_refl _) fun _ _=>rfl)
end
structure Lq where
 bm:Nat
 ba:Nat
 bo:Nat
 cb:Nat
 lb:Nat
 bl:Nat
 bd:Nat
 be:Nat
 bw:Nat
 m:Nat
 all:Nat
 more:Nat
 o:bm < ba∧ba < bo∧bo < cb∧cb < lb∧lb < bl∧bl < bd∧bd < be∧be < bw
namespace Lq
variable (q:Lq)
def rows (sh:OSh):List (Nat × Obj):=[(q.bm,.cells #[.int .i64 (q.m:Nat)] 3 (0,0)),(q.ba,.cells #[.int .i64 (q.all:Nat)] 2 (0,0)),(q.bo,.cells #[.int .i64 (q.more:Nat)] 2 (0,0)),(q.lb,.cells #[P0 q.cb] 98 (0,0)),
 (q.bl,.cells #[P0 q.lb] 52 (0,0)),(q.bd,.cells #[.int .i64 sh.down] 2 (0,0)),(q.be,.cells #[.bool sh.early] 4 (0,0)),(q.bw,.cells #[.int .i64 sh.waits] 3 (0,0))]
theorem ne_cb {sh:OSh}:∀ p∈q.rows sh,p.1≠q.cb:=fun p hp=>by
 have:=q.o
 simp only [rows,List.mem_cons,List.not_mem_nil,or_false] at hp;rcases hp with rfl|rfl|rfl|rfl|rfl|rfl|rfl|rfl<;>simp only<;>omega
def M (sh:OSh) (col:Nat→Prop) (x:World):Prop:=∀ p∈q.rows sh,x.heap[p.1]? = some p.2∧¬ col p.1
def more_:Xgc OSh (fun _=>q.cb) 1 where
 M:=q.M
 frame:=fun {sh col x} h col' y hs ho hc p hp=>by
  obtain ⟨h1,h2⟩:=h p hp;have hl:=(GE h1).1;exact ⟨(ho _ hl h2 fun _ _=>q.ne_cb p hp).trans h1,fun e=>h2 (hc _ hl e)⟩
abbrev side:Zv OSh:=Xed (fun _=>q.cb) 1 (fun a b ha hb _=>by omega) q.more_ (XV.fuel OSh)
variable {q}
section
variable {sh:OSh} {col:Nat→Prop} {x:World}
theorem M.m (h:q.M sh col x):x.heap[q.bm]? = some (.cells #[.int .i64 (q.m:Nat)] 3 (0,0)):=(h (q.bm,_) (by simp [rows])).1
theorem M.a (h:q.M sh col x):x.heap[q.ba]? = some (.cells #[.int .i64 (q.all:Nat)] 2 (0,0)):=(h (q.ba,_) (by simp [rows])).1
theorem M.o (h:q.M sh col x):x.heap[q.bo]? = some (.cells #[.int .i64 (q.more:Nat)] 2 (0,0)):=(h (q.bo,_) (by simp [rows])).1
theorem M.lb (h:q.M sh col x):x.heap[q.lb]? = some (.cells #[P0 q.cb] 98 (0,0)):=(h (q.lb,_) (by simp [rows])).1
theorem M.l (h:q.M sh col x):x.heap[q.bl]? = some (.cells #[P0 q.lb] 52 (0,0)):=(h (q.bl,_) (by simp [rows])).1
theorem M.d (h:q.M sh col x):x.heap[q.bd]? = some (.cells #[.int .i64 sh.down] 2 (0,0))∧¬ col q.bd:=h (q.bd,_) (by simp [rows])
theorem M.e (h:q.M sh col x):x.heap[q.be]? = some (.cells #[.bool sh.early] 4 (0,0))∧¬ col q.be:=h (q.be,_) (by simp [rows])
theorem M.w (h:q.M sh col x):x.heap[q.bw]? = some (.cells #[.int .i64 sh.waits] 3 (0,0))∧¬ col q.bw:=h (q.bw,_) (by simp [rows])
theorem M.mk (hm:x.heap[q.bm]? = some (.cells #[.int .i64 (q.m:Nat)] 3 (0,0))) (ha:x.heap[q.ba]? = some (.cells #[.int .i64 (q.all:Nat)] 2 (0,0))) (ho:x.heap[q.bo]? = some (.cells #[.int .i64 (q.more:Nat)] 2 (0,0))) (hlb:x.heap[q.lb]? = some (.cells #[P0 q.cb] 98 (0,0))) (hl:x.heap[q.bl]? = some (.cells #[P0 q.lb] 52 (0,0)))
 (hd:x.heap[q.bd]? = some (.cells #[.int .i64 sh.down] 2 (0,0))) (he:x.heap[q.be]? = some (.cells #[.bool sh.early] 4 (0,0))) (hw:x.heap[q.bw]? = some (.cells #[.int .i64 sh.waits] 3 (0,0))) (hc:∀ p∈q.rows sh,¬ col p.1):q.M sh col x:=fun p hp=>by
 refine ⟨?_,hc p hp⟩;simp only [rows,List.mem_cons,List.not_mem_nil,or_false] at hp;rcases hp with rfl|rfl|rfl|rfl|rfl|rfl|rfl|rfl<;>assumption
theorem free_of {sh sh':OSh} (h:∀ p∈q.rows sh,¬ col p.1):∀ p∈q.rows sh',¬ col p.1:=fun p hp=>by
 have h1:p.1∈(q.rows sh').map Prod.fst:=List.mem_map_of_mem hp;rw [show (q.rows sh').map Prod.fst=(q.rows sh).map Prod.fst from rfl] at h1;obtain ⟨p',hp',e⟩:=List.mem_map.1 h1;rw [← e];exact h p' hp'
theorem M.setE (h:q.M sh col x) (e:Bool):q.M ⟨e,sh.down,sh.waits⟩ col (x.setCell (th q.be 0) (.bool e)):=by
 have:=q.o
 exact .mk ((Xb (by omega)).trans h.m) ((Xb (by omega)).trans h.a) ((Xb (by omega)).trans h.o) ((Xb (by omega)).trans h.lb) ((Xb (by omega)).trans h.l) ((Xb (by omega)).trans h.d.1) (by rw [Xd h.e.1];rfl) ((Xb (by omega)).trans h.w.1) (free_of fun p hp=>(h p hp).2)
end
theorem keep_no:∀ i a,¬ q.side.keep i a:=fun _ _ h=>h
theorem I_set {sh sh':OSh} {cells:Nat→Int} {col:Nat→Prop} {x:World} {b:Nat} {v:Value} (h:q.side.I sh cells col x) (hb:b≠q.cb) (hM:q.M sh' col (x.setCell (th b 0) v)):q.side.I sh' cells col (x.setCell (th b 0) v) :=
 ⟨fun i hi=>⟨(Xb (show q.cb≠b from fun e=>hb e.symm)).trans (h.1 i hi).1,(h.1 i hi).2⟩,hM⟩
end Lq
structure RSh where
 come:Nat→Int
 last:Nat→Int
 wrong:Bool
def arrP {Sh:Type} (B:Int):Xx Sh (Int × Bool):=.acc ⟨1,0,0,0⟩ fun a=>.acc ⟨4,1,1,0⟩ fun b=>if b.now=B then .acc ⟨2,1,0,0⟩ fun _=>.acc ⟨4,0,1,0⟩ fun _=>.ret (a.was,true) else .acc ⟨6,0,a.was,0⟩ fun _=>.ret (a.was,false)
def gR (N k:Nat) (rest:Xx RSh Unit) (e:Int × Bool):Xx RSh Unit:=.act (fun s=>⟨s.come,if e.2 then upd s.last k (wrap64 (s.last k + 1)) else s.last,s.wrong || decide (e.1≠(k:Nat)) || decide (s.come k≠(N:Nat))⟩) fun _=>rest
def rnds (B:Int) (N:Nat):Nat→Nat→Xx RSh Unit
 | 0,_=>.ret ()
 | q + 1,k=>.act (fun s=>⟨upd s.come k (wrap64 (s.come k + 1)),s.last,s.wrong⟩) fun _=>(arrP B).bind (gR N k (rnds B N q (k + 1)))
inductive PhR where
 | A (k:Nat)
 | B (k:Nat)
 | P (k:Nat)
 | S (k:Nat)
 | T (k:Nat)
 | E
namespace PhR
def prog (B:Int) (N m:Nat):PhR→Xx RSh Unit
 | .A k=>(arrP B).bind (gR N k (rnds B N (m - (k + 1)) (k + 1)))
 | .B k=>.acc ⟨4,1,1,0⟩ fun b=>(if b.now=B then Xx.acc ⟨2,1,0,0⟩ fun _=>.acc ⟨4,0,1,0⟩ fun _=>.ret (((k:Nat):Int),true) else .acc ⟨6,0,(k:Nat),0⟩ fun _=>.ret (((k:Nat):Int),false):Xx RSh (Int × Bool)).bind (gR N k (rnds B N (m - (k + 1)) (k + 1)))
 | .P k=>.acc ⟨6,0,(k:Nat),0⟩ fun _=>gR N k (rnds B N (m - (k + 1)) (k + 1)) ((k:Nat),false)
 | .S k=>.acc ⟨2,1,0,0⟩ fun _=>.acc ⟨4,0,1,0⟩ fun _=>gR N k (rnds B N (m - (k + 1)) (k + 1)) ((k:Nat),true)
 | .T k=>.acc ⟨4,0,1,0⟩ fun _=>gR N k (rnds B N (m - (k + 1)) (k + 1)) ((k:Nat),true)
 | .E=>.ret ()
def nxt (m k:Nat):PhR:=if k + 1 < m then .A (k + 1) else .E
def okR (m R:Nat):PhR→Prop
 | .A k | .B k | .S k | .T k=>k=R∧k < m
 | .P k=>(k=R∨k + 1=R)∧k < m
 | .E=>R=m
def wt (R:Nat):PhR→Nat
 | .P k=>if k=R then 1 else 0
 | _=>0
def st:PhR→Nat
 | .S _ | .T _=>1
 | _=>0
def tt:PhR→Nat
 | .T _=>1
 | _=>0
def beg (j:Nat):PhR→Nat
 | .A k | .B k | .P k | .S k | .T k=>if j≤k then 1 else 0
 | .E=>1
def pot (m:Nat):PhR→Nat
 | .A k=>4 * (m - k)
 | .B k=>4 * (m - k) - 1
 | .P k | .S k=>4 * (m - k) - 2
 | .T k=>4 * (m - k) - 3
 | .E=>0
theorem wt_st (R:Nat) (p:PhR):p.wt R + p.st≤1:=by
 cases p<;>simp only [wt,st]<;>(try split)<;>omega
theorem beg_le (j:Nat) (p:PhR):p.beg j≤1:=by
 cases p<;>simp only [beg]<;>(try split)<;>omega
theorem tt_st (p:PhR):p.tt≤p.st:=by
 cases p<;>simp only [tt,st]<;>omega
end PhR
theorem sumTo_add {f g:Nat→Nat}:∀ {n:Nat},sumTo (fun i=>f i + g i) n=sumTo f n + sumTo g n
 | 0=>rfl
 | n + 1=>by simp only [sumTo];rw [sumTo_add (n:=n)];omega
theorem sumTo_ones {f:Nat→Nat}:∀ {n:Nat},(∀ i,i < n→f i≤1)→sumTo f n≤n
 | 0,_=>Nat.le_refl _
 | n + 1,h=>by simp only [sumTo];have:=sumTo_ones (n:=n) fun i hi=>h i (by omega);have:=h n (by omega);omega
theorem sumTo_miss {f:Nat→Nat} {q:Nat}:∀ {n:Nat},(∀ i,i < n→f i≤1)→q < n→f q=0→sumTo f n + 1≤n
 | 0,_,h,_=>absurd h (by omega)
 | n + 1,h,hq,h0=>by
  simp only [sumTo]
  by_cases e:q=n
  ·subst e;have:=sumTo_ones (f:=f) (n:=q) fun i hi=>h i (by omega);omega
  ·have:=sumTo_miss (n:=n) (fun i hi=>h i (by omega)) (show q < n by omega) h0;have:=h n (by omega);omega
theorem sumTo_full {f:Nat→Nat} {q:Nat}:∀ {n:Nat},(∀ i,i < n→f i≤1)→q < n→f q=0→sumTo f n + 1=n→∀ i,i < n→i≠q→f i=1
 | 0,_,h,_,_=>absurd h (by omega)
 | n + 1,h,hq,h0,hs=>fun i hi hne=>by
  simp only [sumTo] at hs
  by_cases e:q=n
  ·subst e
   rcases Nat.lt_or_ge (f i) 1 with l|l
   ·have:=sumTo_miss (f:=f) (n:=q) (q:=i) (fun i hi=>h i (by omega)) (by omega) (by omega);omega
   ·have:=h i hi;omega
  ·have a:=sumTo_miss (f:=f) (n:=n) (q:=q) (fun i hi=>h i (by omega)) (by omega) h0
   have b:=h n (by omega)
   by_cases e2:i=n
   ·subst e2;omega
   ·exact sumTo_full (n:=n) (fun i hi=>h i (by omega)) (show q < n by omega) h0 (by omega) i (by omega) hne
theorem sumTo_allone {f:Nat→Nat}:∀ {n:Nat},(∀ i,i < n→f i=1)→sumTo f n=n
 | 0,_=>rfl
 | n + 1,h=>by simp only [sumTo];rw [sumTo_allone fun i hi=>h i (by omega),h n (by omega)]
theorem updR_all {P:Nat→PhR→Prop} {ph:Nat→PhR} {q N:Nat} {p:PhR} (h:∀ i,i < N→i≠q→P i (ph i)) (hq:P q p):∀ i,i < N→P i (upd ph q p i):=fun i hi=>by
 by_cases e:i=q
 ·subst e;rw [upd_same];exact hq
 ·rw [upd_ne _ _ e];exact h i hi e
theorem gR_pass {B:Int} {N m k:Nat} {s:RSh} {is:Bool} (hc:s.come k=(N:Nat)) (hw:s.wrong=false) :
 (gR N k (rnds B N (m - (k + 1)) (k + 1)) ((k:Nat),is)).pass s=(⟨if k + 1 < m then upd s.come (k + 1) (wrap64 (s.come (k + 1) + 1)) else s.come,if is then upd s.last k (wrap64 (s.last k + 1)) else s.last,false⟩,(PhR.nxt m k).prog B N m):=by
 show (rnds B N (m - (k + 1)) (k + 1)).pass ⟨s.come,if is then upd s.last k (wrap64 (s.last k + 1)) else s.last,s.wrong || decide (((k:Nat):Int)≠(k:Nat)) || decide (s.come k≠(N:Nat))⟩=_;rw [hw,hc,decide_eq_false (by simp),decide_eq_false (by simp)];generalize (if is=true then upd s.last k (wrap64 (s.last k + 1)) else s.last)=l
 by_cases h:k + 1 < m
 ·obtain ⟨j,hj⟩:∃ j,m - (k + 1)=j + 1:=⟨m - (k + 1) - 1,by omega⟩
  rw [hj,if_pos h];unfold PhR.nxt;rw [if_pos h];show (_,(arrP B).bind (gR N (k + 1) (rnds B N j (k + 1 + 1))))=(_,(arrP B).bind (gR N (k + 1) (rnds B N (m - (k + 1 + 1)) (k + 1 + 1))));rw [show m - (k + 1 + 1)=j by omega]
  rfl
 ·rw [show m - (k + 1)=0 by omega,if_neg h]
  unfold PhR.nxt;rw [if_neg h]
  rfl
theorem rA_next {B:Int} {N m k:Nat}:∃ kk,(PhR.A k).prog B N m=.acc ⟨1,0,0,0⟩ kk∧∀ (a:Told) (s:RSh),a.was=(k:Nat)→(kk a).pass s=(s,(PhR.B k).prog B N m):=by
 refine ⟨_,rfl,fun a s h=>?_⟩;show (s,Xx.acc ⟨4,1,1,0⟩ fun b=>(if b.now=B then Xx.acc ⟨2,1,0,0⟩ fun _=>.acc ⟨4,0,1,0⟩ fun _=>.ret (a.was,true) else .acc ⟨6,0,a.was,0⟩ fun _=>.ret (a.was,false):Xx RSh (Int × Bool)).bind (gR N k (rnds B N (m - (k + 1)) (k + 1))))=_;rw [h]
 rfl
theorem rB_next {B:Int} {N m k:Nat}:∃ kk,(PhR.B k).prog B N m=.acc ⟨4,1,1,0⟩ kk∧(∀ (a:Told) (s:RSh),a.now=B→(kk a).pass s=(s,(PhR.S k).prog B N m))∧∀ (a:Told) (s:RSh),a.now≠B→(kk a).pass s=(s,(PhR.P k).prog B N m):=by
 refine ⟨_,rfl,fun a s h=>?_,fun a s h=>?_⟩
 ·show (Xx.bind _ (if a.now=B then _ else _)).pass s=_
  rw [if_pos h];rfl
 ·show (Xx.bind _ (if a.now=B then _ else _)).pass s=_
  rw [if_neg h];rfl
theorem rS_next {B:Int} {N m k:Nat}:∃ kk,(PhR.S k).prog B N m=.acc ⟨2,1,0,0⟩ kk∧∀ (a:Told) (s:RSh),(kk a).pass s=(s,(PhR.T k).prog B N m):=⟨_,rfl,fun a s=>rfl⟩
