/- LatchRounds' body under J: its parts. -/
import Derived.Test.YtdgfekplfipekaaVLrD
import Derived.Test.YtdgfekplfipekaaVLrA
import Derived.Test.YtdgfekplfipekaaVQu
set_option linter.all false
set_option maxRecDepth 100000
set_option maxHeartbeats 16000000
namespace Go.Proofs.Ytdgfekplfipekaa
open Go.Conc Go.RowKit
open Go.ConcN (upd upd_same upd_ne)
theorem RInv.atEnd {B N m R:Nat} {ph:Nat→PhR} {P:Xp RSh} (h:RInv B N m R ph P) (he:P.over=true∨P.able = []):∀ i,i < N→ph i=.E∨ph i=.P R:=by
 have key:∀ i,i < N→P.can i=false:=fun i hi=>by
  have hin:i∈List.range P.n:=List.mem_range.2 (by rw [h.n];exact hi);rcases he with he|he
  ·have:=List.all_eq_true.1 he i hin
   unfold Xp.can;cases hp:P.progs i with
   | acc r k=>rw [hp] at this;cases this
   | _=>rfl
  ·cases hc:P.can i with
   | false=>rfl
   | true =>
    have:i∈P.able:=List.mem_filter.2 ⟨hin,hc⟩
    rw [he] at this;cases this
 have can:∀ i r k,i < N→P.progs i=.acc r k→r.op=6∧P.st.cells r.cell=r.arg:=fun i r k hi hp=>by
  have:=key i hi
  unfold Xp.can at this;rw [hp] at this;simpa [Xx.req] using this
 intro i hi;have hpr:=h.pr i hi;cases hph:ph i with
 | E=>exact .inl rfl
 | A k=>rw [hph] at hpr;obtain ⟨kk,e1,_⟩:=rA_next (B:=(B:Nat)) (N:=N) (m:=m) (k:=k);exact absurd (can i _ _ hi (hpr.trans e1)).1 (by decide)
 | B k=>rw [hph] at hpr;obtain ⟨kk,e1,_⟩:=rB_next (B:=(B:Nat)) (N:=N) (m:=m) (k:=k);exact absurd (can i _ _ hi (hpr.trans e1)).1 (by decide)
 | S k=>rw [hph] at hpr;exact absurd (can i _ _ hi hpr).1 (by decide)
 | T k=>rw [hph] at hpr;exact absurd (can i _ _ hi hpr).1 (by decide)
 | P k =>
  rw [hph] at hpr;have h1:=(can i _ _ hi hpr).2;rw [h.rnd] at h1
  have:R=k:=by have h2:((R:Nat):Int)=(k:Nat):=h1;omega
  rw [this];exact .inr rfl
theorem lr_start {m:Nat} {B:Int} {N:Nat}:∀ i,i < 1000→∃ pr s,(Xp.init (⟨fun _=>0,fun _=>0,false⟩:RSh) fun _=>0).start (List.replicate i (rnds B N (m + 1) 0))=⟨i,pr,⟨s,fun _=>0,[],[],[],[]⟩⟩∧(s.come 0=(i:Nat)∧(∀ k,k≠0→s.come k=0)∧(∀ k,s.last k=0)∧s.wrong=false)∧∀ j,j < i→pr j=(PhR.A 0).prog B N (m + 1)
 | 0,_=>⟨_,_,rfl,⟨rfl,fun _ _=>rfl,fun _=>rfl,rfl⟩,fun j hj=>absurd hj (by omega)⟩
 | i + 1,hi=>by
  obtain ⟨pr,s,h1,⟨c1,c2,c3,c4⟩,h2⟩:=lr_start (m:=m) (B:=B) (N:=N) i (by omega);refine ⟨upd pr i ((PhR.A 0).prog B N (m + 1)),⟨upd s.come 0 (wrap64 (s.come 0 + 1)),s.last,s.wrong⟩,?_,⟨?_,fun k hk=>?_,c3,c4⟩,fun j hj=>?_⟩
  ·rw [List.replicate_succ',Xp.start_append,h1]
   rfl
  ·show upd s.come 0 (wrap64 (s.come 0 + 1)) 0=_
   rw [upd_same,c1,wrap_small (by omega) (by omega)];rfl
  ·show upd s.come 0 (wrap64 (s.come 0 + 1)) k=_
   rw [upd_ne _ _ hk];exact c2 k hk
  ·by_cases e:j=i
   ·subst e;rw [upd_same]
   ·rw [upd_ne _ _ e];exact h2 j (by omega)
theorem sumTo_const' {c:Nat}:∀ n,sumTo (fun _=>c) n=n * c
 | 0=>by simp [sumTo]
 | n + 1=>by simp only [sumTo,sumTo_const' n,Nat.succ_mul]
theorem some_all {α:Type} {f:Nat→Option α}:∀ {n:Nat},(∀ j,j < n→∃ a,f j=some a)→((List.range n).filterMap f).length=n
 | 0,_=>rfl
 | n + 1,h=>by
  rw [List.range_succ,List.filterMap_append];obtain ⟨a,ha⟩:=h n (by omega);simp only [List.filterMap_cons,List.filterMap_nil,ha,List.length_append,List.length_cons,List.length_nil];rw [some_all fun j hj=>h j (by omega)]
theorem latch_rounds {n m B:Nat} (h1:1≤n) (hn:n≤6) (hm:m + 1≤8) (hB:B=n∨B=n + 1) (picks:List Int) {e:Int} {Q:Xp RSh}
 (hQ:((Xp.init (⟨fun _=>0,fun _=>0,false⟩:RSh) fun _=>0).start (List.replicate n (rnds (B:Nat) n (m + 1) 0))).runs (picked picks) 16384=(e,Q)) :
 Q.st.sh.wrong=false∧(B=n→e=1∧∀ k,k < m + 1→Q.st.sh.last k=1)∧(B=n + 1→e=3∧Q.left.length=n∧Q.st.sh.come 0=(n:Nat)∧Q.st.sh.last 0=0):=by
 obtain ⟨pr,s,e1,⟨c1,c2,c3,c4⟩,e2⟩:=lr_start (m:=m) (B:=(B:Nat)) (N:=n) n (by omega);have hmu:muR n (m + 1) (fun _=>.A 0)≤16384:=by
  unfold muR;show sumTo (fun _=>4 * (m + 1 - 0)) n≤_;rw [sumTo_const'];have h2:n * (4 * (m + 1 - 0))≤6 * 32:=Nat.mul_le_mul hn (by omega)
  omega
 have z1:sumTo (fun _=>(PhR.A 0).wt 0) n=0:=sumTo_zero fun _ _=>rfl;have z2:sumTo (fun _=>(PhR.A 0).st) n=0:=sumTo_zero fun _ _=>rfl;have z3:sumTo (fun _=>(PhR.A 0).tt) n=0:=sumTo_zero fun _ _=>rfl;have i1:RInv B n (m + 1) 0 (fun _=>.A 0) ⟨n,pr,⟨s,fun _=>0,[],[],[],[]⟩⟩ :=
  ⟨rfl,e2,rfl,by omega,fun _ _=>⟨rfl,by omega⟩,by rw [z1,z2,z3];rfl,fun e=>absurd z2 e,fun _=>by rw [z1];omega,fun k hk=>by
   show s.come k=_;rw [sumTo_const']
   by_cases e:k=0
   ·subst e;rw [c1];simp [PhR.beg]
   ·rw [c2 k e];simp only [PhR.beg];rw [if_neg (by omega)];simp,fun k _=>by show s.last k=_;rw [c3,if_neg (by omega)];rfl,c4,fun _=>rfl⟩
 rw [e1] at hQ;obtain ⟨R,ph,h,hend⟩:=RInv.run (by omega) (by omega) (by omega) (picks_any picks) 16384 _ _ _ i1 hmu;rw [hQ] at h hend;have hst:=h.atEnd (by rcases hend with h|h;exact .inl h.2;exact .inr h.2.2);have hE:∀ i,i < n→ph i=.E→R=m + 1:=fun i hi e=>by have:=h.ok i hi;rw [e] at this;exact this
 have hP:∀ i,i < n→ph i=.P R→R < m + 1:=fun i hi e=>by have:=h.ok i hi;rw [e] at this;exact this.2
 refine ⟨h.wrong,fun hb=>?_,fun hb=>?_⟩
 ·have hno:∀ i,i < n→ph i=.E:=fun i hi=>by
   rcases hst i hi with e|e
   ·exact e
   ·exfalso
    have hR:=hP i hi e;have hall:∀ j,j < n→ph j=.P R:=fun j hj=>by
     rcases hst j hj with e'|e'
     ·have:=hE j hj e';omega
     ·exact e'
    have y1:sumTo (fun i=>(ph i).wt R) n=n:=sumTo_allone fun j hj=>by rw [hall j hj];exact if_pos rfl
    have y2:sumTo (fun i=>(ph i).st) n=0:=sumTo_zero fun j hj=>by rw [hall j hj];rfl
    have:=h.less y2
    omega
  have hR:=hE 0 (by omega) (hno 0 (by omega));have hov:Q.over=true:=List.all_eq_true.2 fun i hi=>by
   have hi:=List.mem_range.1 hi;rw [h.n] at hi;rw [h.pr i hi,hno i hi];rfl
  refine ⟨?_,fun k hk=>by rw [h.last k hk,if_pos (by omega)];rfl⟩;rcases hend with hh|hh
  ·exact hh.1
  ·rw [hov] at hh;exact absurd hh.2.1 (by simp)
 ·have hR:=h.lack (by omega)
  have hall:∀ j,j < n→ph j=.P 0:=fun j hj=>by
   rcases hst j hj with e'|e'
   ·have:=hE j hj e';omega
   ·rw [e',hR]
  refine ⟨?_,?_,?_,?_⟩
  ·rcases hend with hh|hh
   ·exfalso
    have:=List.all_eq_true.1 hh.2 0 (List.mem_range.2 (by rw [h.n];omega))
    rw [h.pr 0 (by omega),hall 0 (by omega)] at this;cases this
   ·exact hh.1
  ·unfold Xp.left
   rw [h.n];refine some_all fun j hj=>?_;unfold Xp.stands;rw [h.pr j hj,hall j hj];exact ⟨_,rfl⟩
  ·rw [h.come 0 (by omega),sumTo_allone fun j hj=>by rw [hall j hj];rfl]
  ·rw [h.last 0 (by omega),if_neg (by omega)];rfl
theorem rnds_fuel {B:Int} {N:Nat}:∀ (q k m:Nat),Fuel m (rnds B N q k)
 | 0,k,m=>.ret ..
 | q + 1,k,m=>.act fun s=>by
  refine Fuel.bind (m:=m) ?_ fun j a hj=>.act fun s=>rnds_fuel q (k + 1) j;unfold arrP
  match m with
  | 0=>exact .acc0
  | m + 1 =>
   refine .acc fun a=>?_
   match m with
   | 0=>exact .acc0
   | m + 1 =>
    refine .acc fun b=>?_;show Fuel m (if b.now=B then _ else _)
    split
    ·match m with
     | 0=>exact .acc0
     | m + 1 =>
      refine .acc fun _=>?_
      match m with
      | 0=>exact .acc0
      | m + 1=>exact .acc fun _=>.ret ..
    ·match m with
     | 0=>exact .acc0
     | m + 1=>exact .acc fun _=>.ret ..
set_option maxRecDepth 100000
def arrF (f:Nat→Int) (M:Nat):Array Value:=((List.range M).map fun k=>Value.int .i64 (f k)).toArray
theorem arrF_get {f:Nat→Int} {M k:Nat} (h:k < M):(arrF f M)[k]? = some (.int .i64 (f k)):=by
 unfold arrF;rw [List.getElem?_toArray,List.getElem?_map,List.getElem?_range h];rfl
theorem arrF_set {f:Nat→Int} {M k:Nat} {v:Int}:(arrF f M).setIfInBounds k (.int .i64 v)=arrF (upd f k v) M:=by
 apply Array.ext_getElem?;intro i;rw [Array.getElem?_setIfInBounds];have hs:(arrF f M).size=M:=by unfold arrF;simp
 by_cases hi:i < M
 ·rw [arrF_get hi]
  by_cases e:k=i
  ·subst e;rw [if_pos rfl,if_pos (by omega),arrF_get hi,upd_same]
  ·rw [if_neg e,arrF_get hi,upd_ne _ _ (fun h=>e h.symm)]
 ·have h1:(arrF (upd f k v) M)[i]? = none:=by unfold arrF;simp;omega
  have h2:(arrF f M)[i]? = none:=by unfold arrF;simp;omega
  rw [h1,h2]
  split
  ·rw [if_neg (by omega)]
  ·rfl
theorem arrF_zero (M:Nat):Array.replicate M (Value.int .i64 0)=arrF (fun _=>0) M:=by
 unfold arrF;apply Array.ext_getElem?;intro i
 by_cases hi:i < M
 ·simp [hi]
 ·simp [hi]
structure Rq where
 bn:Nat
 bm:Nat
 ca:Nat
 cc:Nat
 bb:Nat
 bq:Nat
 gc:Nat
 bc:Nat
 gl:Nat
 bl:Nat
 be:Nat
 N:Nat
 M:Nat
 B:Nat
 o:bn < bm∧bm < ca∧ca < cc∧cc < bb∧bb < bq∧bq < gc∧gc < bc∧bc < gl∧gl < bl∧bl < be
namespace Rq
variable (q:Rq)
def rows (sh:RSh):List (Nat × Obj):=[(q.bn,.cells #[.int .i64 (q.N:Nat)] 3 (0,0)),(q.bm,.cells #[.int .i64 (q.M:Nat)] 3 (0,0)),(q.bb,.cells #[.int .i64 (q.B:Nat),P0 q.ca,P0 q.cc] 96 (0,0)),(q.bq,.cells #[P0 q.bb] 46 (0,0)),
 (q.gc,.cells (arrF sh.come q.M) 3 (0,0)),(q.bc,.cells #[.slice (some ⟨q.gc,0,none⟩) q.M q.M] 22 (0,0)),(q.gl,.cells (arrF sh.last q.M) 3 (0,0)),(q.bl,.cells #[.slice (some ⟨q.gl,0,none⟩) q.M q.M] 22 (0,0)),(q.be,.cells #[.bool sh.wrong] 4 (0,0))]
def A (i:Nat):Nat:=if i=0 then q.ca else q.cc
theorem ne_A {sh:RSh}:∀ p∈q.rows sh,∀ i,p.1≠q.A i:=fun p hp i=>by
 have:=q.o
 simp only [rows,List.mem_cons,List.not_mem_nil,or_false] at hp;unfold A;rcases hp with rfl|rfl|rfl|rfl|rfl|rfl|rfl|rfl|rfl<;>simp only<;>split<;>omega
def M_ (sh:RSh) (col:Nat→Prop) (x:World):Prop:=∀ p∈q.rows sh,x.heap[p.1]? = some p.2∧¬ col p.1
def more_:Xgc RSh q.A 2 where
 M:=q.M_
 frame:=fun {sh col x} h col' y hs ho hc p hp=>by
  obtain ⟨h1,h2⟩:=h p hp;have hl:=(GE h1).1;exact ⟨(ho _ hl h2 fun i _=>q.ne_A p hp i).trans h1,fun e=>h2 (hc _ hl e)⟩
theorem inj:∀ a b,a < 2→b < 2→q.A a=q.A b→a=b:=fun a b ha hb h=>by
 have:=q.o
 unfold A at h
 split at h<;>split at h<;>omega
abbrev side:Zv RSh:=Xed q.A 2 q.inj q.more_ (XV.fuel RSh)
variable {q}
section
variable {sh:RSh} {col:Nat→Prop} {x:World}
theorem M_.n (h:q.M_ sh col x):x.heap[q.bn]? = some (.cells #[.int .i64 (q.N:Nat)] 3 (0,0)):=(h (q.bn,_) (by simp [rows])).1
theorem M_.m (h:q.M_ sh col x):x.heap[q.bm]? = some (.cells #[.int .i64 (q.M:Nat)] 3 (0,0)):=(h (q.bm,_) (by simp [rows])).1
theorem M_.b (h:q.M_ sh col x):x.heap[q.bb]? = some (.cells #[.int .i64 (q.B:Nat),P0 q.ca,P0 q.cc] 96 (0,0)):=(h (q.bb,_) (by simp [rows])).1
theorem M_.bq (h:q.M_ sh col x):x.heap[q.bq]? = some (.cells #[P0 q.bb] 46 (0,0)):=(h (q.bq,_) (by simp [rows])).1
theorem M_.gc (h:q.M_ sh col x):x.heap[q.gc]? = some (.cells (arrF sh.come q.M) 3 (0,0))∧¬ col q.gc:=h (q.gc,_) (by simp [rows])
theorem M_.c (h:q.M_ sh col x):x.heap[q.bc]? = some (.cells #[.slice (some ⟨q.gc,0,none⟩) q.M q.M] 22 (0,0)):=(h (q.bc,_) (by simp [rows])).1
theorem M_.gl (h:q.M_ sh col x):x.heap[q.gl]? = some (.cells (arrF sh.last q.M) 3 (0,0))∧¬ col q.gl:=h (q.gl,_) (by simp [rows])
theorem M_.l (h:q.M_ sh col x):x.heap[q.bl]? = some (.cells #[.slice (some ⟨q.gl,0,none⟩) q.M q.M] 22 (0,0)):=(h (q.bl,_) (by simp [rows])).1
theorem M_.e (h:q.M_ sh col x):x.heap[q.be]? = some (.cells #[.bool sh.wrong] 4 (0,0))∧¬ col q.be:=h (q.be,_) (by simp [rows])
theorem M_.mk (hn:x.heap[q.bn]? = some (.cells #[.int .i64 (q.N:Nat)] 3 (0,0))) (hm:x.heap[q.bm]? = some (.cells #[.int .i64 (q.M:Nat)] 3 (0,0))) (hb:x.heap[q.bb]? = some (.cells #[.int .i64 (q.B:Nat),P0 q.ca,P0 q.cc] 96 (0,0))) (hq:x.heap[q.bq]? = some (.cells #[P0 q.bb] 46 (0,0)))
 (hgc:x.heap[q.gc]? = some (.cells (arrF sh.come q.M) 3 (0,0))) (hc:x.heap[q.bc]? = some (.cells #[.slice (some ⟨q.gc,0,none⟩) q.M q.M] 22 (0,0))) (hgl:x.heap[q.gl]? = some (.cells (arrF sh.last q.M) 3 (0,0))) (hl:x.heap[q.bl]? = some (.cells #[.slice (some ⟨q.gl,0,none⟩) q.M q.M] 22 (0,0))) (he:x.heap[q.be]? = some (.cells #[.bool sh.wrong] 4 (0,0)))
 (hf:∀ p∈q.rows sh,¬ col p.1):q.M_ sh col x:=fun p hp=>by
 refine ⟨?_,hf p hp⟩;simp only [rows,List.mem_cons,List.not_mem_nil,or_false] at hp;rcases hp with rfl|rfl|rfl|rfl|rfl|rfl|rfl|rfl|rfl<;>assumption
theorem free_of {sh sh':RSh} (h:∀ p∈q.rows sh,¬ col p.1):∀ p∈q.rows sh',¬ col p.1:=fun p hp=>by
 have h1:p.1∈(q.rows sh').map Prod.fst:=List.mem_map_of_mem hp;rw [show (q.rows sh').map Prod.fst=(q.rows sh).map Prod.fst from rfl] at h1;obtain ⟨p',hp',e⟩:=List.mem_map.1 h1;rw [← e];exact h p' hp'
theorem M_.setC (h:q.M_ sh col x) (k:Nat) (v:Int):q.M_ ⟨upd sh.come k v,sh.last,sh.wrong⟩ col (x.setCell (th q.gc k) (.int .i64 v)):=by
 have:=q.o
 exact .mk ((Xb (by omega)).trans h.n) ((Xb (by omega)).trans h.m) ((Xb (by omega)).trans h.b) ((Xb (by omega)).trans h.bq) (by rw [Xd h.gc.1,arrF_set]) ((Xb (by omega)).trans h.c) ((Xb (by omega)).trans h.gl.1) ((Xb (by omega)).trans h.l) ((Xb (by omega)).trans h.e.1) (free_of fun p hp=>(h p hp).2)
theorem M_.setL (h:q.M_ sh col x) (k:Nat) (v:Int):q.M_ ⟨sh.come,upd sh.last k v,sh.wrong⟩ col (x.setCell (th q.gl k) (.int .i64 v)):=by
 have:=q.o
 exact .mk ((Xb (by omega)).trans h.n) ((Xb (by omega)).trans h.m) ((Xb (by omega)).trans h.b) ((Xb (by omega)).trans h.bq) ((Xb (by omega)).trans h.gc.1) ((Xb (by omega)).trans h.c) (by rw [Xd h.gl.1,arrF_set]) ((Xb (by omega)).trans h.l) ((Xb (by omega)).trans h.e.1) (free_of fun p hp=>(h p hp).2)
theorem M_.setE (h:q.M_ sh col x) (v:Bool):q.M_ ⟨sh.come,sh.last,v⟩ col (x.setCell (th q.be 0) (.bool v)):=by
 have:=q.o
 exact .mk ((Xb (by omega)).trans h.n) ((Xb (by omega)).trans h.m) ((Xb (by omega)).trans h.b) ((Xb (by omega)).trans h.bq) ((Xb (by omega)).trans h.gc.1) ((Xb (by omega)).trans h.c) ((Xb (by omega)).trans h.gl.1) ((Xb (by omega)).trans h.l) (by rw [Xd h.e.1];rfl) (free_of fun p hp=>(h p hp).2)
end
theorem barS:BarS q.side q.bb (q.B:Nat):=⟨show 1 < 2 by decide,fun h=>⟨Xa (M_.b h.2) 0,Xa (M_.b h.2) 1,Xa (M_.b h.2) 2,(h.1 0 (show 0 < 2 by decide)).1.c1,(h.1 1 (show 1 < 2 by decide)).1.c1⟩⟩
theorem keep_no:∀ i a,¬ q.side.keep i a:=fun _ _ h=>h
theorem I_set {sh sh':RSh} {cells:Nat→Int} {col:Nat→Prop} {x:World} {b k:Nat} {v:Value} (h:q.side.I sh cells col x) (hb:∀ i,b≠q.A i) (hM:q.M_ sh' col (x.setCell (th b k) v)):q.side.I sh' cells col (x.setCell (th b k) v) :=
 ⟨fun i hi=>⟨(Xb (show q.A i≠b from fun e=>hb i e.symm)).trans (h.1 i hi).1,(h.1 i hi).2⟩,hM⟩
theorem ne_be (i:Nat):q.be≠q.A i:=by have:=q.o;unfold A;split<;>omega
theorem ne_gc (i:Nat):q.gc≠q.A i:=by have:=q.o;unfold A;split<;>omega
theorem ne_gl (i:Nat):q.gl≠q.A i:=by have:=q.o;unfold A;split<;>omega
end Rq
section
variable {Sh:Type} {Post:Value→World→Prop} {S:Zv Sh} {num tb rb m:Nat} {cb:Frame} {C:Ctx} {x0 x y:World} {col Pv:Nat→Prop} {sh:Sh} {cells:Nat→Int}
theorem TSt.part {f f2:Sh→Sh} {p:Xx Sh Unit} {sh1:Sh} (h:TSt Post S num tb rb cb m C x0 x col none_ sh cells (.act f fun _=>p)) (hs:y.heap.size=x.heap.size) (hy:∀ r,col r→y.heap[r]? = x.heap[r]?) (hI:S.I sh1 cells col y) (e:f2 sh1=f sh) (hk:∀ i a,¬ S.keep i a):TSt Post S num tb rb cb m C x0 y col none_ sh1 cells (.act f2 fun _=>p):=by
 have hr:Reach Post S num tb cb (fun Pv y=>XR Post S num tb rb cb m Pv y QG) C col cells x0 ((Xx.act f2 fun _=>p).pass sh1).1 ((Xx.act f2 fun _=>p).pass sh1).2:=by
  rw [show (Xx.act f2 fun _=>p).pass sh1=(Xx.act f fun _=>p).pass sh from by show p.pass (f2 sh1)=p.pass (f sh);rw [e]];exact h.reach
 exact ⟨h.d,⟨(World.cell?_of_block (hy tb h.mine)).trans h.lives.1,(World.cell?_of_block (hy tb h.mine)).trans h.lives.2.1,h.lives.2.2⟩,h.mine,fun r hr=>by rw [hs];exact h.lt r hr,fun r hr=>hr.elim,by rw [VN];exact hI,by rw [hs];exact h.size,fun r hr=>(hy r hr).trans (h.old r hr),fun i a _ h2=>(hk i a h2).elim,fun i a h1=>(hk i a h1).elim,hr⟩
end
theorem wpStill_skipsR {P:Program} {ops:Array Oper} {w:World} {Q:Act→Prop}:∀ (l rest:List Oper) (a:Act),skipsB ops l a=true→wpStill P ops w Q rest (skipsA l a)→wpStill P ops w Q (l ++ rest) a
 | [],_,_,_,h=>h
 | o::l,rest,a,hs,h=>by
  simp only [skipsB,Bool.and_eq_true,Bool.not_eq_true'] at hs;show wpStill P ops w Q (o::(l ++ rest)) a;unfold wpStill;rw [if_neg (by rw [hs.1];simp)];exact wpStill_skipsR l rest _ hs.2 h
theorem wpStill_move_skipsR {P:Program} {ops:Array Oper} {w:World} {Q:Act→Prop} {a:Act} {op:Oper} {rest:List Oper} (n:Nat) (hw:Region.wanted op (yielded ops a.tmps)=true) (x:Operand) (ho:op.op=.move x) (hs:skipsB ops (rest.take n) (a.put op.dst (a.eval x))=true)
 (h:wpStill P ops w Q (rest.drop n) (skipsA (rest.take n) (a.put op.dst (a.eval x)))):wpStill P ops w Q (op::rest) a:=by
 have h2:=wpStill_skipsR (rest.take n) (rest.drop n) _ hs h;rw [List.take_append_drop] at h2;unfold wpStill;rw [if_pos hw];unfold Oper.still execOp;simp only [ho,Sem.run_pure];exact ⟨rfl,h2⟩
section
variable {Post:Value→World→Prop} {q:Rq} {num tb rb:Nat} {cb:Frame} {i:Nat} {rest:Xx RSh Unit}
def NXR (Post:Value→World→Prop) (q:Rq) (num tb rb:Nat) (cb:Frame) (i:Nat) (rest:Xx RSh Unit):Prop:=∀ (m:Nat) (C:Ctx) (x0 x:World) (col:Nat→Prop) (sh:RSh) (cells:Nat→Int) (u7 u9 B0 B1 B2 B3 B4 B5 B6 B7 B8 B9 D0 D1 D2 D3 D4 D5 D6 D7 D8 D9 E0 E1 E2 E3 E4 E5 E6 E7 E8 E9 G0 G1 G2 G3 G4 G5 G6 G7 G8 G9 H0 H4 H5 H6 H7:Value),TSt Post q.side num tb rb cb m C x0 x col none_ sh cells (rest)→JG Try.prog Post C (G ((base 18).at ⟨List.toArray (P0 tb::P0 q.bm::P0 q.bc::P0 q.bq::P0 q.be::P0 q.bn::P0 q.bl::u7::.int .i64 i::u9::B0::B1::B2::B3::B4::B5::B6::B7::B8::B9::D0::D1::D2::D3::D4::D5::D6::D7::D8::D9::E0::E1::E2::E3::E4::E5::E6::E7::E8::E9::G0::G1::G2::G3::G4::G5::G6::G7::G8::G9::H0::H4::H5::H6::H7::[]),[]⟩ [.code (Code.nav (Try.f18.body.getD .skip) [1,0,0,1,1]),.inLoop (Code.nav (Try.f18.body.getD .skip) [1,0,0]),.inBlock 0]) [cb,YX Try.prog]) x
theorem NXR.out (h:NXR Post q num tb rb cb i rest):∀ (m:Nat) (C:Ctx) (x0 x:World) (col:Nat→Prop) (sh:RSh) (cells:Nat→Int) (u7 u9 B0 B1 B2 B3 B4 B5 B6 B7 B8 B9 D0 D1 D2 D3 D4 D5 D6 D7 D8 D9 E0 E1 E2 E3 E4 E5 E6 E7 E8 E9 G0 G1 G2 G3 G4 G5 G6 G7 G8 G9 H0 H4 H5 H6 H7:Value),TSt Post q.side num tb rb cb m C x0 x col none_ sh cells (rest)→JG Try.prog Post C (G ((base 18).at ⟨List.toArray (P0 tb::P0 q.bm::P0 q.bc::P0 q.bq::P0 q.be::P0 q.bn::P0 q.bl::u7::.int .i64 i::u9::B0::B1::B2::B3::B4::B5::B6::B7::B8::B9::D0::D1::D2::D3::D4::D5::D6::D7::D8::D9::E0::E1::E2::E3::E4::E5::E6::E7::E8::E9::G0::G1::G2::G3::G4::G5::G6::G7::G8::G9::H0::H4::H5::H6::H7::[]),[]⟩ [.code (Code.nav (Try.f18.body.getD .skip) [1,0,0,1,1]),.inLoop (Code.nav (Try.f18.body.getD .skip) [1,0,0]),.inBlock 0]) [cb,YX Try.prog]) x:=h
theorem lastR_J (hi:i < q.M) (hM:q.M < 1000) (NH:NXR Post q num tb rb cb i rest) {is:Bool}:∀ (m:Nat) (C:Ctx) (x0 x:World) (col:Nat→Prop) (sh:RSh) (cells:Nat→Int) (u7 u9 B1 B2 B3 B4 B5 B6 B7 B8 B9 D0 D1 D2 D3 D4 D5 D6 D7 D8 D9 E0 E1 E2 E3 E4 E5 E6 E7 E8 E9 G0 G1 G2 G3 G4 G5 G6 G7 G8 G9 H0 H4 H5 H6 H7:Value),TSt Post q.side num tb rb cb m C x0 x col none_ sh cells (.act (fun s=>⟨s.come,if is then upd s.last i (wrap64 (s.last i + 1)) else s.last,s.wrong⟩) fun _=>rest) →
 JG Try.prog Post C (G ((base 18).at ⟨List.toArray (P0 tb::P0 q.bm::P0 q.bc::P0 q.bq::P0 q.be::P0 q.bn::P0 q.bl::u7::.int .i64 i::u9::.bool is::B1::B2::B3::B4::B5::B6::B7::B8::B9::D0::D1::D2::D3::D4::D5::D6::D7::D8::D9::E0::E1::E2::E3::E4::E5::E6::E7::E8::E9::G0::G1::G2::G3::G4::G5::G6::G7::G8::G9::H0::H4::H5::H6::H7::[]),[]⟩ [.code (Code.nav (Try.f18.body.getD .skip) [1,0,0,1,0,0,1,1,1]),.inBlock 1,.code (Code.nav (Try.f18.body.getD .skip) [1,0,0,1,1]),.inLoop (Code.nav (Try.f18.body.getD .skip) [1,0,0]),.inBlock 0]) [cb,YX Try.prog]) x:=by
 intro m C x0 x col sh cells u7 u9 B1 B2 B3 B4 B5 B6 B7 B8 B9 D0 D1 D2 D3 D4 D5 D6 D7 D8 D9 E0 E1 E2 E3 E4 E5 E6 E7 E8 E9 G0 G1 G2 G3 G4 G5 G6 G7 G8 G9 H0 H4 H5 H6 H7 h;have hMM:q.M_ sh col x:=h.I0.2;obtain ⟨come,last,wrong⟩:=sh;cases is with
 | false =>
  have T2:TSt Post q.side num tb rb cb m C x0 x col none_ ⟨come,last,wrong⟩ cells rest:=h.did (y:=x) rfl (fun _ _=>rfl) h.I0 Rq.keep_no;have NZ:=HD (fun u7 u9 B0 B1 B2 B3 B4 B5 B6 B7 B8 B9 D0 D1 D2 D3 D4 D5 D6 D7 D8 D9 E0 E1 E2 E3 E4 E5 E6 E7 E8 E9 G0 G1 G2 G3 G4 G5 G6 G7 G8 G9 H0 H4 H5 H6 H7=>NH.out m C x0 x col _ cells u7 u9 B0 B1 B2 B3 B4 B5 B6 B7 B8 B9 D0 D1 D2 D3 D4 D5 D6 D7 D8 D9 E0 E1 E2 E3 E4 E5 E6 E7 E8 E9 G0 G1 G2 G3 G4 G5 G6 G7 G8 G9 H0 H4 H5 H6 H7 T2);simp only [Try.f18,Option.getD_some,Code.nav] at NZ ⊢;clear T2 NH h hMM
  iterate 7 refine kx ?_
  exact NZ.out _ _ _ _ _ _ _ _ _ _ _ _ _ _ _ _ _ _ _ _ _ _ _ _ _ _ _ _ _ _ _ _ _ _ _ _ _ _ _ _ _ _ _ _ _ _ _
 | true =>
  have hx:decide ((i:Int) < (q.M:Nat))=true:=by simp;omega
  have hxN:decide (i < q.M)=true:=by simp;omega
  have T2:TSt Post q.side num tb rb cb m C x0 (x.setCell (th q.gl i) (.int .i64 (wrap64 (last i + 1)))) col none_ ⟨come,upd last i (wrap64 (last i + 1)),wrong⟩ cells rest:=h.did (by rw [Xh]) (fun r hr=>Xb (show r≠q.gl from fun e'=>hMM.gl.2 (e' ▸ hr))) (Rq.I_set h.I0 Rq.ne_gl (hMM.setL _ _)) Rq.keep_no;have NZ:=HD (fun u7 u9 B0 B1 B2 B3 B4 B5 B6 B7 B8 B9 D0 D1 D2 D3 D4 D5 D6 D7 D8 D9 E0 E1 E2 E3 E4 E5 E6 E7 E8 E9 G0 G1 G2 G3 G4 G5 G6 G7 G8 G9 H0 H4 H5 H6 H7=>NH.out m C x0 _ col _ cells u7 u9 B0 B1 B2 B3 B4 B5 B6 B7 B8 B9 D0 D1 D2 D3 D4 D5 D6 D7 D8 D9 E0 E1 E2 E3 E4 E5 E6 E7 E8 E9 G0 G1 G2 G3 G4 G5 G6 G7 G8 G9 H0 H4 H5 H6 H7 T2);have ll:x.cell? (th q.bl 0)=some (.slice (some ⟨q.gl,0,none⟩) q.M q.M):=Xa hMM.l 0;have lk:x.cell? (th q.gl i)=some (.int .i64 (last i)):=(Xa hMM.gl.1 i).trans (arrF_get hi);have fk:x.frozen? (th q.gl i)=false:=Xe hMM.gl.1 i;simp only [Try.f18,Option.getD_some,Code.nav] at NZ ⊢;clear T2 NH h hMM
  repeat refine kx ?_
  refine kst (And.intro lk fk) ?_;rw [wrap_eq64]
  iterate 2 refine kc ?_
  exact NZ.out _ _ _ _ _ _ _ _ _ _ _ _ _ _ _ _ _ _ _ _ _ _ _ _ _ _ _ _ _ _ _ _ _ _ _ _ _ _ _ _ _ _ _ _ _ _ _
theorem finR_J (hi:i < q.M) (hM:q.M < 1000) (NH:NXR Post q num tb rb cb i rest) {is:Bool} {r:Int}:∀ (m:Nat) (C:Ctx) (x0 x:World) (col:Nat→Prop) (sh:RSh) (cells:Nat→Int) (u7 B2 B3 B4 B5 B6 B7 B8 B9 D0 D1 D2 D3 D4 D5 D6 D7 D8 D9 E0 E1 E2 E3 E4 E5 E6 E7 E8 E9 G0 G1 G2 G3 G4 G5 G6 G7 G8 G9 H0 H4 H5 H6 H7:Value),TSt Post q.side num tb rb cb m C x0 x col none_ sh cells (gR q.N i rest (r,is)) →
 JG Try.prog Post C (G ((base 18).at ⟨List.toArray (P0 tb::P0 q.bm::P0 q.bc::P0 q.bq::P0 q.be::P0 q.bn::P0 q.bl::u7::.int .i64 i::.int .i64 r::.bool is::.int .i64 0::B2::B3::B4::B5::B6::B7::B8::B9::D0::D1::D2::D3::D4::D5::D6::D7::D8::D9::E0::E1::E2::E3::E4::E5::E6::E7::E8::E9::G0::G1::G2::G3::G4::G5::G6::G7::G8::G9::H0::H4::H5::H6::H7::[]),[]⟩ [.code (Code.nav (Try.f18.body.getD .skip) [1,0,0,1,0,0,1,1]),.inBlock 1,.code (Code.nav (Try.f18.body.getD .skip) [1,0,0,1,1]),.inLoop (Code.nav (Try.f18.body.getD .skip) [1,0,0]),.inBlock 0]) [cb,YX Try.prog]) x:=by
 intro m C x0 x col sh cells u7 B2 B3 B4 B5 B6 B7 B8 B9 D0 D1 D2 D3 D4 D5 D6 D7 D8 D9 E0 E1 E2 E3 E4 E5 E6 E7 E8 E9 G0 G1 G2 G3 G4 G5 G6 G7 G8 G9 H0 H4 H5 H6 H7 h;have hMM:q.M_ sh col x:=h.I0.2;obtain ⟨come,last,wrong⟩:=sh;have hx:decide ((i:Int) < (q.M:Nat))=true:=by simp;omega
 have hxN:decide (i < q.M)=true:=by simp;omega
 obtain ⟨W,hW⟩:∃ W,W=(wrong || decide (r≠(i:Nat)) || decide (come i≠(q.N:Nat))):=⟨_,rfl⟩
 have T2:=h.part (f2:=fun s=>⟨s.come,if is then upd s.last i (wrap64 (s.last i + 1)) else s.last,s.wrong⟩) (sh1:=⟨come,last,W⟩) (y:=x.setCell (th q.be 0) (.bool W)) (by rw [Xh]) (fun r hr=>Xb (show r≠q.be from fun e'=>hMM.e.2 (e' ▸ hr))) (Rq.I_set h.I0 Rq.ne_be (hMM.setE W)) (by rw [hW]) Rq.keep_no;have NZ:=HD (fun u7 u9 B1 B2 B3 B4 B5 B6 B7 B8 B9 D0 D1 D2 D3 D4 D5 D6 D7 D8 D9 E0 E1 E2 E3 E4 E5 E6 E7 E8 E9 G0 G1 G2 G3 G4 G5 G6 G7 G8 G9 H0 H4 H5 H6 H7=>lastR_J hi hM NH m C x0 _ col _ cells u7 u9 B1 B2 B3 B4 B5 B6 B7 B8 B9 D0 D1 D2 D3 D4 D5 D6 D7 D8 D9 E0 E1 E2 E3 E4 E5 E6 E7 E8 E9 G0 G1 G2 G3 G4 G5 G6 G7 G8 G9 H0 H4 H5 H6 H7 T2);have le:x.cell? (th q.be 0)=some (.bool wrong):=Xa hMM.e.1 0;have fe:x.frozen? (th q.be 0)=false:=Xe hMM.e.1 0;have lc:x.cell? (th q.bc 0)=some (.slice (some ⟨q.gc,0,none⟩) q.M q.M):=Xa hMM.c 0;have lk:x.cell? (th q.gc i)=some (.int .i64 (come i)):=(Xa hMM.gc.1 i).trans (arrF_get hi);have ln:x.cell? (th q.bn 0)=some (.int .i64 (q.N:Nat)):=Xa hMM.n 0;simp only [Try.f18,Option.getD_some,Code.nav] at NZ ⊢;clear T2 NH h hMM hM;replace NZ:=HD NZ;generalize come i=c at lk hW;cases wrong with
 | true =>
  rw [Bool.true_or,Bool.true_or] at hW;subst hW
  repeat refine kx ?_
  refine JG.drawTail 18 (by kernel_rfl) (by kernel_rfl) (by rfl) (by decide) (fun τ d=>?_);simp only [List.take_succ_cons,List.take_zero];have k1:=(Xk x τ d _).trans le;have k2:=(Xk x τ d _).trans lc;have k3:=(Xk x τ d _).trans lk;have k4:=(Xk x τ d _).trans ln
  still_step
  refine wpStill_move_skipsR 2 rfl _ rfl (by kernel_rfl) ?_;simp only [List.take_succ_cons,List.take_zero,List.drop_succ_cons,List.drop_zero,skipsA];go_simp
  still_step
  refine wpStill_move_skipsR 3 rfl _ rfl (by kernel_rfl) ?_;simp only [List.take_succ_cons,List.take_zero,List.drop_succ_cons,List.drop_zero,skipsA];go_simp
  still_step
  refine wpStill_move_skipsR 6 rfl _ rfl (by kernel_rfl) ?_;simp only [List.take_succ_cons,List.take_zero,List.drop_succ_cons,List.drop_zero,skipsA];go_simp
  still_step
  refine wpStill_nil ?_
  try simp only [List.length_cons,List.length_nil,Nat.reduceAdd,Nat.reduceSub,List.range'_succ,List.range'_zero]
  clear k1 k2 k3 k4 τ d lc lk ln
  repeat refine kx ?_
  refine kst (And.intro le fe) ?_;refine kc ?_;exact NZ.out.out _ _ _ _ _ _ _ _ _ _ _ _ _ _ _ _ _ _ _ _ _ _ _ _ _ _ _ _ _ _ _ _ _ _ _ _ _ _ _ _ _ _ _ _ _ _
 | false =>
  rw [Bool.false_or] at hW
  by_cases hr:r=(i:Nat)
  ·rw [show decide (r≠(i:Nat))=false from by simp [hr],Bool.false_or] at hW
   have hr':(r != (i:Nat))=false:=by simp [hr]
   have hWc:W=(c != (q.N:Nat)):=by rw [hW];by_cases e:c=(q.N:Nat)<;>simp [e]
   subst hWc;clear hr hW
   repeat refine kx ?_
   refine JG.drawTail 18 (by kernel_rfl) (by kernel_rfl) (by rfl) (by decide) (fun τ d=>?_);simp only [List.take_succ_cons,List.take_zero];have k1:=(Xk x τ d _).trans le;have k2:=(Xk x τ d _).trans lc;have k3:=(Xk x τ d _).trans lk;have k4:=(Xk x τ d _).trans ln
   iterate 18 still_step
   refine wpStill_nil ?_
   try simp only [List.length_cons,List.length_nil,Nat.reduceAdd,Nat.reduceSub,List.range'_succ,List.range'_zero]
   clear k1 k2 k3 k4 τ d lc lk ln
   repeat refine kx ?_
   refine kst (And.intro le fe) ?_;refine kc ?_;exact NZ.out.out _ _ _ _ _ _ _ _ _ _ _ _ _ _ _ _ _ _ _ _ _ _ _ _ _ _ _ _ _ _ _ _ _ _ _ _ _ _ _ _ _ _ _ _ _ _
  ·rw [show decide (r≠(i:Nat))=true from by simp [hr],Bool.true_or] at hW
   have hr':(r != (i:Nat))=true:=by simp [hr]
   subst hW;clear hr
   repeat refine kx ?_
   refine JG.drawTail 18 (by kernel_rfl) (by kernel_rfl) (by rfl) (by decide) (fun τ d=>?_);simp only [List.take_succ_cons,List.take_zero];have k1:=(Xk x τ d _).trans le;have k2:=(Xk x τ d _).trans lc;have k3:=(Xk x τ d _).trans lk;have k4:=(Xk x τ d _).trans ln
   iterate 10 still_step
   refine wpStill_move_skipsR 6 rfl _ rfl (by kernel_rfl) ?_;simp only [List.take_succ_cons,List.take_zero,List.drop_succ_cons,List.drop_zero,skipsA];go_simp
   still_step
   refine wpStill_nil ?_
   try simp only [List.length_cons,List.length_nil,Nat.reduceAdd,Nat.reduceSub,List.range'_succ,List.range'_zero]
   clear k1 k2 k3 k4 τ d lc lk ln
   repeat refine kx ?_
   refine kst (And.intro le fe) ?_;refine kc ?_;exact NZ.out.out _ _ _ _ _ _ _ _ _ _ _ _ _ _ _ _ _ _ _ _ _ _ _ _ _ _ _ _ _ _ _ _ _ _ _ _ _ _ _ _ _ _ _ _ _ _
