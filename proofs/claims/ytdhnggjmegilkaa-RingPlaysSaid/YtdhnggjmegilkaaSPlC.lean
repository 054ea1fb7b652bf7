/- The record of a run: its turns and its cells are as the document's check looks at them. No program in sight. -/
import Derived.Test.YtdhnggjmegilkaaSWkG
import Derived.Test.YtdhnggjmegilkaaSPlB
set_option linter.all false
set_option maxRecDepth 100000
set_option maxHeartbeats 16000000
namespace Go.Proofs.Ytdhnggjmegilkaa
open Go.Conc Go.RowKit
open Go.ConcN (upd upd_same upd_ne)
namespace Xp
variable {Sh:Type} {P Q:Xp Sh} {sched:List Nat→List Nat→Nat}
def Xgi (nc:Nat) (P:Xp Sh):Prop:=∀ j,j < P.n→Xx.Ok nc (P.progs j)
theorem Xdo {nc q:Nat} {r:Ask} {k:Told→Xx Sh Unit} (h:Xgi nc P) (hq:q < P.n) (hp:P.progs q=.acc r k):Xgi nc (P.turn q):=fun j hj=>by
 rw [turn_acc hp] at hj ⊢;show Xx.Ok nc (upd P.progs q _ j)
 by_cases e:j=q
 ·subst e
  rw [upd_same]
  have:=h j hj
  rw [hp] at this;cases this with
  | acc h1 h2 h3=>exact (h3 _).pass _
 ·rw [upd_ne _ _ e];exact h j hj
structure Steps (sched:List Nat→List Nat→Nat) (nc:Nat) (P Q:Xp Sh) (S:Nat→Xp Sh) (m:Nat) (q:Nat→Nat) (r:Nat→Ask):Prop where
 first:S 0=P
 last:S m=Q
 goes:∀ i,i≤m→Goes sched (S i) Q
 asks:∀ i,i≤m→Xgi nc (S i)
 who:∀ i,i < m→q i=sched (S i).st.went (S i).able∧q i∈(S i).able∧q i < (S i).n∧(∃ k,(S i).progs (q i)=.acc (r i) k)∧((r i).op=6→(S i).st.cells (r i).cell≠(r i).arg)∧(r i).Good∧(r i).cell < nc∧S (i + 1)=(S i).turn (q i)
theorem Goes.steps {nc:Nat} (hs:Zs sched) (h:Goes sched P Q) (hA:Xgi nc P):∃ S m q r,Steps sched nc P Q S m q r:=by
 induction h with
 | refl P=>exact ⟨fun _=>P,0,fun _=>0,fun _=>⟨0,0,0,0⟩,rfl,rfl,fun _ _=>.refl P,fun _ _=>hA,fun i hi=>by omega⟩
 | @turn P Q h1 h2 h3 ih =>
  have hq:=hs P.st.went P.able h2;obtain ⟨hn,r0,k0,hp0,h6⟩:=Uj hq;have hg:r0.Good∧r0.cell < nc:=by
   have:=hA _ hn
   rw [hp0] at this;cases this with
   | acc h1 h2 h3=>exact ⟨h1,h2⟩
  obtain ⟨S,m,q,r,e1,e2,e3,e4,e5⟩:=ih (Xdo hA hn hp0);refine ⟨fun i=>match i with|0=>P|i + 1=>S i,m + 1,fun i=>match i with|0=>sched P.st.went P.able|i + 1=>q i,fun i=>match i with|0=>r0|i + 1=>r i,rfl,e2,fun i hi=>?_,fun i hi=>?_,fun i hi=>?_⟩
  ·cases i with
   | zero=>exact .turn h1 h2 h3
   | succ i=>exact e3 i (by omega)
  ·cases i with
   | zero=>exact hA
   | succ i=>exact e4 i (by omega)
  ·cases i with
   | zero=>exact ⟨rfl,hq,hn,⟨k0,hp0⟩,h6,hg.1,hg.2,e1⟩
   | succ i=>exact e5 i (by omega)
theorem Goes.went (hs:Zs sched) (h:Goes sched P Q):∃ l,Q.st.went=P.st.went ++ l:=by
 refine Goes.keeps (I:=fun R=>∃ l,R.st.went=P.st.went ++ l) hs (fun R q r k ⟨l,hl⟩ _ _ hp _=>?_) h ⟨[],by simp⟩;rw [turn_acc hp];exact ⟨l ++ [q],by simp [hl]⟩
theorem Goes.readyP (hs:Zs sched) (h:Goes sched P Q):∃ l,Q.st.ready=P.st.ready ++ l:=by
 refine Goes.keeps (I:=fun R=>∃ l,R.st.ready=P.st.ready ++ l) hs (fun R q r k ⟨l,hl⟩ _ _ hp _=>?_) h ⟨[],by simp⟩;rw [turn_acc hp];exact ⟨l ++ [R.able.length],by simp [hl]⟩
theorem Xan {β:Type} {a b:List β} {l:List β} (h:b=a ++ l) {i:Nat} {x:β} (hx:a[i]? = some x):b[i]? = some x:=by
 rw [h,List.getElem?_append_left (List.getElem?_eq_some_iff.1 hx).1];exact hx
section
variable {nc m:Nat} {S:Nat→Xp Sh} {q:Nat→Nat} {r:Nat→Ask}
theorem Steps.step (h:Steps sched nc P Q S m q r) {i:Nat} (hi:i < m):∃ k:Told→Xx Sh Unit,S (i + 1)=⟨(S i).n,upd (S i).progs (q i) ((k ((S i).st.ans (r i))).pass (S i).st.sh).2,⟨((k ((S i).st.ans (r i))).pass (S i).st.sh).1,upd (S i).st.cells (r i).cell ((S i).st.ans (r i)).now,if (r i).cell∈(S i).st.names then (S i).st.names else (S i).st.names ++ [(r i).cell],(S i).st.log ++ [(S i).st.entry (q i) (r i)],(S i).st.went ++ [q i],(S i).st.ready ++ [(S i).able.length]⟩⟩:=by
 obtain ⟨_,_,_,⟨k,hk⟩,_,_,_,hs⟩:=h.who i hi;exact ⟨k,hs.trans (turn_acc hk)⟩
theorem Steps.lens (h:Steps sched nc P Q S m q r) (h0:P.st.log = []∧P.st.went = []∧P.st.ready = []):∀ i,i≤m→(S i).n=P.n∧(S i).st.log.length=i∧(S i).st.went.length=i∧(S i).st.ready.length=i:=by
 intro i
 induction i with
 | zero=>intro _;rw [h.first,h0.1,h0.2.1,h0.2.2];exact ⟨rfl,rfl,rfl,rfl⟩
 | succ i ih =>
  intro hi;obtain ⟨a0,a1,a2,a3⟩:=ih (by omega);obtain ⟨k,hk⟩:=h.step (show i < m by omega);rw [hk];exact ⟨a0,by simp [a1],by simp [a2],by simp [a3]⟩
theorem Steps.at_ (hs:Zs sched) (h:Steps sched nc P Q S m q r) (h0:P.st.log = []∧P.st.went = []∧P.st.ready = []) {i:Nat} (hi:i < m):Q.st.log[i]? = some ((S i).st.entry (q i) (r i))∧Q.st.went[i]? = some (q i)∧Q.st.ready[i]? = some (S i).able.length:=by
 obtain ⟨_,a1,a2,a3⟩:=h.lens h0 i (by omega);obtain ⟨k,hk⟩:=h.step hi;have hg:=h.goes (i + 1) (by omega);obtain ⟨l1,g1⟩:=hg.log hs;obtain ⟨l2,g2⟩:=hg.went hs;obtain ⟨l3,g3⟩:=hg.readyP hs;refine ⟨Xan g1 ?_,Xan g2 ?_,Xan g3 ?_⟩
 ·rw [hk];show ((S i).st.log ++ [(S i).st.entry (q i) (r i)])[i]? = _;rw [List.getElem?_append_right (by omega),a1];simp
 ·rw [hk];show ((S i).st.went ++ [q i])[i]? = _;rw [List.getElem?_append_right (by omega),a2];simp
 ·rw [hk];show ((S i).st.ready ++ [(S i).able.length])[i]? = _;rw [List.getElem?_append_right (by omega),a3];simp
theorem XcB {l:List Nat} {c:Nat} (h:c∈l) (f:Nat→Int):(l.map f)[l.idxOf c]? = some (f c):=by
 have hlt:=List.idxOf_lt_length_of_mem h;rw [List.getElem?_map,List.getElem?_eq_getElem hlt,List.getElem_idxOf hlt];rfl
theorem XcH {l:List Nat} (hl:l.Nodup) {c:Nat} (f:Nat→Int) (v:Int):l.map (upd f c v)=(l.map f).set (l.idxOf c) v:=by
 apply List.ext_getElem?;intro i;rw [List.getElem?_set,List.getElem?_map,List.length_map,List.getElem?_map]
 by_cases e:l.idxOf c=i
 ·rw [if_pos e]
  by_cases hi:i < l.length
  ·have hlt:l.idxOf c < l.length:=by omega
   rw [if_pos (by omega)];subst e;rw [List.getElem?_eq_getElem hlt,List.getElem_idxOf hlt];show some (upd f c v c)=_;rw [upd_same]
  ·rw [if_neg (by omega),List.getElem?_eq_none (by omega)];rfl
 ·rw [if_neg e]
  cases hx:l[i]? with
  | none=>rfl
  | some x =>
   show some (upd f c v x)=some (f x);have hne:x≠c:=fun e2=>by
    subst e2;have hi:=(List.getElem?_eq_some_iff.1 hx).1;have hg:l[i] = x:=(List.getElem?_eq_some_iff.1 hx).2
    have:=hl.idxOf_getElem i hi
    rw [hg] at this;exact e this
   rw [upd_ne _ _ hne]
theorem Xae {l:List Nat} {c:Nat} (h:c ∉ l) (f:Nat→Int) (v:Int):l.map (upd f c v)=l.map f:=by
 apply List.map_congr_left;intro x hx;exact upd_ne _ _ fun e=>h (e ▸ hx)
theorem Xfz (hs:Zs sched) (h:Goes sched P Q) (hQ:Q.Live):XP Q.st.log Q.left (Q.st.names.map P.st.cells) P.st.log.length P.n=P.able:=by
 unfold XP able;apply List.filter_congr;intro j hj;have hj:=List.mem_range.1 hj;obtain ⟨n1,n2⟩:=Xff hs h hQ hj;rcases h.live hs hQ j hj with ⟨r,k,e⟩|⟨v,e⟩
 ·obtain ⟨a,a1,a2,a3,a4,a5,a6,a7⟩:=n1 r k e
  rw [a1];unfold can;rw [e];show (decide (a.op≠6) || decide (Q2 _ a≠a.arg))=(decide (r.op≠6) || decide (P.st.cells r.cell≠r.arg))
  have:Q2 (Q.st.names.map P.st.cells) a=P.st.cells r.cell:=by
   unfold Q2
   by_cases hm:r.cell∈Q.st.names
   ·rw [a6,if_pos hm,if_pos (by omega),Int.toNat_natCast,List.getD_eq_getElem?_getD,XcB hm];rfl
   ·rw [if_neg (by rw [a6,if_neg hm];decide)];exact a7 hm
  rw [this,a3,a4]
 ·rw [n2 v e]
  unfold can;rw [e];rfl
theorem Uu {j:Nat} (hQ:Q.Live) (hj:j < Q.n):(Q.stands j).isSome=true∨(Q.progs j).ended=true∧Q.stands j=none:=by
 rcases hQ j hj with ⟨r,k,e⟩|⟨v,e⟩
 ·left;simp [stands,e,Xx.req]
 ·right;simp [stands,e,Xx.req,Xx.ended]
theorem Xcz (hQ:Q.Live):Q.over=true ↔ Q.left = []:=by
 unfold over left;rw [List.all_eq_true,List.filterMap_eq_nil_iff];refine ⟨fun h j hj=>?_,fun h j hj=>?_⟩
 ·have hjn:=List.mem_range.1 hj
  rcases Uu hQ hjn with e|e
  ·have h2:=h j hj
   rcases hQ j hjn with ⟨r,k,e2⟩|⟨v,e2⟩
   ·rw [e2] at h2;simp [Xx.ended] at h2
   ·simp [stands,e2,Xx.req] at e
  ·exact e.2
 ·have hjn:=List.mem_range.1 hj
  rcases Uu hQ hjn with e|e
  ·rw [h j hj] at e;simp at e
  ·exact e.1
theorem QA {β:Type} (f:Nat→Option β):∀ l:List Nat,(l.filter fun j=>(f j).isSome).length=(l.filterMap f).length
 | []=>rfl
 | j::l=>by
  have:=QA f l
  cases h:f j<;>simp [List.filter_cons,List.filterMap_cons,h,this]
theorem XcE {L left:List Xo} {j:Nat}:nextF L left j L.length=left.find? fun a=>a.thread == j:=by
 unfold nextF;rw [List.drop_length];rfl
theorem Xe8 (picks:List Int) (went l:List Nat) (last:Int) (hl:l≠[]) (h1:went = []→last = -1) (h2:∀ q,went.getLast? = some q→last=q):VM picks (l.map fun (j:Nat)=>(j:Int)) last went.length=(picked picks went l:Nat):=by
 unfold VM picked;rw [List.length_map];cases hp:picks[went.length]? with
 | some p =>
  simp only;have hlt:(p % (l.length:Int)).toNat < l.length:=by
   have hz:(0:Int) < l.length:=by have:=List.length_pos_iff.2 hl;omega
   have b1:=Int.emod_nonneg p (show (l.length:Int)≠0 by omega);have b2:=Int.emod_lt_of_pos p hz
   omega
  rw [List.getD_eq_getElem?_getD,List.getD_eq_getElem?_getD,List.getElem?_map,List.getElem?_eq_getElem hlt];rfl
 | none =>
  simp only;unfold QX;rw [List.find?_map];have hpred:(fun x=>decide (last < x)) ∘ (fun (j:Nat)=>(j:Int))=fun t=>match went.getLast? with|some q=>decide (q < t)|none=>true:=by
   funext t
   show decide (last < (t:Int))=_;cases hg:went.getLast? with
   | none=>rw [h1 (List.getLast?_eq_none_iff.1 hg)];simp;omega
   | some q=>rw [h2 q hg];simp
  rw [hpred];cases l with
  | nil=>exact absurd rfl hl
  | cons b l =>
   cases List.find? _ (b::l) with
   | none=>rfl
   | some x=>rfl
theorem Q1 (picks:List Int):Zs (picked picks):=fun went l hl=>by
 unfold picked;cases hp:picks[went.length]? with
 | some p =>
  simp only;have hlt:(p % (l.length:Int)).toNat < l.length:=by
   have hz:(0:Int) < l.length:=by have:=List.length_pos_iff.2 hl;omega
   have b1:=Int.emod_nonneg p (show (l.length:Int)≠0 by omega);have b2:=Int.emod_lt_of_pos p hz
   omega
  rw [List.getD_eq_getElem?_getD,List.getElem?_eq_getElem hlt];exact List.getElem_mem hlt
 | none =>
  simp only;cases hf:l.find? _ with
  | some x=>exact List.mem_of_find?_eq_some hf
  | none =>
   cases l with
   | nil=>exact absurd rfl hl
   | cons b l=>simp
def XfY (q:Nat→Nat):Nat→Int
 | 0=>-1
 | i + 1=>q i
theorem Steps.runOK {picks:List Int} {e most:Int} (h:Steps (picked picks) nc P Q S m q r) (h0:P.st.log = []∧P.st.went = []∧P.st.ready = []) (h1:P.st.names = []) (hQ:Q.Live) (he:e=1∧Q.over=true∨e=3∧Q.over=false∧Q.able = []∨e=2∧Q.over=false∧Q.able≠[]∧(Q.st.went.length:Int)=most) :
 Xej Q.st.log Q.left (Q.st.went.map fun (i:Nat)=>(i:Int)) (Q.st.ready.map fun (i:Nat)=>(i:Int)) picks Q.n Q.st.names.length e most (fun i=>Q.st.names.map (S i).st.cells) (XfY q):=by
 have hs:=Q1 picks;obtain ⟨z0,z1,z2,z3⟩:=h.lens h0 m (Nat.le_refl _);rw [h.last] at z0 z1 z2 z3;have hent:∀ (i:Nat) (a:Xo),Q.st.log[i]? = some a→i < m∧a=(S i).st.entry (q i) (r i):=fun i a ha=>by
  have hi:i < m:=by have:=(List.getElem?_eq_some_iff.1 ha).1;omega
  exact ⟨hi,by have:=(h.at_ hs h0 hi).1;rw [this] at ha;exact (Option.some.inj ha).symm⟩
 have habl:∀ i,i≤m→XP Q.st.log Q.left (Q.st.names.map (S i).st.cells) i Q.n=(S i).able:=fun i hi=>by
  obtain ⟨a0,a1,_,_⟩:=h.lens h0 i hi
  have:=Xfz hs (h.goes i hi) hQ
  rw [a1,a0,← z0] at this;exact this
 have hmem:∀ i,i < m→(r i).cell∈Q.st.names∧(S i).st.num (r i).cell=(Q.st.names.idxOf (r i).cell:Nat):=fun i hi=>by
  obtain ⟨k,hk⟩:=h.step hi;obtain ⟨l2,hl2⟩:=(h.goes (i + 1) (by omega)).names hs;have hnm:(S (i + 1)).st.names=if (r i).cell∈(S i).st.names then (S i).st.names else (S i).st.names ++ [(r i).cell]:=by rw [hk]
  have hin:(r i).cell∈(S (i + 1)).st.names:=by rw [hnm];split<;>simp [*]
  refine ⟨by rw [hl2];exact List.mem_append_left _ hin,?_⟩;rw [hl2,Xaj hin];unfold Rst.num;rw [hnm]
  split
  ·rfl
  ·rename_i hni
   rw [List.idxOf_append,if_neg hni,List.idxOf_eq_length hni];simp
 refine ⟨fun i _=>by simp,fun i a ha=>?_,fun i a ha=>?_,fun i a ha=>?_,fun i j a hi hn h2=>?_,?_,?_,fun e2=>?_⟩
 ·obtain ⟨hi,rfl⟩:=hent i a ha
  obtain ⟨_,_,w3,_,_,w6,_,_⟩:=h.who i hi;obtain ⟨a0,_⟩:=h.lens h0 i (by omega);refine ⟨by rw [z0,← a0];exact w3,?_,?_⟩
  ·have:=w6.hi;show (r i).op≠7;omega
  ·have:=w6.hi;show (r i).op≠8;omega
 ·obtain ⟨hi,rfl⟩:=hent i a ha
  obtain ⟨w1,w2,_⟩:=h.who i hi;obtain ⟨_,g2,g3⟩:=h.at_ hs h0 hi;obtain ⟨a0,a1,a2,a3⟩:=h.lens h0 i (by omega);have hne:(S i).able≠[]:=List.ne_nil_of_mem w2;show 0 < (XP _ _ (Q.st.names.map (S i).st.cells) i _).length∧_=some ((XP _ _ (Q.st.names.map (S i).st.cells) i _).length:Int)∧_∧VM picks ((XP _ _ (Q.st.names.map (S i).st.cells) i _).map _) _ i=_;rw [habl i (by omega)];refine ⟨List.length_pos_iff.2 hne,by rw [List.getElem?_map,g3];rfl,by rw [List.getElem?_map,g2];rfl,?_⟩
  have:=Xe8 picks (S i).st.went (S i).able (XfY q i) hne (fun e3=>by
   rw [e3] at a2
   have:i=0:=by simpa using a2.symm
   subst this;rfl) (fun p hp=>by
   cases i with
   | zero=>rw [List.length_eq_zero_iff.1 a2] at hp;cases hp
   | succ i =>
    obtain ⟨k,hk⟩:=h.step (show i < m by omega);rw [hk] at hp
    have:q i=p:=by simpa using hp
    subst this;rfl)
  rw [a2] at this;rw [this,← w1];rfl
 ·obtain ⟨hi,rfl⟩:=hent i a ha
  obtain ⟨m1,m2⟩:=hmem i hi;obtain ⟨k,hk⟩:=h.step hi;have hc:((S i).st.entry (q i) (r i)).cell=(Q.st.names.idxOf (r i).cell:Nat):=m2;refine ⟨rfl,by rw [hc];omega,by rw [hc,Int.toNat_natCast];exact List.idxOf_lt_length_of_mem m1,?_⟩;show Q.st.names.map (S (i + 1)).st.cells=(Q.st.names.map (S i).st.cells).set _ _;rw [hc,Int.toNat_natCast,hk];exact XcH ((h.goes 0 (by omega)).nodup hs (by rw [h.first,h1];exact List.nodup_nil):Q.st.names.Nodup) _ _
 ·unfold nextF at hn
  split at hn
  ·rename_i b hb
   obtain rfl:=Option.some.inj hn;have hb2:b∈Q.st.log:=List.mem_of_mem_drop (List.mem_of_find?_eq_some hb);obtain ⟨x,hx⟩:=List.getElem?_of_mem hb2;obtain ⟨hi2,rfl⟩:=hent x b hx;obtain ⟨m1,m2⟩:=hmem x hi2;have hc:((S x).st.entry (q x) (r x)).cell=(Q.st.names.idxOf (r x).cell:Nat):=m2;rw [hc,Int.toNat_natCast];exact List.idxOf_lt_length_of_mem m1
  ·have hmem2:=List.mem_of_find?_eq_some hn
   unfold left at hmem2;obtain ⟨j2,_,hj2⟩:=List.mem_filterMap.1 hmem2;unfold stands at hj2;cases hr:(Q.progs j2).req with
   | none=>rw [hr] at hj2;cases hj2
   | some r2 =>
    rw [hr] at hj2;obtain rfl:=Option.some.inj hj2;show (if r2.cell∈Q.st.names then Q.st.num r2.cell else (-1:Int)).toNat < _;replace h2:0≤(if r2.cell∈Q.st.names then Q.st.num r2.cell else (-1:Int)):=h2
    split at h2
    ·rename_i hin
     rw [if_pos hin];unfold Rst.num;rw [Int.toNat_natCast];exact List.idxOf_lt_length_of_mem hin
    ·omega
 ·unfold livesL left
  rw [← QA]
  congr 1
  apply List.filter_congr;intro j hj;rw [XcE];exact congrArg Option.isSome (UH (fun _ _=>trivial) (List.mem_range.1 hj))
 ·have hab:=habl m (Nat.le_refl _)
  rw [h.last] at hab;rw [z1];show e=if Q.left.length=0 then 1 else if (XP _ _ (Q.st.names.map (S m).st.cells) m _).length=0 then 3 else 2
  rw [h.last,hab];have ho:=Xcz hQ;rcases he with ⟨rfl,h1⟩|⟨rfl,h1,h2⟩|⟨rfl,h1,h2,_⟩
  ·rw [if_pos (by rw [ho.1 h1];rfl)]
  ·rw [if_neg (fun e2=>by rw [ho.2 (List.length_eq_zero_iff.1 e2)] at h1;cases h1),if_pos (by rw [h2];rfl)]
  ·rw [if_neg (fun e2=>by rw [ho.2 (List.length_eq_zero_iff.1 e2)] at h1;cases h1),if_neg (fun e2=>h2 (List.length_eq_zero_iff.1 e2))]
 ·rcases he with ⟨e3,_⟩|⟨e3,_⟩|⟨_,_,_,e3⟩
  ·omega
  ·omega
  ·rw [← e3,z1,z2]
theorem Steps.memOK (hs:Zs sched) (h:Steps sched nc P Q S m q r) (h0:P.st.log = []∧P.st.went = []∧P.st.ready = []) (h1:P.st.names = []) :
 XaA Q.st.log Q.left (fun i=>(S i).st.names.map (S i).st.cells) (fun i=>(S i).st.names.map P.st.cells):=by
 obtain ⟨z0,z1,z2,z3⟩:=h.lens h0 m (Nat.le_refl _);rw [h.last] at z0 z1 z2 z3;have hent:∀ (i:Nat) (a:Xo),Q.st.log[i]? = some a→i < m∧a=(S i).st.entry (q i) (r i):=fun i a ha=>by
  have hi:i < m:=by have:=(List.getElem?_eq_some_iff.1 ha).1;omega
  exact ⟨hi,by have:=(h.at_ hs h0 hi).1;rw [this] at ha;exact (Option.some.inj ha).symm⟩
 have hnd:∀ i,i≤m→(S i).st.names.Nodup∧∀ c,c ∉ (S i).st.names→(S i).st.cells c=P.st.cells c:=by
  intro i
  induction i with
  | zero=>intro _;rw [h.first,h1];exact ⟨List.nodup_nil,fun _ _=>rfl⟩
  | succ i ih =>
   intro hi;obtain ⟨i1,i2⟩:=ih (by omega);obtain ⟨k,hk⟩:=h.step (show i < m by omega);rw [hk];refine ⟨?_,fun c hc=>?_⟩
   ·show (if (r i).cell∈(S i).st.names then (S i).st.names else (S i).st.names ++ [(r i).cell]).Nodup
    split
    ·exact i1
    ·rename_i hn
     exact List.nodup_append.2 ⟨i1,by simp,fun a ha b hb e2=>by rw [List.mem_singleton.1 hb] at e2;exact hn (e2 ▸ ha)⟩
   ·replace hc:c ∉ (if (r i).cell∈(S i).st.names then (S i).st.names else (S i).st.names ++ [(r i).cell]):=hc
    show upd (S i).st.cells (r i).cell _ c=_;have e1:c ∉ (S i).st.names:=fun e=>hc (by split<;>simp [e]);have e2:c≠(r i).cell:=fun e=>hc (by rw [e];split<;>simp [*]);rw [upd_ne _ _ e2];exact i2 c e1
 refine ⟨by show (S 0).st.names.map _ = [];rw [h.first,h1];rfl,by show (S 0).st.names.map _ = [];rw [h.first,h1];rfl,fun i a ha=>?_,fun i a ha=>?_,fun a ha=>?_⟩
 ·obtain ⟨hi,rfl⟩:=hent i a ha
  obtain ⟨_,_,_,_,w5,w6,_,_⟩:=h.who i hi;exact ⟨⟨w6.lo,w6.hi⟩,w6.cas,w6.load,rfl,fun ⟨e1,e2⟩=>w5 e1 e2⟩
 ·obtain ⟨hi,rfl⟩:=hent i a ha
  obtain ⟨k,hk⟩:=h.step hi;obtain ⟨n1,n2⟩:=hnd i (by omega);refine ⟨(S i).st.names.idxOf (r i).cell,rfl,?_⟩;have hnm:(S (i + 1)).st.names=if (r i).cell∈(S i).st.names then (S i).st.names else (S i).st.names ++ [(r i).cell]:=by rw [hk]
  have hcl:(S (i + 1)).st.cells=upd (S i).st.cells (r i).cell ((S i).st.ans (r i)).now:=by rw [hk]
  by_cases hin:(r i).cell∈(S i).st.names
  ·right
   refine ⟨XcB hin _,?_,?_⟩
   ·show (S (i + 1)).st.names.map _=_
    rw [hnm,if_pos hin,hcl];exact XcH n1 _ _
   ·show (S (i + 1)).st.names.map _=_
    rw [hnm,if_pos hin]
  ·left
   refine ⟨by rw [List.idxOf_eq_length hin];simp,?_,?_⟩
   ·show (S (i + 1)).st.names.map _=_
    rw [hnm,if_neg hin,hcl,List.map_append,Xae hin];show _ ++ [upd _ _ _ _] = _;rw [upd_same];rfl
   ·show (S (i + 1)).st.names.map _=_
    rw [hnm,if_neg hin,List.map_append];show _ ++ [P.st.cells (r i).cell] = _ ++ [(S i).st.cells (r i).cell];rw [n2 _ hin]
 ·unfold left at ha
  obtain ⟨j2,_,hj2⟩:=List.mem_filterMap.1 ha;unfold stands at hj2;cases hr:(Q.progs j2).req with
  | none=>rw [hr] at hj2;cases hj2
  | some r2 =>
   rw [hr] at hj2;obtain rfl:=Option.some.inj hj2;show -1≤(if r2.cell∈Q.st.names then Q.st.num r2.cell else (-1:Int))∧(if r2.cell∈Q.st.names then Q.st.num r2.cell else (-1:Int)) < (((S Q.st.log.length).st.names.map (S Q.st.log.length).st.cells).length:Nat)∧(0≤(if r2.cell∈Q.st.names then Q.st.num r2.cell else (-1:Int))→((S Q.st.log.length).st.names.map (S Q.st.log.length).st.cells)[(if r2.cell∈Q.st.names then Q.st.num r2.cell else (-1:Int)).toNat]? = some (Q.st.cells r2.cell))∧_∧_;rw [z1,h.last,List.length_map]
   by_cases hin:r2.cell∈Q.st.names
   ·rw [if_pos hin]
    unfold Rst.num
    have:=List.idxOf_lt_length_of_mem hin
    refine ⟨by omega,by omega,fun _=>?_,rfl,rfl⟩;rw [Int.toNat_natCast];exact XcB hin _
   ·rw [if_neg hin]
    exact ⟨by omega,by omega,fun h=>by omega,rfl,rfl⟩
