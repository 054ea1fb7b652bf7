/- What is held of a trace while one goroutine holds the token: no data race; the holder knows every touch of memory but for reads, by those who have given the token away, of cells that each of them keeps by itself; to each of them the writes of its own kept cells are known. -/
import Derived.RowKit
import Derived.Conc.Token
import Derived.Conc.Beside
set_option linter.all false
set_option maxRecDepth 100000
set_option maxHeartbeats 16000000
namespace Go.Proofs.Ytdhnggjmegilkaa
open Go.Conc Go.RowKit
open Go.ConcN (upd upd_same upd_ne)
structure Ask where
 op:Int
 cell:Nat
 arg:Int
 new:Int
structure Ask.Good (r:Ask):Prop where
 lo:1≤r.op
 hi:r.op≤6
 load:r.op=1→r.arg=0
 cas:r.op≠3→r.new=0
structure Told where
 was:Int
 now:Int
 ok:Bool
structure Xo where
 thread:Nat
 op:Int
 cell:Int
 arg:Int
 new:Int
 was:Int
 now:Int
 ok:Bool
inductive Xx (Sh:Type) (α:Type) where
 | ret (a:α)
 | fall
 | out
 | acc (r:Ask) (k:Told→Xx Sh α)
 | act (f:Sh→Sh) (k:Sh→Xx Sh α)
namespace Xx
variable {Sh α β:Type}
def bind (g:α→Xx Sh β):Xx Sh α→Xx Sh β
 | .ret a=>g a
 | .fall=>.fall
 | .out=>.out
 | .acc r k=>.acc r fun a=>(k a).bind g
 | .act f k=>.act f fun s=>(k s).bind g
def pass:Xx Sh α→Sh→Sh × Xx Sh α
 | .act f k,s=>(k s).pass (f s)
 | p,s=>(s,p)
def req:Xx Sh α→Option Ask
 | .acc r _=>some r
 | _=>none
def ended:Xx Sh α→Bool
 | .ret _=>true
 | .fall=>true
 | _=>false
end Xx
def behind (op was arg new:Int):Int × Bool :=
 if op=2∨op=5 then (arg,false) else if op=4 then (wrap64 (was + arg),false) else if op=3∧was=arg then (new,true) else (was,false)
structure Rst (Sh:Type) where
 sh:Sh
 cells:Nat→Int
 names:List Nat
 log:List Xo
 went:List Nat
 ready:List Nat
namespace Rst
variable {Sh:Type}
def num (s:Rst Sh) (c:Nat):Int:=(s.names.idxOf c:Nat)
def ans (s:Rst Sh) (r:Ask):Told:=⟨s.cells r.cell,(behind r.op (s.cells r.cell) r.arg r.new).1,(behind r.op (s.cells r.cell) r.arg r.new).2⟩
def entry (s:Rst Sh) (i:Nat) (r:Ask):Xo:=⟨i,r.op,s.num r.cell,r.arg,r.new,(s.ans r).was,(s.ans r).now,(s.ans r).ok⟩
def access (s:Rst Sh) (i:Nat) (r:Ask):Rst Sh :=
 { s with cells:=upd s.cells r.cell (s.ans r).now,names:=if r.cell∈s.names then s.names else s.names ++ [r.cell],log:=s.log ++ [s.entry i r] }
end Rst
structure Xp (Sh:Type) where
 n:Nat
 progs:Nat→Xx Sh Unit
 st:Rst Sh
namespace Xp
variable {Sh:Type}
def can (P:Xp Sh) (i:Nat):Bool :=
 match (P.progs i).req with
 | some r=>decide (r.op≠6) || decide (P.st.cells r.cell≠r.arg)
 | none=>false
def able (P:Xp Sh):List Nat:=(List.range P.n).filter P.can
def over (P:Xp Sh):Bool:=(List.range P.n).all fun i=>(P.progs i).ended
def settle (P:Xp Sh) (i:Nat) (p:Xx Sh Unit):Xp Sh :=
 { P with progs:=upd P.progs i (p.pass P.st.sh).2,st:={ P.st with sh:=(p.pass P.st.sh).1 } }
def goes (P:Xp Sh) (i:Nat):Xp Sh :=
 match P.progs i with
 | .acc r k=>settle { P with st:=P.st.access i r } i (k (P.st.ans r))
 | _=>P
def turn (P:Xp Sh) (i:Nat):Xp Sh :=
 goes { P with st:={ P.st with went:=P.st.went ++ [i],ready:=P.st.ready ++ [P.able.length] } } i
def start (P:Xp Sh):List (Xx Sh Unit)→Xp Sh
 | []=>P
 | p::l=>start (settle { P with n:=P.n + 1 } P.n p) l
def runs (sched:List Nat→List Nat→Nat):Nat→Xp Sh→Int × Xp Sh
 | m,P=>if P.over then (1,P) else if P.able = [] then (3,P) else
  match m with
  | 0=>(2,P)
  | m + 1=>runs sched m (P.turn (sched P.st.went P.able))
def stands (P:Xp Sh) (i:Nat):Option Xo :=
 (P.progs i).req.map fun r=>⟨i,r.op,if r.cell∈P.st.names then P.st.num r.cell else -1,r.arg,r.new,P.st.cells r.cell,P.st.cells r.cell,false⟩
def left (P:Xp Sh):List Xo:=(List.range P.n).filterMap P.stands
end Xp
def picked (picks:List Int) (went l:List Nat):Nat :=
 match picks[went.length]? with
 | some p=>l.getD (p % (l.length:Int)).toNat 0
 | none=>(l.find? fun t=>match went.getLast? with | some q=>decide (q < t) | none=>true).getD (l.headD 0)
end Go.Proofs.Ytdhnggjmegilkaa
namespace Go.Proofs.Ytdhnggjmegilkaa
open Go.Conc
structure QE (Sl:Nat→Loc→Prop) (Loose:Nat→Prop) (B h:Nat) (t:Trace):Prop where
 clean:∀ said,¬ Race said t
 known:∀ i a,touchAt t i=some a→a.loc.isMemory=true→Knows t h i∨(a.write=false∧∃ g,t.g? i=some g∧Loose g∧Sl g a.loc)
 wrote:∀ g,Loose g→∀ i a,touchAt t i=some a→a.write=true→Sl g a.loc→Knows t g i
 hears:∀ g,Loose g→Deaf t g=0
 seen:∀ op∈t,op.act.low B
section
variable {Sl:Nat→Loc→Prop} {Loose:Nat→Prop} {B h:Nat} {t u:Trace}
theorem QE.mono {B':Nat} (H:QE Sl Loose B h t) (hB:B≤B'):QE Sl Loose B' h t:=⟨H.clean,H.known,H.wrote,H.hears,fun op hop=>MemAct.low_mono hB (H.seen op hop)⟩
theorem QE.old (H:QE Sl Loose B h t) {i:Nat} {a:Touch} {x:MemOp} (hx:t[i]? = some x) (hxa:x.act.touch? = some a) (hm:a.loc.isMemory=true) :
 Knows (t ++ u) h i∨(a.write=false∧∃ g,(t ++ u).g? i=some g∧Loose g∧Sl g a.loc) :=
 (H.known i a (by rw [touchAt_of hx];exact hxa) hm).imp (·.app u) fun ⟨p,g,hg,hl⟩=>⟨p,g,by rw [g?_old (lt_size_of_getElem? hx)];exact hg,hl⟩
theorem QE.oldHears {g:Nat} (H:QE Sl Loose B h t) (hu:∀ op∈u,op.g=g) (hd:Loose g→Deaf (t ++ u) g=Deaf t g):∀ g',Loose g'→Deaf (t ++ u) g'=0:=fun g' hg'=>by
 by_cases e:g'=g
 ·subst e;exact (hd hg').trans (H.hears g' hg')
 ·exact (Deaf_other t (fun x=>e x.symm) u hu).trans (H.hears g' hg')
theorem QE.own (H:QE Sl Loose B h t) (hu:∀ op∈u,op.g=h) (hs:∀ op∈u,∀ b,op.act.touch? = some b→b.write=true→∀ g,Loose g→¬ Sl g b.loc) (hhl:¬ Loose h) (hl:∀ op∈u,op.act.low B) :
 QE Sl Loose B h (t ++ u):=by
 refine ⟨fun said=>noRace_append (H.clean said) hu fun i a ha op hop b hb hc=>?_,fun i a ha hm=>?_,fun g hg i a ha hw hS=>?_,H.oldHears hu (fun z=>absurd z hhl),seen_app H.seen hl⟩
 ·rcases H.known i a ha hc.2.1 with hk|⟨hw,g,_,hL,hS⟩
  ·exact hk
  ·exfalso
   rcases hc.2.2.1 with x|x
   ·rw [hw] at x;cases x
   ·exact hs op hop b hb x g hL (hc.1 ▸ hS)
 ·obtain ⟨x,hx,hxa⟩:=touch_of ha
  rcases getElem?_append_cases hx with ⟨_,hx'⟩|⟨_,hxu⟩
  ·exact H.old hx' hxa hm
  ·have:=knows_own hx
   rw [hu x hxu] at this;exact .inl this
 ·obtain ⟨x,hx,hxa⟩:=touch_of ha
  rcases getElem?_append_cases hx with ⟨_,hx'⟩|⟨_,hxu⟩
  ·exact (H.wrote g hg i a (by rw [touchAt_of hx'];exact hxa) hw hS).app u
  ·exact absurd hS (hs x hxu a hxa hw g hg)
theorem QE.mute {g:Nat} (H:QE Sl Loose B h t) (hu:∀ op∈u,op.g=g) (hn:∀ op∈u,op.act.touch? = none) (hd:Loose g→Deaf (t ++ u) g=Deaf t g) (hl:∀ op∈u,op.act.low B):QE Sl Loose B h (t ++ u):=by
 refine ⟨fun said=>noRace_append (H.clean said) hu fun i a _ op hop b hb _=>(by rw [hn op hop] at hb;cases hb),fun i a ha hm=>?_,fun g hg i a ha hw hS=>?_,H.oldHears hu hd,seen_app H.seen hl⟩
 ·obtain ⟨x,hx,hxa⟩:=touch_of ha
  rcases getElem?_append_cases hx with ⟨_,hx'⟩|⟨_,hxu⟩
  ·exact H.old hx' hxa hm
  ·rw [hn x hxu] at hxa;cases hxa
 ·obtain ⟨x,hx,hxa⟩:=touch_of ha
  rcases getElem?_append_cases hx with ⟨_,hx'⟩|⟨_,hxu⟩
  ·exact (H.wrote g hg i a (by rw [touchAt_of hx'];exact hxa) hw hS).app u
  ·rw [hn x hxu] at hxa;cases hxa
theorem QE.read {g:Nat} (H:QE Sl Loose B h t) (hL:Loose g) (hu:∀ op∈u,op.g=g) (hr:∀ op∈u,∀ b,op.act.touch? = some b→b.write=false∧Sl g b.loc) (hd:Loose g→Deaf (t ++ u) g=Deaf t g)
 (hl:∀ op∈u,op.act.low B):QE Sl Loose B h (t ++ u):=by
 refine ⟨fun said=>noRace_append (H.clean said) hu fun i a ha op hop b hb hc=>?_,fun i a ha hm=>?_,fun g' hg' i a ha hw hS=>?_,H.oldHears hu hd,seen_app H.seen hl⟩
 ·obtain ⟨hb0,hbS⟩:=hr op hop b hb
  rcases hc.2.2.1 with x|x
  ·exact H.wrote g hL i a ha x (hc.1 ▸ hbS)
  ·rw [hb0] at x;cases x
 ·obtain ⟨x,hx,hxa⟩:=touch_of ha
  rcases getElem?_append_cases hx with ⟨_,hx'⟩|⟨_,hxu⟩
  ·exact H.old hx' hxa hm
  ·exact .inr ⟨(hr x hxu a hxa).1,g,by rw [g?_of hx,hu x hxu],hL,(hr x hxu a hxa).2⟩
 ·obtain ⟨x,hx,hxa⟩:=touch_of ha
  rcases getElem?_append_cases hx with ⟨_,hx'⟩|⟨_,hxu⟩
  ·exact (H.wrote g' hg' i a (by rw [touchAt_of hx'];exact hxa) hw hS).app u
  ·rw [(hr x hxu a hxa).1] at hw;cases hw
theorem QE.give {j:Nat} {Sl':Nat→Loc→Prop} {Loose':Nat→Prop} (H:QE Sl Loose B h t) (hh:Deaf t h=0) (hj:Loose j) (hS:∀ g,g≠h→g≠j→Sl' g=Sl g) (hSm:∀ l,Sl' h l→l.isMemory=true) (hhl:¬ Loose h)
 (hL:∀ g,g≠h→(Loose' g ↔ Loose g∧g≠j)) (fh:FuncId) (ph:String) (fj:FuncId) (pj:String) {c:Nat} (k cap:Nat) (hc:c < B) :
 QE Sl' Loose' B j (t ++ met h j fh ph fj pj c k cap):=by
 have hn:=met_mute h j fh ph fj pj c k cap;have hq:=met_quiet h j fh ph fj pj c k cap;have e0:(t ++ met h j fh ph fj pj c k cap)[t.size]? = some { g:=h,fn:=fh,pos:=ph,act:=.send c k }:=by simp [met]
 have e3:(t ++ met h j fh ph fj pj c k cap)[t.size + 3]? = some { g:=j,fn:=fj,pos:=pj,act:=.recvDone c k }:=by simp [met]
 have edge:HappensBefore (t ++ met h j fh ph fj pj c k cap) t.size (t.size + 3) :=
  Relation.TransGen.single (.inr ⟨.handOver (act?_of e0) (act?_of e3),⟨h,g?_of e0,by rw [deaf_old (Nat.le_refl _)];exact hh⟩,⟨j,g?_of e3,by rw [deaf_quiet (hq j) 3 (by simp [met])];exact H.hears j hj⟩⟩)
 refine ⟨fun said=>noRace_appendMute (H.clean said) hn,fun i a ha hm=>?_,fun g hg i a ha hw hSg=>?_,fun g hg=>(Deaf_quiet (hq g)).trans (by by_cases e:g=h;exact e ▸ hh;exact H.hears g ((hL g e).1 hg).1),seen_app H.seen fun op hop=>?_⟩
 ·obtain ⟨x,hx,hxa⟩:=touch_of ha
  rcases getElem?_append_cases hx with ⟨hi,hx'⟩|⟨_,hxu⟩
  ·rcases H.known i a (by rw [touchAt_of hx'];exact hxa) hm with hk|⟨p,g,hg,hl,hs⟩
   ·exact .inl ⟨t.size + 3,_,e3,rfl,.inr ((hk.hb_new (Nat.le_refl _) e0 rfl).trans edge)⟩
   ·by_cases e:g=j
    ·subst e
     have:=knows_own hx
     rw [show x.g=g from by have:=g?_of hx';rw [hg] at this;exact (Option.some.inj this).symm] at this;exact .inl this
    ·have hgh:g≠h:=fun z=>hhl (z ▸ hl)
     exact .inr ⟨p,g,by rw [g?_old hi];exact hg,(hL g hgh).2 ⟨hl,e⟩,by rw [hS g hgh e];exact hs⟩
  ·rw [hn x hxu] at hxa;cases hxa
 ·obtain ⟨x,hx,hxa⟩:=touch_of ha
  rcases getElem?_append_cases hx with ⟨_,hx'⟩|⟨_,hxu⟩
  ·have hold:touchAt t i=some a:=by rw [touchAt_of hx'];exact hxa
   by_cases e:g=h
   ·subst e
    rcases H.known i a hold (hSm _ hSg) with hk|⟨p,_⟩
    ·exact hk.app _
    ·rw [p] at hw;cases hw
   ·obtain ⟨hl,hgj⟩:=(hL g e).1 hg
    exact (H.wrote g hl i a hold hw (by rw [← hS g e hgj];exact hSg)).app _
  ·rw [hn x hxu] at hxa;cases hxa
 ·simp only [met,List.mem_toArray,List.mem_cons,List.not_mem_nil,or_false] at hop
  rcases hop with rfl|rfl|rfl|rfl<;>exact hc
theorem QE.hire {c:Nat} {Sl':Nat→Loc→Prop} {Loose':Nat→Prop} (H:QE Sl Loose B h t) (hh:Deaf t h=0) (hc0:Deaf t c=0) (hcl:¬ Loose c) (hS:∀ g,g≠c→Sl' g=Sl g) (hSm:∀ l,Sl' c l→l.isMemory=true)
 (hL:∀ g,g≠c→(Loose' g ↔ Loose g)) (fh:FuncId) (ph:String) (fc:FuncId) :
 QE Sl' Loose' B h (t ++ #[{ g:=h,fn:=fh,pos:=ph,act:=.go c },{ g:=c,fn:=fc,pos:=ph,act:=.start }]):=by
 generalize hu:(#[{ g:=h,fn:=fh,pos:=ph,act:=.go c },{ g:=c,fn:=fc,pos:=ph,act:=.start }]:Trace)=u;have hn:∀ op∈u,op.act.touch? = none:=by
  intro op hop;subst hu;simp only [List.mem_toArray,List.mem_cons,List.not_mem_nil,or_false] at hop;rcases hop with rfl|rfl<;>rfl
 have hq:∀ g,∀ op∈u,∀ d,deafStep g d op=d:=by
  intro g op hop d;subst hu;simp only [List.mem_toArray,List.mem_cons,List.not_mem_nil,or_false] at hop;rcases hop with rfl|rfl<;>rfl
 have e0:(t ++ u)[t.size]? = some { g:=h,fn:=fh,pos:=ph,act:=.go c }:=by subst hu;simp
 have e1:(t ++ u)[t.size + 1]? = some { g:=c,fn:=fc,pos:=ph,act:=.start }:=by subst hu;simp
 have edge:HappensBefore (t ++ u) t.size (t.size + 1) :=
  Relation.TransGen.single (.inr ⟨.spawn (act?_of e0) (act?_of e1) (g?_of e1),⟨h,g?_of e0,by rw [deaf_old (Nat.le_refl _)];exact hh⟩,⟨c,g?_of e1,by rw [deaf_quiet (hq c) 1 (by subst hu;simp)];exact hc0⟩⟩)
 refine ⟨fun said=>noRace_appendMute (H.clean said) hn,fun i a ha hm=>?_,fun g hg i a ha hw hSg=>?_,fun g hg=>(Deaf_quiet (hq g)).trans (by by_cases e:g=c;exact e ▸ hc0;exact H.hears g ((hL g e).1 hg)),seen_app H.seen fun op hop=>?_⟩
 ·obtain ⟨x,hx,hxa⟩:=touch_of ha
  rcases getElem?_append_cases hx with ⟨_,hx'⟩|⟨_,hxu⟩
  ·refine (H.old hx' hxa hm).imp id fun ⟨p,g,hg,hl,hs⟩=>?_
   have hgc:g≠c:=fun z=>hcl (z ▸ hl);exact ⟨p,g,hg,(hL g hgc).2 hl,by rw [hS g hgc];exact hs⟩
  ·rw [hn x hxu] at hxa;cases hxa
 ·obtain ⟨x,hx,hxa⟩:=touch_of ha
  rcases getElem?_append_cases hx with ⟨_,hx'⟩|⟨_,hxu⟩
  ·have hold:touchAt t i=some a:=by rw [touchAt_of hx'];exact hxa
   by_cases e:g=c
   ·subst e
    rcases H.known i a hold (hSm _ hSg) with hk|⟨p,_⟩
    ·exact ⟨t.size + 1,_,e1,rfl,.inr ((hk.hb_new (Nat.le_refl _) e0 rfl).trans edge)⟩
    ·rw [p] at hw;cases hw
   ·exact (H.wrote g ((hL g e).1 hg) i a hold hw (by rw [← hS g e];exact hSg)).app u
  ·rw [hn x hxu] at hxa;cases hxa
 ·subst hu
  simp only [List.mem_toArray,List.mem_cons,List.not_mem_nil,or_false] at hop;rcases hop with rfl|rfl<;>trivial
theorem QE.past (H:QE Sl Loose B 0 t) (h0:Deaf t 0=0) (hL:∀ g,¬ Loose g):Past (fun _=>False) B t:=by
 have hk:∀ i a,touchAt t i=some a→a.loc.isMemory=true→Knows t 0 i:=fun i a ha hm=>(H.known i a ha hm).elim id fun ⟨_,g,_,hl,_⟩=>absurd hl (hL g);refine ⟨H.clean,fun i a ha hm=>.inl (hk i a ha hm),fun i g hg hne ⟨x,hx,hm,_⟩=>?_,h0,H.seen⟩;obtain ⟨q,z,hq,hz,hb⟩:=hk i x hx hm;rcases hb with rfl|hb
 ·rw [g?_of hq,hz] at hg
  exact absurd (Option.some.inj hg).symm hne
 ·exact ⟨q,by rw [g?_of hq,hz],hb⟩
theorem Xd4 (Sl:Nat→Loc→Prop) (Loose:Nat→Prop) (h:Nat):QE Sl Loose 0 h #[] :=
 ⟨fun said=>by rintro ⟨i,j,_,⟨a,b,ha,_⟩,_⟩;simp [Trace.act?] at ha,fun i a ha=>by simp [touchAt,Trace.act?] at ha,fun g _ i a ha=>by simp [touchAt,Trace.act?] at ha,fun _ _=>rfl,by simp⟩
