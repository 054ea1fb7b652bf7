/- A machine of goroutines of which one holds the token; every other only leaves, or has a chair: a channel of its own, without a buffer, at whose receive it is parked or to which it is on its way, reading none but cells that it keeps. -/
import Derived.RowKit
import Derived.Conc.Token
import Derived.Conc.Beside
set_option linter.all false
set_option maxRecDepth 100000
set_option maxHeartbeats 16000000
namespace Go.Proofs.Ytdgfekplfipekaa
open Go.Conc Go.RowKit
open Go.ConcN (upd upd_same upd_ne)
structure Ask where
 op:Int
 cell:Nat
 arg:Int
 new:Int
structure Ask.Good (r:Ask):Prop where
 lo:1≤r.op
 hi:r.op≤6
 load:r.op=1→r.arg=0
 cas:r.op≠3→r.new=0
structure Told where
 was:Int
 now:Int
 ok:Bool
structure Xo where
 thread:Nat
 op:Int
 cell:Int
 arg:Int
 new:Int
 was:Int
 now:Int
 ok:Bool
inductive Xx (Sh:Type) (α:Type) where
 | ret (a:α)
 | fall
 | out
 | acc (r:Ask) (k:Told→Xx Sh α)
 | act (f:Sh→Sh) (k:Sh→Xx Sh α)
namespace Xx
variable {Sh α β:Type}
def bind (g:α→Xx Sh β):Xx Sh α→Xx Sh β
 | .ret a=>g a
 | .fall=>.fall
 | .out=>.out
 | .acc r k=>.acc r fun a=>(k a).bind g
 | .act f k=>.act f fun s=>(k s).bind g
def pass:Xx Sh α→Sh→Sh × Xx Sh α
 | .act f k,s=>(k s).pass (f s)
 | p,s=>(s,p)
def req:Xx Sh α→Option Ask
 | .acc r _=>some r
 | _=>none
def ended:Xx Sh α→Bool
 | .ret _=>true
 | .fall=>true
 | _=>false
end Xx
def behind (op was arg new:Int):Int × Bool :=
 if op=2∨op=5 then (arg,false) else if op=4 then (wrap64 (was + arg),false) else if op=3∧was=arg then (new,true) else (was,false)
structure Rst (Sh:Type) where
 sh:Sh
 cells:Nat→Int
 names:List Nat
 log:List Xo
 went:List Nat
 ready:List Nat
namespace Rst
variable {Sh:Type}
def num (s:Rst Sh) (c:Nat):Int:=(s.names.idxOf c:Nat)
def ans (s:Rst Sh) (r:Ask):Told:=⟨s.cells r.cell,(behind r.op (s.cells r.cell) r.arg r.new).1,(behind r.op (s.cells r.cell) r.arg r.new).2⟩
def entry (s:Rst Sh) (i:Nat) (r:Ask):Xo:=⟨i,r.op,s.num r.cell,r.arg,r.new,(s.ans r).was,(s.ans r).now,(s.ans r).ok⟩
def access (s:Rst Sh) (i:Nat) (r:Ask):Rst Sh :=
 { s with cells:=upd s.cells r.cell (s.ans r).now,names:=if r.cell∈s.names then s.names else s.names ++ [r.cell],log:=s.log ++ [s.entry i r] }
end Rst
structure Xp (Sh:Type) where
 n:Nat
 progs:Nat→Xx Sh Unit
 st:Rst Sh
namespace Xp
variable {Sh:Type}
def can (P:Xp Sh) (i:Nat):Bool :=
 match (P.progs i).req with
 | some r=>decide (r.op≠6) || decide (P.st.cells r.cell≠r.arg)
 | none=>false
def able (P:Xp Sh):List Nat:=(List.range P.n).filter P.can
def over (P:Xp Sh):Bool:=(List.range P.n).all fun i=>(P.progs i).ended
def settle (P:Xp Sh) (i:Nat) (p:Xx Sh Unit):Xp Sh :=
 { P with progs:=upd P.progs i (p.pass P.st.sh).2,st:={ P.st with sh:=(p.pass P.st.sh).1 } }
def goes (P:Xp Sh) (i:Nat):Xp Sh :=
 match P.progs i with
 | .acc r k=>settle { P with st:=P.st.access i r } i (k (P.st.ans r))
 | _=>P
def turn (P:Xp Sh) (i:Nat):Xp Sh :=
 goes { P with st:={ P.st with went:=P.st.went ++ [i],ready:=P.st.ready ++ [P.able.length] } } i
def start (P:Xp Sh):List (Xx Sh Unit)→Xp Sh
 | []=>P
 | p::l=>start (settle { P with n:=P.n + 1 } P.n p) l
def runs (sched:List Nat→List Nat→Nat):Nat→Xp Sh→Int × Xp Sh
 | m,P=>if P.over then (1,P) else if P.able = [] then (3,P) else
  match m with
  | 0=>(2,P)
  | m + 1=>runs sched m (P.turn (sched P.st.went P.able))
def stands (P:Xp Sh) (i:Nat):Option Xo :=
 (P.progs i).req.map fun r=>⟨i,r.op,if r.cell∈P.st.names then P.st.num r.cell else -1,r.arg,r.new,P.st.cells r.cell,P.st.cells r.cell,false⟩
def left (P:Xp Sh):List Xo:=(List.range P.n).filterMap P.stands
end Xp
def picked (picks:List Int) (went l:List Nat):Nat :=
 match picks[went.length]? with
 | some p=>l.getD (p % (l.length:Int)).toNat 0
 | none=>(l.find? fun t=>match went.getLast? with | some q=>decide (q < t) | none=>true).getD (l.headD 0)
end Go.Proofs.Ytdgfekplfipekaa
namespace Go.Proofs.Ytdgfekplfipekaa
open Go.Conc
structure QE (Sl:Nat→Loc→Prop) (Loose:Nat→Prop) (B h:Nat) (t:Trace):Prop where
 clean:∀ said,¬ Race said t
 known:∀ i a,touchAt t i=some a→a.loc.isMemory=true→Knows t h i∨(a.write=false∧∃ g,t.g? i=some g∧Loose g∧Sl g a.loc)
 wrote:∀ g,Loose g→∀ i a,touchAt t i=some a→a.write=true→Sl g a.loc→Knows t g i
 hears:∀ g,Loose g→Deaf t g=0
 seen:∀ op∈t,op.act.low B
section
variable {Sl:Nat→Loc→Prop} {Loose:Nat→Prop} {B h:Nat} {t u:Trace}
theorem QE.mono {B':Nat} (H:QE Sl Loose B h t) (hB:B≤B'):QE Sl Loose B' h t:=⟨H.clean,H.known,H.wrote,H.hears,fun op hop=>MemAct.low_mono hB (H.seen op hop)⟩
theorem QE.old (H:QE Sl Loose B h t) {i:Nat} {a:Touch} {x:MemOp} (hx:t[i]? = some x) (hxa:x.act.touch? = some a) (hm:a.loc.isMemory=true) :
 Knows (t ++ u) h i∨(a.write=false∧∃ g,(t ++ u).g? i=some g∧Loose g∧Sl g a.loc) :=
 (H.known i a (by rw [touchAt_of hx];exact hxa) hm).imp (·.app u) fun ⟨p,g,hg,hl⟩=>⟨p,g,by rw [g?_old (lt_size_of_getElem? hx)];exact hg,hl⟩
theorem QE.oldHears {g:Nat} (H:QE Sl Loose B h t) (hu:∀ op∈u,op.g=g) (hd:Loose g→Deaf (t ++ u) g=Deaf t g):∀ g',Loose g'→Deaf (t ++ u) g'=0:=fun g' hg'=>by
 by_cases e:g'=g
 ·subst e;exact (hd hg').trans (H.hears g' hg')
 ·exact (Deaf_other t (fun x=>e x.symm) u hu).trans (H.hears g' hg')
theorem QE.own (H:QE Sl Loose B h t) (hu:∀ op∈u,op.g=h) (hs:∀ op∈u,∀ b,op.act.touch? = some b→b.write=true→∀ g,Loose g→¬ Sl g b.loc) (hhl:¬ Loose h) (hl:∀ op∈u,op.act.low B) :
 QE Sl Loose B h (t ++ u):=by
 refine ⟨fun said=>noRace_append (H.clean said) hu fun i a ha op hop b hb hc=>?_,fun i a ha hm=>?_,fun g hg i a ha hw hS=>?_,H.oldHears hu (fun z=>absurd z hhl),seen_app H.seen hl⟩
 ·rcases H.known i a ha hc.2.1 with hk|⟨hw,g,_,hL,hS⟩
  ·exact hk
  ·exfalso
   rcases hc.2.2.1 with x|x
   ·rw [hw] at x;cases x
   ·exact hs op hop b hb x g hL (hc.1 ▸ hS)
 ·obtain ⟨x,hx,hxa⟩:=touch_of ha
  rcases getElem?_append_cases hx with ⟨_,hx'⟩|⟨_,hxu⟩
  ·exact H.old hx' hxa hm
  ·have:=knows_own hx
   rw [hu x hxu] at this;exact .inl this
 ·obtain ⟨x,hx,hxa⟩:=touch_of ha
  rcases getElem?_append_cases hx with ⟨_,hx'⟩|⟨_,hxu⟩
  ·exact (H.wrote g hg i a (by rw [touchAt_of hx'];exact hxa) hw hS).app u
  ·exact absurd hS (hs x hxu a hxa hw g hg)
theorem QE.mute {g:Nat} (H:QE Sl Loose B h t) (hu:∀ op∈u,op.g=g) (hn:∀ op∈u,op.act.touch? = none) (hd:Loose g→Deaf (t ++ u) g=Deaf t g) (hl:∀ op∈u,op.act.low B):QE Sl Loose B h (t ++ u):=by
 refine ⟨fun said=>noRace_append (H.clean said) hu fun i a _ op hop b hb _=>(by rw [hn op hop] at hb;cases hb),fun i a ha hm=>?_,fun g hg i a ha hw hS=>?_,H.oldHears hu hd,seen_app H.seen hl⟩
 ·obtain ⟨x,hx,hxa⟩:=touch_of ha
  rcases getElem?_append_cases hx with ⟨_,hx'⟩|⟨_,hxu⟩
  ·exact H.old hx' hxa hm
  ·rw [hn x hxu] at hxa;cases hxa
 ·obtain ⟨x,hx,hxa⟩:=touch_of ha
  rcases getElem?_append_cases hx with ⟨_,hx'⟩|⟨_,hxu⟩
  ·exact (H.wrote g hg i a (by rw [touchAt_of hx'];exact hxa) hw hS).app u
  ·rw [hn x hxu] at hxa;cases hxa
theorem QE.read {g:Nat} (H:QE Sl Loose B h t) (hL:Loose g) (hu:∀ op∈u,op.g=g) (hr:∀ op∈u,∀ b,op.act.touch? = some b→b.write=false∧Sl g b.loc) (hd:Loose g→Deaf (t ++ u) g=Deaf t g)
 (hl:∀ op∈u,op.act.low B):QE Sl Loose B h (t ++ u):=by
 refine ⟨fun said=>noRace_append (H.clean said) hu fun i a ha op hop b hb hc=>?_,fun i a ha hm=>?_,fun g' hg' i a ha hw hS=>?_,H.oldHears hu hd,seen_app H.seen hl⟩
 ·obtain ⟨hb0,hbS⟩:=hr op hop b hb
  rcases hc.2.2.1 with x|x
  ·exact H.wrote g hL i a ha x (hc.1 ▸ hbS)
  ·rw [hb0] at x;cases x
 ·obtain ⟨x,hx,hxa⟩:=touch_of ha
  rcases getElem?_append_cases hx with ⟨_,hx'⟩|⟨_,hxu⟩
  ·exact H.old hx' hxa hm
  ·exact .inr ⟨(hr x hxu a hxa).1,g,by rw [g?_of hx,hu x hxu],hL,(hr x hxu a hxa).2⟩
 ·obtain ⟨x,hx,hxa⟩:=touch_of ha
  rcases getElem?_append_cases hx with ⟨_,hx'⟩|⟨_,hxu⟩
  ·exact (H.wrote g' hg' i a (by rw [touchAt_of hx'];exact hxa) hw hS).app u
  ·rw [(hr x hxu a hxa).1] at hw;cases hw
theorem QE.give {j:Nat} {Sl':Nat→Loc→Prop} {Loose':Nat→Prop} (H:QE Sl Loose B h t) (hh:Deaf t h=0) (hj:Loose j) (hS:∀ g,g≠h→g≠j→Sl' g=Sl g) (hSm:∀ l,Sl' h l→l.isMemory=true) (hhl:¬ Loose h)
 (hL:∀ g,g≠h→(Loose' g ↔ Loose g∧g≠j)) (fh:FuncId) (ph:String) (fj:FuncId) (pj:String) {c:Nat} (k cap:Nat) (hc:c < B) :
 QE Sl' Loose' B j (t ++ met h j fh ph fj pj c k cap):=by
 have hn:=met_mute h j fh ph fj pj c k cap;have hq:=met_quiet h j fh ph fj pj c k cap;have e0:(t ++ met h j fh ph fj pj c k cap)[t.size]? = some { g:=h,fn:=fh,pos:=ph,act:=.send c k }:=by simp [met]
 have e3:(t ++ met h j fh ph fj pj c k cap)[t.size + 3]? = some { g:=j,fn:=fj,pos:=pj,act:=.recvDone c k }:=by simp [met]
 have edge:HappensBefore (t ++ met h j fh ph fj pj c k cap) t.size (t.size + 3) :=
  Relation.TransGen.single (.inr ⟨.handOver (act?_of e0) (act?_of e3),⟨h,g?_of e0,by rw [deaf_old (Nat.le_refl _)];exact hh⟩,⟨j,g?_of e3,by rw [deaf_quiet (hq j) 3 (by simp [met])];exact H.hears j hj⟩⟩)
 refine ⟨fun said=>noRace_appendMute (H.clean said) hn,fun i a ha hm=>?_,fun g hg i a ha hw hSg=>?_,fun g hg=>(Deaf_quiet (hq g)).trans (by by_cases e:g=h;exact e ▸ hh;exact H.hears g ((hL g e).1 hg).1),seen_app H.seen fun op hop=>?_⟩
 ·obtain ⟨x,hx,hxa⟩:=touch_of ha
  rcases getElem?_append_cases hx with ⟨hi,hx'⟩|⟨_,hxu⟩
  ·rcases H.known i a (by rw [touchAt_of hx'];exact hxa) hm with hk|⟨p,g,hg,hl,hs⟩
   ·exact .inl ⟨t.size + 3,_,e3,rfl,.inr ((hk.hb_new (Nat.le_refl _) e0 rfl).trans edge)⟩
   ·by_cases e:g=j
    ·subst e
     have:=knows_own hx
     rw [show x.g=g from by have:=g?_of hx';rw [hg] at this;exact (Option.some.inj this).symm] at this;exact .inl this
    ·have hgh:g≠h:=fun z=>hhl (z ▸ hl)
     exact .inr ⟨p,g,by rw [g?_old hi];exact hg,(hL g hgh).2 ⟨hl,e⟩,by rw [hS g hgh e];exact hs⟩
  ·rw [hn x hxu] at hxa;cases hxa
 ·obtain ⟨x,hx,hxa⟩:=touch_of ha
  rcases getElem?_append_cases hx with ⟨_,hx'⟩|⟨_,hxu⟩
  ·have hold:touchAt t i=some a:=by rw [touchAt_of hx'];exact hxa
   by_cases e:g=h
   ·subst e
    rcases H.known i a hold (hSm _ hSg) with hk|⟨p,_⟩
    ·exact hk.app _
    ·rw [p] at hw;cases hw
   ·obtain ⟨hl,hgj⟩:=(hL g e).1 hg
    exact (H.wrote g hl i a hold hw (by rw [← hS g e hgj];exact hSg)).app _
  ·rw [hn x hxu] at hxa;cases hxa
 ·simp only [met,List.mem_toArray,List.mem_cons,List.not_mem_nil,or_false] at hop
  rcases hop with rfl|rfl|rfl|rfl<;>exact hc
theorem QE.hire {c:Nat} {Sl':Nat→Loc→Prop} {Loose':Nat→Prop} (H:QE Sl Loose B h t) (hh:Deaf t h=0) (hc0:Deaf t c=0) (hcl:¬ Loose c) (hS:∀ g,g≠c→Sl' g=Sl g) (hSm:∀ l,Sl' c l→l.isMemory=true)
 (hL:∀ g,g≠c→(Loose' g ↔ Loose g)) (fh:FuncId) (ph:String) (fc:FuncId) :
 QE Sl' Loose' B h (t ++ #[{ g:=h,fn:=fh,pos:=ph,act:=.go c },{ g:=c,fn:=fc,pos:=ph,act:=.start }]):=by
 generalize hu:(#[{ g:=h,fn:=fh,pos:=ph,act:=.go c },{ g:=c,fn:=fc,pos:=ph,act:=.start }]:Trace)=u;have hn:∀ op∈u,op.act.touch? = none:=by
  intro op hop;subst hu;simp only [List.mem_toArray,List.mem_cons,List.not_mem_nil,or_false] at hop;rcases hop with rfl|rfl<;>rfl
 have hq:∀ g,∀ op∈u,∀ d,deafStep g d op=d:=by
  intro g op hop d;subst hu;simp only [List.mem_toArray,List.mem_cons,List.not_mem_nil,or_false] at hop;rcases hop with rfl|rfl<;>rfl
 have e0:(t ++ u)[t.size]? = some { g:=h,fn:=fh,pos:=ph,act:=.go c }:=by subst hu;simp
 have e1:(t ++ u)[t.size + 1]? = some { g:=c,fn:=fc,pos:=ph,act:=.start }:=by subst hu;simp
 have edge:HappensBefore (t ++ u) t.size (t.size + 1) :=
  Relation.TransGen.single (.inr ⟨.spawn (act?_of e0) (act?_of e1) (g?_of e1),⟨h,g?_of e0,by rw [deaf_old (Nat.le_refl _)];exact hh⟩,⟨c,g?_of e1,by rw [deaf_quiet (hq c) 1 (by subst hu;simp)];exact hc0⟩⟩)
 refine ⟨fun said=>noRace_appendMute (H.clean said) hn,fun i a ha hm=>?_,fun g hg i a ha hw hSg=>?_,fun g hg=>(Deaf_quiet (hq g)).trans (by by_cases e:g=c;exact e ▸ hc0;exact H.hears g ((hL g e).1 hg)),seen_app H.seen fun op hop=>?_⟩
 ·obtain ⟨x,hx,hxa⟩:=touch_of ha
  rcases getElem?_append_cases hx with ⟨_,hx'⟩|⟨_,hxu⟩
  ·refine (H.old hx' hxa hm).imp id fun ⟨p,g,hg,hl,hs⟩=>?_
   have hgc:g≠c:=fun z=>hcl (z ▸ hl);exact ⟨p,g,hg,(hL g hgc).2 hl,by rw [hS g hgc];exact hs⟩
  ·rw [hn x hxu] at hxa;cases hxa
 ·obtain ⟨x,hx,hxa⟩:=touch_of ha
  rcases getElem?_append_cases hx with ⟨_,hx'⟩|⟨_,hxu⟩
  ·have hold:touchAt t i=some a:=by rw [touchAt_of hx'];exact hxa
   by_cases e:g=c
   ·subst e
    rcases H.known i a hold (hSm _ hSg) with hk|⟨p,_⟩
    ·exact ⟨t.size + 1,_,e1,rfl,.inr ((hk.hb_new (Nat.le_refl _) e0 rfl).trans edge)⟩
    ·rw [p] at hw;cases hw
   ·exact (H.wrote g ((hL g e).1 hg) i a hold hw (by rw [← hS g e];exact hSg)).app u
  ·rw [hn x hxu] at hxa;cases hxa
 ·subst hu
  simp only [List.mem_toArray,List.mem_cons,List.not_mem_nil,or_false] at hop;rcases hop with rfl|rfl<;>trivial
theorem QE.past (H:QE Sl Loose B 0 t) (h0:Deaf t 0=0) (hL:∀ g,¬ Loose g):Past (fun _=>False) B t:=by
 have hk:∀ i a,touchAt t i=some a→a.loc.isMemory=true→Knows t 0 i:=fun i a ha hm=>(H.known i a ha hm).elim id fun ⟨_,g,_,hl,_⟩=>absurd hl (hL g);refine ⟨H.clean,fun i a ha hm=>.inl (hk i a ha hm),fun i g hg hne ⟨x,hx,hm,_⟩=>?_,h0,H.seen⟩;obtain ⟨q,z,hq,hz,hb⟩:=hk i x hx hm;rcases hb with rfl|hb
 ·rw [g?_of hq,hz] at hg
  exact absurd (Option.some.inj hg).symm hne
 ·exact ⟨q,by rw [g?_of hq,hz],hb⟩
theorem Xd4 (Sl:Nat→Loc→Prop) (Loose:Nat→Prop) (h:Nat):QE Sl Loose 0 h #[] :=
 ⟨fun said=>by rintro ⟨i,j,_,⟨a,b,ha,_⟩,_⟩;simp [Trace.act?] at ha,fun i a ha=>by simp [touchAt,Trace.act?] at ha,fun g _ i a ha=>by simp [touchAt,Trace.act?] at ha,fun _ _=>rfl,by simp⟩
end
end Go.Proofs.Ytdgfekplfipekaa
namespace Go.Proofs.Ytdgfekplfipekaa
open Go.Conc
open Go.ConcN (sumTo upd sumTo_upd upd_ne upd_same)
structure XL where
 c:Nat
 z:Value
 kn:Addr→Value→Prop
 home:Goroutine→Prop
def XL.seat (s:XL):Seat:=Seat.one s.c s.z false s.home
def XL.K (s:XL) (w:World):Prop:=∀ a v,s.kn a v→w.cell? a=some v
def XL.Sl (s:XL) (l:Loc):Prop:=∃ a v,l=.cell a∧s.kn a v
theorem XL.Sl.mem {s:XL} {l:Loc} (h:s.Sl l):l.isMemory=true:=by obtain ⟨a,v,rfl,_⟩:=h;rfl
def XdJ (Ch:Nat→Option XL) (g:Nat) (l:Loc):Prop:=∃ s,Ch g=some s∧s.Sl l
def AtC (P:Program) (B i:Nat) (s:XL) (g g₂:Goroutine):Prop:=∃ B₀,B₀≤B∧AtIn P (i == 0) s.K s.Sl B₀ s.seat g g₂
def XbK (P:Program) (B i:Nat) (s:XL) (n:Nat) (g:Goroutine):Prop:=∃ B₀,B₀≤B∧Sits P (i == 0) s.K s.Sl B₀ s.seat n g
def Rest (P:Program) (B:Nat) (T:Trace) (i n:Nat) (g:Goroutine):Option XL→Prop
 | none=>0 < i∧QuitsD P n (Deaf T i) g
 | some s=>XbK P B i s n g
def Ze (Ch:Nat→Option XL) (h g:Nat):Prop:=g≠h∧(Ch g).isSome=true
structure Tk (P:Program) (B:Nat) (Ch:Nat→Option XL) (h d:Nat) (T:Trace) (gs:Array Goroutine) (w:World) (q:Nat→Nat):Prop where
 rest:∀ i g,i≠h→gs[i]? = some g→Rest P B T i (q i) g (Ch i)
 chan:∀ i s,i≠h→Ch i=some s→i < gs.size∧s.c < B∧∃ k,w.heap[s.c]? = some (.chan 0 #[] false k k false)
 inj:∀ i j s s',i≠h→j≠h→Ch i=some s→Ch j=some s'→s.c=s'.c→i=j
 keep:∀ i s,i≠h→Ch i=some s→s.K w
 above:∀ j,gs.size≤j→Deaf T j=0
 deaf:Deaf T h=d
 hist:QE (XdJ Ch) (Ze Ch h) B h T
section
variable {P:Program} {B:Nat} {Ch:Nat→Option XL} {h d:Nat} {T:Trace} {gs:Array Goroutine} {w:World} {q:Nat→Nat}
theorem XbK.status {i n:Nat} {s:XL} {g:Goroutine} (hK:s.K w) (hs:XbK P B i s n g):(g.status=.running∧0 < n)∨(g.status=.blocked∧n=0):=by
 obtain ⟨_,_,hs⟩:=hs;exact Sits.status hK hs
theorem XbK.again {i n k:Nat} {s:XL} {g:Goroutine} (hK:s.K w) (hs:XbK P B i s n g) (hc:w.heap[s.c]? = some (.chan 0 #[] false k k false)):g.again w=g:=by
 obtain ⟨_,_,hs⟩:=hs;exact Sits.again hK hs (Seat.one_wf _ _ _ _) fun c hcc=>by rw [Seat.one_has.1 hcc];exact ⟨_,_,_,_,_,hc⟩
theorem Rest.mono {B' i n:Nat} {g:Goroutine} {c:Option XL} (hB:B≤B') (hr:Rest P B T i n g c):Rest P B' T i n g c:=by
 cases c with
 | none=>exact hr
 | some s=>obtain ⟨B₀,h1,h2⟩:=hr;exact ⟨B₀,Nat.le_trans h1 hB,h2⟩
theorem Tk.mono {B':Nat} (C:Tk P B Ch h d T gs w q) (hB:B≤B'):Tk P B' Ch h d T gs w q :=
 ⟨fun i g hi hg=>(C.rest i g hi hg).mono hB,fun i s hi e=>by obtain ⟨a,b,c⟩:=C.chan i s hi e;exact ⟨a,Nat.lt_of_lt_of_le b hB,c⟩,C.inj,C.keep,C.above,C.deaf,C.hist.mono hB⟩
theorem Tk.at (C:Tk P B Ch h d T gs w q) (n:Nat):Tk P B Ch h d T gs (w.at n) q:=⟨C.rest,C.chan,C.inj,C.keep,C.above,C.deaf,C.hist⟩
theorem Tk.fixed (C:Tk P B Ch h d T gs w q) {x:Nat} {y:Goroutine} (hx:x≠h) (hy:gs[x]? = some y):y.again w=y:=by
 have hr:=C.rest x y hx hy;cases e:Ch x with
 | none=>rw [e] at hr;exact again_running _ hr.2.status
 | some s=>rw [e] at hr;obtain ⟨_,_,k,hk⟩:=C.chan x s hx e;exact XbK.again (C.keep x s hx e) hr hk
theorem Tk.noSend (C:Tk P B Ch h d T gs w q) {x:Nat} {y:Goroutine} (hx:x≠h) (hy:gs[x]? = some y) (c:Nat):offersAt y c true = []:=by
 have hr:=C.rest x y hx hy;cases e:Ch x with
 | none =>
  rw [e] at hr;exact offersAt_of_not_blocked (fun hb=>by rcases hr.2.status with z|z<;>rw [z] at hb<;>cases hb) c true
 | some s =>
  rw [e] at hr;obtain ⟨B₀,_,hs⟩:=hr;rcases hs with ⟨k,w₀,hq,hg⟩|⟨_,_,g₂,rfl,_⟩
  ·have:=(Sits.status (C.keep x s hx e) (.inl ⟨k,w₀,hq,hg⟩)).elim (·.1) (fun z=>by omega)
   exact offersAt_of_not_blocked (fun hb=>by rw [this] at hb;cases hb) c true
  ·exact offersAt_parked_recv' _ _ _ _ _
theorem Tk.noRecv (C:Tk P B Ch h d T gs w q) {x:Nat} {y:Goroutine} (hx:x≠h) (hy:gs[x]? = some y) {c:Nat} (hc:∀ s,Ch x=some s→s.c≠c):offersAt y c false = []:=by
 have hr:=C.rest x y hx hy;cases e:Ch x with
 | none =>
  rw [e] at hr;exact offersAt_of_not_blocked (fun hb=>by rcases hr.2.status with z|z<;>rw [z] at hb<;>cases hb) c false
 | some s =>
  rw [e] at hr;obtain ⟨B₀,_,hs⟩:=hr;rcases hs with ⟨k,w₀,hq,hg⟩|⟨_,_,g₂,rfl,_⟩
  ·have:=(Sits.status (C.keep x s hx e) (.inl ⟨k,w₀,hq,hg⟩)).elim (·.1) (fun z=>by omega)
   exact offersAt_of_not_blocked (fun hb=>by rw [this] at hb;cases hb) c false
  ·show offersAt (parked g₂ #[rcase s.c s.z] _) c false = []
   rw [offersAt_parked_recv,if_neg (hc s e)]
theorem Tk.awake (C:Tk P B Ch h d T gs w q) {a:Goroutine} (ha:gs[h]? = some a) (hs:a.status=.running∨a.status=.blocked):∀ g∈gs,awake g:=by
 intro g hg;obtain ⟨i,hi,rfl⟩:=Array.mem_iff_getElem.1 hg
 by_cases e:i=h
 ·subst e
  have:gs[i] = a:=by simpa [Array.getElem?_eq_getElem hi] using ha
  rw [this];exact awake_of (hs.elim .inl fun x=>.inr (.inl x))
 ·have hr:=C.rest i _ e (Array.getElem?_eq_getElem hi)
  cases es:Ch i with
  | none=>rw [es] at hr;exact awake_of (hr.2.status.elim .inl fun x=>.inr (.inr x))
  | some s=>rw [es] at hr;exact awake_of ((XbK.status (C.keep i s e es) hr).elim (fun x=>.inl x.1) fun x=>.inr (.inl x.1))
theorem Tk.notLoose (_C:Tk P B Ch h d T gs w q):¬ Ze Ch h h:=fun z=>z.1 rfl
theorem Tk.put (C:Tk P B Ch h d T gs w q) {i n':Nat} {g':Goroutine} {ops:Array MemOp} {gs':Array Goroutine} (hlt:i < gs.size) (hih:i≠h) (hsz:gs'.size=gs.size) (hother:∀ x,x≠i→gs'[x]? = gs[x]?) (hself:gs'[i]? = some g')
 (hops:∀ op∈ops,op.g=i) (hrest:Rest P B (T ++ ops) i n' g' (Ch i)) (hh:QE (XdJ Ch) (Ze Ch h) B h (T ++ ops)):Tk P B Ch h d (T ++ ops) gs' w (upd q i n'):=by
 refine ⟨fun x y hx hy=>?_,fun x s hx e=>by rw [hsz];exact C.chan x s hx e,C.inj,C.keep,fun j hj=>?_,?_,hh⟩
 ·by_cases e:x=i
  ·subst e
   rw [hself] at hy;obtain rfl:=Option.some.inj hy;rw [upd_same];exact hrest
  ·rw [hother x e] at hy
   rw [upd_ne q n' e];have hr:=C.rest x y hx hy;cases es:Ch x with
   | none=>rw [es] at hr;exact ⟨hr.1,by rw [Deaf_other T (fun z=>e z.symm) ops hops];exact hr.2⟩
   | some s=>rw [es] at hr;exact hr
 ·rw [Deaf_other T (g':=i) (by omega) ops hops]
  exact C.above j (by omega)
 ·rw [Deaf_other T (g':=i) hih ops hops];exact C.deaf
theorem Tk.by_step (C:Tk P B Ch h d T gs w q) {i:Nat} {g gh:Goroutine} {sl:Option (Nat × Nat)} (hi:gs[i]? = some g) (hih:i≠h) (hrun:g.status=.running) (hgh:gs[h]? = some gh) (hag:gh.again w=gh)
 (hO:∀ s g₂,Ch i=some s→AtC P B i s g g₂→offersAt gh s.c true = []) :
 ∃ (gs':Array Goroutine) (ops:Array MemOp) (q':Nat→Nat),runT P (crowd gs w sl) i=(.next (crowd gs' w sl),ops)∧gs'.size=gs.size∧gs'[h]? = gs[h]?∧(∀ x,x≠i→q' x=q x)∧(∀ s,Ch i=some s→q' i=0→∃ g₂,AtC P B i s g g₂) ∧
  Tk P B Ch h d (T ++ ops) gs' w q'∧sumTo gs.size q' < sumTo gs.size q:=by
 have hlt:i < gs.size:=(Array.getElem?_eq_some_iff.1 hi).1;have hfix:∀ (a a':Goroutine) (x:Nat) (y:Goroutine),gs[x]? = some y→woken P a a' w y=y:=fun a a' x y hy=>by
  have:y.again w=y:=by
   by_cases hx:x=h
   ·subst hx;rw [hgh] at hy;obtain rfl:=Option.some.inj hy;exact hag
   ·exact C.fixed hx hy
  unfold woken
  split
  ·exact this
  ·rfl
 have harr:∀ (a' g':Goroutine) (x:Nat),x≠i→((gs.map (woken P g a' w)).setIfInBounds i g')[x]? = gs[x]?:=by
  intro a' g' x hx;rw [Array.getElem?_setIfInBounds_ne (fun e=>hx e.symm),Array.getElem?_map];cases e:gs[x]? with
  | none=>rfl
  | some y=>simp [hfix g a' x y e]
 have hself:∀ (a' g':Goroutine),((gs.map (woken P g a' w)).setIfInBounds i g')[i]? = some g':=fun a' g'=>Array.getElem?_setIfInBounds_self_of_lt (by simpa using hlt);have hsum:∀ k,q i=k + 1→sumTo gs.size (upd q i k) < sumTo gs.size q:=by
  intro k hqi;have h2:sumTo gs.size (upd q i k) + (k + 1)=sumTo gs.size q + k:=by
   have:=sumTo_upd q k id hlt
   simpa [hqi] using this
  omega
 have hr:=C.rest i g hih hi;cases e:Ch i with
 | none =>
  rw [e] at hr;obtain ⟨hpos,hq⟩:=hr;have hi0:(i == 0)=false:=by simp;omega
  cases hqi:q i with
  | zero=>rw [hqi] at hq;rw [hq.1] at hrun;cases hrun
  | succ k =>
   rw [hqi] at hq;rcases hq with ⟨hf,_⟩|⟨_,g',es,hm,hstp,hq'⟩
   ·rw [hf] at hrun;cases hrun
   have hops:∀ op∈MemOp.ofEvents i g.frame.fn g.frame.place es,op.g=i:=fun op hop=>by obtain ⟨e,_,rfl⟩:=Go.Conc.mem_ofEvents hop;rfl
   refine ⟨_,_,upd q i k,runT_crowd_go (sl:=sl) hi (by rw [hi0];exact hstp w),by simp,harr _ _ h (fun z=>hih z.symm),fun x hx=>upd_ne q k hx,fun s hs _=>(by cases hs),?_,hsum k hqi⟩;refine C.put hlt hih (by simp) (harr _ _) (hself _ _) hops (by rw [e];exact ⟨hpos,by rw [Deaf_own];exact hq'⟩) ?_;exact C.hist.mute hops (fun op hop=>by obtain ⟨e,he,rfl⟩:=Go.Conc.mem_ofEvents hop;exact touch_mute (hm e he)) (fun z=>by have:=z.2;rw [e] at this;cases this) (fun op hop=>by obtain ⟨e,he,rfl⟩:=Go.Conc.mem_ofEvents hop;exact low_mute (hm e he) B)
 | some s =>
  rw [e] at hr;have hKw:=C.keep i s hih e;have hL:Ze Ch h i:=⟨hih,by rw [e];rfl⟩
  obtain ⟨B₀,hB₀,hid⟩:=hr;obtain ⟨k,w₀,hqi,hg⟩:∃ k w₀,q i=k + 1∧Goes P (i == 0) (RK s.K) (DS s.Sl B₀) (fun g _=>∃ g₂,AtIn P (i == 0) s.K s.Sl B₀ s.seat g g₂) k g w₀:=by
   rcases hid with h|⟨_,_,g₂,rfl,_⟩
   ·exact h
   ·cases hrun
  have hsl:∀ l,s.Sl l→XdJ Ch i l:=fun l hl=>⟨s,e,hl⟩
  have hcase:(∃ g₂,AtIn P (i == 0) s.K s.Sl B₀ s.seat g g₂)∨∃ k' g' es,k=k' + 1∧stepG P (i == 0) g w=.go g' w es∧(∀ e∈es,EvC s.Sl B₀ e)∧Goes P (i == 0) (RK s.K) (DS s.Sl B₀) (fun g _=>∃ g₂,AtIn P (i == 0) s.K s.Sl B₀ s.seat g g₂) k' g' w:=by
   cases k with
   | zero=>exact .inl (hg w hKw)
   | succ k' =>
    rcases hg with hstop|⟨_,hstep⟩
    ·exact .inl (hstop w hKw)
    ·have hs:=hstep w hKw
     cases hgo:stepG P (i == 0) g w with
     | go g' w' es =>
      rw [hgo,goes_go] at hs;obtain ⟨⟨rfl,hes⟩,hG'⟩:=hs;exact .inr ⟨k',g',es,rfl,rfl,hes,hG'⟩
     | _=>rw [hgo] at hs;exact hs.elim
  rcases hcase with ⟨g₂,hat⟩|⟨k',g',es,rfl,hgo,hes,hG'⟩
  ·have hsO:=hO s g₂ e ⟨B₀,hB₀,hat⟩
   obtain ⟨_,_,_,_,_,es,hes,hstp⟩:=id hat;obtain ⟨hops,hrd,hl,hdf⟩:=evC_ops (i:=i) (fn:=g.frame.fn) (pos:=g.frame.place) hes;obtain ⟨_,_,kk,hc⟩:=C.chan i s hih e;have hw:∀ cc∈s.seat.cases,NoWays w (gs.setIfInBounds i ph) cc:=by
    intro cc hcc;simp only [XL.seat,Seat.one,List.mem_toArray,List.mem_cons,List.not_mem_nil,or_false] at hcc;subst hcc;refine ways_recv_none hc (partners_nil fun x y hy=>?_);rcases getElem?_stand gs i x y hy with ⟨_,rfl⟩|⟨hx,hy'⟩
    ·exact offersAt_ph _ _
    ·by_cases hS:x=h
     ·subst hS;rw [hgh] at hy';obtain rfl:=Option.some.inj hy';exact hsO
     ·exact C.noSend hS hy' _
   refine ⟨_,_,upd q i 0,crowd_waits (sl:=sl) hi (hstp w hKw) hw,by simp,Array.getElem?_setIfInBounds_ne hih,fun x hx=>upd_ne q 0 hx,fun s' hs' _=>(by obtain rfl:=Option.some.inj hs';exact ⟨g₂,B₀,hB₀,hat⟩),?_,?_⟩
   ·refine C.put hlt hih (by simp) (fun x hx=>Array.getElem?_setIfInBounds_ne (fun z=>hx z.symm)) (Array.getElem?_setIfInBounds_self_of_lt hlt) hops (by rw [e];exact ⟨B₀,hB₀,.inr ⟨rfl,g,g₂,rfl,hat⟩⟩) ?_
    exact C.hist.read hL hops (fun op hop b hb=>⟨(hrd op hop b hb).1,hsl _ (hrd op hop b hb).2⟩) (fun _=>hdf T) (fun op hop=>MemAct.low_mono hB₀ (hl op hop))
   ·have h2:sumTo gs.size (upd q i 0) + (k + 1)=sumTo gs.size q + 0:=by
     have:=sumTo_upd q 0 id hlt
     simpa [hqi] using this
    omega
  ·obtain ⟨hops,hrd,hl,hdf⟩:=evC_ops (i:=i) (fn:=g.frame.fn) (pos:=g.frame.place) hes
   refine ⟨_,_,upd q i (k' + 1),runT_crowd_go (sl:=sl) hi hgo,by simp,harr _ _ h (fun z=>hih z.symm),fun x hx=>upd_ne q _ hx,fun s' _ h0=>(by rw [upd_same] at h0;omega),?_,hsum _ hqi⟩;refine C.put hlt hih (by simp) (harr _ _) (hself _ _) hops (by rw [e];exact ⟨B₀,hB₀,.inl ⟨k',w,rfl,hG'⟩⟩) ?_;exact C.hist.read hL hops (fun op hop b hb=>⟨(hrd op hop b hb).1,hsl _ (hrd op hop b hb).2⟩) (fun _=>hdf T) (fun op hop=>MemAct.low_mono hB₀ (hl op hop))
theorem Tk.picked {a:Goroutine} {sl:Option (Nat × Nat)} (ha:gs[h]? = some a) (hrun:a.status=.running) (C:Tk P B Ch h d T gs w q) :
 ∃ (N:Nat) (gs':Array Goroutine) (n n':Nat) (sl' sl'':Option (Nat × Nat)) (T':Trace) (q':Nat→Nat),runNT P N (crowd gs w sl) T=(.next (crowd gs' (w.at n) sl'),T') ∧
  stepT P (crowd gs' (w.at n) sl')=runT P (crowd gs' (w.at n') sl'') h∧gs'.size=gs.size∧gs'[h]? = some a∧Tk P B Ch h d T' gs' (w.at n') q':=by
 obtain ⟨N,m',T',hr,gs',n,n',sl',sl'',q',rfl,hst,hsz,ha',C'⟩:=runs_until (P:=P)
  (Inv:=fun μ m t=>∃ gs₁ n sl₁ q₁,m=crowd gs₁ (w.at n) sl₁∧gs₁.size=gs.size∧gs₁[h]? = some a∧Tk P B Ch h d t gs₁ (w.at n) q₁∧μ=sumTo gs₁.size q₁)
  (Done:=fun m t=>∃ gs₁ n n' sl₁ sl₂ q₁,m=crowd gs₁ (w.at n) sl₁∧stepT P (crowd gs₁ (w.at n) sl₁)=runT P (crowd gs₁ (w.at n') sl₂) h∧gs₁.size=gs.size∧gs₁[h]? = some a∧Tk P B Ch h d t gs₁ (w.at n') q₁)
  (fun μ m t ⟨gs₁,n,sl₁,q₁,hm,hsz,ha₁,C₁,hμ⟩=>by
    subst hm;obtain ⟨i,g,n',sl',hi,hg,hst⟩:=crowd_pick (P:=P) (w:=w.at n) (sl:=sl₁) (C₁.awake ha₁ (.inl hrun)) ⟨h,a,ha₁,hrun⟩;rw [at_at'] at hst;have Cd:Tk P B Ch h d t gs₁ (w.at n') q₁:=C₁.at n'
    by_cases e:i=h
    ·subst e
     exact .inl ⟨gs₁,n,n',sl₁,sl',q₁,rfl,hst,hsz,ha₁,Cd⟩
    ·obtain ⟨gs',ops,q',hrt,hsz',hsp,_,_,C',hlt⟩:=Cd.by_step (sl:=sl') hi e hg ha₁ (again_of_running (.inl hrun) _) (fun s g₂ _ _=>offersAt_of_not_blocked (by rw [hrun];simp) _ _)
     exact .inr ⟨_,_,sumTo gs'.size q',by rw [hst];exact hrt,by rw [hsz'];omega,gs',n',sl',q',rfl,hsz'.trans hsz,by rw [hsp];exact ha₁,C',rfl⟩)
  _ _ T ⟨gs,w.drawn,sl,q,rfl,rfl,ha,C,rfl⟩
 exact ⟨N,gs',n,n',sl',sl'',T',q',hr,hst,hsz,ha',C'⟩
