/- A walk through a run's record, under J: it is made, told what cells hold, and goes through each thread's calls. Conditions: the record is a run's. -/
import Derived.Test.YtdhnggjmegilkaaSRwA
import Derived.Test.YtdhnggjmegilkaaSWkL
import Derived.Test.YtdhnggjmegilkaaSWkJ
import Derived.Test.YtdhnggjmegilkaaSPlC
import Derived.Test.YtdhnggjmegilkaaSGtS
import Derived.Test.YtdhnggjmegilkaaSPlE
set_option linter.all false
set_option maxRecDepth 100000
set_option maxHeartbeats 16000000
namespace Go.Proofs.Ytdhnggjmegilkaa
open Go.Conc Go.RowKit
set_option maxRecDepth 100000
theorem Qm {w:World} {a b:Nat} {c c':Array Value} {u u':TypeId} (h:w.heap[a]? = some (.cells c u (0,0))) (h':w.heap[b]? = some (.cells c' u' (0,0))) (hn:u≠u'):a≠b:=fun e=>by
 rw [e,h'] at h;injection h with h
 injection h with _ h
 exact hn h.symm
theorem W9 {w:World} {N:Nat} {e:TypeId} {size:Nat} {v:Value} {n:Nat} {xs:List Value} {b:Nat} (h:w.ownsRow N e size v n xs) (hv:some b=v.ownBlock):∃ cs,w.heap[b]? = some (.cells cs e (0,0)):=⟨_,Y0 h hv.symm⟩
theorem Kept.old {w w':World} (h:Kept (fun _=>False) w w'):Xg w w':=⟨h.size,fun r hr=>h.block r hr id⟩
theorem WAt.old {K:Wk} {gv:List Bool} {w w':World} (h:WAt K gv w) (hB:K.B≤w.heap.size) (ho:Xg w w'):WAt K gv w':=h.frame fun q hq=>ho.2 q (h.lt hB hq)
end Go.Proofs.Ytdhnggjmegilkaa
namespace Go.Proofs.Ytdhnggjmegilkaa
open Go.Conc Go.RowKit
open Go.ConcN (upd upd_same upd_ne)
theorem Wo {α:Type} {nc:Nat} (j:Nat):∀ {cs:List (Xm α)},(∀ c∈cs,c.Ok nc)→Xx.Ok nc (Yp j cs)
 | [],_=>.ret ()
 | c::l,h=>(h c List.mem_cons_self).into fun a=>.act fun _=>Wo j fun d hd=>h d (List.mem_cons_of_mem _ hd)
namespace Xp
section
variable {Sh:Type} {P Q:Xp Sh} {sched:List Nat→List Nat→Nat}
theorem XcM:∀ (i:Nat) (a b:Xo),Q.left[i]? = some a→Q.left[i + 1]? = some b→a.thread < b.thread:=by
 have hth:∀ j a,Q.stands j=some a→a.thread=j:=fun j a ha=>by
  unfold stands at ha;cases hr:(Q.progs j).req with
  | none=>rw [hr] at ha;cases ha
  | some r=>rw [hr] at ha;rw [← OI ha]
 have hp:Q.left.Pairwise fun a b=>a.thread < b.thread:=by
  unfold left;rw [List.pairwise_filterMap];refine List.pairwise_lt_range.imp fun {i j} hij a ha b hb=>?_;rw [hth i a ha,hth j b hb];exact hij
 intro i a b ha hb;obtain ⟨h1,rfl⟩:=LE' ha;obtain ⟨h2,rfl⟩:=LE' hb;exact List.pairwise_iff_getElem.1 hp i (i + 1) h1 h2 (by omega)
theorem Goes.few (hs:Zs sched) (h:Goes sched P Q) (hP:P.st.names.length≤P.st.log.length):Q.st.names.length≤Q.st.log.length:=by
 refine Goes.keeps (I:=fun R=>R.st.names.length≤R.st.log.length) hs (fun R q r k hl _ _ hp _=>?_) h hP;rw [turn_acc hp];show (if r.cell∈R.st.names then R.st.names else R.st.names ++ [r.cell]).length≤(R.st.log ++ [R.st.entry q r]).length
 split<;>simp<;>omega
end
section
variable {α:Type} {Q:Xp (Nat→List α)} {css:List (List (Xm α))} {cells:Nat→Int} {sh0:Nat→List α}
structure RunFacts (css:List (List (Xm α))) (cells:Nat→Int) (picks:List Int) (m:Nat) (e:Int) (Q:Xp (Nat→List α)):Prop where
 n:Q.n=css.length
 ok:∃ (csAt nowAt firstAt:Nat→List Int) (lastAt:Nat→Int),Xej Q.st.log Q.left (Q.st.went.map fun (i:Nat)=>(i:Int)) (Q.st.ready.map fun (i:Nat)=>(i:Int)) picks Q.n Q.st.names.length e m csAt lastAt∧XaA Q.st.log Q.left nowAt firstAt∧csAt 0=firstAt Q.st.log.length∧lastAt 0 = -1∧firstAt Q.st.log.length=Q.st.names.map cells
 lens:Q.st.went.length=Q.st.log.length∧Q.st.ready.length=Q.st.log.length∧Q.st.log.length≤m
 rise:∀ (i:Nat) (a b:Xo),Q.left[i]? = some a→Q.left[i + 1]? = some b→a.thread < b.thread
 rest:∀ (j:Nat) (cs:List (Xm α)),css[j]? = some cs→∃ T,Q.st.sh j=(QS cs).1 ++ T∧ZL Q.st.log Q.left Q.st.names cells j 0 (QS cs).2 T
 nodup:Q.st.names.Nodup
 few:Q.st.names.length≤Q.st.log.length
 left:Left cells Q
 who:∀ (q:Nat) (a:Xo),Q.st.log[q]? = some a→a.thread < css.length
theorem run_facts {picks:List Int} {m nc:Nat} {e:Int} (h0:∀ j,sh0 j = []) (hok:∀ cs∈css,∀ c∈cs,c.Ok nc) (h:((Xp.init sh0 cells).start (XX 0 css)).runs (picked picks) m=(e,Q)) (hQ:Q.Live):RunFacts css cells picks m e Q:=by
 have hs:=Q1 picks;have hg:=start_guards css (Xp.init sh0 cells) (fun j _=>h0 j);rw [show (Xp.init sh0 cells).n=0 from rfl] at hg;obtain ⟨s1,s2,s3,s4⟩:=ZN css (Xp.init sh0 cells) (fun j _=>h0 j);rw [show (Xp.init sh0 cells).n=0 from rfl] at s1 s2 s3 s4;obtain ⟨r1,r2⟩:=Wj (sched:=picked picks) m ((Xp.init sh0 cells).start (XX 0 css));rw [h,hg] at r1 r2;replace r1:Goes (picked picks) ((Xp.init sh0 cells).start (bodiesOf 0 css)) Q:=r1;obtain ⟨a1,a2⟩:=XdO (n:=0) hs h0 r1 hQ;generalize hP:(Xp.init sh0 cells).start (bodiesOf 0 css)=P at r1 r2 s1 s2 s3 s4;have e1:P.st.log = []:=by rw [s2];rfl
 have e2:P.st.went = []:=by rw [s2];rfl
 have e3:P.st.ready = []:=by rw [s2];rfl
 have e4:P.st.names = []:=by rw [s2];rfl
 have e5:P.st.cells=cells:=by rw [s2];rfl
 have hA:Xgi nc P:=fun j hj=>by
  have hjl:j < css.length:=by rw [s1] at hj;omega
  obtain ⟨hp,_⟩:=s4 j css[j] (List.getElem?_eq_getElem hjl);rw [Nat.zero_add] at hp;rw [hp]
  have:=(Wo j (hok css[j] (List.getElem_mem hjl))).pass (fun _=>[])
  rw [Qh] at this;exact this
 obtain ⟨S,mm,q,r,hst⟩:=r1.steps hs hA;obtain ⟨z0,z1,z2,z3⟩:=hst.lens ⟨e1,e2,e3⟩ mm (Nat.le_refl _);rw [hst.last] at z0 z1 z2 z3;have hwent:(P.runs (picked picks) m).2.st.went.length≤P.st.went.length + m:=(runs_st (picked picks) m P).2;have hPQ:P.runs (picked picks) m=(e,Q):=by rw [← hP,← hg];exact h
 rw [hPQ,e2] at hwent;replace hwent:Q.st.went.length≤0 + m:=hwent;refine ⟨a1,⟨_,_,_,_,hst.runOK (most:=(m:Int)) ⟨e1,e2,e3⟩ e4 hQ ?_,hst.memOK hs ⟨e1,e2,e3⟩ e4,?_,rfl,?_⟩,⟨by omega,by omega,by omega⟩,XcM,a2,r1.nodup hs (by rw [e4];exact List.nodup_nil),r1.few hs (by rw [e4];exact Nat.zero_le _),r1.left hs cells ⟨fun q a ha=>by rw [e1] at ha;simp at ha,fun c=>by rw [e1,e5];rfl⟩,fun i a ha=>?_⟩
 ·rcases r2 with ⟨h1,h2⟩|⟨h1,h2,h3⟩|⟨h1,h2,h3,h4⟩
  ·exact .inl ⟨h1,h2⟩
  ·exact .inr (.inl ⟨h1,h2,h3⟩)
  ·refine .inr (.inr ⟨h1,h2,h3,?_⟩)
   have h4:Q.st.went.length=P.st.went.length + m:=h4;rw [e2] at h4;simp at h4;omega
 ·show Q.st.names.map (S 0).st.cells=(S Q.st.log.length).st.names.map P.st.cells
  rw [z1,hst.last,hst.first]
 ·show (S Q.st.log.length).st.names.map P.st.cells=_
  rw [z1,hst.last,e5]
 ·have hi:i < mm:=by have:=(LE' ha).1;omega
  have:=(hst.at_ hs ⟨e1,e2,e3⟩ hi).1
  rw [this] at ha;rw [← OI ha];obtain ⟨_,_,w3,_⟩:=hst.who i hi;obtain ⟨b0,_⟩:=hst.lens ⟨e1,e2,e3⟩ i (by omega);show q i < _;rw [b0,s1] at w3;omega
end
end Xp
end Go.Proofs.Ytdhnggjmegilkaa
namespace Go.Proofs.Ytdhnggjmegilkaa
open Go.Conc Go.RowKit
set_option maxRecDepth 100000
theorem XaY:∀ (L:List Xo) (i k:Nat) (a:Xo),L[i]? = some a→k < 8→(L.flatMap Yj)[i * 8 + k]? = (Yj a)[k]?
 | [],i,k,a,h,hk=>by simp at h
 | b::L,0,k,a,h,hk=>by
  obtain rfl:b=a:=by simpa using h
  rw [List.flatMap_cons,List.getElem?_append_left (by simp [Yj];omega)];rw [Nat.zero_mul,Nat.zero_add]
 | b::L,i + 1,k,a,h,hk=>by
  have hl:(Yj b).length=8:=rfl;rw [List.flatMap_cons,List.getElem?_append_right (by rw [hl];omega),hl]
  have:=XaY L i k a (by simpa using h) hk
  rw [← this]
  congr 1
  omega
theorem XaZ {x:World} {M:Nat} {v:Value} {L:List Xo} (h:x.ownsRow M 172 8 v L.length (L.flatMap Yj)) (hl:L.length≤1000000):∃ a c,v=.slice a L.length c∧XW x x.heap.size a L:=by
 by_cases h0:L.length=0
 ·obtain ⟨a,c,rfl⟩:=Xq h
  exact ⟨a,c,rfl,hl,fun i e hi=>by rw [List.length_eq_zero_iff.1 h0] at hi;simp at hi⟩
 ·obtain ⟨g,cap,rfl,_,hg,hc⟩:=Qz h h0
  refine ⟨_,cap,rfl,hl,fun i e hi=>⟨g,0,rfl,hg,fun k hk=>?_⟩⟩;have h1:=XaY L i k e hi hk;have h2:(Yj e)[k]? = some ((Yj e)[k]'(by show k < 8;exact hk)):=List.getElem?_eq_getElem _;rw [h2] at h1 ⊢;rw [Nat.zero_add];exact hc _ _ h1
theorem XaM {x:World} {M:Nat} {v:Value} {l:List Nat} (h:x.ownsRow M 3 1 v l.length (l.map fun i=>.int .i64 (i:Nat))):∃ a c,v=.slice a l.length c∧X0 x a (l.map fun (i:Nat)=>(i:Int)):=by
 by_cases h0:l.length=0
 ·obtain ⟨a,c,rfl⟩:=Xq h
  exact ⟨a,c,rfl,fun i e hi=>by rw [List.length_eq_zero_iff.1 h0] at hi;simp at hi⟩
 ·obtain ⟨g,cap,rfl,_,hg,hc⟩:=Qz h h0
  refine ⟨_,cap,rfl,fun i e hi=>⟨g,0,rfl,?_⟩⟩;rw [Nat.zero_add];refine hc i _ ?_;rw [List.getElem?_map] at hi ⊢;cases hq:l[i]? with
  | none=>rw [hq] at hi;cases hi
  | some q=>rw [hq] at hi;rw [← OI hi];rfl
theorem XW.old {x y:World} {a:Option Addr} {L:List Xo} (h:XW x x.heap.size a L) (ho:Xg x y):XW y y.heap.size a L :=
 ⟨h.small,fun i e hi=>by
  obtain ⟨g,off,h1,h2,h3⟩:=(h.of ho.2).at_ i e hi;exact ⟨g,off,h1,Nat.lt_of_lt_of_le h2 ho.1,h3⟩⟩
theorem X0.old {x y:World} {a:Option Addr} {l:List Int} (h:X0 x a l) (ho:Xg x y):X0 y a l:=fun i e hi=>by
 obtain ⟨g,off,h1,h2⟩:=h i e hi;exact ⟨g,off,h1,ho.cell h2⟩
section
variable {Post:Value→World→Prop} {C:Ctx} {x:World} {c:Frame} {cs:List Frame}
theorem Xdi {α:Type} {css:List (List (Xm α))} {cells:Nat→Int} {picks:List Int} {m n:Nat} {e:Int} {Q:Xp (Nat→List α)} (F:Xp.RunFacts css cells picks m e Q) (hm:m≤65536) (hn:css.length≤64) (hnn:n=css.length) {aL aW aR al aP:Option Addr} {cL cW cR cl cP:Nat}
 (hL:XW x x.heap.size aL Q.st.log) (hl:XW x x.heap.size al Q.left) (hW:X0 x aW (Q.st.went.map fun (i:Nat)=>(i:Int))) (hR:X0 x aR (Q.st.ready.map fun (i:Nat)=>(i:Int))) (hP:X0 x aP picks) (hp:picks.length < 9000000000)
 (h:∀ y,Xg x y→JG Try.prog Post C (G (c.finish (.bool true)) cs) y) :
 JG Try.prog Post C (G (Frame.enter Try.prog 20 #[XfG e Q.st.went.length (.slice aL Q.st.log.length cL) (.slice aW Q.st.went.length cW) (.slice aR Q.st.ready.length cR) (.slice al Q.left.length cl) (.slice none 0 0),.int .i64 n,.slice aP picks.length cP,.int .i64 m] .normal) (c::cs)) x:=by
 subst hnn;refine JG.calls (F:=FX UY) (Q:=fun u y=>u=.bool true∧Xg x y) (Y8 _) (by kernel_rfl) (fun τ=>?_) (fun u y hq=>?_)
 ·obtain ⟨csAt,nowAt,firstAt,lastAt,o1,o2,o3,o4,o5⟩:=F.ok
  obtain ⟨l1,l2,l3⟩:=F.lens;have hu:Xg x (under x τ 0):=⟨Nat.le_refl _,fun _ _=>rfl⟩
  have:=Xau (w:=under x τ 0) (cL:=cL) (cW:=cW) (cR:=cR) (cl:=cl) (cP:=cP) (hL.old hu) (hl.old hu) (hW.old hu) (hR.old hu) (hP.old hu) (by rw [F.n];exact hn) (by omega) (by omega) (by omega) (by rw [List.length_map];exact l1) (by rw [List.length_map];exact l2) hp F.rise o1 o2 o3 o4
  rw [List.length_map,List.length_map,F.n] at this;rw [show Q.st.went.length=Q.st.log.length from l1] at this ⊢;refine this.mono ?_;rintro e y ⟨rfl,h2⟩;exact ⟨_,rfl,rfl,h2.old⟩
 ·obtain ⟨rfl,h1⟩:=hq
  exact h y h1
end
def Xd3 (nm:Nat→Nm) (v:Nat→Int) (k:Nat):List (Nm × Int):=(List.range k).map fun i=>(nm i,v i)
theorem XcU (nm:Nat→Nm) (v:Nat→Int) (k:Nat):Xd3 nm v (k + 1)=Xd3 nm v k ++ [(nm k,v k)]:=by
 unfold Xd3;rw [List.range_succ,List.map_append];rfl
theorem Xd2 (nm:Nat→Nm) (v:Nat→Int) (k:Nat):(Xd3 nm v k).length=k:=by simp [Xd3]
theorem Xak {nm:Nat→Nm} (v:Nat→Int):∀ (n:Nat),(∀ a b,a < n→b < n→nm a=nm b→a=b)→∀ c,c < n→Y2 (Xd3 nm v n) (nm c)=v c:=by
 intro n
 induction n with
 | zero=>intro _ c h;omega
 | succ n ih =>
  intro hinj c hc;unfold Y2;rw [XcU,List.find?_append];rcases Nat.lt_or_ge c n with h|h
  ·have h1:=ih (fun a b ha hb=>hinj a b (by omega) (by omega)) c h
   unfold Y2 at h1;have h2:((Xd3 nm v n).find? fun h=>h.1 == nm c).isSome:=by
    rw [List.find?_isSome];exact ⟨(nm c,v c),List.mem_map.2 ⟨c,List.mem_range.2 h,rfl⟩,by simp⟩
   obtain ⟨p,hp⟩:=Option.isSome_iff_exists.1 h2;rw [hp] at h1 ⊢;exact h1
  ·obtain rfl:c=n:=by omega
   have h2:((Xd3 nm v c).find? fun h=>h.1 == nm c)=none:=by
    rw [List.find?_eq_none];intro p hp;obtain ⟨i,hi,rfl⟩:=List.mem_map.1 hp
    have:=List.mem_range.1 hi
    simp only [beq_iff_eq];exact fun e=>by have:=hinj i c (by omega) (by omega) e;omega
   rw [h2];simp
structure Qo {α:Type} (x0:World) (K:Wk) (gv:List Bool) (Q:Xp (Nat→List α)) (nm:Nat→Nm) (cells:Nat→Int) (hs:List (Nm × Int)) (y:World):Prop where
 at_:WAt K gv y
 B:K.B=x0.heap.size
 M:K.M=x0.heap.size
 L:K.L=Q.st.log
 left:K.left=Q.left
 names:K.names=Q.st.names
 nm:K.nm=nm
 cells:K.cells=cells
 hs:K.hs=hs
 vF:K.vF=.slice none 0 0
 lies:K.Lies
 old:Xg x0 y
section
variable {α:Type} {x0:World} {K:Wk} {gv:List Bool} {Q:Xp (Nat→List α)} {nm:Nat→Nm} {cells:Nat→Int} {hs:List (Nm × Int)} {y z:World}
theorem Qo.up (h:Qo x0 K gv Q nm cells hs y) (ho:Xg y z):Qo x0 K gv Q nm cells hs z :=
 { h with at_:=h.at_.old (by rw [h.B];exact h.old.1) ho,old:=h.old.trans ho }
theorem Qo.ok2 {css:List (List (Xm α))} {picks:List Int} {m nc:Nat} {e:Int} (h:Qo x0 K gv Q nm cells hs y) (F:Xp.RunFacts css cells picks m e Q) (hm:m≤65536) (hl:hs.length≤10000) (hinj:∀ a b,a < nc→b < nc→nm a=nm b→a=b) (hbeg:∀ c,c < nc→Y2 hs (nm c)=cells c) (hlt:∀ c∈Q.st.names,c < nc):K.OK nc where
 inj:=fun a b ha hb e=>by rw [h.nm] at e;exact hinj a b ha hb e
 lt:=fun c hc=>hlt c (by rw [← h.names];exact hc)
 nodup:=by rw [h.names];exact F.nodup
 beg:=fun c hc=>by rw [h.hs,h.nm,h.cells];exact hbeg c hc
 low:=h.lies.low
 lowb:=Nat.le_trans h.lies.low h.lies.wb
 apart:=h.lies.n
 small:=by
  rw [h.names,h.hs]
  have:=F.few
  obtain ⟨_,_,l3⟩:=F.lens
  omega
theorem Qo.ok {css:List (List (Xm α))} {picks:List Int} {m nc:Nat} {e:Int} (h:Qo x0 K gv Q nm cells (Xd3 nm cells nc) y) (F:Xp.RunFacts css cells picks m e Q) (hm:m≤65536) (hnc:nc≤10000) (hinj:∀ a b,a < nc→b < nc→nm a=nm b→a=b) (hlt:∀ c∈Q.st.names,c < nc):K.OK nc where
 inj:=fun a b ha hb e=>by rw [h.nm] at e;exact hinj a b ha hb e
 lt:=fun c hc=>hlt c (by rw [← h.names];exact hc)
 nodup:=by rw [h.names];exact F.nodup
 beg:=fun c hc=>by rw [h.hs,h.nm,h.cells];exact Xak cells nc hinj c hc
 low:=h.lies.low
 lowb:=Nat.le_trans h.lies.low h.lies.wb
 apart:=h.lies.n
 small:=by
  rw [h.names,h.hs,Xd2]
  have:=F.few
  obtain ⟨_,_,l3⟩:=F.lens
  omega
end
section
variable {Post:Value→World→Prop} {C:Ctx} {x:World} {c:Frame} {cs:List Frame}
theorem XcF {α:Type} {css:List (List (Xm α))} {cells:Nat→Int} {picks:List Int} {m:Nat} {e:Int} {Q:Xp (Nat→List α)} (F:Xp.RunFacts css cells picks m e Q) (hm:m≤65536) (nm:Nat→Nm) {aL aW aR al:Option Addr} {cL cW cR cl nW nR:Nat}
 (hL:XW x x.heap.size aL Q.st.log) (hl:XW x x.heap.size al Q.left)
 (h:∀ y K,Qo x K (List.replicate Q.st.names.length false) Q nm cells [] y→JG Try.prog Post C (G (c.finish (P0 K.wb)) cs) y) :
 JG Try.prog Post C (G (Frame.enter Try.prog 21 #[XfG e Q.st.went.length (.slice aL Q.st.log.length cL) (.slice aW nW cW) (.slice aR nR cR) (.slice al Q.left.length cl) (.slice none 0 0)] .normal) (c::cs)) x:=by
 refine JG.calls (F:=FX UY) (Q:=fun u y=>∃ K,u=P0 K.wb∧Qo x K (List.replicate Q.st.names.length false) Q nm cells [] y) (Y8 _) (by kernel_rfl) (fun τ=>?_) (fun u y hq=>?_)
 ·obtain ⟨csAt,nowAt,firstAt,lastAt,o1,o2,o3,o4,o5⟩:=F.ok
  obtain ⟨l1,l2,l3⟩:=F.lens;refine (Xac (w:=under x τ 0) (e:=e) (nr:=Q.st.went.length) (cL:=cL) (cl:=cl) (vW:=.slice aW nW cW) (vR:=.slice aR nR cR) (vF:=.slice none 0 0) (hL.old ⟨Nat.le_refl _,fun _ _=>rfl⟩) (by omega) o2 ⟨_,_,_,rfl⟩ ⟨_,_,_,rfl⟩ ⟨_,_,_,rfl⟩).mono ?_;rintro e' y ⟨wb,vN,vG,v1,rfl,hwb,hb,hN,hG,h1,hk⟩;rw [o5,List.length_map] at hN hG h1;refine ⟨_,rfl,{ wb:=wb,B:=x.heap.size,M:=x.heap.size,e:=e,n:=Q.st.went.length,vW:=.slice aW nW cW,vR:=.slice aR nR cR,vF:=.slice none 0 0,aL:=aL,cL:=cL,al:=al,cl:=cl,L:=Q.st.log,left:=Q.left,names:=Q.st.names,nm:=nm,cells:=cells,vN:=vN,vG:=vG,v1:=v1,vH:=.slice none 0 0,vS:=.slice none 0 0,hs:=[] },rfl,?_⟩;have ho:Xg x y:=hk.old;refine ⟨⟨hb,hL.of ho.2,hl.of ho.2,?_,by rw [List.map_replicate];exact hG,h1,X7,X7,List.length_replicate⟩,rfl,rfl,rfl,rfl,rfl,rfl,rfl,rfl,rfl,⟨fun b _=>by simp [Value.ownBlock],fun b _=>by simp [Value.ownBlock],Nat.le_refl _,hwb⟩,ho⟩
  have:Xdy Q.st.names.length=Wk.nmsV { wb:=wb,B:=x.heap.size,M:=x.heap.size,e:=e,n:=Q.st.went.length,vW:=.slice aW nW cW,vR:=.slice aR nR cR,vF:=.slice none 0 0,aL:=aL,cL:=cL,al:=al,cl:=cl,L:=Q.st.log,left:=Q.left,names:=Q.st.names,nm:=nm,cells:=cells,vN:=vN,vG:=vG,v1:=v1,vH:=.slice none 0 0,vS:=.slice none 0 0,hs:=[] } (List.replicate Q.st.names.length false):=by
   unfold Xdy Wk.nmsV
   congr 1
   funext i
   unfold Wk.named;rw [if_neg];rw [List.getD_eq_getElem?_getD,List.getElem?_replicate]
   split<;>simp
  rw [← this];exact hN
 ·obtain ⟨K,rfl,h1⟩:=hq
  exact h y K h1
structure XA (S:Nat→Prop) (x y:World):Prop where
 size:x.heap.size≤y.heap.size
 block:∀ r,r < x.heap.size→¬ S r→y.heap[r]? = x.heap[r]?
theorem Kept.turned {S:Nat→Prop} {τ:Nat→Question→Nat} {d:Nat} {x y:World} (h:Kept S (under x τ d) y):XA S x y:=⟨h.size,h.block⟩
theorem Wk.told_ne {K:Wk} {gv:List Bool} {w:World} (hW:WAt K gv w) {b:Nat} {t:TypeId} {cs:Array Value} (hb:Blk w b t cs) (h1:t≠61) (h2:t≠51) (h3:t≠2):¬ K.told b:=fun h=>by
 rcases h with e|e|e
 ·subst e;exact Blk.ne_ hb hW.blk h1 rfl
 ·exact Blk.ne_ hb (Y0 hW.hav e.symm) h2 rfl
 ·exact Blk.ne_ hb (Y0 hW.hol e.symm) h3 rfl
theorem Xfo {α:Type} {x0:World} {K:Wk} {gv:List Bool} {Q:Xp (Nat→List α)} {nm:Nat→Nm} {cells:Nat→Int} {hs:List (Nm × Int)} (H:Qo x0 K gv Q nm cells hs x) (hl:hs.length≤10000) (n:Nm) (v:Int)
 (h:∀ y K',K'.wb=K.wb→Qo x0 K' gv Q nm cells (hs ++ [(n,v)]) y→XA K.told x y→JG Try.prog Post C (G (c.finish (.tuple #[])) cs) y) :
 JG Try.prog Post C (G (Frame.enter Try.prog 22 #[P0 K.wb,nmV n,.int .i64 v] .normal) (c::cs)) x:=by
 refine JG.calls (F:=FX UY) (Q:=fun u y=>u=.tuple #[]∧XA K.told x y∧∃ K',K'.wb=K.wb∧Qo x0 K' gv Q nm cells (hs ++ [(n,v)]) y) (Y8 _) (by kernel_rfl) (fun τ=>?_) (fun u y hq=>?_)
 ·refine (Xd5 (w:=under x τ 0) (H.at_.frame fun _ _=>rfl) H.lies (by rw [H.M];exact H.old.1) (by rw [H.hs];exact hl) n v).mono ?_
  rintro e y ⟨rfl,vH,vS,h1,h2,h3⟩;refine ⟨_,rfl,rfl,⟨h3.size,fun r hr hn=>h3.block r hr hn⟩,K.more vH vS n v,rfl,h1,H.B,H.M,H.L,H.left,H.names,H.nm,H.cells,by show K.hs ++ [(n,v)] = _;rw [H.hs],H.vF,h2,⟨Nat.le_trans H.old.1 h3.size,fun r hr=>(h3.block r (Nat.lt_of_lt_of_le hr H.old.1) (fun e=>by have:=(Wk.told_ge H.at_ H.lies e).1;rw [H.M] at this;omega)).trans (H.old.2 r hr)⟩⟩
 ·obtain ⟨rfl,h3,K',h1,h2⟩:=hq
  exact h y K' h1 h2 h3
theorem XgW {wb j:Nat} (h:∀ y,Xg x y→Blk y x.heap.size 55 (XD wb j false 0)→JG Try.prog Post C (G (c.finish (P0 x.heap.size)) cs) y) :
 JG Try.prog Post C (G (Frame.enter Try.prog 23 #[P0 wb,.int .i64 j] .normal) (c::cs)) x:=by
 refine JG.calls (F:=FX UY) (Q:=fun u y=>u=P0 x.heap.size∧Xg x y∧Blk y x.heap.size 55 (XD wb j false 0)) (Y8 _) (by kernel_rfl) (fun τ=>?_) (fun u y hq=>?_)
 ·refine (XfT wb j (under x τ 0)).mono ?_
  rintro e y ⟨rfl,h1,h2,h3⟩;exact ⟨_,rfl,rfl,h1.old,h2⟩
 ·obtain ⟨rfl,h1,h2⟩:=hq
  exact h y h1 h2
end
section
variable {α:Type} {K:Wk} {gv0:List Bool} {xb j:Nat} {l:List (Xm α)} {T:List α} {out:Bool} {d:Xm α} {x y:World}
theorem WSR.old {R:Nat→Prop} (h:WSR K gv0 xb j out R x) (ho:Xg x y):WSR K gv0 xb j out R y:=by
 obtain ⟨gv,at',h1,h2,h3,h4,h5,h6,h7⟩:=h;exact ⟨gv,at',h1.old h4 ho,h2,h3,Nat.le_trans h4 ho.1,h5,(ho.2 xb (Blk.lt h6)).trans h6,h7⟩
theorem WS.old (h:WS K gv0 xb j l T out d x) (ho:Xg x y):WS K gv0 xb j l T out d y:=⟨h.s.old ho,h.t⟩
theorem WSR.cell2 {R:Nat→Prop} (h:WSR K gv0 xb j out R x):x.cell? (th xb 2)=some (.bool out):=by
 obtain ⟨gv,at',_,_,_,_,_,h6,_⟩:=h;exact Blk.cell h6 2
structure WM (K:Wk) (gv0:List Bool) (xb j:Nat) (cs:List (Xm α)) (T:List α) (k:Nat) (out:Bool) (x:World):Prop where
 kl:k≤cs.length
 tl:k≤T.length
 o:out=true→T.length=k
 s:WSR K gv0 xb j out (fun i=>(∀ c l,cs.drop k=c::l→ZV K.L K.left K.names K.cells j i c l (T.drop k))∧(k=cs.length→ZL K.L K.left K.names K.cells j i (.ended:Nx α) []∧T.length=k)) x
variable {cs:List (Xm α)} {k:Nat}
theorem WM.old (h:WM K gv0 xb j cs T k out x) (ho:Xg x y):WM K gv0 xb j cs T k out y:=⟨h.kl,h.tl,h.o,h.s.old ho⟩
theorem WM.ws {c:Xm α} (h:WM K gv0 xb j cs T k out x) (hc:cs.drop k=c::l):WS K gv0 xb j l (T.drop k) out c x :=
 ⟨h.s.mono fun _ i hi=>hi.1 c l hc,fun e=>List.drop_eq_nil_of_le (Nat.le_of_eq (h.o e))⟩
theorem WM.next {c:Xm α} {v:α} (hc:cs.drop k=c::l) (hk:k≤T.length) (h:WS K gv0 xb j l (T.drop k) out (.ret v) y):(out=true→WM K gv0 xb j cs T k true y)∧(out=false→T[k]? = some v∧WM K gv0 xb j cs T (k + 1) false y):=by
 have hkl:k < cs.length:=by
  rcases Nat.lt_or_ge k cs.length with h|h
  ·exact h
  ·rw [List.drop_eq_nil_of_le h] at hc;cases hc
 have hl:cs.drop (k + 1)=l:=by
  have:=List.drop_drop (l:=cs) (i:=1) (j:=k)
  rw [hc] at this;simp at this;exact this.symm
 refine ⟨fun e=>?_,fun e=>?_⟩
 ·subst e
  have hT:=h.t rfl;exact ⟨by omega,hk,fun _=>Nat.le_antisymm (List.drop_eq_nil_iff.1 hT) hk,h.s.mono fun e=>(by cases e)⟩
 ·subst e
  have key:∀ i,ZV K.L K.left K.names K.cells j i (.ret v) l (T.drop k)→T[k]? = some v∧(∀ c' l',l=c'::l'→ZV K.L K.left K.names K.cells j i c' l' (T.drop (k + 1)))∧(l = []→ZL K.L K.left K.names K.cells j i (.ended:Nx α) []∧T.length=k + 1):=fun i hi=>by
   have h0:∀ (a:α) (M:List α),T.drop k=a::M→T[k]? = some a∧T.drop (k + 1)=M:=fun a M e=>by
    refine ⟨?_,?_⟩
    ·have:=List.getElem?_drop (xs:=T) (i:=k) (j:=0)
     rw [e] at this;simpa using this.symm
    ·have:=List.drop_drop (l:=T) (i:=1) (j:=k)
     rw [e] at this;simpa using this.symm
   cases l with
   | nil =>
    obtain ⟨e1,e2⟩:=hi.last;obtain ⟨a1,a2⟩:=h0 _ _ e1;refine ⟨a1,fun _ _ e=>(by cases e),fun _=>⟨e2,?_⟩⟩;have h1:=List.drop_eq_nil_iff.1 a2;have h2:=(LE' a1).1
    omega
   | cons c' l' =>
    obtain ⟨T',e1,e2⟩:=hi.next;obtain ⟨a1,a2⟩:=h0 _ _ e1;refine ⟨a1,fun _ _ e=>?_,fun e=>(by cases e)⟩;injection e with e3 e4
    subst e3 e4;rw [a2];exact e2
  have hv:T[k]? = some v:=by
   obtain ⟨gv,at',_,_,_,_,_,_,_,h8,_⟩:=h.s;exact (key at' (h8 rfl)).1
  have hlen:k + 1≤T.length:=(LE' hv).1;refine ⟨hv,by omega,hlen,(fun e=>by cases e),h.s.mono fun _ i hi=>?_⟩;obtain ⟨_,k2,k3⟩:=key i hi;rw [hl];refine ⟨k2,fun e=>k3 ?_⟩;rw [← hl];exact List.drop_eq_nil_of_le (Nat.le_of_eq e.symm)
theorem WM.done (h:WM K gv0 xb j cs T k out x) (he:out=true∨k=cs.length):T.length=k∧WSR K gv0 xb j out (fun i=>ZL K.L K.left K.names K.cells j i (.ended:Nx α) []) x:=by
 cases out with
 | true=>exact ⟨h.o rfl,h.s.mono fun e=>(by cases e)⟩
 | false =>
  have hk:k=cs.length:=he.elim (fun e=>by cases e) id;refine ⟨?_,h.s.mono fun _ i hi=>(hi.2 hk).1⟩;obtain ⟨gv,at',_,_,_,_,_,_,_,h8,_⟩:=h.s;exact ((h8 rfl).2 hk).2
theorem WM.start {gv:List Bool} (hW:WAt K gv x) (hB:K.B≤x.heap.size) (hb:Blk x xb 55 (XD K.wb j false 0)) (hBx:K.B≤xb) (hr:∃ T',T=(QS cs).1 ++ T'∧ZL K.L K.left K.names K.cells j 0 (QS cs).2 T'):WM K gv xb j cs T 0 false x:=by
 obtain ⟨T',h1,h2⟩:=hr;refine ⟨Nat.zero_le _,Nat.zero_le _,(fun e=>by cases e),gv,0,hW,Ul.refl _,Nat.zero_le _,hB,hBx,hb,fun q a h=>by omega,fun _=>⟨fun c l e=>?_,fun e=>?_⟩,fun e=>(by cases e)⟩
 ·rw [List.drop_zero] at e
  subst e;exact ⟨T',h1,h2⟩
 ·obtain rfl:=List.length_eq_zero_iff.1 e.symm
  have h3:ZL K.L K.left K.names K.cells j 0 (.ended:Nx α) T':=h2;have h4:T=T':=by rw [h1];rfl
  cases h3 with
  | ended q1 q2=>exact ⟨.ended q1 q2,by rw [h4];rfl⟩
end
section
variable {Post:Value→World→Prop} {C:Ctx} {x:World} {c:Frame} {cs:List Frame}
theorem Qo.kept {α:Type} {x0:World} {K:Wk} {gv gv':List Bool} {Q:Xp (Nat→List α)} {nm:Nat→Nm} {cells:Nat→Int} {hs:List (Nm × Int)} {y z:World} {xb:Nat} (h:Qo x0 K gv Q nm cells hs y) (hxb:x0.heap.size≤xb) (hk:XA (Yg K xb) y z) (hW:WAt K gv' z):Qo x0 K gv' Q nm cells hs z :=
 { h with at_:=hW,old:=⟨Nat.le_trans h.old.1 hk.size,fun r hr=>(hk.block r (Nat.lt_of_lt_of_le hr h.old.1) fun e=>by
    rcases e with (e|e)|e
    ·have:=XE h.at_.nms e.symm;rw [h.M] at this;omega
    ·have:=XE h.at_.gvn e.symm;rw [h.M] at this;omega
    ·omega).trans (h.old.2 r hr)⟩ }
def Xf5 (K:Wk) (gv0:List Bool) (xb j:Nat) (x y:World):Prop:=∃ gv,WAt K gv y∧Ul gv0 gv∧XA (Yg K xb) x y∧∀ (q:Nat) (a:Xo),K.L[q]? = some a→a.thread=j→gv.getD a.cell.toNat false=true
theorem Xgx {α:Type} {K:Wk} {gv0:List Bool} {xb j:Nat} {out:Bool} (hF:K.vF=.slice none 0 0) (H:WSR K gv0 xb j out (fun i=>ZL K.L K.left K.names K.cells j i (.ended:Nx α) []) x)
 (h:∀ y,Xf5 K gv0 xb j x y→JG Try.prog Post C (G (c.finish (.tuple #[])) cs) y) :
 JG Try.prog Post C (G (Frame.enter Try.prog 25 #[P0 xb,.bool false] .normal) (c::cs)) x:=by
 refine JG.calls (F:=FX UY) (Q:=fun u y=>u=.tuple #[]∧Xf5 K gv0 xb j x y) (Y8 _) (by kernel_rfl) (fun τ=>?_) (fun u y hq=>?_)
 ·refine (XdA (w:=under x τ 0) (out:=out) hF (H.old ⟨Nat.le_refl _,fun _ _=>rfl⟩)).mono ?_
  rintro e y ⟨rfl,gv,h1,h2,h3,h4⟩;exact ⟨_,rfl,rfl,gv,h1,h2,h3.turned,h4⟩
 ·obtain ⟨rfl,h1⟩:=hq
  exact h y h1
