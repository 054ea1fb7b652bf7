/- The cell law tells its walk what the cells held at first. -/
import Derived.Test.YtdhnggjmegilkaaSCpG
import Derived.Test.YtdhnggjmegilkaaSCpO
set_option linter.unusedSimpArgs false
set_option linter.unusedVariables false
set_option maxRecDepth 100000
set_option maxHeartbeats 16000000
namespace Go.Proofs.Ytdhnggjmegilkaa
open Go.Conc Go.RowKit
set_option maxRecDepth 100000
def Xaq (nm:Nat→Nm) (v:Nat→Int) (k:Nat):List (Nm × Int):=(List.range k).map fun i=>(nm i,v i)
theorem WA (nm:Nat→Nm) (v:Nat→Int) (k:Nat):Xaq nm v (k + 1)=Xaq nm v k ++ [(nm k,v k)]:=by
 unfold Xaq;rw [List.range_succ,List.map_append];rfl
theorem XaV (nm:Nat→Nm) (v:Nat→Int) (k:Nat):(Xaq nm v k).length=k:=by simp [Xaq]
theorem Xap {nm:Nat→Nm} (v:Nat→Int):∀ (n:Nat),(∀ a b,a < n→b < n→nm a=nm b→a=b)→∀ c,c < n→ZS (Xaq nm v n) (nm c)=v c:=by
 intro n
 induction n with
 | zero=>intro _ c h;omega
 | succ n ih =>
  intro hinj c hc
  unfold ZS
  rw [WA,List.find?_append]
  rcases Nat.lt_or_ge c n with h|h
  ·have h1:=ih (fun a b ha hb=>hinj a b (by omega) (by omega)) c h
   unfold ZS at h1
   have h2:((Xaq nm v n).find? fun h=>h.1 == nm c).isSome:=by
    rw [List.find?_isSome]
    exact ⟨(nm c,v c),List.mem_map.2 ⟨c,List.mem_range.2 h,rfl⟩,by simp⟩
   obtain ⟨p,hp⟩:=Option.isSome_iff_exists.1 h2
   rw [hp] at h1 ⊢
   exact h1
  ·obtain rfl:c=n:=by omega
   have h2:((Xaq nm v c).find? fun h=>h.1 == nm c)=none:=by
    rw [List.find?_eq_none]
    intro p hp
    obtain ⟨i,hi,rfl⟩:=List.mem_map.1 hp
    have:=List.mem_range.1 hi
    simp only [beq_iff_eq]
    exact fun e=>by have:=hinj i c (by omega) (by omega) e;omega
   rw [h2]
   simp
structure UU {α:Type} (x0:World) (K:Wk) (gv:List Bool) (Q:Xp (Nat→List α)) (nm:Nat→Nm) (cells:Nat→Int) (hs:List (Nm × Int)) (y:World):Prop where
 at_:WAt K gv y
 B:K.B=x0.heap.size
 M:K.M=x0.heap.size
 L:K.L=Q.st.log
 left:K.left=Q.left
 names:K.names=Q.st.names
 nm:K.nm=nm
 cells:K.cells=cells
 hs:K.hs=hs
 vF:K.vF=.slice none 0 0
 lies:K.Lies
 old:Xf x0 y
section
variable {α:Type} {x0:World} {K:Wk} {gv:List Bool} {Q:Xp (Nat→List α)} {nm:Nat→Nm} {cells:Nat→Int} {hs:List (Nm × Int)} {y z:World}
theorem UU.up (h:UU x0 K gv Q nm cells hs y) (ho:Xf y z):UU x0 K gv Q nm cells hs z :=
 { h with at_:=h.at_.old (by rw [h.B];exact h.old.1) ho,old:=h.old.trans ho }
theorem UU.ok {css:List (List (Xr α))} {picks:List Int} {m nc:Nat} {e:Int} (h:UU x0 K gv Q nm cells (Xaq nm cells nc) y) (F:Xp.RunFacts css cells picks m e Q) (hm:m≤65536) (hnc:nc≤10000) (hinj:∀ a b,a < nc→b < nc→nm a=nm b→a=b) (hlt:∀ c∈Q.st.names,c < nc):K.OK nc where
 inj:=fun a b ha hb e=>by rw [h.nm] at e;exact hinj a b ha hb e
 lt:=fun c hc=>hlt c (by rw [← h.names];exact hc)
 nodup:=by rw [h.names];exact F.nodup
 beg:=fun c hc=>by rw [h.hs,h.nm,h.cells];exact Xap cells nc hinj c hc
 low:=h.lies.low
 lowb:=Nat.le_trans h.lies.low h.lies.wb
 apart:=h.lies.n
 small:=by
  rw [h.names,h.hs,XaV]
  have:=F.few
  obtain ⟨_,_,l3⟩:=F.lens
  omega
end
section
variable {Post:Value→World→Prop} {C:Ctx} {x:World} {c:Frame} {cs:List Frame}
theorem Xct {α:Type} {css:List (List (Xr α))} {cells:Nat→Int} {picks:List Int} {m:Nat} {e:Int} {Q:Xp (Nat→List α)} (F:Xp.RunFacts css cells picks m e Q) (hm:m≤65536) (nm:Nat→Nm) {aL aW aR al:Option Addr} {cL cW cR cl nW nR:Nat}
 (hL:XT x x.heap.size aL Q.st.log) (hl:XT x x.heap.size al Q.left)
 (h:∀ y K,UU x K (List.replicate Q.st.names.length false) Q nm cells [] y→JG Try.prog Post C (G (c.finish (P0 K.wb)) cs) y) :
 JG Try.prog Post C (G (Frame.enter Try.prog 21 #[Xfd e Q.st.went.length (.slice aL Q.st.log.length cL) (.slice aW nW cW) (.slice aR nR cR) (.slice al Q.left.length cl) (.slice none 0 0)] .normal) (c::cs)) x:=by
 refine JG.calls (F:=FX Vp) (Q:=fun u y=>∃ K,u=P0 K.wb∧UU x K (List.replicate Q.st.names.length false) Q nm cells [] y) (Zd _) (by kernel_rfl) (fun τ=>?_) (fun u y hq=>?_)
 ·obtain ⟨csAt,nowAt,firstAt,lastAt,o1,o2,o3,o4,o5⟩:=F.ok
  obtain ⟨l1,l2,l3⟩:=F.lens
  refine (Xah (w:=under x τ 0) (e:=e) (nr:=Q.st.went.length) (cL:=cL) (cl:=cl) (vW:=.slice aW nW cW) (vR:=.slice aR nR cR) (vF:=.slice none 0 0) (hL.old ⟨Nat.le_refl _,fun _ _=>rfl⟩) (by omega) o2 ⟨_,_,_,rfl⟩ ⟨_,_,_,rfl⟩ ⟨_,_,_,rfl⟩).mono ?_
  rintro e' y ⟨wb,vN,vG,v1,rfl,hwb,hb,hN,hG,h1,hk⟩
  rw [o5,List.length_map] at hN hG h1
  refine ⟨_,rfl,{ wb:=wb,B:=x.heap.size,M:=x.heap.size,e:=e,n:=Q.st.went.length,vW:=.slice aW nW cW,vR:=.slice aR nR cR,vF:=.slice none 0 0,aL:=aL,cL:=cL,al:=al,cl:=cl,L:=Q.st.log,left:=Q.left,names:=Q.st.names,nm:=nm,cells:=cells,vN:=vN,vG:=vG,v1:=v1,vH:=.slice none 0 0,vS:=.slice none 0 0,hs:=[] },rfl,?_⟩
  have ho:Xf x y:=hk.old
  refine ⟨⟨hb,hL.of ho.2,hl.of ho.2,?_,by rw [List.map_replicate];exact hG,h1,XW,XW,List.length_replicate⟩,rfl,rfl,rfl,rfl,rfl,rfl,rfl,rfl,rfl,⟨fun b _=>by simp [Value.ownBlock],fun b _=>by simp [Value.ownBlock],Nat.le_refl _,hwb⟩,ho⟩
  have:Xdn Q.st.names.length=Wk.nmsV { wb:=wb,B:=x.heap.size,M:=x.heap.size,e:=e,n:=Q.st.went.length,vW:=.slice aW nW cW,vR:=.slice aR nR cR,vF:=.slice none 0 0,aL:=aL,cL:=cL,al:=al,cl:=cl,L:=Q.st.log,left:=Q.left,names:=Q.st.names,nm:=nm,cells:=cells,vN:=vN,vG:=vG,v1:=v1,vH:=.slice none 0 0,vS:=.slice none 0 0,hs:=[] } (List.replicate Q.st.names.length false):=by
   unfold Xdn Wk.nmsV
   congr 1
   funext i
   unfold Wk.named
   rw [if_neg]
   rw [List.getD_eq_getElem?_getD,List.getElem?_replicate]
   split<;>simp
  rw [← this]
  exact hN
 ·obtain ⟨K,rfl,h1⟩:=hq
  exact h y K h1
theorem XfF {α:Type} {x0:World} {K:Wk} {gv:List Bool} {Q:Xp (Nat→List α)} {nm:Nat→Nm} {cells:Nat→Int} {hs:List (Nm × Int)} (H:UU x0 K gv Q nm cells hs x) (hl:hs.length≤10000) (n:Nm) (v:Int)
 (h:∀ y K',K'.wb=K.wb→UU x0 K' gv Q nm cells (hs ++ [(n,v)]) y→JG Try.prog Post C (G (c.finish (.tuple #[])) cs) y) :
 JG Try.prog Post C (G (Frame.enter Try.prog 22 #[P0 K.wb,nmV n,.int .i64 v] .normal) (c::cs)) x:=by
 refine JG.calls (F:=FX Vp) (Q:=fun u y=>u=.tuple #[]∧∃ K',K'.wb=K.wb∧UU x0 K' gv Q nm cells (hs ++ [(n,v)]) y) (Zd _) (by kernel_rfl) (fun τ=>?_) (fun u y hq=>?_)
 ·refine (XdP (w:=under x τ 0) (H.at_.frame fun _ _=>rfl) H.lies (by rw [H.M];exact H.old.1) (by rw [H.hs];exact hl) n v).mono ?_
  rintro e y ⟨rfl,vH,vS,h1,h2,h3⟩
  refine ⟨_,rfl,rfl,K.more vH vS n v,rfl,h1,H.B,H.M,H.L,H.left,H.names,H.nm,H.cells,by show K.hs ++ [(n,v)] = _;rw [H.hs],H.vF,h2,⟨Nat.le_trans H.old.1 h3.size,fun r hr=>(h3.block r (Nat.lt_of_lt_of_le hr H.old.1) (by rw [H.M];omega)).trans (H.old.2 r hr)⟩⟩
 ·obtain ⟨rfl,K',h1,h2⟩:=hq
  exact h y K' h1 h2
theorem Xgo {wb j:Nat} (h:∀ y,Xf x y→Blk y x.heap.size 55 (XE wb j false 0)→JG Try.prog Post C (G (c.finish (P0 x.heap.size)) cs) y) :
 JG Try.prog Post C (G (Frame.enter Try.prog 23 #[P0 wb,.int .i64 j] .normal) (c::cs)) x:=by
 refine JG.calls (F:=FX Vp) (Q:=fun u y=>u=P0 x.heap.size∧Xf x y∧Blk y x.heap.size 55 (XE wb j false 0)) (Zd _) (by kernel_rfl) (fun τ=>?_) (fun u y hq=>?_)
 ·refine (Xfs wb j (under x τ 0)).mono ?_
  rintro e y ⟨rfl,h1,h2,h3⟩
  exact ⟨_,rfl,rfl,h1.old,h2⟩
 ·obtain ⟨rfl,h1,h2⟩:=hq
  exact h y h1 h2
end
section
variable {α:Type} {K:Wk} {gv0:List Bool} {xb j:Nat} {l:List (Xr α)} {T:List α} {out:Bool} {d:Xr α} {x y:World}
theorem WSR.old {R:Nat→Prop} (h:WSR K gv0 xb j out R x) (ho:Xf x y):WSR K gv0 xb j out R y:=by
 obtain ⟨gv,at',h1,h2,h3,h4,h5,h6,h7⟩:=h
 exact ⟨gv,at',h1.old h4 ho,h2,h3,Nat.le_trans h4 ho.1,h5,(ho.2 xb (Blk.lt h6)).trans h6,h7⟩
theorem WS.old (h:WS K gv0 xb j l T out d x) (ho:Xf x y):WS K gv0 xb j l T out d y:=⟨h.s.old ho,h.t⟩
theorem WSR.cell2 {R:Nat→Prop} (h:WSR K gv0 xb j out R x):x.cell? (th xb 2)=some (.bool out):=by
 obtain ⟨gv,at',_,_,_,_,_,h6,_⟩:=h
 exact Blk.cell h6 2
structure WP (K:Wk) (gv0:List Bool) (xb j:Nat) (cs:List (Xr α)) (T:List α) (k:Nat) (out:Bool) (x:World):Prop where
 kl:k≤cs.length
 tl:k≤T.length
 o:out=true→T.length=k
 s:WSR K gv0 xb j out (fun i=>(∀ c l,cs.drop k=c::l→ZU K.L K.left K.names K.cells j i c l (T.drop k))∧(k=cs.length→ZI K.L K.left K.names K.cells j i (.ended:Nx α) []∧T.length=k)) x
variable {cs:List (Xr α)} {k:Nat}
theorem WP.old (h:WP K gv0 xb j cs T k out x) (ho:Xf x y):WP K gv0 xb j cs T k out y:=⟨h.kl,h.tl,h.o,h.s.old ho⟩
theorem WP.ws {c:Xr α} (h:WP K gv0 xb j cs T k out x) (hc:cs.drop k=c::l):WS K gv0 xb j l (T.drop k) out c x :=
 ⟨h.s.mono fun _ i hi=>hi.1 c l hc,fun e=>List.drop_eq_nil_of_le (Nat.le_of_eq (h.o e))⟩
theorem WP.next {c:Xr α} {v:α} (hc:cs.drop k=c::l) (hk:k≤T.length) (h:WS K gv0 xb j l (T.drop k) out (.ret v) y):(out=true→WP K gv0 xb j cs T k true y)∧(out=false→T[k]? = some v∧WP K gv0 xb j cs T (k + 1) false y):=by
 have hkl:k < cs.length:=by
  rcases Nat.lt_or_ge k cs.length with h|h
  ·exact h
  ·rw [List.drop_eq_nil_of_le h] at hc;cases hc
 have hl:cs.drop (k + 1)=l:=by
  have:=List.drop_drop (l:=cs) (i:=1) (j:=k)
  rw [hc] at this
  simp at this
  exact this.symm
 refine ⟨fun e=>?_,fun e=>?_⟩
 ·subst e
  have hT:=h.t rfl
  exact ⟨by omega,hk,fun _=>Nat.le_antisymm (List.drop_eq_nil_iff.1 hT) hk,h.s.mono fun e=>(by cases e)⟩
 ·subst e
  have key:∀ i,ZU K.L K.left K.names K.cells j i (.ret v) l (T.drop k)→T[k]? = some v∧(∀ c' l',l=c'::l'→ZU K.L K.left K.names K.cells j i c' l' (T.drop (k + 1)))∧(l = []→ZI K.L K.left K.names K.cells j i (.ended:Nx α) []∧T.length=k + 1):=fun i hi=>by
   have h0:∀ (a:α) (M:List α),T.drop k=a::M→T[k]? = some a∧T.drop (k + 1)=M:=fun a M e=>by
    refine ⟨?_,?_⟩
    ·have:=List.getElem?_drop (xs:=T) (i:=k) (j:=0)
     rw [e] at this
     simpa using this.symm
    ·have:=List.drop_drop (l:=T) (i:=1) (j:=k)
     rw [e] at this
     simpa using this.symm
   cases l with
   | nil =>
    obtain ⟨e1,e2⟩:=hi.last
    obtain ⟨a1,a2⟩:=h0 _ _ e1
    refine ⟨a1,fun _ _ e=>(by cases e),fun _=>⟨e2,?_⟩⟩
    have h1:=List.drop_eq_nil_iff.1 a2
    have h2:=(LE' a1).1
    omega
   | cons c' l' =>
    obtain ⟨T',e1,e2⟩:=hi.next
    obtain ⟨a1,a2⟩:=h0 _ _ e1
    refine ⟨a1,fun _ _ e=>?_,fun e=>(by cases e)⟩
    injection e with e3 e4
    subst e3 e4
    rw [a2];exact e2
  have hv:T[k]? = some v:=by
   obtain ⟨gv,at',_,_,_,_,_,_,_,h8,_⟩:=h.s
   exact (key at' (h8 rfl)).1
  have hlen:k + 1≤T.length:=(LE' hv).1
  refine ⟨hv,by omega,hlen,(fun e=>by cases e),h.s.mono fun _ i hi=>?_⟩
  obtain ⟨_,k2,k3⟩:=key i hi
  rw [hl]
  refine ⟨k2,fun e=>k3 ?_⟩
  rw [← hl];exact List.drop_eq_nil_of_le (Nat.le_of_eq e.symm)
theorem WP.done (h:WP K gv0 xb j cs T k out x) (he:out=true∨k=cs.length):T.length=k∧WSR K gv0 xb j out (fun i=>ZI K.L K.left K.names K.cells j i (.ended:Nx α) []) x:=by
 cases out with
 | true=>exact ⟨h.o rfl,h.s.mono fun e=>(by cases e)⟩
 | false =>
  have hk:k=cs.length:=he.elim (fun e=>by cases e) id
  refine ⟨?_,h.s.mono fun _ i hi=>(hi.2 hk).1⟩
  obtain ⟨gv,at',_,_,_,_,_,_,_,h8,_⟩:=h.s
  exact ((h8 rfl).2 hk).2
theorem WP.start {gv:List Bool} (hW:WAt K gv x) (hB:K.B≤x.heap.size) (hb:Blk x xb 55 (XE K.wb j false 0)) (hBx:K.B≤xb) (hr:∃ T',T=(QQ cs).1 ++ T'∧ZI K.L K.left K.names K.cells j 0 (QQ cs).2 T'):WP K gv xb j cs T 0 false x:=by
 obtain ⟨T',h1,h2⟩:=hr
 refine ⟨Nat.zero_le _,Nat.zero_le _,(fun e=>by cases e),gv,0,hW,Ue.refl _,Nat.zero_le _,hB,hBx,hb,fun q a h=>by omega,fun _=>⟨fun c l e=>?_,fun e=>?_⟩,fun e=>(by cases e)⟩
 ·rw [List.drop_zero] at e
  subst e
  exact ⟨T',h1,h2⟩
 ·obtain rfl:=List.length_eq_zero_iff.1 e.symm
  have h3:ZI K.L K.left K.names K.cells j 0 (.ended:Nx α) T':=h2
  have h4:T=T':=by rw [h1];rfl
  cases h3 with
  | ended q1 q2=>exact ⟨.ended q1 q2,by rw [h4];rfl⟩
end
section
variable {Post:Value→World→Prop} {C:Ctx} {x:World} {c:Frame} {cs:List Frame}
structure Vn (S:Nat→Prop) (x y:World):Prop where
 size:x.heap.size≤y.heap.size
 block:∀ r,r < x.heap.size→¬ S r→y.heap[r]? = x.heap[r]?
theorem Kept.turned {S:Nat→Prop} {τ:Nat→Question→Nat} {d:Nat} {x y:World} (h:Kept S (under x τ d) y):Vn S x y:=⟨h.size,h.block⟩
theorem UU.kept {α:Type} {x0:World} {K:Wk} {gv gv':List Bool} {Q:Xp (Nat→List α)} {nm:Nat→Nm} {cells:Nat→Int} {hs:List (Nm × Int)} {y z:World} {xb:Nat} (h:UU x0 K gv Q nm cells hs y) (hxb:x0.heap.size≤xb) (hk:Vn (Zi K xb) y z) (hW:WAt K gv' z):UU x0 K gv' Q nm cells hs z :=
 { h with at_:=hW,old:=⟨Nat.le_trans h.old.1 hk.size,fun r hr=>(hk.block r (Nat.lt_of_lt_of_le hr h.old.1) fun e=>by
    rcases e with (e|e)|e
    ·have:=XF h.at_.nms e.symm;rw [h.M] at this;omega
    ·have:=XF h.at_.gvn e.symm;rw [h.M] at this;omega
    ·omega).trans (h.old.2 r hr)⟩ }
def XfK (K:Wk) (gv0:List Bool) (xb j:Nat) (x y:World):Prop:=∃ gv,WAt K gv y∧Ue gv0 gv∧Vn (Zi K xb) x y∧∀ (q:Nat) (a:Xn),K.L[q]? = some a→a.thread=j→gv.getD a.cell.toNat false=true
theorem Xf0 {α:Type} {K:Wk} {gv0:List Bool} {xb j:Nat} {out:Bool} (hF:K.vF=.slice none 0 0) (H:WSR K gv0 xb j out (fun i=>ZI K.L K.left K.names K.cells j i (.ended:Nx α) []) x)
 (h:∀ y,XfK K gv0 xb j x y→JG Try.prog Post C (G (c.finish (.tuple #[])) cs) y) :
 JG Try.prog Post C (G (Frame.enter Try.prog 25 #[P0 xb,.bool false] .normal) (c::cs)) x:=by
 refine JG.calls (F:=FX Vp) (Q:=fun u y=>u=.tuple #[]∧XfK K gv0 xb j x y) (Zd _) (by kernel_rfl) (fun τ=>?_) (fun u y hq=>?_)
 ·refine (Xdp (w:=under x τ 0) (out:=out) hF (H.old ⟨Nat.le_refl _,fun _ _=>rfl⟩)).mono ?_
  rintro e y ⟨rfl,gv,h1,h2,h3,h4⟩
  exact ⟨_,rfl,rfl,gv,h1,h2,h3.turned,h4⟩
 ·obtain ⟨rfl,h1⟩:=hq
  exact h y h1
end
structure TA where
 bp:Nat
 bl:Nat
 bt:Nat
 gt:Nat
 gl:Nat
 gC:Nat
 oC:Nat
 nC:Nat
 cC:Nat
 nS:Nat
 cS:Nat
 cl:Nat
 cT:Nat
 cP:Nat
 N0:Nat
 aS:Option Addr
 aP:Option Addr
 v:Nat→Int
 picks:List Int
 Ss:List (List Op4)
 A:Nat→Nat
def TA.css (t:TA):List (List (Xr Int)):=t.Ss.map fun L=>L.map (Op4.d t.nC)
structure Tl (t:TA) (Q:Xp (Nat→List Int)) (x:World):Prop where
 c1:x.cell? (th t.bp 0)=some (.slice (some ⟨t.gC,t.oC,none⟩) t.nC t.cC)
 c2:x.cell? (th t.bp 1)=some (.slice t.aS t.nS t.cS)
 c3:x.cell? (th t.bp 2)=some (.slice t.aP t.picks.length t.cP)
 c4:x.cell? (th t.bl 0)=some (.slice (some ⟨t.gl,0,none⟩) t.nC t.cl)
 c5:x.cell? (th t.bt 0)=some (.slice (some ⟨t.gt,0,none⟩) t.nS t.cT)
 v:∀ i,i < t.nC→x.cell? ⟨t.gC,t.oC + i,none⟩=some (.int .i64 (t.v i))
 pk:XS x t.aP t.picks
 num:t.Ss.length=t.nS
 sc:∀ (j:Nat) (L:List Op4),t.Ss[j]? = some L→∃ gS oS aC cC,t.aS=some ⟨gS,oS,none⟩∧x.cell? ⟨gS,oS + j,none⟩=some (.slice aC L.length cC)∧QC x x.heap.size aC L∧L.length≤1000000
 rows:∃ hd N0,Rows t.gt t.nS N0 (fun _=>False) Q.st.sh hd x
 ls:∀ i,i < t.nC→x.cell? (th t.gl i)=some (P0 (t.A i))
 fr:∀ i,i < t.nC→Yg x (t.A i) (Q.st.cells i)
 small:0 < t.nC∧t.nC≤40∧t.nS≤8∧t.picks.length≤2000
 lt:∀ c∈Q.st.names,c < t.nC
theorem QC.old {x y:World} {a:Option Addr} {L:List Op4} (h:QC x x.heap.size a L) (ho:Xf x y):QC y y.heap.size a L:=fun i c hi=>by
 obtain ⟨g,off,e,hg,q0,q1,q2,q3⟩:=h i c hi
 exact ⟨g,off,e,Nat.lt_of_lt_of_le hg ho.1,ho.cell q0,ho.cell q1,ho.cell q2,ho.cell q3⟩
theorem Rows.old {gt n N0:Nat} {sh:Nat→List Int} {hd:Nat→Value} {x y:World} (h:Rows gt n N0 (fun _=>False) sh hd x) (ho:Xf x y):Rows gt n N0 (fun _=>False) sh hd y :=
 ⟨(ho.2 gt h.lt).trans h.head,fun j hj=>Xh (h.row j hj) fun g hg=>ho.2 g (Xq (h.row j hj) hg),h.free,h.apart⟩
theorem Tl.old {t:TA} {Q:Xp (Nat→List Int)} {x y:World} (h:Tl t Q x) (ho:Xf x y):Tl t Q y :=
 ⟨ho.cell h.c1,ho.cell h.c2,ho.cell h.c3,ho.cell h.c4,ho.cell h.c5,fun i hi=>ho.cell (h.v i hi),h.pk.old ho,h.num,fun j L hL=>by
  obtain ⟨gS,oS,aC,cC,e1,e2,e3,e4⟩:=h.sc j L hL
  exact ⟨gS,oS,aC,cC,e1,ho.cell e2,e3.old ho,e4⟩,h.rows.imp fun _=>Exists.imp fun _ h=>h.old ho,fun i hi=>ho.cell (h.ls i hi),fun i hi=>ho.free (h.fr i hi),h.small,h.lt⟩
structure Xdi (x:World) (q:Nat) (e:Int) (Q:Xp (Nat→List Int)) (aL aW aR al:Option Addr) (cL cW cR cl:Nat):Prop where
 blk:x.heap[q]? = some (.cells #[.int .i8 e,.int .i64 Q.st.went.length,.slice aL Q.st.log.length cL,.slice aW Q.st.went.length cW,.slice aR Q.st.ready.length cR,.slice al Q.left.length cl,.slice none 0 0] 43 (0,0))
 lg:XT x x.heap.size aL Q.st.log
 lf:XT x x.heap.size al Q.left
 wn:XS x aW (Q.st.went.map fun (i:Nat)=>(i:Int))
 rd:XS x aR (Q.st.ready.map fun (i:Nat)=>(i:Int))
theorem Xdi.old {x y:World} {q:Nat} {e:Int} {Q:Xp (Nat→List Int)} {aL aW aR al:Option Addr} {cL cW cR cl:Nat} (h:Xdi x q e Q aL aW aR al cL cW cR cl) (ho:Xf x y):Xdi y q e Q aL aW aR al cL cW cR cl :=
 ⟨(ho.2 q (GE h.blk).1).trans h.blk,h.lg.old ho,h.lf.old ho,h.wn.old ho,h.rd.old ho⟩
def Ws (i:Nat):Nm:=(2,(i:Int))
section
variable {Post:Value→World→Prop} {C:Ctx} {cs:List Frame} {x:World} {t:TA} {Q:Xp (Nat→List Int)} {e:Int} {q:Nat} {aL aW aR al:Option Addr} {cL cW cR cl:Nat} {kk:List Item}
theorem Xfu {u0 u2 u3 u5 u7 u8 B0 B1 B2 B3 B4 B5 B6 B7 B8 B9 D0 D1 D2 D3 D4 D5 D6 D7 D8 D9 E0 E1 E2 E3 E4 E5 E6 E7 E8 E9 G0 G1 G2 G3 G4 G5 G6 G7 G8 G9 H4 H5 H6 H7 H8 H9 I0 I1 I2 I3 I4 I5 I6 I7 I8 I9 J0 J1 J2 J3 J4 J5 J6 J7 J8 J9 K0 K1 K3 K4 K5 K6 K7 K8 K9 L0 L1 L2 L3 L4 L5 L6 L7 L8 L9 M0 M1 M4 M5 M6 M7 M8 M9 N1 N5 N6 N7 N8 N9 O0 O1 O2 O3 O4 O5 O6 O7 O8 O9 R0 R1 R2 R3 R4 R5 R6 R7 R8 R9 S0 S1 S2 S3 S4 S5 S6 S7 S8 S9 T0 T1 T2 T3 T4 T5 T6 T7 T8 T9 U0 U1 U2 U3 U4 U5 U6 U7 U8 U9 V0 V1 V2 V3 V4 V5 V6 V7 V8 V9 W0 W1 W2 W3:Value} (F:Xp.RunFacts t.css t.v t.picks 16384 e Q) (H:Tl t Q x) (hr:Xdi x q e Q aL aW aR al cL cW cR cl)
 (h:∀ (y:World) (K:Wk) (I6 I7 I8 I9 J0 J1 J2 J3 J4 J5:Value) (x1:World),Xf x x1→UU x1 K (List.replicate Q.st.names.length false) Q Ws t.v [] y→JG Try.prog Post C (G ((base 3).at ⟨List.toArray (u0::P0 t.bp::u2::u3::P0 t.bl::u5::P0 t.bt::u7::u8::P0 q::P0 K.wb::.int .i64 0::B2::B3::B4::B5::B6::B7::B8::B9::D0::D1::D2::D3::D4::D5::D6::D7::D8::D9::E0::E1::E2::E3::E4::E5::E6::E7::E8::E9::G0::G1::G2::G3::G4::G5::G6::G7::G8::G9::H4::H5::H6::H7::H8::H9::I0::I1::I2::I3::I4::I5::I6::I7::I8::I9::J0::J1::J2::J3::J4::J5::J6::J7::J8::J9::K0::K1::K3::K4::K5::K6::K7::K8::K9::L0::L1::L2::L3::L4::L5::L6::L7::L8::L9::M0::M1::M4::M5::M6::M7::M8::M9::N1::N5::N6::N7::N8::N9::O0::O1::O2::O3::O4::O5::O6::O7::O8::O9::R0::R1::R2::R3::R4::R5::R6::R7::R8::R9::S0::S1::S2::S3::S4::S5::S6::S7::S8::S9::T0::T1::T2::T3::T4::T5::T6::T7::T8::T9::U0::U1::U2::U3::U4::U5::U6::U7::U8::U9::V0::V1::V2::V3::V4::V5::V6::V7::V8::V9::W0::W1::W2::W3::[]),[]⟩ (.code (Code.nav (Try.f3.body.getD .skip) [1,1,1,1,1,1,1,1,1,1,1,0,1,0])::.inBlock 4::.code (Code.nav (Try.f3.body.getD .skip) [1,1,1,1,1,1,1,1,1,1,1,1])::kk)) cs) y) :
 JG Try.prog Post C (G ((base 3).at ⟨List.toArray (u0::P0 t.bp::u2::u3::P0 t.bl::u5::P0 t.bt::u7::u8::P0 q::B0::B1::B2::B3::B4::B5::B6::B7::B8::B9::D0::D1::D2::D3::D4::D5::D6::D7::D8::D9::E0::E1::E2::E3::E4::E5::E6::E7::E8::E9::G0::G1::G2::G3::G4::G5::G6::G7::G8::G9::H4::H5::H6::H7::H8::H9::I0::I1::I2::I3::I4::I5::I6::I7::I8::I9::J0::J1::J2::J3::J4::J5::J6::J7::J8::J9::K0::K1::K3::K4::K5::K6::K7::K8::K9::L0::L1::L2::L3::L4::L5::L6::L7::L8::L9::M0::M1::M4::M5::M6::M7::M8::M9::N1::N5::N6::N7::N8::N9::O0::O1::O2::O3::O4::O5::O6::O7::O8::O9::R0::R1::R2::R3::R4::R5::R6::R7::R8::R9::S0::S1::S2::S3::S4::S5::S6::S7::S8::S9::T0::T1::T2::T3::T4::T5::T6::T7::T8::T9::U0::U1::U2::U3::U4::U5::U6::U7::U8::U9::V0::V1::V2::V3::V4::V5::V6::V7::V8::V9::W0::W1::W2::W3::[]),[]⟩ (.code (Code.nav (Try.f3.body.getD .skip) [1,1,1,1,1,1,1,1,1])::kk)) cs) x:=by
 have hnS:t.css.length=t.nS:=by unfold TA.css;rw [List.length_map];exact H.num
 obtain ⟨_,_,s8,s2⟩:=H.small
 have y2:=H.c2
 have y3:=H.c3
 simp only [Try.f3,Option.getD_some,Code.nav] at h
 have hh:=HD h
 have HF:=HD F
 have HH:=HD H
 have hr0:=HD hr
 replace hnS:=HD hnS
 clear h F H
 simp only [Try.f3,Option.getD_some,Code.nav]
 refine JG.seq ?_
 refine JG.seq ?_
 refine JG.region ?_
 simp only [List.size_toArray,List.length_cons,List.length_nil,Nat.reduceAdd,Nat.zero_add,List.range,List.range.loop]
 refine jo rfl rfl rfl (by decide) fun K E hK hE τ d=>?_
 have m0:=uc τ d (Xa hr.blk 0)
 have m1:=uc τ d (Xa hr.blk 1)
 have m2:=uc τ d (Xa hr.blk 2)
 have m3:=uc τ d (Xa hr.blk 3)
 have m4:=uc τ d (Xa hr.blk 4)
 have m5:=uc τ d (Xa hr.blk 5)
 have m6:=uc τ d (Xa hr.blk 6)
 go_simp
 refine hK _ _ (jt ?_)
 clear m0 m1 m2 m3 m4 m5 m6 hK hE K E τ d
 try walk_nrm
 replace hr:=HD hr
 repeat first|refine jc rfl ?_|(first|refine ju rfl rfl ?_|(refine jv rfl rfl rfl fun K E f τ d=>?_;have f0:=uc τ d y2;have f1:=uc τ d y3;go_simp;refine f _ _ _ _ ?_;clear f0 f1 f K E τ d);try walk_nrm)
 refine Xt (f:=20) (args:=#[.agg #[.int .i8 e,.int .i64 Q.st.went.length,.slice aL Q.st.log.length cL,.slice aW Q.st.went.length cW,.slice aR Q.st.ready.length cR,.slice al Q.left.length cl,.slice none 0 0],.int .i64 t.nS,.slice t.aP t.picks.length t.cP,.int .i64 16384]) Try.func20 (by kernel_rfl) (by kernel_rfl) rfl rfl rfl rfl (by decide) ?_
 refine Xc6 (m:=16384) HF.out (by omega) (by rw [hnS.out];omega) hnS.out.symm hr0.out.lg hr0.out.lf hr0.out.wn hr0.out.rd HH.out.pk (by omega) fun y ho=>?_
 rw [Frame.finish_at]
 walk_nrm
 clear y2 y3 hr
 have hr:=hr0.out.old ho
 repeat first|refine jc rfl ?_|(first|refine ju rfl rfl ?_|(refine jv rfl rfl rfl fun K E f τ d=>?_;go_simp;refine f _ _ _ _ ?_;clear f K E τ d);try walk_nrm)
 refine jo rfl rfl rfl (by decide) fun K E hK hE τ d=>?_
 have m0:=uc τ d (Xa hr.blk 0)
 have m1:=uc τ d (Xa hr.blk 1)
 have m2:=uc τ d (Xa hr.blk 2)
 have m3:=uc τ d (Xa hr.blk 3)
 have m4:=uc τ d (Xa hr.blk 4)
 have m5:=uc τ d (Xa hr.blk 5)
 have m6:=uc τ d (Xa hr.blk 6)
 go_simp
 refine hK _ _ (jt ?_)
 clear m0 m1 m2 m3 m4 m5 m6 hK hE K E τ d
 try walk_nrm
 replace hr:=HD hr
 replace ho:=HD ho
 repeat first|refine jc rfl ?_|(first|refine ju rfl rfl ?_|(refine jv rfl rfl rfl fun K E f τ d=>?_;go_simp;refine f _ _ _ _ ?_;clear f K E τ d);try walk_nrm)
 refine Xt (f:=21) (args:=#[.agg #[.int .i8 e,.int .i64 Q.st.went.length,.slice aL Q.st.log.length cL,.slice aW Q.st.went.length cW,.slice aR Q.st.ready.length cR,.slice al Q.left.length cl,.slice none 0 0]]) Try.func21 (by kernel_rfl) (by kernel_rfl) rfl rfl rfl rfl (by decide) ?_
 refine Xct HF.out (by omega) Ws hr.out.lg hr.out.lf fun z K hk=>?_
 rw [Frame.finish_at]
 walk_nrm
 replace hk:=HD hk
 repeat first|refine jc rfl ?_|(first|refine ju rfl rfl ?_|(refine jv rfl rfl rfl fun K E f τ d=>?_;go_simp;refine f _ _ _ _ ?_;clear f K E τ d);try walk_nrm)
 exact hh.out z K _ _ _ _ _ _ _ _ _ _ y ho.out hk.out
end
section
variable {Post:Value→World→Prop} {C:Ctx} {cs:List Frame} {t:TA} {Q:Xp (Nat→List Int)} {q wb:Nat} {kk:List Item} {x0 x1:World} {gv:List Bool}
theorem XcK {u0 u2 u3 u5 u7 u8 B2 B3 B4 B5 B6 B7 B8 B9 D0 D1 D2 D3 D4 D5 D6 D7 D8 D9 E0 E1 E2 E3 E4 E5 E6 E7 E8 E9 G0 G1 G2 G3 G4 G5 G6 G7 G8 G9 H4 H5 H6 H7 H8 H9 I0 I1 I2 I3 I4 I5 I6 I7 I8 I9 J0 J1 J2 J3 J4 J5 L3 L4 L5 L6 L7 L8 L9 M0 M1 M4 M5 M6 M7 M8 M9 N1 N5 N6 N7 N8 N9 O0 O1 O2 O3 O4 O5 O6 O7 O8 O9 R0 R1 R2 R3 R4 R5 R6 R7 R8 R9 S0 S1 S2 S3 S4 S5 S6 S7 S8 S9 T0 T1 T2 T3 T4 T5 T6 T7 T8 T9 U0 U1 U2 U3 U4 U5 U6 U7 U8 U9 V0 V1 V2 V3 V4 V5 V6 V7 V8 V9 W0 W1 W2 W3:Value} (H:Tl t Q x0) (h01:Xf x0 x1):∀ (p k:Nat),k + p=t.nC→∀ (x:World) (K:Wk) (J6 J7 J8 J9 K0 K1 K3 K4 K5 K6 K7 K8 K9 L0 L1 L2:Value),K.wb=wb→UU x1 K gv Q Ws t.v (Xaq Ws t.v k) x →
 (∀ (y:World) (K:Wk) (J6 J7 J8 J9 K0 K1 K3 K4 K5 K6 K7 K8 K9 L0 L1 L2:Value),K.wb=wb→UU x1 K gv Q Ws t.v (Xaq Ws t.v t.nC) y→JG Try.prog Post C (G ((base 3).at ⟨List.toArray (u0::P0 t.bp::u2::u3::P0 t.bl::u5::P0 t.bt::u7::u8::P0 q::P0 wb::.int .i64 t.nC::B2::B3::B4::B5::B6::B7::B8::B9::D0::D1::D2::D3::D4::D5::D6::D7::D8::D9::E0::E1::E2::E3::E4::E5::E6::E7::E8::E9::G0::G1::G2::G3::G4::G5::G6::G7::G8::G9::H4::H5::H6::H7::H8::H9::I0::I1::I2::I3::I4::I5::I6::I7::I8::I9::J0::J1::J2::J3::J4::J5::J6::J7::J8::J9::K0::K1::K3::K4::K5::K6::K7::K8::K9::L0::L1::L2::L3::L4::L5::L6::L7::L8::L9::M0::M1::M4::M5::M6::M7::M8::M9::N1::N5::N6::N7::N8::N9::O0::O1::O2::O3::O4::O5::O6::O7::O8::O9::R0::R1::R2::R3::R4::R5::R6::R7::R8::R9::S0::S1::S2::S3::S4::S5::S6::S7::S8::S9::T0::T1::T2::T3::T4::T5::T6::T7::T8::T9::U0::U1::U2::U3::U4::U5::U6::U7::U8::U9::V0::V1::V2::V3::V4::V5::V6::V7::V8::V9::W0::W1::W2::W3::[]),[]⟩ (kk)) cs) y) →
 JG Try.prog Post C (G ((base 3).at ⟨List.toArray (u0::P0 t.bp::u2::u3::P0 t.bl::u5::P0 t.bt::u7::u8::P0 q::P0 wb::.int .i64 k::B2::B3::B4::B5::B6::B7::B8::B9::D0::D1::D2::D3::D4::D5::D6::D7::D8::D9::E0::E1::E2::E3::E4::E5::E6::E7::E8::E9::G0::G1::G2::G3::G4::G5::G6::G7::G8::G9::H4::H5::H6::H7::H8::H9::I0::I1::I2::I3::I4::I5::I6::I7::I8::I9::J0::J1::J2::J3::J4::J5::J6::J7::J8::J9::K0::K1::K3::K4::K5::K6::K7::K8::K9::L0::L1::L2::L3::L4::L5::L6::L7::L8::L9::M0::M1::M4::M5::M6::M7::M8::M9::N1::N5::N6::N7::N8::N9::O0::O1::O2::O3::O4::O5::O6::O7::O8::O9::R0::R1::R2::R3::R4::R5::R6::R7::R8::R9::S0::S1::S2::S3::S4::S5::S6::S7::S8::S9::T0::T1::T2::T3::T4::T5::T6::T7::T8::T9::U0::U1::U2::U3::U4::U5::U6::U7::U8::U9::V0::V1::V2::V3::V4::V5::V6::V7::V8::V9::W0::W1::W2::W3::[]),[]⟩ (.code (Code.nav (Try.f3.body.getD .skip) [1,1,1,1,1,1,1,1,1,1,1,0,1,0,0])::.inLoop (Code.nav (Try.f3.body.getD .skip) [1,1,1,1,1,1,1,1,1,1,1,0,1,0,0])::.inBlock 4::kk)) cs) x:=by
 intro p
 induction p with
 | zero =>
  intro k hkp x K J6 J7 J8 J9 K0 K1 K3 K4 K5 K6 K7 K8 K9 L0 L1 L2 hwb hK h
  obtain rfl:k=t.nC:=by omega
  have y1:=(H.old (h01.trans hK.old)).c1
  replace h:=HD (h x K)
  replace hK:=HD hK
  replace hwb:=HD hwb
  clear H h01
  simp only [Try.f3,Option.getD_some,Code.nav]
  have hx:decide ((t.nC:Int) < t.nC)=false:=by simp
  have hxN:decide (t.nC < t.nC)=false:=by simp
  repeat first|refine jc rfl ?_|(first|refine ju rfl rfl ?_|(refine jv rfl rfl rfl fun K E f τ d=>?_;have f0:=uc τ d y1;go_simp;refine f _ _ _ _ ?_;clear f0 f K E τ d);try walk_nrm)
  refine JG.exit (by rfl) ?_
  try walk_nrm
  exact h.out _ _ _ _ _ _ _ _ _ _ _ _ _ _ _ _ hwb.out hK.out
 | succ p ih =>
  intro k hkp x K J6 J7 J8 J9 K0 K1 K3 K4 K5 K6 K7 K8 K9 L0 L1 L2 hwb hK h
  have hkn:k < t.nC:=by omega
  have hn40:=H.small.2.1
  have y1:=(H.old (h01.trans hK.old)).c1
  have y2:=(H.old (h01.trans hK.old)).v k hkn
  have IH:=HD ih
  have HK:=HD hK
  have HH:=HD H
  have Hh:=HD h
  replace hwb:=HD hwb
  replace h01:=HD h01
  clear ih hK H h
  simp only [Try.f3,Option.getD_some,Code.nav]
  have hx:decide ((k:Int) < t.nC)=true:=by simp;omega
  have hxN:decide (k < t.nC)=true:=by simp;omega
  have x4:(k:Int) < t.nC:=by omega
  have x6:(0:Int)≤k:=by omega
  repeat first|refine jc rfl ?_|(first|refine ju rfl rfl ?_|(refine jv rfl rfl rfl fun K E f τ d=>?_;have f0:=uc τ d y1;have f1:=uc τ d y2;go_simp;refine f _ _ _ _ ?_;clear f0 f1 f K E τ d);try walk_nrm)
  refine Xt (f:=22) (args:=#[P0 wb,.agg #[.int .i64 2,.int .i64 k],.int .i64 (t.v k)]) Try.func22 (by kernel_rfl) (by kernel_rfl) rfl rfl rfl rfl (by decide) ?_
  rw [show (Value.agg #[.int .i64 2,.int .i64 k])=nmV (Ws k) from rfl,← hwb.out]
  refine XfF HK.out (by rw [XaV];omega) (Ws k) (t.v k) fun y K' hw hK'=>?_
  rw [hwb.out] at hw ⊢
  rw [← WA] at hK'
  rw [Frame.finish_at]
  walk_nrm
  have IH':=IH.out (k + 1) (by omega) y K'
  simp only [Try.f3,Option.getD_some,Code.nav] at IH'
  replace IH':=HD IH'
  replace hw:=HD hw
  replace hK':=HD hK'
  clear y1 y2
  have hwr:IntKind.i64.wrap ((k:Int) + 1)=((k + 1:Nat):Int):=by
   rw [IntKind.wrap_i64];omega
  repeat first|refine jc rfl ?_|(first|refine ju rfl rfl ?_|(refine jv rfl rfl rfl fun K E f τ d=>?_;go_simp;refine f _ _ _ _ ?_;clear f K E τ d);try walk_nrm)
  refine JG.inLoop ?_
  rw [show ((k:Int) + 1)=((k + 1:Nat):Int) from rfl]
  exact IH'.out _ _ _ _ _ _ _ _ _ _ _ _ _ _ _ _ hw.out hK'.out Hh.out
end
end Go.Proofs.Ytdhnggjmegilkaa
