/- A play of the cell law among the arguments: what it reads as. Conditions: each slice is of at most 2^47 bytes, as the row has it. -/
import Derived.Test.YtdhnggjmegilkaaSCpW
import Derived.Deep.Slices
import Derived.Deep.Fields
import Derived.ChangeSame
import Derived.ChangeArms
import Derived.Lib.SmallJoins
import Derived.SizedLaws
set_option linter.unusedSimpArgs false
set_option linter.unusedVariables false
set_option maxRecDepth 100000
set_option maxHeartbeats 16000000
namespace Go.Proofs.Ytdhnggjmegilkaa
open Go.ChangeShapes Go.WideShapes Go.Deep Go.RowKit Go.Joins
section
variable {H:Type} {enc:TypeId × Value→H} {P:Program} {w:World} {base:Nat} {spare:Nat→Bool} {held:Bool}
theorem QP {t e:TypeId} {fs:Array Field} {fuel:Nat} {cs:List Value} {x:DataW H × List MemPlace} (ht:P.underlying t=some (.slice e)) (he:P.underlying e=some (.struct fs))
 (hone:oneCellFields P fs=true) (hC:P.cellsOf e=fs.size) (h:DataW.trod enc P w base spare held fuel t cs=some x) :
 (cs = [.slice none 0 0]∧x=(.nil,[])) ∨
 ∃ (a:Addr) (len cap m:Nat) (D:Nat→DataW H) (Pl:Nat→List MemPlace),cs = [.slice (some a) len cap]∧base≤a.block∧len≤cap∧cap≤maxLen∧m=(if spare a.block then cap else len) ∧
  x=(.slice ((List.range len).map D) ((List.range (m - len)).map fun j=>D (len + j)),MemPlace.row a (m * fs.size) ++ (List.range m).flatMap Pl) ∧
  ∀ i,i < m→∃ (ys:List (DataW H × List MemPlace)) (n:Nat),D i=.agg (ys.map (·.1))∧Pl i=ys.flatMap (·.2)∧ys.length=fs.size ∧
   ∀ (j:Nat) (f:Field),fs[j]? = some f→∃ (v:Value) (y:DataW H × List MemPlace),w.cell? (a.add (i * fs.size + j))=some v∧ys[j]? = some y∧DataW.trod enc P w base spare held n f.type [v] = some y:=by
 rcases open_slice ht h with h0|⟨a,len,cap,m,n,D,Pl,hcs,hb,hl,hm,hmm,hx,hi⟩
 ·exact .inl h0
 ·refine .inr ⟨a,len,cap,m,D,Pl,hcs,hb,hl,hm,hmm,by rw [hC] at hx;exact hx,fun i him=>?_⟩
  obtain ⟨cs',hc,ht'⟩:=hi i him
  rw [hC] at hc
  obtain ⟨ys,n',hn',hy,hlen,hyl,hf⟩:=DataW.trod_struct he ht'
  obtain ⟨_,hcl,hat⟩:=World.cells?_some hc
  simp only [Prod.mk.injEq] at hy
  refine ⟨ys,n',hy.1,hy.2,hyl,fun j f hj=>?_⟩
  obtain ⟨ho,hk⟩:=hone_of hone j f hj
  have hjl:j < fs.size:=(GE hj).1
  have hcell:=hat j hjl
  have hv:cs'[j]? = some (cs'[j]'(by omega)):=List.getElem?_eq_getElem (by omega)
  have h1:=hf j f hj
  rw [ho,hk] at h1
  have hone':(cs'.drop j).take 1 = [cs'[j]'(by omega)]:=by
   rw [List.drop_eq_getElem_cons (by omega)]
   rfl
  rw [hone'] at h1
  have hys:ys[j]? = some (ys[j]'(by omega)):=List.getElem?_eq_getElem (by omega)
  refine ⟨_,_,?_,hys,h1.trans hys⟩
  rw [← Go.Deep.add_add,hcell,hv]
end
theorem Xal {α:Type} {Q:Nat→α→Prop}:∀ (n:Nat),(∀ i,i < n→∃ a,Q i a)→∃ L:List α,L.length=n∧∀ i a,L[i]? = some a→Q i a
 | 0,_=>⟨[],rfl,fun i a h=>by simp at h⟩
 | n + 1,h=>by
  obtain ⟨L,hl,hL⟩:=Xal n fun i hi=>h i (by omega)
  obtain ⟨x,hx⟩:=h n (by omega)
  refine ⟨L ++ [x],by simp [hl],fun i a ha=>?_⟩
  rcases Nat.lt_or_ge i n with hi|hi
  ·rw [List.getElem?_append_left (by omega)] at ha
   exact hL i a ha
  ·rw [List.getElem?_append_right (by omega)] at ha
   have e:i=n:=by
    have:=(LE' ha).1
    simp at this
    omega
   subst e
   rw [hl,Nat.sub_self] at ha
   simp only [List.getElem?_cons_zero,Option.some.injEq] at ha
   subst ha
   exact hx
theorem Wq {H:Type} {enc:TypeId × Value→H} {w:World} {k:IntKind} {t e:TypeId} {v:Value} {fuel:Nat} {x:DataW H × List MemPlace} (ht:Try.prog.underlying t=some (.slice e)) (he:Try.prog.underlying e=some (.int .i64)) (hc:Try.prog.cellsOf e=1)
 (h:DataW.trod enc Try.prog w 0 (fun _=>true) true fuel t [v] = some x):∃ (a:Option Addr) (L:List Int) (cap:Nat),v=.slice a L.length cap∧XS w a L∧(a=none→cap=0):=by
 rcases open_ints ht he hc h with ⟨hcs,_⟩|⟨a,len,cap,zs,hcs,_,hl,hm,hz,_,hcell,hw⟩
 ·injection hcs with hcs
  exact ⟨none,[],0,hcs,fun i x hx=>by simp at hx,fun _=>rfl⟩
 ·injection hcs with hcs
  simp only [if_true] at hz
  have hlen:(zs.take len).length=len:=by simp;omega
  refine ⟨some a,zs.take len,cap,by rw [hlen];exact hcs,fun i x hx=>?_,fun e=>by cases e⟩
  have hi:i < len:=by have:=(LE' hx).1;omega
  have hx':zs[i]? = some x:=by rwa [List.getElem?_take_of_lt hi] at hx
  have h0:=hcell i (by omega)
  rw [List.getD_eq_getElem?_getD,hx'] at h0
  obtain ⟨g,off,spot⟩:=a
  have hs:spot=none:=by
   have h1:=World.cell?_spot (hcell 0 (by omega))
   simpa [Addr.add] using h1
  subst hs
  have hadd:(⟨g,off,none⟩:Addr).add i=⟨g,off + i,none⟩:=by simp [Addr.add]
  rw [hadd] at h0
  exact ⟨g,off,rfl,h0⟩
theorem XfI:Try.prog.cellsOf 38=4:=by kernel_rfl
theorem Xc7:Try.prog.cellsOf 34=1:=by kernel_rfl
theorem XdG {H:Type} {enc:TypeId × Value→H} {w:World} {v:Value} {fuel:Nat} {x:DataW H × List MemPlace}
 (h:DataW.trod enc Try.prog w 0 (fun _=>true) true fuel 34 [v] = some x):∃ (a:Option Addr) (L:List Op4) (cap:Nat),v=.slice a L.length cap∧QC w w.heap.size a L∧(L.length=0∨∃ el sp,x.1=.slice el sp∧el.length=L.length):=by
 rcases QP Try.underlying34 Try.underlying38 (by kernel_rfl) XfI h with ⟨hcs,_⟩|⟨a,len,cap,m,D,Pl,hcs,_,hl,hm,hmm,hx,hi⟩
 ·injection hcs with hcs
  exact ⟨none,[],0,hcs,fun i x hx=>by simp at hx,.inl rfl⟩
 ·injection hcs with hcs
  simp only [if_true] at hmm
  subst hmm
  have hacc:∀ i,i < len→∃ c:Op4,∃ g off,some a=some ⟨g,off,none⟩∧g < w.heap.size∧w.cell? ⟨g,off + i * 4,none⟩=some (.int .i8 c.op)∧w.cell? ⟨g,off + i * 4 + 1,none⟩=some (.int .i64 c.ce)∧w.cell? ⟨g,off + i * 4 + 2,none⟩=some (.int .i64 c.arg)∧w.cell? ⟨g,off + i * 4 + 3,none⟩=some (.int .i64 c.new):=fun i him=>by
   obtain ⟨ys,n,_,_,_,hf⟩:=hi i (by omega)
   obtain ⟨v0,y0,c0,_,t0⟩:=hf 0 _ rfl
   obtain ⟨v1,y1,c1,_,t1⟩:=hf 1 _ rfl
   obtain ⟨v2,y2,c2,_,t2⟩:=hf 2 _ rfl
   obtain ⟨v3,y3,c3,_,t3⟩:=hf 3 _ rfl
   obtain ⟨n0,e0,_,w0⟩:=DataW.trod_int Try.underlying36 t0
   obtain ⟨n1,e1,_,w1⟩:=DataW.trod_int Try.underlying3 t1
   obtain ⟨n2,e2,_,w2⟩:=DataW.trod_int Try.underlying2 t2
   obtain ⟨n3,e3,_,w3⟩:=DataW.trod_int Try.underlying2 t3
   injection e0 with e0
   injection e1 with e1
   injection e2 with e2
   injection e3 with e3
   subst e0 e1 e2 e3
   obtain ⟨g,off,spot⟩:=a
   have hs:spot=none:=by
    by_cases h0:i * 4 + 0=0
    ·have h1:=World.cell?_spot c0
     have h0':i * 4=0:=by omega
     simpa [Addr.add,h0'] using h1
    ·obtain ⟨ys',n',_,_,_,hf'⟩:=hi 0 (by omega)
     obtain ⟨v0',y0',c0',_,_⟩:=hf' 0 _ rfl
     have h1:=World.cell?_spot c0'
     simpa [Addr.add] using h1
   subst hs
   have hadd:∀ k,(⟨g,off,none⟩:Addr).add (i * 4 + k)=⟨g,off + i * 4 + k,none⟩:=fun k=>by simp [Addr.add,Nat.add_assoc]
   have hlt:g < w.heap.size:=by have:=World.block_lt_of_cell? w _ c0;rwa [show (#[_,_,_,_]:Array Field).size=4 from rfl,hadd 0] at this
   exact ⟨⟨n0,n1,n2,n3⟩,g,off,rfl,hlt,(hadd 0) ▸ c0,(hadd 1) ▸ c1,(hadd 2) ▸ c2,(hadd 3) ▸ c3⟩
  obtain ⟨L,hL,hQ⟩:=Xal len hacc
  exact ⟨some a,L,_,by rw [hL];exact hcs,fun i c hc=>hQ i c hc,.inr ⟨_,_,by rw [hx],by simp [hL]⟩⟩
theorem Z6 {H:Type} {P:Program} {e:TypeId} {n:Nat}:∀ {ds:List (DataW H)} {d:DataW H},d∈ds→n∈d.weights P e→n∈DataW.weightsAll P e ds
 | d0::ds,d,hd,hn=>by
  simp only [DataW.weightsAll,List.mem_append]
  rcases List.mem_cons.1 hd with rfl|hd
  ·exact .inl hn
  ·exact .inr (Z6 hd hn)
theorem Xco {H:Type} {enc:TypeId × Value→H} {w:World} {b0:Nat} {v:Value} {d:DataW H} {p:List MemPlace} (hv:Value.okWide Try.prog w .any b0 26 v) (h:DataW.Trod enc Try.prog w 0 (fun _=>true) true 26 v d p) (hw:(d.weights Try.prog 26).all (·≤reachBytes)=true) :
 ∃ (Cs picks:List Int) (Ss:List (List Op4)) (aC aS aP:Option Addr) (cC cS cP:Nat),v=.agg #[.slice aC Cs.length cC,.slice aS Ss.length cS,.slice aP picks.length cP]∧XS w aC Cs∧XS w aP picks∧(aP=none→cP=0) ∧
  (∀ (j:Nat) (L:List Op4),Ss[j]? = some L→∃ gS oS aL cL,aS=some ⟨gS,oS,none⟩∧w.cell? ⟨gS,oS + j,none⟩=some (.slice aL L.length cL)∧QC w w.heap.size aL L)∧(∀ L∈Ss,L.length≤1125899906842624)∧Ss.length≤1125899906842624:=by
 have hrb:reachBytes < 2 ^ 47:=reachBytes_lt
 obtain ⟨v0,v1,v2,y0,y1,y2,nn,rfl,rfl,rfl,t0,t1,t2⟩:=open_agg3 Try.underlying26 (by kernel_rfl) (by kernel_rfl) hv h
 obtain ⟨aC,Cs,cC,rfl,hC,_⟩:=Wq (k:=.i64) Try.underlying22 Try.underlying2 (by kernel_rfl) t0
 obtain ⟨aP,picks,cP,rfl,hP,hcap⟩:=Wq (k:=.i64) Try.underlying24 Try.underlying3 (by kernel_rfl) t2
 have hw1:∀ n,n∈y1.1.weights Try.prog 23→n≤reachBytes:=fun n hn=>by
  have:=List.all_eq_true.1 hw n (by
   simp only [DataW.weights,Try.underlying26]
   exact DataW.weights_mem_each (j:=1) rfl rfl n hn)
  simpa using this
 rcases open_slice Try.underlying23 t1 with ⟨hcs,_⟩|⟨a,len,cap,m,n,D,Pl,hcs,_,hl,hm,hmm,hx,hi⟩
 ·injection hcs with hcs
  exact ⟨Cs,picks,[],aC,none,aP,cC,0,cP,by rw [hcs];rfl,hC,hP,hcap,fun j L hL=>by simp at hL,fun L hL=>by simp at hL,by simp⟩
 ·injection hcs with hcs
  simp only [if_true] at hmm
  subst hmm
  have hb24:Try.prog.bytesOf 34=24:=by kernel_rfl
  have hb32:Try.prog.bytesOf 38=32:=by kernel_rfl
  have hy1:y1.1=.slice ((List.range len).map D) ((List.range (m - len)).map fun j=>D (len + j)):=by rw [hx]
  have hlen:len * 24≤reachBytes:=by
   have:=hw1 _ (by rw [hy1];simp only [DataW.weights,Try.underlying23];exact List.mem_cons_self)
   rw [hb24] at this
   simp at this
   omega
  have hacc:∀ i,i < len→∃ L:List Op4,L.length≤1125899906842624∧∃ g off aL cL,some a=some ⟨g,off,none⟩∧w.cell? ⟨g,off + i,none⟩=some (.slice aL L.length cL)∧QC w w.heap.size aL L:=fun i him=>by
   obtain ⟨cs',hc,ht'⟩:=hi i (by omega)
   rw [Xc7] at hc
   obtain ⟨_,hcl,hat⟩:=World.cells?_some hc
   obtain ⟨u,rfl⟩:∃ u,cs' = [u]:=by
    match cs',hcl with
    | [u],_=>exact ⟨u,rfl⟩
   have hcell:=hat 0 (by omega)
   obtain ⟨aL,L,cL,rfl,hops,hsz⟩:=XdG ht'
   have hLl:L.length≤1125899906842624:=by
    rcases hsz with h0|⟨el,sp,e1,e2⟩
    ·omega
    ·have:=hw1 ((el.length + sp.length) * 32) (by
      rw [hy1]
      simp only [DataW.weights,Try.underlying23]
      refine List.mem_cons_of_mem _ (List.mem_append_left _ (Z6 (d:=D i) (List.mem_map.2 ⟨i,List.mem_range.2 him,rfl⟩) ?_))
      have e1:D i=.slice el sp:=e1
      rw [e1]
      simp only [DataW.weights,Try.underlying34,hb32]
      exact List.mem_cons_self)
     rw [Nat.add_mul] at this
     omega
   refine ⟨L,hLl,?_⟩
   obtain ⟨g,off,spot⟩:=a
   have hs:spot=none:=by
    obtain ⟨cs0,hc0,_⟩:=hi 0 (by omega)
    rw [Xc7] at hc0
    obtain ⟨_,hcl0,hat0⟩:=World.cells?_some hc0
    have h1:=hat0 0 (by omega)
    obtain ⟨u0,rfl⟩:∃ u,cs0 = [u]:=by
     match cs0,hcl0 with
     | [u],_=>exact ⟨u,rfl⟩
    have h2:=World.cell?_spot h1
    simpa [Addr.add] using h2
   subst hs
   have hadd:((⟨g,off,none⟩:Addr).add (i * 1)).add 0=⟨g,off + i,none⟩:=by simp [Addr.add]
   rw [hadd] at hcell
   exact ⟨g,off,aL,cL,rfl,hcell,hops⟩
  obtain ⟨Ss,hSl,hQ⟩:=Xal len hacc
  refine ⟨Cs,picks,Ss,aC,some a,aP,cC,_,cP,by rw [hcs,hSl],hC,hP,hcap,fun j L hL=>?_,fun L hL=>?_,by omega⟩
  ·obtain ⟨_,g,off,aL,cL,e1,e2,e3⟩:=hQ j L hL
   exact ⟨g,off,aL,cL,e1,e2,e3⟩
  ·obtain ⟨j,hj⟩:=List.getElem?_of_mem hL
   exact (hQ j L hj).1
end Go.Proofs.Ytdhnggjmegilkaa
