/- A play of the ring law among the arguments: what it reads as. Conditions: each slice is of at most 2^47 bytes, as the row has it. -/
import Derived.Test.YtdhnggjmegilkaaSRgW
import Derived.Test.YtdhnggjmegilkaaSPqC
set_option linter.all false
set_option maxRecDepth 100000
set_option maxHeartbeats 16000000
namespace Go.Proofs.Ytdhnggjmegilkaa
open Go.ChangeShapes Go.WideShapes Go.Deep Go.RowKit Go.Joins
theorem Xfu:Try.prog.cellsOf 96=2:=by kernel_rfl
theorem Xa3:Try.prog.cellsOf 90=1:=by kernel_rfl
theorem Xaa {H:Type} {enc:TypeId × Value→H} {w:World} {v:Value} {fuel:Nat} {x:DataW H × List MemPlace}
 (h:DataW.trod enc Try.prog w 0 (fun _=>true) true fuel 90 [v] = some x):∃ (a:Option Addr) (L:List X4) (cap:Nat),v=.slice a L.length cap∧Yl w w.heap.size a L∧(L.length=0∨∃ el sp,x.1=.slice el sp∧el.length=L.length):=by
 rcases QR Try.underlying90 Try.underlying96 (by kernel_rfl) Xfu h with ⟨hcs,_⟩|⟨a,len,cap,m,D,Pl,hcs,_,hl,hm,hmm,hx,hi⟩
 ·injection hcs with hcs
  exact ⟨none,[],0,hcs,fun i x hx=>by simp at hx,.inl rfl⟩
 ·injection hcs with hcs
  simp only [if_true] at hmm;subst hmm;have hacc:∀ i,i < len→∃ c:X4,∃ g off,some a=some ⟨g,off,none⟩∧g < w.heap.size∧w.cell? ⟨g,off + i * 2,none⟩=some (.int .i64 c.o)∧w.cell? ⟨g,off + i * 2 + 1,none⟩=some (.int .i64 c.v):=fun i him=>by
   obtain ⟨ys,n,_,_,_,hf⟩:=hi i (by omega);obtain ⟨v0,y0,c0,_,t0⟩:=hf 0 _ rfl;obtain ⟨v1,y1,c1,_,t1⟩:=hf 1 _ rfl;obtain ⟨n0,e0,_,w0⟩:=DataW.trod_int Try.underlying3 t0;obtain ⟨n1,e1,_,w1⟩:=DataW.trod_int Try.underlying2 t1;injection e0 with e0
   injection e1 with e1
   subst e0 e1;obtain ⟨g,off,spot⟩:=a;have hs:spot=none:=by
    by_cases h0:i * 2 + 0=0
    ·have h1:=World.cell?_spot c0
     have h0':i * 2=0:=by omega
     simpa [Addr.add,h0'] using h1
    ·obtain ⟨ys',n',_,_,_,hf'⟩:=hi 0 (by omega)
     obtain ⟨v0',y0',c0',_,_⟩:=hf' 0 _ rfl;have h1:=World.cell?_spot c0';simpa [Addr.add] using h1
   subst hs;have hadd:∀ k,(⟨g,off,none⟩:Addr).add (i * 2 + k)=⟨g,off + i * 2 + k,none⟩:=fun k=>by simp [Addr.add,Nat.add_assoc]
   have hlt:g < w.heap.size:=by have:=World.block_lt_of_cell? w _ c0;rwa [show (#[_,_]:Array Field).size=2 from rfl,hadd 0] at this
   exact ⟨⟨n0,n1⟩,g,off,rfl,hlt,(hadd 0) ▸ c0,(hadd 1) ▸ c1⟩
  obtain ⟨L,hL,hQ⟩:=Xah len hacc;exact ⟨some a,L,_,by rw [hL];exact hcs,fun i c hc=>hQ i c hc,.inr ⟨_,_,by rw [hx],by simp [hL]⟩⟩
theorem Xbr {H:Type} {enc:TypeId × Value→H} {w:World} {b0:Nat} {v:Value} {d:DataW H} {p:List MemPlace} (hv:Value.okWide Try.prog w .any b0 87 v) (h:DataW.Trod enc Try.prog w 0 (fun _=>true) true 87 v d p) (hw:(d.weights Try.prog 87).all (·≤reachBytes)=true) :
 ∃ (n fr:Int) (picks:List Int) (Ss:List (List X4)) (aS aP:Option Addr) (cS cP:Nat),v=UF n fr (.slice aS Ss.length cS) (.slice aP picks.length cP)∧X0 w aP picks∧(aP=none→cP=0) ∧
  (∀ (j:Nat) (L:List X4),Ss[j]? = some L→∃ gS oS aL cL,aS=some ⟨gS,oS,none⟩∧w.cell? ⟨gS,oS + j,none⟩=some (.slice aL L.length cL)∧Yl w w.heap.size aL L)∧(∀ L∈Ss,L.length≤1125899906842624)∧Ss.length≤1125899906842624:=by
 have hrb:reachBytes < 2 ^ 47:=reachBytes_lt;obtain ⟨cs,rfl,hsz⟩:=okWide_struct Try.underlying87 hv;obtain ⟨c0,c1,c2,c3,rfl⟩:=array4 (hsz.trans (show Try.prog.cellsOf 87=4 by kernel_rfl));obtain ⟨fuel,hf⟩:=h;obtain ⟨y0,y1,y2,nn,hx,_,t0,t1,t2⟩:=trod_struct3 Try.underlying87 hf;simp only [Prod.mk.injEq] at hx;obtain ⟨rfl,rfl⟩:=hx;rw [show Try.prog.cellsOf _=2 from (by kernel_rfl:Try.prog.cellsOf 84=2)] at t0;rw [show Try.prog.cellsOf _=1 from (by kernel_rfl:Try.prog.cellsOf 85=1)] at t1;rw [show Try.prog.cellsOf _=1 from (by kernel_rfl:Try.prog.cellsOf 24=1)] at t2;replace t0:DataW.trod enc Try.prog w 0 (fun _=>true) true nn 84 [c0,c1] = some y0:=by simpa [Value.cells] using t0
 replace t1:DataW.trod enc Try.prog w 0 (fun _=>true) true nn 85 [c2] = some y1:=by simpa [Value.cells] using t1
 replace t2:DataW.trod enc Try.prog w 0 (fun _=>true) true nn 24 [c3] = some y2:=by simpa [Value.cells] using t2
 obtain ⟨z0,z1,n2,_,_,u0,u1⟩:=trod_struct2 Try.underlying84 t0;rw [show Try.prog.cellsOf _=1 from (by kernel_rfl:Try.prog.cellsOf 3=1)] at u0;rw [show Try.prog.cellsOf _=1 from (by kernel_rfl:Try.prog.cellsOf 2=1)] at u1;replace u0:DataW.trod enc Try.prog w 0 (fun _=>true) true n2 3 [c0] = some z0:=by simpa using u0
 replace u1:DataW.trod enc Try.prog w 0 (fun _=>true) true n2 2 [c1] = some z1:=by simpa using u1
 obtain ⟨nZ,e0,_,_⟩:=DataW.trod_int Try.underlying3 u0;obtain ⟨fr,e1,_,_⟩:=DataW.trod_int Try.underlying2 u1;injection e0 with e0
 injection e1 with e1
 subst e0 e1;obtain ⟨aP,picks,cP,rfl,hP,hcap⟩:=XcA (k:=.i64) Try.underlying24 Try.underlying3 (by kernel_rfl) t2;have hw1:∀ n,n∈y1.1.weights Try.prog 85→n≤reachBytes:=fun n hn=>by
  have:=List.all_eq_true.1 hw n (by
   simp only [DataW.weights,Try.underlying87];exact DataW.weights_mem_each (j:=1) rfl rfl n hn)
  simpa using this
 rcases open_slice Try.underlying85 t1 with ⟨hcs,_⟩|⟨a,len,cap,m,n,D,Pl,hcs,_,hl,hm,hmm,hx,hi⟩
 ·injection hcs with hcs
  exact ⟨nZ,fr,picks,[],none,aP,0,cP,by rw [hcs];rfl,hP,hcap,fun j L hL=>by simp at hL,fun L hL=>by simp at hL,by simp⟩
 ·injection hcs with hcs
  simp only [if_true] at hmm;subst hmm;have hb24:Try.prog.bytesOf 90=24:=by kernel_rfl
  have hb32:Try.prog.bytesOf 96=16:=by kernel_rfl
  have hy1:y1.1=.slice ((List.range len).map D) ((List.range (m - len)).map fun j=>D (len + j)):=by rw [hx]
  have hlen:len * 24≤reachBytes:=by
   have:=hw1 _ (by rw [hy1];simp only [DataW.weights,Try.underlying85];exact List.mem_cons_self)
   rw [hb24] at this;simp at this
   omega
  have hacc:∀ i,i < len→∃ L:List X4,L.length≤1125899906842624∧∃ g off aL cL,some a=some ⟨g,off,none⟩∧w.cell? ⟨g,off + i,none⟩=some (.slice aL L.length cL)∧Yl w w.heap.size aL L:=fun i him=>by
   obtain ⟨cs',hc,ht'⟩:=hi i (by omega);rw [Xa3] at hc;obtain ⟨_,hcl,hat⟩:=World.cells?_some hc;obtain ⟨u,rfl⟩:∃ u,cs' = [u]:=by
    match cs',hcl with
    | [u],_=>exact ⟨u,rfl⟩
   have hcell:=hat 0 (by omega);obtain ⟨aL,L,cL,rfl,hops,hsz⟩:=Xaa ht';have hLl:L.length≤1125899906842624:=by
    rcases hsz with h0|⟨el,sp,e1,e2⟩
    ·omega
    ·have:=hw1 ((el.length + sp.length) * 16) (by
      rw [hy1];simp only [DataW.weights,Try.underlying85];refine List.mem_cons_of_mem _ (List.mem_append_left _ (Z6 (d:=D i) (List.mem_map.2 ⟨i,List.mem_range.2 him,rfl⟩) ?_));have e1:D i=.slice el sp:=e1;rw [e1];simp only [DataW.weights,Try.underlying90,hb32];exact List.mem_cons_self)
     rw [Nat.add_mul] at this
     omega
   refine ⟨L,hLl,?_⟩;obtain ⟨g,off,spot⟩:=a;have hs:spot=none:=by
    obtain ⟨cs0,hc0,_⟩:=hi 0 (by omega);rw [Xa3] at hc0;obtain ⟨_,hcl0,hat0⟩:=World.cells?_some hc0;have h1:=hat0 0 (by omega);obtain ⟨u0,rfl⟩:∃ u,cs0 = [u]:=by
     match cs0,hcl0 with
     | [u],_=>exact ⟨u,rfl⟩
    have h2:=World.cell?_spot h1;simpa [Addr.add] using h2
   subst hs;have hadd:((⟨g,off,none⟩:Addr).add (i * 1)).add 0=⟨g,off + i,none⟩:=by simp [Addr.add]
   rw [hadd] at hcell;exact ⟨g,off,aL,cL,rfl,hcell,hops⟩
  obtain ⟨Ss,hSl,hQ⟩:=Xah len hacc;refine ⟨nZ,fr,picks,Ss,some a,aP,_,cP,by rw [hcs,hSl];rfl,hP,hcap,fun j L hL=>?_,fun L hL=>?_,by omega⟩
  ·obtain ⟨_,g,off,aL,cL,e1,e2,e3⟩:=hQ j L hL
   exact ⟨g,off,aL,cL,e1,e2,e3⟩
  ·obtain ⟨j,hj⟩:=List.getElem?_of_mem hL
   exact (hQ j L hj).1
