/- CellAlone's calls among the arguments. -/
import Derived.Test.YtdhnggjmegilkaaSRnX
import Derived.Test.YtdhnggjmegilkaaSPqD
set_option linter.all false
set_option maxRecDepth 100000
set_option maxHeartbeats 16000000
namespace Go.Proofs.Ytdhnggjmegilkaa
open Go.ChangeShapes Go.WideShapes Go.Deep Go.RowKit Go.Joins
theorem cells4c:Try.prog.cellsOf 38=4:=by kernel_rfl
theorem open_callsC {H:Type} {enc:TypeId × Value→H} {w:World} {v:Value} {fuel:Nat} {x:DataW H × List MemPlace}
 (h:DataW.trod enc Try.prog w 0 (fun _=>true) true fuel 34 [v] = some x):∃ (a:Option Addr) (n cap:Nat) (op ce ar ne:Nat→Int),v=.slice a n cap∧CallsIn w w.heap.size a n op ce ar ne:=by
 rcases QR Try.underlying34 Try.underlying38 (by kernel_rfl) cells4c h with ⟨hcs,_⟩|⟨a,len,cap,m,D,Pl,hcs,_,hl,hm,hmm,hx,hi⟩
 ·injection hcs with hcs
  exact ⟨none,0,0,fun _=>0,fun _=>0,fun _=>0,fun _=>0,hcs,fun i hi=>by omega⟩
 ·injection hcs with hcs
  simp only [if_true] at hmm;subst hmm;have hacc:∀ i,i < len→∃ z:Int × Int × Int × Int,∃ g off,some a=some ⟨g,off,none⟩∧g < w.heap.size∧w.cell? ⟨g,off + i * 4,none⟩=some (.int .i8 z.1)∧w.cell? ⟨g,off + i * 4 + 1,none⟩=some (.int .i64 z.2.1)∧w.cell? ⟨g,off + i * 4 + 2,none⟩=some (.int .i64 z.2.2.1)∧w.cell? ⟨g,off + i * 4 + 3,none⟩=some (.int .i64 z.2.2.2):=fun i him=>by
   obtain ⟨ys,n,_,_,_,hf⟩:=hi i (by omega);obtain ⟨v0,y0,c0,_,t0⟩:=hf 0 _ rfl;obtain ⟨v1,y1,c1,_,t1⟩:=hf 1 _ rfl;obtain ⟨v2,y2,c2,_,t2⟩:=hf 2 _ rfl;obtain ⟨v3,y3,c3,_,t3⟩:=hf 3 _ rfl;obtain ⟨n0,e0,_,w0⟩:=DataW.trod_int Try.underlying36 t0;obtain ⟨n1,e1,_,w1⟩:=DataW.trod_int Try.underlying3 t1;obtain ⟨n2,e2,_,w2⟩:=DataW.trod_int Try.underlying2 t2;obtain ⟨n3,e3,_,w3⟩:=DataW.trod_int Try.underlying2 t3;injection e0 with e0
   injection e1 with e1
   injection e2 with e2
   injection e3 with e3
   subst e0 e1 e2 e3;obtain ⟨g,off,spot⟩:=a;have hs:spot=none:=by
    by_cases h0:i * 4 + 0=0
    ·have h1:=World.cell?_spot c0
     have h0':i * 4=0:=by omega
     simpa [Addr.add,h0'] using h1
    ·obtain ⟨ys',n',_,_,_,hf'⟩:=hi 0 (by omega)
     obtain ⟨v0',y0',c0',_,_⟩:=hf' 0 _ rfl;have h1:=World.cell?_spot c0';simpa [Addr.add] using h1
   subst hs;have hadd:∀ k,(⟨g,off,none⟩:Addr).add (i * 4 + k)=⟨g,off + i * 4 + k,none⟩:=fun k=>by simp [Addr.add,Nat.add_assoc]
   have hlt:g < w.heap.size:=by have:=World.block_lt_of_cell? w _ c0;rwa [show (#[_,_,_,_]:Array Field).size=4 from rfl,hadd 0] at this
   exact ⟨(n0,n1,n2,n3),g,off,rfl,hlt,(hadd 0) ▸ c0,(hadd 1) ▸ c1,(hadd 2) ▸ c2,(hadd 3) ▸ c3⟩
  obtain ⟨f,hf⟩:=choose_lt hacc;exact ⟨some a,len,_,fun i=>(f i).1,fun i=>(f i).2.1,fun i=>(f i).2.2.1,fun i=>(f i).2.2.2,hcs,fun i hi=>hf i hi⟩
