/- A Room among the arguments: its two numbers, its picks. -/
import Derived.Test.YtdgfekplfipekaaVLpH
import Derived.Lib.SmallJoins
import Derived.ChangeSlices
import Derived.ChangeSame
set_option linter.all false
set_option maxRecDepth 100000
set_option maxHeartbeats 16000000
namespace Go.Proofs.Ytdgfekplfipekaa
open Go.Joins Go.Deep Go.ChangeShapes Go.WideShapes Go.ChangeAt Go.RowKit Go.Conc
theorem open_numsL {H:Type} {enc:TypeId × Value→H} {w:World} {t e:TypeId} {v:Value} {fuel:Nat} {x:DataW H × List MemPlace} (ht:Try.prog.underlying t=some (.slice e)) (he:Try.prog.underlying e=some (.int .i64)) (hc:Try.prog.cellsOf e=1)
 (h:DataW.trod enc Try.prog w 0 (fun _=>true) true fuel t [v] = some x):∃ (a:Option Addr) (L:List Int) (cap:Nat),v=.slice a L.length cap∧∀ (i:Nat) (z:Int),L[i]? = some z→∃ g off,a=some ⟨g,off,none⟩∧w.cell? ⟨g,off + i,none⟩=some (.int .i64 z):=by
 rcases open_ints ht he hc h with ⟨hcs,_⟩|⟨a,len,cap,zs,hcs,_,hl,hm,hz,_,hcell,hw⟩
 ·injection hcs with hcs
  exact ⟨none,[],0,hcs,fun i x hx=>by simp at hx⟩
 ·injection hcs with hcs
  simp only [if_true] at hz;have hlen:(zs.take len).length=len:=by simp;omega
  refine ⟨some a,zs.take len,cap,by rw [hlen];exact hcs,fun i x hx=>?_⟩;have hi:i < len:=by have:=(LE' hx).1;omega
  have hx':zs[i]? = some x:=by rwa [List.getElem?_take_of_lt hi] at hx
  have h0:=hcell i (by omega);rw [List.getD_eq_getElem?_getD,hx'] at h0;obtain ⟨g,off,spot⟩:=a;have hs:spot=none:=by
   have h1:=World.cell?_spot (hcell 0 (by omega));simpa [Addr.add] using h1
  subst hs;have hadd:(⟨g,off,none⟩:Addr).add i=⟨g,off + i,none⟩:=by simp [Addr.add]
  rw [hadd] at h0;exact ⟨g,off,rfl,h0⟩
theorem open_room {H:Type} {enc:TypeId × Value→H} {w:World} {b0:Nat} {v:Value} {d:DataW H} {p:List MemPlace} (hv:Value.okWide Try.prog w .any b0 24 v) (h:DataW.Trod enc Try.prog w 0 (fun _=>true) true 24 v d p) :
 ∃ (t r:Int) (picks:List Int) (a:Option Addr) (cap:Nat),v=.agg #[.int .i64 t,.int .i64 r,.slice a picks.length cap]∧(-9223372036854775808≤t∧t≤9223372036854775807)∧(-9223372036854775808≤r∧r≤9223372036854775807) ∧
  (picks≠[]→∃ gp og,a=some ⟨gp,og,none⟩∧gp < w.heap.size∧∀ (j:Nat) (q:Int),picks[j]? = some q→w.cell? ⟨gp,og + j,none⟩=some (.int .i64 q)):=by
 obtain ⟨a0,a1,a2,y0,y1,y2,nn,rfl,rfl,rfl,t0,t1,t2⟩:=open_agg3 Try.underlying24 (by kernel_rfl) (by kernel_rfl) hv h;obtain ⟨n0,e0,_,w0⟩:=DataW.trod_int Try.underlying3 t0;obtain ⟨n1,e1,_,w1⟩:=DataW.trod_int Try.underlying3 t1;obtain rfl:a0=.int .i64 n0:=by simpa using e0
 obtain rfl:a1=.int .i64 n1:=by simpa using e1
 obtain ⟨a,L,cap,rfl,hL⟩:=open_numsL Try.underlying22 Try.underlying3 (by kernel_rfl) t2;refine ⟨n0,n1,L,a,cap,rfl,?_,?_,fun hne=>?_⟩
 ·have h2:IntKind.i64.min≤n0∧n0≤9223372036854775807:=by simpa [Lit.wf] using w0
  exact ⟨h2.1,h2.2⟩
 ·have h2:IntKind.i64.min≤n1∧n1≤9223372036854775807:=by simpa [Lit.wf] using w1
  exact ⟨h2.1,h2.2⟩
 ·obtain ⟨z,hz⟩:∃ z,L[0]? = some z:=by
   cases L with
   | nil=>exact absurd rfl hne
   | cons z L=>exact ⟨z,rfl⟩
  obtain ⟨g,off,rfl,h0⟩:=hL 0 z hz;refine ⟨g,off,rfl,Xt h0,fun j q hq=>?_⟩;obtain ⟨g',off',e,h'⟩:=hL j q hq;injection e with e
  injection e with e2 e3 e4
  subst e2 e3;exact h'
