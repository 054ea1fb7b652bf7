/- A thread is begun. -/
import Derived.Test.YtdgfekplfipekaaVGtC
import Derived.BigRegion
import Derived.BigQuiet
import Derived.Deep.RegionLaw
import Derived.Deep.RegionWith
import Derived.Deep.RegionLawGrows
import Derived.Laws.EntriesVeiled
set_option linter.all false
set_option maxRecDepth 100000
set_option maxHeartbeats 16000000
namespace Go.Proofs.Ytdgfekplfipekaa
open Go.Conc Go.RowKit
open Go.ConcN (upd upd_same upd_ne)
set_option maxRecDepth 100000
theorem XcI (w:World):(Instr.makeChan 70 (.int .i64 0)).run Try.prog w=.ok (.chan (some w.heap.size)) (w.alloc (.chan 0 #[] false 0 0 false)):=by
 have h1:Try.prog.underlying 70=some (.chan .both 59):=by kernel_rfl
 have h2:(Try.prog.info? 59).map (fun i=>i.bytes)=some 0:=by kernel_rfl
 obtain ⟨i,hi,hz⟩:=Option.map_eq_some_iff.1 h2;simp [Instr.makeChan,run_underlying h1,typeInfo,hi,hz,asInt,asIntOf,IntKind.max,IntKind.signed,IntKind.bits]
def Yo (rb n wk st:Nat):Array Value:=#[P0 rb,.int .i64 n,.chan (some wk),.chan (some st),.pointer none,.int .i64 0,.int .i8 0,.int .i64 0,.int .i64 0,.int .i64 0,.int .i64 0,.int .i64 0,.bool false,.bool false]
theorem WI (rb n wk st:Nat) (w:World):(Instr.build 91 #[(0,P0 rb),(1,.int .i64 n),(2,.chan (some wk)),(3,.chan (some st))]).run Try.prog w=.ok (.agg (Yo rb n wk st)) w:=run_build w _ _ _ (by kernel_rfl)
structure Made (w y:World) (rb n tv tb wk st:Nat):Prop where
 old:∀ r,r < w.heap.size→y.heap[r]? = w.heap[r]?
 size:y.heap.size=w.heap.size + 4
 tvb:w.heap.size≤tv∧tv < y.heap.size
 tbb:w.heap.size≤tb∧tb < y.heap.size
 wkb:w.heap.size≤wk∧wk < y.heap.size
 stb:w.heap.size≤st∧st < y.heap.size
 ne:wk≠st
 tvo:y.heap[tv]? = some (.cells #[P0 tb] 33 (0,0))
 tbo:y.heap[tb]? = some (.cells (Yo rb n wk st) 91 (0,0))
 wko:y.heap[wk]? = some (.chan 0 #[] false 0 0 false)
 sto:y.heap[st]? = some (.chan 0 #[] false 0 0 false)
structure Mild1 (Post:Value→World→Prop) (N:Nat) (x0:World) (fb:FuncId) (cap:Array Value) (R:Nat→World→World→Prop):Prop where
 body:Yb fb
 keeps:∀ t y z,R t y z→y.heap.size≤z.heap.size∧∀ r,N≤r→r < y.heap.size→z.heap[r]? = y.heap[r]?
 spec:∀ (C:Ctx) (y:World) (cf:Frame) (cs:List Frame) (tb rb:Nat),N≤y.heap.size→(∀ r,r < N→y.heap[r]? = x0.heap[r]?)→N≤tb→y.cell? (th tb 0)=some (P0 rb)→y.cell? (th tb 13)=some (.bool false)→(∀ v z,R tb y z→JG Try.prog Post C (G (cf.finish v) cs) z)→JG Try.prog Post C (G (Frame.enter Try.prog fb (#[P0 tb] ++ cap) .normal) (cf::cs)) y
theorem XK {w:World} {c r k:Nat} (h:r≠c):(w.setChan c 0 #[] false k k false).heap[r]? = w.heap[r]?:=heap_setChan_ne w _ _ _ _ _ _ (fun e=>h e.symm)
theorem X8 (w:World) (c k:Nat):(w.setChan c 0 #[] false k k false).heap.size=w.heap.size:=by simp [World.setChan]
theorem ZA {w:World} {b k n r:Nat} (h:r≠b):(w.freeze (th b k) n).heap[r]? = w.heap[r]?:=by
 by_cases hn:n=0
 ·unfold World.freeze;rw [if_pos hn]
 ·rw [X2 _ _ hn]
  have:¬ r=b:=h
  simp only [this,if_false];cases w.heap[r]?<;>rfl
theorem XaW {w:World} {b k n:Nat} {cs:Array Value} {t:TypeId} (hn:n≠0) (h:w.heap[b]? = some (.cells cs t (0,0))):(w.freeze (th b k) n).heap[b]? = some (.cells cs t (k,k + n)):=by
 rw [X2 _ _ hn,h];simp [th]
theorem XaE (w:World) (a:Addr) (n:Nat):(w.freeze a n).heap.size=w.heap.size:=by
 unfold World.freeze;split<;>simp
structure BegunJ (x z0 z1 z2:World) (N rb:Nat) (vT vF vT' vF' vM vL vW vR:Value) (stops:Bool) (ths fls:List Value) (tb st wk:Nat):Prop where
 tbn:x.heap.size≤tb
 stn:x.heap.size≤st
 old:∀ r,r < x.heap.size→r≠rb→some r≠vT.ownBlock→some r≠vF.ownBlock→z0.heap[r]? = x.heap[r]?
 size0:x.heap.size≤z0.heap.size
 same:∀ r,r≠tb→r≠st→z2.heap[r]? = z1.heap[r]?
 size2:z2.heap.size=z1.heap.size
 obj:z2.heap[rb]? = some (.cells (XH vT' vM vL vW vR vF' stops) 85 (0,0))
 rths:z2.ownsRow N 33 1 vT' (ths.length + 1) (ths ++ [P0 tb])
 rfls:z2.ownsRow N 4 1 vF' (fls.length + 1) (fls ++ [.bool false])
 tnew:vT'.ownBlock=vT.ownBlock∨∃ g,vT'.ownBlock=some g∧x.heap.size≤g
 fnew:vF'.ownBlock=vF.ownBlock∨∃ g,vF'.ownBlock=some g∧x.heap.size≤g
 thr:z2.heap[tb]? = some (.cells ((Yo rb ths.length wk st).setIfInBounds 13 (.bool true)) 91 (2,4))
