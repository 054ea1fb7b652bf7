/- What the walks of the document and of the gate share: cells of a block, own lists, an entry's cells. -/
import Derived.Test.YtdgfekplfipekaaVTkB
import GoSem.Extern.Atomic
import Derived.Tactics2
import Derived.RegionTactic
import Derived.Lib.Hide
import Derived.WalkKit
import Derived.WalkSpells
import Derived.WalkLawsBesides
import Derived.Laws.OwnMore
import Derived.Deep.Draws
import Derived.Laws.Rows
import Derived.BigRegion
import Derived.BigQuiet
import Derived.Deep.RegionLaw
import Derived.Deep.RegionWith
import Derived.Deep.AppendLies
import Derived.Laws.EntriesVeiled
import Derived.Deep.RegionLawGrows
import Derived.RowKit
import Derived.StillTail
import Derived.StillTailTactics
import Derived.LaidEqlPtr
import Derived.MapKept
import Derived.Laws.Small
import Derived.Test.YtdgfekplfipekaaProg
set_option linter.all false
set_option maxRecDepth 100000
set_option maxHeartbeats 16000000
namespace Go.Proofs.Ytdgfekplfipekaa
open Go.Conc Go.RowKit
abbrev th (tb k:Nat):Addr:=⟨tb,k,none⟩
theorem Xa {z:World} {b:Nat} {cs:Array Value} {t:TypeId} {f:Nat × Nat} (h:z.heap[b]? = some (.cells cs t f)) (k:Nat):z.cell? (th b k)=cs[k]?:=by simp [World.cell?,h]
theorem Xe {z:World} {b:Nat} {cs:Array Value} {t:TypeId} (h:z.heap[b]? = some (.cells cs t (0,0))) (k:Nat):z.frozen? (th b k)=false:=by simp [World.frozen?,h]
theorem XM {o:Option TypeInfo} {z:Option Value} {s b:Nat} (h:o.map (fun i=>(i.zero,i.size,i.bytes))=some (z,s,b)):∃ i,o=some i∧i.zero=z∧i.size=s∧i.bytes=b:=by
 obtain ⟨i,h1,h2⟩:=Option.map_eq_some_iff.1 h;simp only [Prod.mk.injEq] at h2;exact ⟨i,h1,h2.1,h2.2.1,h2.2.2⟩
theorem Xj {w w':World} {N:Nat} {e:TypeId} {size:Nat} {v:Value} {n:Nat} {xs:List Value} (h:w.ownsRow N e size v n xs) (hb:∀ g,v.ownBlock=some g→w'.heap[g]? = w.heap[g]?):w'.ownsRow N e size v n xs:=by
 refine ⟨h.1,?_⟩;rcases h.2 with hn|⟨g,cap,cur,rfl,hb',hgg,rest⟩
 ·exact .inl hn
 ·exact .inr ⟨g,cap,cur,rfl,hb',by rw [hb g rfl];exact hgg,rest⟩
theorem own_lt {w:World} {N:Nat} {e:TypeId} {size:Nat} {v:Value} {n:Nat} {xs:List Value} (h:w.ownsRow N e size v n xs) {g:Nat} (hg:v.ownBlock=some g):g < w.heap.size:=(h.lt g hg).2
theorem XE {w:World} {N:Nat} {e:TypeId} {size:Nat} {v:Value} {n:Nat} {xs:List Value} (h:w.ownsRow N e size v n xs) {g:Nat} (hg:v.ownBlock=some g):N≤g:=(h.lt g hg).1
theorem Xq {w:World} {N:Nat} {e:TypeId} {size:Nat} {v:Value} {n:Nat} {xs:List Value} (h:w.ownsRow N e size v n xs):∃ ao cap,v=.slice ao n cap:=by
 rcases h.2 with ⟨rfl,hn⟩|⟨g,cap,cur,rfl,rest⟩
 ·exact ⟨none,0,by rw [hn]⟩
 ·exact ⟨_,_,rfl⟩
def Yj (a:Xo):List Value:=[.int .i64 a.thread,.int .i8 a.op,.int .i64 a.cell,.int .i64 a.arg,.int .i64 a.new,.int .i64 a.was,.int .i64 a.now,.bool a.ok]
theorem ZJ {α:Type} (a0 a1 a2 a3 a4 a5 a6 a7 b0 b1 b2 b3 b4 b5 b6 b7:α) :
 ((((((((#[a0,a1,a2,a3,a4,a5,a6,a7].setIfInBounds 0 b0).setIfInBounds 1 b1).setIfInBounds 2 b2).setIfInBounds 3 b3).setIfInBounds 4 b4).setIfInBounds 5 b5).setIfInBounds 6 b6).setIfInBounds 7 b7)=#[b0,b1,b2,b3,b4,b5,b6,b7]:=by
 apply Array.ext';simp only [Array.toList_setIfInBounds]
 rfl
theorem UI:(Try.prog.info? 3).map (fun i=>(i.zero,i.size,i.bytes))=some (some (.int .i64 0),1,8):=by kernel_rfl
theorem Qi {w:World} {N:Nat} {e:TypeId} {v:Value} {n:Nat} {xs:List Value} (h:w.ownsRow N e 1 v n xs) (hn:n≠0):∃ g cap,v=.slice (some ⟨g,0,none⟩) n cap∧∀ i u,xs[i]? = some u→w.cell? (th g i)=some u:=by
 rcases h.2 with ⟨_,h0⟩|⟨g,cap,cur,rfl,_,hg,_,_,_,ht⟩
 ·exact absurd h0 hn
 ·refine ⟨g,cap,rfl,fun i u hu=>?_⟩
  rw [Xa hg,← Array.getElem?_toList];rw [← ht,List.getElem?_take] at hu
  split at hu
  ·exact hu
  ·cases hu
theorem X7 {w:World} {N:Nat} {e:TypeId} {size:Nat}:w.ownsRow N e size (.slice none 0 0) 0 []:=⟨by simp,.inl ⟨rfl,rfl⟩⟩
