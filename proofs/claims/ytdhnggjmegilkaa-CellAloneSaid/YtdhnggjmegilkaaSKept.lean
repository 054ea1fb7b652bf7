/- A world that is as it was but for some blocks. No conditions. -/
import Derived.WalkKit
import Derived.WalkSpells
import Derived.WalkLawsBesides
import Derived.Lib.Hide
import Derived.Laws.OwnMore
import Derived.Deep.Draws
import Derived.Laws.Rows
import Derived.Below
import Derived.Laws.AppendOwn
set_option linter.all false
set_option maxRecDepth 100000
set_option maxHeartbeats 16000000
namespace Go.Proofs.Ytdhnggjmegilkaa
open Go.RowKit
def Blk (w:World) (g:Nat) (t:TypeId) (cs:Array Value):Prop:=w.heap[g]? = some (.cells cs t (0,0))
section
variable {w w':World} {g:Nat} {t:TypeId} {cs:Array Value}
theorem Blk.lt (h:Blk w g t cs):g < w.heap.size:=by
 rcases Nat.lt_or_ge g w.heap.size with hlt|hge
 ·exact hlt
 ·unfold Blk at h;rw [Array.getElem?_eq_none hge] at h;cases h
theorem Blk.cell (h:Blk w g t cs) (i:Nat):w.cell? ⟨g,i,none⟩=cs[i]?:=cell_of_row w g i cs t (0,0) h
theorem Blk.frozen (h:Blk w g t cs) (i:Nat):w.frozen? ⟨g,i,none⟩=false:=by
 unfold Blk at h;simp [World.frozen?,h]
theorem Blk.new (w:World) (t:TypeId) (cs:Array Value):Blk (w.alloc (.cells cs t)) w.heap.size t cs:=heap_alloc_new w _
theorem Blk.alloc (h:Blk w g t cs) (o:Obj):Blk (w.alloc o) g t cs:=(Below.heap_alloc w o g h.lt).trans h
end
structure Kept (S:Nat→Prop) (w w':World):Prop where
 os:w'.os=w.os
 tape:w'.tape=w.tape
 output:w'.output=w.output
 size:w.heap.size≤w'.heap.size
 block:∀ q,q < w.heap.size→¬ S q→w'.heap[q]? = w.heap[q]?
theorem Kept.refl (S:Nat→Prop) (w:World):Kept S w w:=⟨rfl,rfl,rfl,Nat.le_refl _,fun _ _ _=>rfl⟩
theorem Kept.trans {S:Nat→Prop} {a b c:World} (h:Kept S a b) (k:Kept S b c):Kept S a c:=⟨k.os.trans h.os,k.tape.trans h.tape,k.output.trans h.output,Nat.le_trans h.size k.size,fun q hq hs=>(k.block q (Nat.lt_of_lt_of_le hq h.size) hs).trans (h.block q hq hs)⟩
theorem Kept.mono {S T:Nat→Prop} {a b:World} (h:Kept S a b) (hs:∀ q,S q→T q):Kept T a b:=⟨h.os,h.tape,h.output,h.size,fun q hq ht=>h.block q hq fun hh=>ht (hs q hh)⟩
theorem Kept.of_below {S:Nat→Prop} {a b:World} (h:Below a.heap.size a b):Kept S a b:=⟨h.os,h.tape,h.output,h.size,fun q hq _=>h.block q hq⟩
theorem Kept.set {S:Nat→Prop} {a b:World} (h:Kept S a b) {p:Addr} (hs:S p.block) (v:Value):Kept S a (b.setCell p v) :=
 ⟨h.os,h.tape,h.output,by simpa using h.size,fun q hq hq2=>(Below.heap_setCell b p v q (fun hh=>hq2 (hh ▸ hs))).trans (h.block q hq hq2)⟩
theorem Kept.alloc {S:Nat→Prop} {a b:World} (h:Kept S a b) (o:Obj):Kept S a (b.alloc o):=h.trans (Kept.of_below ((Below.refl _ _).alloc (Nat.le_refl _) o))
theorem Kept.drew {S:Nat→Prop} {a b:World} (h:Kept S a b):Kept S a b.drew:=⟨h.os,h.tape,h.output,h.size,h.block⟩
theorem Kept.cell {S:Nat→Prop} {a b:World} (h:Kept S a b) {p:Addr} (hp:p.block < a.heap.size) (hs:¬ S p.block):b.cell? p=a.cell? p:=World.cell?_of_block (h.block p.block hp hs)
