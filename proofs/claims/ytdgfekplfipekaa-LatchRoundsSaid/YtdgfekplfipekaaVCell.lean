/- The contracts of package cell, called free (by a thread that is nil): what each call answers and what it does to the cell's block. Condition: the pointer leads to a cell that New made (IsCell). -/
import Derived.Test.YtdgfekplfipekaaVLocks
import Derived.WalkKit
import Derived.WalkSpells
import Derived.WalkLawsBesides
import Derived.Lib.Hide
set_option linter.all false
set_option maxRecDepth 100000
set_option maxHeartbeats 16000000
namespace Go.Proofs.Ytdgfekplfipekaa
open Go.RowKit Go.MuLone
def XN (w:World) (b:Nat) (x:Int):Prop:=w.heap[b]? = some (.cells #[.int .i64 x,.bool true,.int .i32 0,.int .u32 0,.chan none] 72 (0,0))
theorem XN.c0 {w:World} {b:Nat} {x:Int} (h:XN w b x):w.cell? ⟨b,0,none⟩=some (.int .i64 x):=by simp only [XN] at h;simp [World.cell?,h]
theorem XN.c1 {w:World} {b:Nat} {x:Int} (h:XN w b x):w.cell? ⟨b,1,none⟩=some (.bool true):=by simp only [XN] at h;simp [World.cell?,h]
theorem XN.c2 {w:World} {b:Nat} {x:Int} (h:XN w b x):w.cell? ⟨b,2,none⟩=some (.int .i32 0):=by simp only [XN] at h;simp [World.cell?,h]
theorem XN.c4 {w:World} {b:Nat} {x:Int} (h:XN w b x):w.cell? ⟨b,4,none⟩=some (.chan none):=by simp only [XN] at h;simp [World.cell?,h]
theorem XN.fz {w:World} {b:Nat} {x:Int} (h:XN w b x) (i:Nat):w.frozen? ⟨b,i,none⟩=false:=by simp only [XN] at h;simp [World.frozen?,h]
theorem XN.set {w:World} {b:Nat} {x:Int} (h:XN w b x) (y:Int):XN (w.setCell ⟨b,0,none⟩ (.int .i64 y)) b y:=by
 simp only [XN] at h ⊢;simp [World.setCell,Array.getElem?_modify,h]
theorem XfA (b:Nat) (x y:Int) (w:World) (h:XN w b x) :
 Calls Try.prog 27 #[.pointer (some ⟨b,0,none⟩),.int .i64 y] w fun e w'=>e=.returned (.tuple #[])∧w.setCell ⟨b,0,none⟩ (.int .i64 y)=w':=by
 have h0:=h.c0;have f0:=h.fz 0;have hs:=run_call_store (P:=Try.prog) Try.func40 (by kernel_rfl) (by kernel_rfl) (by kernel_rfl) (by kernel_rfl) (k:=.i64) (y:=y) h0 f0;clear h
 go_enter Try.func27,Try.ntmps27
 go_wp2
 go_end0
 exact ⟨rfl,rfl⟩
def ZF (x:Int):Obj:=.cells #[.int .i64 x,.bool true,.int .i32 0,.int .u32 0,.chan none] 72 (0,0)
theorem Xbx (w:World) (x:Int):XN (w.alloc (ZF x)) w.heap.size x:=heap_alloc_new w _
theorem WH (w:World) (x:Int):(w.alloc (ZF 0)).setCell ⟨w.heap.size,0,none⟩ (.int .i64 x)=w.alloc (ZF x):=by
 unfold ZF;rw [World.setCell_alloc_at _ _ _ _ _ rfl]
 rfl
theorem Xa4 (x:Int) (w:World) :
 Calls Try.prog 9 #[.int .i64 x] w fun e w'=>e=.returned (.pointer (some ⟨w.heap.size,0,none⟩))∧w.alloc (ZF x)=w':=by
 go_enter Try.func9,Try.ntmps9
 go_wp2_with fail
 refine (XfA w.heap.size 0 x _ (Xbx w 0)).mono ?_;rintro e w' ⟨rfl,rfl⟩
 go_wp2
 go_ret;exact ⟨rfl,(WH w x).symm⟩
