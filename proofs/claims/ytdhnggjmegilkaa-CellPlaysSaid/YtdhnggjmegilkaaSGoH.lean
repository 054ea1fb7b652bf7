/- The model's operations, on: each meets itself in a world that is frozen at more places. Printed by gen_gog.py. -/
import Derived.Test.YtdhnggjmegilkaaSGoG
set_option linter.unusedSimpArgs false
set_option linter.unusedVariables false
set_option maxRecDepth 100000
set_option maxHeartbeats 16000000
namespace Go.Proofs.Ytdhnggjmegilkaa
open Go.Conc
section
variable {P:Program} {S:YK} {α σ:Type}
instance {t:TypeId} {s:ByteArray}:Xm P S (Conv.stringToBytes t s):=⟨⟨by
 unfold Conv.stringToBytes
 repeat' first|(with_reducible first|exact Xm.out|refine sb ?_ fun _=>?_)|split|dsimp only⟩⟩
instance {t:TypeId} {s:ByteArray}:Xm P S (Conv.stringToRunes t s):=⟨⟨by
 unfold Conv.stringToRunes
 repeat' first|(with_reducible first|exact Xm.out|refine sb ?_ fun _=>?_)|split|dsimp only⟩⟩
instance {v:Value}:Xm P S (Conv.bytesToString v):=⟨⟨by
 unfold Conv.bytesToString
 repeat' first|(with_reducible first|exact Xm.out|refine sb ?_ fun _=>?_|refine Zg ?_|refine Yb (fun _ _=>?_) _ _|refine Ya (fun _ _=>?_) _ _|refine Yz (fun _=>?_) _|refine Yh (fun _ _=>?_) _ _)|split|dsimp only⟩⟩
instance {v:Value}:Xm P S (Conv.runesToString v):=⟨⟨by
 unfold Conv.runesToString
 repeat' first|(with_reducible first|exact Xm.out|refine sb ?_ fun _=>?_|refine Zg ?_|refine Yb (fun _ _=>?_) _ _|refine Ya (fun _ _=>?_) _ _|refine Yz (fun _=>?_) _|refine Yh (fun _ _=>?_) _ _)|split|dsimp only⟩⟩
instance {k:IntKind} {n:Int}:Xm P S (Conv.intToInt k n):=⟨⟨by
 unfold Conv.intToInt
 repeat' first|(with_reducible first|exact Xm.out|refine sb ?_ fun _=>?_)|split|dsimp only⟩⟩
instance {k:FloatKind} {n:Int}:Xm P S (Conv.intToFloat k n):=⟨⟨by
 unfold Conv.intToFloat
 repeat' first|(with_reducible first|exact Xm.out|refine sb ?_ fun _=>?_)|split|dsimp only⟩⟩
instance {n:Int}:Xm P S (Conv.intToString n):=⟨⟨by
 unfold Conv.intToString
 repeat' first|(with_reducible first|exact Xm.out|refine sb ?_ fun _=>?_)|split|dsimp only⟩⟩
instance {j:FloatKind} {b:Nat} {k:IntKind}:Xm P S (Conv.floatToInt j b k):=⟨⟨by
 unfold Conv.floatToInt
 repeat' first|(with_reducible first|exact Xm.out|refine sb ?_ fun _=>?_)|split|dsimp only⟩⟩
instance {j k:FloatKind} {a b:Nat}:Xm P S (Conv.complexToComplex j a b k):=⟨⟨by
 unfold Conv.complexToComplex
 repeat' first|(with_reducible first|exact Xm.out|refine sb ?_ fun _=>?_)|split|dsimp only⟩⟩
instance {a:Addr}:Xm P S (backFromNumber a):=⟨⟨by
 unfold backFromNumber
 repeat' first|(with_reducible first|exact Xm.out|refine sb ?_ fun _=>?_)|split|dsimp only⟩⟩
instance {a:Addr} {t:TypeId} {n:Nat}:Xm P S (variablesAt a t n):=⟨⟨by
 unfold variablesAt
 repeat' first|(with_reducible first|exact Xm.out|refine sb ?_ fun _=>?_)|split|dsimp only⟩⟩
instance {a:Addr}:Xm P S (Conv.seenAt a):=⟨⟨by
 unfold Conv.seenAt
 repeat' first|(with_reducible first|exact Xm.out|refine sb ?_ fun _=>?_)|split|dsimp only⟩⟩
instance {s t:TypeId} {x:Value}:Xm P S (Conv.unsafePointer s t x):=⟨⟨by
 unfold Conv.unsafePointer
 repeat' first|(with_reducible first|exact Xm.out|refine sb ?_ fun _=>?_)|split|dsimp only⟩⟩
instance {s t:TypeId} {x:Value}:Xm P S (convert s t x):=⟨⟨by
 unfold convert
 repeat' first|(with_reducible first|exact Xm.out|refine sb ?_ fun _=>?_)|split|dsimp only⟩⟩
theorem W9 {s t:TypeId} {x:Value}:Sim P S (fun _=>True) (convert s t x):=Xm.out
instance {t:TypeId} {b:Bool} {x:Value}:Xm P S (Instr.alloc t b x):=⟨⟨by
 unfold Instr.alloc
 repeat' first|(with_reducible first|exact Xm.out|refine sb ?_ fun _=>?_)|split|dsimp only⟩⟩
theorem Xca {t:TypeId} {b:Bool} {x:Value}:Sim P S (fun _=>True) (Instr.alloc t b x):=Xm.out
instance {t:TypeId} {x:Value}:Xm P S (Instr.box t x):=⟨⟨by
 unfold Instr.box
 repeat' first|(with_reducible first|exact Xm.out|refine sb ?_ fun _=>?_)|split|dsimp only⟩⟩
theorem XeF {t:TypeId} {x:Value}:Sim P S (fun _=>True) (Instr.box t x):=Xm.out
instance {t:TypeId} {x:Array (Nat × Value)}:Xm P S (Instr.build t x):=⟨⟨by
 unfold Instr.build
 repeat' first|(with_reducible first|exact Xm.out|refine sb ?_ fun _=>?_|refine Zg ?_|refine Yb (fun _ _=>?_) _ _|refine Ya (fun _ _=>?_) _ _|refine Yz (fun _=>?_) _|refine Yh (fun _ _=>?_) _ _)|split|dsimp only⟩⟩
theorem Xb6 {t:TypeId} {x:Array (Nat × Value)}:Sim P S (fun _=>True) (Instr.build t x):=Xm.out
instance {t:TypeId} {n:Nat} {x:Array (Nat × Value)}:Xm P S (Instr.buildSlice t n x):=⟨⟨by
 unfold Instr.buildSlice
 repeat' first|(with_reducible first|exact Xm.out|refine sb ?_ fun _=>?_)|split|dsimp only⟩⟩
theorem UO {t:TypeId} {n:Nat} {x:Array (Nat × Value)}:Sim P S (fun _=>True) (Instr.buildSlice t n x):=Xm.out
instance {x:Value}:Xm P S (Instr.sureAddr x):=⟨⟨by
 unfold Instr.sureAddr
 repeat' first|(with_reducible first|exact Xm.out|refine sb ?_ fun _=>?_)|split|dsimp only⟩⟩
instance {t:TypeId} {x:Value}:Xm P S (Instr.loadAt t x):=⟨⟨by
 unfold Instr.loadAt
 repeat' first|(with_reducible first|exact Xm.out|refine sb ?_ fun _=>?_)|split|dsimp only⟩⟩
theorem Xbi {t:TypeId} {x:Value}:Sim P S (fun _=>True) (Instr.loadAt t x):=Xm.out
instance {t:TypeId} {x y:Value}:Xm P S (Instr.storeAt t x y):=⟨⟨by
 unfold Instr.storeAt
 repeat' first|(with_reducible first|exact Xm.out|refine sb ?_ fun _=>?_)|split|dsimp only⟩⟩
theorem WX {t:TypeId} {x y:Value}:Sim P S (fun _=>True) (Instr.storeAt t x y):=Xm.out
instance {t:TypeId} {x:Value} {f:Nat}:Xm P S (Instr.fieldAt t x f):=⟨⟨by
 unfold Instr.fieldAt
 repeat' first|(with_reducible first|exact Xm.out|refine sb ?_ fun _=>?_)|split|dsimp only⟩⟩
theorem W6 {t:TypeId} {x:Value} {f:Nat}:Sim P S (fun _=>True) (Instr.fieldAt t x f):=Xm.out
instance {t:TypeId} {x i:Value}:Xm P S (Instr.indexAt t x i):=⟨⟨by
 unfold Instr.indexAt
 repeat' first|(with_reducible first|exact Xm.out|refine sb ?_ fun _=>?_)|split|dsimp only⟩⟩
theorem W4 {t:TypeId} {x i:Value}:Sim P S (fun _=>True) (Instr.indexAt t x i):=Xm.out
instance {x:Value} {y:Nat} {c:BoundsCode}:Xm P S (Instr.sliceBound x y c):=⟨⟨by
 unfold Instr.sliceBound
 repeat' first|(with_reducible first|exact Xm.out|refine sb ?_ fun _=>?_)|split|dsimp only⟩⟩
instance {b:Bool} {m n:Nat} {x y z:Option Value}:Xm P S (Instr.sliceBounds b m n x y z):=⟨⟨by
 unfold Instr.sliceBounds
 repeat' first|(with_reducible first|exact Xm.out|refine sb ?_ fun _=>?_)|split|dsimp only⟩⟩
instance {t:TypeId} {v:Value} {x y z:Option Value}:Xm P S (Instr.slice t v x y z):=⟨⟨by
 unfold Instr.slice
 repeat' first|(with_reducible first|exact Xm.out|refine sb ?_ fun _=>?_)|split|dsimp only⟩⟩
instance {t:TypeId} {v:Value} {x y z:Option Value}:Xm P S (Instr.sliceAt t v x y z):=⟨⟨by
 unfold Instr.sliceAt
 repeat' first|(with_reducible first|exact Xm.out|refine sb ?_ fun _=>?_)|split|dsimp only⟩⟩
theorem WY {t:TypeId} {v:Value} {x y z:Option Value}:Sim P S (fun _=>True) (Instr.sliceAt t v x y z):=Xm.out
instance {t:TypeId} {v:Value}:Xm P S (Instr.arrayAt t v):=⟨⟨by
 unfold Instr.arrayAt
 repeat' first|(with_reducible first|exact Xm.out|refine sb ?_ fun _=>?_)|split|dsimp only⟩⟩
theorem Xad {t:TypeId} {v:Value}:Sim P S (fun _=>True) (Instr.arrayAt t v):=Xm.out
instance {g:Nat}:Xm P S (Instr.waits g):=⟨⟨by
 unfold Instr.waits
 repeat' first|(with_reducible first|exact Xm.out|refine sb ?_ fun _=>?_)|split|dsimp only⟩⟩
instance {t:TypeId} {v:Value}:Xm P S (Instr.makeInterface t v):=⟨⟨by
 unfold Instr.makeInterface
 repeat' first|(with_reducible first|exact Xm.out|refine sb ?_ fun _=>?_)|split|dsimp only⟩⟩
theorem QL {t:TypeId} {v:Value}:Sim P S (fun _=>True) (Instr.makeInterface t v):=Xm.out
instance {f:Fn} {a b:Array Value}:Xm P S (Instr.makeFunc f a b):=⟨⟨by
 unfold Instr.makeFunc
 repeat' first|(with_reducible first|exact Xm.out|refine sb ?_ fun _=>?_)|split|dsimp only⟩⟩
theorem We {f:Fn} {a b:Array Value}:Sim P S (fun _=>True) (Instr.makeFunc f a b):=Xm.out
instance {t:TypeId} {r:Option Value}:Xm P S (Instr.makeMap t r):=⟨⟨by
 unfold Instr.makeMap
 repeat' first|(with_reducible first|exact Xm.out|refine sb ?_ fun _=>?_)|split|dsimp only⟩⟩
theorem WZ {t:TypeId} {r:Option Value}:Sim P S (fun _=>True) (Instr.makeMap t r):=Xm.out
instance {t:TypeId} {l c:Value}:Xm P S (Instr.makeSlice t l c):=⟨⟨by
 unfold Instr.makeSlice
 repeat' first|(with_reducible first|exact Xm.out|refine sb ?_ fun _=>?_)|split|dsimp only⟩⟩
theorem Vz {t:TypeId} {l c:Value}:Sim P S (fun _=>True) (Instr.makeSlice t l c):=Xm.out
instance {t:TypeId} {x:Value} {f:Nat}:Xm P S (Instr.field t x f):=⟨⟨by
 unfold Instr.field
 repeat' first|(with_reducible first|exact Xm.out|refine sb ?_ fun _=>?_)|split|dsimp only⟩⟩
theorem Xb4 {t:TypeId} {x:Value} {f:Nat}:Sim P S (fun _=>True) (Instr.field t x f):=Xm.out
instance {t:TypeId} {x i:Value}:Xm P S (Instr.index t x i):=⟨⟨by
 unfold Instr.index
 repeat' first|(with_reducible first|exact Xm.out|refine sb ?_ fun _=>?_)|split|dsimp only⟩⟩
theorem Xb3 {t:TypeId} {x i:Value}:Sim P S (fun _=>True) (Instr.index t x i):=Xm.out
theorem ZP {e:Bool}:∀ (d:Nat) (t:TypeId) (x:Value),Sim P S (fun _=>True) (Instr.checkKey e d t x)
 | 0,_,_=>by unfold Instr.checkKey;exact XC
 | d + 1,t,x=>by
  unfold Instr.checkKey
  repeat' first|(with_reducible first|exact ZP d _ _|exact Xm.out|refine sb ?_ fun _=>?_|refine Zg ?_|refine Yb (fun _ _=>?_) _ _|refine Ya (fun _ _=>?_) _ _|refine Yz (fun _=>?_) _|refine Yh (fun _ _=>?_) _ _)|split|dsimp only
instance {e:Bool} {d:Nat} {t:TypeId} {x:Value}:Xm P S (Instr.checkKey e d t x):=⟨⟨ZP d t x⟩⟩
theorem Z8 {t:TypeId} {k:Value}:∀ (l:List MapEntry) (i:Nat),Sim P S (fun _=>True) (Instr.findAsking t k l i)
 | [],_=>Sim.pure trivial
 | e::es,i=>by
  unfold Instr.findAsking
  repeat' first|(with_reducible first|exact Z8 es _|exact Xm.out|refine sb ?_ fun _=>?_|refine Zg ?_|refine Yb (fun _ _=>?_) _ _|refine Ya (fun _ _=>?_) _ _|refine Yz (fun _=>?_) _|refine Yh (fun _ _=>?_) _ _)|split|dsimp only
instance {t:TypeId} {k:Value} {l:List MapEntry} {i:Nat}:Xm P S (Instr.findAsking t k l i):=⟨⟨Z8 l i⟩⟩
instance {t:TypeId} {k:Value} {l:List MapEntry}:Xm P S (Instr.findKey t k l):=⟨⟨by
 unfold Instr.findKey
 repeat' first|(with_reducible first|exact Xm.out|refine sb ?_ fun _=>?_)|split|dsimp only⟩⟩
theorem W5 {t:TypeId} {k:Value} {l:List MapEntry}:Sim P S (fun _=>True) (Instr.findKey t k l):=Xm.out
instance {t:TypeId} {x i:Value} {b:Bool}:Xm P S (Instr.lookup t x i b):=⟨⟨by
 unfold Instr.lookup
 repeat' first|(with_reducible first|exact Xm.out|refine sb ?_ fun _=>?_)|split|dsimp only⟩⟩
theorem Xbh {t:TypeId} {x i:Value} {b:Bool}:Sim P S (fun _=>True) (Instr.lookup t x i b):=Xm.out
instance {x y:Value}:Xm P S (Instr.keyThatStays x y):=⟨⟨by
 unfold Instr.keyThatStays
 repeat' first|(with_reducible first|exact Xm.out|refine sb ?_ fun _=>?_)|split|dsimp only⟩⟩
theorem Q5 {x y:Value}:Sim P S (fun _=>True) (Instr.keyThatStays x y):=Xm.out
theorem X6 (hS:∀ r,¬ S.objs r) {t:TypeId} {m k v:Value}:Sim P S (fun _=>True) (Instr.mapUpdate t m k v):=by
 unfold Instr.mapUpdate
 repeat' first|(with_reducible first|exact Xm.out|exact Yw (hS _)|refine sb ?_ fun _=>?_)|split|dsimp only
theorem YS (hS:∀ r,¬ S.objs r) {t:TypeId} {m k:Value}:Sim P S (fun _=>True) (Instr.mapEntry t m k):=by
 unfold Instr.mapEntry
 repeat' first|(with_reducible first|exact Xm.out|exact Yw (hS _)|exact X6 hS|refine sb ?_ fun _=>?_)|split|dsimp only
theorem YO (hS:∀ r,¬ S.objs r) {t:TypeId} {m s v:Value}:Sim P S (fun _=>True) (Instr.entryStore t m s v):=by
 unfold Instr.entryStore
 repeat' first|(with_reducible first|exact Xm.out|exact Yw (hS _)|exact X6 hS|exact YS hS|refine sb ?_ fun _=>?_)|split|dsimp only
instance {t:TypeId} {x:Value}:Xm P S (Instr.range t x):=⟨⟨by
 unfold Instr.range
 repeat' first|(with_reducible first|exact Xm.out|refine sb ?_ fun _=>?_)|split|dsimp only⟩⟩
theorem Xb1 {t:TypeId} {x:Value}:Sim P S (fun _=>True) (Instr.range t x):=Xm.out
theorem Vx (hS:∀ r,¬ S.objs r) {x:Value} {b:Bool} {t:TypeId}:Sim P S (fun _=>True) (Instr.next x b t):=by
 unfold Instr.next
 repeat' first|(with_reducible first|exact Xm.out|exact Yw (hS _)|exact X6 hS|exact YS hS|exact YO hS|refine sb ?_ fun _=>?_)|split|dsimp only
instance {x:Value}:Xm P S (Instr.entry x):=⟨⟨by
 unfold Instr.entry
 repeat' first|(with_reducible first|exact Xm.out|refine sb ?_ fun _=>?_)|split|dsimp only⟩⟩
theorem Xb5 {x:Value}:Sim P S (fun _=>True) (Instr.entry x):=Xm.out
instance {x:Value} {s t:TypeId} {b:Bool}:Xm P S (Instr.typeAssert x s t b):=⟨⟨by
 unfold Instr.typeAssert
 repeat' first|(with_reducible first|exact Xm.out|refine sb ?_ fun _=>?_)|split|dsimp only⟩⟩
theorem UM {x:Value} {s t:TypeId} {b:Bool}:Sim P S (fun _=>True) (Instr.typeAssert x s t b):=Xm.out
instance {x:Value} {i:Nat}:Xm P S (Instr.extract x i):=⟨⟨by
 unfold Instr.extract
 repeat' first|(with_reducible first|exact Xm.out|refine sb ?_ fun _=>?_)|split|dsimp only⟩⟩
theorem W7 {x:Value} {i:Nat}:Sim P S (fun _=>True) (Instr.extract x i):=Xm.out
instance {a:Addr} {n:Nat}:Xm P S (Builtin.holdsCells a n):=⟨⟨by
 unfold Builtin.holdsCells
 repeat' first|(with_reducible first|exact Xm.out|refine sb ?_ fun _=>?_)|split|dsimp only⟩⟩
instance {x:Value}:Xm P S (Builtin.lenOf x):=⟨⟨by
 unfold Builtin.lenOf
 repeat' first|(with_reducible first|exact Xm.out|refine sb ?_ fun _=>?_)|split|dsimp only⟩⟩
instance {m n:Nat} {x:Value}:Xm P S (Builtin.firstCells m n x):=⟨⟨by
 unfold Builtin.firstCells
 repeat' first|(with_reducible first|exact Xm.out|refine sb ?_ fun _=>?_)|split|dsimp only⟩⟩
instance {ts:Array TypeId} {t:TypeId} {a:Array Value}:Xm P S (Builtin.cap_ ts t a):=⟨⟨by
 unfold Builtin.cap_
 repeat' first|(with_reducible first|exact Xm.out|refine sb ?_ fun _=>?_)|split|dsimp only⟩⟩
theorem XeE {ts:Array TypeId} {t:TypeId} {a:Array Value}:Sim P S (fun _=>True) (Builtin.cap_ ts t a):=Xm.out
instance {ts:Array TypeId} {t:TypeId} {a:Array Value}:Xm P S (Builtin.len_ ts t a):=⟨⟨by
 unfold Builtin.len_
 repeat' first|(with_reducible first|exact Xm.out|refine sb ?_ fun _=>?_)|split|dsimp only⟩⟩
theorem XeD {ts:Array TypeId} {t:TypeId} {a:Array Value}:Sim P S (fun _=>True) (Builtin.len_ ts t a):=Xm.out
instance {ts:Array TypeId} {t:TypeId} {a:Array Value}:Xm P S (Builtin.copy_ ts t a):=⟨⟨by
 unfold Builtin.copy_
 repeat' first|(with_reducible first|exact Xm.out|refine sb ?_ fun _=>?_)|split|dsimp only⟩⟩
theorem Xdz {ts:Array TypeId} {t:TypeId} {a:Array Value}:Sim P S (fun _=>True) (Builtin.copy_ ts t a):=Xm.out
instance {x y:Value}:Xm P S (Builtin.max2 x y):=⟨⟨by
 unfold Builtin.max2
 repeat' first|(with_reducible first|exact Xm.out|refine sb ?_ fun _=>?_)|split|dsimp only⟩⟩
instance {ts:Array TypeId} {t:TypeId} {a:Array Value}:Xm P S (Builtin.max_ ts t a):=⟨⟨by
 unfold Builtin.max_
 repeat' first|(with_reducible first|exact Xm.out|refine sb ?_ fun _=>?_|refine Zg ?_|refine Yb (fun _ _=>?_) _ _|refine Ya (fun _ _=>?_) _ _|refine Yz (fun _=>?_) _|refine Yh (fun _ _=>?_) _ _)|split|dsimp only⟩⟩
theorem XeC {ts:Array TypeId} {t:TypeId} {a:Array Value}:Sim P S (fun _=>True) (Builtin.max_ ts t a):=Xm.out
instance {x y:Value}:Xm P S (Builtin.min2 x y):=⟨⟨by
 unfold Builtin.min2
 repeat' first|(with_reducible first|exact Xm.out|refine sb ?_ fun _=>?_)|split|dsimp only⟩⟩
instance {ts:Array TypeId} {t:TypeId} {a:Array Value}:Xm P S (Builtin.min_ ts t a):=⟨⟨by
 unfold Builtin.min_
 repeat' first|(with_reducible first|exact Xm.out|refine sb ?_ fun _=>?_|refine Zg ?_|refine Yb (fun _ _=>?_) _ _|refine Ya (fun _ _=>?_) _ _|refine Yz (fun _=>?_) _|refine Yh (fun _ _=>?_) _ _)|split|dsimp only⟩⟩
theorem XeB {ts:Array TypeId} {t:TypeId} {a:Array Value}:Sim P S (fun _=>True) (Builtin.min_ ts t a):=Xm.out
theorem UZ (hS:∀ r,¬ S.objs r) {ts:Array TypeId} {t:TypeId} {a:Array Value}:Sim P S (fun _=>True) (Builtin.delete_ ts t a):=by
 unfold Builtin.delete_
 repeat' first|(with_reducible first|exact Xm.out|exact Yw (hS _)|exact X6 hS|exact YS hS|exact YO hS|exact Vx hS|refine sb ?_ fun _=>?_)|split|dsimp only
end
end Go.Proofs.Ytdhnggjmegilkaa
