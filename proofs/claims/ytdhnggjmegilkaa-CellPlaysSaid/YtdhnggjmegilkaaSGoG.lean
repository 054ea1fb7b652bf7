/- The model's operations: each meets itself in a world that is frozen at more places. Printed by gen_gog.py. -/
import Derived.Test.YtdhnggjmegilkaaSGoF
set_option linter.unusedSimpArgs false
set_option linter.unusedVariables false
set_option maxRecDepth 100000
set_option maxHeartbeats 16000000
namespace Go.Proofs.Ytdhnggjmegilkaa
open Go.Conc
section
variable {P:Program} {S:YK} {α σ:Type}
theorem Uq {r:Nat}:Sim P S (fun _=>True) (getObj r):=Sim.mono ZY fun _ _=>trivial
theorem ZM:Sim P S (fun _=>True) program:=Sim.mono YC fun _ _=>trivial
theorem Xbj {a:Addr} {n:Nat}:Sim P S (fun _=>True) (freeze a n):=fun x w hT=>⟨0,fun _=>0,.inr ⟨.ok () (x.freeze a n),by
 show Fits S _ w _ (.ok () (w.freeze a n))
 refine .ok ⟨rfl,trivial⟩ (hT.freeze a n) ?_ ?_
 ·unfold World.freeze;split<;>rfl
 ·unfold World.freeze;split<;>simp,fun τ d _=>by
 show Result.ok () ((under x τ d).freeze a n)=.ok () (under (x.freeze a n) τ d)
 congr 1
 unfold World.freeze;split<;>rfl,#[],fun es=>by show es=_;simp,by simp⟩⟩
theorem Zg {β:Type} {f:α→β} {s:Sem α} (h:Sim P S (fun _=>True) s):Sim P S (fun _=>True) (f <$> s):=Sim.bind h fun _ _=>Sim.pure trivial
theorem Ur {f:α→σ→Sem (ForInStep σ)} (h:∀ a s,Sim P S (fun _=>True) (f a s)):∀ (l:List α) (s:σ),Sim P S (fun _=>True) (forIn l s f)
 | [],s=>by simp only [List.forIn_nil];exact Sim.pure trivial
 | a::l,s=>by
  rw [List.forIn_cons]
  refine Sim.bind (h a s) fun r _=>?_
  cases r with
  | done b=>exact Sim.pure trivial
  | yield b=>exact Ur h l b
theorem Yb {f:α→σ→Sem (ForInStep σ)} (h:∀ a s,Sim P S (fun _=>True) (f a s)) (l:Array α) (s:σ):Sim P S (fun _=>True) (forIn l s f):=by
 rw [← Array.forIn_toList];exact Ur h _ _
theorem Ya {f:Nat→σ→Sem (ForInStep σ)} (h:∀ a s,Sim P S (fun _=>True) (f a s)) (l:Std.Legacy.Range) (s:σ):Sim P S (fun _=>True) (forIn l s f):=by
 rw [Std.Legacy.Range.forIn_eq_forIn_range'];exact Ur h _ _
theorem XaL {f:α→Sem σ} (h:∀ a,Sim P S (fun _=>True) (f a)):∀ l:List α,Sim P S (fun _=>True) (l.mapM f)
 | []=>by rw [List.mapM_nil];exact Sim.pure trivial
 | a::l=>by
  rw [List.mapM_cons]
  exact (h a).bind fun _ _=>(XaL h l).bind fun _ _=>Sim.pure trivial
theorem Yz {f:α→Sem σ} (h:∀ a,Sim P S (fun _=>True) (f a)) (l:Array α):Sim P S (fun _=>True) (l.mapM f):=by
 rw [Array.mapM_eq_mapM_toList]
 exact (XaL h l.toList).bind fun _ _=>Sim.pure trivial
theorem Yh {f:σ→α→Sem σ} (h:∀ s a,Sim P S (fun _=>True) (f s a)):∀ (l:List α) (s:σ),Sim P S (fun _=>True) (l.foldlM f s)
 | [],s=>by rw [List.foldlM_nil];exact Sim.pure trivial
 | a::l,s=>by rw [List.foldlM_cons];exact (h s a).bind fun _ _=>Yh h l _
structure Xf7 (P:Program) (S:YK) {α:Type} (s:Sem α):Type where
 out:Sim P S (fun _=>True) s
abbrev Xm (P:Program) (S:YK) {α:Type} (s:Sem α):Prop:=Nonempty (Xf7 P S s)
theorem Xm.out {s:Sem α} [h:Xm P S s]:Sim P S (fun _=>True) s:=h.elim fun a=>a.out
theorem sb {β:Type} {s:Sem α} {f:α→Sem β} (h:Sim P S (fun _=>True) s) (k:∀ a,Sim P S (fun _=>True) (f a)):Sim P S (fun _=>True) (s >>= f):=Sim.bind (N:=fun _=>True) h fun a _=>k a
instance {a:α}:Xm P S (pure a:Sem α):=⟨⟨Sim.pure trivial⟩⟩
instance {s:String}:Xm P S (stuck s:Sem α):=⟨⟨Xu⟩⟩
instance {u:Unsupported}:Xm P S (unsupported u:Sem α):=⟨⟨XC⟩⟩
instance {v:Value}:Xm P S (goPanic v:Sem α):=⟨⟨YR⟩⟩
instance {e:RuntimeError}:Xm P S (runtimePanic e:Sem α):=⟨⟨Yr⟩⟩
instance {r:Nat}:Xm P S (getObj r):=⟨⟨Uq⟩⟩
instance:Xm P S program:=⟨⟨ZM⟩⟩
instance {a:Addr} {n:Nat}:Xm P S (freeze a n):=⟨⟨Xbj⟩⟩
instance {a:Addr} {vs:List Value} {i:Nat}:Xm P S (storeCells a vs i):=⟨⟨YN vs i⟩⟩
instance {a:Addr} {m:Mode}:Xm P S (load a m):=⟨⟨Q9⟩⟩
instance {a:Addr} {v:Value} {m:Mode}:Xm P S (store a v m):=⟨⟨Zk⟩⟩
instance {o:Obj}:Xm P S (newObj o):=⟨⟨Vy⟩⟩
instance {r:Nat}:Xm P S (shape r):=⟨⟨Y4⟩⟩
instance {q:Question}:Xm P S (choose q):=⟨⟨QO⟩⟩
instance {n:Nat}:Xm P S (askRoom n):=⟨⟨Xac⟩⟩
instance {t:TypeId}:Xm P S (typeInfo t):=⟨⟨Yv⟩⟩
instance {t:TypeId}:Xm P S (underlying t):=⟨⟨XX⟩⟩
instance {t:TypeId}:Xm P S (zeroValue t):=⟨⟨Vv⟩⟩
instance {t:TypeId}:Xm P S (sizeOf t):=⟨⟨ZX⟩⟩
instance {t:TypeId}:Xm P S (isAgg t):=⟨⟨Up⟩⟩
instance {a:Addr} {n:Nat}:Xm P S (loadCells a n):=⟨⟨Qv⟩⟩
instance {t:TypeId} {a:Addr}:Xm P S (loadVar t a):=⟨⟨Uo⟩⟩
instance {t:TypeId} {a:Addr} {v:Value}:Xm P S (storeVar t a v):=⟨⟨Wb⟩⟩
instance {t:TypeId} {c:Array Value}:Xm P S (newRow t c):=⟨⟨UY⟩⟩
instance {t:TypeId} {v:Value}:Xm P S (newVar t v):=⟨⟨QJ⟩⟩
instance {t:TypeId}:Xm P S (elemOf t):=⟨⟨QN⟩⟩
instance {t:TypeId} {c:Array Value} {n:Nat}:Xm P S (part t c n):=⟨⟨XaJ⟩⟩
instance {r:Nat}:Xm P S (viewAt r):=⟨⟨QH⟩⟩
instance {r:Nat}:Xm P S (numberAt r):=⟨⟨Wd⟩⟩
instance {r:Nat}:Xm P S (cellsIn r):=⟨⟨Xaa⟩⟩
instance {a:Addr}:Xm P S (noView a):=⟨⟨QI⟩⟩
instance {v:Value}:Xm P S (asBool v):=⟨⟨Va⟩⟩
instance {v:Value}:Xm P S (asString v):=⟨⟨Wj⟩⟩
instance {v:Value}:Xm P S (asAgg v):=⟨⟨Xb9⟩⟩
instance {v:Value}:Xm P S (asIntOf v):=⟨⟨Us⟩⟩
instance {v:Value}:Xm P S (asInt v):=⟨⟨ZQ⟩⟩
instance {v:Value}:Xm P S (asAddr v):=⟨⟨YD⟩⟩
instance {a b:Addr}:Xm P S (sameAddr a b):=⟨⟨Wc⟩⟩
instance {a:Addr}:Xm P S (markStringish a):=⟨⟨by
 unfold markStringish
 repeat' first|(with_reducible first|exact Xm.out|refine sb ?_ fun _=>?_)|split|dsimp only⟩⟩
instance {a:Addr} {b:Bool}:Xm P S (asNumber a b):=⟨⟨by
 unfold asNumber
 repeat' first|(with_reducible first|exact Xm.out|refine sb ?_ fun _=>?_)|split|dsimp only⟩⟩
instance {a:Addr}:Xm P S (behindNumber a):=⟨⟨by
 unfold behindNumber
 repeat' first|(with_reducible first|exact Xm.out|refine sb ?_ fun _=>?_)|split|dsimp only⟩⟩
instance {a:Addr}:Xm P S (byteOf a):=⟨⟨by
 unfold byteOf
 repeat' first|(with_reducible first|exact Xm.out|refine sb ?_ fun _=>?_)|split|dsimp only⟩⟩
instance {a:Addr} {m n:Nat}:Xm P S (partAt a m n):=⟨⟨by
 unfold partAt
 repeat' first|(with_reducible first|exact Xm.out|refine sb ?_ fun _=>?_)|split|dsimp only⟩⟩
instance {a:Addr} {f:Field}:Xm P S (fieldPlace a f):=⟨⟨by
 unfold fieldPlace
 repeat' first|(with_reducible first|exact Xm.out|refine sb ?_ fun _=>?_)|split|dsimp only⟩⟩
instance {k:IntKind} {x y:Int} {c:BoundsCode}:Xm P S (boundsPanic (α:=α) k x y c):=⟨⟨by
 unfold boundsPanic
 repeat' first|(with_reducible first|exact Xm.out|refine sb ?_ fun _=>?_|refine Zg ?_|refine Yb (fun _ _=>?_) _ _|refine Ya (fun _ _=>?_) _ _|refine Yz (fun _=>?_) _|refine Yh (fun _ _=>?_) _ _)|split|dsimp only⟩⟩
instance {op:BinOp} {k:IntKind} {x y:Int}:Xm P S (Op.intArith op k x y):=⟨⟨by
 unfold Op.intArith
 repeat' first|(with_reducible first|exact Xm.out|refine sb ?_ fun _=>?_)|split|dsimp only⟩⟩
theorem Wh {op:BinOp} {k:IntKind} {x y:Int}:Sim P S (fun _=>True) (Op.intArith op k x y):=Xm.out
instance {op:BinOp} {k:IntKind} {x y:Int}:Xm P S (Op.intDiv op k x y):=⟨⟨by
 unfold Op.intDiv
 repeat' first|(with_reducible first|exact Xm.out|refine sb ?_ fun _=>?_)|split|dsimp only⟩⟩
instance {op:BinOp} {k:IntKind} {x y:Int}:Xm P S (Op.intBits op k x y):=⟨⟨by
 unfold Op.intBits
 repeat' first|(with_reducible first|exact Xm.out|refine sb ?_ fun _=>?_)|split|dsimp only⟩⟩
instance {op:BinOp} {k j:IntKind} {x y:Int}:Xm P S (Op.shift op k x j y):=⟨⟨by
 unfold Op.shift
 repeat' first|(with_reducible first|exact Xm.out|refine sb ?_ fun _=>?_)|split|dsimp only⟩⟩
instance {op:BinOp} {x y:Int}:Xm P S (Op.intCmp op x y):=⟨⟨by
 unfold Op.intCmp
 repeat' first|(with_reducible first|exact Xm.out|refine sb ?_ fun _=>?_)|split|dsimp only⟩⟩
instance {op:BinOp} {x y:ByteArray}:Xm P S (Op.stringOp op x y):=⟨⟨by
 unfold Op.stringOp
 repeat' first|(with_reducible first|exact Xm.out|refine sb ?_ fun _=>?_)|split|dsimp only⟩⟩
instance {op:BinOp} {k:FloatKind} {x y:Nat}:Xm P S (Op.floatArith op k x y):=⟨⟨by
 unfold Op.floatArith
 repeat' first|(with_reducible first|exact Xm.out|refine sb ?_ fun _=>?_)|split|dsimp only⟩⟩
instance {op:BinOp} {k:FloatKind} {x y:Nat}:Xm P S (Op.floatCmp op k x y):=⟨⟨by
 unfold Op.floatCmp
 repeat' first|(with_reducible first|exact Xm.out|refine sb ?_ fun _=>?_)|split|dsimp only⟩⟩
instance {k j:FloatKind} {x:Nat}:Xm P S (Conv.floatToFloat k x j):=⟨⟨by
 unfold Conv.floatToFloat
 repeat' first|(with_reducible first|exact Xm.out|refine sb ?_ fun _=>?_)|split|dsimp only⟩⟩
instance {op:BinOp} {k:FloatKind} {x y:Nat}:Xm P S (Op.Complex.arith op k x y):=⟨⟨by
 unfold Op.Complex.arith
 repeat' first|(with_reducible first|exact Xm.out|refine sb ?_ fun _=>?_)|split|dsimp only⟩⟩
instance {op:BinOp} {k:FloatKind} {x y:Nat}:Xm P S (Op.Complex.cmp op k x y):=⟨⟨by
 unfold Op.Complex.cmp
 repeat' first|(with_reducible first|exact Xm.out|refine sb ?_ fun _=>?_)|split|dsimp only⟩⟩
instance {k j:FloatKind} {x:Nat}:Xm P S (Op.Complex.conv k x j):=⟨⟨by
 unfold Op.Complex.conv
 repeat' first|(with_reducible first|exact Xm.out|refine sb ?_ fun _=>?_)|split|dsimp only⟩⟩
instance {x y:Nat}:Xm P S (Op.Complex.add x y):=⟨⟨(Xm.out:Sim P S (fun _=>True) (Op.Complex.arith _ _ _ _))⟩⟩
instance {x y:Nat}:Xm P S (Op.Complex.sub x y):=⟨⟨(Xm.out:Sim P S (fun _=>True) (Op.Complex.arith _ _ _ _))⟩⟩
instance {x y:Nat}:Xm P S (Op.Complex.mul x y):=⟨⟨(Xm.out:Sim P S (fun _=>True) (Op.Complex.arith _ _ _ _))⟩⟩
instance {x y:Nat}:Xm P S (Op.Complex.quo x y):=⟨⟨(Xm.out:Sim P S (fun _=>True) (Op.Complex.arith _ _ _ _))⟩⟩
instance {a b c d:Nat}:Xm P S (Op.Complex.product a b c d):=⟨⟨by
 unfold Op.Complex.product
 repeat' first|(with_reducible first|exact Xm.out|refine sb ?_ fun _=>?_)|split|dsimp only⟩⟩
instance {s a b c d:Nat}:Xm P S (Op.Complex.corrected s a b c d):=⟨⟨by
 unfold Op.Complex.corrected
 repeat' first|(with_reducible first|exact Xm.out|refine sb ?_ fun _=>?_)|split|dsimp only⟩⟩
instance {a b c d:Nat}:Xm P S (Op.Complex.quotient a b c d):=⟨⟨by
 unfold Op.Complex.quotient
 repeat' first|(with_reducible first|exact Xm.out|refine sb ?_ fun _=>?_)|split|dsimp only⟩⟩
instance {op:BinOp} {k:FloatKind} {a b c d:Nat}:Xm P S (Op.complexOp op k a b c d):=⟨⟨by
 unfold Op.complexOp
 repeat' first|(with_reducible first|exact Xm.out|refine sb ?_ fun _=>?_)|split|dsimp only⟩⟩
instance {op:UnOp} {x:Value}:Xm P S (Op.unary op x):=⟨⟨by
 unfold Op.unary
 repeat' first|(with_reducible first|exact Xm.out|refine sb ?_ fun _=>?_)|split|dsimp only⟩⟩
theorem XbZ {op:UnOp} {x:Value}:Sim P S (fun _=>True) (Op.unary op x):=Xm.out
instance {a b:Option Addr}:Xm P S (samePointer a b):=⟨⟨by
 unfold samePointer
 repeat' first|(with_reducible first|exact Xm.out|refine sb ?_ fun _=>?_)|split|dsimp only⟩⟩
theorem Um {a b:Option Addr}:Sim P S (fun _=>True) (samePointer a b):=Xm.out
instance {t:TypeId}:Xm P S (typeStr t):=⟨⟨by
 unfold typeStr
 repeat' first|(with_reducible first|exact Xm.out|refine sb ?_ fun _=>?_)|split|dsimp only⟩⟩
theorem Qe:∀ (d:Nat) (t:TypeId) (x y:Value),Sim P S (fun _=>True) (Op.equalIn d t x y)
 | 0,_,_,_=>by unfold Op.equalIn;exact XC
 | d + 1,t,x,y=>by
  unfold Op.equalIn
  repeat' first|(with_reducible first|exact Qe d _ _ _|exact (QO.bind fun _ _=>Qe d _ _ _)|exact Xm.out|refine sb ?_ fun _=>?_|refine Zg ?_|refine Yb (fun _ _=>?_) _ _|refine Ya (fun _ _=>?_) _ _|refine Yz (fun _=>?_) _|refine Yh (fun _ _=>?_) _ _)|split|dsimp only
instance {d:Nat} {t:TypeId} {x y:Value}:Xm P S (Op.equalIn d t x y):=⟨⟨Qe d t x y⟩⟩
instance {t:TypeId} {x y:Value}:Xm P S (Op.equal t x y):=⟨⟨by
 unfold Op.equal
 repeat' first|(with_reducible first|exact Xm.out|refine sb ?_ fun _=>?_)|split|dsimp only⟩⟩
theorem Qw:∀ (d:Nat) (t:TypeId) (x y:Value),Sim P S (fun _=>True) (Op.eqGuardIn d t x y)
 | 0,_,_,_=>by unfold Op.eqGuardIn;exact XC
 | d + 1,t,x,y=>by
  unfold Op.eqGuardIn
  repeat' first|(with_reducible first|exact Qw d _ _ _|exact Xm.out|refine sb ?_ fun _=>?_|refine Zg ?_|refine Yb (fun _ _=>?_) _ _|refine Ya (fun _ _=>?_) _ _|refine Yz (fun _=>?_) _|refine Yh (fun _ _=>?_) _ _)|split|dsimp only
instance {d:Nat} {t:TypeId} {x y:Value}:Xm P S (Op.eqGuardIn d t x y):=⟨⟨Qw d t x y⟩⟩
instance {op:BinOp} {t:TypeId} {x y:Operand} {a b:Value}:Xm P S (eqGuard op t x y a b):=⟨⟨by
 unfold eqGuard
 repeat' first|(with_reducible first|exact Xm.out|refine sb ?_ fun _=>?_)|split|dsimp only⟩⟩
theorem W8 {op:BinOp} {t:TypeId} {x y:Operand} {a b:Value}:Sim P S (fun _=>True) (eqGuard op t x y a b):=Xm.out
instance {ts:Array TypeId} {t:TypeId} {a:Array Value}:Xm P S (Builtin.unsafeAdd_ ts t a):=⟨⟨by
 unfold Builtin.unsafeAdd_
 rcases a with ⟨_|⟨a1,_|⟨a2,_|⟨a3,l⟩⟩⟩⟩
 ·exact Xu
 ·exact Xu
 rotate_left
 ·exact Xu
 cases a1<;>try exact Xu
 refine Sim.bind (s:=asInt a2) (N:=fun _=>True) ZQ fun n _=>?_
 repeat' first|(with_reducible first|exact Xm.out|refine sb ?_ fun _=>?_)|split|dsimp only⟩⟩
instance {t:TypeId} {x y:Value}:Xm P S (movedNumber t x y):=⟨⟨by
 unfold movedNumber
 repeat' first|(with_reducible first|exact Xm.out|refine sb ?_ fun _=>?_)|split|dsimp only⟩⟩
instance {t:TypeId} {x y:Value}:Xm P S (movedPointer t x y):=⟨⟨by
 unfold movedPointer
 repeat' first|(with_reducible first|exact Xm.out|refine sb ?_ fun _=>?_)|split|dsimp only⟩⟩
instance {a b:Addr}:Xm P S (Op.twoPlaces a b):=⟨⟨by
 unfold Op.twoPlaces
 repeat' first|(with_reducible first|exact Xm.out|refine sb ?_ fun _=>?_)|split|dsimp only⟩⟩
instance {k:IntKind} {a b:Addr}:Xm P S (Op.addrSub k a b):=⟨⟨by
 unfold Op.addrSub
 repeat' first|(with_reducible first|exact Xm.out|refine sb ?_ fun _=>?_)|split|dsimp only⟩⟩
instance {op:BinOp} {a b:Addr}:Xm P S (Op.addrCmp op a b):=⟨⟨by
 unfold Op.addrCmp
 repeat' first|(with_reducible first|exact Xm.out|refine sb ?_ fun _=>?_)|split|dsimp only⟩⟩
instance {k:IntKind} {a:Addr} {n:Int}:Xm P S (Op.addrMod k a n):=⟨⟨by
 unfold Op.addrMod
 repeat' first|(with_reducible first|exact Xm.out|refine sb ?_ fun _=>?_)|split|dsimp only⟩⟩
instance {op:BinOp} {t:TypeId} {x y:Value}:Xm P S (binOp op t x y):=⟨⟨by
 unfold binOp
 repeat' first|(with_reducible first|exact Xm.out|refine sb ?_ fun _=>?_)|split|dsimp only⟩⟩
theorem Xb7 {op:BinOp} {t:TypeId} {x y:Value}:Sim P S (fun _=>True) (binOp op t x y):=Xm.out
end
end Go.Proofs.Ytdhnggjmegilkaa
