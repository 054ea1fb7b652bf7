/- The model's operations, on: each meets itself in a world that is frozen at more places. Printed by gen_gog.py. -/
import Derived.Test.YtdgfekplfipekaaVGoF
set_option linter.all false
set_option maxRecDepth 100000
set_option maxHeartbeats 16000000
namespace Go.Proofs.Ytdgfekplfipekaa
open Go.Conc
section
variable {P:Program} {S:YK} {α σ:Type}
theorem UA {r:Nat}:Sim P S (fun _=>True) (getObj r):=Sim.mono Z0 fun _ _=>trivial
theorem ZO:Sim P S (fun _=>True) program:=Sim.mono YL fun _ _=>trivial
theorem Xbk {a:Addr} {n:Nat}:Sim P S (fun _=>True) (freeze a n):=fun x w hT=>⟨0,fun _=>0,.inr ⟨.ok () (x.freeze a n),by
 show Fits S _ w _ (.ok () (w.freeze a n));refine .ok ⟨rfl,trivial⟩ (hT.freeze a n) ?_ ?_
 ·unfold World.freeze;split<;>rfl
 ·unfold World.freeze;split<;>simp,fun τ d _=>by
 show Result.ok () ((under x τ d).freeze a n)=.ok () (under (x.freeze a n) τ d)
 congr 1
 unfold World.freeze;split<;>rfl,#[],fun es=>by show es=_;simp,by simp⟩⟩
theorem Zk {β:Type} {f:α→β} {s:Sem α} (h:Sim P S (fun _=>True) s):Sim P S (fun _=>True) (f <$> s):=Sim.bind h fun _ _=>Sim.pure trivial
theorem UB {f:α→σ→Sem (ForInStep σ)} (h:∀ a s,Sim P S (fun _=>True) (f a s)):∀ (l:List α) (s:σ),Sim P S (fun _=>True) (forIn l s f)
 | [],s=>by simp only [List.forIn_nil];exact Sim.pure trivial
 | a::l,s=>by
  rw [List.forIn_cons];refine Sim.bind (h a s) fun r _=>?_;cases r with
  | done b=>exact Sim.pure trivial
  | yield b=>exact UB h l b
theorem Yi {f:α→σ→Sem (ForInStep σ)} (h:∀ a s,Sim P S (fun _=>True) (f a s)) (l:Array α) (s:σ):Sim P S (fun _=>True) (forIn l s f):=by
 rw [← Array.forIn_toList];exact UB h _ _
theorem Yh {f:Nat→σ→Sem (ForInStep σ)} (h:∀ a s,Sim P S (fun _=>True) (f a s)) (l:Std.Legacy.Range) (s:σ):Sim P S (fun _=>True) (forIn l s f):=by
 rw [Std.Legacy.Range.forIn_eq_forIn_range'];exact UB h _ _
theorem XaH {f:α→Sem σ} (h:∀ a,Sim P S (fun _=>True) (f a)):∀ l:List α,Sim P S (fun _=>True) (l.mapM f)
 | []=>by rw [List.mapM_nil];exact Sim.pure trivial
 | a::l=>by
  rw [List.mapM_cons];exact (h a).bind fun _ _=>(XaH h l).bind fun _ _=>Sim.pure trivial
theorem YF {f:α→Sem σ} (h:∀ a,Sim P S (fun _=>True) (f a)) (l:Array α):Sim P S (fun _=>True) (l.mapM f):=by
 rw [Array.mapM_eq_mapM_toList];exact (XaH h l.toList).bind fun _ _=>Sim.pure trivial
theorem Yn {f:σ→α→Sem σ} (h:∀ s a,Sim P S (fun _=>True) (f s a)):∀ (l:List α) (s:σ),Sim P S (fun _=>True) (l.foldlM f s)
 | [],s=>by rw [List.foldlM_nil];exact Sim.pure trivial
 | a::l,s=>by rw [List.foldlM_cons];exact (h s a).bind fun _ _=>Yn h l _
structure XgF (P:Program) (S:YK) {α:Type} (s:Sem α):Type where
 out:Sim P S (fun _=>True) s
abbrev Xn (P:Program) (S:YK) {α:Type} (s:Sem α):Prop:=Nonempty (XgF P S s)
theorem Xn.out {s:Sem α} [h:Xn P S s]:Sim P S (fun _=>True) s:=h.elim fun a=>a.out
theorem sb {β:Type} {s:Sem α} {f:α→Sem β} (h:Sim P S (fun _=>True) s) (k:∀ a,Sim P S (fun _=>True) (f a)):Sim P S (fun _=>True) (s >>= f):=Sim.bind (N:=fun _=>True) h fun a _=>k a
instance {a:α}:Xn P S (pure a:Sem α):=⟨⟨Sim.pure trivial⟩⟩
instance {s:String}:Xn P S (stuck s:Sem α):=⟨⟨Xv⟩⟩
instance {u:Unsupported}:Xn P S (unsupported u:Sem α):=⟨⟨XB⟩⟩
instance {v:Value}:Xn P S (goPanic v:Sem α):=⟨⟨YV⟩⟩
instance {e:RuntimeError}:Xn P S (runtimePanic e:Sem α):=⟨⟨Yy⟩⟩
instance {r:Nat}:Xn P S (getObj r):=⟨⟨UA⟩⟩
instance:Xn P S program:=⟨⟨ZO⟩⟩
instance {a:Addr} {n:Nat}:Xn P S (freeze a n):=⟨⟨Xbk⟩⟩
instance {a:Addr} {vs:List Value} {i:Nat}:Xn P S (storeCells a vs i):=⟨⟨YR vs i⟩⟩
instance {a:Addr} {m:Mode}:Xn P S (load a m):=⟨⟨Ud⟩⟩
instance {a:Addr} {v:Value} {m:Mode}:Xn P S (store a v m):=⟨⟨Zn⟩⟩
instance {o:Obj}:Xn P S (newObj o):=⟨⟨VF⟩⟩
instance {r:Nat}:Xn P S (shape r):=⟨⟨Zc⟩⟩
instance {q:Question}:Xn P S (choose q):=⟨⟨QQ⟩⟩
instance {n:Nat}:Xn P S (askRoom n):=⟨⟨W6⟩⟩
instance {t:TypeId}:Xn P S (typeInfo t):=⟨⟨YD⟩⟩
instance {t:TypeId}:Xn P S (underlying t):=⟨⟨X1⟩⟩
instance {t:TypeId}:Xn P S (zeroValue t):=⟨⟨VC⟩⟩
instance {t:TypeId}:Xn P S (sizeOf t):=⟨⟨ZZ⟩⟩
instance {t:TypeId}:Xn P S (isAgg t):=⟨⟨Uz⟩⟩
instance {a:Addr} {n:Nat}:Xn P S (loadCells a n):=⟨⟨Qv⟩⟩
instance {t:TypeId} {a:Addr}:Xn P S (loadVar t a):=⟨⟨Uy⟩⟩
instance {t:TypeId} {a:Addr} {v:Value}:Xn P S (storeVar t a v):=⟨⟨V9⟩⟩
instance {t:TypeId} {c:Array Value}:Xn P S (newRow t c):=⟨⟨Vg⟩⟩
instance {t:TypeId} {v:Value}:Xn P S (newVar t v):=⟨⟨QM⟩⟩
instance {t:TypeId}:Xn P S (elemOf t):=⟨⟨QP⟩⟩
instance {t:TypeId} {c:Array Value} {n:Nat}:Xn P S (part t c n):=⟨⟨XaF⟩⟩
instance {r:Nat}:Xn P S (viewAt r):=⟨⟨QJ⟩⟩
instance {r:Nat}:Xn P S (numberAt r):=⟨⟨Wb⟩⟩
instance {r:Nat}:Xn P S (cellsIn r):=⟨⟨W4⟩⟩
instance {a:Addr}:Xn P S (noView a):=⟨⟨QL⟩⟩
instance {v:Value}:Xn P S (asBool v):=⟨⟨Vi⟩⟩
instance {v:Value}:Xn P S (asString v):=⟨⟨Wh⟩⟩
instance {v:Value}:Xn P S (asAgg v):=⟨⟨Xch⟩⟩
instance {v:Value}:Xn P S (asIntOf v):=⟨⟨UC⟩⟩
instance {v:Value}:Xn P S (asInt v):=⟨⟨ZS⟩⟩
instance {v:Value}:Xn P S (asAddr v):=⟨⟨YM⟩⟩
instance {a b:Addr}:Xn P S (sameAddr a b):=⟨⟨Wa⟩⟩
instance {a:Addr}:Xn P S (markStringish a):=⟨⟨by
 unfold markStringish
 repeat' first|(with_reducible first|exact Xn.out|refine sb ?_ fun _=>?_)|split|dsimp only⟩⟩
instance {a:Addr} {b:Bool}:Xn P S (asNumber a b):=⟨⟨by
 unfold asNumber
 repeat' first|(with_reducible first|exact Xn.out|refine sb ?_ fun _=>?_)|split|dsimp only⟩⟩
instance {a:Addr}:Xn P S (behindNumber a):=⟨⟨by
 unfold behindNumber
 repeat' first|(with_reducible first|exact Xn.out|refine sb ?_ fun _=>?_)|split|dsimp only⟩⟩
instance {a:Addr}:Xn P S (byteOf a):=⟨⟨by
 unfold byteOf
 repeat' first|(with_reducible first|exact Xn.out|refine sb ?_ fun _=>?_)|split|dsimp only⟩⟩
instance {a:Addr} {m n:Nat}:Xn P S (partAt a m n):=⟨⟨by
 unfold partAt
 repeat' first|(with_reducible first|exact Xn.out|refine sb ?_ fun _=>?_)|split|dsimp only⟩⟩
instance {a:Addr} {f:Field}:Xn P S (fieldPlace a f):=⟨⟨by
 unfold fieldPlace
 repeat' first|(with_reducible first|exact Xn.out|refine sb ?_ fun _=>?_)|split|dsimp only⟩⟩
instance {k:IntKind} {x y:Int} {c:BoundsCode}:Xn P S (boundsPanic (α:=α) k x y c):=⟨⟨by
 unfold boundsPanic
 repeat' first|(with_reducible first|exact Xn.out|refine sb ?_ fun _=>?_|refine Zk ?_|refine Yi (fun _ _=>?_) _ _|refine Yh (fun _ _=>?_) _ _|refine YF (fun _=>?_) _|refine Yn (fun _ _=>?_) _ _)|split|dsimp only⟩⟩
instance {op:BinOp} {k:IntKind} {x y:Int}:Xn P S (Op.intArith op k x y):=⟨⟨by
 unfold Op.intArith
 repeat' first|(with_reducible first|exact Xn.out|refine sb ?_ fun _=>?_)|split|dsimp only⟩⟩
theorem We {op:BinOp} {k:IntKind} {x y:Int}:Sim P S (fun _=>True) (Op.intArith op k x y):=Xn.out
instance {op:BinOp} {k:IntKind} {x y:Int}:Xn P S (Op.intDiv op k x y):=⟨⟨by
 unfold Op.intDiv
 repeat' first|(with_reducible first|exact Xn.out|refine sb ?_ fun _=>?_)|split|dsimp only⟩⟩
instance {op:BinOp} {k:IntKind} {x y:Int}:Xn P S (Op.intBits op k x y):=⟨⟨by
 unfold Op.intBits
 repeat' first|(with_reducible first|exact Xn.out|refine sb ?_ fun _=>?_)|split|dsimp only⟩⟩
instance {op:BinOp} {k j:IntKind} {x y:Int}:Xn P S (Op.shift op k x j y):=⟨⟨by
 unfold Op.shift
 repeat' first|(with_reducible first|exact Xn.out|refine sb ?_ fun _=>?_)|split|dsimp only⟩⟩
instance {op:BinOp} {x y:Int}:Xn P S (Op.intCmp op x y):=⟨⟨by
 unfold Op.intCmp
 repeat' first|(with_reducible first|exact Xn.out|refine sb ?_ fun _=>?_)|split|dsimp only⟩⟩
instance {op:BinOp} {x y:ByteArray}:Xn P S (Op.stringOp op x y):=⟨⟨by
 unfold Op.stringOp
 repeat' first|(with_reducible first|exact Xn.out|refine sb ?_ fun _=>?_)|split|dsimp only⟩⟩
instance {op:BinOp} {k:FloatKind} {x y:Nat}:Xn P S (Op.floatArith op k x y):=⟨⟨by
 unfold Op.floatArith
 repeat' first|(with_reducible first|exact Xn.out|refine sb ?_ fun _=>?_)|split|dsimp only⟩⟩
instance {op:BinOp} {k:FloatKind} {x y:Nat}:Xn P S (Op.floatCmp op k x y):=⟨⟨by
 unfold Op.floatCmp
 repeat' first|(with_reducible first|exact Xn.out|refine sb ?_ fun _=>?_)|split|dsimp only⟩⟩
instance {k j:FloatKind} {x:Nat}:Xn P S (Conv.floatToFloat k x j):=⟨⟨by
 unfold Conv.floatToFloat
 repeat' first|(with_reducible first|exact Xn.out|refine sb ?_ fun _=>?_)|split|dsimp only⟩⟩
instance {op:BinOp} {k:FloatKind} {x y:Nat}:Xn P S (Op.Complex.arith op k x y):=⟨⟨by
 unfold Op.Complex.arith
 repeat' first|(with_reducible first|exact Xn.out|refine sb ?_ fun _=>?_)|split|dsimp only⟩⟩
instance {op:BinOp} {k:FloatKind} {x y:Nat}:Xn P S (Op.Complex.cmp op k x y):=⟨⟨by
 unfold Op.Complex.cmp
 repeat' first|(with_reducible first|exact Xn.out|refine sb ?_ fun _=>?_)|split|dsimp only⟩⟩
instance {k j:FloatKind} {x:Nat}:Xn P S (Op.Complex.conv k x j):=⟨⟨by
 unfold Op.Complex.conv
 repeat' first|(with_reducible first|exact Xn.out|refine sb ?_ fun _=>?_)|split|dsimp only⟩⟩
instance {x y:Nat}:Xn P S (Op.Complex.add x y):=⟨⟨(Xn.out:Sim P S (fun _=>True) (Op.Complex.arith _ _ _ _))⟩⟩
instance {x y:Nat}:Xn P S (Op.Complex.sub x y):=⟨⟨(Xn.out:Sim P S (fun _=>True) (Op.Complex.arith _ _ _ _))⟩⟩
instance {x y:Nat}:Xn P S (Op.Complex.mul x y):=⟨⟨(Xn.out:Sim P S (fun _=>True) (Op.Complex.arith _ _ _ _))⟩⟩
instance {x y:Nat}:Xn P S (Op.Complex.quo x y):=⟨⟨(Xn.out:Sim P S (fun _=>True) (Op.Complex.arith _ _ _ _))⟩⟩
instance {a b c d:Nat}:Xn P S (Op.Complex.product a b c d):=⟨⟨by
 unfold Op.Complex.product
 repeat' first|(with_reducible first|exact Xn.out|refine sb ?_ fun _=>?_)|split|dsimp only⟩⟩
instance {s a b c d:Nat}:Xn P S (Op.Complex.corrected s a b c d):=⟨⟨by
 unfold Op.Complex.corrected
 repeat' first|(with_reducible first|exact Xn.out|refine sb ?_ fun _=>?_)|split|dsimp only⟩⟩
instance {a b c d:Nat}:Xn P S (Op.Complex.quotient a b c d):=⟨⟨by
 unfold Op.Complex.quotient
 repeat' first|(with_reducible first|exact Xn.out|refine sb ?_ fun _=>?_)|split|dsimp only⟩⟩
instance {op:BinOp} {k:FloatKind} {a b c d:Nat}:Xn P S (Op.complexOp op k a b c d):=⟨⟨by
 unfold Op.complexOp
 repeat' first|(with_reducible first|exact Xn.out|refine sb ?_ fun _=>?_)|split|dsimp only⟩⟩
instance {op:UnOp} {x:Value}:Xn P S (Op.unary op x):=⟨⟨by
 unfold Op.unary
 repeat' first|(with_reducible first|exact Xn.out|refine sb ?_ fun _=>?_)|split|dsimp only⟩⟩
theorem Xb7 {op:UnOp} {x:Value}:Sim P S (fun _=>True) (Op.unary op x):=Xn.out
instance {a b:Option Addr}:Xn P S (samePointer a b):=⟨⟨by
 unfold samePointer
 repeat' first|(with_reducible first|exact Xn.out|refine sb ?_ fun _=>?_)|split|dsimp only⟩⟩
theorem Uw {a b:Option Addr}:Sim P S (fun _=>True) (samePointer a b):=Xn.out
instance {t:TypeId}:Xn P S (typeStr t):=⟨⟨by
 unfold typeStr
 repeat' first|(with_reducible first|exact Xn.out|refine sb ?_ fun _=>?_)|split|dsimp only⟩⟩
theorem Qg:∀ (d:Nat) (t:TypeId) (x y:Value),Sim P S (fun _=>True) (Op.equalIn d t x y)
 | 0,_,_,_=>by unfold Op.equalIn;exact XB
 | d + 1,t,x,y=>by
  unfold Op.equalIn
  repeat' first|(with_reducible first|exact Qg d _ _ _|exact (QQ.bind fun _ _=>Qg d _ _ _)|exact Xn.out|refine sb ?_ fun _=>?_|refine Zk ?_|refine Yi (fun _ _=>?_) _ _|refine Yh (fun _ _=>?_) _ _|refine YF (fun _=>?_) _|refine Yn (fun _ _=>?_) _ _)|split|dsimp only
instance {d:Nat} {t:TypeId} {x y:Value}:Xn P S (Op.equalIn d t x y):=⟨⟨Qg d t x y⟩⟩
instance {t:TypeId} {x y:Value}:Xn P S (Op.equal t x y):=⟨⟨by
 unfold Op.equal
 repeat' first|(with_reducible first|exact Xn.out|refine sb ?_ fun _=>?_)|split|dsimp only⟩⟩
theorem Qw:∀ (d:Nat) (t:TypeId) (x y:Value),Sim P S (fun _=>True) (Op.eqGuardIn d t x y)
 | 0,_,_,_=>by unfold Op.eqGuardIn;exact XB
 | d + 1,t,x,y=>by
  unfold Op.eqGuardIn
  repeat' first|(with_reducible first|exact Qw d _ _ _|exact Xn.out|refine sb ?_ fun _=>?_|refine Zk ?_|refine Yi (fun _ _=>?_) _ _|refine Yh (fun _ _=>?_) _ _|refine YF (fun _=>?_) _|refine Yn (fun _ _=>?_) _ _)|split|dsimp only
instance {d:Nat} {t:TypeId} {x y:Value}:Xn P S (Op.eqGuardIn d t x y):=⟨⟨Qw d t x y⟩⟩
instance {op:BinOp} {t:TypeId} {x y:Operand} {a b:Value}:Xn P S (eqGuard op t x y a b):=⟨⟨by
 unfold eqGuard
 repeat' first|(with_reducible first|exact Xn.out|refine sb ?_ fun _=>?_)|split|dsimp only⟩⟩
theorem W2 {op:BinOp} {t:TypeId} {x y:Operand} {a b:Value}:Sim P S (fun _=>True) (eqGuard op t x y a b):=Xn.out
instance {ts:Array TypeId} {t:TypeId} {a:Array Value}:Xn P S (Builtin.unsafeAdd_ ts t a):=⟨⟨by
 unfold Builtin.unsafeAdd_;rcases a with ⟨_|⟨a1,_|⟨a2,_|⟨a3,l⟩⟩⟩⟩
 ·exact Xv
 ·exact Xv
 rotate_left
 ·exact Xv
 cases a1<;>try exact Xv
 refine Sim.bind (s:=asInt a2) (N:=fun _=>True) ZS fun n _=>?_
 repeat' first|(with_reducible first|exact Xn.out|refine sb ?_ fun _=>?_)|split|dsimp only⟩⟩
instance {t:TypeId} {x y:Value}:Xn P S (movedNumber t x y):=⟨⟨by
 unfold movedNumber
 repeat' first|(with_reducible first|exact Xn.out|refine sb ?_ fun _=>?_)|split|dsimp only⟩⟩
instance {t:TypeId} {x y:Value}:Xn P S (movedPointer t x y):=⟨⟨by
 unfold movedPointer
 repeat' first|(with_reducible first|exact Xn.out|refine sb ?_ fun _=>?_)|split|dsimp only⟩⟩
instance {a b:Addr}:Xn P S (Op.twoPlaces a b):=⟨⟨by
 unfold Op.twoPlaces
 repeat' first|(with_reducible first|exact Xn.out|refine sb ?_ fun _=>?_)|split|dsimp only⟩⟩
instance {k:IntKind} {a b:Addr}:Xn P S (Op.addrSub k a b):=⟨⟨by
 unfold Op.addrSub
 repeat' first|(with_reducible first|exact Xn.out|refine sb ?_ fun _=>?_)|split|dsimp only⟩⟩
instance {op:BinOp} {a b:Addr}:Xn P S (Op.addrCmp op a b):=⟨⟨by
 unfold Op.addrCmp
 repeat' first|(with_reducible first|exact Xn.out|refine sb ?_ fun _=>?_)|split|dsimp only⟩⟩
instance {k:IntKind} {a:Addr} {n:Int}:Xn P S (Op.addrMod k a n):=⟨⟨by
 unfold Op.addrMod
 repeat' first|(with_reducible first|exact Xn.out|refine sb ?_ fun _=>?_)|split|dsimp only⟩⟩
instance {op:BinOp} {t:TypeId} {x y:Value}:Xn P S (binOp op t x y):=⟨⟨by
 unfold binOp
 repeat' first|(with_reducible first|exact Xn.out|refine sb ?_ fun _=>?_)|split|dsimp only⟩⟩
theorem Xcf {op:BinOp} {t:TypeId} {x y:Value}:Sim P S (fun _=>True) (binOp op t x y):=Xn.out
end
section
variable {P:Program} {S:YK} {α σ:Type}
instance {t:TypeId} {s:ByteArray}:Xn P S (Conv.stringToBytes t s):=⟨⟨by
 unfold Conv.stringToBytes
 repeat' first|(with_reducible first|exact Xn.out|refine sb ?_ fun _=>?_)|split|dsimp only⟩⟩
instance {t:TypeId} {s:ByteArray}:Xn P S (Conv.stringToRunes t s):=⟨⟨by
 unfold Conv.stringToRunes
 repeat' first|(with_reducible first|exact Xn.out|refine sb ?_ fun _=>?_)|split|dsimp only⟩⟩
instance {v:Value}:Xn P S (Conv.bytesToString v):=⟨⟨by
 unfold Conv.bytesToString
 repeat' first|(with_reducible first|exact Xn.out|refine sb ?_ fun _=>?_|refine Zk ?_|refine Yi (fun _ _=>?_) _ _|refine Yh (fun _ _=>?_) _ _|refine YF (fun _=>?_) _|refine Yn (fun _ _=>?_) _ _)|split|dsimp only⟩⟩
instance {v:Value}:Xn P S (Conv.runesToString v):=⟨⟨by
 unfold Conv.runesToString
 repeat' first|(with_reducible first|exact Xn.out|refine sb ?_ fun _=>?_|refine Zk ?_|refine Yi (fun _ _=>?_) _ _|refine Yh (fun _ _=>?_) _ _|refine YF (fun _=>?_) _|refine Yn (fun _ _=>?_) _ _)|split|dsimp only⟩⟩
instance {k:IntKind} {n:Int}:Xn P S (Conv.intToInt k n):=⟨⟨by
 unfold Conv.intToInt
 repeat' first|(with_reducible first|exact Xn.out|refine sb ?_ fun _=>?_)|split|dsimp only⟩⟩
instance {k:FloatKind} {n:Int}:Xn P S (Conv.intToFloat k n):=⟨⟨by
 unfold Conv.intToFloat
 repeat' first|(with_reducible first|exact Xn.out|refine sb ?_ fun _=>?_)|split|dsimp only⟩⟩
instance {n:Int}:Xn P S (Conv.intToString n):=⟨⟨by
 unfold Conv.intToString
 repeat' first|(with_reducible first|exact Xn.out|refine sb ?_ fun _=>?_)|split|dsimp only⟩⟩
instance {j:FloatKind} {b:Nat} {k:IntKind}:Xn P S (Conv.floatToInt j b k):=⟨⟨by
 unfold Conv.floatToInt
 repeat' first|(with_reducible first|exact Xn.out|refine sb ?_ fun _=>?_)|split|dsimp only⟩⟩
instance {j k:FloatKind} {a b:Nat}:Xn P S (Conv.complexToComplex j a b k):=⟨⟨by
 unfold Conv.complexToComplex
 repeat' first|(with_reducible first|exact Xn.out|refine sb ?_ fun _=>?_)|split|dsimp only⟩⟩
instance {a:Addr}:Xn P S (backFromNumber a):=⟨⟨by
 unfold backFromNumber
 repeat' first|(with_reducible first|exact Xn.out|refine sb ?_ fun _=>?_)|split|dsimp only⟩⟩
instance {a:Addr} {t:TypeId} {n:Nat}:Xn P S (variablesAt a t n):=⟨⟨by
 unfold variablesAt
 repeat' first|(with_reducible first|exact Xn.out|refine sb ?_ fun _=>?_)|split|dsimp only⟩⟩
instance {a:Addr}:Xn P S (Conv.seenAt a):=⟨⟨by
 unfold Conv.seenAt
 repeat' first|(with_reducible first|exact Xn.out|refine sb ?_ fun _=>?_)|split|dsimp only⟩⟩
instance {s t:TypeId} {x:Value}:Xn P S (Conv.unsafePointer s t x):=⟨⟨by
 unfold Conv.unsafePointer
 repeat' first|(with_reducible first|exact Xn.out|refine sb ?_ fun _=>?_)|split|dsimp only⟩⟩
instance {s t:TypeId} {x:Value}:Xn P S (convert s t x):=⟨⟨by
 unfold convert
 repeat' first|(with_reducible first|exact Xn.out|refine sb ?_ fun _=>?_)|split|dsimp only⟩⟩
theorem W3 {s t:TypeId} {x:Value}:Sim P S (fun _=>True) (convert s t x):=Xn.out
instance {t:TypeId} {b:Bool} {x:Value}:Xn P S (Instr.alloc t b x):=⟨⟨by
 unfold Instr.alloc
 repeat' first|(with_reducible first|exact Xn.out|refine sb ?_ fun _=>?_)|split|dsimp only⟩⟩
theorem Xci {t:TypeId} {b:Bool} {x:Value}:Sim P S (fun _=>True) (Instr.alloc t b x):=Xn.out
instance {t:TypeId} {x:Value}:Xn P S (Instr.box t x):=⟨⟨by
 unfold Instr.box
 repeat' first|(with_reducible first|exact Xn.out|refine sb ?_ fun _=>?_)|split|dsimp only⟩⟩
theorem XeT {t:TypeId} {x:Value}:Sim P S (fun _=>True) (Instr.box t x):=Xn.out
instance {t:TypeId} {x:Array (Nat × Value)}:Xn P S (Instr.build t x):=⟨⟨by
 unfold Instr.build
 repeat' first|(with_reducible first|exact Xn.out|refine sb ?_ fun _=>?_|refine Zk ?_|refine Yi (fun _ _=>?_) _ _|refine Yh (fun _ _=>?_) _ _|refine YF (fun _=>?_) _|refine Yn (fun _ _=>?_) _ _)|split|dsimp only⟩⟩
theorem Xce {t:TypeId} {x:Array (Nat × Value)}:Sim P S (fun _=>True) (Instr.build t x):=Xn.out
instance {t:TypeId} {n:Nat} {x:Array (Nat × Value)}:Xn P S (Instr.buildSlice t n x):=⟨⟨by
 unfold Instr.buildSlice
 repeat' first|(with_reducible first|exact Xn.out|refine sb ?_ fun _=>?_)|split|dsimp only⟩⟩
theorem U5 {t:TypeId} {n:Nat} {x:Array (Nat × Value)}:Sim P S (fun _=>True) (Instr.buildSlice t n x):=Xn.out
instance {x:Value}:Xn P S (Instr.sureAddr x):=⟨⟨by
 unfold Instr.sureAddr
 repeat' first|(with_reducible first|exact Xn.out|refine sb ?_ fun _=>?_)|split|dsimp only⟩⟩
instance {t:TypeId} {x:Value}:Xn P S (Instr.loadAt t x):=⟨⟨by
 unfold Instr.loadAt
 repeat' first|(with_reducible first|exact Xn.out|refine sb ?_ fun _=>?_)|split|dsimp only⟩⟩
theorem Xbj {t:TypeId} {x:Value}:Sim P S (fun _=>True) (Instr.loadAt t x):=Xn.out
instance {t:TypeId} {x y:Value}:Xn P S (Instr.storeAt t x y):=⟨⟨by
 unfold Instr.storeAt
 repeat' first|(with_reducible first|exact Xn.out|refine sb ?_ fun _=>?_)|split|dsimp only⟩⟩
theorem WV {t:TypeId} {x y:Value}:Sim P S (fun _=>True) (Instr.storeAt t x y):=Xn.out
instance {t:TypeId} {x:Value} {f:Nat}:Xn P S (Instr.fieldAt t x f):=⟨⟨by
 unfold Instr.fieldAt
 repeat' first|(with_reducible first|exact Xn.out|refine sb ?_ fun _=>?_)|split|dsimp only⟩⟩
theorem W0 {t:TypeId} {x:Value} {f:Nat}:Sim P S (fun _=>True) (Instr.fieldAt t x f):=Xn.out
instance {t:TypeId} {x i:Value}:Xn P S (Instr.indexAt t x i):=⟨⟨by
 unfold Instr.indexAt
 repeat' first|(with_reducible first|exact Xn.out|refine sb ?_ fun _=>?_)|split|dsimp only⟩⟩
theorem WY {t:TypeId} {x i:Value}:Sim P S (fun _=>True) (Instr.indexAt t x i):=Xn.out
instance {x:Value} {y:Nat} {c:BoundsCode}:Xn P S (Instr.sliceBound x y c):=⟨⟨by
 unfold Instr.sliceBound
 repeat' first|(with_reducible first|exact Xn.out|refine sb ?_ fun _=>?_)|split|dsimp only⟩⟩
instance {b:Bool} {m n:Nat} {x y z:Option Value}:Xn P S (Instr.sliceBounds b m n x y z):=⟨⟨by
 unfold Instr.sliceBounds
 repeat' first|(with_reducible first|exact Xn.out|refine sb ?_ fun _=>?_)|split|dsimp only⟩⟩
instance {t:TypeId} {v:Value} {x y z:Option Value}:Xn P S (Instr.slice t v x y z):=⟨⟨by
 unfold Instr.slice
 repeat' first|(with_reducible first|exact Xn.out|refine sb ?_ fun _=>?_)|split|dsimp only⟩⟩
instance {t:TypeId} {v:Value} {x y z:Option Value}:Xn P S (Instr.sliceAt t v x y z):=⟨⟨by
 unfold Instr.sliceAt
 repeat' first|(with_reducible first|exact Xn.out|refine sb ?_ fun _=>?_)|split|dsimp only⟩⟩
theorem WW {t:TypeId} {v:Value} {x y z:Option Value}:Sim P S (fun _=>True) (Instr.sliceAt t v x y z):=Xn.out
instance {t:TypeId} {v:Value}:Xn P S (Instr.arrayAt t v):=⟨⟨by
 unfold Instr.arrayAt
 repeat' first|(with_reducible first|exact Xn.out|refine sb ?_ fun _=>?_)|split|dsimp only⟩⟩
theorem W7 {t:TypeId} {v:Value}:Sim P S (fun _=>True) (Instr.arrayAt t v):=Xn.out
instance {g:Nat}:Xn P S (Instr.waits g):=⟨⟨by
 unfold Instr.waits
 repeat' first|(with_reducible first|exact Xn.out|refine sb ?_ fun _=>?_)|split|dsimp only⟩⟩
instance {t:TypeId} {v:Value}:Xn P S (Instr.makeInterface t v):=⟨⟨by
 unfold Instr.makeInterface
 repeat' first|(with_reducible first|exact Xn.out|refine sb ?_ fun _=>?_)|split|dsimp only⟩⟩
theorem QN {t:TypeId} {v:Value}:Sim P S (fun _=>True) (Instr.makeInterface t v):=Xn.out
instance {f:Fn} {a b:Array Value}:Xn P S (Instr.makeFunc f a b):=⟨⟨by
 unfold Instr.makeFunc
 repeat' first|(with_reducible first|exact Xn.out|refine sb ?_ fun _=>?_)|split|dsimp only⟩⟩
theorem Wc {f:Fn} {a b:Array Value}:Sim P S (fun _=>True) (Instr.makeFunc f a b):=Xn.out
instance {t:TypeId} {r:Option Value}:Xn P S (Instr.makeMap t r):=⟨⟨by
 unfold Instr.makeMap
 repeat' first|(with_reducible first|exact Xn.out|refine sb ?_ fun _=>?_)|split|dsimp only⟩⟩
theorem WX {t:TypeId} {r:Option Value}:Sim P S (fun _=>True) (Instr.makeMap t r):=Xn.out
instance {t:TypeId} {l c:Value}:Xn P S (Instr.makeSlice t l c):=⟨⟨by
 unfold Instr.makeSlice
 repeat' first|(with_reducible first|exact Xn.out|refine sb ?_ fun _=>?_)|split|dsimp only⟩⟩
theorem VG {t:TypeId} {l c:Value}:Sim P S (fun _=>True) (Instr.makeSlice t l c):=Xn.out
instance {t:TypeId} {x:Value} {f:Nat}:Xn P S (Instr.field t x f):=⟨⟨by
 unfold Instr.field
 repeat' first|(with_reducible first|exact Xn.out|refine sb ?_ fun _=>?_)|split|dsimp only⟩⟩
theorem Xcc {t:TypeId} {x:Value} {f:Nat}:Sim P S (fun _=>True) (Instr.field t x f):=Xn.out
instance {t:TypeId} {x i:Value}:Xn P S (Instr.index t x i):=⟨⟨by
 unfold Instr.index
 repeat' first|(with_reducible first|exact Xn.out|refine sb ?_ fun _=>?_)|split|dsimp only⟩⟩
theorem Xcb {t:TypeId} {x i:Value}:Sim P S (fun _=>True) (Instr.index t x i):=Xn.out
theorem ZR {e:Bool}:∀ (d:Nat) (t:TypeId) (x:Value),Sim P S (fun _=>True) (Instr.checkKey e d t x)
 | 0,_,_=>by unfold Instr.checkKey;exact XB
 | d + 1,t,x=>by
  unfold Instr.checkKey
  repeat' first|(with_reducible first|exact ZR d _ _|exact Xn.out|refine sb ?_ fun _=>?_|refine Zk ?_|refine Yi (fun _ _=>?_) _ _|refine Yh (fun _ _=>?_) _ _|refine YF (fun _=>?_) _|refine Yn (fun _ _=>?_) _ _)|split|dsimp only
instance {e:Bool} {d:Nat} {t:TypeId} {x:Value}:Xn P S (Instr.checkKey e d t x):=⟨⟨ZR d t x⟩⟩
theorem Z9 {t:TypeId} {k:Value}:∀ (l:List MapEntry) (i:Nat),Sim P S (fun _=>True) (Instr.findAsking t k l i)
 | [],_=>Sim.pure trivial
 | e::es,i=>by
  unfold Instr.findAsking
  repeat' first|(with_reducible first|exact Z9 es _|exact Xn.out|refine sb ?_ fun _=>?_|refine Zk ?_|refine Yi (fun _ _=>?_) _ _|refine Yh (fun _ _=>?_) _ _|refine YF (fun _=>?_) _|refine Yn (fun _ _=>?_) _ _)|split|dsimp only
instance {t:TypeId} {k:Value} {l:List MapEntry} {i:Nat}:Xn P S (Instr.findAsking t k l i):=⟨⟨Z9 l i⟩⟩
instance {t:TypeId} {k:Value} {l:List MapEntry}:Xn P S (Instr.findKey t k l):=⟨⟨by
 unfold Instr.findKey
 repeat' first|(with_reducible first|exact Xn.out|refine sb ?_ fun _=>?_)|split|dsimp only⟩⟩
theorem WZ {t:TypeId} {k:Value} {l:List MapEntry}:Sim P S (fun _=>True) (Instr.findKey t k l):=Xn.out
instance {t:TypeId} {x i:Value} {b:Bool}:Xn P S (Instr.lookup t x i b):=⟨⟨by
 unfold Instr.lookup
 repeat' first|(with_reducible first|exact Xn.out|refine sb ?_ fun _=>?_)|split|dsimp only⟩⟩
theorem Xbi {t:TypeId} {x i:Value} {b:Bool}:Sim P S (fun _=>True) (Instr.lookup t x i b):=Xn.out
instance {x y:Value}:Xn P S (Instr.keyThatStays x y):=⟨⟨by
 unfold Instr.keyThatStays
 repeat' first|(with_reducible first|exact Xn.out|refine sb ?_ fun _=>?_)|split|dsimp only⟩⟩
theorem Q8 {x y:Value}:Sim P S (fun _=>True) (Instr.keyThatStays x y):=Xn.out
theorem Yd (hS:∀ r,¬ S.objs r) {t:TypeId} {m k v:Value}:Sim P S (fun _=>True) (Instr.mapUpdate t m k v):=by
 unfold Instr.mapUpdate
 repeat' first|(with_reducible first|exact Xn.out|exact YE (hS _)|refine sb ?_ fun _=>?_)|split|dsimp only
theorem YW (hS:∀ r,¬ S.objs r) {t:TypeId} {m k:Value}:Sim P S (fun _=>True) (Instr.mapEntry t m k):=by
 unfold Instr.mapEntry
 repeat' first|(with_reducible first|exact Xn.out|exact YE (hS _)|exact Yd hS|refine sb ?_ fun _=>?_)|split|dsimp only
theorem YS (hS:∀ r,¬ S.objs r) {t:TypeId} {m s v:Value}:Sim P S (fun _=>True) (Instr.entryStore t m s v):=by
 unfold Instr.entryStore
 repeat' first|(with_reducible first|exact Xn.out|exact YE (hS _)|exact Yd hS|exact YW hS|refine sb ?_ fun _=>?_)|split|dsimp only
instance {t:TypeId} {x:Value}:Xn P S (Instr.range t x):=⟨⟨by
 unfold Instr.range
 repeat' first|(with_reducible first|exact Xn.out|refine sb ?_ fun _=>?_)|split|dsimp only⟩⟩
theorem Xb9 {t:TypeId} {x:Value}:Sim P S (fun _=>True) (Instr.range t x):=Xn.out
theorem VE (hS:∀ r,¬ S.objs r) {x:Value} {b:Bool} {t:TypeId}:Sim P S (fun _=>True) (Instr.next x b t):=by
 unfold Instr.next
 repeat' first|(with_reducible first|exact Xn.out|exact YE (hS _)|exact Yd hS|exact YW hS|exact YS hS|refine sb ?_ fun _=>?_)|split|dsimp only
instance {x:Value}:Xn P S (Instr.entry x):=⟨⟨by
 unfold Instr.entry
 repeat' first|(with_reducible first|exact Xn.out|refine sb ?_ fun _=>?_)|split|dsimp only⟩⟩
theorem Xcd {x:Value}:Sim P S (fun _=>True) (Instr.entry x):=Xn.out
instance {x:Value} {s t:TypeId} {b:Bool}:Xn P S (Instr.typeAssert x s t b):=⟨⟨by
 unfold Instr.typeAssert
 repeat' first|(with_reducible first|exact Xn.out|refine sb ?_ fun _=>?_)|split|dsimp only⟩⟩
theorem U3 {x:Value} {s t:TypeId} {b:Bool}:Sim P S (fun _=>True) (Instr.typeAssert x s t b):=Xn.out
instance {x:Value} {i:Nat}:Xn P S (Instr.extract x i):=⟨⟨by
 unfold Instr.extract
 repeat' first|(with_reducible first|exact Xn.out|refine sb ?_ fun _=>?_)|split|dsimp only⟩⟩
theorem W1 {x:Value} {i:Nat}:Sim P S (fun _=>True) (Instr.extract x i):=Xn.out
instance {a:Addr} {n:Nat}:Xn P S (Builtin.holdsCells a n):=⟨⟨by
 unfold Builtin.holdsCells
 repeat' first|(with_reducible first|exact Xn.out|refine sb ?_ fun _=>?_)|split|dsimp only⟩⟩
instance {x:Value}:Xn P S (Builtin.lenOf x):=⟨⟨by
 unfold Builtin.lenOf
 repeat' first|(with_reducible first|exact Xn.out|refine sb ?_ fun _=>?_)|split|dsimp only⟩⟩
instance {m n:Nat} {x:Value}:Xn P S (Builtin.firstCells m n x):=⟨⟨by
 unfold Builtin.firstCells
 repeat' first|(with_reducible first|exact Xn.out|refine sb ?_ fun _=>?_)|split|dsimp only⟩⟩
instance {ts:Array TypeId} {t:TypeId} {a:Array Value}:Xn P S (Builtin.cap_ ts t a):=⟨⟨by
 unfold Builtin.cap_
 repeat' first|(with_reducible first|exact Xn.out|refine sb ?_ fun _=>?_)|split|dsimp only⟩⟩
theorem XeS {ts:Array TypeId} {t:TypeId} {a:Array Value}:Sim P S (fun _=>True) (Builtin.cap_ ts t a):=Xn.out
instance {ts:Array TypeId} {t:TypeId} {a:Array Value}:Xn P S (Builtin.len_ ts t a):=⟨⟨by
 unfold Builtin.len_
 repeat' first|(with_reducible first|exact Xn.out|refine sb ?_ fun _=>?_)|split|dsimp only⟩⟩
theorem XeR {ts:Array TypeId} {t:TypeId} {a:Array Value}:Sim P S (fun _=>True) (Builtin.len_ ts t a):=Xn.out
instance {ts:Array TypeId} {t:TypeId} {a:Array Value}:Xn P S (Builtin.copy_ ts t a):=⟨⟨by
 unfold Builtin.copy_
 repeat' first|(with_reducible first|exact Xn.out|refine sb ?_ fun _=>?_)|split|dsimp only⟩⟩
theorem XdK {ts:Array TypeId} {t:TypeId} {a:Array Value}:Sim P S (fun _=>True) (Builtin.copy_ ts t a):=Xn.out
instance {x y:Value}:Xn P S (Builtin.max2 x y):=⟨⟨by
 unfold Builtin.max2
 repeat' first|(with_reducible first|exact Xn.out|refine sb ?_ fun _=>?_)|split|dsimp only⟩⟩
instance {ts:Array TypeId} {t:TypeId} {a:Array Value}:Xn P S (Builtin.max_ ts t a):=⟨⟨by
 unfold Builtin.max_
 repeat' first|(with_reducible first|exact Xn.out|refine sb ?_ fun _=>?_|refine Zk ?_|refine Yi (fun _ _=>?_) _ _|refine Yh (fun _ _=>?_) _ _|refine YF (fun _=>?_) _|refine Yn (fun _ _=>?_) _ _)|split|dsimp only⟩⟩
theorem XeQ {ts:Array TypeId} {t:TypeId} {a:Array Value}:Sim P S (fun _=>True) (Builtin.max_ ts t a):=Xn.out
instance {x y:Value}:Xn P S (Builtin.min2 x y):=⟨⟨by
 unfold Builtin.min2
 repeat' first|(with_reducible first|exact Xn.out|refine sb ?_ fun _=>?_)|split|dsimp only⟩⟩
instance {ts:Array TypeId} {t:TypeId} {a:Array Value}:Xn P S (Builtin.min_ ts t a):=⟨⟨by
 unfold Builtin.min_
 repeat' first|(with_reducible first|exact Xn.out|refine sb ?_ fun _=>?_|refine Zk ?_|refine Yi (fun _ _=>?_) _ _|refine Yh (fun _ _=>?_) _ _|refine YF (fun _=>?_) _|refine Yn (fun _ _=>?_) _ _)|split|dsimp only⟩⟩
theorem XeP {ts:Array TypeId} {t:TypeId} {a:Array Value}:Sim P S (fun _=>True) (Builtin.min_ ts t a):=Xn.out
theorem Vh (hS:∀ r,¬ S.objs r) {ts:Array TypeId} {t:TypeId} {a:Array Value}:Sim P S (fun _=>True) (Builtin.delete_ ts t a):=by
 unfold Builtin.delete_
 repeat' first|(with_reducible first|exact Xn.out|exact YE (hS _)|exact Yd hS|exact YW hS|exact YS hS|exact VE hS|refine sb ?_ fun _=>?_)|split|dsimp only
