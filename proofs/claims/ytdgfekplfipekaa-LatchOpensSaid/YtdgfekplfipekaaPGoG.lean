/- The model's operations: each meets itself in a world that is frozen at more places. Printed by gen_gog.py. -/
import Derived.Test.YtdgfekplfipekaaPGoF
set_option linter.all false
set_option maxRecDepth 100000
set_option maxHeartbeats 16000000
namespace Go.Proofs.Ytdgfekplfipekaa
open Go.Conc
section
variable {P:Program} {S:YK} {α σ:Type}
theorem UA {r:Nat}:Sim P S (fun _=>True) (getObj r):=Sim.mono Z0 fun _ _=>trivial
theorem ZO:Sim P S (fun _=>True) program:=Sim.mono YL fun _ _=>trivial
theorem Xbk {a:Addr} {n:Nat}:Sim P S (fun _=>True) (freeze a n):=fun x w hT=>⟨0,fun _=>0,.inr ⟨.ok () (x.freeze a n),by
 show Fits S _ w _ (.ok () (w.freeze a n));refine .ok ⟨rfl,trivial⟩ (hT.freeze a n) ?_ ?_
 ·unfold World.freeze;split<;>rfl
 ·unfold World.freeze;split<;>simp,fun τ d _=>by
 show Result.ok () ((under x τ d).freeze a n)=.ok () (under (x.freeze a n) τ d)
 congr 1
 unfold World.freeze;split<;>rfl,#[],fun es=>by show es=_;simp,by simp⟩⟩
theorem Zk {β:Type} {f:α→β} {s:Sem α} (h:Sim P S (fun _=>True) s):Sim P S (fun _=>True) (f <$> s):=Sim.bind h fun _ _=>Sim.pure trivial
theorem UB {f:α→σ→Sem (ForInStep σ)} (h:∀ a s,Sim P S (fun _=>True) (f a s)):∀ (l:List α) (s:σ),Sim P S (fun _=>True) (forIn l s f)
 | [],s=>by simp only [List.forIn_nil];exact Sim.pure trivial
 | a::l,s=>by
  rw [List.forIn_cons];refine Sim.bind (h a s) fun r _=>?_;cases r with
  | done b=>exact Sim.pure trivial
  | yield b=>exact UB h l b
theorem Yi {f:α→σ→Sem (ForInStep σ)} (h:∀ a s,Sim P S (fun _=>True) (f a s)) (l:Array α) (s:σ):Sim P S (fun _=>True) (forIn l s f):=by
 rw [← Array.forIn_toList];exact UB h _ _
theorem Yh {f:Nat→σ→Sem (ForInStep σ)} (h:∀ a s,Sim P S (fun _=>True) (f a s)) (l:Std.Legacy.Range) (s:σ):Sim P S (fun _=>True) (forIn l s f):=by
 rw [Std.Legacy.Range.forIn_eq_forIn_range'];exact UB h _ _
theorem XaH {f:α→Sem σ} (h:∀ a,Sim P S (fun _=>True) (f a)):∀ l:List α,Sim P S (fun _=>True) (l.mapM f)
 | []=>by rw [List.mapM_nil];exact Sim.pure trivial
 | a::l=>by
  rw [List.mapM_cons];exact (h a).bind fun _ _=>(XaH h l).bind fun _ _=>Sim.pure trivial
theorem YF {f:α→Sem σ} (h:∀ a,Sim P S (fun _=>True) (f a)) (l:Array α):Sim P S (fun _=>True) (l.mapM f):=by
 rw [Array.mapM_eq_mapM_toList];exact (XaH h l.toList).bind fun _ _=>Sim.pure trivial
theorem Yn {f:σ→α→Sem σ} (h:∀ s a,Sim P S (fun _=>True) (f s a)):∀ (l:List α) (s:σ),Sim P S (fun _=>True) (l.foldlM f s)
 | [],s=>by rw [List.foldlM_nil];exact Sim.pure trivial
 | a::l,s=>by rw [List.foldlM_cons];exact (h s a).bind fun _ _=>Yn h l _
structure XgF (P:Program) (S:YK) {α:Type} (s:Sem α):Type where
 out:Sim P S (fun _=>True) s
abbrev Xn (P:Program) (S:YK) {α:Type} (s:Sem α):Prop:=Nonempty (XgF P S s)
theorem Xn.out {s:Sem α} [h:Xn P S s]:Sim P S (fun _=>True) s:=h.elim fun a=>a.out
theorem sb {β:Type} {s:Sem α} {f:α→Sem β} (h:Sim P S (fun _=>True) s) (k:∀ a,Sim P S (fun _=>True) (f a)):Sim P S (fun _=>True) (s >>= f):=Sim.bind (N:=fun _=>True) h fun a _=>k a
instance {a:α}:Xn P S (pure a:Sem α):=⟨⟨Sim.pure trivial⟩⟩
instance {s:String}:Xn P S (stuck s:Sem α):=⟨⟨Xv⟩⟩
instance {u:Unsupported}:Xn P S (unsupported u:Sem α):=⟨⟨XB⟩⟩
instance {v:Value}:Xn P S (goPanic v:Sem α):=⟨⟨YV⟩⟩
instance {e:RuntimeError}:Xn P S (runtimePanic e:Sem α):=⟨⟨Yy⟩⟩
instance {r:Nat}:Xn P S (getObj r):=⟨⟨UA⟩⟩
instance:Xn P S program:=⟨⟨ZO⟩⟩
instance {a:Addr} {n:Nat}:Xn P S (freeze a n):=⟨⟨Xbk⟩⟩
instance {a:Addr} {vs:List Value} {i:Nat}:Xn P S (storeCells a vs i):=⟨⟨YR vs i⟩⟩
instance {a:Addr} {m:Mode}:Xn P S (load a m):=⟨⟨Ud⟩⟩
instance {a:Addr} {v:Value} {m:Mode}:Xn P S (store a v m):=⟨⟨Zn⟩⟩
instance {o:Obj}:Xn P S (newObj o):=⟨⟨VF⟩⟩
instance {r:Nat}:Xn P S (shape r):=⟨⟨Zc⟩⟩
instance {q:Question}:Xn P S (choose q):=⟨⟨QQ⟩⟩
instance {n:Nat}:Xn P S (askRoom n):=⟨⟨W6⟩⟩
instance {t:TypeId}:Xn P S (typeInfo t):=⟨⟨YD⟩⟩
instance {t:TypeId}:Xn P S (underlying t):=⟨⟨X1⟩⟩
instance {t:TypeId}:Xn P S (zeroValue t):=⟨⟨VC⟩⟩
instance {t:TypeId}:Xn P S (sizeOf t):=⟨⟨ZZ⟩⟩
instance {t:TypeId}:Xn P S (isAgg t):=⟨⟨Uz⟩⟩
instance {a:Addr} {n:Nat}:Xn P S (loadCells a n):=⟨⟨Qv⟩⟩
instance {t:TypeId} {a:Addr}:Xn P S (loadVar t a):=⟨⟨Uy⟩⟩
instance {t:TypeId} {a:Addr} {v:Value}:Xn P S (storeVar t a v):=⟨⟨V9⟩⟩
instance {t:TypeId} {c:Array Value}:Xn P S (newRow t c):=⟨⟨Vg⟩⟩
instance {t:TypeId} {v:Value}:Xn P S (newVar t v):=⟨⟨QM⟩⟩
instance {t:TypeId}:Xn P S (elemOf t):=⟨⟨QP⟩⟩
instance {t:TypeId} {c:Array Value} {n:Nat}:Xn P S (part t c n):=⟨⟨XaF⟩⟩
instance {r:Nat}:Xn P S (viewAt r):=⟨⟨QJ⟩⟩
instance {r:Nat}:Xn P S (numberAt r):=⟨⟨Wb⟩⟩
instance {r:Nat}:Xn P S (cellsIn r):=⟨⟨W4⟩⟩
instance {a:Addr}:Xn P S (noView a):=⟨⟨QL⟩⟩
instance {v:Value}:Xn P S (asBool v):=⟨⟨Vi⟩⟩
instance {v:Value}:Xn P S (asString v):=⟨⟨Wh⟩⟩
instance {v:Value}:Xn P S (asAgg v):=⟨⟨Xch⟩⟩
instance {v:Value}:Xn P S (asIntOf v):=⟨⟨UC⟩⟩
instance {v:Value}:Xn P S (asInt v):=⟨⟨ZS⟩⟩
instance {v:Value}:Xn P S (asAddr v):=⟨⟨YM⟩⟩
instance {a b:Addr}:Xn P S (sameAddr a b):=⟨⟨Wa⟩⟩
instance {a:Addr}:Xn P S (markStringish a):=⟨⟨by
 unfold markStringish
 repeat' first|(with_reducible first|exact Xn.out|refine sb ?_ fun _=>?_)|split|dsimp only⟩⟩
instance {a:Addr} {b:Bool}:Xn P S (asNumber a b):=⟨⟨by
 unfold asNumber
 repeat' first|(with_reducible first|exact Xn.out|refine sb ?_ fun _=>?_)|split|dsimp only⟩⟩
instance {a:Addr}:Xn P S (behindNumber a):=⟨⟨by
 unfold behindNumber
 repeat' first|(with_reducible first|exact Xn.out|refine sb ?_ fun _=>?_)|split|dsimp only⟩⟩
instance {a:Addr}:Xn P S (byteOf a):=⟨⟨by
 unfold byteOf
 repeat' first|(with_reducible first|exact Xn.out|refine sb ?_ fun _=>?_)|split|dsimp only⟩⟩
instance {a:Addr} {m n:Nat}:Xn P S (partAt a m n):=⟨⟨by
 unfold partAt
 repeat' first|(with_reducible first|exact Xn.out|refine sb ?_ fun _=>?_)|split|dsimp only⟩⟩
instance {a:Addr} {f:Field}:Xn P S (fieldPlace a f):=⟨⟨by
 unfold fieldPlace
 repeat' first|(with_reducible first|exact Xn.out|refine sb ?_ fun _=>?_)|split|dsimp only⟩⟩
instance {k:IntKind} {x y:Int} {c:BoundsCode}:Xn P S (boundsPanic (α:=α) k x y c):=⟨⟨by
 unfold boundsPanic
 repeat' first|(with_reducible first|exact Xn.out|refine sb ?_ fun _=>?_|refine Zk ?_|refine Yi (fun _ _=>?_) _ _|refine Yh (fun _ _=>?_) _ _|refine YF (fun _=>?_) _|refine Yn (fun _ _=>?_) _ _)|split|dsimp only⟩⟩
instance {op:BinOp} {k:IntKind} {x y:Int}:Xn P S (Op.intArith op k x y):=⟨⟨by
 unfold Op.intArith
 repeat' first|(with_reducible first|exact Xn.out|refine sb ?_ fun _=>?_)|split|dsimp only⟩⟩
theorem We {op:BinOp} {k:IntKind} {x y:Int}:Sim P S (fun _=>True) (Op.intArith op k x y):=Xn.out
instance {op:BinOp} {k:IntKind} {x y:Int}:Xn P S (Op.intDiv op k x y):=⟨⟨by
 unfold Op.intDiv
 repeat' first|(with_reducible first|exact Xn.out|refine sb ?_ fun _=>?_)|split|dsimp only⟩⟩
instance {op:BinOp} {k:IntKind} {x y:Int}:Xn P S (Op.intBits op k x y):=⟨⟨by
 unfold Op.intBits
 repeat' first|(with_reducible first|exact Xn.out|refine sb ?_ fun _=>?_)|split|dsimp only⟩⟩
instance {op:BinOp} {k j:IntKind} {x y:Int}:Xn P S (Op.shift op k x j y):=⟨⟨by
 unfold Op.shift
 repeat' first|(with_reducible first|exact Xn.out|refine sb ?_ fun _=>?_)|split|dsimp only⟩⟩
instance {op:BinOp} {x y:Int}:Xn P S (Op.intCmp op x y):=⟨⟨by
 unfold Op.intCmp
 repeat' first|(with_reducible first|exact Xn.out|refine sb ?_ fun _=>?_)|split|dsimp only⟩⟩
instance {op:BinOp} {x y:ByteArray}:Xn P S (Op.stringOp op x y):=⟨⟨by
 unfold Op.stringOp
 repeat' first|(with_reducible first|exact Xn.out|refine sb ?_ fun _=>?_)|split|dsimp only⟩⟩
instance {op:BinOp} {k:FloatKind} {x y:Nat}:Xn P S (Op.floatArith op k x y):=⟨⟨by
 unfold Op.floatArith
 repeat' first|(with_reducible first|exact Xn.out|refine sb ?_ fun _=>?_)|split|dsimp only⟩⟩
instance {op:BinOp} {k:FloatKind} {x y:Nat}:Xn P S (Op.floatCmp op k x y):=⟨⟨by
 unfold Op.floatCmp
 repeat' first|(with_reducible first|exact Xn.out|refine sb ?_ fun _=>?_)|split|dsimp only⟩⟩
instance {k j:FloatKind} {x:Nat}:Xn P S (Conv.floatToFloat k x j):=⟨⟨by
 unfold Conv.floatToFloat
 repeat' first|(with_reducible first|exact Xn.out|refine sb ?_ fun _=>?_)|split|dsimp only⟩⟩
instance {op:BinOp} {k:FloatKind} {x y:Nat}:Xn P S (Op.Complex.arith op k x y):=⟨⟨by
 unfold Op.Complex.arith
 repeat' first|(with_reducible first|exact Xn.out|refine sb ?_ fun _=>?_)|split|dsimp only⟩⟩
instance {op:BinOp} {k:FloatKind} {x y:Nat}:Xn P S (Op.Complex.cmp op k x y):=⟨⟨by
 unfold Op.Complex.cmp
 repeat' first|(with_reducible first|exact Xn.out|refine sb ?_ fun _=>?_)|split|dsimp only⟩⟩
instance {k j:FloatKind} {x:Nat}:Xn P S (Op.Complex.conv k x j):=⟨⟨by
 unfold Op.Complex.conv
 repeat' first|(with_reducible first|exact Xn.out|refine sb ?_ fun _=>?_)|split|dsimp only⟩⟩
instance {x y:Nat}:Xn P S (Op.Complex.add x y):=⟨⟨(Xn.out:Sim P S (fun _=>True) (Op.Complex.arith _ _ _ _))⟩⟩
instance {x y:Nat}:Xn P S (Op.Complex.sub x y):=⟨⟨(Xn.out:Sim P S (fun _=>True) (Op.Complex.arith _ _ _ _))⟩⟩
instance {x y:Nat}:Xn P S (Op.Complex.mul x y):=⟨⟨(Xn.out:Sim P S (fun _=>True) (Op.Complex.arith _ _ _ _))⟩⟩
instance {x y:Nat}:Xn P S (Op.Complex.quo x y):=⟨⟨(Xn.out:Sim P S (fun _=>True) (Op.Complex.arith _ _ _ _))⟩⟩
instance {a b c d:Nat}:Xn P S (Op.Complex.product a b c d):=⟨⟨by
 unfold Op.Complex.product
 repeat' first|(with_reducible first|exact Xn.out|refine sb ?_ fun _=>?_)|split|dsimp only⟩⟩
instance {s a b c d:Nat}:Xn P S (Op.Complex.corrected s a b c d):=⟨⟨by
 unfold Op.Complex.corrected
 repeat' first|(with_reducible first|exact Xn.out|refine sb ?_ fun _=>?_)|split|dsimp only⟩⟩
instance {a b c d:Nat}:Xn P S (Op.Complex.quotient a b c d):=⟨⟨by
 unfold Op.Complex.quotient
 repeat' first|(with_reducible first|exact Xn.out|refine sb ?_ fun _=>?_)|split|dsimp only⟩⟩
instance {op:BinOp} {k:FloatKind} {a b c d:Nat}:Xn P S (Op.complexOp op k a b c d):=⟨⟨by
 unfold Op.complexOp
 repeat' first|(with_reducible first|exact Xn.out|refine sb ?_ fun _=>?_)|split|dsimp only⟩⟩
instance {op:UnOp} {x:Value}:Xn P S (Op.unary op x):=⟨⟨by
 unfold Op.unary
 repeat' first|(with_reducible first|exact Xn.out|refine sb ?_ fun _=>?_)|split|dsimp only⟩⟩
theorem Xb7 {op:UnOp} {x:Value}:Sim P S (fun _=>True) (Op.unary op x):=Xn.out
instance {a b:Option Addr}:Xn P S (samePointer a b):=⟨⟨by
 unfold samePointer
 repeat' first|(with_reducible first|exact Xn.out|refine sb ?_ fun _=>?_)|split|dsimp only⟩⟩
theorem Uw {a b:Option Addr}:Sim P S (fun _=>True) (samePointer a b):=Xn.out
instance {t:TypeId}:Xn P S (typeStr t):=⟨⟨by
 unfold typeStr
 repeat' first|(with_reducible first|exact Xn.out|refine sb ?_ fun _=>?_)|split|dsimp only⟩⟩
theorem Qg:∀ (d:Nat) (t:TypeId) (x y:Value),Sim P S (fun _=>True) (Op.equalIn d t x y)
 | 0,_,_,_=>by unfold Op.equalIn;exact XB
 | d + 1,t,x,y=>by
  unfold Op.equalIn
  repeat' first|(with_reducible first|exact Qg d _ _ _|exact (QQ.bind fun _ _=>Qg d _ _ _)|exact Xn.out|refine sb ?_ fun _=>?_|refine Zk ?_|refine Yi (fun _ _=>?_) _ _|refine Yh (fun _ _=>?_) _ _|refine YF (fun _=>?_) _|refine Yn (fun _ _=>?_) _ _)|split|dsimp only
instance {d:Nat} {t:TypeId} {x y:Value}:Xn P S (Op.equalIn d t x y):=⟨⟨Qg d t x y⟩⟩
instance {t:TypeId} {x y:Value}:Xn P S (Op.equal t x y):=⟨⟨by
 unfold Op.equal
 repeat' first|(with_reducible first|exact Xn.out|refine sb ?_ fun _=>?_)|split|dsimp only⟩⟩
theorem Qw:∀ (d:Nat) (t:TypeId) (x y:Value),Sim P S (fun _=>True) (Op.eqGuardIn d t x y)
 | 0,_,_,_=>by unfold Op.eqGuardIn;exact XB
 | d + 1,t,x,y=>by
  unfold Op.eqGuardIn
  repeat' first|(with_reducible first|exact Qw d _ _ _|exact Xn.out|refine sb ?_ fun _=>?_|refine Zk ?_|refine Yi (fun _ _=>?_) _ _|refine Yh (fun _ _=>?_) _ _|refine YF (fun _=>?_) _|refine Yn (fun _ _=>?_) _ _)|split|dsimp only
instance {d:Nat} {t:TypeId} {x y:Value}:Xn P S (Op.eqGuardIn d t x y):=⟨⟨Qw d t x y⟩⟩
instance {op:BinOp} {t:TypeId} {x y:Operand} {a b:Value}:Xn P S (eqGuard op t x y a b):=⟨⟨by
 unfold eqGuard
 repeat' first|(with_reducible first|exact Xn.out|refine sb ?_ fun _=>?_)|split|dsimp only⟩⟩
theorem W2 {op:BinOp} {t:TypeId} {x y:Operand} {a b:Value}:Sim P S (fun _=>True) (eqGuard op t x y a b):=Xn.out
instance {ts:Array TypeId} {t:TypeId} {a:Array Value}:Xn P S (Builtin.unsafeAdd_ ts t a):=⟨⟨by
 unfold Builtin.unsafeAdd_;rcases a with ⟨_|⟨a1,_|⟨a2,_|⟨a3,l⟩⟩⟩⟩
 ·exact Xv
 ·exact Xv
 rotate_left
 ·exact Xv
 cases a1<;>try exact Xv
 refine Sim.bind (s:=asInt a2) (N:=fun _=>True) ZS fun n _=>?_
 repeat' first|(with_reducible first|exact Xn.out|refine sb ?_ fun _=>?_)|split|dsimp only⟩⟩
instance {t:TypeId} {x y:Value}:Xn P S (movedNumber t x y):=⟨⟨by
 unfold movedNumber
 repeat' first|(with_reducible first|exact Xn.out|refine sb ?_ fun _=>?_)|split|dsimp only⟩⟩
instance {t:TypeId} {x y:Value}:Xn P S (movedPointer t x y):=⟨⟨by
 unfold movedPointer
 repeat' first|(with_reducible first|exact Xn.out|refine sb ?_ fun _=>?_)|split|dsimp only⟩⟩
instance {a b:Addr}:Xn P S (Op.twoPlaces a b):=⟨⟨by
 unfold Op.twoPlaces
 repeat' first|(with_reducible first|exact Xn.out|refine sb ?_ fun _=>?_)|split|dsimp only⟩⟩
instance {k:IntKind} {a b:Addr}:Xn P S (Op.addrSub k a b):=⟨⟨by
 unfold Op.addrSub
 repeat' first|(with_reducible first|exact Xn.out|refine sb ?_ fun _=>?_)|split|dsimp only⟩⟩
instance {op:BinOp} {a b:Addr}:Xn P S (Op.addrCmp op a b):=⟨⟨by
 unfold Op.addrCmp
 repeat' first|(with_reducible first|exact Xn.out|refine sb ?_ fun _=>?_)|split|dsimp only⟩⟩
instance {k:IntKind} {a:Addr} {n:Int}:Xn P S (Op.addrMod k a n):=⟨⟨by
 unfold Op.addrMod
 repeat' first|(with_reducible first|exact Xn.out|refine sb ?_ fun _=>?_)|split|dsimp only⟩⟩
instance {op:BinOp} {t:TypeId} {x y:Value}:Xn P S (binOp op t x y):=⟨⟨by
 unfold binOp
 repeat' first|(with_reducible first|exact Xn.out|refine sb ?_ fun _=>?_)|split|dsimp only⟩⟩
theorem Xcf {op:BinOp} {t:TypeId} {x y:Value}:Sim P S (fun _=>True) (binOp op t x y):=Xn.out
