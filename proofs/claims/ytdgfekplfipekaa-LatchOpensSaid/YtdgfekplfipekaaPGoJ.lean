/- An operation of the mild kinds meets itself in a world that is frozen at more places; it ends by a value, by nothing, or by a call of a function of F. -/
import Derived.Test.YtdgfekplfipekaaPGoH
import GoSem.Extern.Atomic
set_option linter.all false
set_option maxRecDepth 100000
set_option maxHeartbeats 16000000
namespace Go.Proofs.Ytdgfekplfipekaa
open Go.Conc
section
variable {P:Program} {S:YK} {α σ:Type}
theorem Xad {m s n:Nat} {b:Option Addr} {x:Value} (w:World):∃ r,(Builtin.mayShare m s n b x).run P w=.ok r w:=by
 have hh:∀ (a:Addr) (k:Nat) (w:World),∃ r,(Builtin.holdsCells a k).run P w=.ok r w:=by
  intro a k w;unfold Builtin.holdsCells;cases e:w.shape? a.block with
  | none=>exact ⟨false,by simp [shape,Sem.run,e]⟩
  | some v=>exact ⟨a.spot.isNone && a.off + k≤v.2,by simp [shape,Sem.run,e]⟩
 have hj:∀ (there:Bool) (w:World),∃ r,Sem.run P (if (!there)=true then pure true else match x with | .slice (some b') _ _=>(do pure (!(← Builtin.holdsCells b' (n * m)) || b.any (·.block == b'.block)))|_=>pure false) w=.ok r w:=by
  intro there w;cases there with
  | false=>exact ⟨true,rfl⟩
  | true =>
   simp only [Bool.not_true,Bool.false_eq_true,if_false]
   split
   ·rename_i b' _ _
    obtain ⟨r,hr⟩:=hh b' (n * m) w;exact ⟨_,by rw [Sem.run_bind,hr];rfl⟩
   ·exact ⟨false,rfl⟩
 unfold Builtin.mayShare;dsimp only;cases b with
 | none=>exact hj true w
 | some a =>
  obtain ⟨r,hr⟩:=hh a (s * m) w;dsimp only;rw [Sem.run_bind,hr,Result.andThen_ok,Sem.run_bind];show ∃ q,Sem.run P _ w=.ok q w;exact hj _ w
theorem VD {m s n:Nat} {b:Option Addr} {x:Value} {u:String} {γ:Type}:Sim P S (fun (_:γ)=>True) (Builtin.mayShare m s n b x >>= fun r=>if (!r)=true then (mark .noRoom >>= fun _=>unsupported (.resourceLimit u)) else unsupported (.resourceLimit u)):=by
 refine Qu fun w=>?_;obtain ⟨r,hr⟩:=Xad (P:=P) (m:=m) (s:=s) (n:=n) (b:=b) (x:=x) w;rw [Sem.run_bind,hr];cases r with
 | true=>exact ⟨_,w,rfl,trivial⟩
 | false=>exact ⟨_,w,rfl,trivial⟩
instance {ts:Array TypeId} {t:TypeId} {a:Array Value}:Xn P S (Builtin.append_ ts t a):=⟨⟨by
 unfold Builtin.append_
 repeat' first|(with_reducible first|exact VD|exact Xn.out|exact YE (hS _)|exact Yd hS|exact YW hS|exact YS hS|exact VE hS|exact Vh hS|refine sb ?_ fun _=>?_)|split|dsimp only|(rename_i z;cases z<;>simp only [if_true,Bool.false_eq_true,if_false,Bool.not_true,Bool.not_false,true_or,false_or,and_true])⟩⟩
theorem Xbl {ts:Array TypeId} {t:TypeId} {a:Array Value}:Sim P S (fun _=>True) (Builtin.append_ ts t a):=Xn.out
end
section
variable {P:Program} {S:YK}
theorem Y6 {g:Nat→Addr}:∀ (l:List Nat) (w:World),(l.anyM fun i=>frozen (g i)).run P w=.ok (l.any fun i=>w.frozen? (g i)) w∧∀ es,(l.anyM fun i=>frozen (g i)).events P w es=es
 | [],w=>⟨rfl,fun _=>rfl⟩
 | i::l,w=>by
  obtain ⟨h1,h2⟩:=Y6 (g:=g) l w;have e1:(frozen (g i)).run P w=.ok (w.frozen? (g i)) w:=rfl;have e2:∀ es,(frozen (g i)).events P w es=es:=fun _=>rfl;simp only [List.anyM,List.any];refine ⟨?_,fun es=>?_⟩
  ·rw [Sem.run_bind,e1,Result.andThen_ok]
   cases w.frozen? (g i) with
   | true=>rfl
   | false=>exact h1
  ·rw [Sem.events_bind,e1,Result.evThen_ok,e2]
   cases w.frozen? (g i) with
   | true=>rfl
   | false=>exact h2 es
theorem U2 {g:Nat→Addr} {l:List Nat}:Zg P S Over (l.anyM fun i=>frozen (g i)) (l.anyM fun i=>frozen (g i)):=fun x w hT=>by
 refine ⟨0,fun _=>0,.inr ⟨.ok (l.any fun i=>x.frozen? (g i)) x,?_,fun τ d _=>?_,#[],fun es=>?_,by simp⟩⟩
 ·rw [(Y6 l w).1]
  refine .ok (fun h=>?_) hT rfl (Nat.le_refl _);obtain ⟨i,hi,h⟩:=List.any_eq_true.1 h;exact List.any_eq_true.2 ⟨i,hi,hT.frozen? _ h⟩
 ·rw [(Y6 l _).1];rfl
 ·rw [(Y6 l w).2];simp
theorem VB {a:Addr}:Zg P S Over (frozen a) (frozen a):=by
 have:=YB (P:=P) (S:=S) (M:=Over) (a:=a) (k':=pure) (k:=pure) (Zg.pure id) (Zg.pure id) (Zg.pure fun _=>rfl)
 simpa using this
theorem Qt {a:Addr}:Zg P S Over (Extern.Atomic.touchesFrozen a) (Extern.Atomic.touchesFrozen a):=by
 unfold Extern.Atomic.touchesFrozen;refine Zg.bind QJ fun x y hxy=>?_;obtain ⟨rfl,_⟩:=hxy
 split
 ·exact VB
 ·refine Zg.bind YD fun x y hxy=>?_
  obtain ⟨rfl,_⟩:=hxy;dsimp only
  split
  ·exact Qu fun w=>⟨_,_,rfl,trivial⟩
  ·exact U2
theorem Uc {t:Extern.Atomic.T} {a:Addr}:Sim P S (fun _=>True) (Extern.Atomic.read t a):=by
 unfold Extern.Atomic.read;refine Sim.bind Ud fun v _=>?_
 (repeat' split)<;>first|exact Sim.pure trivial|exact XB
theorem Xca {t:Extern.Atomic.T} {args:Array Value}:Sim P S (fun _=>True) (Extern.Atomic.loadT t args):=by
 obtain ⟨l⟩:=args;rcases l with _|⟨x,_|⟨y,l⟩⟩<;>first|exact Xv|skip
 exact YM.bind fun _ _=>Uc
theorem Xbh {args:Array Value}:Sim P S (fun _=>True) (Extern.Atomic.storeT args):=by
 obtain ⟨l⟩:=args;rcases l with _|⟨x,_|⟨y,_|⟨z,l⟩⟩⟩<;>first|exact Xv|skip
 exact YM.bind fun _ _=>Sim.bind Zn fun _ _=>Sim.pure trivial
theorem V8 {t:Extern.Atomic.T} {args:Array Value}:Sim P S (fun _=>True) (Extern.Atomic.swapT t args):=by
 obtain ⟨l⟩:=args;rcases l with _|⟨x,_|⟨y,_|⟨z,l⟩⟩⟩<;>first|exact Xv|skip
 exact YM.bind fun _ _=>Uc.bind fun _ _=>Sim.bind Zn fun _ _=>Sim.pure trivial
theorem Xcj {k:IntKind} {b:Bool} {args:Array Value}:Sim P S (fun _=>True) (Extern.Atomic.update (Op.intArith .add) k b args):=by
 obtain ⟨l⟩:=args;rcases l with _|⟨x,_|⟨y,_|⟨z,l⟩⟩⟩<;>first|exact Xv|skip
 exact YM.bind fun _ _=>Uc.bind fun _ _=>ZS.bind fun _ _=>ZS.bind fun _ _=>We.bind fun _ _=>Sim.bind (N:=fun _=>True) Zn fun _ _=>Sim.pure trivial
theorem XaI {k:IntKind} {args:Array Value}:Sim P S (fun _=>True) (Extern.Atomic.casT (.int k) args):=by
 obtain ⟨l⟩:=args;rcases l with _|⟨x,_|⟨y,_|⟨z,_|⟨u,l⟩⟩⟩⟩<;>first|exact Xv|skip
 ·refine YM.bind fun a _=>Zg.bind Qt fun x y hxy=>?_
  have hrest:∀ (z:Value) (new:Value),Sim P S (fun _=>True) (do
   let eq ← match Extern.Atomic.T.int k,← Extern.Atomic.read (.int k) a,z with
    | _,.int _ x,.int _ y=>pure (x == y)
    | .ptr,.pointer x,.pointer y=>samePointer x y
    | .int _,.pointer (some _),.int _ 0 | .int _,.int _ 0,.pointer (some _)=>pure false
    | .int _,.pointer (some _),_ | .int _,_,.pointer (some _)=>unsupported .addressObserved
    | _, _, _ => stuck "atomic.CompareAndSwap: old is no T"
   if eq then store a new .atomic
   pure (Value.bool eq)):=fun z new=>by
   refine Uc.bind fun v _=>?_;have hk:∀ eq:Bool,Sim P S (fun _=>True) (if eq=true then (store a new .atomic >>= fun _=>pure (Value.bool eq)) else pure (Value.bool eq)):=fun eq=>by
    split
    ·exact Sim.bind Zn fun _ _=>Sim.pure trivial
    ·exact Sim.pure trivial
   dsimp only
   (repeat' split)<;>first|exact Sim.bind (N:=fun _=>True) (Sim.pure trivial) fun eq _=>hk eq|exact Sim.bind (N:=fun _=>True) XB fun eq _=>hk eq|exact Sim.bind (N:=fun _=>True) Xv fun eq _=>hk eq|exact Sim.bind (N:=fun _=>True) Uw fun eq _=>hk eq
  cases x with
  | true=>exact Qu fun w=>⟨_,_,rfl,trivial⟩
  | false =>
   cases y with
   | true=>cases hxy rfl
   | false=>exact hrest _ _
theorem Wd {t:TypeId} {size:Value}:Sim P S (fun _=>True) (Instr.makeChan t size):=by
 unfold Instr.makeChan;refine ZS.bind fun n _=>X1.bind fun u _=>?_
 split
 ·refine Sim.bind YD fun i _=>?_
  dsimp only
  split
  ·exact Sim.bind (N:=fun _=>True) Yy fun _ _=>Sim.bind VF fun _ _=>Sim.pure trivial
  ·exact Sim.bind VF fun _ _=>Sim.pure trivial
 ·exact Xv
end
section
variable {P:Program} {S:YK}
theorem ZQ:∀ (l:List FieldStep) (t:TypeId) (x:Option Value),Sim P S (fun _=>True) (followBlind l t x)
 | [],_,_=>by unfold followBlind;exact Sim.pure trivial
 | s::l,t,x=>by
  unfold followBlind
  repeat' first|(with_reducible first|exact Sim.pure trivial|exact Xv|exact ZQ l _ _|exact X1|exact XaF|refine Sim.bind (N:=fun _=>True) ?_ fun _ _=>?_)|split|dsimp only
theorem ZP:∀ (n:Nat) (t:TypeId) (x:Value) (s:String),Sim P S (fun _=>True) (nilAhead n t x s)
 | 0,_,_,_=>by unfold nilAhead;exact Sim.pure trivial
 | n + 1,t,x,s=>by
  unfold nilAhead
  repeat' first|(with_reducible first|exact Sim.pure trivial|exact Xv|exact ZP n _ _ _|exact ZQ _ _ _|exact X1|exact YD|refine Sim.bind (N:=fun _=>True) ?_ fun _ _=>?_)|split|dsimp only
structure Fns where
 fn:FuncId→Bool
 maps:Bool
 top:FuncId→Bool
 ext:FuncId→Bool
def XfU (F:Fns):Builtin→Bool
 | .append | .cap | .len | .copy | .max | .min=>true
 | .delete=>F.maps
 | _=>false
def mild (F:Fns):Op→Bool
 | .move _ | .assign _ | .pick .. | .alloc _ | .box .. | .build .. | .buildSlice .. | .load .. | .store .. | .nilCheck _ | .binOp .. | .unOp .. | .convert .. | .sliceToArrayPointer .. | .makeInterface .. | .makeFunc ..
 | .makeMap .. | .makeSlice .. | .slice .. | .fieldAddr .. | .field .. | .indexAddr .. | .index .. | .lookup .. | .range .. | .entry .. | .typeAssert .. | .extract .. | .makeChan ..=>true
 | .mapUpdate .. | .insert .. | .mapEntry .. | .entryStore .. | .next ..=>F.maps
 | .call { callee:=.value (.func f),.. }=>F.fn f || F.ext f
 | .call { callee:=.builtin b,.. }=>XfU F b
 | _=>false
def Zm (F:Fns) (r:Next):Prop:=(∃ v,r=.value v)∨r=.skip∨∃ f args,r=.enter f args∧F.fn f=true
def XfE (e:Array Value→Sem Value):Prop:=∀ P S args,Sim P S (fun _=>True) (e args)
def QY (P : Program) (f : FuncId) : Prop := ∃ fn e, P.funcs[f]? = some fn ∧ (fn.name == "runtime.NumGoroutine") = false ∧ fn.body.isNone = true ∧ Extern.findNext fn = none ∧ Extern.find fn = some e ∧ XfE e
def Q7 (P : Program) (F : Fns) : Prop := (∀ f, F.fn f = true → ∃ fn, P.funcs[f]? = some fn ∧ (fn.name == "runtime.NumGoroutine") = false ∧ fn.body.isSome = true) ∧ ∀ f, F.ext f = true → QY P f
theorem Yr {F:Fns} {s:Sem Value} (h:Sim P S (fun _=>True) s):Sim P S (Zm F) (do pure (.value (← s))):=Sim.bind h fun v _=>Sim.pure (.inl ⟨v,rfl⟩)
theorem Xb8 {F:Fns} {s:Sem Unit} (h:Sim P S (fun _=>True) s):Sim P S (Zm F) (do s;pure .skip):=Sim.bind h fun v _=>Sim.pure (.inr (.inl rfl))
theorem Wg {F:Fns} (hF:Q7 P F) {f:FuncId} (hf:F.fn f=true) {args:Array Value}:Sim P S (Zm F) (callFunc f args):=by
 obtain ⟨fn,h1,h2,h3⟩:=hF.1 f hf;unfold callFunc;refine Sim.bind YL fun p hp=>?_;subst hp;have h4:fn.body.isNone=false:=by cases h:fn.body<;>simp_all
 simp only [h1,h2,h4,Bool.false_eq_true,if_false];exact Sim.pure (.inr (.inr ⟨f,args,rfl,hf⟩))
theorem W5 {F:Fns} {f:FuncId} (hf:QY P f) {args:Array Value}:Sim P S (Zm F) (callFunc f args):=by
 obtain ⟨fn,e,h1,h2,h3,h4,h5,h6⟩:=hf;unfold callFunc;refine Sim.bind YL fun p hp=>?_;subst hp;simp only [h1,h2,h3,h4,h5,Bool.false_eq_true,if_false,if_true];refine Sim.bind (XaG (fun a=>⟨by simp,by simp,by simp,by simp,by simp⟩) (by simp) (by simp)) fun _ _=>?_;exact Yr (h6 _ S args)
theorem QO {F:Fns} (hF:Q7 P F) (hM:F.maps=true→∀ r,¬ S.objs r) {ρ:Operand→Value} (hρ:∀ f,ρ (.func f)=.func (.func f) #[] #[]) {o:Oper} (h:mild F o.op=true):Sim P S (Zm F) (execOp ρ o):=by
 unfold execOp;cases ho:o.op with
 | move x=>exact Sim.pure (.inl ⟨_,rfl⟩)
 | assign x=>exact Sim.pure (.inl ⟨_,rfl⟩)
 | pick c a b=>exact Sim.bind (N:=fun _=>True) Vi fun b _=>Sim.pure (.inl ⟨_,rfl⟩)
 | alloc t=>exact Yr Xci
 | box t x=>exact Yr XeT
 | build t p=>exact Yr Xce
 | buildSlice t n p=>exact Yr U5
 | load t a=>exact Yr Xbj
 | store t a v=>exact Xb8 WV
 | binOp b t x y u=>exact Yr (Sim.bind W2 fun _ _=>Xcf)
 | unOp b t x=>exact Yr Xb7
 | convert s t x=>exact Yr W3
 | sliceToArrayPointer t x=>exact Yr W7
 | makeInterface t x=>exact Yr QN
 | makeFunc f a b=>exact Yr Wc
 | makeMap t r=>exact Yr WX
 | makeSlice t l c=>exact Yr VG
 | slice t x l m n=>exact Yr WW
 | fieldAddr t x f=>exact Yr W0
 | field t x f=>exact Yr Xcc
 | indexAddr t x i=>exact Yr WY
 | index t x i=>exact Yr Xcb
 | lookup t x i b=>exact Yr Xbi
 | mapUpdate t m k v=>rw [ho] at h;exact Xb8 (Yd (hM h))
 | insert t m k v=>rw [ho] at h;exact Xb8 (Yd (hM h))
 | mapEntry t m k=>rw [ho] at h;exact Yr (YW (hM h))
 | entryStore t m s v=>rw [ho] at h;exact Xb8 (YS (hM h))
 | range t x=>exact Yr Xb9
 | next i b=>rw [ho] at h;exact Yr (VE (hM h))
 | entry i=>exact Yr Xcd
 | typeAssert x s t b=>exact Yr U3
 | extract t i=>exact Yr W1
 | nilCheck x =>
  dsimp only
  repeat' first|(with_reducible refine Sim.pure ?_);exact Or.inl ⟨_,rfl⟩|(with_reducible first|exact Yy|exact XB|exact ZO|exact ZP _ _ _ _|exact Sim.bind ZO fun _ _=>ZP _ _ _ _|refine Sim.bind (N:=fun _=>True) ?_ fun _ _=>?_)|split
 | call c =>
  rw [ho] at h;obtain ⟨callee,args,ts⟩:=c;cases callee with
  | builtin b =>
   have hb:XfU F b=true:=h;show Sim P S (Zm F) (builtin b ts o.type _ (args.map ρ));cases b<;>first|(cases hb;done)|skip
   all_goals unfold builtin
   all_goals first
    | exact Yr Xbl
    | exact Yr XeS
    | exact Yr XeR
    | exact Yr XdK
    | exact Yr XeQ
    | exact Yr XeP
    | exact Yr (Vh (hM hb))
  | invoke r n=>cases h
  | value f =>
   cases f<;>first|(cases h;done)|skip
   rename_i f
   have hf:(F.fn f || F.ext f)=true:=h;show Sim P S (Zm F) (Deferred.ofValue (ρ (.func f)) (args.map ρ) >>= fun d=>invoke d.target d.args);rw [hρ f];show Sim P S (Zm F) (callFunc f ((#[] ++ args.map ρ) ++ #[]));rcases Bool.or_eq_true _ _ ▸ hf with hf|hf
   ·exact Wg hF hf
   ·exact W5 (hF.2 f hf)
 | makeChan t c=>exact Yr Wd
 | ready g=>rw [ho] at h;cases h
 | waits g=>rw [ho] at h;cases h
 | go c=>rw [ho] at h;cases h
 | defer c=>rw [ho] at h;cases h
 | panic x=>rw [ho] at h;cases h
 | send c x=>rw [ho] at h;cases h
 | recv t c b=>rw [ho] at h;cases h
 | select c b=>rw [ho] at h;cases h
