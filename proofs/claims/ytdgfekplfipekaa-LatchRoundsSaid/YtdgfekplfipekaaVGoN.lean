/- A cell that no listed write names keeps its content, whatever the model's work. -/
import Derived.Test.YtdgfekplfipekaaVGoH
import GoSem.Extern.Atomic
set_option linter.all false
set_option maxRecDepth 100000
set_option maxHeartbeats 16000000
namespace Go.Proofs.Ytdgfekplfipekaa
open Go.Conc
section
variable {P:Program} {S:YK} {α σ:Type}
theorem Xad {m s n:Nat} {b:Option Addr} {x:Value} (w:World):∃ r,(Builtin.mayShare m s n b x).run P w=.ok r w:=by
 have hh:∀ (a:Addr) (k:Nat) (w:World),∃ r,(Builtin.holdsCells a k).run P w=.ok r w:=by
  intro a k w;unfold Builtin.holdsCells;cases e:w.shape? a.block with
  | none=>exact ⟨false,by simp [shape,Sem.run,e]⟩
  | some v=>exact ⟨a.spot.isNone && a.off + k≤v.2,by simp [shape,Sem.run,e]⟩
 have hj:∀ (there:Bool) (w:World),∃ r,Sem.run P (if (!there)=true then pure true else match x with | .slice (some b') _ _=>(do pure (!(← Builtin.holdsCells b' (n * m)) || b.any (·.block == b'.block)))|_=>pure false) w=.ok r w:=by
  intro there w;cases there with
  | false=>exact ⟨true,rfl⟩
  | true =>
   simp only [Bool.not_true,Bool.false_eq_true,if_false]
   split
   ·rename_i b' _ _
    obtain ⟨r,hr⟩:=hh b' (n * m) w;exact ⟨_,by rw [Sem.run_bind,hr];rfl⟩
   ·exact ⟨false,rfl⟩
 unfold Builtin.mayShare;dsimp only;cases b with
 | none=>exact hj true w
 | some a =>
  obtain ⟨r,hr⟩:=hh a (s * m) w;dsimp only;rw [Sem.run_bind,hr,Result.andThen_ok,Sem.run_bind];show ∃ q,Sem.run P _ w=.ok q w;exact hj _ w
theorem VD {m s n:Nat} {b:Option Addr} {x:Value} {u:String} {γ:Type}:Sim P S (fun (_:γ)=>True) (Builtin.mayShare m s n b x >>= fun r=>if (!r)=true then (mark .noRoom >>= fun _=>unsupported (.resourceLimit u)) else unsupported (.resourceLimit u)):=by
 refine Qu fun w=>?_;obtain ⟨r,hr⟩:=Xad (P:=P) (m:=m) (s:=s) (n:=n) (b:=b) (x:=x) w;rw [Sem.run_bind,hr];cases r with
 | true=>exact ⟨_,w,rfl,trivial⟩
 | false=>exact ⟨_,w,rfl,trivial⟩
instance {ts:Array TypeId} {t:TypeId} {a:Array Value}:Xn P S (Builtin.append_ ts t a):=⟨⟨by
 unfold Builtin.append_
 repeat' first|(with_reducible first|exact VD|exact Xn.out|exact YE (hS _)|exact Yd hS|exact YW hS|exact YS hS|exact VE hS|exact Vh hS|refine sb ?_ fun _=>?_)|split|dsimp only|(rename_i z;cases z<;>simp only [if_true,Bool.false_eq_true,if_false,Bool.not_true,Bool.not_false,true_or,false_or,and_true])⟩⟩
theorem Xbl {ts:Array TypeId} {t:TypeId} {a:Array Value}:Sim P S (fun _=>True) (Builtin.append_ ts t a):=Xn.out
end
section
variable {P:Program} {S:YK}
theorem Y6 {g:Nat→Addr}:∀ (l:List Nat) (w:World),(l.anyM fun i=>frozen (g i)).run P w=.ok (l.any fun i=>w.frozen? (g i)) w∧∀ es,(l.anyM fun i=>frozen (g i)).events P w es=es
 | [],w=>⟨rfl,fun _=>rfl⟩
 | i::l,w=>by
  obtain ⟨h1,h2⟩:=Y6 (g:=g) l w;have e1:(frozen (g i)).run P w=.ok (w.frozen? (g i)) w:=rfl;have e2:∀ es,(frozen (g i)).events P w es=es:=fun _=>rfl;simp only [List.anyM,List.any];refine ⟨?_,fun es=>?_⟩
  ·rw [Sem.run_bind,e1,Result.andThen_ok]
   cases w.frozen? (g i) with
   | true=>rfl
   | false=>exact h1
  ·rw [Sem.events_bind,e1,Result.evThen_ok,e2]
   cases w.frozen? (g i) with
   | true=>rfl
   | false=>exact h2 es
theorem U2 {g:Nat→Addr} {l:List Nat}:Zg P S Over (l.anyM fun i=>frozen (g i)) (l.anyM fun i=>frozen (g i)):=fun x w hT=>by
 refine ⟨0,fun _=>0,.inr ⟨.ok (l.any fun i=>x.frozen? (g i)) x,?_,fun τ d _=>?_,#[],fun es=>?_,by simp⟩⟩
 ·rw [(Y6 l w).1]
  refine .ok (fun h=>?_) hT rfl (Nat.le_refl _);obtain ⟨i,hi,h⟩:=List.any_eq_true.1 h;exact List.any_eq_true.2 ⟨i,hi,hT.frozen? _ h⟩
 ·rw [(Y6 l _).1];rfl
 ·rw [(Y6 l w).2];simp
theorem VB {a:Addr}:Zg P S Over (frozen a) (frozen a):=by
 have:=YB (P:=P) (S:=S) (M:=Over) (a:=a) (k':=pure) (k:=pure) (Zg.pure id) (Zg.pure id) (Zg.pure fun _=>rfl)
 simpa using this
theorem Qt {a:Addr}:Zg P S Over (Extern.Atomic.touchesFrozen a) (Extern.Atomic.touchesFrozen a):=by
 unfold Extern.Atomic.touchesFrozen;refine Zg.bind QJ fun x y hxy=>?_;obtain ⟨rfl,_⟩:=hxy
 split
 ·exact VB
 ·refine Zg.bind YD fun x y hxy=>?_
  obtain ⟨rfl,_⟩:=hxy;dsimp only
  split
  ·exact Qu fun w=>⟨_,_,rfl,trivial⟩
  ·exact U2
theorem Uc {t:Extern.Atomic.T} {a:Addr}:Sim P S (fun _=>True) (Extern.Atomic.read t a):=by
 unfold Extern.Atomic.read;refine Sim.bind Ud fun v _=>?_
 (repeat' split)<;>first|exact Sim.pure trivial|exact XB
theorem Xca {t:Extern.Atomic.T} {args:Array Value}:Sim P S (fun _=>True) (Extern.Atomic.loadT t args):=by
 obtain ⟨l⟩:=args;rcases l with _|⟨x,_|⟨y,l⟩⟩<;>first|exact Xv|skip
 exact YM.bind fun _ _=>Uc
theorem Xbh {args:Array Value}:Sim P S (fun _=>True) (Extern.Atomic.storeT args):=by
 obtain ⟨l⟩:=args;rcases l with _|⟨x,_|⟨y,_|⟨z,l⟩⟩⟩<;>first|exact Xv|skip
 exact YM.bind fun _ _=>Sim.bind Zn fun _ _=>Sim.pure trivial
theorem V8 {t:Extern.Atomic.T} {args:Array Value}:Sim P S (fun _=>True) (Extern.Atomic.swapT t args):=by
 obtain ⟨l⟩:=args;rcases l with _|⟨x,_|⟨y,_|⟨z,l⟩⟩⟩<;>first|exact Xv|skip
 exact YM.bind fun _ _=>Uc.bind fun _ _=>Sim.bind Zn fun _ _=>Sim.pure trivial
theorem Xcj {k:IntKind} {b:Bool} {args:Array Value}:Sim P S (fun _=>True) (Extern.Atomic.update (Op.intArith .add) k b args):=by
 obtain ⟨l⟩:=args;rcases l with _|⟨x,_|⟨y,_|⟨z,l⟩⟩⟩<;>first|exact Xv|skip
 exact YM.bind fun _ _=>Uc.bind fun _ _=>ZS.bind fun _ _=>ZS.bind fun _ _=>We.bind fun _ _=>Sim.bind (N:=fun _=>True) Zn fun _ _=>Sim.pure trivial
theorem XaI {k:IntKind} {args:Array Value}:Sim P S (fun _=>True) (Extern.Atomic.casT (.int k) args):=by
 obtain ⟨l⟩:=args;rcases l with _|⟨x,_|⟨y,_|⟨z,_|⟨u,l⟩⟩⟩⟩<;>first|exact Xv|skip
 ·refine YM.bind fun a _=>Zg.bind Qt fun x y hxy=>?_
  have hrest:∀ (z:Value) (new:Value),Sim P S (fun _=>True) (do
   let eq ← match Extern.Atomic.T.int k,← Extern.Atomic.read (.int k) a,z with
    | _,.int _ x,.int _ y=>pure (x == y)
    | .ptr,.pointer x,.pointer y=>samePointer x y
    | .int _,.pointer (some _),.int _ 0 | .int _,.int _ 0,.pointer (some _)=>pure false
    | .int _,.pointer (some _),_ | .int _,_,.pointer (some _)=>unsupported .addressObserved
    | _, _, _ => stuck "atomic.CompareAndSwap: old is no T"
   if eq then store a new .atomic
   pure (Value.bool eq)):=fun z new=>by
   refine Uc.bind fun v _=>?_;have hk:∀ eq:Bool,Sim P S (fun _=>True) (if eq=true then (store a new .atomic >>= fun _=>pure (Value.bool eq)) else pure (Value.bool eq)):=fun eq=>by
    split
    ·exact Sim.bind Zn fun _ _=>Sim.pure trivial
    ·exact Sim.pure trivial
   dsimp only
   (repeat' split)<;>first|exact Sim.bind (N:=fun _=>True) (Sim.pure trivial) fun eq _=>hk eq|exact Sim.bind (N:=fun _=>True) XB fun eq _=>hk eq|exact Sim.bind (N:=fun _=>True) Xv fun eq _=>hk eq|exact Sim.bind (N:=fun _=>True) Uw fun eq _=>hk eq
  cases x with
  | true=>exact Qu fun w=>⟨_,_,rfl,trivial⟩
  | false =>
   cases y with
   | true=>cases hxy rfl
   | false=>exact hrest _ _
theorem Wd {t:TypeId} {size:Value}:Sim P S (fun _=>True) (Instr.makeChan t size):=by
 unfold Instr.makeChan;refine ZS.bind fun n _=>X1.bind fun u _=>?_
 split
 ·refine Sim.bind YD fun i _=>?_
  dsimp only
  split
  ·exact Sim.bind (N:=fun _=>True) Yy fun _ _=>Sim.bind VF fun _ _=>Sim.pure trivial
  ·exact Sim.bind VF fun _ _=>Sim.pure trivial
 ·exact Xv
end
section
variable {P:Program} {S:YK}
theorem ZQ:∀ (l:List FieldStep) (t:TypeId) (x:Option Value),Sim P S (fun _=>True) (followBlind l t x)
 | [],_,_=>by unfold followBlind;exact Sim.pure trivial
 | s::l,t,x=>by
  unfold followBlind
  repeat' first|(with_reducible first|exact Sim.pure trivial|exact Xv|exact ZQ l _ _|exact X1|exact XaF|refine Sim.bind (N:=fun _=>True) ?_ fun _ _=>?_)|split|dsimp only
theorem ZP:∀ (n:Nat) (t:TypeId) (x:Value) (s:String),Sim P S (fun _=>True) (nilAhead n t x s)
 | 0,_,_,_=>by unfold nilAhead;exact Sim.pure trivial
 | n + 1,t,x,s=>by
  unfold nilAhead
  repeat' first|(with_reducible first|exact Sim.pure trivial|exact Xv|exact ZP n _ _ _|exact ZQ _ _ _|exact X1|exact YD|refine Sim.bind (N:=fun _=>True) ?_ fun _ _=>?_)|split|dsimp only
structure Fns where
 fn:FuncId→Bool
 maps:Bool
 top:FuncId→Bool
 ext:FuncId→Bool
def XfU (F:Fns):Builtin→Bool
 | .append | .cap | .len | .copy | .max | .min=>true
 | .delete=>F.maps
 | _=>false
def mild (F:Fns):Op→Bool
 | .move _ | .assign _ | .pick .. | .alloc _ | .box .. | .build .. | .buildSlice .. | .load .. | .store .. | .nilCheck _ | .binOp .. | .unOp .. | .convert .. | .sliceToArrayPointer .. | .makeInterface .. | .makeFunc ..
 | .makeMap .. | .makeSlice .. | .slice .. | .fieldAddr .. | .field .. | .indexAddr .. | .index .. | .lookup .. | .range .. | .entry .. | .typeAssert .. | .extract .. | .makeChan ..=>true
 | .mapUpdate .. | .insert .. | .mapEntry .. | .entryStore .. | .next ..=>F.maps
 | .call { callee:=.value (.func f),.. }=>F.fn f || F.ext f
 | .call { callee:=.builtin b,.. }=>XfU F b
 | _=>false
def Zm (F:Fns) (r:Next):Prop:=(∃ v,r=.value v)∨r=.skip∨∃ f args,r=.enter f args∧F.fn f=true
def XfE (e:Array Value→Sem Value):Prop:=∀ P S args,Sim P S (fun _=>True) (e args)
def QY (P : Program) (f : FuncId) : Prop := ∃ fn e, P.funcs[f]? = some fn ∧ (fn.name == "runtime.NumGoroutine") = false ∧ fn.body.isNone = true ∧ Extern.findNext fn = none ∧ Extern.find fn = some e ∧ XfE e
def Q7 (P : Program) (F : Fns) : Prop := (∀ f, F.fn f = true → ∃ fn, P.funcs[f]? = some fn ∧ (fn.name == "runtime.NumGoroutine") = false ∧ fn.body.isSome = true) ∧ ∀ f, F.ext f = true → QY P f
theorem Yr {F:Fns} {s:Sem Value} (h:Sim P S (fun _=>True) s):Sim P S (Zm F) (do pure (.value (← s))):=Sim.bind h fun v _=>Sim.pure (.inl ⟨v,rfl⟩)
theorem Xb8 {F:Fns} {s:Sem Unit} (h:Sim P S (fun _=>True) s):Sim P S (Zm F) (do s;pure .skip):=Sim.bind h fun v _=>Sim.pure (.inr (.inl rfl))
theorem Wg {F:Fns} (hF:Q7 P F) {f:FuncId} (hf:F.fn f=true) {args:Array Value}:Sim P S (Zm F) (callFunc f args):=by
 obtain ⟨fn,h1,h2,h3⟩:=hF.1 f hf;unfold callFunc;refine Sim.bind YL fun p hp=>?_;subst hp;have h4:fn.body.isNone=false:=by cases h:fn.body<;>simp_all
 simp only [h1,h2,h4,Bool.false_eq_true,if_false];exact Sim.pure (.inr (.inr ⟨f,args,rfl,hf⟩))
theorem W5 {F:Fns} {f:FuncId} (hf:QY P f) {args:Array Value}:Sim P S (Zm F) (callFunc f args):=by
 obtain ⟨fn,e,h1,h2,h3,h4,h5,h6⟩:=hf;unfold callFunc;refine Sim.bind YL fun p hp=>?_;subst hp;simp only [h1,h2,h3,h4,h5,Bool.false_eq_true,if_false,if_true];refine Sim.bind (XaG (fun a=>⟨by simp,by simp,by simp,by simp,by simp⟩) (by simp) (by simp)) fun _ _=>?_;exact Yr (h6 _ S args)
theorem QO {F:Fns} (hF:Q7 P F) (hM:F.maps=true→∀ r,¬ S.objs r) {ρ:Operand→Value} (hρ:∀ f,ρ (.func f)=.func (.func f) #[] #[]) {o:Oper} (h:mild F o.op=true):Sim P S (Zm F) (execOp ρ o):=by
 unfold execOp;cases ho:o.op with
 | move x=>exact Sim.pure (.inl ⟨_,rfl⟩)
 | assign x=>exact Sim.pure (.inl ⟨_,rfl⟩)
 | pick c a b=>exact Sim.bind (N:=fun _=>True) Vi fun b _=>Sim.pure (.inl ⟨_,rfl⟩)
 | alloc t=>exact Yr Xci
 | box t x=>exact Yr XeT
 | build t p=>exact Yr Xce
 | buildSlice t n p=>exact Yr U5
 | load t a=>exact Yr Xbj
 | store t a v=>exact Xb8 WV
 | binOp b t x y u=>exact Yr (Sim.bind W2 fun _ _=>Xcf)
 | unOp b t x=>exact Yr Xb7
 | convert s t x=>exact Yr W3
 | sliceToArrayPointer t x=>exact Yr W7
 | makeInterface t x=>exact Yr QN
 | makeFunc f a b=>exact Yr Wc
 | makeMap t r=>exact Yr WX
 | makeSlice t l c=>exact Yr VG
 | slice t x l m n=>exact Yr WW
 | fieldAddr t x f=>exact Yr W0
 | field t x f=>exact Yr Xcc
 | indexAddr t x i=>exact Yr WY
 | index t x i=>exact Yr Xcb
 | lookup t x i b=>exact Yr Xbi
 | mapUpdate t m k v=>rw [ho] at h;exact Xb8 (Yd (hM h))
 | insert t m k v=>rw [ho] at h;exact Xb8 (Yd (hM h))
 | mapEntry t m k=>rw [ho] at h;exact Yr (YW (hM h))
 | entryStore t m s v=>rw [ho] at h;exact Xb8 (YS (hM h))
 | range t x=>exact Yr Xb9
 | next i b=>rw [ho] at h;exact Yr (VE (hM h))
 | entry i=>exact Yr Xcd
 | typeAssert x s t b=>exact Yr U3
 | extract t i=>exact Yr W1
 | nilCheck x =>
  dsimp only
  repeat' first|(with_reducible refine Sim.pure ?_);exact Or.inl ⟨_,rfl⟩|(with_reducible first|exact Yy|exact XB|exact ZO|exact ZP _ _ _ _|exact Sim.bind ZO fun _ _=>ZP _ _ _ _|refine Sim.bind (N:=fun _=>True) ?_ fun _ _=>?_)|split
 | call c =>
  rw [ho] at h;obtain ⟨callee,args,ts⟩:=c;cases callee with
  | builtin b =>
   have hb:XfU F b=true:=h;show Sim P S (Zm F) (builtin b ts o.type _ (args.map ρ));cases b<;>first|(cases hb;done)|skip
   all_goals unfold builtin
   all_goals first
    | exact Yr Xbl
    | exact Yr XeS
    | exact Yr XeR
    | exact Yr XdK
    | exact Yr XeQ
    | exact Yr XeP
    | exact Yr (Vh (hM hb))
  | invoke r n=>cases h
  | value f =>
   cases f<;>first|(cases h;done)|skip
   rename_i f
   have hf:(F.fn f || F.ext f)=true:=h;show Sim P S (Zm F) (Deferred.ofValue (ρ (.func f)) (args.map ρ) >>= fun d=>invoke d.target d.args);rw [hρ f];show Sim P S (Zm F) (callFunc f ((#[] ++ args.map ρ) ++ #[]));rcases Bool.or_eq_true _ _ ▸ hf with hf|hf
   ·exact Wg hF hf
   ·exact W5 (hF.2 f hf)
 | makeChan t c=>exact Yr Wd
 | ready g=>rw [ho] at h;cases h
 | waits g=>rw [ho] at h;cases h
 | go c=>rw [ho] at h;cases h
 | defer c=>rw [ho] at h;cases h
 | panic x=>rw [ho] at h;cases h
 | send c x=>rw [ho] at h;cases h
 | recv t c b=>rw [ho] at h;cases h
 | select c b=>rw [ho] at h;cases h
end
section
variable {P:Program} {w:World}
theorem Wy {β:Type} {g:Array Value→Nat × β→Except String (Array Value)} (hg:∀ c y c',g c y=.ok c'→∀ k,k≠y.1→c'[k]? = c[k]?):∀ (l:List (Nat × β)) (c c':Array Value),l.foldlM g c=.ok c'→∀ k,(∀ y∈l,k≠y.1)→c'[k]? = c[k]?
 | [],c,c',h,k,_=>by cases h;rfl
 | y::l,c,c',h,k,hk=>by
  rw [List.foldlM_cons] at h;cases e:g c y with
  | error x=>rw [e] at h;cases h
  | ok c₁ =>
   rw [e] at h;exact (Wy hg l c₁ c' h k fun z hz=>hk z (List.mem_cons_of_mem _ hz)).trans (hg c y c₁ e k (hk y (List.mem_cons_self ..)))
theorem U0 {at_:Addr} {u:TypeId} {k:Addr} {v:Value} {atomic:Bool} {w':World} {l:List Addr} (hx:w.viewStore P at_ u k v atomic=.ok (w',l)) (a:Addr) (ha:a ∉ l) {z:Value} (hz:w.cell? a=some z):w'.cell? a=some z:=by
 unfold World.viewStore at hx;simp only [bind,Except.bind,pure,Except.pure,throw,throwThe,MonadExceptOf.throw,MonadExcept.throw] at hx;cases hs:w.seen P at_ u k atomic with
 | error e=>simp only [hs] at hx;revert hx;(repeat' split)<;>intro hx<;>simp_all
 | ok v' =>
  obtain ⟨c,e,f',first,like,cells⟩:=v';have hT:X6 ⟨fun _=>False,fun _=>False,0⟩ w w:=.self (fun _ h=>h.elim);obtain ⟨f,hw,hf,hb,hb2⟩:=hT.seen hs;simp only [hs] at hx
  split at hx
  ·cases hx
  cases hbs:v.bytes? with
  | none=>simp only [hbs] at hx;cases hx
  | some bytes =>
   simp only [hbs] at hx
   split at hx
   ·cases hx
   split at hx
   ·cases hx
   rename_i c' hfold
   simp only [Except.ok.injEq,Prod.mk.injEq] at hx;obtain ⟨rfl,rfl⟩:=hx;have h4:=Wy (fun c y c' hc=>by
    revert hc
    split
    ·intro hc;cases hc
    split
    ·intro hc;cases hc
    split
    ·split
     ·intro hc k hk
      injection hc with hc;subst hc
      rw [Array.getElem?_setIfInBounds_ne (fun e=>hk e.symm)]
     ·intro hc;cases hc
    ·intro hc;cases hc) _ _ _ hfold
   unfold World.cell? at hz ⊢
   by_cases e1:at_.block=a.block
   ·have hlt:at_.block < w.heap.size:=XaL hb
    rw [← e1] at hz ⊢;rw [hb] at hz;rw [Array.getElem?_setIfInBounds_self_of_lt hlt];simp only at hz ⊢
    split at hz
    ·cases hz
    rename_i hsp
    rw [if_neg hsp,h4 a.off fun y hy e=>ha ?_]
    ·exact hz
    ·refine List.mem_map.2 ⟨y,hy,?_⟩
     obtain ⟨b,o,sp⟩:=a
     have:sp=none:=by simpa using hsp
     subst this;simp only at e e1;rw [e1,e]
   ·rw [Array.getElem?_setIfInBounds_ne e1];exact hz
theorem VT {b:Addr} {v:Value} {atomic:Bool} {w':World} {l:List Addr} (hx:w.farStore P b v atomic=.ok (w',l)) (a:Addr) (ha:a ∉ l) {z:Value} (hz:w.cell? a=some z):w'.cell? a=some z:=by
 unfold World.farStore at hx
 split at hx
 ·split at hx
  ·rename_i r hr
   injection hx with hx;subst hx
   exact U0 hr a ha hz
  ·cases hx
 ·cases hx
theorem Xi {a b:Addr} {v:Value} (h:a≠b) {z:Value} (hz:w.cell? a=some z):(w.setCell b v).cell? a=some z:=by
 unfold World.cell? at hz ⊢;rw [heap_setCell];cases e:w.heap[a.block]? with
 | none=>rw [e] at hz;cases hz
 | some o =>
  rw [e] at hz;cases o<;>first|(cases hz;done)|skip
  rename_i c t fr
  simp only at hz
  split at hz
  ·cases hz
  rename_i hsp
  by_cases hb:a.block=b.block
  ·simp only [Option.map_some,hb,if_true,hsp,Bool.false_eq_true,if_false]
   by_cases hs:b.spot.isSome=true
   ·simp only [hs,if_true];exact hz
   ·simp only [hs,Bool.false_eq_true,if_false]
    rw [Array.getElem?_setIfInBounds_ne]
    ·exact hz
    ·intro ho
     apply h;obtain ⟨b1,o1,s1⟩:=a;obtain ⟨b2,o2,s2⟩:=b;have h1:s1=none:=by simpa using hsp
     have h2:s2=none:=by simpa using hs
     simp_all
  ·simp only [Option.map_some,hb,if_false,hsp,Bool.false_eq_true];exact hz
theorem Xei {α:Type} (q:Ask α):∀ w:World,(w.ask q).2.heap=w.heap:=by
 induction q with
 | done a=>intro w;rfl
 | ask what range k ih =>
  intro w;simp only [World.ask]
  split
  ·exact ih _ _
  ·exact (ih _ _).trans rfl
theorem XaC (w:World) (c:Sys):(w.sys c).2.heap=w.heap:=by
 have h:=Xei (Kernel.perform c w.os) w;unfold World.sys
 split
 ·rfl
 ·rename_i e;rw [e] at h;exact h
theorem VJ {α:Type} (s:Sem α):∀ (w:World) (es:Array Event) (e:Event),e∈es→e∈(s.runT P w es).2:=by
 induction s with
 | pure a=>intro w es e h;exact h
 | load m b k ih=>intro w es e h;simp only [Sem.runT];(repeat' split)<;>first | exact ih _ _ _ _ (by simp [h]) | exact h
 | store m b v k ih=>intro w es e h;cases v<;>simp only [Sem.runT]<;>(try (repeat' split))<;>first | exact ih _ _ _ (by simp [h]) | exact h
 | new o k ih=>intro w es e h;exact ih _ _ _ _ h
 | shape r k ih=>intro w es e h;exact ih _ _ _ _ h
 | freeze b n k ih=>intro w es e h;exact ih _ _ _ h
 | frozen b k ih=>intro w es e h;exact ih _ _ _ _ h
 | getObj r k ih=>intro w es e h;simp only [Sem.runT];(repeat' split)<;>first | exact ih _ _ _ _ (by simp [h]) | exact h
 | setObj r o k ih=>intro w es e h;simp only [Sem.runT];(repeat' split)<;>first | exact ih _ _ _ (by simp [h]) | exact h
 | choose q k ih=>intro w es e h;simp only [Sem.runT];(repeat' split)<;>exact ih _ _ _ _ h
 | sys c k ih=>intro w es e h;exact ih _ _ _ _ (by simp [h])
 | program k ih=>intro w es e h;exact ih _ _ _ _ h
 | mark m k ih=>intro w es e h;exact ih _ _ _ (by simp [h])
 | halt h'=>intro w es e h;exact h
theorem cell_kept {α:Type} (s:Sem α):∀ (w:World) (es:Array Event) (a:Addr) (z:Value),w.cell? a=some z→(∀ e∈(s.runT P w es).2,e.write=true→e.loc≠.cell a)→(Result.world (s.runT P w es).1).cell? a=some z:=by
 induction s with
 | pure a=>intro w es a z h _;exact h
 | halt h'=>intro w es a z h _;exact h
 | new o k ih =>
  intro w es a z h hw;refine ih _ _ _ a z ?_ hw;have hlt:=Xt h;unfold World.cell? at h ⊢;rw [Array.getElem?_push,if_neg (Nat.ne_of_lt hlt)];exact h
 | shape r k ih=>intro w es a z h hw;exact ih _ _ _ a z h hw
 | frozen b k ih=>intro w es a z h hw;exact ih _ _ _ a z h hw
 | program k ih=>intro w es a z h hw;exact ih _ _ _ a z h hw
 | mark m k ih=>intro w es a z h hw;exact ih _ _ a z h hw
 | sys c k ih =>
  intro w es a z h hw;refine ih _ _ _ a z ?_ hw
  have:(w.sys c).2.heap=w.heap:=XaC w c
  unfold World.cell? at h ⊢;rw [this];exact h
 | freeze b n k ih =>
  intro w es a z h hw;refine ih _ _ a z ?_ hw
  by_cases hn:n=0
  ·unfold World.freeze;rw [if_pos hn];exact h
  ·unfold World.cell? at h ⊢
   rw [X2 w b hn];cases e:w.heap[a.block]? with
   | none=>rw [e] at h;cases h
   | some o =>
    rw [e] at h
    by_cases hb:a.block=b.block
    ·simp only [Option.map_some,hb,if_true]
     cases o<;>first|(cases h;done)|exact h
    ·simp only [Option.map_some,hb,if_false];exact h
 | choose q k ih =>
  intro w es a z h hw;simp only [Sem.runT] at hw ⊢
  split at hw
  ·rename_i hq;rw [if_pos hq];exact ih _ _ _ a z h hw
  ·rename_i hq;rw [if_neg hq];exact ih _ { w with drawn:=w.drawn + 1 } _ a z h hw
 | load m b k ih =>
  intro w es a z h hw;cases hc:w.cell? b with
  | some v=>simp only [Sem.runT,hc] at hw ⊢;exact ih _ _ _ a z h hw
  | none =>
   cases hf:w.farLoad P b (m == .atomic) with
   | ok r=>obtain ⟨v,l⟩:=r;simp only [Sem.runT,hc,hf] at hw ⊢;exact ih _ _ _ a z h hw
   | error e=>simp only [Sem.runT,hc,hf];exact h
 | getObj r k ih =>
  intro w es a z h hw;cases ho:w.heap[r]? with
  | none=>simp only [Sem.runT,ho];exact h
  | some o=>cases o<;>simp only [Sem.runT,ho] at hw ⊢<;>first | exact h | exact ih _ _ _ a z h hw
 | setObj r o k ih =>
  intro w es a z h hw;have hset:∀ o₂,w.heap[r]? = some o₂→(∀ c t f,o₂≠.cells c t f)→World.cell? { w with heap:=w.heap.setIfInBounds r o } a=some z:=by
   intro o₂ h1 h2;unfold World.cell? at h ⊢;have hne:r≠a.block:=by
    intro e;rw [← e,h1] at h;cases o₂<;>first|(cases h;done)|exact h2 _ _ _ rfl
   rw [Array.getElem?_setIfInBounds_ne hne];exact h
  cases ho:w.heap[r]? with
  | none=>simp only [Sem.runT,ho];exact h
  | some o₂ =>
   have hs:=hset o₂ ho;cases o₂<;>simp only [Sem.runT,ho] at hw ⊢<;>first|exact h|exact ih _ _ a z (hs (by simp)) hw
 | store m b v k ih =>
  intro w es a z h hw
  by_cases hag:(∃ c,v=.agg c)∨∃ c,v=.tuple c
  ·rcases hag with ⟨c,rfl⟩|⟨c,rfl⟩<;>exact h
  ·have hrun:(Sem.store m b v k).runT P w es=match w.cell? b with
    | some _ =>
     if w.frozen? b then (.halt (.unsupported (.unsafePointer "a write to bytes that a string shares")) w, es)
     else k.runT P (w.setCell b v) (es.push ⟨.cell b,true,m == .atomic⟩)
    | none=>match w.farStore P b v (m == .atomic) with
     | .ok (w,touched)=>k.runT P w (es ++ touched.toArray.map (⟨.cell ·,true,m == .atomic⟩))
     | .error h=>(.halt h w,es):=by
    cases v<;>first|(exfalso;exact hag (.inl ⟨_,rfl⟩))|(exfalso;exact hag (.inr ⟨_,rfl⟩))|rfl
   rw [hrun] at hw ⊢;cases hc:w.cell? b with
   | some v₀ =>
    simp only [hc] at hw ⊢
    split at hw
    ·rename_i hf;rw [if_pos hf];exact h
    ·rename_i hf
     rw [if_neg hf];have hne:a≠b:=fun e=>by
      have:=hw _ (VJ k _ _ ⟨.cell b,true,m == .atomic⟩ (by simp)) rfl
      exact this (by rw [e])
     exact ih _ _ a z (Xi hne h) hw
   | none =>
    simp only [hc] at hw ⊢;cases hf:w.farStore P b v (m == .atomic) with
    | error e=>simp only [hf];exact h
    | ok r =>
     obtain ⟨w',l⟩:=r;simp only [hf] at hw ⊢;have hnot:a ∉ l:=fun hm=>by
      have:=hw ⟨.cell a,true,m == .atomic⟩ (VJ k _ _ _ (by
       refine Array.mem_append.2 (.inr ?_);simp only [List.map_toArray,List.mem_toArray,List.mem_map];exact ⟨a,hm,rfl⟩)) rfl
      exact this rfl
     exact ih _ _ a z (VT hf a hnot h) hw
theorem Vx {at_:Addr} {u:TypeId} {k:Addr} {v:Value} {atomic:Bool} {w':World} {l:List Addr} (hx:w.viewStore P at_ u k v atomic=.ok (w',l)) {r:Nat} {o:Obj} (ho:w.heap[r]? = some o) (hc:∀ c t f,o≠.cells c t f):w'.heap[r]? = some o:=by
 unfold World.viewStore at hx;simp only [bind,Except.bind,pure,Except.pure,throw,throwThe,MonadExceptOf.throw,MonadExcept.throw] at hx;cases hs:w.seen P at_ u k atomic with
 | error e=>simp only [hs] at hx;revert hx;(repeat' split)<;>intro hx<;>simp_all
 | ok v' =>
  obtain ⟨c,e,f',first,like,cells⟩:=v';have hT:X6 ⟨fun _=>False,fun _=>False,0⟩ w w:=.self (fun _ h=>h.elim);obtain ⟨f,hw,hf,hb,hb2⟩:=hT.seen hs;have hne:at_.block≠r:=fun e=>by rw [← e,hb] at ho;exact hc _ _ _ (Option.some.inj ho).symm
  simp only [hs] at hx
  revert hx
  (repeat' split)<;>intro hx<;>first|(cases hx;done)|skip
  simp only [Except.ok.injEq,Prod.mk.injEq] at hx;obtain ⟨rfl,_⟩:=hx;rw [Array.getElem?_setIfInBounds_ne hne];exact ho
theorem XdT {α:Type} (s:Sem α):∀ (w:World) (es:Array Event) (r:Nat) (o:Obj),w.heap[r]? = some o→(∀ c t f,o≠.cells c t f)→(∀ e∈(s.runT P w es).2,e.write=true→e.loc≠.obj r)→(Result.world (s.runT P w es).1).heap[r]? = some o:=by
 induction s with
 | pure a=>intro w es r o h _ _;exact h
 | halt h'=>intro w es r o h _ _;exact h
 | new q k ih =>
  intro w es r o h hc hw;refine ih _ _ _ r o ?_ hc hw;rw [Array.getElem?_push,if_neg (Nat.ne_of_lt (XaL h))];exact h
 | shape q k ih=>intro w es r o h hc hw;exact ih _ _ _ r o h hc hw
 | frozen b k ih=>intro w es r o h hc hw;exact ih _ _ _ r o h hc hw
 | program k ih=>intro w es r o h hc hw;exact ih _ _ _ r o h hc hw
 | mark m k ih=>intro w es r o h hc hw;exact ih _ _ r o h hc hw
 | sys c k ih =>
  intro w es r o h hc hw;exact ih _ _ _ r o (by rw [XaC];exact h) hc hw
 | freeze b n k ih =>
  intro w es r o h hc hw;refine ih _ _ r o ?_ hc hw
  by_cases hn:n=0
  ·unfold World.freeze;rw [if_pos hn];exact h
  ·rw [X2 w b hn,h]
   by_cases hb:r=b.block
   ·simp only [Option.map_some,hb,if_true]
   ·simp only [Option.map_some,hb,if_false]
 | choose q k ih =>
  intro w es r o h hc hw;simp only [Sem.runT] at hw ⊢
  split at hw
  ·rename_i hq;rw [if_pos hq];exact ih _ _ _ r o h hc hw
  ·rename_i hq;rw [if_neg hq];exact ih _ { w with drawn:=w.drawn + 1 } _ r o h hc hw
 | load m b k ih =>
  intro w es r o h hc hw;cases hb:w.cell? b with
  | some v=>simp only [Sem.runT,hb] at hw ⊢;exact ih _ _ _ r o h hc hw
  | none =>
   cases hf:w.farLoad P b (m == .atomic) with
   | ok q=>obtain ⟨v,l⟩:=q;simp only [Sem.runT,hb,hf] at hw ⊢;exact ih _ _ _ r o h hc hw
   | error e=>simp only [Sem.runT,hb,hf];exact h
 | getObj q k ih =>
  intro w es r o h hc hw;cases ho:w.heap[q]? with
  | none=>simp only [Sem.runT,ho];exact h
  | some o₂=>cases o₂<;>simp only [Sem.runT,ho] at hw ⊢<;>first | exact h | exact ih _ _ _ r o h hc hw
 | setObj q o₁ k ih =>
  intro w es r o h hc hw;have hset:q≠r→(w.heap.setIfInBounds q o₁)[r]? = some o:=fun e=>by rw [Array.getElem?_setIfInBounds_ne e];exact h
  cases ho:w.heap[q]? with
  | none=>simp only [Sem.runT,ho];exact h
  | some o₂ =>
   by_cases e:q=r
   ·subst e
    exfalso
    rw [ho] at h;obtain rfl:=Option.some.inj h;have hin:(⟨.obj q,true,o₁.isChan⟩:Event)∈((Sem.setObj q o₁ k).runT P w es).2:=by
     cases o₂<;>first|exact absurd rfl (hc _ _ _)|(simp only [Sem.runT,ho];exact VJ k _ _ _ (by simp))
    exact hw _ hin rfl rfl
   ·cases o₂<;>simp only [Sem.runT,ho] at hw ⊢<;>first|exact h|exact ih _ _ r o (hset e) hc hw
 | store m b v k ih =>
  intro w es r o h hc hw
  by_cases hag:(∃ c,v=.agg c)∨∃ c,v=.tuple c
  ·rcases hag with ⟨c,rfl⟩|⟨c,rfl⟩<;>exact h
  ·have hrun:(Sem.store m b v k).runT P w es=match w.cell? b with
    | some _ =>
     if w.frozen? b then (.halt (.unsupported (.unsafePointer "a write to bytes that a string shares")) w, es)
     else k.runT P (w.setCell b v) (es.push ⟨.cell b,true,m == .atomic⟩)
    | none=>match w.farStore P b v (m == .atomic) with
     | .ok (w,touched)=>k.runT P w (es ++ touched.toArray.map (⟨.cell ·,true,m == .atomic⟩))
     | .error h=>(.halt h w,es):=by
    cases v<;>first|(exfalso;exact hag (.inl ⟨_,rfl⟩))|(exfalso;exact hag (.inr ⟨_,rfl⟩))|rfl
   rw [hrun] at hw ⊢;cases hb:w.cell? b with
   | some v₀ =>
    simp only [hb] at hw ⊢
    split at hw
    ·rename_i hf;rw [if_pos hf];exact h
    ·rename_i hf
     rw [if_neg hf];refine ih _ _ r o ?_ hc hw;rw [heap_setCell,h]
     by_cases hbr:r=b.block
     ·simp only [Option.map_some,hbr,if_true]
     ·simp only [Option.map_some,hbr,if_false]
   | none =>
    simp only [hb] at hw ⊢;cases hf:w.farStore P b v (m == .atomic) with
    | error e=>simp only [hf];exact h
    | ok q =>
     obtain ⟨w',l⟩:=q;simp only [hf] at hw ⊢;refine ih _ _ r o ?_ hc hw;unfold World.farStore at hf
     split at hf
     ·split at hf
      ·rename_i r' hr
       injection hf with hf;subst hf
       exact Vx hr h hc
      ·cases hf
     ·cases hf
end
structure UU (S:YK) (w w':World):Prop where
 cells:∀ a z,S.cells a→w.cell? a=some z→w'.cell? a=some z
 objs:∀ r o,S.objs r→w.heap[r]? = some o→(∀ c t f,o≠.cells c t f)→w'.heap[r]? = some o
theorem UU.refl (S:YK) (w:World):UU S w w:=⟨fun _ _ _ h=>h,fun _ _ _ h _=>h⟩
theorem UU.trans {S:YK} {a b c:World} (h:UU S a b) (k:UU S b c):UU S a c:=⟨fun x z hx hz=>k.cells x z hx (h.cells x z hx hz),fun r o hr ho hc=>k.objs r o hr (h.objs r o hr ho hc) hc⟩
theorem UU.of_events {P:Program} {S:YK} {w:World} {α:Type} {s:Sem α} {B:Nat} (h:∀ e∈s.events P w #[],EvG S B e):UU S w (Result.world (s.run P w)):=by
 have e1:(s.runT P w #[]).1=s.run P w:=Sem.runT_fst P s w #[];refine ⟨fun a z ha hz=>?_,fun r o hr ho hc=>?_⟩
 ·rw [← e1]
  exact cell_kept s w #[] a z hz fun e he hw hl=>(h e he).1 hw a hl ha
 ·rw [← e1]
  exact XdT s w #[] r o ho hc fun e he hw hl=>(h e he).2.1 hw r hl hr
