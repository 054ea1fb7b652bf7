/- A frame all of whose operations are mild: the steps of its regions, its return, its panic. -/
import Derived.Test.YtdgfekplfipekaaVGoN
import Derived.Conc.Own5
import Derived.Conc.Listed
set_option linter.all false
set_option maxRecDepth 100000
set_option maxHeartbeats 16000000
namespace Go.Proofs.Ytdgfekplfipekaa
open Go.Conc
def YY (F:Fns):Code→Bool
 | .skip | .ret | .label _ | .exit _ | .goto _ | .refuse _=>true
 | .region _ ops _=>ops.all fun o=>mild F o.op
 | .seq a b | .cond _ a b=>YY F a && YY F b
 | .block _ c | .loop c | .scope c=>YY F c
 | .rangeFunc ..=>false
def YJ (F:Fns):Item→Bool
 | .code c | .inLoop c | .inScope c=>YY F c
 | .inBlock _=>true
 | .inRegion ops _=>ops.all fun o=>mild F o.op
 | _=>false
structure Fit (F:Fns) (fr:Frame):Prop where
 kind:fr.kind=.normal
 round:fr.roundOf=none
 defers:fr.defers = []
 todo:∀ x∈fr.todo,YJ F x=true
 fn:F.fn fr.fn=true∨F.top fr.fn=true
structure Closed (P:Program) (S:YK) (F:Fns):Prop where
 maps:F.maps=true→∀ r,¬ S.objs r
 text : ∀ f, F.fn f = true → ∃ fn c, P.funcs[f]? = some fn ∧ (fn.name == "runtime.NumGoroutine") = false ∧ fn.body = some c ∧ YY F c = true
 exts:∀ f,F.ext f=true→QY P f
 tops:∀ f,F.top f=true→∃ fn,P.funcs[f]? = some fn
 early:P.follows .staticDataAhead=true∧∀ g,P.stepOf g=none
theorem Closed.there {P:Program} {S:YK} {F:Fns} (h:Closed P S F) {fr:Frame} (hf:Fit F fr):∃ fn,P.funcs[fr.fn]? = some fn:=by
 rcases hf.fn with e|e
 ·obtain ⟨fn,c,h1,_⟩:=h.text _ e
  exact ⟨fn,h1⟩
 ·exact h.tops _ e
theorem Closed.stands {P:Program} {S:YK} {F:Fns} (h:Closed P S F):Q7 P F:=⟨fun f hf=>by
 obtain ⟨fn,c,h1,h2,h3,_⟩:=h.text f hf;exact ⟨fn,h1,h2,by rw [h3];rfl⟩,h.exts⟩
def _root_.Go.Frame.app (fr:Frame) (t:List Item):Frame:={ fr with todo:=fr.todo ++ t }
def Shut (t:List Item):Prop:=(∀ id,exitTo id t=none)∧∀ l,gotoIn l t=none
theorem QV {id:Nat} (t:List Item):∀ {k k':List Item},exitTo id k=some k'→exitTo id (k ++ t)=some (k' ++ t)
 | [],_,h=>by simp [exitTo] at h
 | y::k,k',h=>by
  cases y<;>first|(simp only [List.cons_append,exitTo] at h ⊢;exact QV t h)|skip
  simp only [List.cons_append,exitTo] at h ⊢
  split at h
  ·rename_i e;rw [if_pos e];rw [← Option.some.inj h]
  ·rename_i e;rw [if_neg e];exact QV t h
theorem Ql {id:Nat} {t:List Item} (ht:exitTo id t=none):∀ {k:List Item},exitTo id k=none→exitTo id (k ++ t)=none
 | [],_=>ht
 | y::k,h=>by
  cases y<;>first|(simp only [List.cons_append,exitTo] at h ⊢;exact Ql ht h)|skip
  simp only [List.cons_append,exitTo] at h ⊢
  split at h
  ·cases h
  ·rename_i e;rw [if_neg e];exact Ql ht h
theorem QT {l:Nat} (t:List Item):∀ {k k':List Item},gotoIn l k=some k'→gotoIn l (k ++ t)=some (k' ++ t)
 | [],_,h=>by simp [gotoIn] at h
 | y::k,k',h=>by
  cases y<;>first|(simp only [List.cons_append,gotoIn] at h ⊢;exact QT t h)|skip
  simp only [List.cons_append,gotoIn] at h ⊢
  split at h
  ·rw [← Option.some.inj h];rfl
  ·exact QT t h
theorem Qj {l:Nat} {t:List Item} (ht:gotoIn l t=none):∀ {k:List Item},gotoIn l k=none→gotoIn l (k ++ t)=none
 | [],_=>ht
 | y::k,h=>by
  cases y<;>first|(simp only [List.cons_append,gotoIn] at h ⊢;exact Qj ht h)|skip
  simp only [List.cons_append,gotoIn] at h ⊢
  split at h
  ·cases h
  ·exact Qj ht h
inductive ZX where
 | to (fr:Frame)
 | push (fr fr':Frame)
 | pop (v:Value)
 | raise (ch:List PanicEntry)
def ZX.gor:ZX→List Frame→Goroutine
 | .to fr,cs=>G fr cs
 | .push fr fr',cs=>G fr' (fr::cs)
 | .pop v,c::cs=>G (c.finish v) cs
 | .raise ch,c::cs=>G (c.raise ch) cs
 | _,[]=>default
def ZX.app:ZX→List Item→ZX
 | .to fr,t=>.to (fr.app t)
 | .push fr fr',t=>.push (fr.app t) fr'
 | s,_=>s
def ZX.Fit (F:Fns):ZX→Prop
 | .to fr=>Go.Proofs.Ytdgfekplfipekaa.Fit F fr
 | .push fr fr'=>Go.Proofs.Ytdgfekplfipekaa.Fit F fr∧Go.Proofs.Ytdgfekplfipekaa.Fit F fr'
 | _=>True
def Xgh (fr:Frame):Prop:=∃ ops i rest k,fr.todo=.inRegion ops (i::rest)::k
def ZX.from (fr:Frame):ZX→Prop
 | .to _=>True
 | .push fr₁ _=>fr₁=fr∧fr.mode=.run∧Xgh fr
 | .pop _=>fr.mode=.returning
 | .raise _=>∃ ch,fr.mode=.panicking ch
def ZG (P:Program) (S:YK) (F:Fns) (fr:Frame) (T:List Item→Prop):Prop:=∀ x w,X6 S x w→∃ (n:Nat) (f:Nat→Nat),
 (∀ τ d c cs main t,Shut t→Agree τ d n f→∃ o y es,stepG P main (G (fr.app t) (c::cs)) (under x τ d)=.ended o y es) ∨
 ∃ (s:ZX) (y w':World) (es:Array Event),s.Fit F∧s.from fr∧X6 S y w'∧Y7 w'=Y7 w∧w.heap.size≤w'.heap.size∧UU S w w'∧(∀ e∈es,EvG S w'.heap.size e) ∧
  (∀ t cs main,T t→(cs = []→fr.mode=.run)→stepG P main (G (fr.app t) cs) w=.go ((s.app t).gor cs) w' es) ∧
  ∀ τ d t c cs main,T t→Agree τ d n f→∃ es',stepG P main (G (fr.app t) (c::cs)) (under x τ d)=.go ((s.app t).gor (c::cs)) (under y τ (d + n)) es'
section
variable {P:Program} {S:YK} {F:Fns} {fr:Frame} {T:List Item→Prop}
theorem XC {fr':Frame} (h':Fit F fr') (h:∀ w t cs main,T t→stepG P main (G (fr.app t) cs) w=.go (G (fr'.app t) cs) w #[]):ZG P S F fr T:=fun x w hT =>
 ⟨0,fun _=>0,.inr ⟨.to fr',x,w,#[],h',trivial,hT,rfl,Nat.le_refl _,.refl _ _,by simp,fun t cs main ht _=>h w t cs main ht,fun τ d t c cs main ht _=>⟨#[],h _ t (c::cs) main ht⟩⟩⟩
theorem Y5 (h:∀ w t c cs main,Shut t→∃ o y es,stepG P main (G (fr.app t) (c::cs)) w=.ended o y es):ZG P S F fr T:=fun _ _ _ =>
 ⟨0,fun _=>0,.inl fun _ _ c cs main t ht _=>h _ t c cs main ht⟩
theorem Fit.with (h:Fit F fr) {todo:List Item} (ht:∀ x∈todo,YJ F x=true):Fit F { fr with todo }:=⟨h.kind,h.round,h.defers,ht,h.fn⟩
theorem Fit.mode (h:Fit F fr) (m:FrameMode):Fit F { fr with mode:=m }:=⟨h.kind,h.round,h.defers,h.todo,h.fn⟩
theorem UK {id:Nat}:∀ {k k':List Item},exitTo id k=some k'→(∀ x∈k,YJ F x=true)→∀ x∈k',YJ F x=true
 | [],_,h,_=>by simp [exitTo] at h
 | y::k,k',h,hk=>by
  have hk2:∀ x∈k,YJ F x=true:=fun x hx=>hk x (List.mem_cons_of_mem _ hx);cases y<;>first|(exact UK (k:=k) (by simpa [exitTo] using h) hk2)|skip
  rename_i id'
  simp only [exitTo] at h
  split at h
  ·obtain rfl:=Option.some.inj h;exact hk2
  ·exact UK h hk2
theorem Wz {l:Nat}:∀ {c r:Code},findLabel c l=some r→YY F c=true→YY F r=true:=by
 intro c
 induction c with
 | seq a b iha ihb =>
  intro r h hc;simp only [YY,Bool.and_eq_true] at hc;simp only [findLabel] at h
  split at h
  ·rename_i rest hr
   obtain rfl:=Option.some.inj h;simp only [YY,Bool.and_eq_true];exact ⟨iha hr hc.1,hc.2⟩
  ·exact ihb h hc.2
 | label l' =>
  intro r h _;simp only [findLabel] at h
  split at h
  ·obtain rfl:=Option.some.inj h;rfl
  ·cases h
 | _=>intro r h;simp [findLabel] at h
theorem UJ {l:Nat}:∀ {k k':List Item},gotoIn l k=some k'→(∀ x∈k,YJ F x=true)→∀ x∈k',YJ F x=true
 | [],_,h,_=>by simp [gotoIn] at h
 | y::k,k',h,hk=>by
  have hk2:∀ x∈k,YJ F x=true:=fun x hx=>hk x (List.mem_cons_of_mem _ hx);cases y<;>first|(exact UJ (k:=k) (by simpa [gotoIn] using h) hk2)|skip
  rename_i body
  simp only [gotoIn] at h
  split at h
  ·rename_i rest hr
   obtain rfl:=Option.some.inj h;have hb:YY F body=true:=hk _ (List.mem_cons_self ..);intro x hx;rcases List.mem_cons.1 hx with rfl|hx
   ·exact Wz hr hb
   ·rcases List.mem_cons.1 hx with rfl|hx
    ·exact hb
    ·exact hk2 x hx
  ·exact UJ h hk2
theorem WR (h:Fit F fr) (hm:fr.mode=.run) {i:Item} {k:List Item} (ht:fr.todo=i::k) (hi:∀ ops l,i≠.inRegion ops l) (hr:∀ id ops,i≠.code (.region id ops true)):ZG P S F fr T:=by
 have hk:∀ x∈k,YJ F x=true:=fun x hx=>h.todo x (ht ▸ List.mem_cons_of_mem _ hx);have hi0:YJ F i=true:=h.todo i (ht ▸ List.mem_cons_self ..);obtain ⟨fn,tmps,todo,defers,mode,kind,roundOf⟩:=fr;obtain rfl:todo=_:=ht;obtain rfl:mode=_:=hm;obtain rfl:roundOf=none:=h.round;cases i with
 | code c =>
  cases c with
  | skip=>exact XC (h.with hk) fun w t cs main _=>by simp [Frame.app,G,stepG,stepG.exec]
  | label l=>exact XC (h.with hk) fun w t cs main _=>by simp [Frame.app,G,stepG,stepG.exec]
  | ret=>exact XC (h.mode .returning) fun w t cs main _=>by simp [Frame.app,G,stepG,stepG.exec]
  | region id ops draw =>
   cases draw with
   | true=>exact absurd rfl (hr id ops)
   | false =>
    refine XC (h.with (todo:=.inRegion ops (List.range ops.size)::k) fun x hx=>?_) fun w t cs main _=>by simp [Frame.app,G,stepG,stepG.exec]
    rcases List.mem_cons.1 hx with rfl|hx
    ·exact hi0
    ·exact hk x hx
  | seq a b =>
   simp only [YJ,YY,Bool.and_eq_true] at hi0;refine XC (h.with (todo:=.code a::.code b::k) fun x hx=>?_) fun w t cs main _=>by simp [Frame.app,G,stepG,stepG.exec]
   rcases List.mem_cons.1 hx with rfl|hx
   ·exact hi0.1
   ·rcases List.mem_cons.1 hx with rfl|hx
    ·exact hi0.2
    ·exact hk x hx
  | cond e a b =>
   simp only [YJ,YY,Bool.and_eq_true] at hi0
   by_cases hb:∃ t,Frame.eval { fn,tmps,todo:=.code (.cond e a b)::k,defers,mode:=.run,kind,roundOf:=none } e=.bool t
   ·obtain ⟨t,ht⟩:=hb
    refine XC (h.with (todo:=.code (if t then a else b)::k) fun x hx=>?_) fun w t₂ cs main _=>by
     have ht':Frame.eval { fn,tmps,todo:=.code (.cond e a b)::(k ++ t₂),defers,mode:=.run,kind,roundOf:=none } e=.bool t:=ht;simp [Frame.app,G,stepG,stepG.exec,ht']
    rcases List.mem_cons.1 hx with rfl|hx
    ·cases t
     ·exact hi0.2
     ·exact hi0.1
    ·exact hk x hx
   ·refine Y5 fun w t c cs main _=>?_
    simp only [Frame.app,G,stepG,stepG.exec,List.cons_append]
    split
    ·rename_i t' ht;exact absurd ⟨t',ht⟩ hb
    ·exact ⟨_,_,_,rfl⟩
  | block id c =>
   refine XC (h.with (todo:=.code c::.inBlock id::k) fun x hx=>?_) fun w t cs main _=>by simp [Frame.app,G,stepG,stepG.exec]
   rcases List.mem_cons.1 hx with rfl|hx
   ·exact hi0
   ·rcases List.mem_cons.1 hx with rfl|hx
    ·rfl
    ·exact hk x hx
  | loop c =>
   refine XC (h.with (todo:=.code c::.inLoop c::k) fun x hx=>?_) fun w t cs main _=>by simp [Frame.app,G,stepG,stepG.exec]
   rcases List.mem_cons.1 hx with rfl|hx
   ·exact hi0
   ·rcases List.mem_cons.1 hx with rfl|hx
    ·exact hi0
    ·exact hk x hx
  | scope c =>
   refine XC (h.with (todo:=.code c::.inScope c::k) fun x hx=>?_) fun w t cs main _=>by simp [Frame.app,G,stepG,stepG.exec]
   rcases List.mem_cons.1 hx with rfl|hx
   ·exact hi0
   ·rcases List.mem_cons.1 hx with rfl|hx
    ·exact hi0
    ·exact hk x hx
  | rangeFunc f ps a b=>cases hi0
  | refuse why=>exact Y5 fun w t c cs main _=>⟨_,_,_,by simp only [Frame.app,G,stepG,stepG.exec,List.cons_append];rfl⟩
  | exit id =>
   cases he:exitTo id k with
   | some k'=>exact XC (h.with (UK he hk)) fun w t cs main _=>by simp [Frame.app,G,stepG,stepG.exec,QV t he]
   | none=>exact Y5 fun w t c cs main ht=>⟨_,_,_,by simp only [Frame.app,G,stepG,stepG.exec,List.cons_append,Ql (ht.1 id) he];rfl⟩
  | goto l =>
   cases he:gotoIn l k with
   | some k'=>exact XC (h.with (UJ he hk)) fun w t cs main _=>by simp [Frame.app,G,stepG,stepG.exec,QT t he]
   | none=>exact Y5 fun w t c cs main ht=>⟨_,_,_,by simp only [Frame.app,G,stepG,stepG.exec,List.cons_append,Qj (ht.2 l) he];rfl⟩
 | inBlock id=>exact XC (h.with hk) fun w t cs main _=>by simp [Frame.app,G,stepG,stepG.exec]
 | inScope c=>exact XC (h.with hk) fun w t cs main _=>by simp [Frame.app,G,stepG,stepG.exec]
 | inLoop c =>
  refine XC (h.with (todo:=.code c::.inLoop c::k) fun x hx=>?_) fun w t cs main _=>by simp [Frame.app,G,stepG,stepG.exec]
  rcases List.mem_cons.1 hx with rfl|hx
  ·exact hi0
  ·rcases List.mem_cons.1 hx with rfl|hx
   ·exact hi0
   ·exact hk x hx
 | inRegion ops l=>exact absurd rfl (hi ops l)
 | _=>cases hi0
end
section
variable {P:Program} {S:YK} {F:Fns} {fr:Frame} {T:List Item→Prop}
theorem Fit.finish (h:Fit F fr) (v:Value):Fit F (fr.finish v):=by
 obtain ⟨fn,tmps,todo,defers,mode,kind,roundOf⟩:=fr;cases todo with
 | nil=>exact h
 | cons i k =>
  have h0:YJ F i=true:=h.todo i (List.mem_cons_self ..);cases i<;>first|exact h|(cases h0;done)|skip
  rename_i ops l
  cases l with
  | nil=>exact h
  | cons j rest =>
   refine ⟨h.kind,h.round,h.defers,fun x hx=>?_,h.fn⟩;rcases List.mem_cons.1 hx with rfl|hx
   ·exact h0
   ·exact h.todo x (List.mem_cons_of_mem _ hx)
theorem Fit.raise (h:Fit F fr) (ch:List PanicEntry):Fit F (fr.raise ch):=by
 unfold Frame.raise
 split<;>exact ⟨h.kind,h.round,h.defers,h.todo,h.fn⟩
theorem Closed.enter (hC:Closed P S F) {f:FuncId} (hf:F.fn f=true) (args:Array Value):Fit F (Frame.enter P f args .normal):=by
 obtain ⟨fn,c,h1,_,h3,h4⟩:=hC.text f hf;refine ⟨rfl,rfl,rfl,fun x hx=>?_,.inl hf⟩;simp only [Frame.enter,h1,Option.bind_some,h3,Option.getD_some,List.mem_cons,List.not_mem_nil,or_false] at hx;subst hx;exact h4
theorem XbB (hC:Closed P S F) (fr:Frame) (cs:List Frame) (g:Nat) (w:World):∃ o y es,early P fr cs none g w=.ended o y es:=by
 unfold early;simp only [hC.early.1,Bool.not_true,Bool.false_eq_true,if_false,hC.early.2 g];exact ⟨_,_,_,rfl⟩
theorem Vz (hC:Closed P S F) (h:Fit F fr) {s:Sem Next} (hs:Sim P S (Zm F) s) (hst:∀ w t cs main,stepG P main (G (fr.app t) cs) w=stepG.apply P true (fr.app t) cs none s w)
 {i:Item} {k:List Item} (ht:fr.todo=i::k) (hk:∀ d a b c,i≠.call d a b c) (hop:fr.mode=.run∧Xgh fr):ZG P S F fr T:=fun x w hT=>by
 have hfin:∀ t v,(fr.app t).finish v=(fr.finish v).app t:=fun t v=>by
  obtain ⟨fn,tmps,todo,defers,mode,kind,roundOf⟩:=fr;obtain rfl:todo=_:=ht;cases i<;>try rfl
  rename_i ops l
  cases l<;>rfl
 have hrai:∀ t ch,(fr.app t).raise ch=(fr.raise ch).app t:=fun t ch=>by
  obtain ⟨fn,tmps,todo,defers,mode,kind,roundOf⟩:=fr;cases mode<;>rfl
 have hke:∀ t,((fr.app t).kind == CallKind.early)=false:=fun t=>by show (fr.kind == _)=_;rw [h.kind];rfl
 have hkt:∀ t d a b c k,(fr.app t).todo≠.call d a b c::k:=fun t d a b c k' e=>by
  simp only [Frame.app,ht,List.cons_append,List.cons.injEq] at e;exact hk _ _ _ _ e.1
 obtain ⟨n,f,hb|⟨r,hf,hr,evs,he,hev⟩⟩:=hs x w hT
 ·refine ⟨n,f,.inl fun τ d c cs main t _ hA=>?_⟩
  obtain ⟨hh,y,e,hbad⟩:=hb τ d hA;rw [hst];simp only [stepG.apply,Sem.runT_eq,if_true,e];cases hh<;>first|(cases hbad;done)|skip
  ·rename_i u
   cases u<;>first
    | exact ⟨_,_,_,rfl⟩
    | (rename_i g;obtain ⟨o,y',es,e'⟩:=XbB hC (fr.app t) (c::cs) g y;simp only [e'];exact ⟨_,_,_,rfl⟩)
  ·exact ⟨_,_,_,rfl⟩
 ·have hev':∀ e∈seen P fr.fn (s.events P w #[]),EvG S (Result.world (s.run P w)).heap.size e:=fun e hm=>hev e (by have:=mem_seen hm;rw [he] at this;simpa using this)
  have hstay:=UU.of_events (P:=P) (S:=S) (w:=w) (s:=s) (B:=(Result.world (s.run P w)).heap.size) fun e hm=>hev e (by rw [he] at hm;simpa using hm);refine ⟨n,f,.inr ?_⟩;cases hw:s.run P w with
  | halt hh w₁ =>
   rw [hw] at hf hev' hstay;cases hf with
   | @panic v y _ hT₁ ht hsz =>
    refine ⟨.to (fr.raise [{ v,recovered:=false }]),y,w₁,seen P fr.fn (s.events P w #[]) ++ #[],h.raise _,trivial,hT₁,ht,hsz,hstay,fun e hm=>hev' e (by simpa using hm),fun t cs main _ hcs=>?_,fun τ d t c cs main _ hA=>?_⟩
    ·rw [hst];simp only [stepG.apply,Sem.runT_eq,if_true,hw,hke,hfin,hrai,Bool.false_eq_true,if_false];rfl
    ·rw [hst];simp only [stepG.apply,Sem.runT_eq,if_true,hr τ d hA,Result.tap,hfin,hrai];exact ⟨_,rfl⟩
  | ok b w₁ =>
   rw [hw] at hf hev' hstay;cases hf with
   | @ok a _ y _ hN hT₁ ht hsz =>
    obtain ⟨rfl,hN⟩:=hN;rcases hN with ⟨v,rfl⟩|rfl|⟨g,args,rfl,hg⟩
    ·refine ⟨.to (fr.finish v),y,w₁,seen P fr.fn (s.events P w #[]) ++ #[],h.finish _,trivial,hT₁,ht,hsz,hstay,fun e hm=>hev' e (by simpa using hm),fun t cs main _ hcs=>?_,fun τ d t c cs main _ hA=>?_⟩
     ·rw [hst];simp only [stepG.apply,Sem.runT_eq,if_true,hw,hke,hfin,hrai,Bool.false_eq_true,if_false];rfl
     ·rw [hst];simp only [stepG.apply,Sem.runT_eq,if_true,hr τ d hA,Result.tap,hfin,hrai];exact ⟨_,rfl⟩
    ·refine ⟨.to (fr.finish undef),y,w₁,seen P fr.fn (s.events P w #[]) ++ #[],h.finish _,trivial,hT₁,ht,hsz,hstay,fun e hm=>hev' e (by simpa using hm),fun t cs main _ hcs=>?_,fun τ d t c cs main _ hA=>?_⟩
     ·rw [hst];simp only [stepG.apply,Sem.runT_eq,if_true,hw,hke,hfin,hrai,Bool.false_eq_true,if_false];rfl
     ·rw [hst];simp only [stepG.apply,Sem.runT_eq,if_true,hr τ d hA,Result.tap,hfin,hrai];exact ⟨_,rfl⟩
    ·refine ⟨.push fr (Frame.enter P g args .normal),y,w₁,seen P fr.fn (s.events P w #[]) ++ #[],⟨h,hC.enter hg args⟩,⟨rfl,hop⟩,hT₁,ht,hsz,hstay,fun e hm=>hev' e (by simpa using hm),fun t cs main _ hcs=>?_,fun τ d t c cs main _ hA=>?_⟩
     ·rw [hst];simp only [stepG.apply,Sem.runT_eq,if_true,hw,hke,Bool.false_eq_true,if_false]
      split
      ·rename_i e;exact absurd e (hkt _ _ _ _ _ _)
      ·rfl
     ·rw [hst];simp only [stepG.apply,Sem.runT_eq,if_true,hr τ d hA,Result.tap,hke,Bool.false_eq_true,if_false]
      split
      ·rename_i e;exact absurd e (hkt _ _ _ _ _ _)
      ·exact ⟨_,rfl⟩
theorem Ux {fn:Func} {tmps:Array Value}:Sim P S (fun _=>True) (results fn tmps):=by
 unfold results;refine Sim.bind (YF (fun a=>?_) _) fun _ _=>Sim.pure trivial
 split
 ·exact Sim.pure trivial
 ·exact YM.bind fun _ _=>Uy
theorem U1 (hC:Closed P S F) (h:Fit F fr) (hm:fr.mode=.run) {ops:Array Oper} {l:List Nat} {k:List Item} (ht:fr.todo=.inRegion ops l::k):ZG P S F fr T:=by
 have hk:∀ x∈k,YJ F x=true:=fun x hx=>h.todo x (ht ▸ List.mem_cons_of_mem _ hx);have hi0:YJ F (.inRegion ops l)=true:=h.todo _ (ht ▸ List.mem_cons_self ..);cases l with
 | nil =>
  obtain ⟨fn,tmps,todo,defers,mode,kind,roundOf⟩:=fr;obtain rfl:todo=_:=ht;obtain rfl:mode=_:=hm;exact XC (h.with hk) fun w t cs main _=>by simp [Frame.app,G,stepG,stepG.exec]
 | cons i rest =>
  have hro:=h.round;cases hw:((ops[i]?).map (Region.wanted · (yielded ops fr.tmps))).getD false with
  | false =>
   refine XC (h.finish undef) fun w t cs main _=>?_;obtain ⟨fn,tmps,todo,defers,mode,kind,roundOf⟩:=fr;obtain rfl:todo=_:=ht;obtain rfl:mode=_:=hm;simp only at hw;simp [Frame.app,G,stepG,stepG.exec,hw,Frame.finish]
  | true =>
   cases ho:ops[i]? with
   | none=>rw [ho] at hw;cases hw
   | some o =>
    have hmild:mild F o.op=true:=by
     simp only [YJ,Array.all_eq_true_iff_forall_mem] at hi0;exact hi0 o (Array.mem_of_getElem? ho)
    refine Vz hC h (QO (P:=P) (S:=S) hC.stands hC.maps (ρ:=fr.eval) (fun f=>rfl) hmild) (fun w t cs main=>?_) ht (fun d a b c e=>by cases e) ⟨hm,_,_,_,_,ht⟩;obtain ⟨fn,tmps,todo,defers,mode,kind,roundOf⟩:=fr;obtain rfl:todo=_:=ht;obtain rfl:mode=_:=hm;obtain rfl:roundOf=_:=hro;simp only [ho,Option.map_some,Option.getD_some] at hw;simp [Frame.app,G,stepG,stepG.exec,stepG.oper,Frame.oper?,hw,ho]
    rfl
theorem V5 (h:Fit F fr) (hm:fr.mode=.run) {id:Nat} {ops:Array Oper} {k:List Item} (ht:fr.todo=.code (.region id ops true)::k):ZG P S F fr T:=fun x w hT=>by
 have hk:∀ x∈k,YJ F x=true:=fun x hx=>h.todo x (ht ▸ List.mem_cons_of_mem _ hx);have hi0:YJ F (.code (.region id ops true))=true:=h.todo _ (ht ▸ List.mem_cons_self ..);refine ⟨1,fun _=>w.tape w.drawn (.order fr.fn id),.inr ⟨.to { fr with todo:=.inRegion ops (Region.schedule (P.follows .mixedOrders) ops (w.tape w.drawn (.order fr.fn id)))::k },x,{ w with drawn:=w.drawn + 1 },#[],h.with (fun y hy=>?_),trivial,hT.mvr w.tape _,rfl,Nat.le_refl _,⟨fun _ _ _ h=>h,fun _ _ _ h _=>h⟩,by simp,fun t cs main _ _=>?_,fun τ d t c cs main _ hA=>⟨#[],?_⟩⟩⟩
 ·rcases List.mem_cons.1 hy with rfl|hy
  ·exact hi0
  ·exact hk y hy
 ·obtain ⟨fn,tmps,todo,defers,mode,kind,roundOf⟩:=fr
  obtain rfl:todo=_:=ht;obtain rfl:mode=_:=hm;simp [Frame.app,ZX.app,G,stepG,stepG.exec,choose,Sem.run,Question.forced,Question.cut,ZX.gor]
 ·have h0:=hA 0 (by omega) (.order fr.fn id)
  obtain ⟨fn,tmps,todo,defers,mode,kind,roundOf⟩:=fr;obtain rfl:todo=_:=ht;obtain rfl:mode=_:=hm;simp only [Nat.add_zero] at h0;simp [Frame.app,ZX.app,G,stepG,stepG.exec,choose,Sem.run,Question.forced,Question.cut,ZX.gor,under,h0]
theorem QI (hC:Closed P S F) (h:Fit F fr) {ch:List PanicEntry} (hm:fr.mode=.panicking ch):ZG P S F fr T:=fun x w hT=>by
 obtain ⟨f,h1⟩:=hC.there h;have hd:=h.defers;have hst:∀ w t c cs main,stepG P main (G (fr.app t) (c::cs)) w=.go (G (c.raise ch) cs) w:=fun w t c cs main=>by
  obtain ⟨fn,tmps,todo,defers,mode,kind,roundOf⟩:=fr;obtain rfl:mode=_:=hm;obtain rfl:defers=_:=hd;simp [Frame.app,G,stepG,unwind,Frame.catches,h1]
 exact ⟨0,fun _=>0,.inr ⟨.raise ch,x,w,#[],trivial,⟨_,hm⟩,hT,rfl,Nat.le_refl _,.refl _ _,by simp,fun t cs main _ hcs=>(by cases cs with|nil=>(have:=hcs rfl;rw [hm] at this;cases this)|cons c cs=>exact hst w t c cs main),fun τ d t c cs main _ _=>⟨#[],hst _ t c cs main⟩⟩⟩
theorem QH (hC:Closed P S F) (h:Fit F fr) (hm:fr.mode=.returning):ZG P S F fr T:=fun x w hT=>by
 obtain ⟨f,h1⟩:=hC.there h;have hd:=h.defers;have hki:=h.kind;have hst:∀ w t c cs main,stepG P main (G (fr.app t) (c::cs)) w=GStep.after (seen P fr.fn ((results f fr.tmps).events P w #[])) (match (results f fr.tmps).run P w with
  | .ok v w=>.go (G (c.finish v) cs) w
  | .halt (.stuck s) w=>.ended (.stuck s ((fr.app t).pos P)) w
  | .halt _ w => .ended (.stuck "return: the result variables cannot be read" ((fr.app t).pos P)) w) := fun w t c cs main => by
  obtain ⟨fn,tmps,todo,defers,mode,kind,roundOf⟩:=fr;obtain rfl:mode=_:=hm;obtain rfl:defers=_:=hd;obtain rfl:kind=_:=hki;simp only [Frame.app,G,stepG,unwind,h1,Sem.runT_eq]
  congr 1
 obtain ⟨n,g,hb|⟨r,hf,hr,evs,he,hev⟩⟩:=Ux (P:=P) (S:=S) (fn:=f) (tmps:=fr.tmps) x w hT
 ·refine ⟨n,g,.inl fun τ d c cs main t _ hA=>?_⟩
  obtain ⟨hh,y,e,hbad⟩:=hb τ d hA;rw [hst,e];cases hh<;>exact ⟨_,_,_,rfl⟩
 ·have hstay:=UU.of_events (P:=P) (S:=S) (w:=w) (s:=results f fr.tmps) (B:=(Result.world ((results f fr.tmps).run P w)).heap.size) fun e hm=>hev e (by rw [he] at hm;simpa using hm)
  cases hw:(results f fr.tmps).run P w with
  | halt hh w₁ =>
   rw [hw] at hf;cases hf with
   | @panic v y _ _ _ _ =>
    refine ⟨n,g,.inl fun τ d c cs main t _ hA=>?_⟩;rw [hst,hr τ d hA];exact ⟨_,_,_,rfl⟩
  | ok b w₁ =>
   rw [hw] at hf hev hstay;cases hf with
   | @ok a _ y _ hN hT₁ ht hsz =>
    obtain ⟨rfl,_⟩:=hN;refine ⟨n,g,.inr ⟨.pop a,y,w₁,seen P fr.fn ((results f fr.tmps).events P w #[]) ++ #[],trivial,hm,hT₁,ht,hsz,hstay,fun e hm=>?_,fun t cs main _ hcs=>?_,fun τ d t c cs main _ hA=>?_⟩⟩
    ·have hm':e∈seen P fr.fn ((results f fr.tmps).events P w #[]):=by simpa using hm
     have:=mem_seen hm'
     rw [he] at this;exact hev e (by simpa using this)
    ·cases cs with
     | nil=>have:=hcs rfl;rw [hm] at this;cases this
     | cons c cs=>rw [hst,hw];rfl
    ·rw [hst,hr τ d hA];exact ⟨_,rfl⟩
theorem XaD (hC:Closed P S F) (h:Fit F fr) (hT:fr.todo = []→fr.mode=.run→∀ t,T t→t = []):ZG P S F fr T:=by
 cases hm:fr.mode with
 | returning=>exact QH hC h hm
 | panicking ch=>exact QI hC h hm
 | run =>
  cases ht:fr.todo with
  | nil =>
   refine XC (h.mode .returning) fun w t cs main ht₂=>?_;obtain rfl:=hT ht hm t ht₂;have hro:=h.round;obtain ⟨fn,tmps,todo,defers,mode,kind,roundOf⟩:=fr;obtain rfl:todo=_:=ht;obtain rfl:mode=_:=hm;obtain rfl:roundOf=_:=hro;simp [Frame.app,G,stepG,stepG.exec]
  | cons i k =>
   by_cases h1:∃ ops l,i=.inRegion ops l
   ·obtain ⟨ops,l,rfl⟩:=h1;exact U1 hC h hm ht
   ·by_cases h2:∃ id ops,i=.code (.region id ops true)
    ·obtain ⟨id,ops,rfl⟩:=h2;exact V5 h hm ht
    ·exact WR h hm ht (fun ops l e=>h1 ⟨ops,l,e⟩) (fun id ops e=>h2 ⟨id,ops,e⟩)
theorem VW (fr:Frame):fr.app [] = fr:=by unfold Frame.app;rw [List.append_nil]
theorem Xa5 (s:ZX):s.app [] = s:=by cases s<;>simp [ZX.app,VW]
theorem V4 (hC:Closed P S F) (h:Fit F fr) (x w:World) (hT:X6 S x w):∃ (n:Nat) (f:Nat→Nat),
 (∀ τ d c cs main,Agree τ d n f→∃ o y es,stepG P main (G fr (c::cs)) (under x τ d)=.ended o y es) ∨
 ∃ (s:ZX) (y w':World) (es:Array Event),s.Fit F∧s.from fr∧X6 S y w'∧Y7 w'=Y7 w∧w.heap.size≤w'.heap.size∧UU S w w'∧(∀ e∈es,EvG S w'.heap.size e) ∧
  (∀ cs main,(cs = []→fr.mode=.run)→stepG P main (G fr cs) w=.go (s.gor cs) w' es) ∧
  ∀ τ d c cs main,Agree τ d n f→∃ es',stepG P main (G fr (c::cs)) (under x τ d)=.go (s.gor (c::cs)) (under y τ (d + n)) es':=by
 obtain ⟨n,f,h1|⟨s,y,w',es,a1,a0,a2,a3,a4,a5,a6,a7,a8⟩⟩:=XaD (T:=fun t=>t = []) hC h (fun _ _ _ e=>e) x w hT
 ·exact ⟨n,f,.inl fun τ d c cs main hA=>by have:=h1 τ d c cs main [] ⟨fun _=>rfl,fun _=>rfl⟩ hA;rwa [VW] at this⟩
 ·refine ⟨n,f,.inr ⟨s,y,w',es,a1,a0,a2,a3,a4,a5,a6,fun cs main hcs=>?_,fun τ d c cs main hA=>?_⟩⟩
  ·have:=a7 [] cs main rfl hcs;rwa [VW,Xa5] at this
  ·have:=a8 τ d [] c cs main rfl hA;rwa [VW,Xa5] at this
