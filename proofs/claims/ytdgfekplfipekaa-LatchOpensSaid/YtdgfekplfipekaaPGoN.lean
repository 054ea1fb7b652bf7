/- A cell that no listed write names keeps its content, whatever the model's work. -/
import Derived.Test.YtdgfekplfipekaaPGoJ
set_option linter.all false
set_option maxRecDepth 100000
set_option maxHeartbeats 16000000
namespace Go.Proofs.Ytdgfekplfipekaa
open Go.Conc
section
variable {P:Program} {w:World}
theorem Wy {β:Type} {g:Array Value→Nat × β→Except String (Array Value)} (hg:∀ c y c',g c y=.ok c'→∀ k,k≠y.1→c'[k]? = c[k]?):∀ (l:List (Nat × β)) (c c':Array Value),l.foldlM g c=.ok c'→∀ k,(∀ y∈l,k≠y.1)→c'[k]? = c[k]?
 | [],c,c',h,k,_=>by cases h;rfl
 | y::l,c,c',h,k,hk=>by
  rw [List.foldlM_cons] at h;cases e:g c y with
  | error x=>rw [e] at h;cases h
  | ok c₁ =>
   rw [e] at h;exact (Wy hg l c₁ c' h k fun z hz=>hk z (List.mem_cons_of_mem _ hz)).trans (hg c y c₁ e k (hk y (List.mem_cons_self ..)))
theorem U0 {at_:Addr} {u:TypeId} {k:Addr} {v:Value} {atomic:Bool} {w':World} {l:List Addr} (hx:w.viewStore P at_ u k v atomic=.ok (w',l)) (a:Addr) (ha:a ∉ l) {z:Value} (hz:w.cell? a=some z):w'.cell? a=some z:=by
 unfold World.viewStore at hx;simp only [bind,Except.bind,pure,Except.pure,throw,throwThe,MonadExceptOf.throw,MonadExcept.throw] at hx;cases hs:w.seen P at_ u k atomic with
 | error e=>simp only [hs] at hx;revert hx;(repeat' split)<;>intro hx<;>simp_all
 | ok v' =>
  obtain ⟨c,e,f',first,like,cells⟩:=v';have hT:X6 ⟨fun _=>False,fun _=>False,0⟩ w w:=.self (fun _ h=>h.elim);obtain ⟨f,hw,hf,hb,hb2⟩:=hT.seen hs;simp only [hs] at hx
  split at hx
  ·cases hx
  cases hbs:v.bytes? with
  | none=>simp only [hbs] at hx;cases hx
  | some bytes =>
   simp only [hbs] at hx
   split at hx
   ·cases hx
   split at hx
   ·cases hx
   rename_i c' hfold
   simp only [Except.ok.injEq,Prod.mk.injEq] at hx;obtain ⟨rfl,rfl⟩:=hx;have h4:=Wy (fun c y c' hc=>by
    revert hc
    split
    ·intro hc;cases hc
    split
    ·intro hc;cases hc
    split
    ·split
     ·intro hc k hk
      injection hc with hc;subst hc
      rw [Array.getElem?_setIfInBounds_ne (fun e=>hk e.symm)]
     ·intro hc;cases hc
    ·intro hc;cases hc) _ _ _ hfold
   unfold World.cell? at hz ⊢
   by_cases e1:at_.block=a.block
   ·have hlt:at_.block < w.heap.size:=XaL hb
    rw [← e1] at hz ⊢;rw [hb] at hz;rw [Array.getElem?_setIfInBounds_self_of_lt hlt];simp only at hz ⊢
    split at hz
    ·cases hz
    rename_i hsp
    rw [if_neg hsp,h4 a.off fun y hy e=>ha ?_]
    ·exact hz
    ·refine List.mem_map.2 ⟨y,hy,?_⟩
     obtain ⟨b,o,sp⟩:=a
     have:sp=none:=by simpa using hsp
     subst this;simp only at e e1;rw [e1,e]
   ·rw [Array.getElem?_setIfInBounds_ne e1];exact hz
theorem VT {b:Addr} {v:Value} {atomic:Bool} {w':World} {l:List Addr} (hx:w.farStore P b v atomic=.ok (w',l)) (a:Addr) (ha:a ∉ l) {z:Value} (hz:w.cell? a=some z):w'.cell? a=some z:=by
 unfold World.farStore at hx
 split at hx
 ·split at hx
  ·rename_i r hr
   injection hx with hx;subst hx
   exact U0 hr a ha hz
  ·cases hx
 ·cases hx
theorem Xi {a b:Addr} {v:Value} (h:a≠b) {z:Value} (hz:w.cell? a=some z):(w.setCell b v).cell? a=some z:=by
 unfold World.cell? at hz ⊢;rw [heap_setCell];cases e:w.heap[a.block]? with
 | none=>rw [e] at hz;cases hz
 | some o =>
  rw [e] at hz;cases o<;>first|(cases hz;done)|skip
  rename_i c t fr
  simp only at hz
  split at hz
  ·cases hz
  rename_i hsp
  by_cases hb:a.block=b.block
  ·simp only [Option.map_some,hb,if_true,hsp,Bool.false_eq_true,if_false]
   by_cases hs:b.spot.isSome=true
   ·simp only [hs,if_true];exact hz
   ·simp only [hs,Bool.false_eq_true,if_false]
    rw [Array.getElem?_setIfInBounds_ne]
    ·exact hz
    ·intro ho
     apply h;obtain ⟨b1,o1,s1⟩:=a;obtain ⟨b2,o2,s2⟩:=b;have h1:s1=none:=by simpa using hsp
     have h2:s2=none:=by simpa using hs
     simp_all
  ·simp only [Option.map_some,hb,if_false,hsp,Bool.false_eq_true];exact hz
theorem Xei {α:Type} (q:Ask α):∀ w:World,(w.ask q).2.heap=w.heap:=by
 induction q with
 | done a=>intro w;rfl
 | ask what range k ih =>
  intro w;simp only [World.ask]
  split
  ·exact ih _ _
  ·exact (ih _ _).trans rfl
theorem XaC (w:World) (c:Sys):(w.sys c).2.heap=w.heap:=by
 have h:=Xei (Kernel.perform c w.os) w;unfold World.sys
 split
 ·rfl
 ·rename_i e;rw [e] at h;exact h
theorem VJ {α:Type} (s:Sem α):∀ (w:World) (es:Array Event) (e:Event),e∈es→e∈(s.runT P w es).2:=by
 induction s with
 | pure a=>intro w es e h;exact h
 | load m b k ih=>intro w es e h;simp only [Sem.runT];(repeat' split)<;>first | exact ih _ _ _ _ (by simp [h]) | exact h
 | store m b v k ih=>intro w es e h;cases v<;>simp only [Sem.runT]<;>(try (repeat' split))<;>first | exact ih _ _ _ (by simp [h]) | exact h
 | new o k ih=>intro w es e h;exact ih _ _ _ _ h
 | shape r k ih=>intro w es e h;exact ih _ _ _ _ h
 | freeze b n k ih=>intro w es e h;exact ih _ _ _ h
 | frozen b k ih=>intro w es e h;exact ih _ _ _ _ h
 | getObj r k ih=>intro w es e h;simp only [Sem.runT];(repeat' split)<;>first | exact ih _ _ _ _ (by simp [h]) | exact h
 | setObj r o k ih=>intro w es e h;simp only [Sem.runT];(repeat' split)<;>first | exact ih _ _ _ (by simp [h]) | exact h
 | choose q k ih=>intro w es e h;simp only [Sem.runT];(repeat' split)<;>exact ih _ _ _ _ h
 | sys c k ih=>intro w es e h;exact ih _ _ _ _ (by simp [h])
 | program k ih=>intro w es e h;exact ih _ _ _ _ h
 | mark m k ih=>intro w es e h;exact ih _ _ _ (by simp [h])
 | halt h'=>intro w es e h;exact h
theorem cell_kept {α:Type} (s:Sem α):∀ (w:World) (es:Array Event) (a:Addr) (z:Value),w.cell? a=some z→(∀ e∈(s.runT P w es).2,e.write=true→e.loc≠.cell a)→(Result.world (s.runT P w es).1).cell? a=some z:=by
 induction s with
 | pure a=>intro w es a z h _;exact h
 | halt h'=>intro w es a z h _;exact h
 | new o k ih =>
  intro w es a z h hw;refine ih _ _ _ a z ?_ hw;have hlt:=Xt h;unfold World.cell? at h ⊢;rw [Array.getElem?_push,if_neg (Nat.ne_of_lt hlt)];exact h
 | shape r k ih=>intro w es a z h hw;exact ih _ _ _ a z h hw
 | frozen b k ih=>intro w es a z h hw;exact ih _ _ _ a z h hw
 | program k ih=>intro w es a z h hw;exact ih _ _ _ a z h hw
 | mark m k ih=>intro w es a z h hw;exact ih _ _ a z h hw
 | sys c k ih =>
  intro w es a z h hw;refine ih _ _ _ a z ?_ hw
  have:(w.sys c).2.heap=w.heap:=XaC w c
  unfold World.cell? at h ⊢;rw [this];exact h
 | freeze b n k ih =>
  intro w es a z h hw;refine ih _ _ a z ?_ hw
  by_cases hn:n=0
  ·unfold World.freeze;rw [if_pos hn];exact h
  ·unfold World.cell? at h ⊢
   rw [X2 w b hn];cases e:w.heap[a.block]? with
   | none=>rw [e] at h;cases h
   | some o =>
    rw [e] at h
    by_cases hb:a.block=b.block
    ·simp only [Option.map_some,hb,if_true]
     cases o<;>first|(cases h;done)|exact h
    ·simp only [Option.map_some,hb,if_false];exact h
 | choose q k ih =>
  intro w es a z h hw;simp only [Sem.runT] at hw ⊢
  split at hw
  ·rename_i hq;rw [if_pos hq];exact ih _ _ _ a z h hw
  ·rename_i hq;rw [if_neg hq];exact ih _ { w with drawn:=w.drawn + 1 } _ a z h hw
 | load m b k ih =>
  intro w es a z h hw;cases hc:w.cell? b with
  | some v=>simp only [Sem.runT,hc] at hw ⊢;exact ih _ _ _ a z h hw
  | none =>
   cases hf:w.farLoad P b (m == .atomic) with
   | ok r=>obtain ⟨v,l⟩:=r;simp only [Sem.runT,hc,hf] at hw ⊢;exact ih _ _ _ a z h hw
   | error e=>simp only [Sem.runT,hc,hf];exact h
 | getObj r k ih =>
  intro w es a z h hw;cases ho:w.heap[r]? with
  | none=>simp only [Sem.runT,ho];exact h
  | some o=>cases o<;>simp only [Sem.runT,ho] at hw ⊢<;>first | exact h | exact ih _ _ _ a z h hw
 | setObj r o k ih =>
  intro w es a z h hw;have hset:∀ o₂,w.heap[r]? = some o₂→(∀ c t f,o₂≠.cells c t f)→World.cell? { w with heap:=w.heap.setIfInBounds r o } a=some z:=by
   intro o₂ h1 h2;unfold World.cell? at h ⊢;have hne:r≠a.block:=by
    intro e;rw [← e,h1] at h;cases o₂<;>first|(cases h;done)|exact h2 _ _ _ rfl
   rw [Array.getElem?_setIfInBounds_ne hne];exact h
  cases ho:w.heap[r]? with
  | none=>simp only [Sem.runT,ho];exact h
  | some o₂ =>
   have hs:=hset o₂ ho;cases o₂<;>simp only [Sem.runT,ho] at hw ⊢<;>first|exact h|exact ih _ _ a z (hs (by simp)) hw
 | store m b v k ih =>
  intro w es a z h hw
  by_cases hag:(∃ c,v=.agg c)∨∃ c,v=.tuple c
  ·rcases hag with ⟨c,rfl⟩|⟨c,rfl⟩<;>exact h
  ·have hrun:(Sem.store m b v k).runT P w es=match w.cell? b with
    | some _ =>
     if w.frozen? b then (.halt (.unsupported (.unsafePointer "a write to bytes that a string shares")) w, es)
     else k.runT P (w.setCell b v) (es.push ⟨.cell b,true,m == .atomic⟩)
    | none=>match w.farStore P b v (m == .atomic) with
     | .ok (w,touched)=>k.runT P w (es ++ touched.toArray.map (⟨.cell ·,true,m == .atomic⟩))
     | .error h=>(.halt h w,es):=by
    cases v<;>first|(exfalso;exact hag (.inl ⟨_,rfl⟩))|(exfalso;exact hag (.inr ⟨_,rfl⟩))|rfl
   rw [hrun] at hw ⊢;cases hc:w.cell? b with
   | some v₀ =>
    simp only [hc] at hw ⊢
    split at hw
    ·rename_i hf;rw [if_pos hf];exact h
    ·rename_i hf
     rw [if_neg hf];have hne:a≠b:=fun e=>by
      have:=hw _ (VJ k _ _ ⟨.cell b,true,m == .atomic⟩ (by simp)) rfl
      exact this (by rw [e])
     exact ih _ _ a z (Xi hne h) hw
   | none =>
    simp only [hc] at hw ⊢;cases hf:w.farStore P b v (m == .atomic) with
    | error e=>simp only [hf];exact h
    | ok r =>
     obtain ⟨w',l⟩:=r;simp only [hf] at hw ⊢;have hnot:a ∉ l:=fun hm=>by
      have:=hw ⟨.cell a,true,m == .atomic⟩ (VJ k _ _ _ (by
       refine Array.mem_append.2 (.inr ?_);simp only [List.map_toArray,List.mem_toArray,List.mem_map];exact ⟨a,hm,rfl⟩)) rfl
      exact this rfl
     exact ih _ _ a z (VT hf a hnot h) hw
theorem Vx {at_:Addr} {u:TypeId} {k:Addr} {v:Value} {atomic:Bool} {w':World} {l:List Addr} (hx:w.viewStore P at_ u k v atomic=.ok (w',l)) {r:Nat} {o:Obj} (ho:w.heap[r]? = some o) (hc:∀ c t f,o≠.cells c t f):w'.heap[r]? = some o:=by
 unfold World.viewStore at hx;simp only [bind,Except.bind,pure,Except.pure,throw,throwThe,MonadExceptOf.throw,MonadExcept.throw] at hx;cases hs:w.seen P at_ u k atomic with
 | error e=>simp only [hs] at hx;revert hx;(repeat' split)<;>intro hx<;>simp_all
 | ok v' =>
  obtain ⟨c,e,f',first,like,cells⟩:=v';have hT:X6 ⟨fun _=>False,fun _=>False,0⟩ w w:=.self (fun _ h=>h.elim);obtain ⟨f,hw,hf,hb,hb2⟩:=hT.seen hs;have hne:at_.block≠r:=fun e=>by rw [← e,hb] at ho;exact hc _ _ _ (Option.some.inj ho).symm
  simp only [hs] at hx
  revert hx
  (repeat' split)<;>intro hx<;>first|(cases hx;done)|skip
  simp only [Except.ok.injEq,Prod.mk.injEq] at hx;obtain ⟨rfl,_⟩:=hx;rw [Array.getElem?_setIfInBounds_ne hne];exact ho
theorem XdT {α:Type} (s:Sem α):∀ (w:World) (es:Array Event) (r:Nat) (o:Obj),w.heap[r]? = some o→(∀ c t f,o≠.cells c t f)→(∀ e∈(s.runT P w es).2,e.write=true→e.loc≠.obj r)→(Result.world (s.runT P w es).1).heap[r]? = some o:=by
 induction s with
 | pure a=>intro w es r o h _ _;exact h
 | halt h'=>intro w es r o h _ _;exact h
 | new q k ih =>
  intro w es r o h hc hw;refine ih _ _ _ r o ?_ hc hw;rw [Array.getElem?_push,if_neg (Nat.ne_of_lt (XaL h))];exact h
 | shape q k ih=>intro w es r o h hc hw;exact ih _ _ _ r o h hc hw
 | frozen b k ih=>intro w es r o h hc hw;exact ih _ _ _ r o h hc hw
 | program k ih=>intro w es r o h hc hw;exact ih _ _ _ r o h hc hw
 | mark m k ih=>intro w es r o h hc hw;exact ih _ _ r o h hc hw
 | sys c k ih =>
  intro w es r o h hc hw;exact ih _ _ _ r o (by rw [XaC];exact h) hc hw
 | freeze b n k ih =>
  intro w es r o h hc hw;refine ih _ _ r o ?_ hc hw
  by_cases hn:n=0
  ·unfold World.freeze;rw [if_pos hn];exact h
  ·rw [X2 w b hn,h]
   by_cases hb:r=b.block
   ·simp only [Option.map_some,hb,if_true]
   ·simp only [Option.map_some,hb,if_false]
 | choose q k ih =>
  intro w es r o h hc hw;simp only [Sem.runT] at hw ⊢
  split at hw
  ·rename_i hq;rw [if_pos hq];exact ih _ _ _ r o h hc hw
  ·rename_i hq;rw [if_neg hq];exact ih _ { w with drawn:=w.drawn + 1 } _ r o h hc hw
 | load m b k ih =>
  intro w es r o h hc hw;cases hb:w.cell? b with
  | some v=>simp only [Sem.runT,hb] at hw ⊢;exact ih _ _ _ r o h hc hw
  | none =>
   cases hf:w.farLoad P b (m == .atomic) with
   | ok q=>obtain ⟨v,l⟩:=q;simp only [Sem.runT,hb,hf] at hw ⊢;exact ih _ _ _ r o h hc hw
   | error e=>simp only [Sem.runT,hb,hf];exact h
 | getObj q k ih =>
  intro w es r o h hc hw;cases ho:w.heap[q]? with
  | none=>simp only [Sem.runT,ho];exact h
  | some o₂=>cases o₂<;>simp only [Sem.runT,ho] at hw ⊢<;>first | exact h | exact ih _ _ _ r o h hc hw
 | setObj q o₁ k ih =>
  intro w es r o h hc hw;have hset:q≠r→(w.heap.setIfInBounds q o₁)[r]? = some o:=fun e=>by rw [Array.getElem?_setIfInBounds_ne e];exact h
  cases ho:w.heap[q]? with
  | none=>simp only [Sem.runT,ho];exact h
  | some o₂ =>
   by_cases e:q=r
   ·subst e
    exfalso
    rw [ho] at h;obtain rfl:=Option.some.inj h;have hin:(⟨.obj q,true,o₁.isChan⟩:Event)∈((Sem.setObj q o₁ k).runT P w es).2:=by
     cases o₂<;>first|exact absurd rfl (hc _ _ _)|(simp only [Sem.runT,ho];exact VJ k _ _ _ (by simp))
    exact hw _ hin rfl rfl
   ·cases o₂<;>simp only [Sem.runT,ho] at hw ⊢<;>first|exact h|exact ih _ _ r o (hset e) hc hw
 | store m b v k ih =>
  intro w es r o h hc hw
  by_cases hag:(∃ c,v=.agg c)∨∃ c,v=.tuple c
  ·rcases hag with ⟨c,rfl⟩|⟨c,rfl⟩<;>exact h
  ·have hrun:(Sem.store m b v k).runT P w es=match w.cell? b with
    | some _ =>
     if w.frozen? b then (.halt (.unsupported (.unsafePointer "a write to bytes that a string shares")) w, es)
     else k.runT P (w.setCell b v) (es.push ⟨.cell b,true,m == .atomic⟩)
    | none=>match w.farStore P b v (m == .atomic) with
     | .ok (w,touched)=>k.runT P w (es ++ touched.toArray.map (⟨.cell ·,true,m == .atomic⟩))
     | .error h=>(.halt h w,es):=by
    cases v<;>first|(exfalso;exact hag (.inl ⟨_,rfl⟩))|(exfalso;exact hag (.inr ⟨_,rfl⟩))|rfl
   rw [hrun] at hw ⊢;cases hb:w.cell? b with
   | some v₀ =>
    simp only [hb] at hw ⊢
    split at hw
    ·rename_i hf;rw [if_pos hf];exact h
    ·rename_i hf
     rw [if_neg hf];refine ih _ _ r o ?_ hc hw;rw [heap_setCell,h]
     by_cases hbr:r=b.block
     ·simp only [Option.map_some,hbr,if_true]
     ·simp only [Option.map_some,hbr,if_false]
   | none =>
    simp only [hb] at hw ⊢;cases hf:w.farStore P b v (m == .atomic) with
    | error e=>simp only [hf];exact h
    | ok q =>
     obtain ⟨w',l⟩:=q;simp only [hf] at hw ⊢;refine ih _ _ r o ?_ hc hw;unfold World.farStore at hf
     split at hf
     ·split at hf
      ·rename_i r' hr
       injection hf with hf;subst hf
       exact Vx hr h hc
      ·cases hf
     ·cases hf
end
structure UU (S:YK) (w w':World):Prop where
 cells:∀ a z,S.cells a→w.cell? a=some z→w'.cell? a=some z
 objs:∀ r o,S.objs r→w.heap[r]? = some o→(∀ c t f,o≠.cells c t f)→w'.heap[r]? = some o
theorem UU.refl (S:YK) (w:World):UU S w w:=⟨fun _ _ _ h=>h,fun _ _ _ h _=>h⟩
theorem UU.trans {S:YK} {a b c:World} (h:UU S a b) (k:UU S b c):UU S a c:=⟨fun x z hx hz=>k.cells x z hx (h.cells x z hx hz),fun r o hr ho hc=>k.objs r o hr (h.objs r o hr ho hc) hc⟩
theorem UU.of_events {P:Program} {S:YK} {w:World} {α:Type} {s:Sem α} {B:Nat} (h:∀ e∈s.events P w #[],EvG S B e):UU S w (Result.world (s.run P w)):=by
 have e1:(s.runT P w #[]).1=s.run P w:=Sem.runT_fst P s w #[];refine ⟨fun a z ha hz=>?_,fun r o hr ho hc=>?_⟩
 ·rw [← e1]
  exact cell_kept s w #[] a z hz fun e he hw hl=>(h e he).1 hw a hl ha
 ·rw [← e1]
  exact XdT s w #[] r o ho hc fun e he hw hl=>(h e he).2.1 hw r hl hr
