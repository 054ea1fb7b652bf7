/- A piece of the model's work, run in a world and in one that is frozen at more places: what the second comes to the first comes to, and it writes none of the places that the second holds frozen. -/
import Derived.Conc.Events
import Derived.Conc.Beside
set_option linter.all false
set_option maxRecDepth 100000
set_option maxHeartbeats 16000000
namespace Go.Proofs.Ytdgfekplfipekaa
open Go.Conc
def Z5 (f' f:Nat × Nat):Prop:=f'=f∨f.1=f.2∨(f'.1≤f.1∧f.2≤f'.2∧f'.1≠f'.2∧f.1≠f.2)
theorem Z5.refl (f:Nat × Nat):Z5 f f:=.inl rfl
theorem Z5.sub {f' f:Nat × Nat} (h:Z5 f' f) {i:Nat} (a:f.1≤i) (b:i < f.2):f'.1≤i∧i < f'.2:=by
 rcases h with rfl|h|h
 ·exact ⟨a,b⟩
 ·omega
 ·omega
def grown (f:Nat × Nat) (o n:Nat):Nat × Nat:=if f.1 == f.2 then (o,o + n) else (min f.1 o,max f.2 (o + n))
theorem XaX {f:Nat × Nat} (h:f.1=f.2) (o n:Nat):grown f o n=(o,o + n):=by simp [grown,h]
theorem QC {f:Nat × Nat} (h:f.1≠f.2) (o n:Nat):grown f o n=(min f.1 o,max f.2 (o + n)):=by simp [grown,h]
theorem Z5.grow {f' f:Nat × Nat} (h:Z5 f' f) (o:Nat) {n:Nat} (hn:n≠0):Z5 (grown f' o n) (grown f o n):=by
 rcases h with rfl|h|⟨h1,h2,h3,h4⟩
 ·exact .inl rfl
 ·rw [XaX h]
  by_cases e:f'.1=f'.2
  ·rw [XaX e];exact .inl rfl
  ·rw [QC e]
   exact .inr (.inr ⟨by simp only;omega,by simp only;omega,by simp only;omega,by simp only;omega⟩)
 ·rw [QC h3,QC h4]
  exact .inr (.inr ⟨by simp only;omega,by simp only;omega,by simp only;omega,by simp only;omega⟩)
theorem Z5.growL {f' f:Nat × Nat} (h:Z5 f' f) (o:Nat) {n:Nat} (hn:n≠0):Z5 (grown f' o n) f:=by
 by_cases e0:f.1=f.2
 ·exact .inr (.inl e0)
 ·rcases h with rfl|h|⟨h1,h2,h3,h4⟩
  ·rw [QC e0]
   exact .inr (.inr ⟨by simp only;omega,by simp only;omega,by simp only;omega,e0⟩)
  ·exact absurd h e0
  ·rw [QC h3]
   exact .inr (.inr ⟨by simp only;omega,by simp only;omega,by simp only;omega,e0⟩)
theorem Z5.freeze {f' f:Nat × Nat} (h:Z5 f' f) (o:Nat) {n:Nat} (hn:n≠0):Z5 (if f'.1 == f'.2 then (o,o + n) else (min f'.1 o,max f'.2 (o + n))) (if f.1 == f.2 then (o,o + n) else (min f.1 o,max f.2 (o + n))):=h.grow o hn
def Xek (o' o:Obj):Prop:=o'=o∨∃ c t f' f,o'=.cells c t f'∧o=.cells c t f∧Z5 f' f
structure YK where
 cells:Addr→Prop
 objs:Nat→Prop
 lo:Nat
structure X6 (S:YK) (x w:World):Prop where
 size:x.heap.size=w.heap.size
 like:∀ (r:Nat) (o' o:Obj),x.heap[r]? = some o'→w.heap[r]? = some o→Xek o' o
 os:x.os=w.os
 output:x.output=w.output
 still:∀ a,S.cells a→x.frozen? a=true
 old:∀ r,r < S.lo→x.heap[r]? = w.heap[r]?
def Y7 (w:World):=(w.tape,w.os,w.output)
def under (x:World) (τ:Nat→Question→Nat) (d:Nat):World:={ x with tape:=τ,drawn:=d }
section
variable {S:YK} {x w:World}
theorem X6.cases (h:X6 S x w) (r:Nat):(x.heap[r]? = none∧w.heap[r]? = none)∨∃ o' o,x.heap[r]? = some o'∧w.heap[r]? = some o∧Xek o' o:=by
 rcases Nat.lt_or_ge r x.heap.size with hr|hr
 ·have hr':r < w.heap.size:=h.size ▸ hr
  exact .inr ⟨x.heap[r],w.heap[r],Array.getElem?_eq_getElem hr,Array.getElem?_eq_getElem hr',h.like r _ _ (Array.getElem?_eq_getElem hr) (Array.getElem?_eq_getElem hr')⟩
 ·exact .inl ⟨Array.getElem?_eq_none hr,Array.getElem?_eq_none (h.size ▸ hr)⟩
theorem X6.cell? (h:X6 S x w) (a:Addr):x.cell? a=w.cell? a:=by
 unfold World.cell?;rcases h.cases a.block with ⟨h1,h2⟩|⟨o',o,h1,h2,rfl|⟨c,t,f',f,rfl,rfl,_⟩⟩<;>simp [h1,h2]
theorem X6.shape? (h:X6 S x w) (r:Nat):x.shape? r=w.shape? r:=by
 unfold World.shape?;rcases h.cases r with ⟨h1,h2⟩|⟨o',o,h1,h2,rfl|⟨c,t,f',f,rfl,rfl,_⟩⟩<;>simp [h1,h2]
theorem X6.frozen? (h:X6 S x w) (a:Addr) (hf:w.frozen? a=true):x.frozen? a=true:=by
 unfold World.frozen? at hf ⊢;rcases h.cases a.block with ⟨h1,h2⟩|⟨o',o,h1,h2,rfl|⟨c,t,f',f,rfl,rfl,hff⟩⟩
 ·simp [h2] at hf
 ·rw [h2] at hf;rw [h1];exact hf
 ·simp only [h1,h2,Bool.and_eq_true,decide_eq_true_eq] at hf ⊢
  exact hff.sub hf.1 hf.2
theorem X6.thawed (h:X6 S x w) (a:Addr) (hf:x.frozen? a=false):w.frozen? a=false:=by
 cases e:w.frozen? a with
 | false=>rfl
 | true=>rw [h.frozen? a e] at hf;cases hf
theorem X6.free (h:X6 S x w) {a:Addr} (hf:x.frozen? a=false):¬ S.cells a:=fun hs=>by rw [h.still a hs] at hf;cases hf
theorem X6.obj (h:X6 S x w) {r:Nat} {o:Obj} (ho:∀ c t f,o≠.cells c t f) (hx:x.heap[r]? = some o):w.heap[r]? = some o:=by
 rcases h.cases r with ⟨h1,_⟩|⟨o',o₂,h1,h2,rfl|⟨c,t,f',f,rfl,rfl,_⟩⟩
 ·rw [h1] at hx;cases hx
 ·rw [h2,← h1,hx]
 ·rw [h1] at hx;exact absurd (Option.some.inj hx).symm (ho _ _ _)
theorem X6.mvl (h:X6 S x w) (τ:Nat→Question→Nat) (d:Nat):X6 S (under x τ d) w:=⟨h.size,h.like,h.os,h.output,h.still,h.old⟩
theorem X6.mvr (h:X6 S x w) (t:Nat→Question→Nat) (k:Nat):X6 S x (under w t k):=⟨h.size,h.like,h.os,h.output,h.still,h.old⟩
theorem Xek.refl (o:Obj):Xek o o:=.inl rfl
theorem heap_setCell (w:World) (a:Addr) (v:Value) (r:Nat):(w.setCell a v).heap[r]? = (w.heap[r]?).map fun o=>if r=a.block then (match o with | .cells c e fr=>.cells (if a.spot.isSome then c else c.setIfInBounds a.off v) e fr|o=>o) else o:=by
 unfold World.setCell;simp only [Array.getElem?_modify]
 by_cases e:a.block=r
 ·subst e
  simp only [if_true];cases w.heap[a.block]? with
  | none=>rfl
  | some o=>cases o<;>rfl
 ·simp only [e,if_false]
  have:¬ r=a.block:=fun x=>e x.symm
  simp only [this,if_false];cases w.heap[r]?<;>rfl
theorem U8 (w:World) (a b:Addr) (v:Value):(w.setCell a v).frozen? b=w.frozen? b:=by
 unfold World.frozen?;rw [heap_setCell];cases e:w.heap[b.block]? with
 | none=>rfl
 | some o =>
  by_cases h:b.block=a.block
  ·simp only [Option.map_some,h,if_true];cases o<;>rfl
  ·simp only [Option.map_some,h,if_false]
theorem X6.setCell (h:X6 S x w) (a:Addr) (v:Value):X6 S (x.setCell a v) (w.setCell a v):=by
 refine ⟨by simp [World.setCell,h.size],fun r o' o h1 h2=>?_,h.os,h.output,fun b hb=>by rw [U8];exact h.still b hb,fun q hq=>by rw [heap_setCell,heap_setCell,h.old q hq]⟩;rw [heap_setCell] at h1 h2;rcases h.cases r with ⟨e1,_⟩|⟨p',p,e1,e2,hl⟩
 ·rw [e1] at h1;cases h1
 ·rw [e1] at h1;rw [e2] at h2
  simp only [Option.map_some,Option.some.injEq] at h1 h2;subst h1 h2;rcases hl with rfl|⟨c,t,f',f,rfl,rfl,hf⟩
  ·exact .inl rfl
  ·by_cases e:r=a.block
   ·simp only [e,if_true];exact .inr ⟨_,_,_,_,rfl,rfl,hf⟩
   ·simp only [e,if_false];exact .inr ⟨_,_,_,_,rfl,rfl,hf⟩
theorem X6.push (h:X6 S x w) (o:Obj):X6 S { x with heap:=x.heap.push o } { w with heap:=w.heap.push o }:=by
 refine ⟨by simp [h.size],fun r o' o₂ h1 h2=>?_,h.os,h.output,fun a ha=>?_,fun q hq=>by simp only [Array.getElem?_push,h.size,h.old q hq]⟩
 ·simp only [Array.getElem?_push] at h1 h2
  rw [h.size] at h1
  split at h1
  ·rw [if_pos (by assumption)] at h2;rw [← Option.some.inj h1,← Option.some.inj h2];exact .refl _
  ·rw [if_neg (by assumption)] at h2;exact h.like r _ _ h1 h2
 ·have hs:=h.still a ha
  unfold World.frozen? at hs ⊢
  by_cases e:a.block=x.heap.size
  ·rw [Array.getElem?_eq_none (Nat.le_of_eq e.symm)] at hs;cases hs
  ·rw [Array.getElem?_push,if_neg e];exact hs
theorem X6.set (h:X6 S x w) {r:Nat} {o₀:Obj} (hx:x.heap[r]? = some o₀) (ho:∀ c t f,o₀≠.cells c t f) (o:Obj):X6 S { x with heap:=x.heap.setIfInBounds r o } { w with heap:=w.heap.setIfInBounds r o }:=by
 refine ⟨by simp [h.size],fun q o' o₂ h1 h2=>?_,h.os,h.output,fun a ha=>?_,fun q hq=>by simp only [Array.getElem?_setIfInBounds,h.size,h.old q hq]⟩
 ·simp only [Array.getElem?_setIfInBounds] at h1 h2
  rw [h.size] at h1
  split at h1
  ·rename_i e
   rw [if_pos e] at h2
   split at h1
   ·rename_i hlt;rw [if_pos hlt] at h2;rw [← Option.some.inj h1,← Option.some.inj h2];exact .refl _
   ·cases h1
  ·rename_i e;rw [if_neg e] at h2;exact h.like q _ _ h1 h2
 ·have hs:=h.still a ha
  unfold World.frozen? at hs ⊢;have hne:r≠a.block:=fun e=>by
   subst e;rw [hx] at hs;cases o₀<;>simp_all
  rw [Array.getElem?_setIfInBounds_ne hne];exact hs
theorem X2 (w:World) (a:Addr) {n:Nat} (hn:n≠0) (r:Nat):(w.freeze a n).heap[r]? = (w.heap[r]?).map fun o=>if r=a.block then (match o with | .cells c e fr=>.cells c e (if fr.1 == fr.2 then (a.off,a.off + n) else (min fr.1 a.off,max fr.2 (a.off + n)))|o=>o) else o:=by
 unfold World.freeze;rw [if_neg hn];simp only [Array.getElem?_modify]
 by_cases e:a.block=r
 ·subst e
  simp only [if_true];cases w.heap[a.block]? with
  | none=>rfl
  | some o=>cases o<;>rfl
 ·simp only [e,if_false]
  have:¬ r=a.block:=fun x=>e x.symm
  simp only [this,if_false];cases w.heap[r]?<;>rfl
theorem QD (w:World) (a b:Addr) (n:Nat) (h:w.frozen? b=true):(w.freeze a n).frozen? b=true:=by
 by_cases hn:n=0
 ·unfold World.freeze;rw [if_pos hn];exact h
 ·unfold World.frozen? at h ⊢
  rw [X2 w a hn];cases e:w.heap[b.block]? with
  | none=>rw [e] at h;cases h
  | some o =>
   rw [e] at h
   by_cases hb:b.block=a.block
   ·simp only [Option.map_some,hb,if_true]
    cases o<;>first|(cases h)|skip
    rename_i c t fr
    obtain ⟨lo,hi⟩:=fr;simp only [Bool.and_eq_true,decide_eq_true_eq] at h ⊢;have hne:(lo == hi)=false:=by simp;omega
    simp only [hne,Bool.false_eq_true,if_false]
    omega
   ·simp only [Option.map_some,hb,if_false];exact h
theorem X6.freeze (h:X6 S x w) (a:Addr) (n:Nat):X6 S (x.freeze a n) (w.freeze a n):=by
 by_cases hn:n=0
 ·unfold World.freeze;rw [if_pos hn,if_pos hn];exact h
 ·refine ⟨by simp [World.freeze,hn,h.size],fun r o' o h1 h2=>?_,by simp [World.freeze,hn,h.os],by simp [World.freeze,hn,h.output],fun b hb=>QD x a b n (h.still b hb),fun q hq=>by rw [X2 _ _ hn,X2 _ _ hn,h.old q hq]⟩
  rw [X2 _ _ hn] at h1 h2;rcases h.cases r with ⟨e1,_⟩|⟨p',p,e1,e2,hl⟩
  ·rw [e1] at h1;cases h1
  ·rw [e1] at h1;rw [e2] at h2
   simp only [Option.map_some,Option.some.injEq] at h1 h2;subst h1 h2;rcases hl with rfl|⟨c,t,f',f,rfl,rfl,hf⟩
   ·exact .inl rfl
   ·by_cases e:r=a.block
    ·simp only [e,if_true]
     exact .inr ⟨_,_,_,_,rfl,rfl,hf.freeze _ hn⟩
    ·simp only [e,if_false];exact .inr ⟨_,_,_,_,rfl,rfl,hf⟩
theorem X6.freezeL (h:X6 S x w) (a:Addr) (n:Nat) (ha:S.lo≤a.block):X6 S (x.freeze a n) w:=by
 by_cases hn:n=0
 ·unfold World.freeze;rw [if_pos hn];exact h
 ·refine ⟨by simp [World.freeze,hn,h.size],fun r o' o h1 h2=>?_,by simp [World.freeze,hn,h.os],by simp [World.freeze,hn,h.output],fun b hb=>QD x a b n (h.still b hb),fun q hq=>by
   have hne:¬ q=a.block:=fun e=>by omega
   rw [X2 _ _ hn,h.old q hq];cases w.heap[q]?<;>simp [hne]⟩
  rw [X2 _ _ hn] at h1;rcases h.cases r with ⟨e1,_⟩|⟨p',p,e1,e2,hl⟩
  ·rw [e1] at h1;cases h1
  ·rw [e2] at h2
   obtain rfl:=Option.some.inj h2;rw [e1] at h1;simp only [Option.map_some,Option.some.injEq] at h1;subst h1;rcases hl with rfl|⟨c,t,f',f,rfl,rfl,hf⟩
   ·by_cases e:r=a.block
    ·simp only [e,if_true]
     cases p'<;>first|exact .inl rfl|skip
     exact .inr ⟨_,_,_,_,rfl,rfl,(Z5.refl _).growL _ hn⟩
    ·simp only [e,if_false];exact .inl rfl
   ·by_cases e:r=a.block
    ·simp only [e,if_true]
     exact .inr ⟨_,_,_,_,rfl,rfl,hf.growL _ hn⟩
    ·simp only [e,if_false];exact .inr ⟨_,_,_,_,rfl,rfl,hf⟩
theorem X6.other {S':YK} (h:X6 S x w) (hs:∀ a,S'.cells a→x.frozen? a=true) (hl:S'.lo≤S.lo):X6 S' x w:=⟨h.size,h.like,h.os,h.output,hs,fun r hr=>h.old r (Nat.lt_of_lt_of_le hr hl)⟩
theorem X6.self {S:YK} {w:World} (hs:∀ a,S.cells a→w.frozen? a=true):X6 S w w:=⟨rfl,fun r o' o h1 h2=>.inl (Option.some.inj (h1.symm.trans h2)),rfl,rfl,hs,fun _ _=>rfl⟩
