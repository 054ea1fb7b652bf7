/- What a piece of the model's work comes to in a world comes of it in one that is frozen at more places, under a tape of one's own choice; or that one ends it. -/
import Derived.Conc.Events
import Derived.Conc.Beside
set_option linter.all false
set_option maxRecDepth 100000
set_option maxHeartbeats 16000000
namespace Go.Proofs.Ytdgfekplfipekaa
open Go.Conc
def Z5 (f' f:Nat × Nat):Prop:=f'=f∨f.1=f.2∨(f'.1≤f.1∧f.2≤f'.2∧f'.1≠f'.2∧f.1≠f.2)
theorem Z5.refl (f:Nat × Nat):Z5 f f:=.inl rfl
theorem Z5.sub {f' f:Nat × Nat} (h:Z5 f' f) {i:Nat} (a:f.1≤i) (b:i < f.2):f'.1≤i∧i < f'.2:=by
 rcases h with rfl|h|h
 ·exact ⟨a,b⟩
 ·omega
 ·omega
def grown (f:Nat × Nat) (o n:Nat):Nat × Nat:=if f.1 == f.2 then (o,o + n) else (min f.1 o,max f.2 (o + n))
theorem XaX {f:Nat × Nat} (h:f.1=f.2) (o n:Nat):grown f o n=(o,o + n):=by simp [grown,h]
theorem QC {f:Nat × Nat} (h:f.1≠f.2) (o n:Nat):grown f o n=(min f.1 o,max f.2 (o + n)):=by simp [grown,h]
theorem Z5.grow {f' f:Nat × Nat} (h:Z5 f' f) (o:Nat) {n:Nat} (hn:n≠0):Z5 (grown f' o n) (grown f o n):=by
 rcases h with rfl|h|⟨h1,h2,h3,h4⟩
 ·exact .inl rfl
 ·rw [XaX h]
  by_cases e:f'.1=f'.2
  ·rw [XaX e];exact .inl rfl
  ·rw [QC e]
   exact .inr (.inr ⟨by simp only;omega,by simp only;omega,by simp only;omega,by simp only;omega⟩)
 ·rw [QC h3,QC h4]
  exact .inr (.inr ⟨by simp only;omega,by simp only;omega,by simp only;omega,by simp only;omega⟩)
theorem Z5.growL {f' f:Nat × Nat} (h:Z5 f' f) (o:Nat) {n:Nat} (hn:n≠0):Z5 (grown f' o n) f:=by
 by_cases e0:f.1=f.2
 ·exact .inr (.inl e0)
 ·rcases h with rfl|h|⟨h1,h2,h3,h4⟩
  ·rw [QC e0]
   exact .inr (.inr ⟨by simp only;omega,by simp only;omega,by simp only;omega,e0⟩)
  ·exact absurd h e0
  ·rw [QC h3]
   exact .inr (.inr ⟨by simp only;omega,by simp only;omega,by simp only;omega,e0⟩)
theorem Z5.freeze {f' f:Nat × Nat} (h:Z5 f' f) (o:Nat) {n:Nat} (hn:n≠0):Z5 (if f'.1 == f'.2 then (o,o + n) else (min f'.1 o,max f'.2 (o + n))) (if f.1 == f.2 then (o,o + n) else (min f.1 o,max f.2 (o + n))):=h.grow o hn
def Xek (o' o:Obj):Prop:=o'=o∨∃ c t f' f,o'=.cells c t f'∧o=.cells c t f∧Z5 f' f
structure YK where
 cells:Addr→Prop
 objs:Nat→Prop
 lo:Nat
structure X6 (S:YK) (x w:World):Prop where
 size:x.heap.size=w.heap.size
 like:∀ (r:Nat) (o' o:Obj),x.heap[r]? = some o'→w.heap[r]? = some o→Xek o' o
 os:x.os=w.os
 output:x.output=w.output
 still:∀ a,S.cells a→x.frozen? a=true
 old:∀ r,r < S.lo→x.heap[r]? = w.heap[r]?
def Y7 (w:World):=(w.tape,w.os,w.output)
def under (x:World) (τ:Nat→Question→Nat) (d:Nat):World:={ x with tape:=τ,drawn:=d }
section
variable {S:YK} {x w:World}
theorem X6.cases (h:X6 S x w) (r:Nat):(x.heap[r]? = none∧w.heap[r]? = none)∨∃ o' o,x.heap[r]? = some o'∧w.heap[r]? = some o∧Xek o' o:=by
 rcases Nat.lt_or_ge r x.heap.size with hr|hr
 ·have hr':r < w.heap.size:=h.size ▸ hr
  exact .inr ⟨x.heap[r],w.heap[r],Array.getElem?_eq_getElem hr,Array.getElem?_eq_getElem hr',h.like r _ _ (Array.getElem?_eq_getElem hr) (Array.getElem?_eq_getElem hr')⟩
 ·exact .inl ⟨Array.getElem?_eq_none hr,Array.getElem?_eq_none (h.size ▸ hr)⟩
theorem X6.cell? (h:X6 S x w) (a:Addr):x.cell? a=w.cell? a:=by
 unfold World.cell?;rcases h.cases a.block with ⟨h1,h2⟩|⟨o',o,h1,h2,rfl|⟨c,t,f',f,rfl,rfl,_⟩⟩<;>simp [h1,h2]
theorem X6.shape? (h:X6 S x w) (r:Nat):x.shape? r=w.shape? r:=by
 unfold World.shape?;rcases h.cases r with ⟨h1,h2⟩|⟨o',o,h1,h2,rfl|⟨c,t,f',f,rfl,rfl,_⟩⟩<;>simp [h1,h2]
theorem X6.frozen? (h:X6 S x w) (a:Addr) (hf:w.frozen? a=true):x.frozen? a=true:=by
 unfold World.frozen? at hf ⊢;rcases h.cases a.block with ⟨h1,h2⟩|⟨o',o,h1,h2,rfl|⟨c,t,f',f,rfl,rfl,hff⟩⟩
 ·simp [h2] at hf
 ·rw [h2] at hf;rw [h1];exact hf
 ·simp only [h1,h2,Bool.and_eq_true,decide_eq_true_eq] at hf ⊢
  exact hff.sub hf.1 hf.2
theorem X6.thawed (h:X6 S x w) (a:Addr) (hf:x.frozen? a=false):w.frozen? a=false:=by
 cases e:w.frozen? a with
 | false=>rfl
 | true=>rw [h.frozen? a e] at hf;cases hf
theorem X6.free (h:X6 S x w) {a:Addr} (hf:x.frozen? a=false):¬ S.cells a:=fun hs=>by rw [h.still a hs] at hf;cases hf
theorem X6.obj (h:X6 S x w) {r:Nat} {o:Obj} (ho:∀ c t f,o≠.cells c t f) (hx:x.heap[r]? = some o):w.heap[r]? = some o:=by
 rcases h.cases r with ⟨h1,_⟩|⟨o',o₂,h1,h2,rfl|⟨c,t,f',f,rfl,rfl,_⟩⟩
 ·rw [h1] at hx;cases hx
 ·rw [h2,← h1,hx]
 ·rw [h1] at hx;exact absurd (Option.some.inj hx).symm (ho _ _ _)
theorem X6.mvl (h:X6 S x w) (τ:Nat→Question→Nat) (d:Nat):X6 S (under x τ d) w:=⟨h.size,h.like,h.os,h.output,h.still,h.old⟩
theorem X6.mvr (h:X6 S x w) (t:Nat→Question→Nat) (k:Nat):X6 S x (under w t k):=⟨h.size,h.like,h.os,h.output,h.still,h.old⟩
theorem Xek.refl (o:Obj):Xek o o:=.inl rfl
theorem heap_setCell (w:World) (a:Addr) (v:Value) (r:Nat):(w.setCell a v).heap[r]? = (w.heap[r]?).map fun o=>if r=a.block then (match o with | .cells c e fr=>.cells (if a.spot.isSome then c else c.setIfInBounds a.off v) e fr|o=>o) else o:=by
 unfold World.setCell;simp only [Array.getElem?_modify]
 by_cases e:a.block=r
 ·subst e
  simp only [if_true];cases w.heap[a.block]? with
  | none=>rfl
  | some o=>cases o<;>rfl
 ·simp only [e,if_false]
  have:¬ r=a.block:=fun x=>e x.symm
  simp only [this,if_false];cases w.heap[r]?<;>rfl
theorem U8 (w:World) (a b:Addr) (v:Value):(w.setCell a v).frozen? b=w.frozen? b:=by
 unfold World.frozen?;rw [heap_setCell];cases e:w.heap[b.block]? with
 | none=>rfl
 | some o =>
  by_cases h:b.block=a.block
  ·simp only [Option.map_some,h,if_true];cases o<;>rfl
  ·simp only [Option.map_some,h,if_false]
theorem X6.setCell (h:X6 S x w) (a:Addr) (v:Value):X6 S (x.setCell a v) (w.setCell a v):=by
 refine ⟨by simp [World.setCell,h.size],fun r o' o h1 h2=>?_,h.os,h.output,fun b hb=>by rw [U8];exact h.still b hb,fun q hq=>by rw [heap_setCell,heap_setCell,h.old q hq]⟩;rw [heap_setCell] at h1 h2;rcases h.cases r with ⟨e1,_⟩|⟨p',p,e1,e2,hl⟩
 ·rw [e1] at h1;cases h1
 ·rw [e1] at h1;rw [e2] at h2
  simp only [Option.map_some,Option.some.injEq] at h1 h2;subst h1 h2;rcases hl with rfl|⟨c,t,f',f,rfl,rfl,hf⟩
  ·exact .inl rfl
  ·by_cases e:r=a.block
   ·simp only [e,if_true];exact .inr ⟨_,_,_,_,rfl,rfl,hf⟩
   ·simp only [e,if_false];exact .inr ⟨_,_,_,_,rfl,rfl,hf⟩
theorem X6.push (h:X6 S x w) (o:Obj):X6 S { x with heap:=x.heap.push o } { w with heap:=w.heap.push o }:=by
 refine ⟨by simp [h.size],fun r o' o₂ h1 h2=>?_,h.os,h.output,fun a ha=>?_,fun q hq=>by simp only [Array.getElem?_push,h.size,h.old q hq]⟩
 ·simp only [Array.getElem?_push] at h1 h2
  rw [h.size] at h1
  split at h1
  ·rw [if_pos (by assumption)] at h2;rw [← Option.some.inj h1,← Option.some.inj h2];exact .refl _
  ·rw [if_neg (by assumption)] at h2;exact h.like r _ _ h1 h2
 ·have hs:=h.still a ha
  unfold World.frozen? at hs ⊢
  by_cases e:a.block=x.heap.size
  ·rw [Array.getElem?_eq_none (Nat.le_of_eq e.symm)] at hs;cases hs
  ·rw [Array.getElem?_push,if_neg e];exact hs
theorem X6.set (h:X6 S x w) {r:Nat} {o₀:Obj} (hx:x.heap[r]? = some o₀) (ho:∀ c t f,o₀≠.cells c t f) (o:Obj):X6 S { x with heap:=x.heap.setIfInBounds r o } { w with heap:=w.heap.setIfInBounds r o }:=by
 refine ⟨by simp [h.size],fun q o' o₂ h1 h2=>?_,h.os,h.output,fun a ha=>?_,fun q hq=>by simp only [Array.getElem?_setIfInBounds,h.size,h.old q hq]⟩
 ·simp only [Array.getElem?_setIfInBounds] at h1 h2
  rw [h.size] at h1
  split at h1
  ·rename_i e
   rw [if_pos e] at h2
   split at h1
   ·rename_i hlt;rw [if_pos hlt] at h2;rw [← Option.some.inj h1,← Option.some.inj h2];exact .refl _
   ·cases h1
  ·rename_i e;rw [if_neg e] at h2;exact h.like q _ _ h1 h2
 ·have hs:=h.still a ha
  unfold World.frozen? at hs ⊢;have hne:r≠a.block:=fun e=>by
   subst e;rw [hx] at hs;cases o₀<;>simp_all
  rw [Array.getElem?_setIfInBounds_ne hne];exact hs
theorem X2 (w:World) (a:Addr) {n:Nat} (hn:n≠0) (r:Nat):(w.freeze a n).heap[r]? = (w.heap[r]?).map fun o=>if r=a.block then (match o with | .cells c e fr=>.cells c e (if fr.1 == fr.2 then (a.off,a.off + n) else (min fr.1 a.off,max fr.2 (a.off + n)))|o=>o) else o:=by
 unfold World.freeze;rw [if_neg hn];simp only [Array.getElem?_modify]
 by_cases e:a.block=r
 ·subst e
  simp only [if_true];cases w.heap[a.block]? with
  | none=>rfl
  | some o=>cases o<;>rfl
 ·simp only [e,if_false]
  have:¬ r=a.block:=fun x=>e x.symm
  simp only [this,if_false];cases w.heap[r]?<;>rfl
theorem QD (w:World) (a b:Addr) (n:Nat) (h:w.frozen? b=true):(w.freeze a n).frozen? b=true:=by
 by_cases hn:n=0
 ·unfold World.freeze;rw [if_pos hn];exact h
 ·unfold World.frozen? at h ⊢
  rw [X2 w a hn];cases e:w.heap[b.block]? with
  | none=>rw [e] at h;cases h
  | some o =>
   rw [e] at h
   by_cases hb:b.block=a.block
   ·simp only [Option.map_some,hb,if_true]
    cases o<;>first|(cases h)|skip
    rename_i c t fr
    obtain ⟨lo,hi⟩:=fr;simp only [Bool.and_eq_true,decide_eq_true_eq] at h ⊢;have hne:(lo == hi)=false:=by simp;omega
    simp only [hne,Bool.false_eq_true,if_false]
    omega
   ·simp only [Option.map_some,hb,if_false];exact h
theorem X6.freeze (h:X6 S x w) (a:Addr) (n:Nat):X6 S (x.freeze a n) (w.freeze a n):=by
 by_cases hn:n=0
 ·unfold World.freeze;rw [if_pos hn,if_pos hn];exact h
 ·refine ⟨by simp [World.freeze,hn,h.size],fun r o' o h1 h2=>?_,by simp [World.freeze,hn,h.os],by simp [World.freeze,hn,h.output],fun b hb=>QD x a b n (h.still b hb),fun q hq=>by rw [X2 _ _ hn,X2 _ _ hn,h.old q hq]⟩
  rw [X2 _ _ hn] at h1 h2;rcases h.cases r with ⟨e1,_⟩|⟨p',p,e1,e2,hl⟩
  ·rw [e1] at h1;cases h1
  ·rw [e1] at h1;rw [e2] at h2
   simp only [Option.map_some,Option.some.injEq] at h1 h2;subst h1 h2;rcases hl with rfl|⟨c,t,f',f,rfl,rfl,hf⟩
   ·exact .inl rfl
   ·by_cases e:r=a.block
    ·simp only [e,if_true]
     exact .inr ⟨_,_,_,_,rfl,rfl,hf.freeze _ hn⟩
    ·simp only [e,if_false];exact .inr ⟨_,_,_,_,rfl,rfl,hf⟩
theorem X6.freezeL (h:X6 S x w) (a:Addr) (n:Nat) (ha:S.lo≤a.block):X6 S (x.freeze a n) w:=by
 by_cases hn:n=0
 ·unfold World.freeze;rw [if_pos hn];exact h
 ·refine ⟨by simp [World.freeze,hn,h.size],fun r o' o h1 h2=>?_,by simp [World.freeze,hn,h.os],by simp [World.freeze,hn,h.output],fun b hb=>QD x a b n (h.still b hb),fun q hq=>by
   have hne:¬ q=a.block:=fun e=>by omega
   rw [X2 _ _ hn,h.old q hq];cases w.heap[q]?<;>simp [hne]⟩
  rw [X2 _ _ hn] at h1;rcases h.cases r with ⟨e1,_⟩|⟨p',p,e1,e2,hl⟩
  ·rw [e1] at h1;cases h1
  ·rw [e2] at h2
   obtain rfl:=Option.some.inj h2;rw [e1] at h1;simp only [Option.map_some,Option.some.injEq] at h1;subst h1;rcases hl with rfl|⟨c,t,f',f,rfl,rfl,hf⟩
   ·by_cases e:r=a.block
    ·simp only [e,if_true]
     cases p'<;>first|exact .inl rfl|skip
     exact .inr ⟨_,_,_,_,rfl,rfl,(Z5.refl _).growL _ hn⟩
    ·simp only [e,if_false];exact .inl rfl
   ·by_cases e:r=a.block
    ·simp only [e,if_true]
     exact .inr ⟨_,_,_,_,rfl,rfl,hf.growL _ hn⟩
    ·simp only [e,if_false];exact .inr ⟨_,_,_,_,rfl,rfl,hf⟩
theorem X6.other {S':YK} (h:X6 S x w) (hs:∀ a,S'.cells a→x.frozen? a=true) (hl:S'.lo≤S.lo):X6 S' x w:=⟨h.size,h.like,h.os,h.output,hs,fun r hr=>h.old r (Nat.lt_of_lt_of_le hr hl)⟩
theorem X6.self {S:YK} {w:World} (hs:∀ a,S.cells a→w.frozen? a=true):X6 S w w:=⟨rfl,fun r o' o h1 h2=>.inl (Option.some.inj (h1.symm.trans h2)),rfl,rfl,hs,fun _ _=>rfl⟩
end
section
variable {S:YK} {x w:World}
theorem seen_cells {P:Program} {at_:Addr} {u:TypeId} {k:Addr} {atomic:Bool} {c c₀:Array Value} {e t:TypeId} {f' f₀' f₀:Nat × Nat} {first:Nat} {like:Value} {cells:List (Nat × Nat × List UInt8)}
 (h1:x.heap[at_.block]? = some (.cells c₀ t f₀')) (h2:w.heap[at_.block]? = some (.cells c₀ t f₀)) (hx:x.seen P at_ u k atomic=.ok (c,e,f',first,like,cells)) :
 c₀=c∧t=e∧f₀'=f'∧w.seen P at_ u k atomic=.ok (c,e,f₀,first,like,cells):=by
 unfold World.seen at hx ⊢;simp only [h1,h2] at hx ⊢
 revert hx
 (repeat' split)<;>intro hx<;>simp_all [bind,Except.bind,pure,Except.pure,MonadExcept.throw,throw,throwThe,MonadExceptOf.throw]
 all_goals revert hx
 all_goals (repeat' split)<;>intro hx<;>simp_all
 all_goals (obtain ⟨rfl,rfl,rfl,hx1,_,hx2⟩:=hx;simp_all)
 all_goals (rw [hx1] at hx2;exact hx2)
theorem Xbm {P:Program} {at_:Addr} {u:TypeId} {k:Addr} {atomic:Bool} {r} (h1:∀ c t f,x.heap[at_.block]?≠some (.cells c t f)) (hx:x.seen P at_ u k atomic=.ok r):False:=by
 unfold World.seen at hx
 revert hx
 (repeat' split)<;>intro hx<;>simp_all [bind,Except.bind,pure,Except.pure,MonadExcept.throw,throw,throwThe,MonadExceptOf.throw]
theorem X6.seen (h:X6 S x w) {P:Program} {at_:Addr} {u:TypeId} {k:Addr} {atomic:Bool} {c:Array Value} {e:TypeId} {f':Nat × Nat} {first:Nat} {like:Value} {cells:List (Nat × Nat × List UInt8)}
 (hx:x.seen P at_ u k atomic=.ok (c,e,f',first,like,cells)) :
 ∃ f,w.seen P at_ u k atomic=.ok (c,e,f,first,like,cells)∧Z5 f' f∧x.heap[at_.block]? = some (.cells c e f')∧w.heap[at_.block]? = some (.cells c e f):=by
 by_cases hc:∃ c₀ t f₀',x.heap[at_.block]? = some (.cells c₀ t f₀')
 ·obtain ⟨c₀,t,f₀',h1⟩:=hc
  rcases h.cases at_.block with ⟨h3,_⟩|⟨o',o,h3,h2,hl⟩
  ·rw [h1] at h3;cases h3
  ·rw [h1] at h3
   obtain rfl:=Option.some.inj h3;rcases hl with rfl|⟨c₁,t₁,g',g,e1,rfl,hg⟩
   ·obtain ⟨rfl,rfl,rfl,hw⟩:=seen_cells h1 h2 hx
    exact ⟨_,hw,.refl _,h1,h2⟩
   ·injection e1 with e1 e2 e3;subst e1 e2 e3
    obtain ⟨rfl,rfl,rfl,hw⟩:=seen_cells h1 h2 hx;exact ⟨_,hw,hg,h1,h2⟩
 ·exact (Xbm (fun c t f e=>hc ⟨c,t,f,e⟩) hx).elim
theorem X6.viewLoad (h:X6 S x w) {P:Program} {at_:Addr} {u:TypeId} {k:Addr} {atomic:Bool} {r:Value × List Addr} (hx:x.viewLoad P at_ u k atomic=.ok r) :
 w.viewLoad P at_ u k atomic=.ok r∧∀ a∈r.2,a.block=at_.block∧a.block < x.heap.size:=by
 unfold World.viewLoad at hx ⊢;cases hs:x.seen P at_ u k atomic with
 | error e=>rw [hs] at hx;simp [bind,Except.bind] at hx
 | ok v =>
  obtain ⟨c,e,f',first,like,cells⟩:=v;obtain ⟨f,hw,_,hb,_⟩:=h.seen hs;rw [hs] at hx;rw [hw];simp only [bind,Except.bind] at hx ⊢;have hlt:at_.block < x.heap.size:=by
   rcases Nat.lt_or_ge at_.block x.heap.size with l|l
   ·exact l
   ·rw [Array.getElem?_eq_none l] at hb;cases hb
  revert hx
  split
  ·intro hx
   refine ⟨hx,?_⟩;simp only [pure,Except.pure,Except.ok.injEq] at hx;subst hx;intro a ha;simp only [List.mem_map] at ha;obtain ⟨y,_,rfl⟩:=ha;exact ⟨rfl,hlt⟩
  ·intro hx;simp [throw,throwThe,MonadExceptOf.throw] at hx
theorem Qk {α β:Type} {g' g:α→β→Except String α} {Q:β→Prop} (hg:∀ c y c',g' c y=.ok c'→g c y=.ok c'∧Q y):∀ (l:List β) (c c':α),l.foldlM g' c=.ok c'→l.foldlM g c=.ok c'∧∀ y∈l,Q y
 | [],c,c',h=>⟨h,fun _ hy=>by cases hy⟩
 | y::l,c,c',h=>by
  rw [List.foldlM_cons] at h ⊢;cases e:g' c y with
  | error x=>rw [e] at h;cases h
  | ok c₁ =>
   rw [e] at h;obtain ⟨h1,h2⟩:=hg c y c₁ e;obtain ⟨h3,h4⟩:=Qk hg l c₁ c' h;rw [h1];refine ⟨h3,fun z hz=>?_⟩;rcases List.mem_cons.1 hz with rfl|hz
   ·exact h2
   ·exact h4 z hz
theorem X6.viewStore (h:X6 S x w) {P:Program} {at_:Addr} {u:TypeId} {k:Addr} {v:Value} {atomic:Bool} {x':World} {l:List Addr} (hx:x.viewStore P at_ u k v atomic=.ok (x',l)) :
 ∃ w',w.viewStore P at_ u k v atomic=.ok (w',l)∧X6 S x' w'∧∀ a∈l,a.block < x.heap.size∧x.frozen? a=false:=by
 unfold World.viewStore at hx ⊢;simp only [bind,Except.bind,pure,Except.pure,throw,throwThe,MonadExceptOf.throw,MonadExcept.throw] at hx ⊢;cases hs:x.seen P at_ u k atomic with
 | error e=>simp only [hs] at hx;revert hx;(repeat' split)<;>intro hx<;>simp_all
 | ok v' =>
  obtain ⟨c,e,f',first,like,cells⟩:=v';obtain ⟨f,hw,hf,hb,hb2⟩:=h.seen hs;simp only [hs] at hx;simp only [hw]
  split at hx
  ·cases hx
  rename_i ht
  rw [if_neg ht];cases hbs:v.bytes? with
  | none=>simp only [hbs] at hx;cases hx
  | some bytes =>
   simp only [hbs] at hx ⊢
   split at hx
   ·cases hx
   rename_i hsz
   rw [if_neg hsz]
   split at hx
   ·cases hx
   rename_i c' hfold
   simp only [Except.ok.injEq,Prod.mk.injEq] at hx;obtain ⟨rfl,rfl⟩:=hx;have h4:=(Qk (Q:=fun y:Nat × Nat × List UInt8=>(decide (f'.1≤y.1) && decide (y.1 < f'.2))=false) (fun c y c' hc=>by
    refine ⟨hc,?_⟩
    revert hc
    split
    ·intro hc;cases hc
    split
    ·intro hc;cases hc
    rename_i n2
    intro _;simpa using n2) _ _ _ hfold).2
   have h3:=fun g hg=>(Qk (g:=g) (Q:=fun _=>True) hg _ _ _ hfold).1;have hlt:at_.block < x.heap.size:=by
    rcases Nat.lt_or_ge at_.block x.heap.size with q|q
    ·exact q
    ·rw [Array.getElem?_eq_none q] at hb;cases hb
   rw [h3 _ ?hstep]
   case hstep =>
    intro c y c' hc;refine ⟨?_,trivial⟩
    revert hc
    split
    ·intro hc;cases hc
    split
    ·intro hc;cases hc
    rename_i n2
    intro hc;have n4:¬ (decide (f.1≤y.1) && decide (y.1 < f.2))=true:=fun hq=>by
     simp only [Bool.and_eq_true,decide_eq_true_eq] at hq
     have:=hf.sub hq.1 hq.2
     simp [this.1,this.2] at n2
    rw [if_neg n4];exact hc
   refine ⟨_,rfl,?_,fun a ha=>?_⟩
   ·refine ⟨by simp [h.size],fun q o' o₂ h1 h2=>?_,h.os,h.output,fun a ha=>?_,fun q hq=>?old⟩
    case old =>
     by_cases e':at_.block=q
     ·subst e'
      have:=h.old _ hq
      rw [hb,hb2] at this;injection this with this
      injection this with _ _ this
      rw [this,Array.getElem?_setIfInBounds_self_of_lt hlt,Array.getElem?_setIfInBounds_self_of_lt (h.size ▸ hlt)]
     ·rw [Array.getElem?_setIfInBounds_ne e',Array.getElem?_setIfInBounds_ne e'];exact h.old q hq
    ·simp only [Array.getElem?_setIfInBounds] at h1 h2
     rw [h.size] at h1
     split at h1
     ·rename_i e'
      rw [if_pos e'] at h2
      split at h1
      ·rename_i hl';rw [if_pos hl'] at h2;rw [← Option.some.inj h1,← Option.some.inj h2];exact .inr ⟨_,_,_,_,rfl,rfl,hf⟩
      ·cases h1
     ·rename_i e';rw [if_neg e'] at h2;exact h.like q _ _ h1 h2
    ·have hs':=h.still a ha
     unfold World.frozen? at hs' ⊢
     by_cases e':at_.block=a.block
     ·rw [← e',hb] at hs'
      rw [← e',Array.getElem?_setIfInBounds_self_of_lt hlt];exact hs'
     ·rw [Array.getElem?_setIfInBounds_ne e'];exact hs'
   ·obtain ⟨y,hy,rfl⟩:=List.mem_map.1 ha
    refine ⟨hlt,?_⟩;unfold World.frozen?;rw [hb];exact h4 y hy
end
section
variable {S:YK} {x w:World}
theorem Ur {P:Program} {at_:Addr} {u:TypeId} {k:Addr} {v:Value} {atomic:Bool} {x':World} {l:List Addr} (τ:Nat→Question→Nat) (d:Nat) (hx:x.viewStore P at_ u k v atomic=.ok (x',l)) :
 (under x τ d).viewStore P at_ u k v atomic=.ok (under x' τ d,l):=by
 have hsn:(under x τ d).seen P at_ u k atomic=x.seen P at_ u k atomic:=rfl;unfold World.viewStore at hx ⊢;rw [hsn];simp only [bind,Except.bind,pure,Except.pure,throw,throwThe,MonadExceptOf.throw,MonadExcept.throw] at hx ⊢
 revert hx
 (repeat' split)<;>intro hx<;>simp_all
 all_goals (obtain ⟨rfl,_⟩:=hx;rfl)
theorem Vy {P:Program} {at_:Addr} {u:TypeId} {k:Addr} {v:Value} {atomic:Bool} {why:String} (τ:Nat→Question→Nat) (d:Nat) (hx:x.viewStore P at_ u k v atomic=.error why) :
 (under x τ d).viewStore P at_ u k v atomic=.error why:=by
 have hsn:(under x τ d).seen P at_ u k atomic=x.seen P at_ u k atomic:=rfl;unfold World.viewStore at hx ⊢;rw [hsn];simp only [bind,Except.bind,pure,Except.pure,throw,throwThe,MonadExceptOf.throw,MonadExcept.throw] at hx ⊢
 revert hx
 (repeat' split)<;>intro hx<;>simp_all
theorem WA {P:Program} {a:Addr} {v:Value} {atomic:Bool} {h:Halt} (hx:x.farStore P a v atomic=.error h) (τ:Nat→Question→Nat) (d:Nat):(under x τ d).farStore P a v atomic=.error h:=by
 have hh:(under x τ d).heap=x.heap:=rfl;unfold World.farStore at hx ⊢;rw [hh]
 split at hx
 ·split at hx
  ·cases hx
  ·rename_i hr
   rw [Vy τ d hr];exact hx
 ·exact hx
theorem Zj {P:Program} {at_:Addr} {u:TypeId} {k:Addr} {v:Value} {atomic:Bool} {x':World} {l:List Addr} (hx:x.viewStore P at_ u k v atomic=.ok (x',l)) :
 Y7 x'=Y7 x∧x'.drawn=x.drawn∧x'.heap.size=x.heap.size:=by
 unfold World.viewStore at hx;simp only [bind,Except.bind,pure,Except.pure,throw,throwThe,MonadExceptOf.throw,MonadExcept.throw] at hx
 revert hx
 (repeat' split)<;>intro hx<;>simp_all
 all_goals (obtain ⟨rfl,_⟩:=hx;simp [Y7])
theorem X6.farLoad (h:X6 S x w) {P:Program} {a:Addr} {atomic:Bool} {r:Value × List Addr} (hx:x.farLoad P a atomic=.ok r):w.farLoad P a atomic=.ok r∧∀ b∈r.2,b.block < x.heap.size:=by
 unfold World.farLoad at hx ⊢;rcases h.cases a.block with ⟨h1,h2⟩|⟨o',o,h1,h2,rfl|⟨c,t,f',f,rfl,rfl,_⟩⟩
 ·simp only [h1] at hx;cases hx
 ·rw [h1] at hx;rw [h2]
  cases o'<;>first|(cases hx)|skip
  rename_i at_ u
  simp only at hx ⊢
  split at hx
  ·rename_i r' hr
   obtain ⟨h3,h4⟩:=h.viewLoad hr;injection hx with hx;subst hx
   rw [h3];exact ⟨rfl,fun b hb=>(h4 b hb).2⟩
  ·cases hx
 ·simp only [h1] at hx;cases hx
theorem X6.farStore (h:X6 S x w) {P:Program} {a:Addr} {v:Value} {atomic:Bool} {x':World} {l:List Addr} (hx:x.farStore P a v atomic=.ok (x',l)) :
 (∃ w',w.farStore P a v atomic=.ok (w',l)∧X6 S x' w'∧Y7 w'=Y7 w∧w'.drawn=w.drawn)∧(∀ b∈l,b.block < x.heap.size∧x.frozen? b=false)∧x'.heap.size=x.heap.size∧∀ τ d,(under x τ d).farStore P a v atomic=.ok (under x' τ d,l):=by
 unfold World.farStore at hx ⊢;rcases h.cases a.block with ⟨h1,h2⟩|⟨o',o,h1,h2,rfl|⟨c,t,f',f,rfl,rfl,_⟩⟩
 ·simp only [h1] at hx;cases hx
 ·rw [h1] at hx;rw [h2]
  cases o'<;>first|(cases hx)|skip
  rename_i at_ u
  simp only at hx ⊢
  split at hx
  ·rename_i r' hr
   injection hx with hx;subst hx
   obtain ⟨w',h3,h4,h5⟩:=h.viewStore hr;rw [h3];refine ⟨⟨w',rfl,h4,?_⟩,h5,?_,fun τ d=>?_⟩
   ·exact ⟨(Zj h3).1,(Zj h3).2.1⟩
   ·exact (Zj hr).2.2
   ·have hh:(under x τ d).heap[a.block]? = some (.view at_ u):=h1
    simp only [hh,Ur τ d hr]
  ·cases hx
 ·simp only [h1] at hx;cases hx
end
def EvG (S:YK) (B:Nat) (e:Event):Prop :=
 (e.write=true→∀ a,e.loc=.cell a→¬ S.cells a)∧(e.write=true→∀ r,e.loc=.obj r→¬ S.objs r)∧(∀ m,e.loc=.mark m→m≠.disable∧m≠.enable∧(∀ a,m≠.read a∧m≠.write a))∧(MemAct.ofEvent e).low B
theorem EvG.mono {S:YK} {B B':Nat} {e:Event} (h:EvG S B e) (hB:B≤B'):EvG S B' e:=⟨h.1,h.2.1,h.2.2.1,MemAct.low_mono hB h.2.2.2⟩
theorem Uf {S:YK} {B:Nat} {a:Addr} {wr sy:Bool} (h:wr=true→¬ S.cells a) (hB:a.block < B):EvG S B ⟨.cell a,wr,sy⟩ :=
 ⟨fun hw b e=>(by injection e with e;subst e;exact h hw),fun _ b e=>(nomatch e),fun m e=>(nomatch e),(by cases wr<;>cases sy<;>exact hB)⟩
theorem Xc7 {S:YK} {B r:Nat} {wr sy:Bool} (h:wr=true→¬ S.objs r) (hB:r < B):EvG S B ⟨.obj r,wr,sy⟩ :=
 ⟨fun _ b e=>(nomatch e),fun hw b e=>(by injection e with e;subst e;exact h hw),fun m e=>(nomatch e),(by cases wr<;>cases sy<;>exact hB)⟩
def Agree (τ:Nat→Question→Nat) (d n:Nat) (f:Nat→Nat):Prop:=∀ j,j < n→∀ q,τ (d + j) q=f j
def Halt.bad:Halt→Prop
 | .stuck _ | .unsupported _=>True
 | _=>False
def Result.tap {α:Type} (τ:Nat→Question→Nat) (d:Nat):Result α→Result α
 | .ok a y=>.ok a (under y τ d)
 | .halt h y=>.halt h (under y τ d)
inductive Fits {α β:Type} (S:YK) (N:α→β→Prop) (w:World):Result α→Result β→Prop
 | ok {a:α} {b:β} {y w':World}:N a b→X6 S y w'→Y7 w'=Y7 w→w.heap.size≤w'.heap.size→Fits S N w (.ok a y) (.ok b w')
 | panic {v:Value} {y w':World}:X6 S y w'→Y7 w'=Y7 w→w.heap.size≤w'.heap.size→Fits S N w (.halt (.panic v) y) (.halt (.panic v) w')
def Result.world {α:Type}:Result α→World
 | .ok _ w=>w
 | .halt _ w=>w
def Zg {α β:Type} (P:Program) (S:YK) (N:α→β→Prop) (t:Sem α) (s:Sem β):Prop:=∀ x w,X6 S x w→∃ (n:Nat) (f:Nat→Nat),
 (∀ τ d,Agree τ d n f→∃ h y,t.run P (under x τ d)=.halt h y∧Halt.bad h) ∨
 (∃ r,Fits S N w r (s.run P w)∧(∀ τ d,Agree τ d n f→t.run P (under x τ d)=Result.tap τ (d + n) r) ∧
   ∃ evs,(∀ es,s.events P w es=es ++ evs)∧∀ e∈evs,EvG S (Result.world (s.run P w)).heap.size e)
def Eqs {α:Type} (N:α→Prop) (a b:α):Prop:=a=b∧N a
abbrev Sim {α:Type} (P:Program) (S:YK) (N:α→Prop) (s:Sem α):Prop:=Zg P S (Eqs N) s s
section
variable {P:Program} {S:YK} {α β γ δ:Type}
theorem Agree.left {τ:Nat→Question→Nat} {d n m:Nat} {f g:Nat→Nat} (h:Agree τ d (n + m) (fun j=>if j < n then f j else g (j - n))):Agree τ d n f:=fun j hj q=>by
 have:=h j (by omega) q
 simpa [hj] using this
theorem Agree.right {τ:Nat→Question→Nat} {d n m:Nat} {f g:Nat→Nat} (h:Agree τ d (n + m) (fun j=>if j < n then f j else g (j - n))):Agree τ (d + n) m g:=fun j hj q=>by
 have:=h (n + j) (by omega) q
 have e:n + j - n=j:=by omega
 simp only [Nat.not_lt.2 (Nat.le_add_right n j),if_false,e] at this;rw [Nat.add_assoc];exact this
theorem Zg.pure {N:α→β→Prop} {a:α} {b:β} (h:N a b):Zg P S N (Pure.pure a) (Pure.pure b):=fun x w hT=>⟨0,fun _=>0,.inr ⟨.ok a x,.ok h hT rfl (Nat.le_refl _),fun τ d _=>by simp [Result.tap],#[],fun es=>by simp,by simp⟩⟩
theorem Sim.pure {N:α→Prop} {a:α} (h:N a):Sim P S N (Pure.pure a):=Zg.pure ⟨rfl,h⟩
theorem Zg.mono {N N':α→β→Prop} {t:Sem α} {s:Sem β} (h:Zg P S N t s) (hN:∀ a b,N a b→N' a b):Zg P S N' t s:=fun x w hT=>by
 obtain ⟨n,f,hb|⟨r,hf,hr,he⟩⟩:=h x w hT
 ·exact ⟨n,f,.inl hb⟩
 ·refine ⟨n,f,.inr ⟨r,?_,hr,he⟩⟩
  generalize s.run P w=q at hf;cases hf with
  | ok a b c d=>exact .ok (hN _ _ a) b c d
  | panic b c d=>exact .panic b c d
theorem Zg.bind {N:α→β→Prop} {M:γ→δ→Prop} {t:Sem α} {s:Sem β} {k':α→Sem γ} {k:β→Sem δ} (h:Zg P S N t s) (hk:∀ a b,N a b→Zg P S M (k' a) (k b)):Zg P S M (t >>= k') (s >>= k):=fun x w hT=>by
 obtain ⟨n,f,hb|⟨r,hf,hr,evs,he,hev⟩⟩:=h x w hT
 ·refine ⟨n,f,.inl fun τ d hA=>?_⟩
  obtain ⟨h,y,e,hbad⟩:=hb τ d hA;exact ⟨h,y,by rw [Sem.run_bind,e];rfl,hbad⟩
 ·cases hw:s.run P w with
  | halt hh w₁ =>
   rw [hw] at hf hev;refine ⟨n,f,.inr ?_⟩;cases hf with
   | panic a b c =>
    refine ⟨.halt (.panic _) _,by rw [Sem.run_bind,hw];exact .panic a b c,fun τ d hA=>by rw [Sem.run_bind,hr τ d hA];rfl,evs,fun es=>by rw [Sem.events_bind,hw,Result.evThen_halt,he],?_⟩;rw [Sem.run_bind,hw];exact hev
  | ok b w₁ =>
   rw [hw] at hf hev;cases hf with
   | @ok a _ y _ hN hT₁ ht hs =>
    obtain ⟨m,g,hb|⟨r₂,hf₂,hr₂,evs₂,he₂,hev₂⟩⟩:=hk a b hN y w₁ hT₁
    ·refine ⟨n + m,fun j=>if j < n then f j else g (j - n),.inl fun τ d hA=>?_⟩
     obtain ⟨h,z,e,hbad⟩:=hb τ (d + n) hA.right;exact ⟨h,z,by rw [Sem.run_bind,hr τ d hA.left];exact e,hbad⟩
    ·refine ⟨n + m,fun j=>if j < n then f j else g (j - n),.inr ⟨r₂,?_,fun τ d hA=>?_,evs ++ evs₂,fun es=>?_,fun e hme=>?_⟩⟩
     ·rw [Sem.run_bind,hw,Result.andThen_ok]
      generalize (k b).run P w₁=q at hf₂;cases hf₂ with
      | ok a b c d=>exact .ok a b (c.trans ht) (Nat.le_trans hs d)
      | panic b c d=>exact .panic b (c.trans ht) (Nat.le_trans hs d)
     ·rw [Sem.run_bind,hr τ d hA.left]
      show (k' a).run P (under y τ (d + n))=_;rw [hr₂ τ (d + n) hA.right,Nat.add_assoc]
     ·rw [Sem.events_bind,hw,Result.evThen_ok,he,he₂,Array.append_assoc]
     ·rw [Sem.run_bind,hw,Result.andThen_ok]
      have hle:w₁.heap.size≤(Result.world ((k b).run P w₁)).heap.size:=by
       generalize (k b).run P w₁=q at hf₂;cases hf₂ with
       | ok a b c d=>exact d
       | panic b c d=>exact d
      rcases Array.mem_append.1 hme with h1|h1
      ·exact (hev e h1).mono hle
      ·exact hev₂ e h1
theorem Sim.bind {N:α→Prop} {M:β→Prop} {s:Sem α} {k:α→Sem β} (h:Sim P S N s) (hk:∀ a,N a→Sim P S M (k a)):Sim P S M (s >>= k) :=
 Zg.bind h fun a _ hab=>by obtain ⟨rfl,hN⟩:=hab;exact hk a hN
theorem Sim.mono {N N':α→Prop} {s:Sem α} (h:Sim P S N s) (hN:∀ a,N a→N' a):Sim P S N' s:=Zg.mono h fun a _ hab=>⟨hab.1,hN a hab.2⟩
theorem Qu {N:α→β→Prop} {t:Sem α} {s:Sem β} (h:∀ w,∃ e y,t.run P w=.halt e y∧Halt.bad e):Zg P S N t s:=fun x _ _=>⟨0,fun _=>0,.inl fun τ d _=>h (under x τ d)⟩
theorem YB {M:γ→δ→Prop} {a:Addr} {k':Bool→Sem γ} {k:Bool→Sem δ} (h1:Zg P S M (k' true) (k true)) (h2:Zg P S M (k' false) (k false)) (h3:Zg P S M (k' true) (k false)):Zg P S M (frozen a >>= k') (frozen a >>= k):=fun x w hT=>by
 have hu:∀ τ d,(frozen a >>= k').run P (under x τ d)=(k' (x.frozen? a)).run P (under x τ d):=fun _ _=>rfl;have hw:(frozen a >>= k).run P w=(k (w.frozen? a)).run P w:=rfl;have he:∀ es,(frozen a >>= k).events P w es=(k (w.frozen? a)).events P w es:=fun es=>rfl;simp only [hu,hw,he];cases e1:x.frozen? a with
 | false=>rw [hT.thawed a e1];exact h2 x w hT
 | true =>
  cases e2:w.frozen? a with
  | true=>exact h1 x w hT
  | false=>exact h3 x w hT
