/- What a region that draws its order leans on where the calls' answers are not known ahead: the answers laid into slots, the tail. -/
import Derived.Test.YtdhnggjmegilkaaSTkH
set_option linter.all false
set_option maxRecDepth 100000
set_option maxHeartbeats 16000000
namespace Go.Proofs.Ytdhnggjmegilkaa
open Go.Conc
def Xfc:Op→Bool
 | .select _ _=>false
 | _=>true
theorem Vm {o:Op} (h:Xfc o=true) (cs:Array SelectCase) (b:Bool):o≠.select cs b:=by rintro rfl;cases h
def XY (o:Oper) (j:Nat):Bool:=o.after.any fun e=>Region.binds .any e && e.on == j
def XJ (ops:Array Oper) (j:Nat):Option Tmp:=(ops[j]?).bind (·.dst)
structure Xdv (ops:Array Oper) (cn:Nat→Option Nat) (K:Nat):Prop where
 guard:∀ (i:Nat) (o:Oper),ops[i]? = some o→o.guard=none
 sel:∀ (i:Nat) (o:Oper),ops[i]? = some o→∀ cs b,o.op≠.select cs b
 less:∀ (i:Nat) (o:Oper),ops[i]? = some o→∀ e∈o.after,Region.binds .any e=true→e.on < i
 looks:∀ (i:Nat) (o:Oper),ops[i]? = some o→∀ t,.tmp t∈o.op.operands→∀ j,XJ ops j=some t→j < i∧XY o j=true
 once:∀ (i:Nat) (o:Oper) (d:Tmp),ops[i]? = some o→o.dst=some d→∀ j,XJ ops j=some d→j=i
 mild:∀ (i:Nat) (o:Oper),ops[i]? = some o→cn i=none→mild F00 o.op=true
 few:∀ i n,i < ops.size→cn i=some n→n < K
 chain:∀ (i:Nat) (o:Oper) (n:Nat),ops[i]? = some o→cn i=some (n + 1)→∃ j,cn j=some n∧XY o j=true
 all:∀ n,n < K→∃ j,j < ops.size∧cn j=some n
 uniq:∀ i j n,i < ops.size→j < ops.size→cn i=some n→cn j=some n→i=j
theorem ZE {ops:Array Oper} {j:Nat} {t:Tmp} (h:XJ ops j=some t):j < ops.size:=by
 unfold XJ at h;rcases Nat.lt_or_ge j ops.size with h'|h'
 ·exact h'
 ·rw [Array.getElem?_eq_none h'] at h;cases h
section
variable (P:Program) (Post:Value→World→Prop) (C:Ctx) (cs:List Frame) (cn:Nat→Option Nat) (cv:Nat→Value) (W:Nat→World→Prop)
def Vb (k:Nat) (y:World) (Q:Act→Prop):Nat→List Oper→Act→Prop
 | _,[],a=>Q a
 | i,o::l,a=>match cn i with
  | some n=>(n=k→∃ f args,(∀ w,(execOp a.eval o).run P w=.ok (.enter f args) w)∧(∀ w,(execOp a.eval o).events P w #[] = #[]) ∧
   ∀ c,(∀ y',W (k + 1) y'→JG P Post C (G (c.finish (cv n)) cs) y')→JG P Post C (G (Frame.enter P f args .normal) (c::cs)) y)∧Vb k y Q (i + 1) l (a.put o.dst (cv n))
  | none=>∀ τ d,o.still P a (under y τ d) (Vb k y Q (i + 1) l)
end
structure Bet (ds:List (Option Tmp)) (a b:Act):Prop where
 defers:b.defers=a.defers
 size:b.tmps.size=a.tmps.size
 same:∀ t,some t ∉ ds→b.tmps[t]? = a.tmps[t]?
theorem Bet.refl (a:Act):Bet [] a a:=⟨rfl,rfl,fun _ _=>rfl⟩
theorem Bet.put (a:Act) (d:Option Tmp) (v:Value):Bet [d] a (a.put d v):=by
 cases d with
 | none=>exact ⟨rfl,rfl,fun _ _=>rfl⟩
 | some d =>
  refine ⟨rfl,by simp [Act.put],fun t ht=>?_⟩;have hne:d≠t:=fun e=>ht (by simp [e]);simp only [Act.put];rw [Array.getElem?_setIfInBounds_ne hne]
theorem Bet.trans {l l':List (Option Tmp)} {a b c:Act} (h:Bet l a b) (k:Bet l' b c):Bet (l ++ l') a c :=
 ⟨k.defers.trans h.defers,k.size.trans h.size,fun t ht=>by
  have h1:some t ∉ l:=fun e=>ht (List.mem_append_left _ e);have h2:some t ∉ l':=fun e=>ht (List.mem_append_right _ e);rw [k.same t h2,h.same t h1]⟩
section
variable {P:Program} {Post:Value→World→Prop} {C:Ctx} {cs:List Frame} {cn:Nat→Option Nat} {cv:Nat→Value} {W:Nat→World→Prop}
theorem Vb.rd {k i:Nat} {y:World} {Q:Act→Prop} {o:Oper} {l:List Oper} {a:Act} (hc:cn i=none) (h:∀ K:Act→Prop,(∀ a',Vb P Post C cs cn cv W k y Q (i + 1) l a'→K a')→∀ τ d,o.still P a (under y τ d) K):Vb P Post C cs cn cv W k y Q i (o::l) a:=by
 unfold Vb;rw [hc];exact h _ (fun _ h=>h)
theorem Vb.cl {k i n:Nat} {y:World} {Q:Act→Prop} {o:Oper} {l:List Oper} {a:Act} (hc:cn i=some n)
 (h:n=k→∃ f args,(∀ w,(execOp a.eval o).run P w=.ok (.enter f args) w)∧(∀ w,(execOp a.eval o).events P w #[] = #[])∧∀ c,(∀ y',W (k + 1) y'→JG P Post C (G (c.finish (cv n)) cs) y')→JG P Post C (G (Frame.enter P f args .normal) (c::cs)) y)
 (h2:Vb P Post C cs cn cv W k y Q (i + 1) l (a.put o.dst (cv n))):Vb P Post C cs cn cv W k y Q i (o::l) a:=by
 unfold Vb;rw [hc];exact ⟨h,h2⟩
end
section
variable {P:Program} {Post:Value→World→Prop} {C:Ctx} {x:World} {b:Frame} {a₀ aE:Act} {kk:List Item} {cs:List Frame} {ops:Array Oper} {cn:Nat→Option Nat} {cv:Nat→Value} {W:Nat→World→Prop} {K:Nat}
structure Agr (ops:Array Oper) (a₀ aE:Act) (L:Array Bool) (a:Act):Prop where
 defers:a.defers=a₀.defers
 size:a.tmps.size=a₀.tmps.size
 done:∀ j t,L.getD j false=true→XJ ops j=some t→a.tmps[t]? = aE.tmps[t]?
 rest:∀ t,(∀ j,L.getD j false=true→XJ ops j≠some t)→a.tmps[t]? = a₀.tmps[t]?
structure At (P:Program) (Post:Value→World→Prop) (C:Ctx) (cs:List Frame) (ops:Array Oper) (cn:Nat→Option Nat) (cv:Nat→Value) (W:Nat→World→Prop) (a₀ aE:Act) (k:Nat) (y:World) (i:Nat) (o:Oper) (aj:Act) (v:Value):Prop where
 before:Bet ((ops.toList.take i).map (·.dst)) a₀ aj
 behind:Bet ((ops.toList.drop (i + 1)).map (·.dst)) (aj.put o.dst v) aE
 does:match cn i with
  | some n=>v=cv n∧(n=k→∃ f args,(∀ w,(execOp aj.eval o).run P w=.ok (.enter f args) w)∧(∀ w,(execOp aj.eval o).events P w #[] = #[]) ∧
   ∀ c,(∀ y',W (k + 1) y'→JG P Post C (G (c.finish (cv n)) cs) y')→JG P Post C (G (Frame.enter P f args .normal) (c::cs)) y)
  | none=>(∀ τ d,(execOp aj.eval o).run P (under y τ d)=.ok (.value v) (under y τ d))∨((∀ τ d,(execOp aj.eval o).run P (under y τ d)=.ok .skip (under y τ d))∧v=undef)
theorem Yz {l:List Oper} {t:Tmp} (h:some t∈l.map (·.dst)):∃ (j:Nat) (o:Oper),l[j]? = some o∧o.dst=some t:=by
 obtain ⟨o,ho,e⟩:=List.mem_map.1 h;obtain ⟨j,hj⟩:=List.getElem?_of_mem ho;exact ⟨j,o,hj,e⟩
theorem Zl {a:Act} {d:Tmp} {v:Value}:(a.put (some d) v).tmps[d]? = if d < a.tmps.size then some v else none:=by
 simp only [Act.put,Array.getElem?_setIfInBounds,if_true]
theorem At.next {k i:Nat} {y:World} {o:Oper} {aj a:Act} {v:Value} {L:Array Bool} (hok:Xdv ops cn K) (ho:ops[i]? = some o) (h:At P Post C cs ops cn cv W a₀ aE k y i o aj v) (hA:Agr ops a₀ aE L a) (hi:i < L.size) :
 Agr ops a₀ aE (L.setIfInBounds i true) (a.put o.dst v):=by
 have hget:∀ j,(L.setIfInBounds i true).getD j false=true→L.getD j false=true∨j=i:=fun j hj=>by
  by_cases e:i=j
  ·exact .inr e.symm
  ·rw [getD_set_ne false e] at hj;exact .inl hj
 have hself:(L.setIfInBounds i true).getD i false=true:=by simp [hi]
 refine ⟨by cases o.dst<;>exact hA.defers,by cases o.dst<;>simp [Act.put,hA.size],fun j t hj ht=>?_,fun t ht=>?_⟩
 ·by_cases e:XJ ops i=some t
  ·have hd:o.dst=some t:=by simpa [XJ,ho] using e
   rw [hd,Zl,hA.size];have h1:some t ∉ (ops.toList.drop (i + 1)).map (·.dst):=fun hm=>by
    obtain ⟨j',o',hj',hd'⟩:=Yz hm;rw [List.getElem?_drop] at hj'
    have:=hok.once i o t ho hd (i + 1 + j') (by simp [XJ,show ops[i + 1 + j']? = some o' by simpa using hj',hd'])
    omega
   have h2:=h.behind.same t h1;rw [hd,Zl] at h2;rw [h2,h.before.size]
  ·have hj':L.getD j false=true:=(hget j hj).resolve_right fun e'=>e (e' ▸ ht)
   have hne:∀ d,o.dst=some d→d≠t:=fun d hd e'=>e (by simp [XJ,ho,hd,e']);rw [← hA.done j t hj' ht];cases hd:o.dst with
   | none=>rfl
   | some d=>simp only [Act.put];rw [Array.getElem?_setIfInBounds_ne (hne d hd)]
 ·have hne:∀ d,o.dst=some d→d≠t:=fun d hd e'=>ht i hself (by simp [XJ,ho,hd,e'])
  rw [← hA.rest t fun j hj=>ht j (getD_set_true hj)];cases hd:o.dst with
  | none=>rfl
  | some d=>simp only [Act.put];rw [Array.getElem?_setIfInBounds_ne (hne d hd)]
theorem At.same {k i:Nat} {y:World} {o:Oper} {aj a:Act} {v:Value} {L:Array Bool} (hok:Xdv ops cn K) (ho:ops[i]? = some o) (h:At P Post C cs ops cn cv W a₀ aE k y i o aj v) (hA:Agr ops a₀ aE L a)
 (hr:i∈Region.ready .any ops L):execOp a.eval o=execOp aj.eval o:=by
 obtain ⟨_,o',ho',hall⟩:=mem_ready.1 hr;obtain rfl:o=o':=Option.some.inj (ho.symm.trans ho');refine execOp_congr o (hok.sel i o ho) fun z hz=>?_;cases z with
 | tmp t =>
  have key:a.tmps[t]? = aj.tmps[t]?:=by
   by_cases e:∃ j,XJ ops j=some t
   ·obtain ⟨j,hj⟩:=e
    obtain ⟨hji,hw⟩:=hok.looks i o ho t hz j hj;obtain ⟨e,he,hb⟩:=Array.any_eq_true'.1 hw;simp only [Bool.and_eq_true,beq_iff_eq] at hb;have hL:L.getD j false=true:=by have:=hall e he hb.1;rwa [hb.2] at this
    rw [hA.done j t hL hj];obtain ⟨oj,hoj,hdj⟩:∃ oj,ops[j]? = some oj∧oj.dst=some t:=by
     unfold XJ at hj;cases hx:ops[j]? with
     | none=>rw [hx] at hj;cases hj
     | some oj=>rw [hx] at hj;exact ⟨oj,rfl,hj⟩
    have h1:some t ∉ (ops.toList.drop (i + 1)).map (·.dst):=fun hm=>by
     obtain ⟨j',o',hj',hd'⟩:=Yz hm;rw [List.getElem?_drop] at hj'
     have:=hok.once j oj t hoj hdj (i + 1 + j') (by simp [XJ,show ops[i + 1 + j']? = some o' by simpa using hj',hd'])
     omega
    rw [h.behind.same t h1];have hne:∀ d,o.dst=some d→d≠t:=fun d hd e'=>by
     have:=hok.once j oj t hoj hdj i (by simp [XJ,ho,hd,e'])
     omega
    cases hd:o.dst with
    | none=>rfl
    | some d=>simp only [Act.put];rw [Array.getElem?_setIfInBounds_ne (hne d hd)]
   ·rw [hA.rest t fun j _ hj=>e ⟨j,hj⟩]
    refine (h.before.same t fun hm=>?_).symm;obtain ⟨j',o',hj',hd'⟩:=Yz hm;have hl:ops[j']? = some o':=by
     rw [List.getElem?_take] at hj'
     split at hj'
     ·simpa using hj'
     ·cases hj'
    exact e ⟨j',by simp [XJ,hl,hd']⟩
  simp only [Act.eval,Array.getD_eq_getD_getElem?,key]
 | _=>rfl
end
section
variable {cn:Nat→Option Nat} {ops hd:Array Oper} {ds:List (Option Tmp)}
structure TailOk (ops hd:Array Oper) (cn:Nat→Option Nat) (ds:List (Option Tmp)):Prop where
 waits:∀ (i:Nat) (o:Oper),hd.size≤i→ops[i]? = some o→∀ j,j < hd.size→XY o j=true
 seq:Region.seqB .any ops (ops.size - hd.size) hd.size ((List.range ops.size).map fun j=>decide (j < hd.size)).toArray=true
 slots:∀ (m:Nat) (t:Tmp),ds[m]? = some (some t)→∃ j,cn j=some m∧XJ hd j=some t
