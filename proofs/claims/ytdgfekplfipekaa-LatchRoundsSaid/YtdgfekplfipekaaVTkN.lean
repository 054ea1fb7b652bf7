/- A region that draws its order under J: reads, and in one forced order among them calls and operations that write, whose answers are not known ahead; behind all these a tail: as TkM, where each link waits for the one ahead. -/
import Derived.Test.YtdgfekplfipekaaVTkK
import Derived.Test.YtdgfekplfipekaaVTkM
set_option linter.all false
set_option maxRecDepth 100000
set_option maxHeartbeats 16000000
namespace Go.Proofs.Ytdgfekplfipekaa
open Go.Conc
def Xaw (ops:Array Oper) (cn:Nat→Option Nat) (K:Nat):Bool :=
 ((List.range ops.size).all fun i=>match ops[i]? with
   | none=>false
   | some o=>(match o.guard with | none=>true | some (g,_)=>decide (g < i) && XY o g) && Xfc o.op && (o.after.all fun e=>!Region.binds .any e || decide (e.on < i)) &&
    (o.op.operands.all fun x=>match x with
      | .tmp t=>(List.range ops.size).all fun j=>XJ ops j != some t || (decide (j < i) && XY o j)
      | _=>true) &&
    (match o.dst with|none=>true|some d=>(List.range ops.size).all fun j=>decide (j=i) || XJ ops j != some d) &&
    (match cn i with
      | none=>true
      | some 0=>decide (0 < K)
      | some (n + 1)=>decide (n + 1 < K) && (List.range ops.size).any fun j=>cn j == some n && (XY o j || (List.range ops.size).any fun m=>XY o m && (match ops[m]? with | some om=>XY om j | none=>false)))) &&
 ((List.range K).all fun n=>(List.range ops.size).any fun j=>cn j == some n) &&
 ((List.range ops.size).all fun i=>(List.range ops.size).all fun j=>decide (i=j) || cn i == none || cn i != cn j)
structure Un (ops:Array Oper) (cn:Nat→Option Nat) (K:Nat):Prop where
 guard:∀ (i:Nat) (o:Oper),ops[i]? = some o→∀ g b,o.guard=some (g,b)→g < i∧XY o g=true
 sel:∀ (i:Nat) (o:Oper),ops[i]? = some o→∀ cs b,o.op≠.select cs b
 less:∀ (i:Nat) (o:Oper),ops[i]? = some o→∀ e∈o.after,Region.binds .any e=true→e.on < i
 looks:∀ (i:Nat) (o:Oper),ops[i]? = some o→∀ t,.tmp t∈o.op.operands→∀ j,XJ ops j=some t→j < i∧XY o j=true
 once:∀ (i:Nat) (o:Oper) (d:Tmp),ops[i]? = some o→o.dst=some d→∀ j,XJ ops j=some d→j=i
 few:∀ i n,i < ops.size→cn i=some n→n < K
 chain:∀ (i:Nat) (o:Oper) (n:Nat),ops[i]? = some o→cn i=some (n + 1)→∃ j,cn j=some n∧(XY o j=true∨∃ m om,ops[m]? = some om∧XY o m=true∧XY om j=true)
 all:∀ n,n < K→∃ j,j < ops.size∧cn j=some n
 uniq:∀ i j n,i < ops.size→j < ops.size→cn i=some n→cn j=some n→i=j
theorem Xee {ops:Array Oper} {cn:Nat→Option Nat} {K:Nat} (h:Xaw ops cn K=true):Un ops cn K:=by
 simp only [Xaw,Bool.and_eq_true] at h;obtain ⟨⟨h1,h2⟩,h4⟩:=h;have H:=fun (i:Nat) (o:Oper) (ho:ops[i]? = some o)=>(show _ from by
  have:=List.all_eq_true.1 h1 i (List.mem_range.2 (Array.getElem?_eq_some_iff.1 ho).1)
  simp only [ho,Bool.and_eq_true] at this;exact this)
 refine ⟨fun i o ho g b hg=>?_,fun i o ho=>Vm (H i o ho).1.1.1.1.2,fun i o ho e he hb=>?_,fun i o ho t ht j hj=>?_,fun i o d ho hd j hj=>?_,fun i n hi hc=>?_,fun i o n ho hc=>?_,fun n hn=>?_,fun i j n hi hj hci hcj=>?_⟩
 ·have:=(H i o ho).1.1.1.1.1
  rw [hg] at this;simpa using this
 ·have:=Array.all_eq_true'.1 (H i o ho).1.1.1.2 e he
  simpa [hb] using this
 ·have:=Array.all_eq_true'.1 (H i o ho).1.1.2 _ ht
  have:=List.all_eq_true.1 this j (List.mem_range.2 (ZE hj))
  simpa [hj] using this
 ·have:=(H i o ho).1.2
  rw [hd] at this
  have:=List.all_eq_true.1 this j (List.mem_range.2 (ZE hj))
  simpa [hj] using this
 ·obtain ⟨o,ho⟩:∃ o,ops[i]? = some o:=⟨_,Array.getElem?_eq_getElem hi⟩
  have:=(H i o ho).2
  rw [hc] at this;cases n with
  | zero=>simpa using this
  | succ n=>simp only [Bool.and_eq_true,decide_eq_true_eq] at this;exact this.1
 ·have:=(H i o ho).2
  rw [hc] at this;simp only [Bool.and_eq_true] at this;obtain ⟨j,_,hj⟩:=List.any_eq_true.1 this.2;simp only [Bool.and_eq_true,beq_iff_eq,Bool.or_eq_true] at hj;refine ⟨j,hj.1,hj.2.imp id fun h=>?_⟩;obtain ⟨m,_,hm⟩:=List.any_eq_true.1 h;simp only [Bool.and_eq_true] at hm;cases e:ops[m]? with
  | none=>rw [e] at hm;exact absurd hm.2 (by simp)
  | some om=>rw [e] at hm;exact ⟨m,om,e,hm.1,hm.2⟩
 ·obtain ⟨j,hj,hj2⟩:=List.any_eq_true.1 (List.all_eq_true.1 h2 n (List.mem_range.2 hn))
  exact ⟨j,List.mem_range.1 hj,by simpa using hj2⟩
 ·have:=List.all_eq_true.1 (List.all_eq_true.1 h4 i (List.mem_range.2 hi)) j (List.mem_range.2 hj)
  simpa [hci,hcj] using this
section
variable (P:Program) (Post:Value→World→Prop) (C:Ctx) (cs:List Frame) (ops:Array Oper) (cn:Nat→Option Nat) (cv:Nat→Value) (W:Nat→World→Prop)
def ZI (k:Nat) (y:World) (Q:Act→Prop):Nat→List Oper→Act→Prop
 | _,[],a=>Q a
 | i,o::l,a=>match cn i with
  | some n=>Region.wanted o (yielded ops a.tmps)=true∧(n=k→∃ f args,(∀ w,(execOp a.eval o).run P w=.ok (.enter f args) w)∧(∀ w,(execOp a.eval o).events P w #[] = #[]) ∧
   ∀ c,(∀ y',W (k + 1) y'→JG P Post C (G (c.finish (cv n)) cs) y')→JG P Post C (G (Frame.enter P f args .normal) (c::cs)) y)∧ZI k y Q (i + 1) l (a.put o.dst (cv n))
  | none=>if Region.wanted o (yielded ops a.tmps)=true then mild F00 o.op=true∧∀ τ d,o.still P a (under y τ d) (ZI k y Q (i + 1) l) else ZI k y Q (i + 1) l (a.put o.dst undef)
structure Xw (k:Nat) (y:World) (Q:Act→Prop) (i:Nat) (l:List Oper) (a:Act):Prop where
 out:ZI P Post C cs ops cn cv W k y Q i l a
end
section
variable {P:Program} {Post:Value→World→Prop} {C:Ctx} {cs:List Frame} {ops:Array Oper} {cn:Nat→Option Nat} {cv:Nat→Value} {W:Nat→World→Prop}
theorem Xw.rd {k i:Nat} {y:World} {Q:Act→Prop} {o:Oper} {l:List Oper} {a:Act} (hc:cn i=none) (hw:Region.wanted o (yielded ops a.tmps)=true) (hm:mild F00 o.op=true)
 (h:∀ K:Act→Prop,(∀ a',Xw P Post C cs ops cn cv W k y Q (i + 1) l a'→K a')→∀ τ d,o.still P a (under y τ d) K):Xw P Post C cs ops cn cv W k y Q i (o::l) a:=by
 refine ⟨?_⟩;unfold ZI;rw [hc];simp only [hw,if_true];exact ⟨hm,h _ (fun _ h=>h.out)⟩
theorem Xw.un {k i:Nat} {y:World} {Q:Act→Prop} {o:Oper} {l:List Oper} {a:Act} (hc:cn i=none) (hw:Region.wanted o (yielded ops a.tmps)=false)
 (h:Xw P Post C cs ops cn cv W k y Q (i + 1) l (a.put o.dst undef)):Xw P Post C cs ops cn cv W k y Q i (o::l) a:=by
 refine ⟨?_⟩;unfold ZI;rw [hc];simp only [hw,Bool.false_eq_true,if_false];exact h.out
theorem Xw.cl {k i n:Nat} {y:World} {Q:Act→Prop} {o:Oper} {l:List Oper} {a:Act} (hc:cn i=some n) (hw:Region.wanted o (yielded ops a.tmps)=true)
 (h:n=k→∃ f args,(∀ w,(execOp a.eval o).run P w=.ok (.enter f args) w)∧(∀ w,(execOp a.eval o).events P w #[] = #[])∧∀ c,(∀ y',W (k + 1) y'→JG P Post C (G (c.finish (cv n)) cs) y')→JG P Post C (G (Frame.enter P f args .normal) (c::cs)) y)
 (h2:Xw P Post C cs ops cn cv W k y Q (i + 1) l (a.put o.dst (cv n))):Xw P Post C cs ops cn cv W k y Q i (o::l) a:=by
 refine ⟨?_⟩;unfold ZI;rw [hc];exact ⟨hw,h,h2.out⟩
theorem Xw.nil {k i:Nat} {y:World} {Q:Act→Prop} {a:Act} (h:Q a):Xw P Post C cs ops cn cv W k y Q i [] a:=⟨h⟩
theorem ZI.get {k:Nat} {x y w:World} {aE:Act} (hT:X6 C.prot y w):∀ (l:List Oper) (i:Nat) (a:Act),ZI P Post C cs ops cn cv W k y (fun a'=>a'=aE) i l a →
 Bet (l.map (·.dst)) a aE∧∀ j o,l[j]? = some o→∃ aj v,Bet ((l.take j).map (·.dst)) a aj∧Bet ((l.drop (j + 1)).map (·.dst)) (aj.put o.dst v) aE ∧
  (match cn (i + j) with
   | some n=>Region.wanted o (yielded ops aj.tmps)=true∧v=cv n∧(n=k→∃ f args,(∀ w,(execOp aj.eval o).run P w=.ok (.enter f args) w)∧(∀ w,(execOp aj.eval o).events P w #[] = #[]) ∧
    ∀ c,(∀ y',W (k + 1) y'→JG P Post C (G (c.finish (cv n)) cs) y')→JG P Post C (G (Frame.enter P f args .normal) (c::cs)) y)
   | none=>(Region.wanted o (yielded ops aj.tmps)=false∧v=undef)∨(Region.wanted o (yielded ops aj.tmps)=true∧mild F00 o.op=true∧((∀ τ d,(execOp aj.eval o).run P (under y τ d)=.ok (.value v) (under y τ d))∨((∀ τ d,(execOp aj.eval o).run P (under y τ d)=.ok .skip (under y τ d))∧v=undef)))):=by
 intro l
 induction l with
 | nil =>
  intro i a h;refine ⟨?_,fun j o ho=>by simp at ho⟩;obtain rfl:a=aE:=h;exact Bet.refl _
 | cons o l ih =>
  intro i a h;have step:∀ v,ZI P Post C cs ops cn cv W k y (fun a'=>a'=aE) (i + 1) l (a.put o.dst v) →
   (match cn i with
    | some n=>Region.wanted o (yielded ops a.tmps)=true∧v=cv n∧(n=k→∃ f args,(∀ w,(execOp a.eval o).run P w=.ok (.enter f args) w)∧(∀ w,(execOp a.eval o).events P w #[] = #[]) ∧
     ∀ c,(∀ y',W (k + 1) y'→JG P Post C (G (c.finish (cv n)) cs) y')→JG P Post C (G (Frame.enter P f args .normal) (c::cs)) y)
    | none=>(Region.wanted o (yielded ops a.tmps)=false∧v=undef)∨(Region.wanted o (yielded ops a.tmps)=true∧mild F00 o.op=true∧((∀ τ d,(execOp a.eval o).run P (under y τ d)=.ok (.value v) (under y τ d))∨((∀ τ d,(execOp a.eval o).run P (under y τ d)=.ok .skip (under y τ d))∧v=undef)))) →
   Bet ((o::l).map (·.dst)) a aE∧∀ j o',(o::l)[j]? = some o'→∃ aj v,Bet (((o::l).take j).map (·.dst)) a aj∧Bet (((o::l).drop (j + 1)).map (·.dst)) (aj.put o'.dst v) aE ∧
    (match cn (i + j) with
     | some n=>Region.wanted o' (yielded ops aj.tmps)=true∧v=cv n∧(n=k→∃ f args,(∀ w,(execOp aj.eval o').run P w=.ok (.enter f args) w)∧(∀ w,(execOp aj.eval o').events P w #[] = #[]) ∧
      ∀ c,(∀ y',W (k + 1) y'→JG P Post C (G (c.finish (cv n)) cs) y')→JG P Post C (G (Frame.enter P f args .normal) (c::cs)) y)
     | none=>(Region.wanted o' (yielded ops aj.tmps)=false∧v=undef)∨(Region.wanted o' (yielded ops aj.tmps)=true∧mild F00 o'.op=true∧((∀ τ d,(execOp aj.eval o').run P (under y τ d)=.ok (.value v) (under y τ d))∨((∀ τ d,(execOp aj.eval o').run P (under y τ d)=.ok .skip (under y τ d))∧v=undef)))):=fun v hv hc=>by
   obtain ⟨hB,hall⟩:=ih (i + 1) _ hv;refine ⟨(Bet.put a o.dst v).trans hB,fun j o' ho'=>?_⟩;cases j with
   | zero =>
    obtain rfl:o=o':=by simpa using ho'
    exact ⟨a,v,Bet.refl _,hB,hc⟩
   | succ j =>
    obtain ⟨aj,u,h1,h2,h3⟩:=hall j o' (by simpa using ho');refine ⟨aj,u,(Bet.put a o.dst v).trans h1,h2,?_⟩;rw [show i + (j + 1)=i + 1 + j by omega];exact h3
  have h':=h;unfold ZI at h';cases hcn:cn i with
  | some n =>
   rw [hcn] at h';refine step (cv n) h'.2.2 ?_;rw [hcn];exact ⟨h'.1,rfl,h'.2.1⟩
  | none =>
   rw [hcn] at h';cases hw:Region.wanted o (yielded ops a.tmps) with
   | false =>
    simp only [hw,Bool.false_eq_true,if_false] at h';refine step undef h' ?_;rw [hcn];exact .inl ⟨hw,rfl⟩
   | true =>
    simp only [hw,if_true] at h';rcases QF (C:=C) h'.1 hT h'.2 with ⟨v,hv⟩|hv
    ·refine step v (hv (fun _ _=>0) 0).2 ?_
     rw [hcn];exact .inr ⟨hw,h'.1,.inl fun τ d=>(hv τ d).1⟩
    ·refine step undef (hv (fun _ _=>0) 0).2 ?_
     rw [hcn];exact .inr ⟨hw,h'.1,.inr ⟨fun τ d=>(hv τ d).1,rfl⟩⟩
end
section
variable {P:Program} {Post:Value→World→Prop} {C:Ctx} {x:World} {b:Frame} {a₀ aE:Act} {kk:List Item} {cs:List Frame} {ops:Array Oper} {cn:Nat→Option Nat} {cv:Nat→Value} {W:Nat→World→Prop} {K:Nat}
structure AtG (P:Program) (Post:Value→World→Prop) (C:Ctx) (cs:List Frame) (ops:Array Oper) (cn:Nat→Option Nat) (cv:Nat→Value) (W:Nat→World→Prop) (a₀ aE:Act) (k:Nat) (y:World) (i:Nat) (o:Oper) (aj:Act) (v:Value):Prop where
 before:Bet ((ops.toList.take i).map (·.dst)) a₀ aj
 behind:Bet ((ops.toList.drop (i + 1)).map (·.dst)) (aj.put o.dst v) aE
 does:match cn i with
  | some n=>Region.wanted o (yielded ops aj.tmps)=true∧v=cv n∧(n=k→∃ f args,(∀ w,(execOp aj.eval o).run P w=.ok (.enter f args) w)∧(∀ w,(execOp aj.eval o).events P w #[] = #[]) ∧
   ∀ c,(∀ y',W (k + 1) y'→JG P Post C (G (c.finish (cv n)) cs) y')→JG P Post C (G (Frame.enter P f args .normal) (c::cs)) y)
  | none=>(Region.wanted o (yielded ops aj.tmps)=false∧v=undef)∨(Region.wanted o (yielded ops aj.tmps)=true∧mild F00 o.op=true∧((∀ τ d,(execOp aj.eval o).run P (under y τ d)=.ok (.value v) (under y τ d))∨((∀ τ d,(execOp aj.eval o).run P (under y τ d)=.ok .skip (under y τ d))∧v=undef)))
theorem AtG.next {k i:Nat} {y:World} {o:Oper} {aj a:Act} {v:Value} {L:Array Bool} (hok:Un ops cn K) (ho:ops[i]? = some o) (h:AtG P Post C cs ops cn cv W a₀ aE k y i o aj v) (hA:Agr ops a₀ aE L a) (hi:i < L.size) :
 Agr ops a₀ aE (L.setIfInBounds i true) (a.put o.dst v):=by
 have hget:∀ j,(L.setIfInBounds i true).getD j false=true→L.getD j false=true∨j=i:=fun j hj=>by
  by_cases e:i=j
  ·exact .inr e.symm
  ·rw [getD_set_ne false e] at hj;exact .inl hj
 have hself:(L.setIfInBounds i true).getD i false=true:=by simp [hi]
 refine ⟨by cases o.dst<;>exact hA.defers,by cases o.dst<;>simp [Act.put,hA.size],fun j t hj ht=>?_,fun t ht=>?_⟩
 ·by_cases e:XJ ops i=some t
  ·have hd:o.dst=some t:=by simpa [XJ,ho] using e
   rw [hd,Zl,hA.size];have h1:some t ∉ (ops.toList.drop (i + 1)).map (·.dst):=fun hm=>by
    obtain ⟨j',o',hj',hd'⟩:=Yz hm;rw [List.getElem?_drop] at hj'
    have:=hok.once i o t ho hd (i + 1 + j') (by simp [XJ,show ops[i + 1 + j']? = some o' by simpa using hj',hd'])
    omega
   have h2:=h.behind.same t h1;rw [hd,Zl] at h2;rw [h2,h.before.size]
  ·have hj':L.getD j false=true:=(hget j hj).resolve_right fun e'=>e (e' ▸ ht)
   have hne:∀ d,o.dst=some d→d≠t:=fun d hd e'=>e (by simp [XJ,ho,hd,e']);rw [← hA.done j t hj' ht];cases hd:o.dst with
   | none=>rfl
   | some d=>simp only [Act.put];rw [Array.getElem?_setIfInBounds_ne (hne d hd)]
 ·have hne:∀ d,o.dst=some d→d≠t:=fun d hd e'=>ht i hself (by simp [XJ,ho,hd,e'])
  rw [← hA.rest t fun j hj=>ht j (getD_set_true hj)];cases hd:o.dst with
  | none=>rfl
  | some d=>simp only [Act.put];rw [Array.getElem?_setIfInBounds_ne (hne d hd)]
theorem AtG.same {k i:Nat} {y:World} {o:Oper} {aj a:Act} {v:Value} {L:Array Bool} (hok:Un ops cn K) (ho:ops[i]? = some o) (h:AtG P Post C cs ops cn cv W a₀ aE k y i o aj v) (hA:Agr ops a₀ aE L a)
 (hr:i∈Region.ready .any ops L):execOp a.eval o=execOp aj.eval o∧Region.wanted o (yielded ops a.tmps)=Region.wanted o (yielded ops aj.tmps):=by
 obtain ⟨_,o',ho',hall⟩:=mem_ready.1 hr;obtain rfl:o=o':=Option.some.inj (ho.symm.trans ho');have key:∀ t,(∀ j,XJ ops j=some t→j < i∧XY o j=true)→a.tmps[t]? = aj.tmps[t]?:=fun t hlk=>by
  by_cases e:∃ j,XJ ops j=some t
  ·obtain ⟨j,hj⟩:=e
   obtain ⟨hji,hw⟩:=hlk j hj;obtain ⟨e,he,hb⟩:=Array.any_eq_true'.1 hw;simp only [Bool.and_eq_true,beq_iff_eq] at hb;have hL:L.getD j false=true:=by have:=hall e he hb.1;rwa [hb.2] at this
   rw [hA.done j t hL hj];obtain ⟨oj,hoj,hdj⟩:∃ oj,ops[j]? = some oj∧oj.dst=some t:=by
    unfold XJ at hj;cases hx:ops[j]? with
    | none=>rw [hx] at hj;cases hj
    | some oj=>rw [hx] at hj;exact ⟨oj,rfl,hj⟩
   have h1:some t ∉ (ops.toList.drop (i + 1)).map (·.dst):=fun hm=>by
    obtain ⟨j',o',hj',hd'⟩:=Yz hm;rw [List.getElem?_drop] at hj'
    have:=hok.once j oj t hoj hdj (i + 1 + j') (by simp [XJ,show ops[i + 1 + j']? = some o' by simpa using hj',hd'])
    omega
   rw [h.behind.same t h1];have hne:∀ d,o.dst=some d→d≠t:=fun d hd e'=>by
    have:=hok.once j oj t hoj hdj i (by simp [XJ,ho,hd,e'])
    omega
   cases hd:o.dst with
   | none=>rfl
   | some d=>simp only [Act.put];rw [Array.getElem?_setIfInBounds_ne (hne d hd)]
  ·rw [hA.rest t fun j _ hj=>e ⟨j,hj⟩]
   refine (h.before.same t fun hm=>?_).symm;obtain ⟨j',o',hj',hd'⟩:=Yz hm;have hl:ops[j']? = some o':=by
    rw [List.getElem?_take] at hj'
    split at hj'
    ·simpa using hj'
    ·cases hj'
   exact e ⟨j',by simp [XJ,hl,hd']⟩
 refine ⟨execOp_congr o (hok.sel i o ho) fun z hz=>?_,?_⟩
 ·cases z with
  | tmp t=>simp only [Act.eval,Array.getD_eq_getD_getElem?,key t (hok.looks i o ho t hz)]
  | _=>rfl
 ·unfold Region.wanted
  cases hg:o.guard with
  | none=>rfl
  | some gb =>
   obtain ⟨g,bb⟩:=gb;obtain ⟨h1,h2⟩:=hok.guard i o ho g bb hg;have hy:yielded ops a.tmps g=yielded ops aj.tmps g:=by
    unfold yielded;cases ht:(ops[g]?).bind (·.dst) with
    | none=>rfl
    | some t =>
     have hk:=key t fun j hj=>by
      obtain ⟨og,hog,hdg⟩:∃ og,ops[g]? = some og∧og.dst=some t:=by
       cases hx:ops[g]? with
       | none=>rw [hx] at ht;cases ht
       | some og=>rw [hx] at ht;exact ⟨og,rfl,ht⟩
      have:=hok.once g og t hog hdg j hj
      subst this;exact ⟨h1,h2⟩
     show (match a.tmps[t]? with|some (.bool b)=>some b|_=>none)=(match aj.tmps[t]? with|some (.bool b)=>some b|_=>none);rw [hk]
   simp only [hy]
theorem JG.anyCG (hok:Un ops cn K) (hk:b.kind≠.early) (hAt:∀ k,k≤K→∀ y,W k y→∀ w,X6 C.prot y w→Bet (ops.toList.map (·.dst)) a₀ aE∧∀ (i:Nat) (o:Oper),ops[i]? = some o→∃ aj v,AtG P Post C cs ops cn cv W a₀ aE k y i o aj v)
 (hend:∀ y,W K y→JG P Post C (G (b.at aE (.inRegion ops []::kk)) cs) y) :
 ∀ (f t:Nat) (L:Array Bool) (U:List Nat) (a:Act) (k:Nat) (y:World),W k y→k≤K→L.size=ops.size→U.length=f→U.Nodup→(∀ i,i∈U ↔ i < ops.size∧L.getD i false=false)→(∀ i n,i < ops.size→cn i=some n→(L.getD i false=true ↔ n < k))→(∀ m om,ops[m]? = some om→L.getD m false=true→∀ j,XY om j=true→L.getD j false=true)→Agr ops a₀ aE L a →
  JG P Post C (G (b.at a (.inRegion ops (Region.linearise.go .any ops f t L [])::kk)) cs) y:=by
 intro f
 induction f with
 | zero =>
  intro t L U a k y hW hkK hLs hU _ hmem hcn _ hA w hT;have hall:∀ i,i < ops.size→L.getD i false=true:=fun i hi=>by
   have:U = []:=List.length_eq_zero_iff.1 hU
   rw [this] at hmem
   have:=(hmem i).2
   cases h:L.getD i false with
   | true=>rfl
   | false=>exact absurd (this ⟨hi,h⟩) (by simp)
  have hkk:k=K:=by
   rcases Nat.lt_or_ge k K with h|h
   ·obtain ⟨j,hj,hc⟩:=hok.all k h
    have:=(hcn j k hj hc).1 (hall j hj)
    omega
   ·omega
  subst hkk;obtain ⟨hB,_⟩:=hAt k (Nat.le_refl _) y hW w hT;have ha:a=aE:=by
   have e1:a.tmps=aE.tmps:=by
    apply Array.ext_getElem?;intro t
    by_cases e:∃ j,XJ ops j=some t
    ·obtain ⟨j,hj⟩:=e
     exact hA.done j t (hall j (ZE hj)) hj
    ·rw [hA.rest t fun j _ hj=>e ⟨j,hj⟩]
     refine (hB.same t fun hm=>?_).symm;obtain ⟨j',o',hj',hd'⟩:=Yz hm;exact e ⟨j',by simp [XJ,show ops[j']? = some o' by simpa using hj',hd']⟩
   have e2:a.defers=aE.defers:=hA.defers.trans hB.defers.symm;cases a;cases aE;simp_all
  subst ha;exact hend y hW w hT
 | succ f ih =>
  intro t L U a k y hW hkK hLs hU hnd hmem hcn hcl hA w hT;obtain ⟨_,hget⟩:=hAt k hkK y hW w hT;have hne:Region.ready .any ops L≠[]:=fun h0=>by
   obtain ⟨i,hi,hmin⟩:∃ i,i∈U∧∀ j,j∈U→i≤j:=by
    have hex:∃ i,i∈U:=by
     cases U with
     | nil=>simp at hU
     | cons u U=>exact ⟨u,by simp⟩
    have hmin:∀ m,m∈U→∃ i,i∈U∧∀ j,j∈U→i≤j:=fun m=>by
     induction m using Nat.strongRecOn with
     | _ m ihm =>
      intro hm
      by_cases e:∃ j,j∈U∧j < m
      ·obtain ⟨j,hj,hlt⟩:=e
       exact ihm j hlt hj
      ·exact ⟨m,hm,fun j hj=>Nat.not_lt.1 fun hlt=>e ⟨j,hj,hlt⟩⟩
    obtain ⟨m,hm⟩:=hex;exact hmin m hm
   obtain ⟨hil,hLi⟩:=(hmem i).1 hi;obtain ⟨o,ho⟩:∃ o,ops[i]? = some o:=⟨_,Array.getElem?_eq_getElem hil⟩
   have:i∈Region.ready .any ops L:=mem_ready.2 ⟨getD_in (by omega) hLi,o,ho,fun e he hb=>by
    have hlt:=hok.less i o ho e he hb;cases h:L.getD e.on false with
    | true=>rfl
    | false=>have:=hmin e.on ((hmem e.on).2 ⟨by omega,h⟩);omega⟩
   rw [h0] at this;cases this
  simp only [Region.linearise.go]
  change J P Post C (G (b.at a (.inRegion ops (match (Region.ready .any ops L)[t % (Region.ready .any ops L).length]? with
   | some i=>Region.linearise.go .any ops f (t / (Region.ready .any ops L).length) (L.setIfInBounds i true) [i]
   | none=>[].reverse)::kk)) cs) w
  cases hi:(Region.ready .any ops L)[t % (Region.ready .any ops L).length]? with
  | none =>
   exfalso
   have hlt:t % (Region.ready .any ops L).length < (Region.ready .any ops L).length:=Nat.mod_lt _ (List.length_pos_iff.2 hne);rw [List.getElem?_eq_getElem hlt] at hi;cases hi
  | some i =>
   simp only [];rw [linearise_go_acc,List.reverse_singleton,List.singleton_append];have him:i∈Region.ready .any ops L:=List.mem_of_getElem? hi;obtain ⟨hun,o,ho,hall⟩:=mem_ready.1 him;have hil:i < ops.size:=(Array.getElem?_eq_some_iff.1 ho).1;obtain ⟨aj,v,hat⟩:=hget i o ho;obtain ⟨hex,hwx⟩:=hat.same hok ho hA him;have hA':=hat.next hok ho hA (by omega);have hUi:i∈U:=(hmem i).2 ⟨hil,getD_both hun⟩;have hU':(U.erase i).length=f:=by rw [List.length_erase_of_mem hUi,hU];rfl
   have hmem':∀ j,j∈U.erase i ↔ j < ops.size∧(L.setIfInBounds i true).getD j false=false:=fun j=>by
    rw [List.Nodup.mem_erase_iff hnd,hmem]
    by_cases e:i=j
    ·subst e
     simp [show i < L.size by omega]
    ·rw [getD_set_ne false e]
     exact ⟨fun h=>h.2,fun h=>⟨fun e'=>e e'.symm,h⟩⟩
   have hdone:∀ j,XY o j=true→L.getD j false=true:=fun j hw=>by
    obtain ⟨e,he,hb⟩:=Array.any_eq_true'.1 hw;simp only [Bool.and_eq_true,beq_iff_eq] at hb
    have:=hall e he hb.1;rwa [hb.2] at this
   have hcl':∀ m om,ops[m]? = some om→(L.setIfInBounds i true).getD m false=true→∀ j,XY om j=true→(L.setIfInBounds i true).getD j false=true:=fun m om hm hL j hw=>by
    have hij:i≠j:=fun e=>by
     subst e
     by_cases e2:i=m
     ·subst e2
      obtain rfl:o=om:=by rw [ho] at hm;exact Option.some.inj hm
      have:=hdone i hw
      rw [getD_both hun] at this;cases this
     ·rw [getD_set_ne false e2] at hL
      have:=hcl m om hm hL i hw
      rw [getD_both hun] at this;cases this
    rw [getD_set_ne false hij]
    by_cases e2:i=m
    ·subst e2
     obtain rfl:o=om:=by rw [ho] at hm;exact Option.some.inj hm
     exact hdone j hw
    ·rw [getD_set_ne false e2] at hL
     exact hcl m om hm hL j hw
   cases hc:cn i with
   | none =>
    have hd:=hat.does;rw [hc] at hd;have hcn':∀ j n,j < ops.size→cn j=some n→((L.setIfInBounds i true).getD j false=true ↔ n < k):=fun j n hj hcj=>by
     have hij:i≠j:=fun e=>by subst e;rw [hc] at hcj;cases hcj
     rw [getD_set_ne false hij];exact hcn j n hj hcj
    rcases hd with ⟨hw,rfl⟩|⟨hw,hml,hd⟩
    ·exact JG.unwanted ho (by rw [hwx];exact hw) (ih _ _ _ _ k y hW hkK (by simp [hLs]) hU' (hnd.erase i) hmem' hcn' hcl' hA') w hT
    ·refine JG.op (F:=F00) Ub (fun h=>by cases h) hml ho (by rw [hwx];exact hw) hk (fun K' E hK hE τ d=>?_) w hT
     rw [hex];rcases hd with hd|⟨hd,rfl⟩
     ·rw [hd τ d,uponE_value]
      exact hK _ _ (JG.tap (ih _ _ _ _ k y hW hkK (by simp [hLs]) hU' (hnd.erase i) hmem' hcn' hcl' hA'))
     ·rw [hd τ d,uponE_skip]
      exact hK _ _ (JG.tap (ih _ _ _ _ k y hW hkK (by simp [hLs]) hU' (hnd.erase i) hmem' hcn' hcl' hA'))
   | some n =>
    have hd:=hat.does;rw [hc] at hd;obtain ⟨hwn,rfl,hd⟩:=hd;have hnk:n=k:=by
     have h1:¬ n < k:=fun h=>by
      have:=(hcn i n hil hc).2 h
      rw [getD_both hun] at this;cases this
     cases n with
     | zero=>omega
     | succ m =>
      obtain ⟨j,hj,hw⟩:=hok.chain i o m ho hc;have hL:L.getD j false=true:=by
       rcases hw with hw|⟨q,oq,hq,hw1,hw2⟩
       ·exact hdone j hw
       ·exact hcl q oq hq (hdone q hw1) j hw2
      have hjl:j < ops.size:=by
       rcases Nat.lt_or_ge j ops.size with h|h
       ·exact h
       ·rw [Array.getD_eq_getD_getElem?,Array.getElem?_eq_none (by omega)] at hL;cases hL
      have:=(hcn j m hjl hj).1 hL
      omega
    subst hnk;have hnK:=hok.few i n hil hc;obtain ⟨g,args,h1,h2,h3⟩:=hd rfl;have hcn':∀ j m,j < ops.size→cn j=some m→((L.setIfInBounds i true).getD j false=true ↔ m < n + 1):=fun j m hj hcj=>by
     by_cases e:i=j
     ·subst e
      rw [hc] at hcj;obtain rfl:=Option.some.inj hcj;simp [show i < L.size by omega]
     ·rw [getD_set_ne false e,hcn j m hj hcj]
      have hmn:m≠n:=fun e'=>e (hok.uniq i j n hil hj hc (e' ▸ hcj))
      omega
    refine JG.call (f:=g) (args:=args) ho (by rw [hwx];exact hwn) hk (fun w=>by rw [hex];exact h1 w) (fun w=>by rw [hex];exact h2 w) (h3 _ fun y' hy'=>?_) w hT;rw [Frame.finish_at,ho];exact ih _ _ _ _ (n + 1) y' hy' (by omega) (by simp [hLs]) hU' (hnd.erase i) hmem' hcn' hcl' hA'
theorem JG.drawCallsG {id:Nat} {l:List Oper} {a:Act} (cn:Nat→Option Nat) (cv:Nat→Value) (W:Nat→World→Prop) (K:Nat) (hm:P.follows .mixedOrders=true) (hB:Xaw l.toArray cn K=true) (hk:b.kind≠.early) (h0:W 0 x)
 (h:∃ aE,(∀ k,k≤K→∀ y,W k y→Xw P Post C cs l.toArray cn cv W k y (fun a'=>a'=aE) 0 l a)∧∀ y,W K y→JG P Post C (G (b.at aE kk) cs) y):JG P Post C (G (b.at a (.code (.region id l.toArray true)::kk)) cs) x:=by
 obtain ⟨aE,hp,hend⟩:=h;have hok:=Xee hB;refine JG.draw fun t=>?_;simp only [Region.schedule,hm,Bool.true_or,if_true,Region.linearise];refine JG.anyCG (a₀:=a) (aE:=aE) (W:=W) (cv:=cv) hok hk (fun k hkK y hy w hT=>?_) (fun y hy=>JG.done (hend y hy)) l.toArray.size t (Array.replicate l.toArray.size false) (List.range l.toArray.size) a 0 x h0 (Nat.zero_le _) (by simp) (by simp) List.nodup_range
  (fun i=>⟨fun h=>⟨List.mem_range.1 h,getD_replicate_false _ _⟩,fun h=>List.mem_range.2 h.1⟩) (fun i n hi hc=>⟨fun h=>(by rw [getD_replicate_false] at h;cases h),fun h=>absurd h (Nat.not_lt_zero _)⟩) (fun m om _ h=>(by rw [getD_replicate_false] at h;cases h)) ⟨rfl,rfl,fun j t hj=>(by rw [getD_replicate_false] at hj;cases hj),fun t _=>rfl⟩
 obtain ⟨h1,h2⟩:=ZI.get (x:=x) (ops:=l.toArray) hT l 0 a (hp k hkK y hy).out;refine ⟨by simpa using h1,fun i o ho=>?_⟩;obtain ⟨aj,v,q1,q2,q3⟩:=h2 i o (by simpa using ho);rw [Nat.zero_add] at q3;exact ⟨aj,v,by simpa using q1,by simpa using q2,q3⟩
end
end Go.Proofs.Ytdgfekplfipekaa
namespace Go.Proofs.Ytdgfekplfipekaa
open Go.Conc
open Go.ConcN (upd upd_same upd_ne)
section
variable (P:Program) (Post:Value→World→Prop) (cs:List Frame) (cn:Nat→Option Nat) (W:Nat→(Nat→Value)→Ctx→World→Prop) (b:Frame) (kk:List Item) (ops:Array Oper)
def ChStep (k:Nat) (cv:Nat→Value) (C:Ctx) (y:World) (i:Nat) (o:Oper) (aj:Act):Prop :=
 ∀ a',execOp a'.eval o=execOp aj.eval o→a'.defers=aj.defers→∀ L:List Nat,(∀ v C' y',W (k + 1) (cvUp cv k v) C' y'→JG P Post C' (G (b.at (a'.put o.dst v) (.inRegion ops L::kk)) cs) y')→JG P Post C (G (b.at a' (.inRegion ops (i::L)::kk)) cs) y
def CPass (k:Nat) (cv:Nat→Value) (C:Ctx) (y:World) (Q:Act→Prop):Nat→List Oper→Act→Prop
 | _,[],a=>Q a
 | i,o::l,a=>match cn i with
  | some n=>(n=k→ChStep P Post cs W b kk ops k cv C y i o a)∧CPass k cv C y Q (i + 1) l (a.put o.dst (cv n))
  | none=>∀ τ d,o.still P a (under y τ d) (CPass k cv C y Q (i + 1) l)
end
section
variable {P:Program} {Post:Value→World→Prop} {cs:List Frame} {cn:Nat→Option Nat} {W:Nat→(Nat→Value)→Ctx→World→Prop} {b:Frame} {kk:List Item} {ops:Array Oper} {k:Nat} {cv:Nat→Value} {C:Ctx} {y:World}
theorem ChStep.call {i:Nat} {o:Oper} {aj:Act} (f:FuncId) (args:Array Value) (ho:ops[i]? = some o) (hg:o.guard=none) (hk:b.kind≠.early) (h1:∀ w,(execOp aj.eval o).run P w=.ok (.enter f args) w) (h2:∀ w,(execOp aj.eval o).events P w #[] = #[])
 (h3:∀ a' L,a'.defers=aj.defers→(∀ v C' y',W (k + 1) (cvUp cv k v) C' y'→JG P Post C' (G ((b.at a' (.inRegion ops (i::L)::kk)).finish v) cs) y')→JG P Post C (G (Frame.enter P f args .normal) (b.at a' (.inRegion ops (i::L)::kk)::cs)) y):ChStep P Post cs W b kk ops k cv C y i o aj:=fun a' he hd L hK=>by
 refine JG.call (f:=f) (args:=args) ho (by simp [Region.wanted,hg]) hk (fun w=>by rw [he];exact h1 w) (fun w=>by rw [he];exact h2 w) (h3 a' L hd fun v C' y' hW=>?_);rw [Frame.finish_at,ho];exact hK v C' y' hW
theorem ChStep.op {i:Nat} {o:Oper} {aj:Act} {F:Fns} (hF:Q7 P F) (hM:F.maps=true→∀ r,¬ C.prot.objs r) (hm:mild F o.op=true) (ho:ops[i]? = some o) (hg:o.guard=none) (hk:b.kind≠.early)
 (h:∀ K:Value→World→Prop,(∀ v y' τ d,W (k + 1) (cvUp cv k v) C y'→K v (under y' τ d))→∀ τ d,match (execOp aj.eval o).run P (under y τ d) with
   | .ok (.value v) w=>K v w
   | .ok .skip w=>K undef w
   | _=>False):ChStep P Post cs W b kk ops k cv C y i o aj:=fun a' he hd L hK=>by
 refine JG.op hF hM hm ho (by simp [Region.wanted,hg]) hk fun K E hKK hE τ d=>?_;rw [he]
 have:=h (fun v w=>K (a'.put o.dst v) w) (fun v y' τ d hW=>hKK _ _ (JG.tap (hK v C y' hW))) τ d
 revert this
 cases (execOp aj.eval o).run P (under y τ d) with
 | halt hh w=>exact False.elim
 | ok u w =>
  cases u with
  | value v=>exact fun h=>(by rw [uponE_value];exact h)
  | skip=>exact fun h=>(by rw [uponE_skip];exact h)
  | _=>exact False.elim
theorem CPass.rd {i:Nat} {Q:Act→Prop} {o:Oper} {l:List Oper} {a:Act} (hc:cn i=none) (h:∀ K:Act→Prop,(∀ a',CPass P Post cs cn W b kk ops k cv C y Q (i + 1) l a'→K a')→∀ τ d,o.still P a (under y τ d) K):CPass P Post cs cn W b kk ops k cv C y Q i (o::l) a:=by
 unfold CPass;rw [hc];exact h _ (fun _ h=>h)
theorem CPass.ch {i n:Nat} {Q:Act→Prop} {o:Oper} {l:List Oper} {a:Act} (hc:cn i=some n) (h:n=k→ChStep P Post cs W b kk ops k cv C y i o a)
 (h2:CPass P Post cs cn W b kk ops k cv C y Q (i + 1) l (a.put o.dst (cv n))):CPass P Post cs cn W b kk ops k cv C y Q i (o::l) a:=by
 unfold CPass;rw [hc];exact ⟨h,h2⟩
theorem CPass.nil {i:Nat} {Q:Act→Prop} {a:Act} (h:Q a):CPass P Post cs cn W b kk ops k cv C y Q i [] a:=h
def chPre (n:Nat):List Nat:=if n=0 then [] else [n - 1]
def chD (k:Nat):Nat→Bool:=fun i=>decide (i < k)
def chW (W:Nat→(Nat→Value)→Ctx→World→Prop) (K:Nat) (D:Nat→Bool) (cv:Nat→Value) (C:Ctx) (y:World):Prop:=∃ k,k≤K∧D=chD k∧W k cv C y
theorem chD_up (k:Nat):upd (chD k) k true=chD (k + 1):=by
 funext i
 unfold chD
 by_cases e:i=k
 ·subst e;rw [upd_same];simp
 ·rw [upd_ne _ _ e]
  congr 1
  exact propext ⟨fun h=>by omega,fun h=>by omega⟩
theorem CPass.toP {K k:Nat} {cv:Nat→Value} {C:Ctx} {y:World} {Q:Act→Prop}:∀ (l:List Oper) (i:Nat) (a:Act),(∀ (j n:Nat),j < l.length→cn (i + j)=some n→n < K)→CPass P Post cs cn W b kk ops k cv C y Q i l a→CPassP P Post cs cn chPre (chW W K) b kk ops (chD k) cv C y Q i l a:=by
 intro l
 induction l with
 | nil=>intro i a _ h;exact h
 | cons o l ih =>
  intro i a hf h;have hf':∀ (j n:Nat),j < l.length→cn (i + 1 + j)=some n→n < K:=fun j n hj hc=>hf (j + 1) n (by simp;omega) (by rw [← hc];congr 1;omega);unfold CPass at h;unfold CPassP;cases hcn:cn i with
  | some n =>
   rw [hcn] at h;refine ⟨fun hD hp=>?_,ih _ _ hf' h.2⟩;have hnK:n < K:=hf 0 n (by simp) hcn;have hnk:n=k:=by
    have h1:¬ n < k:=by simpa [chD] using hD
    rcases Nat.eq_zero_or_pos n with h0|h0
    ·omega
    ·have h2:=hp (n - 1) (by unfold chPre;rw [if_neg (by omega)];simp)
     have h3:n - 1 < k:=by simpa [chD] using h2
     omega
   subst hnk;exact fun a' he hd L hK=>h.1 rfl a' he hd L fun v C' y' hW=>hK v C' y' ⟨n + 1,hnK,chD_up n,hW⟩
  | none =>
   rw [hcn] at h;exact fun τ d=>Oper.still_mono (fun a' h'=>ih _ _ hf' h') (h τ d)
theorem JG.drawChain {id:Nat} {l:List Oper} {a:Act} {C:Ctx} {x:World} (n:Nat) (cn:Nat→Option Nat) (W:Nat→(Nat→Value)→Ctx→World→Prop) (K:Nat) (ds:List (Option Tmp)) (cv0:Nat→Value) (hm:P.follows .mixedOrders=true) (hB:poB (l.take n).toArray cn K chPre=true) (hTl:tailB l.toArray (l.take n).toArray cn ds=true) (hn:n≤l.length) (hk:b.kind≠.early) (h0:W 0 cv0 C x)
 (h:∃ aE:(Nat→Value)→Act,(∀ k,k≤K→∀ cv C y,W k cv C y→CPass P Post cs cn W b kk l.toArray k cv C y (fun a'=>a'=aE cv) 0 (l.take n) a)∧(∀ cv,aE cv=putC cv 0 ds (aE fun _=>undef))∧∀ cv C y,W K cv C y→JG P Post C (G (b.at (aE cv) (.inRegion l.toArray (List.range' n (l.length - n))::kk)) cs) y):JG P Post C (G (b.at a (.code (.region id l.toArray true)::kk)) cs) x:=by
 obtain ⟨aE,hp,hput,hend⟩:=h;refine JG.drawPo n cn chPre (chW W K) K ds cv0 hm hB hTl hn hk ⟨0,Nat.zero_le _,by funext i;simp [chD],h0⟩ ⟨aE,fun D cv C y hW=>?_,hput,fun D cv C y hD hW=>?_⟩
 ·obtain ⟨k,hk',rfl,hW⟩:=hW
  refine CPass.toP _ _ _ (fun j m hj hc=>(poOk hB).few j m (by simpa using hj) (by rw [← hc];congr 1;omega)) (hp k hk' cv C y hW)
 ·obtain ⟨k,hk',rfl,hW⟩:=hW
  have:k=K:=by
   rcases Nat.eq_zero_or_pos K with h0|h0
   ·omega
   ·have:=hD (K - 1) (by omega)
    have:K - 1 < k:=by simpa [chD] using this
    omega
  subst this;exact hend cv C y hW
