/- As TkK, for links in a partial order: whichever of them that may come next comes next. -/
import Derived.Test.YtdgfekplfipekaaVTkK
set_option linter.all false
set_option maxRecDepth 100000
set_option maxHeartbeats 16000000
namespace Go.Proofs.Ytdgfekplfipekaa
open Go.Conc
open Go.ConcN (upd upd_same upd_ne)
def poB (ops:Array Oper) (cn:Nat→Option Nat) (K:Nat) (pre:Nat→List Nat):Bool :=
 ((List.range ops.size).all fun i=>match ops[i]? with
   | none=>false
   | some o=>o.guard.isNone && Xfc o.op && (o.after.all fun e=>!Region.binds .any e || decide (e.on < i)) &&
    (o.op.operands.all fun x=>match x with
      | .tmp t=>(List.range ops.size).all fun j=>XJ ops j != some t || (decide (j < i) && XY o j)
      | _=>true) &&
    (match o.dst with|none=>true|some d=>(List.range ops.size).all fun j=>decide (j=i) || XJ ops j != some d) &&
    (match cn i with
      | none=>mild F00 o.op
      | some n=>decide (n < K) && (pre n).all fun m=>(List.range ops.size).any fun j=>cn j == some m && XY o j)) &&
 ((List.range K).all fun n=>(List.range ops.size).any fun j=>cn j == some n) &&
 ((List.range ops.size).all fun i=>(List.range ops.size).all fun j=>decide (i=j) || cn i == none || cn i != cn j)
structure PoOk (ops:Array Oper) (cn:Nat→Option Nat) (K:Nat) (pre:Nat→List Nat):Prop where
 guard:∀ (i:Nat) (o:Oper),ops[i]? = some o→o.guard=none
 sel:∀ (i:Nat) (o:Oper),ops[i]? = some o→∀ cs b,o.op≠.select cs b
 less:∀ (i:Nat) (o:Oper),ops[i]? = some o→∀ e∈o.after,Region.binds .any e=true→e.on < i
 looks:∀ (i:Nat) (o:Oper),ops[i]? = some o→∀ t,.tmp t∈o.op.operands→∀ j,XJ ops j=some t→j < i∧XY o j=true
 once:∀ (i:Nat) (o:Oper) (d:Tmp),ops[i]? = some o→o.dst=some d→∀ j,XJ ops j=some d→j=i
 mild:∀ (i:Nat) (o:Oper),ops[i]? = some o→cn i=none→mild F00 o.op=true
 few:∀ i n,i < ops.size→cn i=some n→n < K
 chain:∀ (i:Nat) (o:Oper) (n m:Nat),ops[i]? = some o→cn i=some n→m∈pre n→∃ j,cn j=some m∧XY o j=true
 all:∀ n,n < K→∃ j,j < ops.size∧cn j=some n
 uniq:∀ i j n,i < ops.size→j < ops.size→cn i=some n→cn j=some n→i=j
theorem poOk {ops:Array Oper} {cn:Nat→Option Nat} {K:Nat} {pre:Nat→List Nat} (h:poB ops cn K pre=true):PoOk ops cn K pre:=by
 simp only [poB,Bool.and_eq_true] at h;obtain ⟨⟨h1,h2⟩,h4⟩:=h;have H:=fun (i:Nat) (o:Oper) (ho:ops[i]? = some o)=>(show _ from by
  have:=List.all_eq_true.1 h1 i (List.mem_range.2 (Array.getElem?_eq_some_iff.1 ho).1)
  simp only [ho,Bool.and_eq_true] at this;exact this)
 refine ⟨fun i o ho=>?_,fun i o ho=>Vm (H i o ho).1.1.1.1.2,fun i o ho e he hb=>?_,fun i o ho t ht j hj=>?_,fun i o d ho hd j hj=>?_,fun i o ho hc=>?_,fun i n hi hc=>?_,fun i o n m ho hc hm=>?_,fun n hn=>?_,fun i j n hi hj hci hcj=>?_⟩
 ·simpa using (H i o ho).1.1.1.1.1
 ·have:=Array.all_eq_true'.1 (H i o ho).1.1.1.2 e he
  simpa [hb] using this
 ·have:=Array.all_eq_true'.1 (H i o ho).1.1.2 _ ht
  have:=List.all_eq_true.1 this j (List.mem_range.2 (ZE hj))
  simpa [hj] using this
 ·have:=(H i o ho).1.2
  rw [hd] at this
  have:=List.all_eq_true.1 this j (List.mem_range.2 (ZE hj))
  simpa [hj] using this
 ·have:=(H i o ho).2
  rw [hc] at this;exact this
 ·obtain ⟨o,ho⟩:∃ o,ops[i]? = some o:=⟨_,Array.getElem?_eq_getElem hi⟩
  have:=(H i o ho).2
  rw [hc] at this;simp only [Bool.and_eq_true,decide_eq_true_eq] at this;exact this.1
 ·have:=(H i o ho).2
  rw [hc] at this;simp only [Bool.and_eq_true] at this;obtain ⟨j,_,hj⟩:=List.any_eq_true.1 (List.all_eq_true.1 this.2 m hm);simp only [Bool.and_eq_true,beq_iff_eq] at hj;exact ⟨j,hj.1,hj.2⟩
 ·obtain ⟨j,hj,hj2⟩:=List.any_eq_true.1 (List.all_eq_true.1 h2 n (List.mem_range.2 hn))
  exact ⟨j,List.mem_range.1 hj,by simpa using hj2⟩
 ·have:=List.all_eq_true.1 (List.all_eq_true.1 h4 i (List.mem_range.2 hi)) j (List.mem_range.2 hj)
  simpa [hci,hcj] using this
section
variable (P:Program) (Post:Value→World→Prop) (cs:List Frame) (cn:Nat→Option Nat) (pre:Nat→List Nat) (W:(Nat→Bool)→(Nat→Value)→Ctx→World→Prop) (b:Frame) (kk:List Item) (ops:Array Oper)
def ChStepP (D:Nat→Bool) (k:Nat) (cv:Nat→Value) (C:Ctx) (y:World) (i:Nat) (o:Oper) (aj:Act):Prop :=
 ∀ a',execOp a'.eval o=execOp aj.eval o→a'.defers=aj.defers→∀ L:List Nat,(∀ v C' y',W (upd D k true) (cvUp cv k v) C' y'→JG P Post C' (G (b.at (a'.put o.dst v) (.inRegion ops L::kk)) cs) y')→JG P Post C (G (b.at a' (.inRegion ops (i::L)::kk)) cs) y
def CPassP (D:Nat→Bool) (cv:Nat→Value) (C:Ctx) (y:World) (Q:Act→Prop):Nat→List Oper→Act→Prop
 | _,[],a=>Q a
 | i,o::l,a=>match cn i with
  | some n=>(D n=false→(∀ m∈pre n,D m=true)→ChStepP P Post cs W b kk ops D n cv C y i o a)∧CPassP D cv C y Q (i + 1) l (a.put o.dst (cv n))
  | none=>∀ τ d,o.still P a (under y τ d) (CPassP D cv C y Q (i + 1) l)
end
section
variable {P:Program} {Post:Value→World→Prop} {cs:List Frame} {cn:Nat→Option Nat} {pre:Nat→List Nat} {W:(Nat→Bool)→(Nat→Value)→Ctx→World→Prop} {b:Frame} {kk:List Item} {ops:Array Oper} {pre:Nat→List Nat} {D:Nat→Bool} {k:Nat} {cv:Nat→Value} {C:Ctx} {y:World}
theorem ChStepP.call {i:Nat} {o:Oper} {aj:Act} (f:FuncId) (args:Array Value) (ho:ops[i]? = some o) (hg:o.guard=none) (hk:b.kind≠.early) (h1:∀ w,(execOp aj.eval o).run P w=.ok (.enter f args) w) (h2:∀ w,(execOp aj.eval o).events P w #[] = #[])
 (h3:∀ a' L,a'.defers=aj.defers→(∀ v C' y',W (upd D k true) (cvUp cv k v) C' y'→JG P Post C' (G ((b.at a' (.inRegion ops (i::L)::kk)).finish v) cs) y')→JG P Post C (G (Frame.enter P f args .normal) (b.at a' (.inRegion ops (i::L)::kk)::cs)) y):ChStepP P Post cs W b kk ops D k cv C y i o aj:=fun a' he hd L hK=>by
 refine JG.call (f:=f) (args:=args) ho (by simp [Region.wanted,hg]) hk (fun w=>by rw [he];exact h1 w) (fun w=>by rw [he];exact h2 w) (h3 a' L hd fun v C' y' hW=>?_);rw [Frame.finish_at,ho];exact hK v C' y' hW
theorem ChStepP.op {i:Nat} {o:Oper} {aj:Act} {F:Fns} (hF:Q7 P F) (hM:F.maps=true→∀ r,¬ C.prot.objs r) (hm:mild F o.op=true) (ho:ops[i]? = some o) (hg:o.guard=none) (hk:b.kind≠.early)
 (h:∀ K:Value→World→Prop,(∀ v y' τ d,W (upd D k true) (cvUp cv k v) C y'→K v (under y' τ d))→∀ τ d,match (execOp aj.eval o).run P (under y τ d) with
   | .ok (.value v) w=>K v w
   | .ok .skip w=>K undef w
   | _=>False):ChStepP P Post cs W b kk ops D k cv C y i o aj:=fun a' he hd L hK=>by
 refine JG.op hF hM hm ho (by simp [Region.wanted,hg]) hk fun K E hKK hE τ d=>?_;rw [he]
 have:=h (fun v w=>K (a'.put o.dst v) w) (fun v y' τ d hW=>hKK _ _ (JG.tap (hK v C y' hW))) τ d
 revert this
 cases (execOp aj.eval o).run P (under y τ d) with
 | halt hh w=>exact False.elim
 | ok u w =>
  cases u with
  | value v=>exact fun h=>(by rw [uponE_value];exact h)
  | skip=>exact fun h=>(by rw [uponE_skip];exact h)
  | _=>exact False.elim
theorem CPassP.rd {i:Nat} {Q:Act→Prop} {o:Oper} {l:List Oper} {a:Act} (hc:cn i=none) (h:∀ K:Act→Prop,(∀ a',CPassP P Post cs cn pre W b kk ops D cv C y Q (i + 1) l a'→K a')→∀ τ d,o.still P a (under y τ d) K):CPassP P Post cs cn pre W b kk ops D cv C y Q i (o::l) a:=by
 unfold CPassP;rw [hc];exact h _ (fun _ h=>h)
theorem CPassP.ch {i n:Nat} {Q:Act→Prop} {o:Oper} {l:List Oper} {a:Act} (hc:cn i=some n) (h:D n=false→(∀ m∈pre n,D m=true)→ChStepP P Post cs W b kk ops D n cv C y i o a)
 (h2:CPassP P Post cs cn pre W b kk ops D cv C y Q (i + 1) l (a.put o.dst (cv n))):CPassP P Post cs cn pre W b kk ops D cv C y Q i (o::l) a:=by
 unfold CPassP;rw [hc];exact ⟨h,h2⟩
structure AtP (P:Program) (Post:Value→World→Prop) (cs:List Frame) (hd:Array Oper) (cn:Nat→Option Nat) (pre:Nat→List Nat) (W:(Nat→Bool)→(Nat→Value)→Ctx→World→Prop) (b:Frame) (kk:List Item) (ops:Array Oper) (D:Nat→Bool) (cv:Nat→Value) (C:Ctx) (y:World) (a₀ aE:Act) (i:Nat) (o:Oper) (aj:Act) (v:Value):Prop where
 before:Bet ((hd.toList.take i).map (·.dst)) a₀ aj
 behind:Bet ((hd.toList.drop (i + 1)).map (·.dst)) (aj.put o.dst v) aE
 does:match cn i with
  | some n=>v=cv n∧(D n=false→(∀ m∈pre n,D m=true)→ChStepP P Post cs W b kk ops D n cv C y i o aj)
  | none=>(∀ τ d,(execOp aj.eval o).run P (under y τ d)=.ok (.value v) (under y τ d))∨((∀ τ d,(execOp aj.eval o).run P (under y τ d)=.ok .skip (under y τ d))∧v=undef)
theorem CPassP.get {w:World} {aE:Act} (hT:X6 C.prot y w):∀ (l:List Oper) (i:Nat) (a:Act),(∀ j o,l[j]? = some o→cn (i + j)=none→mild F00 o.op=true)→CPassP P Post cs cn pre W b kk ops D cv C y (fun a'=>a'=aE) i l a →
 Bet (l.map (·.dst)) a aE∧∀ j o,l[j]? = some o→∃ aj v,Bet ((l.take j).map (·.dst)) a aj∧Bet ((l.drop (j + 1)).map (·.dst)) (aj.put o.dst v) aE ∧
  (match cn (i + j) with
   | some n=>v=cv n∧(D n=false→(∀ m∈pre n,D m=true)→ChStepP P Post cs W b kk ops D n cv C y (i + j) o aj)
   | none=>(∀ τ d,(execOp aj.eval o).run P (under y τ d)=.ok (.value v) (under y τ d))∨((∀ τ d,(execOp aj.eval o).run P (under y τ d)=.ok .skip (under y τ d))∧v=undef)):=by
 intro l
 induction l with
 | nil =>
  intro i a _ h;refine ⟨?_,fun j o ho=>by simp at ho⟩;obtain rfl:a=aE:=h;exact Bet.refl _
 | cons o l ih =>
  intro i a hm h;have step:∀ v,CPassP P Post cs cn pre W b kk ops D cv C y (fun a'=>a'=aE) (i + 1) l (a.put o.dst v) →
   (match cn i with
    | some n=>v=cv n∧(D n=false→(∀ m∈pre n,D m=true)→ChStepP P Post cs W b kk ops D n cv C y i o a)
    | none=>(∀ τ d,(execOp a.eval o).run P (under y τ d)=.ok (.value v) (under y τ d))∨((∀ τ d,(execOp a.eval o).run P (under y τ d)=.ok .skip (under y τ d))∧v=undef)) →
   Bet ((o::l).map (·.dst)) a aE∧∀ j o',(o::l)[j]? = some o'→∃ aj v,Bet (((o::l).take j).map (·.dst)) a aj∧Bet (((o::l).drop (j + 1)).map (·.dst)) (aj.put o'.dst v) aE ∧
    (match cn (i + j) with
     | some n=>v=cv n∧(D n=false→(∀ m∈pre n,D m=true)→ChStepP P Post cs W b kk ops D n cv C y (i + j) o' aj)
     | none=>(∀ τ d,(execOp aj.eval o').run P (under y τ d)=.ok (.value v) (under y τ d))∨((∀ τ d,(execOp aj.eval o').run P (under y τ d)=.ok .skip (under y τ d))∧v=undef)):=fun v hv hc=>by
   obtain ⟨hB,hall⟩:=ih (i + 1) _ (fun j o' ho' hc'=>hm (j + 1) o' (by simpa using ho') (by rw [← hc'];congr 1;omega)) hv;refine ⟨(Bet.put a o.dst v).trans hB,fun j o' ho'=>?_⟩;cases j with
   | zero =>
    obtain rfl:o=o':=by simpa using ho'
    exact ⟨a,v,Bet.refl _,hB,hc⟩
   | succ j =>
    obtain ⟨aj,u,h1,h2,h3⟩:=hall j o' (by simpa using ho');refine ⟨aj,u,(Bet.put a o.dst v).trans h1,h2,?_⟩;rw [show i + (j + 1)=i + 1 + j by omega];exact h3
  have h':=h;unfold CPassP at h';cases hcn:cn i with
  | some n =>
   rw [hcn] at h';refine step (cv n) h'.2 ?_;rw [hcn];exact ⟨rfl,h'.1⟩
  | none =>
   rw [hcn] at h';rcases QF (C:=C) (hm 0 o (by simp) hcn) hT h' with ⟨v,hv⟩|hv
   ·refine step v (hv (fun _ _=>0) 0).2 ?_
    rw [hcn];exact .inl fun τ d=>(hv τ d).1
   ·refine step undef (hv (fun _ _=>0) 0).2 ?_
    rw [hcn];exact .inr ⟨fun τ d=>(hv τ d).1,rfl⟩
end
section
variable {P:Program} {Post:Value→World→Prop} {cs:List Frame} {cn:Nat→Option Nat} {pre:Nat→List Nat} {W:(Nat→Bool)→(Nat→Value)→Ctx→World→Prop} {b:Frame} {kk:List Item} {ops hd:Array Oper} {K:Nat} {a₀:Act} {aE:(Nat→Value)→Act} {ds:List (Option Tmp)}
theorem AtP.next {D:Nat→Bool} {i:Nat} {cv:Nat→Value} {C:Ctx} {y:World} {o:Oper} {aj a aE:Act} {v:Value} {L:Array Bool} (hok:PoOk hd cn K pre) (ho:hd[i]? = some o) (h:AtP P Post cs hd cn pre W b kk ops D cv C y a₀ aE i o aj v) (hA:Agr hd a₀ aE L a) (hi:i < L.size) :
 Agr hd a₀ aE (L.setIfInBounds i true) (a.put o.dst v):=by
 have hget:∀ j,(L.setIfInBounds i true).getD j false=true→L.getD j false=true∨j=i:=fun j hj=>by
  by_cases e:i=j
  ·exact .inr e.symm
  ·rw [getD_set_ne false e] at hj;exact .inl hj
 have hself:(L.setIfInBounds i true).getD i false=true:=by simp [hi]
 refine ⟨by cases o.dst<;>exact hA.defers,by cases o.dst<;>simp [Act.put,hA.size],fun j t hj ht=>?_,fun t ht=>?_⟩
 ·by_cases e:XJ hd i=some t
  ·have hd':o.dst=some t:=by simpa [XJ,ho] using e
   rw [hd',Zl,hA.size];have h1:some t ∉ (hd.toList.drop (i + 1)).map (·.dst):=fun hm=>by
    obtain ⟨j',o',hj',hd2⟩:=Yz hm;rw [List.getElem?_drop] at hj'
    have:=hok.once i o t ho hd' (i + 1 + j') (by simp [XJ,show hd[i + 1 + j']? = some o' by simpa using hj',hd2])
    omega
   have h2:=h.behind.same t h1;rw [hd',Zl] at h2;rw [h2,h.before.size]
  ·have hj':L.getD j false=true:=(hget j hj).resolve_right fun e'=>e (e' ▸ ht)
   have hne:∀ d,o.dst=some d→d≠t:=fun d hd e'=>e (by simp [XJ,ho,hd,e']);rw [← hA.done j t hj' ht];cases hd:o.dst with
   | none=>rfl
   | some d=>simp only [Act.put];rw [Array.getElem?_setIfInBounds_ne (hne d hd)]
 ·have hne:∀ d,o.dst=some d→d≠t:=fun d hd e'=>ht i hself (by simp [XJ,ho,hd,e'])
  rw [← hA.rest t fun j hj=>ht j (getD_set_true hj)];cases hd:o.dst with
  | none=>rfl
  | some d=>simp only [Act.put];rw [Array.getElem?_setIfInBounds_ne (hne d hd)]
theorem AtP.same {D:Nat→Bool} {i:Nat} {cv:Nat→Value} {C:Ctx} {y:World} {o:Oper} {aj a aE:Act} {v:Value} {L:Array Bool} (hok:PoOk hd cn K pre) (ho:hd[i]? = some o) (h:AtP P Post cs hd cn pre W b kk ops D cv C y a₀ aE i o aj v) (hA:Agr hd a₀ aE L a)
 (hall:∀ e∈o.after,Region.binds .any e=true→L.getD e.on false=true):execOp a.eval o=execOp aj.eval o:=by
 refine execOp_congr o (hok.sel i o ho) fun z hz=>?_;cases z with
 | tmp t =>
  have key:a.tmps[t]? = aj.tmps[t]?:=by
   by_cases e:∃ j,XJ hd j=some t
   ·obtain ⟨j,hj⟩:=e
    obtain ⟨hji,hw⟩:=hok.looks i o ho t hz j hj;obtain ⟨e,he,hb⟩:=Array.any_eq_true'.1 hw;simp only [Bool.and_eq_true,beq_iff_eq] at hb;have hL:L.getD j false=true:=by have:=hall e he hb.1;rwa [hb.2] at this
    rw [hA.done j t hL hj];obtain ⟨oj,hoj,hdj⟩:∃ oj,hd[j]? = some oj∧oj.dst=some t:=by
     unfold XJ at hj;cases hx:hd[j]? with
     | none=>rw [hx] at hj;cases hj
     | some oj=>rw [hx] at hj;exact ⟨oj,rfl,hj⟩
    have h1:some t ∉ (hd.toList.drop (i + 1)).map (·.dst):=fun hm=>by
     obtain ⟨j',o',hj',hd'⟩:=Yz hm;rw [List.getElem?_drop] at hj'
     have:=hok.once j oj t hoj hdj (i + 1 + j') (by simp [XJ,show hd[i + 1 + j']? = some o' by simpa using hj',hd'])
     omega
    rw [h.behind.same t h1];have hne:∀ d,o.dst=some d→d≠t:=fun d hd1 e'=>by
     have:=hok.once j oj t hoj hdj i (by simp [XJ,ho,hd1,e'])
     omega
    cases hd:o.dst with
    | none=>rfl
    | some d=>simp only [Act.put];rw [Array.getElem?_setIfInBounds_ne (hne d hd)]
   ·rw [hA.rest t fun j _ hj=>e ⟨j,hj⟩]
    refine (h.before.same t fun hm=>?_).symm;obtain ⟨j',o',hj',hd'⟩:=Yz hm;have hl:hd[j']? = some o':=by
     rw [List.getElem?_take] at hj'
     split at hj'
     ·simpa using hj'
     ·cases hj'
    exact e ⟨j',by simp [XJ,hl,hd']⟩
  simp only [Act.eval,Array.getD_eq_getD_getElem?,key]
 | _=>rfl
theorem JG.anyP (hok:PoOk hd cn K pre) (htl:TailOk ops hd cn ds) (hhd:∀ i,i < hd.size→ops[i]? = hd[i]?) (hsz:hd.size≤ops.size) (hput:∀ cv,aE cv=putC cv 0 ds (aE fun _=>undef)) (hk:b.kind≠.early)
 (hAt:∀ D cv C y,W D cv C y→∀ w,X6 C.prot y w→Bet (hd.toList.map (·.dst)) a₀ (aE cv)∧∀ (i:Nat) (o:Oper),hd[i]? = some o→∃ aj v,AtP P Post cs hd cn pre W b kk ops D cv C y a₀ (aE cv) i o aj v)
 (hend:∀ D cv C y,(∀ n,n < K→D n=true)→W D cv C y→JG P Post C (G (b.at (aE cv) (.inRegion ops (List.range' hd.size (ops.size - hd.size))::kk)) cs) y) :
 ∀ (f t:Nat) (L:Array Bool) (U:List Nat) (a:Act) (D:Nat→Bool) (cv:Nat→Value) (C:Ctx) (y:World),W D cv C y→L.size=ops.size→U.length=f→U.Nodup→(∀ i,i∈U ↔ i < hd.size∧L.getD i false=false)→(∀ i,hd.size≤i→L.getD i false=false)→(∀ i n,i < hd.size→cn i=some n→(L.getD i false=true ↔ D n=true))→Agr hd a₀ (aE cv) L a →
  JG P Post C (G (b.at a (.inRegion ops (Region.linearise.go .any ops (f + (ops.size - hd.size)) t L [])::kk)) cs) y:=by
 intro f
 induction f with
 | zero =>
  intro t L U a D cv C y hW hLs hU _ hmem htail hcn hA w hT;have hall:∀ i,i < hd.size→L.getD i false=true:=fun i hi=>by
   have:U = []:=List.length_eq_zero_iff.1 hU
   rw [this] at hmem
   have:=(hmem i).2
   cases h:L.getD i false with
   | true=>rfl
   | false=>exact absurd (this ⟨hi,h⟩) (by simp)
  have hDK:∀ n,n < K→D n=true:=fun n hn=>by
   obtain ⟨j,hj,hc⟩:=hok.all n hn;exact (hcn j n hj hc).1 (hall j hj)
  obtain ⟨hB,_⟩:=hAt D cv C y hW w hT;have ha:a=aE cv:=by
   have e1:a.tmps=(aE cv).tmps:=by
    apply Array.ext_getElem?;intro t
    by_cases e:∃ j,XJ hd j=some t
    ·obtain ⟨j,hj⟩:=e
     exact hA.done j t (hall j (ZE hj)) hj
    ·rw [hA.rest t fun j _ hj=>e ⟨j,hj⟩]
     refine (hB.same t fun hm=>?_).symm;obtain ⟨j',o',hj',hd'⟩:=Yz hm;exact e ⟨j',by simp [XJ,show hd[j']? = some o' by simpa using hj',hd']⟩
   have e2:a.defers=(aE cv).defers:=hA.defers.trans hB.defers.symm;generalize aE cv=z at e1 e2 ⊢;cases a;cases z;simp only at e1 e2;subst e1;subst e2;rfl
  subst ha;have hL:L=((List.range ops.size).map fun j=>decide (j < hd.size)).toArray:=by
   apply Array.ext_getElem?;intro i;rcases Nat.lt_or_ge i ops.size with hi|hi
   ·have e1:L[i]? = some (L.getD i false):=by
     rw [Array.getElem?_eq_getElem (by omega),Array.getD_eq_getD_getElem?,Array.getElem?_eq_getElem (by omega)];rfl
    rw [e1]
    by_cases h:i < hd.size
    ·rw [hall i h];simp [hi,h]
    ·rw [htail i (by omega)];simp [hi,h]
   ·rw [Array.getElem?_eq_none (by omega),Array.getElem?_eq_none (by simpa using hi)]
  rw [Nat.zero_add,seqB_list (ops.size - hd.size) hd.size t L (by rw [hL];exact htl.seq)];exact hend D cv C y hDK hW w hT
 | succ f ih =>
  intro t L U a D cv C y hW hLs hU hnd hmem htail hcn hA w hT;obtain ⟨_,hget⟩:=hAt D cv C y hW w hT;obtain ⟨i0,hi0,hmin⟩:∃ i,i∈U∧∀ j,j∈U→i≤j:=by
   have hex:∃ i,i∈U:=by
    cases U with
    | nil=>simp at hU
    | cons u U=>exact ⟨u,by simp⟩
   have hmin:∀ m,m∈U→∃ i,i∈U∧∀ j,j∈U→i≤j:=fun m=>by
    induction m using Nat.strongRecOn with
    | _ m ihm =>
     intro hm
     by_cases e:∃ j,j∈U∧j < m
     ·obtain ⟨j,hj,hlt⟩:=e
      exact ihm j hlt hj
     ·exact ⟨m,hm,fun j hj=>Nat.not_lt.1 fun hlt=>e ⟨j,hj,hlt⟩⟩
   obtain ⟨m,hm⟩:=hex;exact hmin m hm
  obtain ⟨hil0,hLi0⟩:=(hmem i0).1 hi0;have hne:Region.ready .any ops L≠[]:=fun h0=>by
   obtain ⟨o,ho⟩:∃ o,hd[i0]? = some o:=⟨_,Array.getElem?_eq_getElem hil0⟩
   have:i0∈Region.ready .any ops L:=mem_ready.2 ⟨getD_in (by omega) hLi0,o,(hhd i0 hil0).trans ho,fun e he hb=>by
    have hlt:=hok.less i0 o ho e he hb;cases h:L.getD e.on false with
    | true=>rfl
    | false=>have:=hmin e.on ((hmem e.on).2 ⟨by omega,h⟩);omega⟩
   rw [h0] at this;cases this
  rw [show f + 1 + (ops.size - hd.size)=(f + (ops.size - hd.size)) + 1 by omega];simp only [Region.linearise.go]
  change J P Post C (G (b.at a (.inRegion ops (match (Region.ready .any ops L)[t % (Region.ready .any ops L).length]? with
   | some i=>Region.linearise.go .any ops (f + (ops.size - hd.size)) (t / (Region.ready .any ops L).length) (L.setIfInBounds i true) [i]
   | none=>[].reverse)::kk)) cs) w
  cases hi:(Region.ready .any ops L)[t % (Region.ready .any ops L).length]? with
  | none =>
   exfalso
   have hlt:t % (Region.ready .any ops L).length < (Region.ready .any ops L).length:=Nat.mod_lt _ (List.length_pos_iff.2 hne);rw [List.getElem?_eq_getElem hlt] at hi;cases hi
  | some i =>
   simp only [];rw [linearise_go_acc,List.reverse_singleton,List.singleton_append];have him:i∈Region.ready .any ops L:=List.mem_of_getElem? hi;obtain ⟨hun,o,ho,hall⟩:=mem_ready.1 him;have hil:i < hd.size:=by
    rcases Nat.lt_or_ge i hd.size with h|h
    ·exact h
    ·exfalso
     obtain ⟨e,he,hb⟩:=Array.any_eq_true'.1 (htl.waits i o h ho i0 hil0);simp only [Bool.and_eq_true,beq_iff_eq] at hb
     have:=hall e he hb.1
     rw [hb.2,hLi0] at this;cases this
   have hoh:hd[i]? = some o:=(hhd i hil).symm.trans ho;obtain ⟨aj,v,hat⟩:=hget i o hoh;have hex:=hat.same hok hoh hA hall;have hA':=hat.next hok hoh hA (by omega);have hg:=hok.guard i o hoh;have hw:Region.wanted o (yielded ops a.tmps)=true:=by simp [Region.wanted,hg]
   have hUi:i∈U:=(hmem i).2 ⟨hil,getD_both hun⟩;have hU':(U.erase i).length=f:=by rw [List.length_erase_of_mem hUi,hU];rfl
   have hmem':∀ j,j∈U.erase i ↔ j < hd.size∧(L.setIfInBounds i true).getD j false=false:=fun j=>by
    rw [List.Nodup.mem_erase_iff hnd,hmem]
    by_cases e:i=j
    ·subst e
     simp [show i < L.size by omega]
    ·rw [getD_set_ne false e]
     exact ⟨fun h=>h.2,fun h=>⟨fun e'=>e e'.symm,h⟩⟩
   have htail':∀ j,hd.size≤j→(L.setIfInBounds i true).getD j false=false:=fun j hj=>by
    rw [getD_set_ne false (by omega:i≠j)];exact htail j hj
   cases hc:cn i with
   | none =>
    have hd':=hat.does;rw [hc] at hd';have hcn':∀ j n,j < hd.size→cn j=some n→((L.setIfInBounds i true).getD j false=true ↔ D n=true):=fun j n hj hcj=>by
     have hij:i≠j:=fun e=>by subst e;rw [hc] at hcj;cases hcj
     rw [getD_set_ne false hij];exact hcn j n hj hcj
    refine JG.op (F:=F00) Ub (fun h=>by cases h) (hok.mild i o hoh hc) ho hw hk (fun K' E hK hE τ d=>?_) w hT;rw [hex];rcases hd' with hd'|⟨hd',rfl⟩
    ·rw [hd' τ d,uponE_value]
     exact hK _ _ (JG.tap (ih _ _ _ _ D cv C y hW (by simp [hLs]) hU' (hnd.erase i) hmem' htail' hcn' hA'))
    ·rw [hd' τ d,uponE_skip]
     exact hK _ _ (JG.tap (ih _ _ _ _ D cv C y hW (by simp [hLs]) hU' (hnd.erase i) hmem' htail' hcn' hA'))
   | some n =>
    have hd':=hat.does;rw [hc] at hd';obtain ⟨rfl,hd'⟩:=hd';have hDn:D n=false:=by
     cases h:D n with
     | false=>rfl
     | true =>
      have:=(hcn i n hil hc).2 h
      rw [getD_both hun] at this;cases this
    have hpre:∀ m∈pre n,D m=true:=fun m hm=>by
     obtain ⟨j,hj,hw⟩:=hok.chain i o n m hoh hc hm;obtain ⟨e,he,hb⟩:=Array.any_eq_true'.1 hw;simp only [Bool.and_eq_true,beq_iff_eq] at hb;have hL:L.getD j false=true:=by have:=hall e he hb.1;rwa [hb.2] at this
     have hjl:j < hd.size:=by have:=hok.less i o hoh e he hb.1;omega
     exact (hcn j m hjl hj).1 hL
    have hnK:=hok.few i n hil hc;have hcn':∀ j m,j < hd.size→cn j=some m→((L.setIfInBounds i true).getD j false=true ↔ upd D n true m=true):=fun j m hj hcj=>by
     by_cases e:i=j
     ·subst e
      rw [hc] at hcj;obtain rfl:=Option.some.inj hcj;simp [show i < L.size by omega,upd_same]
     ·rw [getD_set_ne false e,hcn j m hj hcj]
      have hmn:m≠n:=fun e'=>e (hok.uniq i j n hil hj hc (e' ▸ hcj));rw [upd_ne _ _ hmn]
    -- the slots of what has been done bear no later answer
    have hslot:∀ v j t,(L.setIfInBounds i true).getD j false=true→j≠i→XJ hd j=some t→(aE (cvUp cv n v)).tmps[t]? = (aE cv).tmps[t]?:=fun v j t hj hne ht=>by
     rw [hput (cvUp cv n v),hput cv];refine putC_same ds 0 _ _ rfl rfl fun m hm=>?_;rw [Nat.zero_add];obtain ⟨j',hj',hjt⟩:=htl.slots m t hm;have hjl:=ZE ht;obtain ⟨oj,hoj,hdj⟩:∃ oj,hd[j]? = some oj∧oj.dst=some t:=by
      unfold XJ at ht;cases hx:hd[j]? with
      | none=>rw [hx] at ht;cases ht
      | some oj=>rw [hx] at ht;exact ⟨oj,rfl,ht⟩
     obtain rfl:=hok.once j oj t hoj hdj j' hjt;refine cvUp_ne fun e=>hne ?_;subst e;exact (hok.uniq i j' m hil hjl hc hj').symm
    refine hd' hDn hpre a hex ?_ _ (fun v C' y' hW' w' hT'=>?_) w hT
    ·rw [hA.defers,hat.before.defers]
    ·refine ih _ _ _ _ (upd D n true) (cvUp cv n v) C' y' hW' (by simp [hLs]) hU' (hnd.erase i) hmem' htail' hcn' ⟨?_,?_,fun j t hj ht=>?_,fun t ht=>?_⟩ w' hT'
     ·cases o.dst<;>exact hA.defers
     ·cases o.dst<;>simp [Act.put,hA.size]
     ·by_cases e:j=i
      ·subst e
       have hdj:o.dst=some t:=by simpa [XJ,hoh] using ht
       rw [hdj,Zl,hA.size];obtain ⟨_,hget'⟩:=hAt (upd D n true) _ C' y' hW' w' hT';obtain ⟨aj',v',hat'⟩:=hget' j o hoh;have hv':=hat'.does;rw [hc] at hv';have h1:some t ∉ (hd.toList.drop (j + 1)).map (·.dst):=fun hm=>by
        obtain ⟨j',o',hj',hd2⟩:=Yz hm;rw [List.getElem?_drop] at hj'
        have:=hok.once j o t hoh hdj (j + 1 + j') (by simp [XJ,show hd[j + 1 + j']? = some o' by simpa using hj',hd2])
        omega
       have h2:=hat'.behind.same t h1;rw [hdj,Zl,hv'.1,cvUp_same] at h2;rw [h2,hat'.before.size]
      ·have hj':L.getD j false=true:=by rw [getD_set_ne false (fun h=>e h.symm)] at hj;exact hj
       rw [hslot v j t hj e ht,← hA.done j t hj' ht];obtain ⟨oj,hoj,hdj⟩:∃ oj,hd[j]? = some oj∧oj.dst=some t:=by
        unfold XJ at ht;cases hx:hd[j]? with
        | none=>rw [hx] at ht;cases ht
        | some oj=>rw [hx] at ht;exact ⟨oj,rfl,ht⟩
       cases hdo:o.dst with
       | none=>rfl
       | some d =>
        simp only [Act.put];rw [Array.getElem?_setIfInBounds_ne];rintro rfl;exact e (hok.once j oj d hoj hdj i (by simp [XJ,hoh,hdo])).symm
     ·rw [← hA.rest t fun j hj=>ht j (getD_set_true hj)]
      cases hdo:o.dst with
      | none=>rfl
      | some d =>
       simp only [Act.put];rw [Array.getElem?_setIfInBounds_ne];rintro rfl;exact ht i (by simp [show i < L.size by omega]) (by simp [XJ,hoh,hdo])
theorem JG.drawPo {id:Nat} {l:List Oper} {a:Act} {C:Ctx} {x:World} (n:Nat) (cn:Nat→Option Nat) (pre:Nat→List Nat) (W:(Nat→Bool)→(Nat→Value)→Ctx→World→Prop) (K:Nat) (ds:List (Option Tmp)) (cv0:Nat→Value) (hm:P.follows .mixedOrders=true) (hB:poB (l.take n).toArray cn K pre=true) (hTl:tailB l.toArray (l.take n).toArray cn ds=true) (hn:n≤l.length) (hk:b.kind≠.early) (h0:W (fun _=>false) cv0 C x)
 (h:∃ aE:(Nat→Value)→Act,(∀ D cv C y,W D cv C y→CPassP P Post cs cn pre W b kk l.toArray D cv C y (fun a'=>a'=aE cv) 0 (l.take n) a)∧(∀ cv,aE cv=putC cv 0 ds (aE fun _=>undef))∧∀ D cv C y,(∀ n,n < K→D n=true)→W D cv C y→JG P Post C (G (b.at (aE cv) (.inRegion l.toArray (List.range' n (l.length - n))::kk)) cs) y):JG P Post C (G (b.at a (.code (.region id l.toArray true)::kk)) cs) x:=by
 obtain ⟨aE,hp,hput,hend⟩:=h;have hok:=poOk hB;have hsz:(l.take n).toArray.size=n:=by simp;omega
 refine JG.draw fun t=>?_;simp only [Region.schedule,hm,Bool.true_or,if_true,Region.linearise];have R:=JG.anyP (a₀:=a) (aE:=aE) (W:=W) (hd:=(l.take n).toArray) (ops:=l.toArray) (ds:=ds) (kk:=kk) (b:=b) (cs:=cs) (P:=P) (Post:=Post) hok (tailOk hTl) (fun i hi=>by
  rw [hsz] at hi;simp [List.getElem?_take,hi]) (by rw [hsz];simpa using hn) hput hk (fun D cv C y hy w hT=>by
  obtain ⟨h1,h2⟩:=CPassP.get hT (l.take n) 0 a (fun j o ho hc=>hok.mild j o (by simpa using ho) (by rw [Nat.zero_add] at hc;exact hc)) (hp D cv C y hy);refine ⟨h1,fun i o ho=>?_⟩;obtain ⟨aj,v,q1,q2,q3⟩:=h2 i o (by simpa using ho);rw [Nat.zero_add] at q3;exact ⟨aj,v,q1,q2,q3⟩) (fun D cv C y hD hy=>by rw [hsz];exact hend D cv C y hD hy) n t (Array.replicate l.toArray.size false) (List.range n) a (fun _=>false) cv0 C x h0 (by simp) (by simp) List.nodup_range
  (fun i=>by rw [hsz];exact ⟨fun h=>⟨List.mem_range.1 h,getD_replicate_false _ _⟩,fun h=>List.mem_range.2 h.1⟩) (fun i _=>getD_replicate_false _ _) (fun i n hi hc=>⟨fun h=>(by rw [getD_replicate_false] at h;cases h),fun h=>by cases h⟩) ⟨rfl,rfl,fun j t hj=>(by rw [getD_replicate_false] at hj;cases hj),fun t _=>rfl⟩
 rw [hsz,show n + (l.toArray.size - n)=l.toArray.size by simp;omega] at R;exact R
