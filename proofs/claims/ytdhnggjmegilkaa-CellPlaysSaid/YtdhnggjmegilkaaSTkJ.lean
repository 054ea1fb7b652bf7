/- As TkI, with guards: an operation of the region may be struck by a guard, which the passes decide. -/
import Derived.Test.YtdhnggjmegilkaaSTkI
set_option linter.unusedSimpArgs false
set_option linter.unusedVariables false
set_option maxRecDepth 100000
set_option maxHeartbeats 16000000
namespace Go.Proofs.Ytdhnggjmegilkaa
open Go.Conc
def Xej (cv:Nat→Value) (k:Nat) (v:Value):Nat→Value:=fun n=>if n=k then v else cv n
theorem X8 {cv:Nat→Value} {k:Nat} {v:Value}:Xej cv k v k=v:=if_pos rfl
theorem Xe2 {cv:Nat→Value} {k n:Nat} {v:Value} (h:n≠k):Xej cv k v n=cv n:=if_neg h
def Xfq (cv:Nat→Value):Nat→List (Option Tmp)→Act→Act
 | _,[],a=>a
 | i,d::ds,a=>Xfq cv (i + 1) ds (a.put d (cv i))
theorem Wo {cv cv':Nat→Value} {t:Tmp}:∀ (ds:List (Option Tmp)) (i:Nat) (a a':Act),a.tmps.size=a'.tmps.size→a.tmps[t]? = a'.tmps[t]?→(∀ m,ds[m]? = some (some t)→cv (i + m)=cv' (i + m))→(Xfq cv i ds a).tmps[t]? = (Xfq cv' i ds a').tmps[t]?
 | [],_,_,_,_,h,_=>h
 | d::ds,i,a,a',hs,h,hm=>by
  refine Wo ds (i + 1) _ _ ?_ ?_ fun m h1=>?_
  ·cases d<;>simp [Act.put,hs]
  ·cases d with
   | none=>exact h
   | some d =>
    by_cases e:d=t
    ·subst e
     rw [Zh,Zh,hs]
     have:=hm 0 (by simp)
     rw [Nat.add_zero] at this
     rw [this]
    ·simp only [Act.put]
     rw [Array.getElem?_setIfInBounds_ne e,Array.getElem?_setIfInBounds_ne e]
     exact h
  ·have:=hm (m + 1) (by simpa using h1)
   rw [show i + (m + 1)=i + 1 + m by omega] at this
   exact this
def XeA (ops hd:Array Oper) (cn:Nat→Option Nat) (ds:List (Option Tmp)):Bool :=
 ((List.range (ops.size - hd.size)).all fun i=>match ops[hd.size + i]? with
   | none=>false
   | some o=>(List.range hd.size).all fun j=>X2 o j) &&
 Region.seqB .any ops (ops.size - hd.size) hd.size ((List.range ops.size).map fun j=>decide (j < hd.size)).toArray &&
 ((List.range ds.length).all fun m=>(ds[m]? == some none) || (List.range hd.size).any fun j=>cn j == some m && (some (XK hd j) == ds[m]?))
section
variable (P:Program) (Post:Value→World→Prop) (cs:List Frame) (cn:Nat→Option Nat) (W:Nat→(Nat→Value)→Ctx→World→Prop) (b:Frame) (kk:List Item) (ops:Array Oper)
def YA (k:Nat) (cv:Nat→Value) (C:Ctx) (y:World) (i:Nat) (o:Oper) (aj:Act):Prop :=
 ∀ a',execOp a'.eval o=execOp aj.eval o→a'.defers=aj.defers→∀ L:List Nat,(∀ v C' y',W (k + 1) (Xej cv k v) C' y'→JG P Post C' (G (b.at (a'.put o.dst v) (.inRegion ops L::kk)) cs) y')→JG P Post C (G (b.at a' (.inRegion ops (i::L)::kk)) cs) y
def XO (k:Nat) (cv:Nat→Value) (C:Ctx) (y:World) (Q:Act→Prop):Nat→List Oper→Act→Prop
 | _,[],a=>Q a
 | i,o::l,a=>match cn i with
  | some n=>(n=k→YA P Post cs W b kk ops k cv C y i o a)∧XO k cv C y Q (i + 1) l (a.put o.dst (cv n))
  | none=>∀ τ d,o.still P a (under y τ d) (XO k cv C y Q (i + 1) l)
end
section
variable {P:Program} {Post:Value→World→Prop} {cs:List Frame} {cn:Nat→Option Nat} {W:Nat→(Nat→Value)→Ctx→World→Prop} {b:Frame} {kk:List Item} {ops:Array Oper} {k:Nat} {cv:Nat→Value} {C:Ctx} {y:World}
theorem YA.call {i:Nat} {o:Oper} {aj:Act} (f:FuncId) (args:Array Value) (ho:ops[i]? = some o) (hg:o.guard=none) (hk:b.kind≠.early) (h1:∀ w,(execOp aj.eval o).run P w=.ok (.enter f args) w) (h2:∀ w,(execOp aj.eval o).events P w #[] = #[])
 (h3:∀ a' L,a'.defers=aj.defers→(∀ v C' y',W (k + 1) (Xej cv k v) C' y'→JG P Post C' (G ((b.at a' (.inRegion ops (i::L)::kk)).finish v) cs) y')→JG P Post C (G (Frame.enter P f args .normal) (b.at a' (.inRegion ops (i::L)::kk)::cs)) y):YA P Post cs W b kk ops k cv C y i o aj:=fun a' he hd L hK=>by
 refine JG.call (f:=f) (args:=args) ho (by simp [Region.wanted,hg]) hk (fun w=>by rw [he];exact h1 w) (fun w=>by rw [he];exact h2 w) (h3 a' L hd fun v C' y' hW=>?_)
 rw [Frame.finish_at,ho]
 exact hK v C' y' hW
theorem YA.op {i:Nat} {o:Oper} {aj:Act} {F:Fns} (hF:UF P F) (hM:F.maps=true→∀ r,¬ C.prot.objs r) (hm:mild F o.op=true) (ho:ops[i]? = some o) (hg:o.guard=none) (hk:b.kind≠.early)
 (h:∀ K:Value→World→Prop,(∀ v y' τ d,W (k + 1) (Xej cv k v) C y'→K v (under y' τ d))→∀ τ d,match (execOp aj.eval o).run P (under y τ d) with
   | .ok (.value v) w=>K v w
   | .ok .skip w=>K undef w
   | _=>False):YA P Post cs W b kk ops k cv C y i o aj:=fun a' he hd L hK=>by
 refine JG.op hF hM hm ho (by simp [Region.wanted,hg]) hk fun K E hKK hE τ d=>?_
 rw [he]
 have:=h (fun v w=>K (a'.put o.dst v) w) (fun v y' τ d hW=>hKK _ _ (JG.tap (hK v C y' hW))) τ d
 revert this
 cases (execOp aj.eval o).run P (under y τ d) with
 | halt hh w=>exact False.elim
 | ok u w =>
  cases u with
  | value v=>exact fun h=>(by rw [uponE_value];exact h)
  | skip=>exact fun h=>(by rw [uponE_skip];exact h)
  | _=>exact False.elim
theorem XO.rd {i:Nat} {Q:Act→Prop} {o:Oper} {l:List Oper} {a:Act} (hc:cn i=none) (h:∀ K:Act→Prop,(∀ a',XO P Post cs cn W b kk ops k cv C y Q (i + 1) l a'→K a')→∀ τ d,o.still P a (under y τ d) K):XO P Post cs cn W b kk ops k cv C y Q i (o::l) a:=by
 unfold XO;rw [hc];exact h _ (fun _ h=>h)
theorem XO.ch {i n:Nat} {Q:Act→Prop} {o:Oper} {l:List Oper} {a:Act} (hc:cn i=some n) (h:n=k→YA P Post cs W b kk ops k cv C y i o a)
 (h2:XO P Post cs cn W b kk ops k cv C y Q (i + 1) l (a.put o.dst (cv n))):XO P Post cs cn W b kk ops k cv C y Q i (o::l) a:=by
 unfold XO;rw [hc];exact ⟨h,h2⟩
theorem XO.nil {i:Nat} {Q:Act→Prop} {a:Act} (h:Q a):XO P Post cs cn W b kk ops k cv C y Q i [] a:=h
structure AtK (P:Program) (Post:Value→World→Prop) (cs:List Frame) (hd:Array Oper) (cn:Nat→Option Nat) (W:Nat→(Nat→Value)→Ctx→World→Prop) (b:Frame) (kk:List Item) (ops:Array Oper) (k:Nat) (cv:Nat→Value) (C:Ctx) (y:World) (a₀ aE:Act) (i:Nat) (o:Oper) (aj:Act) (v:Value):Prop where
 before:Bet ((hd.toList.take i).map (·.dst)) a₀ aj
 behind:Bet ((hd.toList.drop (i + 1)).map (·.dst)) (aj.put o.dst v) aE
 does:match cn i with
  | some n=>v=cv n∧(n=k→YA P Post cs W b kk ops k cv C y i o aj)
  | none=>(∀ τ d,(execOp aj.eval o).run P (under y τ d)=.ok (.value v) (under y τ d))∨((∀ τ d,(execOp aj.eval o).run P (under y τ d)=.ok .skip (under y τ d))∧v=undef)
theorem XO.get {w:World} {aE:Act} (hT:X0 C.prot y w):∀ (l:List Oper) (i:Nat) (a:Act),(∀ j o,l[j]? = some o→cn (i + j)=none→mild F00 o.op=true)→XO P Post cs cn W b kk ops k cv C y (fun a'=>a'=aE) i l a →
 Bet (l.map (·.dst)) a aE∧∀ j o,l[j]? = some o→∃ aj v,Bet ((l.take j).map (·.dst)) a aj∧Bet ((l.drop (j + 1)).map (·.dst)) (aj.put o.dst v) aE ∧
  (match cn (i + j) with
   | some n=>v=cv n∧(n=k→YA P Post cs W b kk ops k cv C y (i + j) o aj)
   | none=>(∀ τ d,(execOp aj.eval o).run P (under y τ d)=.ok (.value v) (under y τ d))∨((∀ τ d,(execOp aj.eval o).run P (under y τ d)=.ok .skip (under y τ d))∧v=undef)):=by
 intro l
 induction l with
 | nil =>
  intro i a _ h
  refine ⟨?_,fun j o ho=>by simp at ho⟩
  obtain rfl:a=aE:=h
  exact Bet.refl _
 | cons o l ih =>
  intro i a hm h
  have step:∀ v,XO P Post cs cn W b kk ops k cv C y (fun a'=>a'=aE) (i + 1) l (a.put o.dst v) →
   (match cn i with
    | some n=>v=cv n∧(n=k→YA P Post cs W b kk ops k cv C y i o a)
    | none=>(∀ τ d,(execOp a.eval o).run P (under y τ d)=.ok (.value v) (under y τ d))∨((∀ τ d,(execOp a.eval o).run P (under y τ d)=.ok .skip (under y τ d))∧v=undef)) →
   Bet ((o::l).map (·.dst)) a aE∧∀ j o',(o::l)[j]? = some o'→∃ aj v,Bet (((o::l).take j).map (·.dst)) a aj∧Bet (((o::l).drop (j + 1)).map (·.dst)) (aj.put o'.dst v) aE ∧
    (match cn (i + j) with
     | some n=>v=cv n∧(n=k→YA P Post cs W b kk ops k cv C y (i + j) o' aj)
     | none=>(∀ τ d,(execOp aj.eval o').run P (under y τ d)=.ok (.value v) (under y τ d))∨((∀ τ d,(execOp aj.eval o').run P (under y τ d)=.ok .skip (under y τ d))∧v=undef)):=fun v hv hc=>by
   obtain ⟨hB,hall⟩:=ih (i + 1) _ (fun j o' ho' hc'=>hm (j + 1) o' (by simpa using ho') (by rw [← hc'];congr 1;omega)) hv
   refine ⟨(Bet.put a o.dst v).trans hB,fun j o' ho'=>?_⟩
   cases j with
   | zero =>
    obtain rfl:o=o':=by simpa using ho'
    exact ⟨a,v,Bet.refl _,hB,hc⟩
   | succ j =>
    obtain ⟨aj,u,h1,h2,h3⟩:=hall j o' (by simpa using ho')
    refine ⟨aj,u,(Bet.put a o.dst v).trans h1,h2,?_⟩
    rw [show i + (j + 1)=i + 1 + j by omega]
    exact h3
  have h':=h
  unfold XO at h'
  cases hcn:cn i with
  | some n =>
   rw [hcn] at h'
   refine step (cv n) h'.2 ?_
   rw [hcn]
   exact ⟨rfl,h'.1⟩
  | none =>
   rw [hcn] at h'
   rcases QE (C:=C) (hm 0 o (by simp) hcn) hT h' with ⟨v,hv⟩|hv
   ·refine step v (hv (fun _ _=>0) 0).2 ?_
    rw [hcn]
    exact .inl fun τ d=>(hv τ d).1
   ·refine step undef (hv (fun _ _=>0) 0).2 ?_
    rw [hcn]
    exact .inr ⟨fun τ d=>(hv τ d).1,rfl⟩
end
section
variable {P:Program} {Post:Value→World→Prop} {cs:List Frame} {cn:Nat→Option Nat} {W:Nat→(Nat→Value)→Ctx→World→Prop} {b:Frame} {kk:List Item} {ops hd:Array Oper} {K:Nat} {a₀:Act} {aE:(Nat→Value)→Act} {ds:List (Option Tmp)}
theorem AtK.next {k i:Nat} {cv:Nat→Value} {C:Ctx} {y:World} {o:Oper} {aj a aE:Act} {v:Value} {L:Array Bool} (hok:Qn hd cn K) (ho:hd[i]? = some o) (h:AtK P Post cs hd cn W b kk ops k cv C y a₀ aE i o aj v) (hA:Agr hd a₀ aE L a) (hi:i < L.size) :
 Agr hd a₀ aE (L.setIfInBounds i true) (a.put o.dst v):=by
 have hget:∀ j,(L.setIfInBounds i true).getD j false=true→L.getD j false=true∨j=i:=fun j hj=>by
  by_cases e:i=j
  ·exact .inr e.symm
  ·rw [getD_set_ne false e] at hj;exact .inl hj
 have hself:(L.setIfInBounds i true).getD i false=true:=by simp [hi]
 refine ⟨by cases o.dst<;>exact hA.defers,by cases o.dst<;>simp [Act.put,hA.size],fun j t hj ht=>?_,fun t ht=>?_⟩
 ·by_cases e:XK hd i=some t
  ·have hd':o.dst=some t:=by simpa [XK,ho] using e
   rw [hd',Zh,hA.size]
   have h1:some t ∉ (hd.toList.drop (i + 1)).map (·.dst):=fun hm=>by
    obtain ⟨j',o',hj',hd2⟩:=Ym hm
    rw [List.getElem?_drop] at hj'
    have:=hok.once i o t ho hd' (i + 1 + j') (by simp [XK,show hd[i + 1 + j']? = some o' by simpa using hj',hd2])
    omega
   have h2:=h.behind.same t h1
   rw [hd',Zh] at h2
   rw [h2,h.before.size]
  ·have hj':L.getD j false=true:=(hget j hj).resolve_right fun e'=>e (e' ▸ ht)
   have hne:∀ d,o.dst=some d→d≠t:=fun d hd e'=>e (by simp [XK,ho,hd,e'])
   rw [← hA.done j t hj' ht]
   cases hd:o.dst with
   | none=>rfl
   | some d=>simp only [Act.put];rw [Array.getElem?_setIfInBounds_ne (hne d hd)]
 ·have hne:∀ d,o.dst=some d→d≠t:=fun d hd e'=>ht i hself (by simp [XK,ho,hd,e'])
  rw [← hA.rest t fun j hj=>ht j (getD_set_true hj)]
  cases hd:o.dst with
  | none=>rfl
  | some d=>simp only [Act.put];rw [Array.getElem?_setIfInBounds_ne (hne d hd)]
theorem AtK.same {k i:Nat} {cv:Nat→Value} {C:Ctx} {y:World} {o:Oper} {aj a aE:Act} {v:Value} {L:Array Bool} (hok:Qn hd cn K) (ho:hd[i]? = some o) (h:AtK P Post cs hd cn W b kk ops k cv C y a₀ aE i o aj v) (hA:Agr hd a₀ aE L a)
 (hall:∀ e∈o.after,Region.binds .any e=true→L.getD e.on false=true):execOp a.eval o=execOp aj.eval o:=by
 refine execOp_congr o (hok.sel i o ho) fun z hz=>?_
 cases z with
 | tmp t =>
  have key:a.tmps[t]? = aj.tmps[t]?:=by
   by_cases e:∃ j,XK hd j=some t
   ·obtain ⟨j,hj⟩:=e
    obtain ⟨hji,hw⟩:=hok.looks i o ho t hz j hj
    obtain ⟨e,he,hb⟩:=Array.any_eq_true'.1 hw
    simp only [Bool.and_eq_true,beq_iff_eq] at hb
    have hL:L.getD j false=true:=by have:=hall e he hb.1;rwa [hb.2] at this
    rw [hA.done j t hL hj]
    obtain ⟨oj,hoj,hdj⟩:∃ oj,hd[j]? = some oj∧oj.dst=some t:=by
     unfold XK at hj
     cases hx:hd[j]? with
     | none=>rw [hx] at hj;cases hj
     | some oj=>rw [hx] at hj;exact ⟨oj,rfl,hj⟩
    have h1:some t ∉ (hd.toList.drop (i + 1)).map (·.dst):=fun hm=>by
     obtain ⟨j',o',hj',hd'⟩:=Ym hm
     rw [List.getElem?_drop] at hj'
     have:=hok.once j oj t hoj hdj (i + 1 + j') (by simp [XK,show hd[i + 1 + j']? = some o' by simpa using hj',hd'])
     omega
    rw [h.behind.same t h1]
    have hne:∀ d,o.dst=some d→d≠t:=fun d hd1 e'=>by
     have:=hok.once j oj t hoj hdj i (by simp [XK,ho,hd1,e'])
     omega
    cases hd:o.dst with
    | none=>rfl
    | some d=>simp only [Act.put];rw [Array.getElem?_setIfInBounds_ne (hne d hd)]
   ·rw [hA.rest t fun j _ hj=>e ⟨j,hj⟩]
    refine (h.before.same t fun hm=>?_).symm
    obtain ⟨j',o',hj',hd'⟩:=Ym hm
    have hl:hd[j']? = some o':=by
     rw [List.getElem?_take] at hj'
     split at hj'
     ·simpa using hj'
     ·cases hj'
    exact e ⟨j',by simp [XK,hl,hd']⟩
  simp only [Act.eval,Array.getD_eq_getD_getElem?,key]
 | _=>rfl
structure Xem (ops hd:Array Oper) (cn:Nat→Option Nat) (ds:List (Option Tmp)):Prop where
 waits:∀ (i:Nat) (o:Oper),hd.size≤i→ops[i]? = some o→∀ j,j < hd.size→X2 o j=true
 seq:Region.seqB .any ops (ops.size - hd.size) hd.size ((List.range ops.size).map fun j=>decide (j < hd.size)).toArray=true
 slots:∀ (m:Nat) (t:Tmp),ds[m]? = some (some t)→∃ j,cn j=some m∧XK hd j=some t
theorem Xfl (h:XeA ops hd cn ds=true):Xem ops hd cn ds:=by
 simp only [XeA,Bool.and_eq_true] at h
 obtain ⟨⟨h1,h2⟩,h3⟩:=h
 refine ⟨fun i o hi ho j hj=>?_,h2,fun m t hm=>?_⟩
 ·have hi':=(Array.getElem?_eq_some_iff.1 ho).1
  have:=List.all_eq_true.1 h1 (i - hd.size) (List.mem_range.2 (by omega))
  rw [show hd.size + (i - hd.size)=i by omega,ho] at this
  exact List.all_eq_true.1 this j (List.mem_range.2 hj)
 ·have hl:=(List.getElem?_eq_some_iff.1 hm).1
  have:=List.all_eq_true.1 h3 m (List.mem_range.2 hl)
  rw [hm] at this
  simp only [Bool.or_eq_true] at this
  rcases this with h|h
  ·simp at h
  ·obtain ⟨j,_,hj⟩:=List.any_eq_true.1 h
   simp only [Bool.and_eq_true,beq_iff_eq] at hj
   exact ⟨j,hj.1,Option.some.inj hj.2⟩
theorem JG.anyK (hok:Qn hd cn K) (htl:Xem ops hd cn ds) (hhd:∀ i,i < hd.size→ops[i]? = hd[i]?) (hsz:hd.size≤ops.size) (hput:∀ cv,aE cv=Xfq cv 0 ds (aE fun _=>undef)) (hk:b.kind≠.early)
 (hAt:∀ k,k≤K→∀ cv C y,W k cv C y→∀ w,X0 C.prot y w→Bet (hd.toList.map (·.dst)) a₀ (aE cv)∧∀ (i:Nat) (o:Oper),hd[i]? = some o→∃ aj v,AtK P Post cs hd cn W b kk ops k cv C y a₀ (aE cv) i o aj v)
 (hend:∀ cv C y,W K cv C y→JG P Post C (G (b.at (aE cv) (.inRegion ops (List.range' hd.size (ops.size - hd.size))::kk)) cs) y) :
 ∀ (f t:Nat) (L:Array Bool) (U:List Nat) (a:Act) (k:Nat) (cv:Nat→Value) (C:Ctx) (y:World),W k cv C y→k≤K→L.size=ops.size→U.length=f→U.Nodup→(∀ i,i∈U ↔ i < hd.size∧L.getD i false=false)→(∀ i,hd.size≤i→L.getD i false=false)→(∀ i n,i < hd.size→cn i=some n→(L.getD i false=true ↔ n < k))→Agr hd a₀ (aE cv) L a →
  JG P Post C (G (b.at a (.inRegion ops (Region.linearise.go .any ops (f + (ops.size - hd.size)) t L [])::kk)) cs) y:=by
 intro f
 induction f with
 | zero =>
  intro t L U a k cv C y hW hkK hLs hU _ hmem htail hcn hA w hT
  have hall:∀ i,i < hd.size→L.getD i false=true:=fun i hi=>by
   have:U = []:=List.length_eq_zero_iff.1 hU
   rw [this] at hmem
   have:=(hmem i).2
   cases h:L.getD i false with
   | true=>rfl
   | false=>exact absurd (this ⟨hi,h⟩) (by simp)
  have hkk:k=K:=by
   rcases Nat.lt_or_ge k K with h|h
   ·obtain ⟨j,hj,hc⟩:=hok.all k h
    have:=(hcn j k hj hc).1 (hall j hj)
    omega
   ·omega
  subst hkk
  obtain ⟨hB,_⟩:=hAt k (Nat.le_refl _) cv C y hW w hT
  have ha:a=aE cv:=by
   have e1:a.tmps=(aE cv).tmps:=by
    apply Array.ext_getElem?
    intro t
    by_cases e:∃ j,XK hd j=some t
    ·obtain ⟨j,hj⟩:=e
     exact hA.done j t (hall j (Zc hj)) hj
    ·rw [hA.rest t fun j _ hj=>e ⟨j,hj⟩]
     refine (hB.same t fun hm=>?_).symm
     obtain ⟨j',o',hj',hd'⟩:=Ym hm
     exact e ⟨j',by simp [XK,show hd[j']? = some o' by simpa using hj',hd']⟩
   have e2:a.defers=(aE cv).defers:=hA.defers.trans hB.defers.symm
   generalize aE cv=z at e1 e2 ⊢
   cases a;cases z
   simp only at e1 e2
   subst e1;subst e2;rfl
  subst ha
  have hL:L=((List.range ops.size).map fun j=>decide (j < hd.size)).toArray:=by
   apply Array.ext_getElem?
   intro i
   rcases Nat.lt_or_ge i ops.size with hi|hi
   ·have e1:L[i]? = some (L.getD i false):=by
     rw [Array.getElem?_eq_getElem (by omega),Array.getD_eq_getD_getElem?,Array.getElem?_eq_getElem (by omega)];rfl
    rw [e1]
    by_cases h:i < hd.size
    ·rw [hall i h];simp [hi,h]
    ·rw [htail i (by omega)];simp [hi,h]
   ·rw [Array.getElem?_eq_none (by omega),Array.getElem?_eq_none (by simpa using hi)]
  rw [Nat.zero_add,Wl (ops.size - hd.size) hd.size t L (by rw [hL];exact htl.seq)]
  exact hend cv C y hW w hT
 | succ f ih =>
  intro t L U a k cv C y hW hkK hLs hU hnd hmem htail hcn hA w hT
  obtain ⟨_,hget⟩:=hAt k hkK cv C y hW w hT
  obtain ⟨i0,hi0,hmin⟩:∃ i,i∈U∧∀ j,j∈U→i≤j:=by
   have hex:∃ i,i∈U:=by
    cases U with
    | nil=>simp at hU
    | cons u U=>exact ⟨u,by simp⟩
   have hmin:∀ m,m∈U→∃ i,i∈U∧∀ j,j∈U→i≤j:=fun m=>by
    induction m using Nat.strongRecOn with
    | _ m ihm =>
     intro hm
     by_cases e:∃ j,j∈U∧j < m
     ·obtain ⟨j,hj,hlt⟩:=e
      exact ihm j hlt hj
     ·exact ⟨m,hm,fun j hj=>Nat.not_lt.1 fun hlt=>e ⟨j,hj,hlt⟩⟩
   obtain ⟨m,hm⟩:=hex
   exact hmin m hm
  obtain ⟨hil0,hLi0⟩:=(hmem i0).1 hi0
  have hne:Region.ready .any ops L≠[]:=fun h0=>by
   obtain ⟨o,ho⟩:∃ o,hd[i0]? = some o:=⟨_,Array.getElem?_eq_getElem hil0⟩
   have:i0∈Region.ready .any ops L:=mem_ready.2 ⟨getD_in (by omega) hLi0,o,(hhd i0 hil0).trans ho,fun e he hb=>by
    have hlt:=hok.less i0 o ho e he hb
    cases h:L.getD e.on false with
    | true=>rfl
    | false=>have:=hmin e.on ((hmem e.on).2 ⟨by omega,h⟩);omega⟩
   rw [h0] at this
   cases this
  rw [show f + 1 + (ops.size - hd.size)=(f + (ops.size - hd.size)) + 1 by omega]
  simp only [Region.linearise.go]
  change J P Post C (G (b.at a (.inRegion ops (match (Region.ready .any ops L)[t % (Region.ready .any ops L).length]? with
   | some i=>Region.linearise.go .any ops (f + (ops.size - hd.size)) (t / (Region.ready .any ops L).length) (L.setIfInBounds i true) [i]
   | none=>[].reverse)::kk)) cs) w
  cases hi:(Region.ready .any ops L)[t % (Region.ready .any ops L).length]? with
  | none =>
   exfalso
   have hlt:t % (Region.ready .any ops L).length < (Region.ready .any ops L).length:=Nat.mod_lt _ (List.length_pos_iff.2 hne)
   rw [List.getElem?_eq_getElem hlt] at hi
   cases hi
  | some i =>
   simp only []
   rw [linearise_go_acc,List.reverse_singleton,List.singleton_append]
   have him:i∈Region.ready .any ops L:=List.mem_of_getElem? hi
   obtain ⟨hun,o,ho,hall⟩:=mem_ready.1 him
   have hil:i < hd.size:=by
    rcases Nat.lt_or_ge i hd.size with h|h
    ·exact h
    ·exfalso
     obtain ⟨e,he,hb⟩:=Array.any_eq_true'.1 (htl.waits i o h ho i0 hil0)
     simp only [Bool.and_eq_true,beq_iff_eq] at hb
     have:=hall e he hb.1
     rw [hb.2,hLi0] at this
     cases this
   have hoh:hd[i]? = some o:=(hhd i hil).symm.trans ho
   obtain ⟨aj,v,hat⟩:=hget i o hoh
   have hex:=hat.same hok hoh hA hall
   have hA':=hat.next hok hoh hA (by omega)
   have hg:=hok.guard i o hoh
   have hw:Region.wanted o (yielded ops a.tmps)=true:=by simp [Region.wanted,hg]
   have hUi:i∈U:=(hmem i).2 ⟨hil,getD_both hun⟩
   have hU':(U.erase i).length=f:=by rw [List.length_erase_of_mem hUi,hU];rfl
   have hmem':∀ j,j∈U.erase i ↔ j < hd.size∧(L.setIfInBounds i true).getD j false=false:=fun j=>by
    rw [List.Nodup.mem_erase_iff hnd,hmem]
    by_cases e:i=j
    ·subst e
     simp [show i < L.size by omega]
    ·rw [getD_set_ne false e]
     exact ⟨fun h=>h.2,fun h=>⟨fun e'=>e e'.symm,h⟩⟩
   have htail':∀ j,hd.size≤j→(L.setIfInBounds i true).getD j false=false:=fun j hj=>by
    rw [getD_set_ne false (by omega:i≠j)];exact htail j hj
   cases hc:cn i with
   | none =>
    have hd':=hat.does
    rw [hc] at hd'
    have hcn':∀ j n,j < hd.size→cn j=some n→((L.setIfInBounds i true).getD j false=true ↔ n < k):=fun j n hj hcj=>by
     have hij:i≠j:=fun e=>by subst e;rw [hc] at hcj;cases hcj
     rw [getD_set_ne false hij];exact hcn j n hj hcj
    refine JG.op (F:=F00) Q7 (fun h=>by cases h) (hok.mild i o hoh hc) ho hw hk (fun K' E hK hE τ d=>?_) w hT
    rw [hex]
    rcases hd' with hd'|⟨hd',rfl⟩
    ·rw [hd' τ d,uponE_value]
     exact hK _ _ (JG.tap (ih _ _ _ _ k cv C y hW hkK (by simp [hLs]) hU' (hnd.erase i) hmem' htail' hcn' hA'))
    ·rw [hd' τ d,uponE_skip]
     exact hK _ _ (JG.tap (ih _ _ _ _ k cv C y hW hkK (by simp [hLs]) hU' (hnd.erase i) hmem' htail' hcn' hA'))
   | some n =>
    have hd':=hat.does
    rw [hc] at hd'
    obtain ⟨rfl,hd'⟩:=hd'
    have hnk:n=k:=by
     have h1:¬ n < k:=fun h=>by
      have:=(hcn i n hil hc).2 h
      rw [getD_both hun] at this
      cases this
     cases n with
     | zero=>omega
     | succ m =>
      obtain ⟨j,hj,hw⟩:=hok.chain i o m hoh hc
      obtain ⟨e,he,hb⟩:=Array.any_eq_true'.1 hw
      simp only [Bool.and_eq_true,beq_iff_eq] at hb
      have hL:L.getD j false=true:=by have:=hall e he hb.1;rwa [hb.2] at this
      have hjl:j < hd.size:=by have:=hok.less i o hoh e he hb.1;omega
      have:=(hcn j m hjl hj).1 hL
      omega
    subst hnk
    have hnK:=hok.few i n hil hc
    have hcn':∀ j m,j < hd.size→cn j=some m→((L.setIfInBounds i true).getD j false=true ↔ m < n + 1):=fun j m hj hcj=>by
     by_cases e:i=j
     ·subst e
      rw [hc] at hcj
      obtain rfl:=Option.some.inj hcj
      simp [show i < L.size by omega]
     ·rw [getD_set_ne false e,hcn j m hj hcj]
      have hmn:m≠n:=fun e'=>e (hok.uniq i j n hil hj hc (e' ▸ hcj))
      omega
    -- the slots of what has been done bear no later answer
    have hslot:∀ v j t,(L.setIfInBounds i true).getD j false=true→j≠i→XK hd j=some t→(aE (Xej cv n v)).tmps[t]? = (aE cv).tmps[t]?:=fun v j t hj hne ht=>by
     rw [hput (Xej cv n v),hput cv]
     refine Wo ds 0 _ _ rfl rfl fun m hm=>?_
     rw [Nat.zero_add]
     obtain ⟨j',hj',hjt⟩:=htl.slots m t hm
     have hjl:=Zc ht
     obtain ⟨oj,hoj,hdj⟩:∃ oj,hd[j]? = some oj∧oj.dst=some t:=by
      unfold XK at ht
      cases hx:hd[j]? with
      | none=>rw [hx] at ht;cases ht
      | some oj=>rw [hx] at ht;exact ⟨oj,rfl,ht⟩
     obtain rfl:=hok.once j oj t hoj hdj j' hjt
     refine Xe2 fun e=>hne ?_
     subst e
     exact (hok.uniq i j' m hil hjl hc hj').symm
    refine hd' rfl a hex ?_ _ (fun v C' y' hW' w' hT'=>?_) w hT
    ·rw [hA.defers,hat.before.defers]
    ·refine ih _ _ _ _ (n + 1) (Xej cv n v) C' y' hW' (by omega) (by simp [hLs]) hU' (hnd.erase i) hmem' htail' hcn' ⟨?_,?_,fun j t hj ht=>?_,fun t ht=>?_⟩ w' hT'
     ·cases o.dst<;>exact hA.defers
     ·cases o.dst<;>simp [Act.put,hA.size]
     ·by_cases e:j=i
      ·subst e
       have hdj:o.dst=some t:=by simpa [XK,hoh] using ht
       rw [hdj,Zh,hA.size]
       obtain ⟨_,hget'⟩:=hAt (n + 1) (by omega) _ C' y' hW' w' hT'
       obtain ⟨aj',v',hat'⟩:=hget' j o hoh
       have hv':=hat'.does
       rw [hc] at hv'
       have h1:some t ∉ (hd.toList.drop (j + 1)).map (·.dst):=fun hm=>by
        obtain ⟨j',o',hj',hd2⟩:=Ym hm
        rw [List.getElem?_drop] at hj'
        have:=hok.once j o t hoh hdj (j + 1 + j') (by simp [XK,show hd[j + 1 + j']? = some o' by simpa using hj',hd2])
        omega
       have h2:=hat'.behind.same t h1
       rw [hdj,Zh,hv'.1,X8] at h2
       rw [h2,hat'.before.size]
      ·have hj':L.getD j false=true:=by rw [getD_set_ne false (fun h=>e h.symm)] at hj;exact hj
       rw [hslot v j t hj e ht,← hA.done j t hj' ht]
       obtain ⟨oj,hoj,hdj⟩:∃ oj,hd[j]? = some oj∧oj.dst=some t:=by
        unfold XK at ht
        cases hx:hd[j]? with
        | none=>rw [hx] at ht;cases ht
        | some oj=>rw [hx] at ht;exact ⟨oj,rfl,ht⟩
       cases hdo:o.dst with
       | none=>rfl
       | some d =>
        simp only [Act.put]
        rw [Array.getElem?_setIfInBounds_ne]
        rintro rfl
        exact e (hok.once j oj d hoj hdj i (by simp [XK,hoh,hdo])).symm
     ·rw [← hA.rest t fun j hj=>ht j (getD_set_true hj)]
      cases hdo:o.dst with
      | none=>rfl
      | some d =>
       simp only [Act.put]
       rw [Array.getElem?_setIfInBounds_ne]
       rintro rfl
       exact ht i (by simp [show i < L.size by omega]) (by simp [XK,hoh,hdo])
theorem JG.drawChain {id:Nat} {l:List Oper} {a:Act} {C:Ctx} {x:World} (n:Nat) (cn:Nat→Option Nat) (W:Nat→(Nat→Value)→Ctx→World→Prop) (K:Nat) (ds:List (Option Tmp)) (cv0:Nat→Value) (hm:P.follows .mixedOrders=true) (hB:Xa1 (l.take n).toArray cn K=true) (hTl:XeA l.toArray (l.take n).toArray cn ds=true) (hn:n≤l.length) (hk:b.kind≠.early) (h0:W 0 cv0 C x)
 (h:∃ aE:(Nat→Value)→Act,(∀ k,k≤K→∀ cv C y,W k cv C y→XO P Post cs cn W b kk l.toArray k cv C y (fun a'=>a'=aE cv) 0 (l.take n) a)∧(∀ cv,aE cv=Xfq cv 0 ds (aE fun _=>undef))∧∀ cv C y,W K cv C y→JG P Post C (G (b.at (aE cv) (.inRegion l.toArray (List.range' n (l.length - n))::kk)) cs) y):JG P Post C (G (b.at a (.code (.region id l.toArray true)::kk)) cs) x:=by
 obtain ⟨aE,hp,hput,hend⟩:=h
 have hok:=Xda hB
 have hsz:(l.take n).toArray.size=n:=by simp;omega
 refine JG.draw fun t=>?_
 simp only [Region.schedule,hm,Bool.true_or,if_true,Region.linearise]
 have R:=JG.anyK (a₀:=a) (aE:=aE) (W:=W) (hd:=(l.take n).toArray) (ops:=l.toArray) (ds:=ds) (kk:=kk) (b:=b) (cs:=cs) (P:=P) (Post:=Post) hok (Xfl hTl) (fun i hi=>by
  rw [hsz] at hi
  simp [List.getElem?_take,hi]) (by rw [hsz];simpa using hn) hput hk (fun k hkK cv C y hy w hT=>by
  obtain ⟨h1,h2⟩:=XO.get hT (l.take n) 0 a (fun j o ho hc=>hok.mild j o (by simpa using ho) (by rw [Nat.zero_add] at hc;exact hc)) (hp k hkK cv C y hy)
  refine ⟨h1,fun i o ho=>?_⟩
  obtain ⟨aj,v,q1,q2,q3⟩:=h2 i o (by simpa using ho)
  rw [Nat.zero_add] at q3
  exact ⟨aj,v,q1,q2,q3⟩) (fun cv C y hy=>by rw [hsz];exact hend cv C y hy) n t (Array.replicate l.toArray.size false) (List.range n) a 0 cv0 C x h0 (Nat.zero_le _) (by simp) (by simp) List.nodup_range
  (fun i=>by rw [hsz];exact ⟨fun h=>⟨List.mem_range.1 h,getD_replicate_false _ _⟩,fun h=>List.mem_range.2 h.1⟩) (fun i _=>getD_replicate_false _ _) (fun i n hi hc=>⟨fun h=>(by rw [getD_replicate_false] at h;cases h),fun h=>absurd h (Nat.not_lt_zero _)⟩) ⟨rfl,rfl,fun j t hj=>(by rw [getD_replicate_false] at hj;cases hj),fun t _=>rfl⟩
 rw [hsz,show n + (l.toArray.size - n)=l.toArray.size by simp;omega] at R
 exact R
end
def Xax (ops:Array Oper) (cn:Nat→Option Nat) (K:Nat):Bool :=
 ((List.range ops.size).all fun i=>match ops[i]? with
   | none=>false
   | some o=>(match o.guard with | none=>true | some (g,_)=>decide (g < i) && X2 o g) && XeT o.op && (o.after.all fun e=>!Region.binds .any e || decide (e.on < i)) &&
    (o.op.operands.all fun x=>match x with
      | .tmp t=>(List.range ops.size).all fun j=>XK ops j != some t || (decide (j < i) && X2 o j)
      | _=>true) &&
    (match o.dst with|none=>true|some d=>(List.range ops.size).all fun j=>decide (j=i) || XK ops j != some d) &&
    (match cn i with
      | none=>true
      | some 0=>decide (0 < K)
      | some (n + 1)=>decide (n + 1 < K) && (List.range ops.size).any fun j=>cn j == some n && (X2 o j || (List.range ops.size).any fun m=>X2 o m && (match ops[m]? with | some om=>X2 om j | none=>false)))) &&
 ((List.range K).all fun n=>(List.range ops.size).any fun j=>cn j == some n) &&
 ((List.range ops.size).all fun i=>(List.range ops.size).all fun j=>decide (i=j) || cn i == none || cn i != cn j)
structure Uf (ops:Array Oper) (cn:Nat→Option Nat) (K:Nat):Prop where
 guard:∀ (i:Nat) (o:Oper),ops[i]? = some o→∀ g b,o.guard=some (g,b)→g < i∧X2 o g=true
 sel:∀ (i:Nat) (o:Oper),ops[i]? = some o→∀ cs b,o.op≠.select cs b
 less:∀ (i:Nat) (o:Oper),ops[i]? = some o→∀ e∈o.after,Region.binds .any e=true→e.on < i
 looks:∀ (i:Nat) (o:Oper),ops[i]? = some o→∀ t,.tmp t∈o.op.operands→∀ j,XK ops j=some t→j < i∧X2 o j=true
 once:∀ (i:Nat) (o:Oper) (d:Tmp),ops[i]? = some o→o.dst=some d→∀ j,XK ops j=some d→j=i
 few:∀ i n,i < ops.size→cn i=some n→n < K
 chain:∀ (i:Nat) (o:Oper) (n:Nat),ops[i]? = some o→cn i=some (n + 1)→∃ j,cn j=some n∧(X2 o j=true∨∃ m om,ops[m]? = some om∧X2 o m=true∧X2 om j=true)
 all:∀ n,n < K→∃ j,j < ops.size∧cn j=some n
 uniq:∀ i j n,i < ops.size→j < ops.size→cn i=some n→cn j=some n→i=j
theorem Xd1 {ops:Array Oper} {cn:Nat→Option Nat} {K:Nat} (h:Xax ops cn K=true):Uf ops cn K:=by
 simp only [Xax,Bool.and_eq_true] at h
 obtain ⟨⟨h1,h2⟩,h4⟩:=h
 have H:=fun (i:Nat) (o:Oper) (ho:ops[i]? = some o)=>(show _ from by
  have:=List.all_eq_true.1 h1 i (List.mem_range.2 (Array.getElem?_eq_some_iff.1 ho).1)
  simp only [ho,Bool.and_eq_true] at this
  exact this)
 refine ⟨fun i o ho g b hg=>?_,fun i o ho=>Vc (H i o ho).1.1.1.1.2,fun i o ho e he hb=>?_,fun i o ho t ht j hj=>?_,fun i o d ho hd j hj=>?_,fun i n hi hc=>?_,fun i o n ho hc=>?_,fun n hn=>?_,fun i j n hi hj hci hcj=>?_⟩
 ·have:=(H i o ho).1.1.1.1.1
  rw [hg] at this
  simpa using this
 ·have:=Array.all_eq_true'.1 (H i o ho).1.1.1.2 e he
  simpa [hb] using this
 ·have:=Array.all_eq_true'.1 (H i o ho).1.1.2 _ ht
  have:=List.all_eq_true.1 this j (List.mem_range.2 (Zc hj))
  simpa [hj] using this
 ·have:=(H i o ho).1.2
  rw [hd] at this
  have:=List.all_eq_true.1 this j (List.mem_range.2 (Zc hj))
  simpa [hj] using this
 ·obtain ⟨o,ho⟩:∃ o,ops[i]? = some o:=⟨_,Array.getElem?_eq_getElem hi⟩
  have:=(H i o ho).2
  rw [hc] at this
  cases n with
  | zero=>simpa using this
  | succ n=>simp only [Bool.and_eq_true,decide_eq_true_eq] at this;exact this.1
 ·have:=(H i o ho).2
  rw [hc] at this
  simp only [Bool.and_eq_true] at this
  obtain ⟨j,_,hj⟩:=List.any_eq_true.1 this.2
  simp only [Bool.and_eq_true,beq_iff_eq,Bool.or_eq_true] at hj
  refine ⟨j,hj.1,hj.2.imp id fun h=>?_⟩
  obtain ⟨m,_,hm⟩:=List.any_eq_true.1 h
  simp only [Bool.and_eq_true] at hm
  cases e:ops[m]? with
  | none=>rw [e] at hm;exact absurd hm.2 (by simp)
  | some om=>rw [e] at hm;exact ⟨m,om,e,hm.1,hm.2⟩
 ·obtain ⟨j,hj,hj2⟩:=List.any_eq_true.1 (List.all_eq_true.1 h2 n (List.mem_range.2 hn))
  exact ⟨j,List.mem_range.1 hj,by simpa using hj2⟩
 ·have:=List.all_eq_true.1 (List.all_eq_true.1 h4 i (List.mem_range.2 hi)) j (List.mem_range.2 hj)
  simpa [hci,hcj] using this
section
variable (P:Program) (Post:Value→World→Prop) (C:Ctx) (cs:List Frame) (ops:Array Oper) (cn:Nat→Option Nat) (cv:Nat→Value) (W:Nat→World→Prop)
def ZG (k:Nat) (y:World) (Q:Act→Prop):Nat→List Oper→Act→Prop
 | _,[],a=>Q a
 | i,o::l,a=>match cn i with
  | some n=>Region.wanted o (yielded ops a.tmps)=true∧(n=k→∃ f args,(∀ w,(execOp a.eval o).run P w=.ok (.enter f args) w)∧(∀ w,(execOp a.eval o).events P w #[] = #[]) ∧
   ∀ c,(∀ y',W (k + 1) y'→JG P Post C (G (c.finish (cv n)) cs) y')→JG P Post C (G (Frame.enter P f args .normal) (c::cs)) y)∧ZG k y Q (i + 1) l (a.put o.dst (cv n))
  | none=>if Region.wanted o (yielded ops a.tmps)=true then mild F00 o.op=true∧∀ τ d,o.still P a (under y τ d) (ZG k y Q (i + 1) l) else ZG k y Q (i + 1) l (a.put o.dst undef)
structure XG (k:Nat) (y:World) (Q:Act→Prop) (i:Nat) (l:List Oper) (a:Act):Prop where
 out:ZG P Post C cs ops cn cv W k y Q i l a
end
section
variable {P:Program} {Post:Value→World→Prop} {C:Ctx} {cs:List Frame} {ops:Array Oper} {cn:Nat→Option Nat} {cv:Nat→Value} {W:Nat→World→Prop}
theorem XG.rd {k i:Nat} {y:World} {Q:Act→Prop} {o:Oper} {l:List Oper} {a:Act} (hc:cn i=none) (hw:Region.wanted o (yielded ops a.tmps)=true) (hm:mild F00 o.op=true)
 (h:∀ K:Act→Prop,(∀ a',XG P Post C cs ops cn cv W k y Q (i + 1) l a'→K a')→∀ τ d,o.still P a (under y τ d) K):XG P Post C cs ops cn cv W k y Q i (o::l) a:=by
 refine ⟨?_⟩;unfold ZG;rw [hc];simp only [hw,if_true];exact ⟨hm,h _ (fun _ h=>h.out)⟩
theorem XG.un {k i:Nat} {y:World} {Q:Act→Prop} {o:Oper} {l:List Oper} {a:Act} (hc:cn i=none) (hw:Region.wanted o (yielded ops a.tmps)=false)
 (h:XG P Post C cs ops cn cv W k y Q (i + 1) l (a.put o.dst undef)):XG P Post C cs ops cn cv W k y Q i (o::l) a:=by
 refine ⟨?_⟩;unfold ZG;rw [hc];simp only [hw,Bool.false_eq_true,if_false];exact h.out
theorem XG.cl {k i n:Nat} {y:World} {Q:Act→Prop} {o:Oper} {l:List Oper} {a:Act} (hc:cn i=some n) (hw:Region.wanted o (yielded ops a.tmps)=true)
 (h:n=k→∃ f args,(∀ w,(execOp a.eval o).run P w=.ok (.enter f args) w)∧(∀ w,(execOp a.eval o).events P w #[] = #[])∧∀ c,(∀ y',W (k + 1) y'→JG P Post C (G (c.finish (cv n)) cs) y')→JG P Post C (G (Frame.enter P f args .normal) (c::cs)) y)
 (h2:XG P Post C cs ops cn cv W k y Q (i + 1) l (a.put o.dst (cv n))):XG P Post C cs ops cn cv W k y Q i (o::l) a:=by
 refine ⟨?_⟩;unfold ZG;rw [hc];exact ⟨hw,h,h2.out⟩
theorem XG.nil {k i:Nat} {y:World} {Q:Act→Prop} {a:Act} (h:Q a):XG P Post C cs ops cn cv W k y Q i [] a:=⟨h⟩
theorem ZG.get {k:Nat} {x y w:World} {aE:Act} (hT:X0 C.prot y w):∀ (l:List Oper) (i:Nat) (a:Act),ZG P Post C cs ops cn cv W k y (fun a'=>a'=aE) i l a →
 Bet (l.map (·.dst)) a aE∧∀ j o,l[j]? = some o→∃ aj v,Bet ((l.take j).map (·.dst)) a aj∧Bet ((l.drop (j + 1)).map (·.dst)) (aj.put o.dst v) aE ∧
  (match cn (i + j) with
   | some n=>Region.wanted o (yielded ops aj.tmps)=true∧v=cv n∧(n=k→∃ f args,(∀ w,(execOp aj.eval o).run P w=.ok (.enter f args) w)∧(∀ w,(execOp aj.eval o).events P w #[] = #[]) ∧
    ∀ c,(∀ y',W (k + 1) y'→JG P Post C (G (c.finish (cv n)) cs) y')→JG P Post C (G (Frame.enter P f args .normal) (c::cs)) y)
   | none=>(Region.wanted o (yielded ops aj.tmps)=false∧v=undef)∨(Region.wanted o (yielded ops aj.tmps)=true∧mild F00 o.op=true∧((∀ τ d,(execOp aj.eval o).run P (under y τ d)=.ok (.value v) (under y τ d))∨((∀ τ d,(execOp aj.eval o).run P (under y τ d)=.ok .skip (under y τ d))∧v=undef)))):=by
 intro l
 induction l with
 | nil =>
  intro i a h
  refine ⟨?_,fun j o ho=>by simp at ho⟩
  obtain rfl:a=aE:=h
  exact Bet.refl _
 | cons o l ih =>
  intro i a h
  have step:∀ v,ZG P Post C cs ops cn cv W k y (fun a'=>a'=aE) (i + 1) l (a.put o.dst v) →
   (match cn i with
    | some n=>Region.wanted o (yielded ops a.tmps)=true∧v=cv n∧(n=k→∃ f args,(∀ w,(execOp a.eval o).run P w=.ok (.enter f args) w)∧(∀ w,(execOp a.eval o).events P w #[] = #[]) ∧
     ∀ c,(∀ y',W (k + 1) y'→JG P Post C (G (c.finish (cv n)) cs) y')→JG P Post C (G (Frame.enter P f args .normal) (c::cs)) y)
    | none=>(Region.wanted o (yielded ops a.tmps)=false∧v=undef)∨(Region.wanted o (yielded ops a.tmps)=true∧mild F00 o.op=true∧((∀ τ d,(execOp a.eval o).run P (under y τ d)=.ok (.value v) (under y τ d))∨((∀ τ d,(execOp a.eval o).run P (under y τ d)=.ok .skip (under y τ d))∧v=undef)))) →
   Bet ((o::l).map (·.dst)) a aE∧∀ j o',(o::l)[j]? = some o'→∃ aj v,Bet (((o::l).take j).map (·.dst)) a aj∧Bet (((o::l).drop (j + 1)).map (·.dst)) (aj.put o'.dst v) aE ∧
    (match cn (i + j) with
     | some n=>Region.wanted o' (yielded ops aj.tmps)=true∧v=cv n∧(n=k→∃ f args,(∀ w,(execOp aj.eval o').run P w=.ok (.enter f args) w)∧(∀ w,(execOp aj.eval o').events P w #[] = #[]) ∧
      ∀ c,(∀ y',W (k + 1) y'→JG P Post C (G (c.finish (cv n)) cs) y')→JG P Post C (G (Frame.enter P f args .normal) (c::cs)) y)
     | none=>(Region.wanted o' (yielded ops aj.tmps)=false∧v=undef)∨(Region.wanted o' (yielded ops aj.tmps)=true∧mild F00 o'.op=true∧((∀ τ d,(execOp aj.eval o').run P (under y τ d)=.ok (.value v) (under y τ d))∨((∀ τ d,(execOp aj.eval o').run P (under y τ d)=.ok .skip (under y τ d))∧v=undef)))):=fun v hv hc=>by
   obtain ⟨hB,hall⟩:=ih (i + 1) _ hv
   refine ⟨(Bet.put a o.dst v).trans hB,fun j o' ho'=>?_⟩
   cases j with
   | zero =>
    obtain rfl:o=o':=by simpa using ho'
    exact ⟨a,v,Bet.refl _,hB,hc⟩
   | succ j =>
    obtain ⟨aj,u,h1,h2,h3⟩:=hall j o' (by simpa using ho')
    refine ⟨aj,u,(Bet.put a o.dst v).trans h1,h2,?_⟩
    rw [show i + (j + 1)=i + 1 + j by omega]
    exact h3
  have h':=h
  unfold ZG at h'
  cases hcn:cn i with
  | some n =>
   rw [hcn] at h'
   refine step (cv n) h'.2.2 ?_
   rw [hcn]
   exact ⟨h'.1,rfl,h'.2.1⟩
  | none =>
   rw [hcn] at h'
   cases hw:Region.wanted o (yielded ops a.tmps) with
   | false =>
    simp only [hw,Bool.false_eq_true,if_false] at h'
    refine step undef h' ?_
    rw [hcn]
    exact .inl ⟨hw,rfl⟩
   | true =>
    simp only [hw,if_true] at h'
    rcases QE (C:=C) h'.1 hT h'.2 with ⟨v,hv⟩|hv
    ·refine step v (hv (fun _ _=>0) 0).2 ?_
     rw [hcn]
     exact .inr ⟨hw,h'.1,.inl fun τ d=>(hv τ d).1⟩
    ·refine step undef (hv (fun _ _=>0) 0).2 ?_
     rw [hcn]
     exact .inr ⟨hw,h'.1,.inr ⟨fun τ d=>(hv τ d).1,rfl⟩⟩
end
section
variable {P:Program} {Post:Value→World→Prop} {C:Ctx} {x:World} {b:Frame} {a₀ aE:Act} {kk:List Item} {cs:List Frame} {ops:Array Oper} {cn:Nat→Option Nat} {cv:Nat→Value} {W:Nat→World→Prop} {K:Nat}
structure AtG (P:Program) (Post:Value→World→Prop) (C:Ctx) (cs:List Frame) (ops:Array Oper) (cn:Nat→Option Nat) (cv:Nat→Value) (W:Nat→World→Prop) (a₀ aE:Act) (k:Nat) (y:World) (i:Nat) (o:Oper) (aj:Act) (v:Value):Prop where
 before:Bet ((ops.toList.take i).map (·.dst)) a₀ aj
 behind:Bet ((ops.toList.drop (i + 1)).map (·.dst)) (aj.put o.dst v) aE
 does:match cn i with
  | some n=>Region.wanted o (yielded ops aj.tmps)=true∧v=cv n∧(n=k→∃ f args,(∀ w,(execOp aj.eval o).run P w=.ok (.enter f args) w)∧(∀ w,(execOp aj.eval o).events P w #[] = #[]) ∧
   ∀ c,(∀ y',W (k + 1) y'→JG P Post C (G (c.finish (cv n)) cs) y')→JG P Post C (G (Frame.enter P f args .normal) (c::cs)) y)
  | none=>(Region.wanted o (yielded ops aj.tmps)=false∧v=undef)∨(Region.wanted o (yielded ops aj.tmps)=true∧mild F00 o.op=true∧((∀ τ d,(execOp aj.eval o).run P (under y τ d)=.ok (.value v) (under y τ d))∨((∀ τ d,(execOp aj.eval o).run P (under y τ d)=.ok .skip (under y τ d))∧v=undef)))
theorem AtG.next {k i:Nat} {y:World} {o:Oper} {aj a:Act} {v:Value} {L:Array Bool} (hok:Uf ops cn K) (ho:ops[i]? = some o) (h:AtG P Post C cs ops cn cv W a₀ aE k y i o aj v) (hA:Agr ops a₀ aE L a) (hi:i < L.size) :
 Agr ops a₀ aE (L.setIfInBounds i true) (a.put o.dst v):=by
 have hget:∀ j,(L.setIfInBounds i true).getD j false=true→L.getD j false=true∨j=i:=fun j hj=>by
  by_cases e:i=j
  ·exact .inr e.symm
  ·rw [getD_set_ne false e] at hj;exact .inl hj
 have hself:(L.setIfInBounds i true).getD i false=true:=by simp [hi]
 refine ⟨by cases o.dst<;>exact hA.defers,by cases o.dst<;>simp [Act.put,hA.size],fun j t hj ht=>?_,fun t ht=>?_⟩
 ·by_cases e:XK ops i=some t
  ·have hd:o.dst=some t:=by simpa [XK,ho] using e
   rw [hd,Zh,hA.size]
   have h1:some t ∉ (ops.toList.drop (i + 1)).map (·.dst):=fun hm=>by
    obtain ⟨j',o',hj',hd'⟩:=Ym hm
    rw [List.getElem?_drop] at hj'
    have:=hok.once i o t ho hd (i + 1 + j') (by simp [XK,show ops[i + 1 + j']? = some o' by simpa using hj',hd'])
    omega
   have h2:=h.behind.same t h1
   rw [hd,Zh] at h2
   rw [h2,h.before.size]
  ·have hj':L.getD j false=true:=(hget j hj).resolve_right fun e'=>e (e' ▸ ht)
   have hne:∀ d,o.dst=some d→d≠t:=fun d hd e'=>e (by simp [XK,ho,hd,e'])
   rw [← hA.done j t hj' ht]
   cases hd:o.dst with
   | none=>rfl
   | some d=>simp only [Act.put];rw [Array.getElem?_setIfInBounds_ne (hne d hd)]
 ·have hne:∀ d,o.dst=some d→d≠t:=fun d hd e'=>ht i hself (by simp [XK,ho,hd,e'])
  rw [← hA.rest t fun j hj=>ht j (getD_set_true hj)]
  cases hd:o.dst with
  | none=>rfl
  | some d=>simp only [Act.put];rw [Array.getElem?_setIfInBounds_ne (hne d hd)]
theorem AtG.same {k i:Nat} {y:World} {o:Oper} {aj a:Act} {v:Value} {L:Array Bool} (hok:Uf ops cn K) (ho:ops[i]? = some o) (h:AtG P Post C cs ops cn cv W a₀ aE k y i o aj v) (hA:Agr ops a₀ aE L a)
 (hr:i∈Region.ready .any ops L):execOp a.eval o=execOp aj.eval o∧Region.wanted o (yielded ops a.tmps)=Region.wanted o (yielded ops aj.tmps):=by
 obtain ⟨_,o',ho',hall⟩:=mem_ready.1 hr
 obtain rfl:o=o':=Option.some.inj (ho.symm.trans ho')
 have key:∀ t,(∀ j,XK ops j=some t→j < i∧X2 o j=true)→a.tmps[t]? = aj.tmps[t]?:=fun t hlk=>by
  by_cases e:∃ j,XK ops j=some t
  ·obtain ⟨j,hj⟩:=e
   obtain ⟨hji,hw⟩:=hlk j hj
   obtain ⟨e,he,hb⟩:=Array.any_eq_true'.1 hw
   simp only [Bool.and_eq_true,beq_iff_eq] at hb
   have hL:L.getD j false=true:=by have:=hall e he hb.1;rwa [hb.2] at this
   rw [hA.done j t hL hj]
   obtain ⟨oj,hoj,hdj⟩:∃ oj,ops[j]? = some oj∧oj.dst=some t:=by
    unfold XK at hj
    cases hx:ops[j]? with
    | none=>rw [hx] at hj;cases hj
    | some oj=>rw [hx] at hj;exact ⟨oj,rfl,hj⟩
   have h1:some t ∉ (ops.toList.drop (i + 1)).map (·.dst):=fun hm=>by
    obtain ⟨j',o',hj',hd'⟩:=Ym hm
    rw [List.getElem?_drop] at hj'
    have:=hok.once j oj t hoj hdj (i + 1 + j') (by simp [XK,show ops[i + 1 + j']? = some o' by simpa using hj',hd'])
    omega
   rw [h.behind.same t h1]
   have hne:∀ d,o.dst=some d→d≠t:=fun d hd e'=>by
    have:=hok.once j oj t hoj hdj i (by simp [XK,ho,hd,e'])
    omega
   cases hd:o.dst with
   | none=>rfl
   | some d=>simp only [Act.put];rw [Array.getElem?_setIfInBounds_ne (hne d hd)]
  ·rw [hA.rest t fun j _ hj=>e ⟨j,hj⟩]
   refine (h.before.same t fun hm=>?_).symm
   obtain ⟨j',o',hj',hd'⟩:=Ym hm
   have hl:ops[j']? = some o':=by
    rw [List.getElem?_take] at hj'
    split at hj'
    ·simpa using hj'
    ·cases hj'
   exact e ⟨j',by simp [XK,hl,hd']⟩
 refine ⟨execOp_congr o (hok.sel i o ho) fun z hz=>?_,?_⟩
 ·cases z with
  | tmp t=>simp only [Act.eval,Array.getD_eq_getD_getElem?,key t (hok.looks i o ho t hz)]
  | _=>rfl
 ·unfold Region.wanted
  cases hg:o.guard with
  | none=>rfl
  | some gb =>
   obtain ⟨g,bb⟩:=gb
   obtain ⟨h1,h2⟩:=hok.guard i o ho g bb hg
   have hy:yielded ops a.tmps g=yielded ops aj.tmps g:=by
    unfold yielded
    cases ht:(ops[g]?).bind (·.dst) with
    | none=>rfl
    | some t =>
     have hk:=key t fun j hj=>by
      obtain ⟨og,hog,hdg⟩:∃ og,ops[g]? = some og∧og.dst=some t:=by
       cases hx:ops[g]? with
       | none=>rw [hx] at ht;cases ht
       | some og=>rw [hx] at ht;exact ⟨og,rfl,ht⟩
      have:=hok.once g og t hog hdg j hj
      subst this
      exact ⟨h1,h2⟩
     show (match a.tmps[t]? with|some (.bool b)=>some b|_=>none)=(match aj.tmps[t]? with|some (.bool b)=>some b|_=>none)
     rw [hk]
   simp only [hy]
theorem JG.anyCG (hok:Uf ops cn K) (hk:b.kind≠.early) (hAt:∀ k,k≤K→∀ y,W k y→∀ w,X0 C.prot y w→Bet (ops.toList.map (·.dst)) a₀ aE∧∀ (i:Nat) (o:Oper),ops[i]? = some o→∃ aj v,AtG P Post C cs ops cn cv W a₀ aE k y i o aj v)
 (hend:∀ y,W K y→JG P Post C (G (b.at aE (.inRegion ops []::kk)) cs) y) :
 ∀ (f t:Nat) (L:Array Bool) (U:List Nat) (a:Act) (k:Nat) (y:World),W k y→k≤K→L.size=ops.size→U.length=f→U.Nodup→(∀ i,i∈U ↔ i < ops.size∧L.getD i false=false)→(∀ i n,i < ops.size→cn i=some n→(L.getD i false=true ↔ n < k))→(∀ m om,ops[m]? = some om→L.getD m false=true→∀ j,X2 om j=true→L.getD j false=true)→Agr ops a₀ aE L a →
  JG P Post C (G (b.at a (.inRegion ops (Region.linearise.go .any ops f t L [])::kk)) cs) y:=by
 intro f
 induction f with
 | zero =>
  intro t L U a k y hW hkK hLs hU _ hmem hcn _ hA w hT
  have hall:∀ i,i < ops.size→L.getD i false=true:=fun i hi=>by
   have:U = []:=List.length_eq_zero_iff.1 hU
   rw [this] at hmem
   have:=(hmem i).2
   cases h:L.getD i false with
   | true=>rfl
   | false=>exact absurd (this ⟨hi,h⟩) (by simp)
  have hkk:k=K:=by
   rcases Nat.lt_or_ge k K with h|h
   ·obtain ⟨j,hj,hc⟩:=hok.all k h
    have:=(hcn j k hj hc).1 (hall j hj)
    omega
   ·omega
  subst hkk
  obtain ⟨hB,_⟩:=hAt k (Nat.le_refl _) y hW w hT
  have ha:a=aE:=by
   have e1:a.tmps=aE.tmps:=by
    apply Array.ext_getElem?
    intro t
    by_cases e:∃ j,XK ops j=some t
    ·obtain ⟨j,hj⟩:=e
     exact hA.done j t (hall j (Zc hj)) hj
    ·rw [hA.rest t fun j _ hj=>e ⟨j,hj⟩]
     refine (hB.same t fun hm=>?_).symm
     obtain ⟨j',o',hj',hd'⟩:=Ym hm
     exact e ⟨j',by simp [XK,show ops[j']? = some o' by simpa using hj',hd']⟩
   have e2:a.defers=aE.defers:=hA.defers.trans hB.defers.symm
   cases a;cases aE;simp_all
  subst ha
  exact hend y hW w hT
 | succ f ih =>
  intro t L U a k y hW hkK hLs hU hnd hmem hcn hcl hA w hT
  obtain ⟨_,hget⟩:=hAt k hkK y hW w hT
  have hne:Region.ready .any ops L≠[]:=fun h0=>by
   obtain ⟨i,hi,hmin⟩:∃ i,i∈U∧∀ j,j∈U→i≤j:=by
    have hex:∃ i,i∈U:=by
     cases U with
     | nil=>simp at hU
     | cons u U=>exact ⟨u,by simp⟩
    have hmin:∀ m,m∈U→∃ i,i∈U∧∀ j,j∈U→i≤j:=fun m=>by
     induction m using Nat.strongRecOn with
     | _ m ihm =>
      intro hm
      by_cases e:∃ j,j∈U∧j < m
      ·obtain ⟨j,hj,hlt⟩:=e
       exact ihm j hlt hj
      ·exact ⟨m,hm,fun j hj=>Nat.not_lt.1 fun hlt=>e ⟨j,hj,hlt⟩⟩
    obtain ⟨m,hm⟩:=hex
    exact hmin m hm
   obtain ⟨hil,hLi⟩:=(hmem i).1 hi
   obtain ⟨o,ho⟩:∃ o,ops[i]? = some o:=⟨_,Array.getElem?_eq_getElem hil⟩
   have:i∈Region.ready .any ops L:=mem_ready.2 ⟨getD_in (by omega) hLi,o,ho,fun e he hb=>by
    have hlt:=hok.less i o ho e he hb
    cases h:L.getD e.on false with
    | true=>rfl
    | false=>have:=hmin e.on ((hmem e.on).2 ⟨by omega,h⟩);omega⟩
   rw [h0] at this
   cases this
  simp only [Region.linearise.go]
  change J P Post C (G (b.at a (.inRegion ops (match (Region.ready .any ops L)[t % (Region.ready .any ops L).length]? with
   | some i=>Region.linearise.go .any ops f (t / (Region.ready .any ops L).length) (L.setIfInBounds i true) [i]
   | none=>[].reverse)::kk)) cs) w
  cases hi:(Region.ready .any ops L)[t % (Region.ready .any ops L).length]? with
  | none =>
   exfalso
   have hlt:t % (Region.ready .any ops L).length < (Region.ready .any ops L).length:=Nat.mod_lt _ (List.length_pos_iff.2 hne)
   rw [List.getElem?_eq_getElem hlt] at hi
   cases hi
  | some i =>
   simp only []
   rw [linearise_go_acc,List.reverse_singleton,List.singleton_append]
   have him:i∈Region.ready .any ops L:=List.mem_of_getElem? hi
   obtain ⟨hun,o,ho,hall⟩:=mem_ready.1 him
   have hil:i < ops.size:=(Array.getElem?_eq_some_iff.1 ho).1
   obtain ⟨aj,v,hat⟩:=hget i o ho
   obtain ⟨hex,hwx⟩:=hat.same hok ho hA him
   have hA':=hat.next hok ho hA (by omega)
   have hUi:i∈U:=(hmem i).2 ⟨hil,getD_both hun⟩
   have hU':(U.erase i).length=f:=by rw [List.length_erase_of_mem hUi,hU];rfl
   have hmem':∀ j,j∈U.erase i ↔ j < ops.size∧(L.setIfInBounds i true).getD j false=false:=fun j=>by
    rw [List.Nodup.mem_erase_iff hnd,hmem]
    by_cases e:i=j
    ·subst e
     simp [show i < L.size by omega]
    ·rw [getD_set_ne false e]
     exact ⟨fun h=>h.2,fun h=>⟨fun e'=>e e'.symm,h⟩⟩
   have hdone:∀ j,X2 o j=true→L.getD j false=true:=fun j hw=>by
    obtain ⟨e,he,hb⟩:=Array.any_eq_true'.1 hw
    simp only [Bool.and_eq_true,beq_iff_eq] at hb
    have:=hall e he hb.1;rwa [hb.2] at this
   have hcl':∀ m om,ops[m]? = some om→(L.setIfInBounds i true).getD m false=true→∀ j,X2 om j=true→(L.setIfInBounds i true).getD j false=true:=fun m om hm hL j hw=>by
    have hij:i≠j:=fun e=>by
     subst e
     by_cases e2:i=m
     ·subst e2
      obtain rfl:o=om:=by rw [ho] at hm;exact Option.some.inj hm
      have:=hdone i hw
      rw [getD_both hun] at this;cases this
     ·rw [getD_set_ne false e2] at hL
      have:=hcl m om hm hL i hw
      rw [getD_both hun] at this;cases this
    rw [getD_set_ne false hij]
    by_cases e2:i=m
    ·subst e2
     obtain rfl:o=om:=by rw [ho] at hm;exact Option.some.inj hm
     exact hdone j hw
    ·rw [getD_set_ne false e2] at hL
     exact hcl m om hm hL j hw
   cases hc:cn i with
   | none =>
    have hd:=hat.does
    rw [hc] at hd
    have hcn':∀ j n,j < ops.size→cn j=some n→((L.setIfInBounds i true).getD j false=true ↔ n < k):=fun j n hj hcj=>by
     have hij:i≠j:=fun e=>by subst e;rw [hc] at hcj;cases hcj
     rw [getD_set_ne false hij];exact hcn j n hj hcj
    rcases hd with ⟨hw,rfl⟩|⟨hw,hml,hd⟩
    ·exact JG.unwanted ho (by rw [hwx];exact hw) (ih _ _ _ _ k y hW hkK (by simp [hLs]) hU' (hnd.erase i) hmem' hcn' hcl' hA') w hT
    ·refine JG.op (F:=F00) Q7 (fun h=>by cases h) hml ho (by rw [hwx];exact hw) hk (fun K' E hK hE τ d=>?_) w hT
     rw [hex]
     rcases hd with hd|⟨hd,rfl⟩
     ·rw [hd τ d,uponE_value]
      exact hK _ _ (JG.tap (ih _ _ _ _ k y hW hkK (by simp [hLs]) hU' (hnd.erase i) hmem' hcn' hcl' hA'))
     ·rw [hd τ d,uponE_skip]
      exact hK _ _ (JG.tap (ih _ _ _ _ k y hW hkK (by simp [hLs]) hU' (hnd.erase i) hmem' hcn' hcl' hA'))
   | some n =>
    have hd:=hat.does
    rw [hc] at hd
    obtain ⟨hwn,rfl,hd⟩:=hd
    have hnk:n=k:=by
     have h1:¬ n < k:=fun h=>by
      have:=(hcn i n hil hc).2 h
      rw [getD_both hun] at this
      cases this
     cases n with
     | zero=>omega
     | succ m =>
      obtain ⟨j,hj,hw⟩:=hok.chain i o m ho hc
      have hL:L.getD j false=true:=by
       rcases hw with hw|⟨q,oq,hq,hw1,hw2⟩
       ·exact hdone j hw
       ·exact hcl q oq hq (hdone q hw1) j hw2
      have hjl:j < ops.size:=by
       rcases Nat.lt_or_ge j ops.size with h|h
       ·exact h
       ·rw [Array.getD_eq_getD_getElem?,Array.getElem?_eq_none (by omega)] at hL;cases hL
      have:=(hcn j m hjl hj).1 hL
      omega
    subst hnk
    have hnK:=hok.few i n hil hc
    obtain ⟨g,args,h1,h2,h3⟩:=hd rfl
    have hcn':∀ j m,j < ops.size→cn j=some m→((L.setIfInBounds i true).getD j false=true ↔ m < n + 1):=fun j m hj hcj=>by
     by_cases e:i=j
     ·subst e
      rw [hc] at hcj
      obtain rfl:=Option.some.inj hcj
      simp [show i < L.size by omega]
     ·rw [getD_set_ne false e,hcn j m hj hcj]
      have hmn:m≠n:=fun e'=>e (hok.uniq i j n hil hj hc (e' ▸ hcj))
      omega
    refine JG.call (f:=g) (args:=args) ho (by rw [hwx];exact hwn) hk (fun w=>by rw [hex];exact h1 w) (fun w=>by rw [hex];exact h2 w) (h3 _ fun y' hy'=>?_) w hT
    rw [Frame.finish_at,ho]
    exact ih _ _ _ _ (n + 1) y' hy' (by omega) (by simp [hLs]) hU' (hnd.erase i) hmem' hcn' hcl' hA'
theorem JG.drawCallsG {id:Nat} {l:List Oper} {a:Act} (cn:Nat→Option Nat) (cv:Nat→Value) (W:Nat→World→Prop) (K:Nat) (hm:P.follows .mixedOrders=true) (hB:Xax l.toArray cn K=true) (hk:b.kind≠.early) (h0:W 0 x)
 (h:∃ aE,(∀ k,k≤K→∀ y,W k y→XG P Post C cs l.toArray cn cv W k y (fun a'=>a'=aE) 0 l a)∧∀ y,W K y→JG P Post C (G (b.at aE kk) cs) y):JG P Post C (G (b.at a (.code (.region id l.toArray true)::kk)) cs) x:=by
 obtain ⟨aE,hp,hend⟩:=h
 have hok:=Xd1 hB
 refine JG.draw fun t=>?_
 simp only [Region.schedule,hm,Bool.true_or,if_true,Region.linearise]
 refine JG.anyCG (a₀:=a) (aE:=aE) (W:=W) (cv:=cv) hok hk (fun k hkK y hy w hT=>?_) (fun y hy=>JG.done (hend y hy)) l.toArray.size t (Array.replicate l.toArray.size false) (List.range l.toArray.size) a 0 x h0 (Nat.zero_le _) (by simp) (by simp) List.nodup_range
  (fun i=>⟨fun h=>⟨List.mem_range.1 h,getD_replicate_false _ _⟩,fun h=>List.mem_range.2 h.1⟩) (fun i n hi hc=>⟨fun h=>(by rw [getD_replicate_false] at h;cases h),fun h=>absurd h (Nat.not_lt_zero _)⟩) (fun m om _ h=>(by rw [getD_replicate_false] at h;cases h)) ⟨rfl,rfl,fun j t hj=>(by rw [getD_replicate_false] at hj;cases hj),fun t _=>rfl⟩
 obtain ⟨h1,h2⟩:=ZG.get (x:=x) (ops:=l.toArray) hT l 0 a (hp k hkK y hy).out
 refine ⟨by simpa using h1,fun i o ho=>?_⟩
 obtain ⟨aj,v,q1,q2,q3⟩:=h2 i o (by simpa using ho)
 rw [Nat.zero_add] at q3
 exact ⟨aj,v,by simpa using q1,by simpa using q2,q3⟩
end
end Go.Proofs.Ytdhnggjmegilkaa
