/- What a region that draws its order leans on where the calls' answers are not known ahead: the answers laid into slots, the tail. -/
import Derived.Test.YtdhnggjmegilkaaSTkL
import Derived.StillTail
import Derived.StillTailTactics
set_option linter.all false
set_option maxRecDepth 100000
set_option maxHeartbeats 16000000
namespace Go.Proofs.Ytdhnggjmegilkaa
open Go.Conc
def F00:Fns:={ fn:=fun _=>false,maps:=false,top:=fun _=>false,ext:=fun _=>false }
theorem Ub {P:Program}:Q7 P F00:=⟨fun f h=>(by cases h),fun f h=>(by cases h)⟩
section
variable {P:Program} {Post:Value→World→Prop} {C:Ctx} {x:World} {b:Frame} {a:Act} {k:List Item} {cs:List Frame} {ops:Array Oper}
theorem QF {o:Oper} {w:World} {Kf:(Nat→Question→Nat)→Nat→Act→Prop} (hm:mild F00 o.op=true) (hT:X6 C.prot x w) (H:∀ τ d,o.still P a (under x τ d) (Kf τ d)) :
 (∃ v,∀ τ d,(execOp a.eval o).run P (under x τ d)=.ok (.value v) (under x τ d)∧Kf τ d (a.put o.dst v))∨(∀ τ d,(execOp a.eval o).run P (under x τ d)=.ok .skip (under x τ d)∧Kf τ d (a.put o.dst undef)):=by
 have hs:=QO (P:=P) (S:=C.prot) (Ub (P:=P)) (fun h=>by cases h) (ρ:=a.eval) (fun f=>rfl) hm;obtain ⟨n,f,hb|⟨r,hf,hr,evs,he,hev⟩⟩:=hs x (w.at 0) (hT.mvr w.tape 0)
 ·exfalso
  obtain ⟨hh,y,e,hbad⟩:=hb (fun j _=>f j) 0 (fun j _ _=>by simp)
  have:=H (fun j _=>f j) 0
  unfold Oper.still at this;rw [e] at this;exact this
 ·have h0:=H (fun j _=>f j) 0
  have hr0:=hr (fun j _=>f j) 0 (fun j _ _=>by simp);unfold Oper.still at h0;rw [hr0] at h0;generalize (execOp a.eval o).run P (w.at 0)=rw0 at hf;cases hf with
  | panic _ _ _=>exact h0.elim
  | @ok a' _ y _ hN hT₁ ht hsz =>
   obtain ⟨rfl,hN⟩:=hN;have hall:n=0→under y (fun j _=>f j) 0=under x (fun j _=>f j) 0→∀ τ d,(execOp a.eval o).run P (under x τ d)=.ok a' (under x τ d):=fun hn hy τ d=>by
    subst hn;rw [hr τ d (fun j h _=>absurd h (by omega))]
    have:under y τ d=under x τ d:=by
     have:=congrArg (fun z=>under z τ d) hy
     exact this
    simp only [Result.tap,Nat.add_zero];rw [this]
   rcases hN with ⟨v,rfl⟩|rfl|⟨_,_,_,hfn⟩
   ·simp only [Result.tap,Oper.stillUpon] at h0
    have hn:n=0:=by
     have:=congrArg World.drawn h0.1
     simpa [under] using this
    have hA:=hall hn (by have:=h0.1;rw [hn] at this;exact this);refine .inl ⟨v,fun τ d=>⟨hA τ d,?_⟩⟩;have h1:=H τ d;unfold Oper.still at h1;rw [hA τ d] at h1;exact h1.2
   ·simp only [Result.tap,Oper.stillUpon] at h0
    have hn:n=0:=by
     have:=congrArg World.drawn h0.1
     simpa [under] using this
    have hA:=hall hn (by have:=h0.1;rw [hn] at this;exact this);refine .inr fun τ d=>⟨hA τ d,?_⟩
    have h1:=H τ d;unfold Oper.still at h1;rw [hA τ d] at h1;exact h1.2
   ·cases hfn
theorem UD {md:Region.Mode}:∀ (g k t:Nat) (listed:Array Bool),Region.seqB md ops g k listed=true→Region.linearise.go md ops g t listed [] = List.range' k g
 | 0,k,t,listed,h=>by simp [Region.linearise.go]
 | g + 1,k,t,listed,h=>by
  simp only [Region.seqB,Bool.and_eq_true,decide_eq_true_eq] at h;simp only [Region.linearise.go]
  change (match (Region.ready md ops listed)[t % (Region.ready md ops listed).length]? with
   | some i=>Region.linearise.go md ops g (t / (Region.ready md ops listed).length) (listed.setIfInBounds i true) [i]
   | none=>[].reverse)=_
  rw [h.1];simp only [List.length_singleton,Nat.mod_one,List.getElem?_cons_zero];rw [linearise_go_acc,UD g (k + 1) _ _ h.2]
  rfl
theorem JG.anyL {n g:Nat} {Q:Act→Prop} (hm:∀ i o,i < n→ops[i]? = some o→mild F00 o.op=true) (hk:b.kind≠.early)
 (hQ:∀ a',Q a'→JG P Post C (G (b.at a' (.inRegion ops (List.range' n g)::k)) cs) x) :
 ∀ (f t:Nat) (listed:Array Bool) (a:Act),(∀ τ d,wpAnyL P .any ops (under x τ d) n (fun l a'=>Region.seqB .any ops g n l=true∧Q a') f listed a) →
  JG P Post C (G (b.at a (.inRegion ops (Region.linearise.go .any ops (f + g) t listed [])::k)) cs) x:=by
 intro f
 induction f with
 | zero =>
  intro t listed a h;obtain ⟨h1,h2⟩:=h x.tape x.drawn;rw [Nat.zero_add,UD g n t listed h1];exact hQ a h2
 | succ f ih =>
  intro t listed a h;have hne:Region.ready .any ops listed≠[]:=(h x.tape x.drawn).1;rw [show f + 1 + g=(f + g) + 1 by omega];simp only [Region.linearise.go]
  change JG P Post C (G (b.at a (.inRegion ops (match (Region.ready .any ops listed)[t % (Region.ready .any ops listed).length]? with
   | some i=>Region.linearise.go .any ops (f + g) (t / (Region.ready .any ops listed).length) (listed.setIfInBounds i true) [i]
   | none=>[].reverse)::k)) cs) x
  cases hi:(Region.ready .any ops listed)[t % (Region.ready .any ops listed).length]? with
  | none =>
   exfalso
   have hlt:t % (Region.ready .any ops listed).length < (Region.ready .any ops listed).length:=Nat.mod_lt _ (List.length_pos_iff.2 hne);rw [List.getElem?_eq_getElem hlt] at hi;cases hi
  | some i =>
   simp only [];rw [linearise_go_acc,List.reverse_singleton,List.singleton_append];have him:i∈Region.ready .any ops listed:=List.mem_of_getElem? hi;have hin:i < n:=((h x.tape x.drawn).2 i him).1;obtain ⟨_,o,ho,_⟩:=mem_ready.1 him;have hst:∀ τ d,stOp P ops (under x τ d) i (wpAnyL P .any ops (under x τ d) n (fun l a'=>Region.seqB .any ops g n l=true∧Q a') f (listed.setIfInBounds i true)) a:=fun τ d=>((h τ d).2 i him).2;cases hw:Region.wanted o (yielded ops a.tmps) with
   | false =>
    refine JG.unwanted ho hw (ih _ _ _ fun τ d=>?_)
    have:=hst τ d
    unfold stOp at this;simp only [ho,hw] at this;exact this
   | true =>
    intro w hT;have H:∀ τ d,o.still P a (under x τ d) (wpAnyL P .any ops (under x τ d) n (fun l a'=>Region.seqB .any ops g n l=true∧Q a') f (listed.setIfInBounds i true)):=fun τ d=>by
     have:=hst τ d
     unfold stOp at this;simp only [ho,hw,if_true] at this;exact this
    refine JG.op (F:=F00) Ub (fun h=>by cases h) (hm i o hin ho) ho hw hk (fun K E hK hE τ d=>?_) w hT;rcases QF (hm i o hin ho) hT H with ⟨v,hv⟩|hv
    ·rw [(hv τ d).1,uponE_value]
     exact hK _ _ (JG.tap (ih _ _ _ fun τ d=>(hv τ d).2))
    ·rw [(hv τ d).1,uponE_skip]
     exact hK _ _ (JG.tap (ih _ _ _ fun τ d=>(hv τ d).2))
theorem JG.drawTail {id:Nat} {l:List Oper} (n:Nat) (hm:P.follows .mixedOrders=true) (hB:Region.lexTailB .any l.toArray n=true) (hmild:((l.take n).all fun o=>mild F00 o.op)=true) (hk:b.kind≠.early)
 (h:∀ τ d,wpStill P l.toArray (under x τ d) (fun a'=>JG P Post C (G (b.at a' (.inRegion l.toArray (List.range' n (l.length - n))::k)) cs) x) (l.take n) a):JG P Post C (G (b.at a (.code (.region id l.toArray true)::k)) cs) x:=by
 refine JG.draw fun t=>?_;simp only [Region.schedule,hm,Bool.true_or,if_true,Region.linearise];simp only [Region.lexTailB,Bool.and_eq_true,decide_eq_true_eq] at hB;obtain ⟨⟨⟨⟨hsel,hn⟩,hs⟩,hc⟩,hlex⟩:=hB;have hn':n < l.length:=by simpa using hn
 have htl:(l.take n).length=n:=by simp;omega
 have inv0:HeadInv .any l.toArray n (Array.replicate l.toArray.size false) :=
  ⟨by simp,fun j oj _ hl=>(by rw [getD_replicate_false] at hl;cases hl),fun t _ ht=>getD_in (by simpa using ht) (getD_replicate_false _ _)⟩
 have H:=fun τ d=>wpAnyL_lex (md:=.any) (g:=l.toArray.size - n) hsel hs hc hn (l.take n) 0 _ a (fun j hj=>by
  have hj':j < n:=by rw [htl] at hj;exact hj
  simp [hj']) (by simpa using htl) inv0 (by rw [htl];exact hlex) (h τ d)
 have hmild':∀ i o,i < n→l.toArray[i]? = some o→mild F00 o.op=true:=fun i o hi ho=>by
  refine List.all_eq_true.1 hmild o ?_
  have:(l.take n)[i]? = some o:=by rw [List.getElem?_take_of_lt hi];simpa using ho
  exact List.mem_of_getElem? this
 have R:=JG.anyL (Q:=fun a'=>JG P Post C (G (b.at a' (.inRegion l.toArray (List.range' n (l.length - n))::k)) cs) x) (g:=l.toArray.size - n) hmild' hk (fun a' h'=>by simpa using h') n t (Array.replicate l.toArray.size false) a (fun τ d=>by have:=H τ d;rw [htl] at this;exact this);rw [show n + (l.toArray.size - n)=l.toArray.size by simp;omega] at R;exact R
end
def Xfc:Op→Bool
 | .select _ _=>false
 | _=>true
theorem Vm {o:Op} (h:Xfc o=true) (cs:Array SelectCase) (b:Bool):o≠.select cs b:=by rintro rfl;cases h
def XY (o:Oper) (j:Nat):Bool:=o.after.any fun e=>Region.binds .any e && e.on == j
def XJ (ops:Array Oper) (j:Nat):Option Tmp:=(ops[j]?).bind (·.dst)
structure Xdv (ops:Array Oper) (cn:Nat→Option Nat) (K:Nat):Prop where
 guard:∀ (i:Nat) (o:Oper),ops[i]? = some o→o.guard=none
 sel:∀ (i:Nat) (o:Oper),ops[i]? = some o→∀ cs b,o.op≠.select cs b
 less:∀ (i:Nat) (o:Oper),ops[i]? = some o→∀ e∈o.after,Region.binds .any e=true→e.on < i
 looks:∀ (i:Nat) (o:Oper),ops[i]? = some o→∀ t,.tmp t∈o.op.operands→∀ j,XJ ops j=some t→j < i∧XY o j=true
 once:∀ (i:Nat) (o:Oper) (d:Tmp),ops[i]? = some o→o.dst=some d→∀ j,XJ ops j=some d→j=i
 mild:∀ (i:Nat) (o:Oper),ops[i]? = some o→cn i=none→mild F00 o.op=true
 few:∀ i n,i < ops.size→cn i=some n→n < K
 chain:∀ (i:Nat) (o:Oper) (n:Nat),ops[i]? = some o→cn i=some (n + 1)→∃ j,cn j=some n∧XY o j=true
 all:∀ n,n < K→∃ j,j < ops.size∧cn j=some n
 uniq:∀ i j n,i < ops.size→j < ops.size→cn i=some n→cn j=some n→i=j
theorem ZE {ops:Array Oper} {j:Nat} {t:Tmp} (h:XJ ops j=some t):j < ops.size:=by
 unfold XJ at h;rcases Nat.lt_or_ge j ops.size with h'|h'
 ·exact h'
 ·rw [Array.getElem?_eq_none h'] at h;cases h
section
variable (P:Program) (Post:Value→World→Prop) (C:Ctx) (cs:List Frame) (cn:Nat→Option Nat) (cv:Nat→Value) (W:Nat→World→Prop)
def Vb (k:Nat) (y:World) (Q:Act→Prop):Nat→List Oper→Act→Prop
 | _,[],a=>Q a
 | i,o::l,a=>match cn i with
  | some n=>(n=k→∃ f args,(∀ w,(execOp a.eval o).run P w=.ok (.enter f args) w)∧(∀ w,(execOp a.eval o).events P w #[] = #[]) ∧
   ∀ c,(∀ y',W (k + 1) y'→JG P Post C (G (c.finish (cv n)) cs) y')→JG P Post C (G (Frame.enter P f args .normal) (c::cs)) y)∧Vb k y Q (i + 1) l (a.put o.dst (cv n))
  | none=>∀ τ d,o.still P a (under y τ d) (Vb k y Q (i + 1) l)
end
structure Bet (ds:List (Option Tmp)) (a b:Act):Prop where
 defers:b.defers=a.defers
 size:b.tmps.size=a.tmps.size
 same:∀ t,some t ∉ ds→b.tmps[t]? = a.tmps[t]?
theorem Bet.refl (a:Act):Bet [] a a:=⟨rfl,rfl,fun _ _=>rfl⟩
theorem Bet.put (a:Act) (d:Option Tmp) (v:Value):Bet [d] a (a.put d v):=by
 cases d with
 | none=>exact ⟨rfl,rfl,fun _ _=>rfl⟩
 | some d =>
  refine ⟨rfl,by simp [Act.put],fun t ht=>?_⟩;have hne:d≠t:=fun e=>ht (by simp [e]);simp only [Act.put];rw [Array.getElem?_setIfInBounds_ne hne]
theorem Bet.trans {l l':List (Option Tmp)} {a b c:Act} (h:Bet l a b) (k:Bet l' b c):Bet (l ++ l') a c :=
 ⟨k.defers.trans h.defers,k.size.trans h.size,fun t ht=>by
  have h1:some t ∉ l:=fun e=>ht (List.mem_append_left _ e);have h2:some t ∉ l':=fun e=>ht (List.mem_append_right _ e);rw [k.same t h2,h.same t h1]⟩
section
variable {P:Program} {Post:Value→World→Prop} {C:Ctx} {cs:List Frame} {cn:Nat→Option Nat} {cv:Nat→Value} {W:Nat→World→Prop}
theorem Vb.rd {k i:Nat} {y:World} {Q:Act→Prop} {o:Oper} {l:List Oper} {a:Act} (hc:cn i=none) (h:∀ K:Act→Prop,(∀ a',Vb P Post C cs cn cv W k y Q (i + 1) l a'→K a')→∀ τ d,o.still P a (under y τ d) K):Vb P Post C cs cn cv W k y Q i (o::l) a:=by
 unfold Vb;rw [hc];exact h _ (fun _ h=>h)
theorem Vb.cl {k i n:Nat} {y:World} {Q:Act→Prop} {o:Oper} {l:List Oper} {a:Act} (hc:cn i=some n)
 (h:n=k→∃ f args,(∀ w,(execOp a.eval o).run P w=.ok (.enter f args) w)∧(∀ w,(execOp a.eval o).events P w #[] = #[])∧∀ c,(∀ y',W (k + 1) y'→JG P Post C (G (c.finish (cv n)) cs) y')→JG P Post C (G (Frame.enter P f args .normal) (c::cs)) y)
 (h2:Vb P Post C cs cn cv W k y Q (i + 1) l (a.put o.dst (cv n))):Vb P Post C cs cn cv W k y Q i (o::l) a:=by
 unfold Vb;rw [hc];exact ⟨h,h2⟩
end
section
variable {P:Program} {Post:Value→World→Prop} {C:Ctx} {x:World} {b:Frame} {a₀ aE:Act} {kk:List Item} {cs:List Frame} {ops:Array Oper} {cn:Nat→Option Nat} {cv:Nat→Value} {W:Nat→World→Prop} {K:Nat}
structure Agr (ops:Array Oper) (a₀ aE:Act) (L:Array Bool) (a:Act):Prop where
 defers:a.defers=a₀.defers
 size:a.tmps.size=a₀.tmps.size
 done:∀ j t,L.getD j false=true→XJ ops j=some t→a.tmps[t]? = aE.tmps[t]?
 rest:∀ t,(∀ j,L.getD j false=true→XJ ops j≠some t)→a.tmps[t]? = a₀.tmps[t]?
structure At (P:Program) (Post:Value→World→Prop) (C:Ctx) (cs:List Frame) (ops:Array Oper) (cn:Nat→Option Nat) (cv:Nat→Value) (W:Nat→World→Prop) (a₀ aE:Act) (k:Nat) (y:World) (i:Nat) (o:Oper) (aj:Act) (v:Value):Prop where
 before:Bet ((ops.toList.take i).map (·.dst)) a₀ aj
 behind:Bet ((ops.toList.drop (i + 1)).map (·.dst)) (aj.put o.dst v) aE
 does:match cn i with
  | some n=>v=cv n∧(n=k→∃ f args,(∀ w,(execOp aj.eval o).run P w=.ok (.enter f args) w)∧(∀ w,(execOp aj.eval o).events P w #[] = #[]) ∧
   ∀ c,(∀ y',W (k + 1) y'→JG P Post C (G (c.finish (cv n)) cs) y')→JG P Post C (G (Frame.enter P f args .normal) (c::cs)) y)
  | none=>(∀ τ d,(execOp aj.eval o).run P (under y τ d)=.ok (.value v) (under y τ d))∨((∀ τ d,(execOp aj.eval o).run P (under y τ d)=.ok .skip (under y τ d))∧v=undef)
theorem Yz {l:List Oper} {t:Tmp} (h:some t∈l.map (·.dst)):∃ (j:Nat) (o:Oper),l[j]? = some o∧o.dst=some t:=by
 obtain ⟨o,ho,e⟩:=List.mem_map.1 h;obtain ⟨j,hj⟩:=List.getElem?_of_mem ho;exact ⟨j,o,hj,e⟩
theorem Zl {a:Act} {d:Tmp} {v:Value}:(a.put (some d) v).tmps[d]? = if d < a.tmps.size then some v else none:=by
 simp only [Act.put,Array.getElem?_setIfInBounds,if_true]
theorem At.next {k i:Nat} {y:World} {o:Oper} {aj a:Act} {v:Value} {L:Array Bool} (hok:Xdv ops cn K) (ho:ops[i]? = some o) (h:At P Post C cs ops cn cv W a₀ aE k y i o aj v) (hA:Agr ops a₀ aE L a) (hi:i < L.size) :
 Agr ops a₀ aE (L.setIfInBounds i true) (a.put o.dst v):=by
 have hget:∀ j,(L.setIfInBounds i true).getD j false=true→L.getD j false=true∨j=i:=fun j hj=>by
  by_cases e:i=j
  ·exact .inr e.symm
  ·rw [getD_set_ne false e] at hj;exact .inl hj
 have hself:(L.setIfInBounds i true).getD i false=true:=by simp [hi]
 refine ⟨by cases o.dst<;>exact hA.defers,by cases o.dst<;>simp [Act.put,hA.size],fun j t hj ht=>?_,fun t ht=>?_⟩
 ·by_cases e:XJ ops i=some t
  ·have hd:o.dst=some t:=by simpa [XJ,ho] using e
   rw [hd,Zl,hA.size];have h1:some t ∉ (ops.toList.drop (i + 1)).map (·.dst):=fun hm=>by
    obtain ⟨j',o',hj',hd'⟩:=Yz hm;rw [List.getElem?_drop] at hj'
    have:=hok.once i o t ho hd (i + 1 + j') (by simp [XJ,show ops[i + 1 + j']? = some o' by simpa using hj',hd'])
    omega
   have h2:=h.behind.same t h1;rw [hd,Zl] at h2;rw [h2,h.before.size]
  ·have hj':L.getD j false=true:=(hget j hj).resolve_right fun e'=>e (e' ▸ ht)
   have hne:∀ d,o.dst=some d→d≠t:=fun d hd e'=>e (by simp [XJ,ho,hd,e']);rw [← hA.done j t hj' ht];cases hd:o.dst with
   | none=>rfl
   | some d=>simp only [Act.put];rw [Array.getElem?_setIfInBounds_ne (hne d hd)]
 ·have hne:∀ d,o.dst=some d→d≠t:=fun d hd e'=>ht i hself (by simp [XJ,ho,hd,e'])
  rw [← hA.rest t fun j hj=>ht j (getD_set_true hj)];cases hd:o.dst with
  | none=>rfl
  | some d=>simp only [Act.put];rw [Array.getElem?_setIfInBounds_ne (hne d hd)]
theorem At.same {k i:Nat} {y:World} {o:Oper} {aj a:Act} {v:Value} {L:Array Bool} (hok:Xdv ops cn K) (ho:ops[i]? = some o) (h:At P Post C cs ops cn cv W a₀ aE k y i o aj v) (hA:Agr ops a₀ aE L a)
 (hr:i∈Region.ready .any ops L):execOp a.eval o=execOp aj.eval o:=by
 obtain ⟨_,o',ho',hall⟩:=mem_ready.1 hr;obtain rfl:o=o':=Option.some.inj (ho.symm.trans ho');refine execOp_congr o (hok.sel i o ho) fun z hz=>?_;cases z with
 | tmp t =>
  have key:a.tmps[t]? = aj.tmps[t]?:=by
   by_cases e:∃ j,XJ ops j=some t
   ·obtain ⟨j,hj⟩:=e
    obtain ⟨hji,hw⟩:=hok.looks i o ho t hz j hj;obtain ⟨e,he,hb⟩:=Array.any_eq_true'.1 hw;simp only [Bool.and_eq_true,beq_iff_eq] at hb;have hL:L.getD j false=true:=by have:=hall e he hb.1;rwa [hb.2] at this
    rw [hA.done j t hL hj];obtain ⟨oj,hoj,hdj⟩:∃ oj,ops[j]? = some oj∧oj.dst=some t:=by
     unfold XJ at hj;cases hx:ops[j]? with
     | none=>rw [hx] at hj;cases hj
     | some oj=>rw [hx] at hj;exact ⟨oj,rfl,hj⟩
    have h1:some t ∉ (ops.toList.drop (i + 1)).map (·.dst):=fun hm=>by
     obtain ⟨j',o',hj',hd'⟩:=Yz hm;rw [List.getElem?_drop] at hj'
     have:=hok.once j oj t hoj hdj (i + 1 + j') (by simp [XJ,show ops[i + 1 + j']? = some o' by simpa using hj',hd'])
     omega
    rw [h.behind.same t h1];have hne:∀ d,o.dst=some d→d≠t:=fun d hd e'=>by
     have:=hok.once j oj t hoj hdj i (by simp [XJ,ho,hd,e'])
     omega
    cases hd:o.dst with
    | none=>rfl
    | some d=>simp only [Act.put];rw [Array.getElem?_setIfInBounds_ne (hne d hd)]
   ·rw [hA.rest t fun j _ hj=>e ⟨j,hj⟩]
    refine (h.before.same t fun hm=>?_).symm;obtain ⟨j',o',hj',hd'⟩:=Yz hm;have hl:ops[j']? = some o':=by
     rw [List.getElem?_take] at hj'
     split at hj'
     ·simpa using hj'
     ·cases hj'
    exact e ⟨j',by simp [XJ,hl,hd']⟩
  simp only [Act.eval,Array.getD_eq_getD_getElem?,key]
 | _=>rfl
end
def Xdd (cv:Nat→Value) (k:Nat) (v:Value):Nat→Value:=fun n=>if n=k then v else cv n
theorem XQ {cv:Nat→Value} {k:Nat} {v:Value}:Xdd cv k v k=v:=if_pos rfl
theorem UM {cv:Nat→Value} {k n:Nat} {v:Value} (h:n≠k):Xdd cv k v n=cv n:=if_neg h
def XfH (cv:Nat→Value):Nat→List (Option Tmp)→Act→Act
 | _,[],a=>a
 | i,d::ds,a=>XfH cv (i + 1) ds (a.put d (cv i))
theorem Wn {cv cv':Nat→Value} {t:Tmp}:∀ (ds:List (Option Tmp)) (i:Nat) (a a':Act),a.tmps.size=a'.tmps.size→a.tmps[t]? = a'.tmps[t]?→(∀ m,ds[m]? = some (some t)→cv (i + m)=cv' (i + m))→(XfH cv i ds a).tmps[t]? = (XfH cv' i ds a').tmps[t]?
 | [],_,_,_,_,h,_=>h
 | d::ds,i,a,a',hs,h,hm=>by
  refine Wn ds (i + 1) _ _ ?_ ?_ fun m h1=>?_
  ·cases d<;>simp [Act.put,hs]
  ·cases d with
   | none=>exact h
   | some d =>
    by_cases e:d=t
    ·subst e
     rw [Zl,Zl,hs]
     have:=hm 0 (by simp)
     rw [Nat.add_zero] at this;rw [this]
    ·simp only [Act.put]
     rw [Array.getElem?_setIfInBounds_ne e,Array.getElem?_setIfInBounds_ne e];exact h
  ·have:=hm (m + 1) (by simpa using h1)
   rw [show i + (m + 1)=i + 1 + m by omega] at this;exact this
def XdG (ops hd:Array Oper) (cn:Nat→Option Nat) (ds:List (Option Tmp)):Bool :=
 ((List.range (ops.size - hd.size)).all fun i=>match ops[hd.size + i]? with
   | none=>false
   | some o=>(List.range hd.size).all fun j=>XY o j) &&
 Region.seqB .any ops (ops.size - hd.size) hd.size ((List.range ops.size).map fun j=>decide (j < hd.size)).toArray &&
 ((List.range ds.length).all fun m=>(ds[m]? == some none) || (List.range hd.size).any fun j=>cn j == some m && (some (XJ hd j) == ds[m]?))
section
variable {cn:Nat→Option Nat} {ops hd:Array Oper} {ds:List (Option Tmp)}
structure XeA (ops hd:Array Oper) (cn:Nat→Option Nat) (ds:List (Option Tmp)):Prop where
 waits:∀ (i:Nat) (o:Oper),hd.size≤i→ops[i]? = some o→∀ j,j < hd.size→XY o j=true
 seq:Region.seqB .any ops (ops.size - hd.size) hd.size ((List.range ops.size).map fun j=>decide (j < hd.size)).toArray=true
 slots:∀ (m:Nat) (t:Tmp),ds[m]? = some (some t)→∃ j,cn j=some m∧XJ hd j=some t
theorem XfN (h:XdG ops hd cn ds=true):XeA ops hd cn ds:=by
 simp only [XdG,Bool.and_eq_true] at h;obtain ⟨⟨h1,h2⟩,h3⟩:=h;refine ⟨fun i o hi ho j hj=>?_,h2,fun m t hm=>?_⟩
 ·have hi':=(Array.getElem?_eq_some_iff.1 ho).1
  have:=List.all_eq_true.1 h1 (i - hd.size) (List.mem_range.2 (by omega))
  rw [show hd.size + (i - hd.size)=i by omega,ho] at this;exact List.all_eq_true.1 this j (List.mem_range.2 hj)
 ·have hl:=(List.getElem?_eq_some_iff.1 hm).1
  have:=List.all_eq_true.1 h3 m (List.mem_range.2 hl)
  rw [hm] at this;simp only [Bool.or_eq_true] at this;rcases this with h|h
  ·simp at h
  ·obtain ⟨j,_,hj⟩:=List.any_eq_true.1 h
   simp only [Bool.and_eq_true,beq_iff_eq] at hj;exact ⟨j,hj.1,Option.some.inj hj.2⟩
