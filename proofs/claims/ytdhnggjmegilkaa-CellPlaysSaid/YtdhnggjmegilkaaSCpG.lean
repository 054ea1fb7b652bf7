/- The document's answer of a call of a cell, along a run's record. Conditions: the walker stands in the midst of that call. -/
import Derived.Test.YtdhnggjmegilkaaSWkP
import Derived.Test.YtdhnggjmegilkaaSRnX
import Derived.Test.YtdhnggjmegilkaaSPlD
import Derived.Test.YtdhnggjmegilkaaSPlC
import Derived.Test.YtdhnggjmegilkaaSCpO
import Derived.Test.YtdhnggjmegilkaaSWkO
import Derived.Test.YtdhnggjmegilkaaSCpJ
set_option linter.unusedSimpArgs false
set_option linter.unusedVariables false
set_option maxRecDepth 100000
set_option maxHeartbeats 16000000
namespace Go.Proofs.Ytdhnggjmegilkaa
open Go.RowKit
set_option maxRecDepth 100000
def Yc (L:List Xn) (names:List Nat) (c:Nat) (first:Int):Int:=match L.reverse.find? (fun a=>names.getD a.cell.toNat 0 == c) with
 | some a=>a.now
 | none=>first
theorem Wx {L:List Xn} {names:List Nat} {c:Nat} {first:Int} (h:∀ a,a∈L→names.getD a.cell.toNat 0≠c):Yc L names c first=first:=by
 unfold Yc
 rw [List.find?_eq_none.2 fun a ha=>by simpa using h a (List.mem_reverse.1 ha)]
theorem Xam {L:List Xn} {names:List Nat} {c p:Nat} {first:Int} {a:Xn} (hp:L[p]? = some a) (ha:names.getD a.cell.toNat 0=c) (h:∀ (q:Nat) (b:Xn),p + 1≤q→L[q]? = some b→names.getD b.cell.toNat 0≠c):Yc L names c first=a.now:=by
 have hl:=(LE' hp).1
 have he:L=L.take p ++ a::L.drop (p + 1):=by
  rw [← (LE' hp).2,List.getElem_cons_drop,List.take_append_drop]
 have hn:(L.drop (p + 1)).reverse.find? (fun a=>names.getD a.cell.toNat 0 == c)=none:=List.find?_eq_none.2 fun b hb=>by
  obtain ⟨i,hi⟩:=List.getElem?_of_mem (List.mem_reverse.1 hb)
  rw [List.getElem?_drop] at hi
  simpa using h _ b (by omega) hi
 unfold Yc
 rw [he,List.reverse_append,List.reverse_cons,List.append_assoc,List.find?_append,hn]
 simp only [Option.none_or,List.singleton_append]
 rw [List.find?_cons_of_pos (by simpa using ha)]
def Xgc (L:List Xn) (names:List Nat) (c:Nat) (n1 n2:Int) (pb:Nat) (w:World) (i:Value) (wr:World):Prop :=
 ∃ k:Nat,k≤L.length∧i=.int .i64 ((k:Int) - 1)∧Kept (fun _=>False) w wr∧Blk wr pb 51 #[.int .i64 n1,.int .i64 n2]∧∀ (q:Nat) (a:Xn),k≤q→L[q]? = some a→names.getD a.cell.toNat 0≠c
theorem XdK {K:Wk} {nc:Nat} (hK:K.OK nc) {gv:List Bool} {w:World} (hW:WAt K gv w) (hB:K.B≤w.heap.size) (hall:∀ (q:Nat) (a:Xn),K.L[q]? = some a→∃ m:Nat,m < K.names.length∧a.cell=(m:Nat)∧gv.getD m false=true) {c:Nat} (hc:c < nc) (first:Int) :
 Calls Try.prog 98 #[.pointer (some ⟨K.wb,0,none⟩),nmV (K.nm c),.int .i64 first] w (fun e w'=>e=.returned (.int .i64 (Yc K.L K.names c first))∧Kept (fun _=>False) w w'):=by
 obtain ⟨n1,n2,hnm⟩:∃ n1 n2,K.nm c=(n1,n2):=⟨_,_,rfl⟩
 rw [hnm]
 unfold nmV
 have c2:w.cell? ⟨K.wb,2,none⟩=some (.slice K.aL K.L.length K.cL):=Blk.cell hW.blk 2
 have hwb:=Blk.lt hW.blk
 have hsm:=hW.log.small
 replace hnm:=HD hnm
 replace hall:=HD hall
 have HW:=HD hW
 have HK:=HD hK
 have HB:=HD hB
 clear hW hK hB
 have hw1:IntKind.i64.wrap ((K.L.length:Int) - 1)=(K.L.length:Int) - 1:=by rw [IntKind.wrap_i64];omega
 go_enter Try.func98,Try.ntmps98
 go_upto_region 1 with (fail)
 have hp:Blk (w.alloc (.cells #[.int .i64 n1,.int .i64 n2] 51)) w.heap.size 51 #[.int .i64 n1,.int .i64 n2]:=Blk.new w _ _
 have hk:=(Kept.refl (fun _=>False) w).alloc (.cells #[.int .i64 n1,.int .i64 n2] 51)
 have c2':(w.alloc (.cells #[.int .i64 n1,.int .i64 n2] 51)).cell? ⟨K.wb,2,none⟩=some (.slice K.aL K.L.length K.cL):=(hk.cell (p:=⟨K.wb,2,none⟩) hwb id).trans c2
 have hwb':K.wb < (w.alloc (.cells #[.int .i64 n1,.int .i64 n2] 51)).heap.size:=by have:=hk.size;omega
 generalize w.alloc (.cells #[.int .i64 n1,.int .i64 n2] 51)=w1 at hp hk c2' hwb' ⊢
 generalize hpb:w.heap.size=pb at hp ⊢
 replace hpb:=HD hpb
 go_upto_region 2 with (fail)
 go_loopw [7] (fun i wr=>Xgc K.L K.names c n1 n2 pb w i wr) (fun i _=>(intOf i + 1).toNat)
 case atStart=>exact ⟨K.L.length,Nat.le_refl _,rfl,hk,hp,fun q a h1 h2=>by have:=(LE' h2).1;omega⟩
 case round =>
  clear hp hk c2' hwb' w1
  obtain ⟨k,hk,rfl,hkp,hp,hpre⟩:=hrel
  have hWr:=HW.out.kept HB.out hkp fun _ h=>h.elim
  have d2:wr.cell? ⟨K.wb,2,none⟩=some (.slice K.aL K.L.length K.cL):=Blk.cell hWr.blk 2
  have hwbr:=Blk.lt hWr.blk
  have p0:wr.cell? ⟨pb,0,none⟩=some (.int .i64 n1):=Blk.cell hp 0
  have p1:wr.cell? ⟨pb,1,none⟩=some (.int .i64 n2):=Blk.cell hp 1
  have hpl:=Blk.lt hp
  replace hkp:=HD hkp
  replace hp:=HD hp
  cases k with
  | zero =>
   have x0:decide (((0:Nat):Int) - 1 ≥ 0)=false:=by decide
   have hz:=Wx (L:=K.L) (names:=K.names) (c:=c) (first:=first) fun a ha=>by
    obtain ⟨q,hq⟩:=List.getElem?_of_mem ha
    exact hpre q a (Nat.zero_le _) hq
   replace hz:=HD hz
   clear hpre hWr
   go_wp2_with fail
   go_ret
   exact ⟨by rw [hz.out];rfl,hkp.out⟩
  | succ p =>
   obtain ⟨a,ha⟩:∃ a,K.L[p]? = some a:=⟨_,List.getElem?_eq_getElem (by omega)⟩
   obtain ⟨m,hm,hcm,hgm⟩:=hall.out p a ha
   obtain ⟨gN,cN,gG,cG,g1,c1',e1,e2,e3⟩:=hWr.cells (by omega)
   have hA:=hWr.isAt (by omega) e1 e2 e3
   obtain ⟨gL,oL,eL,hgL,hcL⟩:=hWr.log.at_ p a ha
   rw [eL] at d2
   have l2:wr.cell? ⟨gL,oL + p * 8 + 2,none⟩=some (.int .i64 m):=(hcL 2 (by decide)).trans (by rw [← hcm];rfl)
   have l6:wr.cell? ⟨gL,oL + p * 8 + 6,none⟩=some (.int .i64 a.now):=hcL 6 (by decide)
   obtain ⟨m1,m2,hmm⟩:∃ m1 m2,K.nm (K.names.getD m 0)=(m1,m2):=⟨_,_,rfl⟩
   have hnd:K.named gv m=(m1,m2):=by unfold Wk.named;rw [if_pos hgm];exact hmm
   obtain ⟨f1,f2⟩:=hA.nms m hm
   rw [hnd] at f1 f2
   have f3:=hA.gvn m hm
   rw [hgm] at f3
   have c8:=hA.c8
   have c9:=hA.c9
   have hiff:K.names.getD m 0=c ↔ m1=n1∧m2=n2:=by
    have hin:K.names.getD m 0∈K.names:=by rw [List.getD_eq_getElem?_getD,List.getElem?_eq_getElem hm];exact List.getElem_mem hm
    constructor
    ·intro e
     rw [e,hnm.out] at hmm
     injection hmm with h1 h2
     exact ⟨h1.symm,h2.symm⟩
    ·rintro ⟨rfl,rfl⟩
     exact HK.out.inj _ _ (HK.out.lt _ hin) hc (hmm.trans hnm.out.symm)
   have hcm':a.cell.toNat=m:=by omega
   rw [show (((p + 1:Nat):Int) - 1)=(p:Int) by omega]
   have x0:decide ((p:Int) ≥ 0)=true:=by simp
   have x1:decide ((m:Int) ≥ 0)=true:=by simp
   have x2:decide ((m:Int) < K.names.length)=true:=by simp;omega
   have x3:decide (m < K.names.length)=true:=by simpa using hm
   have x4:(m:Int) < K.names.length:=by omega
   have x5:(p:Int) < K.L.length:=by omega
   have x6:(0:Int)≤p:=by omega
   have x7:(0:Int)≤m:=by omega
   have hw2:IntKind.i64.wrap ((p:Int) - 1)=(p:Int) - 1:=by rw [IntKind.wrap_i64];omega
   have hpl8:=Nat.mul_comm p 8
   clear hpl8 hA hnd hmm hcL eL e1 e2 e3 hWr hcm
   replace ha:=HD ha
   replace hpre:=HD hpre
   replace hcm':=HD hcm'
   replace hk:=HD hk
   by_cases y1:m1=n1∧m2=n2
   ·have hit:=Xam (L:=K.L) (names:=K.names) (c:=c) (first:=first) ha.out (by rw [hcm'.out];exact hiff.2 y1) hpre.out
    replace hit:=HD hit
    clear hiff
    obtain ⟨rfl,rfl⟩:=y1
    go_upto_region 5 with (fail)
    go_quiet (fail)
    go_wp2_with fail
    go_ret
    exact ⟨by rw [hit.out];rfl,hkp.out.drewN _⟩
   ·have hno:K.names.getD m 0≠c:=fun e=>y1 (hiff.1 e)
    replace hno:=HD hno
    clear hiff
    by_cases e1:m1=n1
    ·subst e1
     have e2:¬ m2=n2:=fun e=>y1 ⟨rfl,e⟩
     have y:(m2 == n2)=false:=by simpa using e2
     have y2:decide (m2=n2)=false:=by simpa using e2
     clear y1
     replace e2:=HD e2
     go_upto_region 5 with (fail)
     go_quiet (fail)
     go_wp2_with fail
     refine ⟨⟨p,by have:=hk.out;omega,by first|rfl|simp,hkp.out.drewN _,hp.out,fun q b h1 h2=>?_⟩,by first|(simp [intOf];done)|(simp [intOf];omega)⟩
     rcases Nat.eq_or_lt_of_le h1 with z|z
     ·subst z
      rw [ha.out] at h2
      obtain rfl:=OI h2
      rw [hcm'.out]
      exact hno.out
     ·exact hpre.out q b z h2
    ·have y:(m1 == n1)=false:=by simpa using e1
     have y2:decide (m1=n1)=false:=by simpa using e1
     clear y1
     replace e1:=HD e1
     go_upto_region 5 with (fail)
     go_quiet (fail)
     go_wp2_with fail
     refine ⟨⟨p,by have:=hk.out;omega,by first|rfl|simp,hkp.out.drewN _,hp.out,fun q b h1 h2=>?_⟩,by first|(simp [intOf];done)|(simp [intOf];omega)⟩
     rcases Nat.eq_or_lt_of_le h1 with z|z
     ·subst z
      rw [ha.out] at h2
      obtain rfl:=OI h2
      rw [hcm'.out]
      exact hno.out
     ·exact hpre.out q b z h2
end Go.Proofs.Ytdhnggjmegilkaa
namespace Go.Proofs.Ytdhnggjmegilkaa
open Go.Conc Go.RowKit
open Go.ConcN (upd upd_same upd_ne)
namespace Xp
variable {Sh:Type} {P Q:Xp Sh} {sched:List Nat→List Nat→Nat}
def Left (cells:Nat→Int) (R:Xp Sh):Prop :=
 (∀ (q:Nat) (a:Xn),R.st.log[q]? = some a→∃ m:Nat,m < R.st.names.length∧a.cell=m)∧∀ c,R.st.cells c=Yc R.st.log R.st.names c (cells c)
theorem Wy {L:List Xn} {names names':List Nat} {c:Nat} {first:Int} (hn:∃ l,names'=names ++ l) (hm:∀ (q:Nat) (a:Xn),L[q]? = some a→∃ m:Nat,m < names.length∧a.cell=m):Yc L names' c first=Yc L names c first:=by
 obtain ⟨l,rfl⟩:=hn
 unfold Yc
 have:L.reverse.find? (fun a=>(names ++ l).getD a.cell.toNat 0 == c)=L.reverse.find? (fun a=>names.getD a.cell.toNat 0 == c):=by
  have h:∀ (M:List Xn),(∀ a∈M,∃ m:Nat,m < names.length∧a.cell=m)→M.find? (fun a=>(names ++ l).getD a.cell.toNat 0 == c)=M.find? (fun a=>names.getD a.cell.toNat 0 == c):=by
   intro M
   induction M with
   | nil=>intro _;rfl
   | cons a M ih =>
    intro h
    obtain ⟨m,h1,h2⟩:=h a List.mem_cons_self
    have e:(names ++ l).getD a.cell.toNat 0=names.getD a.cell.toNat 0:=by
     rw [List.getD_eq_getElem?_getD,List.getD_eq_getElem?_getD,List.getElem?_append_left (by omega)]
    rw [List.find?_cons,List.find?_cons,e,ih fun b hb=>h b (List.mem_cons_of_mem _ hb)]
  exact h _ fun a ha=>by
   obtain ⟨q,hq⟩:=List.getElem?_of_mem (List.mem_reverse.1 ha)
   exact hm q a hq
 rw [this]
theorem Ww {L:List Xn} {names:List Nat} {c:Nat} {first:Int} {a:Xn}:Yc (L ++ [a]) names c first=if names.getD a.cell.toNat 0=c then a.now else Yc L names c first:=by
 unfold Yc
 rw [List.reverse_append,List.reverse_singleton,List.singleton_append,List.find?_cons]
 by_cases h:names.getD a.cell.toNat 0=c
 ·rw [if_pos h,show (names.getD a.cell.toNat 0 == c)=true by simpa using h]
 ·rw [if_neg h,show (names.getD a.cell.toNat 0 == c)=false by simpa using h]
theorem Goes.left (hs:Zt sched) (h:Goes sched P Q) (cells:Nat→Int) (hP:Left cells P):Left cells Q:=by
 refine Goes.keeps (I:=Left cells) hs (fun R q r k ⟨h1,h2⟩ _ _ hp _=>?_) h hP
 rw [Ye hp]
 have hidx:∃ m:Nat,m < (if r.cell∈R.st.names then R.st.names else R.st.names ++ [r.cell]).length∧R.st.num r.cell=m∧(if r.cell∈R.st.names then R.st.names else R.st.names ++ [r.cell]).getD m 0=r.cell:=by
  refine ⟨R.st.names.idxOf r.cell,?_,rfl,?_⟩
  ·split
   ·rename_i e;exact List.idxOf_lt_length_iff.2 e
   ·rename_i e;rw [List.idxOf_eq_length e];simp
  ·split
   ·rename_i e
    rw [List.getD_eq_getElem?_getD,List.getElem?_eq_getElem (List.idxOf_lt_length_iff.2 e)]
    simp
   ·rename_i e
    rw [List.idxOf_eq_length e,List.getD_eq_getElem?_getD,List.getElem?_append_right (Nat.le_refl _)]
    simp
 have hmore:∃ l,(if r.cell∈R.st.names then R.st.names else R.st.names ++ [r.cell])=R.st.names ++ l:=by
  split
  ·exact ⟨[],by simp⟩
  ·exact ⟨_,rfl⟩
 obtain ⟨m,m1,m2,m3⟩:=hidx
 generalize (if r.cell∈R.st.names then R.st.names else R.st.names ++ [r.cell])=names' at m1 m3 hmore ⊢
 refine ⟨fun i a hi=>?_,fun c=>?_⟩
 ·replace hi:(R.st.log ++ [R.st.entry q r])[i]? = some a:=hi
  rcases Nat.lt_or_ge i R.st.log.length with hl|hl
  ·rw [List.getElem?_append_left hl] at hi
   obtain ⟨m',a1,a2⟩:=h1 i a hi
   obtain ⟨l,rfl⟩:=hmore
   exact ⟨m',by rw [List.length_append];omega,a2⟩
  ·rw [List.getElem?_append_right hl] at hi
   have:=(LE' hi).1
   have e:i - R.st.log.length=0:=by simp at this;omega
   rw [e] at hi
   obtain rfl:R.st.entry q r=a:=by simpa using hi
   exact ⟨m,m1,m2⟩
 ·show upd R.st.cells r.cell (R.st.ans r).now c=Yc (R.st.log ++ [R.st.entry q r]) names' c (cells c)
  rw [Ww,Wy hmore h1]
  have e1:names'.getD (R.st.entry q r).cell.toNat 0=r.cell:=by
   rw [show (R.st.entry q r).cell=(m:Int) from m2,Int.toNat_natCast];exact m3
  rw [e1]
  by_cases e:c=r.cell
  ·subst e;rw [upd_same,if_pos rfl];rfl
  ·rw [upd_ne _ _ e,if_neg fun z=>e z.symm];exact h2 c
end Xp
end Go.Proofs.Ytdhnggjmegilkaa
namespace Go.Proofs.Ytdhnggjmegilkaa
open Go.Conc Go.RowKit
set_option maxRecDepth 100000
theorem Kept.old {w w':World} (h:Kept (fun _=>False) w w'):Xf w w':=⟨h.size,fun r hr=>h.block r hr id⟩
theorem WAt.old {K:Wk} {gv:List Bool} {w w':World} (h:WAt K gv w) (hB:K.B≤w.heap.size) (ho:Xf w w'):WAt K gv w':=h.frame fun q hq=>ho.2 q (h.lt hB hq)
section
variable {Post:Value→World→Prop} {C:Ctx} {x:World} {c:Frame} {cs:List Frame}
theorem Xfx {K:Wk} {nc:Nat} (hK:K.OK nc) {gv:List Bool} (hW:WAt K gv x) (hB:K.B≤x.heap.size) (hall:∀ (q:Nat) (a:Xn),K.L[q]? = some a→∃ m:Nat,m < K.names.length∧a.cell=(m:Nat)∧gv.getD m false=true) {i:Nat} (hc:i < nc) (first:Int)
 (h:∀ y,Xf x y→JG Try.prog Post C (G (c.finish (.int .i64 (Yc K.L K.names i first))) cs) y):JG Try.prog Post C (G (Frame.enter Try.prog 98 #[P0 K.wb,nmV (K.nm i),.int .i64 first] .normal) (c::cs)) x:=by
 refine JG.calls (F:=FX Vp) (Q:=fun u y=>u=.int .i64 (Yc K.L K.names i first)∧Xf x y) (Zd _) (by kernel_rfl) (fun τ=>?_) (fun u y hq=>?_)
 ·refine (XdK hK (w:=under x τ 0) (hW.frame fun _ _=>rfl) hB hall hc first).mono ?_
  rintro e y ⟨rfl,h2⟩
  exact ⟨_,rfl,rfl,h2.old⟩
 ·obtain ⟨rfl,h1⟩:=hq
  exact h y h1
structure QV (K:Wk) (gv:List Bool) (gl gf oF n:Nat) (A:Nat→Nat) (v first:Nat→Int) (x:World):Prop where
 at_:WAt K gv x
 B:K.B≤x.heap.size
 l:∀ i,i < n→x.cell? (th gl i)=some (P0 (A i))
 c:∀ i,i < n→Yg x (A i) (v i)
 f:∀ i,i < n→x.cell? ⟨gf,oF + i,none⟩=some (.int .i64 (first i))
theorem QV.old {K:Wk} {gv:List Bool} {gl gf oF n:Nat} {A:Nat→Nat} {v first:Nat→Int} {x y:World} (h:QV K gv gl gf oF n A v first x) (ho:Xf x y):QV K gv gl gf oF n A v first y :=
 ⟨h.at_.old h.B ho,Nat.le_trans h.B ho.1,fun i hi=>ho.cell (h.l i hi),fun i hi=>ho.free (h.c i hi),fun i hi=>ho.cell (h.f i hi)⟩
theorem Xbu {K:Wk} {nc:Nat} (hK:K.OK nc) {gv:List Bool} (hall:∀ (q:Nat) (a:Xn),K.L[q]? = some a→∃ m:Nat,m < K.names.length∧a.cell=(m:Nat)∧gv.getD m false=true) {gl gf oF n cl cf:Nat} {A:Nat→Nat} {v first:Nat→Int} (hn:n≤nc) (hn2:n < 100000) (hnm:∀ i:Nat,i < n→K.nm i=(2,(i:Int))) (hv:∀ i,i < n→v i=Yc K.L K.names i (first i)) :
 ∀ (q k:Nat),k + q=n→∀ (x:World) (u3 u4 u5 u6 u8 u9 B0 B1 B2 B3 B4 B5 B6 B7 B8 B9 D0 D1 D2 D3 D4 D5 D6 D7:Value),QV K gv gl gf oF n A v first x→(∀ y,Xf x y→JG Try.prog Post C (G (c.finish (.bool true)) cs) y) →
 JG Try.prog Post C (G ((base 26).at ⟨List.toArray (P0 K.wb::.slice (some ⟨gl,0,none⟩) n cl::.slice (some ⟨gf,oF,none⟩) n cf::u3::u4::u5::u6::.int .i64 k::u8::u9::B0::B1::B2::B3::B4::B5::B6::B7::B8::B9::D0::D1::D2::D3::D4::D5::D6::D7::[]),[]⟩ [.code (Code.nav (Try.f26.body.getD .skip) [1,0,1,0,0]),.inLoop (Code.nav (Try.f26.body.getD .skip) [1,0,1,0,0]),.inBlock 0,.code (Code.nav (Try.f26.body.getD .skip) [1,1])]) (c::cs)) x:=by
 intro q
 induction q with
 | zero =>
  intro k hkq x u3 u4 u5 u6 u8 u9 B0 B1 B2 B3 B4 B5 B6 B7 B8 B9 D0 D1 D2 D3 D4 D5 D6 D7 hH h
  replace h:=HD (h x (Xf.refl x))
  clear hall hv hnm hK
  simp only [Try.f26,Option.getD_some,Code.nav]
  have hx:decide ((k:Int) < n)=false:=by simp;omega
  have hxN:decide (k < n)=false:=by simp;omega
  repeat first|refine jc rfl ?_|(first|refine ju rfl rfl ?_|(refine jv rfl rfl rfl fun K E f τ d=>?_;go_simp;refine f _ _ _ _ ?_;clear f K E τ d);try walk_nrm)
  refine JG.exit (by rfl) ?_
  repeat first|refine jc rfl ?_|(first|refine ju rfl rfl ?_|(refine jv rfl rfl rfl fun K E f τ d=>?_;go_simp;refine f _ _ _ _ ?_;clear f K E τ d);try walk_nrm)
  refine JG.ret ?_
  exact JG.leave rfl rfl Try.func26 (fun τ d=>results_tmp (t:=6) rfl _ _ _) h.out
 | succ q ih =>
  intro k hkq x u3 u4 u5 u6 u8 u9 B0 B1 B2 B3 B4 B5 B6 B7 B8 B9 D0 D1 D2 D3 D4 D5 D6 D7 hH h
  have hkn:k < n:=by omega
  have hKk:=hnm k hkn
  have hvk:=hv k hkn
  have IH:=HD ih
  have HH:=HD hH
  have HA:=HD hall
  have HK:=HD hK
  have Hh:=HD h
  clear ih hall hv hnm hK hH h
  simp only [Try.f26,Option.getD_some,Code.nav]
  have hx:decide ((k:Int) < n)=true:=by simp;omega
  have hxN:decide (k < n)=true:=by simp;omega
  have x4:(k:Int) < n:=by omega
  have x6:(0:Int)≤k:=by omega
  replace hKk:=HD hKk
  replace hvk:=HD hvk
  repeat first|refine jc rfl ?_|(first|refine ju rfl rfl ?_|(refine jv rfl rfl rfl fun K E f τ d=>?_;go_simp;refine f _ _ _ _ ?_;clear f K E τ d);try walk_nrm)
  refine JG.drawCalls (fun i=>if i=4 then some 0 else if i=12 then some 1 else none) (fun _=>.int .i64 (v k)) (fun _ z=>Xf x z) 2 (by kernel_rfl) (by kernel_rfl) (by decide) (Xf.refl x) ?_
  apply Exists.intro
  apply And.intro
  ·intro s hs z hz
   have hz2:=HH.out.old hz
   have z1:=hz2.l k hkn
   have z2:=hz2.f k hkn
   replace hz2:=HD hz2
   repeat first|(refine YL.rd (by rfl) (fun K hK τ d=>?_);go_simp;refine hK _ ?_;clear hK K τ d)|(refine YL.rd (by rfl) (fun K hK τ d=>?_);have hfact:=uc τ d (z1);go_simp;refine hK _ ?_;clear hfact hK K τ d)|(refine YL.rd (by rfl) (fun K hK τ d=>?_);have hfact:=uc τ d (z2);go_simp;refine hK _ ?_;clear hfact hK K τ d)
   refine YL.cl (by rfl) (fun _=>⟨29,#[P0 (A k),.pointer none],fun w=>?_,fun w=>?_,fun c hc=>?_⟩) ?_
   iterate 2 (focus obtain ⟨fn, h1, h2, h3⟩ : Yk 29 := ⟨_, Try.func29, by kernel_rfl, by kernel_rfl⟩; have h4 : ¬ fn.name = "runtime.NumGoroutine" := (by simpa using h2); have h5 : ¬ fn.body = none := (by intro e; rw [e] at h3; cases h3); simp [go_sem, execOp, Act.eval, resolve, Deferred.ofValue, invoke, callFunc, h1, h4, h5])
   ·exact Xcx (hz2.out.c k hkn) (hc z hz)
   repeat first|(refine YL.rd (by rfl) (fun K hK τ d=>?_);go_simp;refine hK _ ?_;clear hK K τ d)|(refine YL.rd (by rfl) (fun K hK τ d=>?_);have hfact:=uc τ d (z1);go_simp;refine hK _ ?_;clear hfact hK K τ d)|(refine YL.rd (by rfl) (fun K hK τ d=>?_);have hfact:=uc τ d (z2);go_simp;refine hK _ ?_;clear hfact hK K τ d)
   refine YL.cl (by rfl) (fun _=>⟨98,#[P0 K.wb,.agg #[.int .i64 2,.int .i64 k],.int .i64 (first k)],fun w=>?_,fun w=>?_,fun c hc=>?_⟩) ?_
   iterate 2 (focus obtain ⟨fn, h1, h2, h3⟩ : Yk 98 := ⟨_, Try.func98, by kernel_rfl, by kernel_rfl⟩; have h4 : ¬ fn.name = "runtime.NumGoroutine" := (by simpa using h2); have h5 : ¬ fn.body = none := (by intro e; rw [e] at h3; cases h3); simp [go_sem, execOp, Act.eval, resolve, Deferred.ofValue, invoke, callFunc, h1, h4, h5])
   ·rw [show (Value.agg #[.int .i64 2,.int .i64 k])=nmV (K.nm k) from by rw [hKk.out];rfl]
    refine Xfx HK.out hz2.out.at_ hz2.out.B HA.out (Nat.lt_of_lt_of_le hkn hn) (first k) fun y ho=>?_
    rw [← hvk.out]
    exact hc y (hz.trans ho)
   repeat first|(refine YL.rd (by rfl) (fun K hK τ d=>?_);go_simp;refine hK _ ?_;clear hK K τ d)|(refine YL.rd (by rfl) (fun K hK τ d=>?_);have hfact:=uc τ d (z1);go_simp;refine hK _ ?_;clear hfact hK K τ d)|(refine YL.rd (by rfl) (fun K hK τ d=>?_);have hfact:=uc τ d (z2);go_simp;refine hK _ ?_;clear hfact hK K τ d)
   exact rfl
  ·intro z hz
   have IH':=IH.out (k + 1) (by omega) z
   simp only [Try.f26,Option.getD_some,Code.nav] at IH'
   replace IH':=HD IH'
   have hw:IntKind.i64.wrap ((k:Int) + 1)=((k + 1:Nat):Int):=by
    rw [IntKind.wrap_i64];omega
   repeat first|refine jc rfl ?_|(first|refine ju rfl rfl ?_|(refine jv rfl rfl rfl fun K E f τ d=>?_;go_simp;refine f _ _ _ _ ?_;clear f K E τ d);try walk_nrm)
   refine JG.inLoop ?_
   rw [show ((k:Int) + 1)=((k + 1:Nat):Int) from rfl]
   exact IH'.out _ _ _ _ _ _ _ _ _ _ _ _ _ _ _ _ _ _ _ _ _ _ _ _ (HH.out.old hz) fun y ho=>Hh.out y (hz.trans ho)
theorem XeZ {K:Wk} {nc:Nat} (hK:K.OK nc) {gv:List Bool} (hall:∀ (q:Nat) (a:Xn),K.L[q]? = some a→∃ m:Nat,m < K.names.length∧a.cell=(m:Nat)∧gv.getD m false=true) {gl gf oF n cl cf:Nat} {A:Nat→Nat} {v first:Nat→Int} (hn:n≤nc) (hn2:n < 100000) (hnm:∀ i:Nat,i < n→K.nm i=(2,(i:Int))) (hv:∀ i,i < n→v i=Yc K.L K.names i (first i)) (hH:QV K gv gl gf oF n A v first x) (h:∀ y,Xf x y→JG Try.prog Post C (G (c.finish (.bool true)) cs) y) :
 JG Try.prog Post C (G (Frame.enter Try.prog 26 #[P0 K.wb,.slice (some ⟨gl,0,none⟩) n cl,.slice (some ⟨gf,oF,none⟩) n cf] .normal) (c::cs)) x:=by
 have HL:=HD (fun u3 u4 u5 u6 u8 u9 B0 B1 B2 B3 B4 B5 B6 B7 B8 B9 D0 D1 D2 D3 D4 D5 D6 D7=>Xbu (Post:=Post) (C:=C) (c:=c) (cs:=cs) (cl:=cl) (cf:=cf) hK hall hn hn2 hnm hv n 0 (by omega) x u3 u4 u5 u6 u8 u9 B0 B1 B2 B3 B4 B5 B6 B7 B8 B9 D0 D1 D2 D3 D4 D5 D6 D7 hH h)
 clear hK hall hnm hv hH h
 refine Xy Try.func26 (by rfl) (by rfl) ?_
 simp only [Try.f26,Option.getD_some]
 walk_nrm
 repeat first|refine jc rfl ?_|(first|refine ju rfl rfl ?_|(refine jv rfl rfl rfl fun K E f τ d=>?_;go_simp;refine f _ _ _ _ ?_;clear f K E τ d);try walk_nrm)
 refine JG.loop ?_
 have HL':=HL.out
 simp only [Try.f26,Option.getD_some,Code.nav] at HL'
 exact HL' _ _ _ _ _ _ _ _ _ _ _ _ _ _ _ _ _ _ _ _ _ _ _ _
end
end Go.Proofs.Ytdhnggjmegilkaa
namespace Go.Proofs.Ytdhnggjmegilkaa
open Go.RowKit
set_option maxRecDepth 100000
structure Wk.Lies (K:Wk):Prop where
 n:∀ b,K.vN.ownBlock=some b→K.vH.ownBlock≠some b
 f:∀ b,K.v1.ownBlock=some b→K.vS.ownBlock≠some b
 low:K.B≤K.M
 wb:K.M≤K.wb
def Wk.more (K:Wk) (vH vS:Value) (n:Nm) (v:Int):Wk:={ K with vH:=vH,vS:=vS,hs:=K.hs ++ [(n,v)] }
theorem Xcr (hs:List (Nm × Int)) (n:Nm) (v:Int):((List.range (hs ++ [(n,v)]).length).flatMap fun i=>nmL ((hs ++ [(n,v)]).getD i ((0,0),0)).1)=((List.range hs.length).flatMap fun i=>nmL (hs.getD i ((0,0),0)).1) ++ nmL n:=by
 rw [List.length_append,List.length_singleton,List.range_succ,List.flatMap_append]
 congr 1
 ·simp only [List.flatMap]
  congr 1
  apply List.map_congr_left
  intro i hi
  have:=List.mem_range.1 hi
  rw [List.getD_eq_getElem?_getD,List.getD_eq_getElem?_getD,List.getElem?_append_left this]
 ·simp [List.getD_eq_getElem?_getD]
theorem WB {w1 w2:World} {M size n:Nat} {t:TypeId} {v:Value} {xs:List Value} {o:Obj} (h:w1.ownsRow M t size v n xs) (hg:(w1.alloc o).grownBy w2 v.ownBlock) {M' size' n':Nat} {t':TypeId} {v':Value} {xs':List Value} (h':w1.ownsRow M' t' size' v' n' xs') (ne:∀ b,v'.ownBlock=some b→v.ownBlock≠some b):w2.ownsRow M' t' size' v' n' xs' :=
 Xh h' fun b hb=>by
  have hl:=Xq h' hb
  rw [hg.block b (by simp;omega) (fun e=>ne b hb e.symm)]
  exact Below.heap_alloc _ _ b hl
theorem XdP {K:Wk} {gv:List Bool} {w:World} (hW:WAt K gv w) (hK:K.Lies) (hM:K.M≤w.heap.size) (hs:K.hs.length≤10000) (n:Nm) (v:Int) :
 Calls Try.prog 22 #[.pointer (some ⟨K.wb,0,none⟩),nmV n,.int .i64 v] w (fun e w'=>e=.returned (.tuple #[])∧∃ vH vS,WAt (K.more vH vS n v) gv w'∧(K.more vH vS n v).Lies∧Kept (fun q=>K.M≤q) w w'):=by
 obtain ⟨n1,n2⟩:=n
 obtain ⟨aH,cH,eH⟩:=Xo hW.hav
 obtain ⟨aS,cS,eS⟩:=Xo hW.hol
 obtain ⟨q,hq⟩:∃ q,K.hs.length=q:=⟨_,rfl⟩
 obtain ⟨iN,hiN,hn0,hn1,hn2⟩:=XI Xeg
 obtain ⟨iF,hiF,hf0,hf1,hf2⟩:=XI Xan
 have hwb:=hK.wb
 have hW':=hW
 replace hW:=HD hW
 have hHv:=hW'.hav
 have hHl:=hW'.hol
 rw [eH] at hHv
 rw [eS] at hHl
 rw [hq] at hHv hHl hs
 unfold nmV
 go_enter Try.func22,Try.ntmps22
 go_upto_region 1 with (fail)
 have hp:Blk (w.alloc (.cells #[.int .i64 n1,.int .i64 n2] 51)) w.heap.size 51 #[.int .i64 n1,.int .i64 n2]:=Blk.new w _ _
 have hk:=(Kept.refl (fun _=>False) w).alloc (.cells #[.int .i64 n1,.int .i64 n2] 51)
 have hW1:WAt K gv (w.alloc (.cells #[.int .i64 n1,.int .i64 n2] 51)):=hW'.kept (by have:=hK.low;omega) hk (fun _ h=>h.elim)
 have hHv1:=hHv.alloc (.cells #[.int .i64 n1,.int .i64 n2] 51)
 have hHl1:=hHl.alloc (.cells #[.int .i64 n1,.int .i64 n2] 51)
 have hsz:(w.alloc (.cells #[.int .i64 n1,.int .i64 n2] 51)).heap.size=w.heap.size + 1:=by simp
 generalize w.alloc (.cells #[.int .i64 n1,.int .i64 n2] 51)=w1 at hp hk hW1 hHv1 hHl1 hsz ⊢
 generalize hpb:w.heap.size=pb at hp hsz hM ⊢
 have p0:w1.cell? ⟨pb,0,none⟩=some (.int .i64 n1):=Blk.cell hp 0
 have p1:w1.cell? ⟨pb,1,none⟩=some (.int .i64 n2):=Blk.cell hp 1
 have hpl:=Blk.lt hp
 have k11:w1.cell? ⟨K.wb,11,none⟩=some (.slice aH q cH):=(Blk.cell hW1.blk 11).trans (by rw [← hq];exact congrArg some eH)
 have hwl:=Blk.lt hW1.blk
 have N2:Hid (q + 1≤maxLen):=HD (by unfold maxLen;omega)
 have N3N:Hid ((q + 1) * 16≤140737488355328):=HD (by omega)
 have N3F:Hid ((q + 1) * 8≤140737488355328):=HD (by omega)
 have HOF:Hid (((w1.alloc (.cells #[.int .i64 n1,.int .i64 n2] 51)).drew).ownsRow K.M 51 2 (.slice aH q cH) q ((List.range q).flatMap fun i=>nmL (K.hs.getD i ((0,0),0)).1)):=HD (by rw [← hq] at hHv1 ⊢;exact (hHv1.alloc _).drew)
 have e1':K.wb < w1.heap.size + 1:=by omega
 have e2':pb < w1.heap.size + 1:=by omega
 replace hp:=HD hp
 replace hk:=HD hk
 replace hW1:=HD hW1
 replace hHv1:=HD hHv1
 replace hHl1:=HD hHl1
 replace hHv:=HD hHv
 replace hHl:=HD hHl
 replace eH:=HD eH
 replace eS:=HD eS
 replace hq:=HD hq
 replace hpb:=HD hpb
 replace hsz:=HD hsz
 have hM1:K.M≤w1.heap.size:=by have:=hsz.out;omega
 clear hW'
 go_region_law (first
  | (refine step_append_lies _ (by rfl) _ _ _ (by rfl) K.M 51 iN _ 2 16 Try.underlying58 hiN hn0 hn1 hn2 rfl (by omega) (.slice aH q cH) q ((List.range q).flatMap fun i=>nmL (K.hs.getD i ((0,0),0)).1) (by rfl) HOF.out ⟨w1.heap.size,0,none⟩ 1 1 [.int .i64 n1,.int .i64 n2] (by rfl) (by rfl) (World.news_of_block (cs:=#[.int .i64 n1,.int .i64 n2]) (t:=51) (fr:=(0,0)) (heap_alloc_new w1 _)) (by simp [Value.oneCell']) (by omega) N2.out N3N.out (by first | (simp;omega) | (simp;done)) (w1.heap.size + 1) (by simp) ?_
     intro gN cN uN HG1 HG2 HG3 HG4
     have HOW:=HD HG1
     have HGR:=HD HG2
     have HAT:=HD HG3
     clear HG1 HG2 HG3 HG4
     have hbwu:Blk uN K.wb 61 K.obj:=Zb (w1:=w1.drew) (o:=.cells #[.int .i64 n1,.int .i64 n2] 51) hHv1.out.drew HGR.out hW1.out.blk (by decide)
     have ku:uN.cell? ⟨K.wb,11,none⟩=some (.slice aH q cH):=(Blk.cell hbwu 11).trans (by rw [← hq.out];exact congrArg some eH.out)
     have fu:uN.frozen? ⟨K.wb,11,none⟩=false:=Blk.frozen hbwu 11
     have lu:=Blk.lt hbwu
     replace hbwu:=HD hbwu))
 all_goals (
  have hgrow:((w1.drew).alloc (.cells #[.int .i64 n1,.int .i64 n2] 51)).grownBy uN (Value.slice aH q cH).ownBlock:=HGR.out
  have hWd:WAt K gv w1.drew:=hW1.out.frame fun _ _=>rfl
  have hneN:∀ b,K.vN.ownBlock=some b→(Value.slice aH q cH).ownBlock≠some b:=fun b hb=>by have:=hK.n b hb;rw [eH.out,hq.out] at this;exact this
  have hb2:Blk (uN.setCell ⟨K.wb,11,none⟩ (.slice (some ⟨gN,0,none⟩) (q + 1) cN)) K.wb 61 (UI K.e K.n (.slice K.aL K.L.length K.cL) K.vW K.vR (.slice K.al K.left.length K.cl) K.vF false K.vN K.vG K.v1 (.slice (some ⟨gN,0,none⟩) (q + 1) cN) K.vS):=Blk.set_ hbwu.out 11 _
  have hlow2:∀ b,b < K.B→(uN.setCell ⟨K.wb,11,none⟩ (.slice (some ⟨gN,0,none⟩) (q + 1) cN)).heap[b]? = w1.heap[b]?:=fun b hb=>by
   have h1:=hK.low
   have h2:=hK.wb
   rw [Below.heap_setCell _ _ _ b (by show b≠K.wb;omega),hgrow.block b (by show b < _;simp;omega) (fun e=>by have:=XF hHv1.out e.symm;omega)]
   exact Below.heap_alloc _ _ b (by show b < w1.heap.size;omega)
  have hl2:=hWd.log.of hlow2
  have he2:=hWd.lef.of hlow2
  have hN2:=X7 (WB (w1:=w1.drew) hHv1.out.drew hgrow hWd.nms hneN) hbwu.out (by decide) 11 (.slice (some ⟨gN,0,none⟩) (q + 1) cN)
  have hG2:=X7 (Ys (w1:=w1.drew) hHv1.out.drew hgrow hWd.gvn (by decide)) hbwu.out (by decide) 11 (.slice (some ⟨gN,0,none⟩) (q + 1) cN)
  have hF2:=X7 (Ys (w1:=w1.drew) hHv1.out.drew hgrow hWd.fst (by decide)) hbwu.out (by decide) 11 (.slice (some ⟨gN,0,none⟩) (q + 1) cN)
  have hS2:=X7 (Ys (w1:=w1.drew) hHv1.out.drew hgrow hHl1.out.drew (by decide)) hbwu.out (by decide) 11 (.slice (some ⟨gN,0,none⟩) (q + 1) cN)
  have hH2:=X7 HOW.out hbwu.out (by decide) 11 (.slice (some ⟨gN,0,none⟩) (q + 1) cN)
  have hk2:Kept (fun q=>K.M≤q) w (uN.setCell ⟨K.wb,11,none⟩ (.slice (some ⟨gN,0,none⟩) (q + 1) cN)):=by
   refine Kept.set (S:=fun q=>K.M≤q) ?_ (p:=⟨K.wb,11,none⟩) hK.wb _
   refine ⟨hgrow.os.trans hk.out.os,hgrow.tape.trans hk.out.drew.tape,hgrow.output.trans hk.out.output,by have h1:=hgrow.size;have h2:=hk.out.size;simp at h1;omega,fun b hb hb2=>?_⟩
   have:=hk.out.size
   rw [hgrow.block b (by show b < _;simp;omega) (fun e=>hb2 (XF hHv1.out e.symm)),Below.heap_alloc _ _ b (by show b < w1.heap.size;omega)]
   exact hk.out.block b hb id
  have hs2:w1.heap.size≤(uN.setCell ⟨K.wb,11,none⟩ (.slice (some ⟨gN,0,none⟩) (q + 1) cN)).heap.size:=by have h1:=hgrow.size;simp at h1 ⊢;omega
  have hat2:=HAT.out
  generalize (uN.setCell ⟨K.wb,11,none⟩ (.slice (some ⟨gN,0,none⟩) (q + 1) cN))=w2 at hb2 hlow2 hl2 he2 hN2 hG2 hF2 hS2 hH2 hk2 hs2 ⊢
  have hwl2:=Blk.lt hb2
  have k12:w2.cell? ⟨K.wb,12,none⟩=some (.slice aS q cS):=(Blk.cell hb2 12).trans (by rw [← hq.out];exact congrArg some eS.out)
  have HOS:Hid ((w2.alloc (.cells #[.int .i64 v] 2)).ownsRow K.M 2 1 (.slice aS q cS) q (K.hs.map fun (h:Nm × Int)=>Value.int .i64 h.2)):=HD (hS2.alloc _)
  have N4:Hid (K.M≤(w2.alloc (.cells #[.int .i64 v] 2)).heap.size):=HD (by simp;omega)
  replace hb2:=HD hb2
  replace hl2:=HD hl2
  replace he2:=HD he2
  replace hN2:=HD hN2
  replace hG2:=HD hG2
  replace hF2:=HD hF2
  replace hS2:=HD hS2
  replace hH2:=HD hH2
  replace hk2:=HD hk2
  replace hs2:=HD hs2
  replace hat2:=HD hat2
  clear hgrow hWd hneN hlow2 HOW HGR HAT hbwu ku fu lu k11 p0 p1 hpl
  go_upto_region 3 with (first|(at_builtin;refine wpList_append_lies _ rfl _ _ 22 rfl K.M 2 iF _ 1 8 Try.underlying22 hiF hf0 hf1 hf2 rfl (by decide) _ q (K.hs.map fun (h:Nm × Int)=>Value.int .i64 h.2) rfl HOS.out ⟨w2.heap.size,0,none⟩ 1 1 [.int .i64 v] rfl rfl (World.news_of_block (cs:=#[.int .i64 v]) (t:=2) (fr:=(0,0)) (heap_alloc_new w2 _)) (by simp [Value.oneCell']) (by omega) N2.out N3F.out N4.out _ rfl ?_;intro gF cF uF hown hgrow hat hlt3;have hbwu:=Zb hS2.out hgrow hb2.out (by decide);have ku:uF.cell? ⟨K.wb,12,none⟩=some (.slice aS q cS):=(Blk.cell hbwu 12).trans (by rw [← hq.out];exact congrArg some eS.out);have fu:uF.frozen? ⟨K.wb,12,none⟩=false:=Blk.frozen hbwu 12;have lu:=Blk.lt hbwu;have HOW:=HD hown;have HGR:=HD hgrow;have HAT:=HD hat;replace hbwu:=HD hbwu;clear hown hgrow hat hlt3))
  go_end0
  have hq2:(K.hs ++ [((n1,n2),v)]).length=q + 1:=by rw [List.length_append,hq.out];rfl
  have hneF:∀ b,K.v1.ownBlock=some b→(Value.slice aS q cS).ownBlock≠some b:=fun b hb=>by have:=hK.f b hb;rw [eS.out,hq.out] at this;exact this
  have hneH:∀ b,(Value.slice (some ⟨gN,0,none⟩) (q + 1) cN).ownBlock=some b→(Value.slice aS q cS).ownBlock≠some b:=fun b hb e=>Blk.ne_ (Y7 hH2.out hb) (Y7 hS2.out e) (by decide) rfl
  have hlow3:∀ b,b < K.B→(uF.setCell ⟨K.wb,12,none⟩ (.slice (some ⟨gF,0,none⟩) (q + 1) cF)).heap[b]? = w2.heap[b]?:=fun b hb=>by
   have h1:=hK.low
   have h2:=hK.wb
   have h3:=hs2.out
   rw [Below.heap_setCell _ _ _ b (by show b≠K.wb;omega),HGR.out.block b (by simp;omega) (fun e=>by have:=XF hS2.out e.symm;omega)]
   exact Below.heap_alloc _ _ b (by omega)
  refine ⟨rfl,(.slice (some ⟨gN,0,none⟩) (q + 1) cN),(.slice (some ⟨gF,0,none⟩) (q + 1) cF),⟨?_,hl2.out.of hlow3,he2.out.of hlow3,?_,?_,?_,?_,?_,hW.out.len⟩,⟨fun b hb e=>?_,fun b hb e=>?_,hK.low,hK.wb⟩,?_⟩
  ·have:Blk (uF.setCell ⟨K.wb,12,none⟩ (.slice (some ⟨gF,0,none⟩) (q + 1) cF)) K.wb 61 (UI K.e K.n (.slice K.aL K.L.length K.cL) K.vW K.vR (.slice K.al K.left.length K.cl) K.vF false K.vN K.vG K.v1 (.slice (some ⟨gN,0,none⟩) (q + 1) cN) (.slice (some ⟨gF,0,none⟩) (q + 1) cF)):=Blk.set_ hbwu.out 12 _
   unfold Wk.obj Wk.more
   exact this
  ·exact X7 (Ys hS2.out HGR.out hN2.out (by decide)) hbwu.out (by decide) 12 (.slice (some ⟨gF,0,none⟩) (q + 1) cF)
  ·exact X7 (Ys hS2.out HGR.out hG2.out (by decide)) hbwu.out (by decide) 12 (.slice (some ⟨gF,0,none⟩) (q + 1) cF)
  ·exact X7 (WB hS2.out HGR.out hF2.out hneF) hbwu.out (by decide) 12 (.slice (some ⟨gF,0,none⟩) (q + 1) cF)
  ·have:=X7 (Ys hS2.out HGR.out hH2.out (by decide)) hbwu.out (by decide) 12 (.slice (some ⟨gF,0,none⟩) (q + 1) cF)
   show (uF.setCell ⟨K.wb,12,none⟩ (.slice (some ⟨gF,0,none⟩) (q + 1) cF)).ownsRow K.M 51 2 (.slice (some ⟨gN,0,none⟩) (q + 1) cN) (K.hs ++ [((n1,n2),v)]).length ((List.range (K.hs ++ [((n1,n2),v)]).length).flatMap fun i=>nmL ((K.hs ++ [((n1,n2),v)]).getD i ((0,0),0)).1)
   rw [Xcr,hq2,hq.out]
   exact this
  ·have:=X7 HOW.out hbwu.out (by decide) 12 (.slice (some ⟨gF,0,none⟩) (q + 1) cF)
   show (uF.setCell ⟨K.wb,12,none⟩ (.slice (some ⟨gF,0,none⟩) (q + 1) cF)).ownsRow K.M 2 1 (.slice (some ⟨gF,0,none⟩) (q + 1) cF) (K.hs ++ [((n1,n2),v)]).length ((K.hs ++ [((n1,n2),v)]).map fun h=>.int .i64 h.2)
   rw [hq2,List.map_append]
   exact this
  ·replace e:(Value.slice (some ⟨gN,0,none⟩) (q + 1) cN).ownBlock=some b:=e
   rcases hat2.out with h|h
   ·exact hK.n b hb (by rw [eH.out,hq.out,h];exact e)
   ·have:=Xq hW1.out.nms hb
    simp [Value.ownBlock] at e h
    omega
  ·replace e:(Value.slice (some ⟨gF,0,none⟩) (q + 1) cF).ownBlock=some b:=e
   rcases HAT.out with h|h
   ·have h':(Value.slice aS q cS).ownBlock=some gF:=h
    exact hneF b hb (h'.trans e)
   ·have:=Xq hF2.out hb
    simp [Value.ownBlock] at e h
    omega
  ·refine Kept.set (S:=fun q=>K.M≤q) ?_ (p:=⟨K.wb,12,none⟩) hK.wb _
   have h3:=hk2.out.size
   refine ⟨HGR.out.os.trans hk2.out.os,HGR.out.tape.trans hk2.out.tape,HGR.out.output.trans hk2.out.output,by have h1:=HGR.out.size;simp at h1;omega,fun b hb hb2=>?_⟩
   rw [HGR.out.block b (by simp;omega) (fun e=>hb2 (XF hS2.out e.symm)),Below.heap_alloc _ _ b (by omega)]
   exact hk2.out.block b hb hb2)
end Go.Proofs.Ytdhnggjmegilkaa
namespace Go.Proofs.Ytdhnggjmegilkaa
open Go.Conc Go.RowKit
open Go.ConcN (upd upd_same upd_ne)
theorem Wr {α:Type} {nc:Nat} (j:Nat):∀ {cs:List (Xr α)},(∀ c∈cs,c.Ok nc)→XB.Ok nc (Yj j cs)
 | [],_=>.ret ()
 | c::l,h=>(h c List.mem_cons_self).into fun a=>.act fun _=>Wr j fun d hd=>h d (List.mem_cons_of_mem _ hd)
namespace Xp
section
variable {Sh:Type} {P Q:Xp Sh} {sched:List Nat→List Nat→Nat}
theorem XcB:∀ (i:Nat) (a b:Xn),Q.left[i]? = some a→Q.left[i + 1]? = some b→a.thread < b.thread:=by
 have hth:∀ j a,Q.stands j=some a→a.thread=j:=fun j a ha=>by
  unfold stands at ha
  cases hr:(Q.progs j).req with
  | none=>rw [hr] at ha;cases ha
  | some r=>rw [hr] at ha;rw [← OI ha]
 have hp:Q.left.Pairwise fun a b=>a.thread < b.thread:=by
  unfold left
  rw [List.pairwise_filterMap]
  refine List.pairwise_lt_range.imp fun {i j} hij a ha b hb=>?_
  rw [hth i a ha,hth j b hb];exact hij
 intro i a b ha hb
 obtain ⟨h1,rfl⟩:=LE' ha
 obtain ⟨h2,rfl⟩:=LE' hb
 exact List.pairwise_iff_getElem.1 hp i (i + 1) h1 h2 (by omega)
theorem Goes.few (hs:Zt sched) (h:Goes sched P Q) (hP:P.st.names.length≤P.st.log.length):Q.st.names.length≤Q.st.log.length:=by
 refine Goes.keeps (I:=fun R=>R.st.names.length≤R.st.log.length) hs (fun R q r k hl _ _ hp _=>?_) h hP
 rw [Ye hp]
 show (if r.cell∈R.st.names then R.st.names else R.st.names ++ [r.cell]).length≤(R.st.log ++ [R.st.entry q r]).length
 split<;>simp<;>omega
end
section
variable {α:Type} {Q:Xp (Nat→List α)} {css:List (List (Xr α))} {cells:Nat→Int} {sh0:Nat→List α}
structure RunFacts (css:List (List (Xr α))) (cells:Nat→Int) (picks:List Int) (m:Nat) (e:Int) (Q:Xp (Nat→List α)):Prop where
 n:Q.n=css.length
 ok:∃ (csAt nowAt firstAt:Nat→List Int) (lastAt:Nat→Int),Xd8 Q.st.log Q.left (Q.st.went.map fun (i:Nat)=>(i:Int)) (Q.st.ready.map fun (i:Nat)=>(i:Int)) picks Q.n Q.st.names.length e m csAt lastAt∧XaC Q.st.log Q.left nowAt firstAt∧csAt 0=firstAt Q.st.log.length∧lastAt 0 = -1∧firstAt Q.st.log.length=Q.st.names.map cells
 lens:Q.st.went.length=Q.st.log.length∧Q.st.ready.length=Q.st.log.length∧Q.st.log.length≤m
 rise:∀ (i:Nat) (a b:Xn),Q.left[i]? = some a→Q.left[i + 1]? = some b→a.thread < b.thread
 rest:∀ (j:Nat) (cs:List (Xr α)),css[j]? = some cs→∃ T,Q.st.sh j=(QQ cs).1 ++ T∧ZI Q.st.log Q.left Q.st.names cells j 0 (QQ cs).2 T
 nodup:Q.st.names.Nodup
 few:Q.st.names.length≤Q.st.log.length
 left:Left cells Q
 who:∀ (q:Nat) (a:Xn),Q.st.log[q]? = some a→a.thread < css.length
theorem run_facts {picks:List Int} {m nc:Nat} {e:Int} (h0:∀ j,sh0 j = []) (hok:∀ cs∈css,∀ c∈cs,c.Ok nc) (h:((Xp.init sh0 cells).start (XU 0 css)).runs (picked picks) m=(e,Q)) (hQ:Q.Live):RunFacts css cells picks m e Q:=by
 have hs:=QZ picks
 have hg:=start_guards css (Xp.init sh0 cells) (fun j _=>h0 j)
 rw [show (Xp.init sh0 cells).n=0 from rfl] at hg
 obtain ⟨s1,s2,s3,s4⟩:=ZL css (Xp.init sh0 cells) (fun j _=>h0 j)
 rw [show (Xp.init sh0 cells).n=0 from rfl] at s1 s2 s3 s4
 obtain ⟨r1,r2⟩:=Wm (sched:=picked picks) m ((Xp.init sh0 cells).start (XU 0 css))
 rw [h,hg] at r1 r2
 replace r1:Goes (picked picks) ((Xp.init sh0 cells).start (bodiesOf 0 css)) Q:=r1
 obtain ⟨a1,a2⟩:=XdB (n:=0) hs h0 r1 hQ
 generalize hP:(Xp.init sh0 cells).start (bodiesOf 0 css)=P at r1 r2 s1 s2 s3 s4
 have e1:P.st.log = []:=by rw [s2];rfl
 have e2:P.st.went = []:=by rw [s2];rfl
 have e3:P.st.ready = []:=by rw [s2];rfl
 have e4:P.st.names = []:=by rw [s2];rfl
 have e5:P.st.cells=cells:=by rw [s2];rfl
 have hA:XfT nc P:=fun j hj=>by
  have hjl:j < css.length:=by rw [s1] at hj;omega
  obtain ⟨hp,_⟩:=s4 j css[j] (List.getElem?_eq_getElem hjl)
  rw [Nat.zero_add] at hp
  rw [hp]
  have:=(Wr j (hok css[j] (List.getElem_mem hjl))).pass (fun _=>[])
  rw [Qf] at this
  exact this
 obtain ⟨S,mm,q,r,hst⟩:=r1.steps hs hA
 obtain ⟨z0,z1,z2,z3⟩:=hst.lens ⟨e1,e2,e3⟩ mm (Nat.le_refl _)
 rw [hst.last] at z0 z1 z2 z3
 have hwent:(P.runs (picked picks) m).2.st.went.length≤P.st.went.length + m:=(runs_st (picked picks) m P).2
 have hPQ:P.runs (picked picks) m=(e,Q):=by rw [← hP,← hg];exact h
 rw [hPQ,e2] at hwent
 replace hwent:Q.st.went.length≤0 + m:=hwent
 refine ⟨a1,⟨_,_,_,_,hst.runOK (most:=(m:Int)) ⟨e1,e2,e3⟩ e4 hQ ?_,hst.memOK hs ⟨e1,e2,e3⟩ e4,?_,rfl,?_⟩,⟨by omega,by omega,by omega⟩,XcB,a2,r1.nodup hs (by rw [e4];exact List.nodup_nil),r1.few hs (by rw [e4];exact Nat.zero_le _),r1.left hs cells ⟨fun q a ha=>by rw [e1] at ha;simp at ha,fun c=>by rw [e1,e5];rfl⟩,fun i a ha=>?_⟩
 ·rcases r2 with ⟨h1,h2⟩|⟨h1,h2,h3⟩|⟨h1,h2,h3,h4⟩
  ·exact .inl ⟨h1,h2⟩
  ·exact .inr (.inl ⟨h1,h2,h3⟩)
  ·refine .inr (.inr ⟨h1,h2,h3,?_⟩)
   have h4:Q.st.went.length=P.st.went.length + m:=h4
   rw [e2] at h4
   simp at h4;omega
 ·show Q.st.names.map (S 0).st.cells=(S Q.st.log.length).st.names.map P.st.cells
  rw [z1,hst.last,hst.first]
 ·show (S Q.st.log.length).st.names.map P.st.cells=_
  rw [z1,hst.last,e5]
 ·have hi:i < mm:=by have:=(LE' ha).1;omega
  have:=(hst.at_ hs ⟨e1,e2,e3⟩ hi).1
  rw [this] at ha
  rw [← OI ha]
  obtain ⟨_,_,w3,_⟩:=hst.who i hi
  obtain ⟨b0,_⟩:=hst.lens ⟨e1,e2,e3⟩ i (by omega)
  show q i < _
  rw [b0,s1] at w3;omega
end
end Xp
end Go.Proofs.Ytdhnggjmegilkaa
namespace Go.Proofs.Ytdhnggjmegilkaa
open Go.Conc Go.RowKit
set_option maxRecDepth 100000
theorem XaY:∀ (L:List Xn) (i k:Nat) (a:Xn),L[i]? = some a→k < 8→(L.flatMap Yd)[i * 8 + k]? = (Yd a)[k]?
 | [],i,k,a,h,hk=>by simp at h
 | b::L,0,k,a,h,hk=>by
  obtain rfl:b=a:=by simpa using h
  rw [List.flatMap_cons,List.getElem?_append_left (by simp [Yd];omega)]
  rw [Nat.zero_mul,Nat.zero_add]
 | b::L,i + 1,k,a,h,hk=>by
  have hl:(Yd b).length=8:=rfl
  rw [List.flatMap_cons,List.getElem?_append_right (by rw [hl];omega),hl]
  have:=XaY L i k a (by simpa using h) hk
  rw [← this]
  congr 1
  omega
theorem XaZ {x:World} {M:Nat} {v:Value} {L:List Xn} (h:x.ownsRow M 172 8 v L.length (L.flatMap Yd)) (hl:L.length≤1000000):∃ a c,v=.slice a L.length c∧XT x x.heap.size a L:=by
 by_cases h0:L.length=0
 ·obtain ⟨a,c,rfl⟩:=Xo h
  exact ⟨a,c,rfl,hl,fun i e hi=>by rw [List.length_eq_zero_iff.1 h0] at hi;simp at hi⟩
 ·obtain ⟨g,cap,rfl,_,hg,hc⟩:=Y6 h h0
  refine ⟨_,cap,rfl,hl,fun i e hi=>⟨g,0,rfl,hg,fun k hk=>?_⟩⟩
  have h1:=XaY L i k e hi hk
  have h2:(Yd e)[k]? = some ((Yd e)[k]'(by show k < 8;exact hk)):=List.getElem?_eq_getElem _
  rw [h2] at h1 ⊢
  rw [Nat.zero_add]
  exact hc _ _ h1
theorem XaP {x:World} {M:Nat} {v:Value} {l:List Nat} (h:x.ownsRow M 3 1 v l.length (l.map fun i=>.int .i64 (i:Nat))):∃ a c,v=.slice a l.length c∧XS x a (l.map fun (i:Nat)=>(i:Int)):=by
 by_cases h0:l.length=0
 ·obtain ⟨a,c,rfl⟩:=Xo h
  exact ⟨a,c,rfl,fun i e hi=>by rw [List.length_eq_zero_iff.1 h0] at hi;simp at hi⟩
 ·obtain ⟨g,cap,rfl,_,hg,hc⟩:=Y6 h h0
  refine ⟨_,cap,rfl,fun i e hi=>⟨g,0,rfl,?_⟩⟩
  rw [Nat.zero_add]
  refine hc i _ ?_
  rw [List.getElem?_map] at hi ⊢
  cases hq:l[i]? with
  | none=>rw [hq] at hi;cases hi
  | some q=>rw [hq] at hi;rw [← OI hi];rfl
theorem XT.old {x y:World} {a:Option Addr} {L:List Xn} (h:XT x x.heap.size a L) (ho:Xf x y):XT y y.heap.size a L :=
 ⟨h.small,fun i e hi=>by
  obtain ⟨g,off,h1,h2,h3⟩:=(h.of ho.2).at_ i e hi
  exact ⟨g,off,h1,Nat.lt_of_lt_of_le h2 ho.1,h3⟩⟩
theorem XS.old {x y:World} {a:Option Addr} {l:List Int} (h:XS x a l) (ho:Xf x y):XS y a l:=fun i e hi=>by
 obtain ⟨g,off,h1,h2⟩:=h i e hi
 exact ⟨g,off,h1,ho.cell h2⟩
section
variable {Post:Value→World→Prop} {C:Ctx} {x:World} {c:Frame} {cs:List Frame}
theorem Xc6 {α:Type} {css:List (List (Xr α))} {cells:Nat→Int} {picks:List Int} {m n:Nat} {e:Int} {Q:Xp (Nat→List α)} (F:Xp.RunFacts css cells picks m e Q) (hm:m≤65536) (hn:css.length≤64) (hnn:n=css.length) {aL aW aR al aP:Option Addr} {cL cW cR cl cP:Nat}
 (hL:XT x x.heap.size aL Q.st.log) (hl:XT x x.heap.size al Q.left) (hW:XS x aW (Q.st.went.map fun (i:Nat)=>(i:Int))) (hR:XS x aR (Q.st.ready.map fun (i:Nat)=>(i:Int))) (hP:XS x aP picks) (hp:picks.length < 9000000000)
 (h:∀ y,Xf x y→JG Try.prog Post C (G (c.finish (.bool true)) cs) y) :
 JG Try.prog Post C (G (Frame.enter Try.prog 20 #[Xfd e Q.st.went.length (.slice aL Q.st.log.length cL) (.slice aW Q.st.went.length cW) (.slice aR Q.st.ready.length cR) (.slice al Q.left.length cl) (.slice none 0 0),.int .i64 n,.slice aP picks.length cP,.int .i64 m] .normal) (c::cs)) x:=by
 subst hnn
 refine JG.calls (F:=FX Vp) (Q:=fun u y=>u=.bool true∧Xf x y) (Zd _) (by kernel_rfl) (fun τ=>?_) (fun u y hq=>?_)
 ·obtain ⟨csAt,nowAt,firstAt,lastAt,o1,o2,o3,o4,o5⟩:=F.ok
  obtain ⟨l1,l2,l3⟩:=F.lens
  have hu:Xf x (under x τ 0):=⟨Nat.le_refl _,fun _ _=>rfl⟩
  have:=Xaw (w:=under x τ 0) (cL:=cL) (cW:=cW) (cR:=cR) (cl:=cl) (cP:=cP) (hL.old hu) (hl.old hu) (hW.old hu) (hR.old hu) (hP.old hu) (by rw [F.n];exact hn) (by omega) (by omega) (by omega) (by rw [List.length_map];exact l1) (by rw [List.length_map];exact l2) hp F.rise o1 o2 o3 o4
  rw [List.length_map,List.length_map,F.n] at this
  rw [show Q.st.went.length=Q.st.log.length from l1] at this ⊢
  refine this.mono ?_
  rintro e y ⟨rfl,h2⟩
  exact ⟨_,rfl,rfl,h2.old⟩
 ·obtain ⟨rfl,h1⟩:=hq
  exact h y h1
end
end Go.Proofs.Ytdhnggjmegilkaa
namespace Go.Proofs.Ytdhnggjmegilkaa
open Go.RowKit
set_option maxRecDepth 100000
section
variable {K:Wk} {gv0:List Bool} {xb j nc i:Nat} {l:List (Xr Int)} {T:List Int} {out:Bool} {op a e:Int} {w:World}
def Xdk (K:Wk) (gv0:List Bool) (xb j:Nat) (l:List (Xr Int)) (T:List Int) (out:Bool) (w:World) (r:Go.Ending) (w':World):Prop :=
 ∃ out' v,r=.returned (.int .i64 v)∧WS K gv0 xb j l T out' (.ret v) w'∧Kept (Zi K xb) w w'∧(out=true→out'=true)
theorem Xbx (hK:K.OK nc) (hnm:K.nm i=(2,(i:Int))) (h:WS K gv0 xb j l T out (YG op i a e) w) (hin:i < nc) :
 Calls Try.prog 24 #[.pointer (some ⟨xb,0,none⟩),ZR op i a e] w (Xdk K gv0 xb j l T out w):=by
 unfold ZR
 replace h:=HD h
 go_enter Try.func24,Try.ntmps24
 go_upto_region 3 with (fail)
 have hk:=((Kept.refl (fun _=>False) w).alloc (.cells #[.int .i8 op,.int .i64 i,.int .i64 a,.int .i64 e] 38)).alloc (.cells #[.int .i64 2,.int .i64 i] 51)
 have hp:Blk ((w.alloc (.cells #[.int .i8 op,.int .i64 i,.int .i64 a,.int .i64 e] 38)).alloc (.cells #[.int .i64 2,.int .i64 i] 51)) w.heap.size 38 #[.int .i8 op,.int .i64 i,.int .i64 a,.int .i64 e]:=(Blk.new w _ _).alloc _
 have hq:Blk ((w.alloc (.cells #[.int .i8 op,.int .i64 i,.int .i64 a,.int .i64 e] 38)).alloc (.cells #[.int .i64 2,.int .i64 i] 51)) (w.heap.size + 1) 51 #[.int .i64 2,.int .i64 i]:=heap_alloc2_new _ _ _
 generalize (w.alloc (.cells #[.int .i8 op,.int .i64 i,.int .i64 a,.int .i64 e] 38)).alloc (.cells #[.int .i64 2,.int .i64 i] 51)=w1 at hk hp hq ⊢
 generalize w.heap.size + 1=qb at hq ⊢
 generalize w.heap.size=pb at hp ⊢
 have p0:w1.cell? ⟨pb,0,none⟩=some (.int .i8 op):=Blk.cell hp 0
 have p2:w1.cell? ⟨pb,2,none⟩=some (.int .i64 a):=Blk.cell hp 2
 have p3:w1.cell? ⟨pb,3,none⟩=some (.int .i64 e):=Blk.cell hp 3
 have q0:w1.cell? ⟨qb,0,none⟩=some (.int .i64 2):=Blk.cell hq 0
 have q1:w1.cell? ⟨qb,1,none⟩=some (.int .i64 i):=Blk.cell hq 1
 have hpl:=Blk.lt hp
 have hql:=Blk.lt hq
 clear hp hq
 replace hk:=HD hk
 have hn:nmV (K.nm i)=.agg #[.int .i64 2,.int .i64 i]:=by rw [hnm];rfl
 have hops:op=1∨op=2∨op=3∨op=4∨op=5∨op=6∨¬ (1≤op∧op≤6):=by omega
 rcases hops with rfl|rfl|rfl|rfl|rfl|rfl|h0
 ·have hd:Calls Try.prog 89 #[.pointer (some ⟨xb,0,none⟩),.agg #[.int .i64 2,.int .i64 i]] w1 (fun r w'=>∃ out' t,r=.returned (.int .i64 t.was)∧WS K gv0 xb j l T out' (.ret (Z4 1 t)) w'∧Kept (Zi K xb) w1 w'∧(out=true→out'=true)):=by
   have h1:=h.out.kept hk.out
   rw [show YG 1 i a e=.acc ⟨1,i,0,0⟩ (fun t=>.ret (Z4 1 t)) by simp [YG,VD]] at h1
   have:=Xds hK i h1 hin
   rw [hn] at this
   exact this
  replace hd:=HD hd
  go_wp2_with (go_at_call 89;go_must (refine hd.out.mono ?_);rintro r w2 ⟨out',t,rfl,hs,hk2,ho⟩;replace hs:=HD hs;replace ho:=HD ho)
  go_ret
  exact ⟨out',_,rfl,hs.out,(hk.out.mono fun _ h=>h.elim).trans hk2,ho.out⟩
 ·have hd:Calls Try.prog 90 #[.pointer (some ⟨xb,0,none⟩),.agg #[.int .i64 2,.int .i64 i],.int .i64 a] w1 (fun r w'=>∃ out' t,r=.returned (.tuple #[])∧WS K gv0 xb j l T out' (.ret (Z4 2 t)) w'∧Kept (Zi K xb) w1 w'∧(out=true→out'=true)):=by
   have h1:=h.out.kept hk.out
   rw [show YG 2 i a e=.acc ⟨2,i,a,0⟩ (fun t=>.ret (Z4 2 t)) by simp [YG,VD]] at h1
   have:=XbM hK i a h1 hin
   rw [hn] at this
   exact this
  replace hd:=HD hd
  go_wp2_with (go_at_call 90;go_must (refine hd.out.mono ?_);rintro r w2 ⟨out',t,rfl,hs,hk2,ho⟩;replace hs:=HD hs;replace ho:=HD ho)
  go_ret
  exact ⟨out',_,rfl,hs.out,(hk.out.mono fun _ h=>h.elim).trans hk2,ho.out⟩
 ·have hd:Calls Try.prog 91 #[.pointer (some ⟨xb,0,none⟩),.agg #[.int .i64 2,.int .i64 i],.int .i64 a,.int .i64 e] w1 (fun r w'=>∃ out' t,r=.returned (.bool t.ok)∧WS K gv0 xb j l T out' (.ret (Z4 3 t)) w'∧Kept (Zi K xb) w1 w'∧(out=true→out'=true)):=by
   have h1:=h.out.kept hk.out
   rw [show YG 3 i a e=.acc ⟨3,i,a,e⟩ (fun t=>.ret (Z4 3 t)) by simp [YG,VD]] at h1
   have:=Xer hK i a e h1 hin
   rw [hn] at this
   exact this
  replace hd:=HD hd
  go_wp2_with (go_at_call 91;go_must (refine hd.out.mono ?_);rintro r w2 ⟨out',t,rfl,hs,hk2,ho⟩;replace hs:=HD hs;replace ho:=HD ho;obtain ⟨tw,tn,tk⟩:=t;cases tk)
  all_goals
   go_ret
   exact ⟨out',_,rfl,hs.out,(hk.out.mono fun _ h=>h.elim).trans hk2,ho.out⟩
 ·have hd:Calls Try.prog 92 #[.pointer (some ⟨xb,0,none⟩),.agg #[.int .i64 2,.int .i64 i],.int .i64 a] w1 (fun r w'=>∃ out' t,r=.returned (.int .i64 t.now)∧WS K gv0 xb j l T out' (.ret (Z4 4 t)) w'∧Kept (Zi K xb) w1 w'∧(out=true→out'=true)):=by
   have h1:=h.out.kept hk.out
   rw [show YG 4 i a e=.acc ⟨4,i,a,0⟩ (fun t=>.ret (Z4 4 t)) by simp [YG,VD]] at h1
   have:=Xes hK i a h1 hin
   rw [hn] at this
   exact this
  replace hd:=HD hd
  go_wp2_with (go_at_call 92;go_must (refine hd.out.mono ?_);rintro r w2 ⟨out',t,rfl,hs,hk2,ho⟩;replace hs:=HD hs;replace ho:=HD ho)
  go_ret
  exact ⟨out',_,rfl,hs.out,(hk.out.mono fun _ h=>h.elim).trans hk2,ho.out⟩
 ·have hd:Calls Try.prog 93 #[.pointer (some ⟨xb,0,none⟩),.agg #[.int .i64 2,.int .i64 i],.int .i64 a] w1 (fun r w'=>∃ out' t,r=.returned (.int .i64 t.was)∧WS K gv0 xb j l T out' (.ret (Z4 5 t)) w'∧Kept (Zi K xb) w1 w'∧(out=true→out'=true)):=by
   have h1:=h.out.kept hk.out
   rw [show YG 5 i a e=.acc ⟨5,i,a,0⟩ (fun t=>.ret (Z4 5 t)) by simp [YG,VD]] at h1
   have:=Xdq hK i a h1 hin
   rw [hn] at this
   exact this
  replace hd:=HD hd
  go_wp2_with (go_at_call 93;go_must (refine hd.out.mono ?_);rintro r w2 ⟨out',t,rfl,hs,hk2,ho⟩;replace hs:=HD hs;replace ho:=HD ho)
  go_ret
  exact ⟨out',_,rfl,hs.out,(hk.out.mono fun _ h=>h.elim).trans hk2,ho.out⟩
 ·have hd:Calls Try.prog 94 #[.pointer (some ⟨xb,0,none⟩),.agg #[.int .i64 2,.int .i64 i],.int .i64 a] w1 (fun r w'=>∃ out' t,r=.returned (.int .i64 t.was)∧WS K gv0 xb j l T out' (.ret (Z4 6 t)) w'∧Kept (Zi K xb) w1 w'∧(out=true→out'=true)):=by
   have h1:=h.out.kept hk.out
   rw [show YG 6 i a e=.acc ⟨6,i,a,0⟩ (fun t=>.ret (Z4 6 t)) by simp [YG,VD]] at h1
   have:=Xdr hK i a h1 hin
   rw [hn] at this
   exact this
  replace hd:=HD hd
  go_wp2_with (go_at_call 94;go_must (refine hd.out.mono ?_);rintro r w2 ⟨out',t,rfl,hs,hk2,ho⟩;replace hs:=HD hs;replace ho:=HD ho)
  go_ret
  exact ⟨out',_,rfl,hs.out,(hk.out.mono fun _ h=>h.elim).trans hk2,ho.out⟩
 ·have d1:(op == 1)=false:=by simp only [beq_eq_false_iff_ne,ne_eq];omega
  have d2:(op == 2)=false:=by simp only [beq_eq_false_iff_ne,ne_eq];omega
  have d3:(op == 3)=false:=by simp only [beq_eq_false_iff_ne,ne_eq];omega
  have d4:(op == 4)=false:=by simp only [beq_eq_false_iff_ne,ne_eq];omega
  have d5:(op == 5)=false:=by simp only [beq_eq_false_iff_ne,ne_eq];omega
  have d6:(op == 6)=false:=by simp only [beq_eq_false_iff_ne,ne_eq];omega
  have h1:=h.out.kept hk.out
  rw [show YG op i a e=.ret 0 by unfold YG;rw [if_neg h0]] at h1
  replace h1:=HD h1
  clear h0
  go_wp2_with fail
  go_ret
  exact ⟨out,0,rfl,h1.out,hk.out.mono fun _ h=>h.elim,id⟩
end
end Go.Proofs.Ytdhnggjmegilkaa
