/- The ring: Put where there is no room, Len, Take. -/
import Derived.Test.YtdhnggjmegilkaaSRoC
import Derived.Test.YtdhnggjmegilkaaSGtT
import Derived.Test.YtdhnggjmegilkaaSRnU
import Derived.Test.YtdhnggjmegilkaaSPlB
import Derived.Laws.Bits64b
set_option linter.all false
set_option maxRecDepth 100000
set_option maxHeartbeats 16000000
namespace Go.Proofs.Ytdhnggjmegilkaa
open Go.Conc Go.RowKit
open Go.ConcN (upd upd_same upd_ne)
set_option maxRecDepth 100000
structure Xgc (Sh:Type) (A:Nat→Nat) (nc:Nat) where
 M:Sh→(Nat→Prop)→World→Prop
 frame:∀ {sh:Sh} {col:Nat→Prop} {x:World},M sh col x→∀ (col':Nat→Prop) (y:World),x.heap.size≤y.heap.size→(∀ r,r < x.heap.size→¬ col r→(∀ i,i < nc→r≠A i)→y.heap[r]? = x.heap[r]?)→(∀ r,r < x.heap.size→col' r→col r)→M sh col' y
theorem XN.lt {x:World} {b:Nat} {v:Int} (h:XN x b v):b < x.heap.size:=(GE h).1
structure Xdu {Sh:Type} {A:Nat→Nat} {nc:Nat} (W:Xgc Sh A nc) where
 k:Nat→Addr→Prop
 i:∀ {sh:Sh} {col:Nat→Prop} {x:World},W.M sh col x→∀ j a,k j a→a.block < x.heap.size∧¬ col a.block∧∀ c,c < nc→a.block≠A c
def Xdu.no {Sh:Type} {A:Nat→Nat} {nc:Nat} (W:Xgc Sh A nc):Xdu W:=⟨fun _ _=>False,fun _ _ _ h=>h.elim⟩
def Xed {Sh:Type} (A:Nat→Nat) (nc:Nat) (inj:∀ a b,a < nc→b < nc→A a=A b→a=b) (W:Xgc Sh A nc) (fin:XV Sh:=XV.no Sh) (kp:Xdu W:=Xdu.no W):Zv Sh where
 fin:=fin
 keep:=kp.k
 keepI:=fun h j a ha=>kp.i h.2 j a ha
 A:=A
 nc:=nc
 I:=fun sh cells col x=>(∀ i,i < nc→XN x (A i) (cells i)∧¬ col (A i))∧W.M sh col x
 inj:=inj
 cell:=fun h i hi=>⟨⟨_,_,(h.1 i hi).1⟩,(h.1 i hi).1.c0,(h.1 i hi).2⟩
 frame:=fun h col' y hs ho hc=>⟨fun i hi=>by
  obtain ⟨h1,h2⟩:=h.1 i hi;exact ⟨(ho _ h1.lt h2).trans h1,fun e=>h2 (hc _ h1.lt e)⟩,W.frame h.2 col' y hs (fun r hr hn _=>ho r hr hn) hc⟩
 set:=fun {sh cells col x} h i v col' y hi hs ho hv hc=>⟨fun j hj=>by
  obtain ⟨h1,h2⟩:=h.1 j hj;refine ⟨?_,fun e=>h2 (hc _ h1.lt e)⟩
  by_cases e:j=i
  ·subst e
   rw [upd_same];exact hv.trans (h1.set v)
  ·rw [upd_ne _ _ e]
   exact (ho _ h1.lt h2 fun e2=>e (inj j i hj hi e2)).trans h1,W.frame h.2 col' y hs (fun r hr hn hna=>ho r hr hn (hna i hi)) hc⟩
section
variable {Sh:Type} {Post:Value→World→Prop} {S:Zv Sh} {num tb rb m:Nat} {cb c:Frame} {Pv:Nat→Prop} {x0:World} {f:Told→Value} {k:Told→Xx Sh Unit}
theorem XR.body (h1:∀ (C:Ctx) (x:World),JG Try.prog Post C (G (cb.raise [{ v:=YI,recovered:=false }]) [YX Try.prog]) x→JG Try.prog Post C (G (c.raise [{ v:=YI,recovered:=false }]) [cb,YX Try.prog]) x)
 (h2:∀ m',m=m' + 1→∀ (C:Ctx) (x:World) (col:Nat→Prop) (sh:Sh) (cells:Nat→Int) (a:Told),C.d=0→Qn x tb rb→col tb→(∀ r,col r→r < x.heap.size)→(∀ r,Pv r→¬ col r∧x.heap[r]? = x0.heap[r]?)→(∀ b,S.keep num b→x.cell? b=x0.cell? b)→S.I sh cells col x →
   Reach Post S num tb cb (fun Pv y=>XR Post S num tb rb cb m' Pv y QG) C col cells x ((k a).pass sh).1 ((k a).pass sh).2→JG Try.prog Post C (G (c.finish (f a)) [cb,YX Try.prog]) x):XR Post S num tb rb cb m Pv x0 f k c [cb,YX Try.prog]:=by
 have hs:Yq Post cb c [cb,YX Try.prog]:=fun C x hb=>h1 C x (hb x (Nat.le_refl _) fun _ _=>rfl);cases m with
 | zero=>exact hs
 | succ m=>exact ⟨hs,fun C x col sh cells a e1 e2 e3 e4 ep ek e5 e6=>h2 m rfl C x col sh cells a e1 e2 e3 e4 ep ek (S.frame e5 _ _ (Nat.le_refl _) (fun _ _ _=>rfl) fun _ _ h=>.inl h) e6⟩
end
section
variable {Post:Value→World→Prop} {C:Ctx} {x:World} {c:Frame} {cs:List Frame}
end
section
variable {Post:Value→World→Prop} {bc bg cb num m:Nat} {hne:bc≠cb∧bg≠cb}
end
structure Ctx.Alone (C:Ctx) (N:Nat):Prop where
 d:C.d=0
 h:C.h < C.n
 lo:C.lo≤N
 none:∀ i,i≠C.h→C.Ch i=none
structure Ctx.Same (C C':Ctx):Prop where
 h:C'.h=C.h
 lo:C'.lo=C.lo
 io:C'.io=C.io
theorem Qz {w:World} {N:Nat} {e:TypeId} {size:Nat} {v:Value} {n:Nat} {xs:List Value} (h:w.ownsRow N e size v n xs) (hn:n≠0):∃ g cap,v=.slice (some ⟨g,0,none⟩) n cap∧N≤g∧g < w.heap.size∧∀ i u,xs[i]? = some u→w.cell? (th g i)=some u:=by
 rcases h.2 with ⟨_,h0⟩|⟨g,cap,cur,rfl,hb,hg,_,_,_,ht⟩
 ·exact absurd h0 hn
 ·refine ⟨g,cap,rfl,hb,(GE hg).1,fun i u hu=>?_⟩
  rw [Xa hg,← Array.getElem?_toList];rw [← ht,List.getElem?_take] at hu
  split at hu
  ·exact hu
  ·cases hu
section
variable {Post:Value→World→Prop} {C:Ctx} {x:World} {c:Frame} {cs:List Frame}
end
section
variable {α:Type}
def Qa (j:Nat) (cs:List (Xm α)):Xx (Nat→List α) Unit:=.act id fun s=>if (s j).isEmpty then Yp j cs else .out
theorem Vq {j:Nat} {cs:List (Xm α)} {s:Nat→List α} (h:s j = []):(Qa j cs).pass s=(Yp j cs).pass s:=by
 simp [Qa,Xx.pass,h]
theorem XcX {j:Nat} {cs:List (Xm α)} {s:Nat→List α} (h:s j≠[]):(Qa j cs).pass s=(s,.out):=by
 have:(s j).isEmpty=false:=by cases hs:s j with
  | nil=>exact absurd hs h
  | cons a l=>rfl
 simp [Qa,Xx.pass,h]
def XX (b:Nat):List (List (Xm α))→List (Xx (Nat→List α) Unit)
 | []=>[]
 | cs::l=>Qa b cs::XX (b + 1) l
theorem Q3:∀ (css:List (List (Xm α))) (b j:Nat),(XX b css)[j]? = (css[j]?).map (Qa (b + j))
 | [],b,j=>by simp [XX]
 | cs::l,b,0=>by simp [XX]
 | cs::l,b,j + 1=>by
  have:=Q3 l (b + 1) j
  simp only [XX,List.getElem?_cons_succ,this];rw [show b + 1 + j=b + (j + 1) by omega]
inductive Xm.NoOut:Xm α→Prop
 | ret (a:α):NoOut (.ret a)
 | acc {r:Ask} {k:Told→Xm α} (hk:∀ a,NoOut (k a)):NoOut (.acc r k)
theorem Xm.NoOut.into {Sh:Type} {g:α→Xx Sh Unit} (hg:∀ a,Go.Proofs.Ytdhnggjmegilkaa.NoOut (g a)):∀ {c:Xm α},c.NoOut→Go.Proofs.Ytdhnggjmegilkaa.NoOut (c.into g)
 | .ret a,_=>hg a
 | .acc r k,h=>by
  cases h with
  | acc hk=>exact .acc fun a=>(hk a).into hg
namespace Xp
theorem start_guards:∀ (css:List (List (Xm α))) (P:Xp (Nat→List α)),(∀ j,P.n≤j→P.st.sh j = [])→P.start (XX P.n css)=P.start (bodiesOf P.n css)
 | [],P,h=>rfl
 | cs::l,P,h=>by
  have hs:settle { P with n:=P.n + 1 } P.n (Qa P.n cs)=settle { P with n:=P.n + 1 } P.n (Yp P.n cs):=by
   unfold settle;simp only [Vq (h P.n (Nat.le_refl _))]
  show (settle { P with n:=P.n + 1 } P.n (Qa P.n cs)).start _=(settle { P with n:=P.n + 1 } P.n (Yp P.n cs)).start _;rw [hs];have hn:(settle { P with n:=P.n + 1 } P.n (Yp P.n cs)).n=P.n + 1:=rfl;rw [show XX (P.n + 1) l=XX (settle { P with n:=P.n + 1 } P.n (Yp P.n cs)).n l from rfl,show bodiesOf (P.n + 1) l=bodiesOf (settle { P with n:=P.n + 1 } P.n (Yp P.n cs)).n l from rfl];refine start_guards l _ fun j hj=>?_;have hp:=Qh P.n cs P.st.sh;have hsh:(settle { P with n:=P.n + 1 } P.n (Yp P.n cs)).st.sh=upd P.st.sh P.n (P.st.sh P.n ++ (QS cs).1):=congrArg Prod.fst hp;rw [hn] at hj;rw [hsh,upd_ne _ _ (by omega)];exact h j (by omega)
end Xp
theorem QB:∀ (css:List (List (Xm α))) (b:Nat) (l1 l2:List (Xx (Nat→List α) Unit)),XX b css=l1 ++ l2→l1=XX b (css.take l1.length)
 | css,b,[],l2,h=>by simp [XX]
 | [],b,p::l1,l2,h=>by simp [XX] at h
 | cs::l,b,p::l1,l2,h=>by
  simp only [XX,List.cons_append,List.cons.injEq] at h;obtain ⟨rfl,h2⟩:=h
  have:=QB l (b + 1) l1 l2 h2
  simp only [List.length_cons,List.take_succ_cons,XX,List.cons.injEq,true_and];exact this
end
inductive Fuel {Sh α:Type}:Nat→Xx Sh α→Prop
 | ret (n:Nat) (a:α):Fuel n (.ret a)
 | fall (n:Nat):Fuel n .fall
 | acc0 {r:Ask} {k:Told→Xx Sh α}:Fuel 0 (.acc r k)
 | acc {n:Nat} {r:Ask} {k:Told→Xx Sh α} (hk:∀ a,Fuel n (k a)):Fuel (n + 1) (.acc r k)
 | act {n:Nat} {f:Sh→Sh} {k:Sh→Xx Sh α} (hk:∀ s,Fuel n (k s)):Fuel n (.act f k)
section
variable {Sh α:Type}
theorem Fuel.less:∀ {p:Xx Sh α} {n:Nat},Fuel (n + 1) p→Fuel n p
 | .ret a,n,h=>.ret n a
 | .fall,n,h=>.fall n
 | .out,n,h=>by cases h
 | .acc r k,0,h=>.acc0
 | .acc r k,n + 1,h=>by
  cases h with
  | acc hk=>exact .acc fun a=>(hk a).less
 | .act f k,n,h=>by
  cases h with
  | act hk=>exact .act fun s=>(hk s).less
theorem Fuel.pass:∀ {p:Xx Sh α} {n:Nat},Fuel n p→∀ s,Fuel n (p.pass s).2
 | .ret a,n,h,s=>h
 | .fall,n,h,s=>h
 | .out,n,h,s=>h
 | .acc r k,n,h,s=>h
 | .act f k,n,h,s=>by
  cases h with
  | act hk=>simp only [Xx.pass];exact Fuel.pass (hk s) (f s)
def XV.fuel (Sh:Type):XV Sh where
 f:=fun m P=>∀ j,j < P.n→Fuel m (P.progs j)
 out:=fun h j hj e=>by have:=h j hj;rw [e] at this;cases this
 less:=fun h j hj=>(h j hj).less
 st:=fun _ _ h=>h
 turn:=fun {m P q} h hq j hj=>by
  obtain ⟨h1,h2⟩:=List.mem_filter.1 hq;have hqn:=List.mem_range.1 h1;unfold Xp.can at h2;cases hp:P.progs q with
  | acc r k =>
   rw [Xp.turn_acc hp] at hj ⊢;show Fuel m (upd P.progs q _ j)
   by_cases e:j=q
   ·subst e
    rw [upd_same]
    have:=h j hj
    rw [hp] at this;cases this with
    | acc hk=>exact (hk _).pass _
   ·rw [upd_ne _ _ e];exact (h j hj).less
  | ret a=>rw [hp] at h2;simp [Xx.req] at h2
  | fall=>rw [hp] at h2;simp [Xx.req] at h2
  | out=>rw [hp] at h2;simp [Xx.req] at h2
  | act f k=>rw [hp] at h2;simp [Xx.req] at h2
theorem XV.fuel_start:∀ (l:List (Xx Sh Unit)) (P:Xp Sh) (m:Nat),(∀ p∈l,Fuel m p)→(XV.fuel Sh).f m P→(XV.fuel Sh).f m (P.start l)
 | [],P,m,_,h=>h
 | p::l,P,m,hl,h=>by
  refine XV.fuel_start l _ m (fun q hq=>hl q (List.mem_cons_of_mem _ hq)) fun j hj=>?_;show Fuel m (upd P.progs P.n (p.pass P.st.sh).2 j)
  by_cases e:j=P.n
  ·subst e;rw [upd_same];exact (hl p List.mem_cons_self).pass _
  ·rw [upd_ne _ _ e]
   replace hj:j < P.n + 1:=hj;exact h j (by omega)
inductive Xm.Fuel:Nat→Xm α→Prop
 | ret (n:Nat) (a:α):Fuel n (.ret a)
 | acc0 {r:Ask} {k:Told→Xm α}:Fuel 0 (.acc r k)
 | acc {n:Nat} {r:Ask} {k:Told→Xm α} (hk:∀ a,Fuel n (k a)):Fuel (n + 1) (.acc r k)
theorem Xm.Fuel.into {g:α→Xx Sh Unit}:∀ {c:Xm α} {n:Nat},c.Fuel n→(∀ a,Go.Proofs.Ytdhnggjmegilkaa.Fuel n (g a))→Go.Proofs.Ytdhnggjmegilkaa.Fuel n (c.into g)
 | .ret a,n,_,hg=>hg a
 | .out,n,h,_=>by cases h
 | .acc r k,0,h,hg=>.acc0
 | .acc r k,n + 1,h,hg=>by
  cases h with
  | acc hk=>exact .acc fun a=>(hk a).into fun b=>(hg b).less
theorem Xm.Fuel.less:∀ {c:Xm α} {n:Nat},c.Fuel (n + 1)→c.Fuel n
 | .ret a,n,h=>.ret n a
 | .out,n,h=>by cases h
 | .acc r k,0,h=>.acc0
 | .acc r k,n + 1,h=>by
  cases h with
  | acc hk=>exact .acc fun a=>(hk a).less
theorem Xm.NoOut.fuel:∀ {c:Xm α} (n:Nat),c.NoOut→c.Fuel n
 | .ret a,n,_=>.ret n a
 | .acc r k,0,_=>.acc0
 | .acc r k,n + 1,h=>by
  cases h with
  | acc hk=>exact .acc fun a=>(hk a).fuel n
theorem UL (j n:Nat):∀ {cs:List (Xm α)},(∀ c∈cs,c.Fuel n)→Go.Proofs.Ytdhnggjmegilkaa.Fuel n (Yp j cs)
 | [],_=>.ret n ()
 | c::l,h=>(h c List.mem_cons_self).into fun a=>.act fun _=>UL j n fun d hd=>h d (List.mem_cons_of_mem _ hd)
theorem Xam {css:List (List (Xm α))} {cells:Nat→Int} {sh0:Nat→List α} (h0:∀ j,sh0 j = []) (m:Nat) (hno:∀ cs∈css,∀ c∈cs,c.Fuel m) (l1 l2:List (Xx (Nat→List α) Unit)) (h:XX 0 css=l1 ++ l2):(XV.fuel (Nat→List α)).f m ((Xp.init sh0 cells).start l1):=by
 rw [QB css 0 l1 l2 h];have h1:=Xp.start_guards (css.take l1.length) (Xp.init sh0 cells) (fun j _=>h0 j);rw [show (Xp.init sh0 cells).n=0 from rfl] at h1;rw [h1];have hb:∀ (css':List (List (Xm α))) (b:Nat),(∀ cs∈css',∀ c∈cs,c.Fuel m)→∀ p∈Xp.bodiesOf b css',Go.Proofs.Ytdhnggjmegilkaa.Fuel m p:=by
  intro css'
  induction css' with
  | nil=>intro b _ p hp;simp [Xp.bodiesOf] at hp
  | cons cs l ih =>
   intro b hn p hp;rcases List.mem_cons.1 hp with rfl|hp
   ·exact UL b m (hn cs List.mem_cons_self)
   ·exact ih (b + 1) (fun cs' h'=>hn cs' (List.mem_cons_of_mem _ h')) p hp
 exact XV.fuel_start _ _ _ (hb _ _ fun cs hcs=>hno cs (List.mem_of_mem_take hcs)) (fun j hj=>absurd hj (Nat.not_lt_zero j))
end
end Go.Proofs.Ytdhnggjmegilkaa
namespace Go.Proofs.Ytdhnggjmegilkaa
open Go.Conc Go.RowKit
theorem VP (k:Nat) (hk:k≤12) (p:Int):ixZ (2 ^ k) p=p % ((2 ^ k:Nat):Int):=by
 have hb:2 ^ k≤4096:=Nat.pow_le_pow_right (by decide) hk;have h1:1≤2 ^ k:=Nat.one_le_two_pow;have hd:((2 ^ k:Nat):Int) ∣ 18446744073709551616:=by
  have h3:((2 ^ k:Nat):Int) ∣ ((2 ^ 64:Nat):Int):=Int.natCast_dvd_natCast.2 (Nat.pow_dvd_pow 2 (by omega));have h2:((2 ^ 64:Nat):Int)=18446744073709551616:=by decide
  rw [h2] at h3;exact h3
 have e2:IntKind.u64.wrap (wrap64 (((2 ^ k:Nat):Int) - 1))=((2 ^ k - 1:Nat):Int):=by
  generalize hz:2 ^ k=z at hb h1;rw [IntKind.wrap_u64];unfold wrap64;omega
 obtain ⟨q,hq⟩:∃ q:Nat,IntKind.u64.wrap p=(q:Int):=⟨(IntKind.u64.wrap p).toNat,by rw [IntKind.wrap_u64];omega⟩
 have hq2:q < 18446744073709551616:=by rw [IntKind.wrap_u64] at hq;omega
 have hmod:(q:Int)=p % 18446744073709551616:=by rw [← hq,IntKind.wrap_u64]
 unfold ixZ;rw [e2,hq,bits_and_u64_nat _ _ hq2 (by omega),Nat.and_two_pow_sub_one_eq_mod]
 push_cast
 rw [hmod]
 have:=Int.emod_emod_of_dvd p hd
 push_cast at this
 exact this
theorem Xdl (k:Nat) (h1:1≤k) (hk:k≤12):bits .and .i64 ((2 ^ k:Nat):Int) (wrap64 (((2 ^ k:Nat):Int) - 1))=0:=by
 have:∀ k,k < 13→1≤k→bits .and .i64 ((2 ^ k:Nat):Int) (wrap64 (((2 ^ k:Nat):Int) - 1))=0:=by decide +kernel
 exact this k (by omega) h1
theorem Xfj (k:Nat) (hk:k≤12) (p:Int) (i j:Nat) (hi:i < 2 ^ k) (hj:j < 2 ^ k) (h:ixZ (2 ^ k) (p + i)=ixZ (2 ^ k) (p + j)):i=j:=by
 rw [VP k hk,VP k hk] at h;generalize 2 ^ k=z at *;have h3:((p + i) - (p + j)) % (z:Int)=0:=Int.emod_eq_emod_iff_emod_sub_eq_zero.1 h;have h4:((i:Int) - j) % (z:Int)=0:=by rw [← h3];congr 1;omega
 have h5:(z:Int) ∣ (i:Int) - j:=Int.dvd_of_emod_eq_zero h4;obtain ⟨c,hc⟩:=h5;rcases Int.lt_trichotomy c 0 with h6|h6|h6
 ·have:(z:Int) * c≤(z:Int) * (-1):=Int.mul_le_mul_of_nonneg_left (by omega) (by omega)
  omega
 ·subst h6;omega
 ·have:(z:Int) * 1≤(z:Int) * c:=Int.mul_le_mul_of_nonneg_left (by omega) (by omega)
  omega
theorem XdX (k:Nat) (hk:k≤12) (p:Int):ixZ (2 ^ k) (wrap64 p)=ixZ (2 ^ k) p:=by
 have e:IntKind.u64.wrap (wrap64 p)=IntKind.u64.wrap p:=by rw [IntKind.wrap_u64,IntKind.wrap_u64];unfold wrap64;omega
 unfold ixZ;rw [e]
theorem Xbw (k:Nat) (hk:k≤12) (p:Int):0≤ixZ (2 ^ k) p∧ixZ (2 ^ k) p < ((2 ^ k:Nat):Int):=by
 rw [VP k hk]
 have:(0:Int) < ((2 ^ k:Nat):Int):=by have:1≤2 ^ k:=Nat.one_le_two_pow;omega
 exact ⟨Int.emod_nonneg _ (by omega),Int.emod_lt_of_pos _ this⟩
end Go.Proofs.Ytdhnggjmegilkaa
namespace Go.Proofs.Ytdhnggjmegilkaa
open Go.Conc Go.RowKit
open Go.ConcN (upd upd_same upd_ne)
set_option maxRecDepth 100000
section
variable {Post:Value→World→Prop} {C:Ctx} {x:World} {c:Frame} {cs:List Frame} {rb pb n cap ic tb sb:Nat} {vo:Value} {p t s v:Int}
theorem Xgs (ho:x.heap[rb]? = some (.cells #[P0 ic,vo,.slice (some ⟨pb,0,none⟩) n cap] 115 (0,0))) (hi0:0≤ixZ n p) (hi1:ixZ n p < n)
 (he:Xr x ic p) (hp:x.cell? (th pb ((ixZ n p).toNat * 2))=some (P0 tb)) (hq:x.cell? (th pb ((ixZ n p).toNat * 2 + 1))=some (P0 sb)) (ht:Xr x tb t) (hs:Xr x sb s) (hd:IntKind.i64.wrap (t - IntKind.i64.wrap (p + 0))=0)
 (n1:rb≠ic) (n2:pb≠ic) (n3:tb≠ic) (n4:sb≠ic) (n5:tb≠sb) (n6:pb≠sb)
 (h:JG Try.prog Post C (G (c.finish (.int .i64 0)) cs) (((x.setCell (th ic 0) (.int .i64 (IntKind.i64.wrap (p + 1)))).setCell (th sb 0) (.int .i64 v)).setCell (th tb 0) (.int .i64 (IntKind.i64.wrap (p + 1))))) :
 JG Try.prog Post C (G (Frame.enter Try.prog 39 #[P0 rb,.pointer none,.int .i64 v] .normal) (c::cs)) x:=by
 refine Xu Try.func39 (by rfl) (by rfl) ?_;simp only [Try.f39,Option.getD_some];walk_nrm;have r0:x.cell? (th rb 0)=some (P0 ic):=Xa ho 0
 repeat refine kx ?_
 refine kf (args:=#[P0 rb]) Try.func109 ?_;refine ZT ho ?_;rw [Frame.finish_at];walk_nrm
 repeat refine kx ?_
 refine kf (args:=#[P0 rb,.pointer none,P0 ic,.int .i64 0]) Try.func110 ?_;refine Xa1 ho hi0 hi1 he hp ht hd ?_;rw [Frame.finish_at];walk_nrm;obtain ⟨y,hy⟩:∃ y,y=x.setCell (th ic 0) (.int .i64 (IntKind.i64.wrap (p + 1))):=⟨_,rfl⟩
 rw [← hy] at h ⊢;have yo:=(Xb (w:=x) (b:=ic) (k:=0) (v:=.int .i64 (IntKind.i64.wrap (p + 1))) n1).trans ho;rw [← hy] at yo;have yp:y.cell? (th pb ((ixZ n p).toNat * 2))=some (P0 tb):=by rw [hy];exact Xi (by simp [th,n2]) hp
 have yq:y.cell? (th pb ((ixZ n p).toNat * 2 + 1))=some (P0 sb):=by rw [hy];exact Xi (by simp [th,n2]) hq
 have yt:Xr y tb t:=by rw [hy];exact ht.set_ne n3
 have ys:Xr y sb s:=by rw [hy];exact hs.set_ne n4
 clear hy
 repeat refine kx ?_
 refine kf (args:=#[P0 rb,.int .i64 p]) Try.func111 ?_;refine Xfx yo hi0 hi1 ?_;rw [Frame.finish_at];walk_nrm;generalize hg:(ixZ n p).toNat * 2=g at yp yq ⊢
 repeat refine kx ?_
 refine kf (args:=#[P0 sb,.pointer none,.int .i64 v]) Try.func79 ?_;refine WQ ys ?_;rw [Frame.finish_at]
 try walk_nrm
 have zp:(y.setCell (th sb 0) (.int .i64 v)).cell? (th pb g)=some (P0 tb):=Xi (by simp [th,n6]) yp
 repeat refine kx ?_
 refine kf (args:=#[P0 tb,.pointer none,.int .i64 (IntKind.i64.wrap (p + 1))]) Try.func79 ?_;refine WQ (yt.set_ne n5) ?_;rw [Frame.finish_at]
 try walk_nrm
 repeat refine kx ?_
 refine JG.ret ?_;exact JG.leave rfl rfl Try.func39 (fun τ d=>results_tmp (t:=6) rfl _ _ _) h
end
section
variable {Post:Value→World→Prop} {C:Ctx} {x:World} {c:Frame} {cs:List Frame} {rb pb n cap ic oc tb sb:Nat} {vo:Value} {p o t s v:Int}
theorem XfQ (ho:x.heap[rb]? = some (.cells #[P0 ic,vo,.slice (some ⟨pb,0,none⟩) n cap] 115 (0,0))) (hi0:0≤ixZ n p) (hi1:ixZ n p < n)
 (he:Xr x ic p) (hp:x.cell? (th pb ((ixZ n p).toNat * 2))=some (P0 tb)) (ht:Xr x tb t) {dd:Int} (hd:IntKind.i64.wrap (t - IntKind.i64.wrap (p + 0))=dd) (hd0:(dd == 0)=false) (hd1:decide (dd < 0)=true)
 (h:JG Try.prog Post C (G (c.finish (.int .i64 12)) cs) x) :
 JG Try.prog Post C (G (Frame.enter Try.prog 39 #[P0 rb,.pointer none,.int .i64 v] .normal) (c::cs)) x:=by
 refine Xu Try.func39 (by rfl) (by rfl) ?_;simp only [Try.f39,Option.getD_some];walk_nrm;have r0:x.cell? (th rb 0)=some (P0 ic):=Xa ho 0
 repeat refine kx ?_
 refine kf (args:=#[P0 rb]) Try.func109 ?_;refine ZT ho ?_;rw [Frame.finish_at];walk_nrm
 repeat refine kx ?_
 refine kf (args:=#[P0 rb,.pointer none,P0 ic,.int .i64 0]) Try.func110 ?_;refine Xa2 ho hi0 hi1 he hp ht hd hd0 hd1 ?_;rw [Frame.finish_at];walk_nrm
 repeat refine kx ?_
 refine JG.ret ?_;exact JG.leave rfl rfl Try.func39 (fun τ d=>results_tmp (t:=6) rfl _ _ _) h
theorem Xgu (ho:x.heap[rb]? = some (.cells #[P0 ic,P0 oc,vo] 115 (0,0))) (he:Xr x ic p) (hoc:Xr x oc o)
 (h:JG Try.prog Post C (G (c.finish (.int .i64 (IntKind.i64.wrap (p - o)))) cs) x) :
 JG Try.prog Post C (G (Frame.enter Try.prog 43 #[P0 rb,.pointer none] .normal) (c::cs)) x:=by
 refine Xu Try.func43 (by rfl) (by rfl) ?_;simp only [Try.f43,Option.getD_some];walk_nrm;have r0:x.cell? (th rb 0)=some (P0 ic):=Xa ho 0;have r1:x.cell? (th rb 1)=some (P0 oc):=Xa ho 1
 repeat refine kx ?_
 refine kf (args:=#[P0 rb]) Try.func109 ?_;refine ZT ho ?_;rw [Frame.finish_at];walk_nrm
 repeat refine kx ?_
 refine kf (args:=#[P0 oc,.pointer none]) Try.func29 ?_;refine UG hoc ?_;rw [Frame.finish_at];walk_nrm
 repeat refine kx ?_
 refine kf (args:=#[P0 ic,.pointer none]) Try.func29 ?_;refine UG he ?_;rw [Frame.finish_at];walk_nrm
 repeat refine kx ?_
 refine JG.ret ?_;exact JG.leave rfl rfl Try.func43 (fun τ d=>results_tmp (t:=4) rfl _ _ _) h
