/- What the walks of several laws share: more mild functions; a free cell's Add and Swap under J, cell.New; worlds whose old blocks stand. -/
import Derived.Test.YtdhnggjmegilkaaORnT
import Derived.Test.YtdhnggjmegilkaaOGtF
import Derived.Test.YtdhnggjmegilkaaOGtO
import Derived.Test.YtdhnggjmegilkaaOGtK
import Derived.Test.YtdhnggjmegilkaaOTkI
import Derived.Test.YtdhnggjmegilkaaOCell
set_option linter.all false
set_option maxRecDepth 100000
set_option maxHeartbeats 16000000
namespace Go.Proofs.Ytdhnggjmegilkaa
open Go.Conc Go.RowKit
open Go.ConcN (upd upd_same upd_ne)
set_option maxRecDepth 100000
theorem XbI:∀ (all:List Thr) (can:Nat→Bool) (f:Nat→Nat) (off:Nat),(∀ (j:Nat) (t:Thr),all[j]? = some t→t.may=can (off + j)∧t.tb=f (off + j))→Yx all=((List.range' off all.length).filter can).map fun i=>P0 (f i):=by
 intro all
 induction all with
 | nil=>intros;rfl
 | cons t l ih =>
  intro can f off h;obtain ⟨h1,h2⟩:=h 0 t rfl;have hi:=ih can f (off + 1) (fun j u e=>by
   have:=h (j + 1) u (by simpa using e)
   rw [show off + (j + 1)=off + 1 + j by omega] at this;exact this)
  unfold Yx at hi ⊢;rw [List.length_cons,List.range'_succ,List.filter_cons,List.filter_cons];rw [Nat.add_zero] at h1 h2;rw [← h1];cases hm:t.may<;>simp [hi,h2]
theorem Xfy:∀ (all:List Thr) (e:Nat→Bool) (off:Nat),(∀ (j:Nat) (t:Thr),all[j]? = some t→t.e=e (off + j))→(all.all fun t=>t.e)=(List.range' off all.length).all e:=by
 intro all
 induction all with
 | nil=>intros;rfl
 | cons t l ih =>
  intro e off h;have h1:=h 0 t rfl;have hi:=ih e (off + 1) (fun j u q=>by
   have:=h (j + 1) u (by simpa using q)
   rw [show off + (j + 1)=off + 1 + j by omega] at this;exact this)
  rw [List.length_cons,List.range'_succ,List.all_cons,List.all_cons,hi,h1,Nat.add_zero]
section
variable {Sh:Type} {Post:Value→World→Prop} {S:Zv Sh} {F:Fix} {g:Gs} {P:Xp Sh} {m:Nat} {C:Ctx} {x:World}
def Gs.tbOf (g:Gs) (i:Nat):Nat:=(g.thr[i]?.map fun t=>t.tb).getD 0
theorem Stood.threads (H:Stood Post S F g P m none C x) (hI:S.I P.st.sh P.st.cells g.col x) :
 ∃ all:List Thr,all.length=P.n∧(∀ (j:Nat) (t:Thr),all[j]? = some t→t.At x j)∧(all.map fun t=>P0 t.tb)=(g.thr.map fun t=>P0 t.tb)∧Yx all=P.able.map (fun i=>P0 (g.tbOf i))∧(all.all fun t=>t.e)=P.over:=by
 have hcell:∀ (j:Nat) (r:Ask) (k:Told→Xx Sh Unit),j < P.n→P.progs j=.acc r k→x.cell? (th (g.A r.cell) 0)=some (.int .i64 (P.st.cells r.cell)):=fun j r k hj hp=>by
  obtain ⟨t,ht⟩:∃ t,g.thr[j]? = some t:=⟨_,List.getElem?_eq_getElem (by rw [H.gate.num];exact hj)⟩
  obtain ⟨_,_,_,_,_,_,_,_,_,_,hrc,_⟩:=H.chairs.chair j t r k ht (by simp) hp;rw [H.addr];exact (S.cell hI _ hrc).2.1
 obtain ⟨all,h1,h2,h3,h4⟩:=H.gate.threads hcell (fun j hj=>by
  rcases H.live j hj (by simp) with ⟨r,k,q⟩|⟨v,q⟩
  ·exact .inr ⟨r,k,q⟩
  ·exact .inl (by rw [q];rfl))
 have htb:∀ (j:Nat) (t:Thr),all[j]? = some t→t.tb=g.tbOf j:=fun j t e=>by
  have:(all.map fun t=>P0 t.tb)[j]? = some (P0 t.tb):=by rw [List.getElem?_map,e];rfl
  rw [h3,List.getElem?_map] at this;unfold Gs.tbOf;cases hu:g.thr[j]? with
  | none=>rw [hu] at this;cases this
  | some u =>
   rw [hu] at this;simp at this;simp [this]
 refine ⟨all,h1,h2,h3,?_,?_⟩
 ·rw [XbI all P.can g.tbOf 0 (fun j t e=>by rw [Nat.zero_add];exact ⟨(h4 j t e).1,htb j t e⟩),h1,Xp.able,List.range_eq_range']
 ·rw [Xfy all (fun i=>(P.progs i).ended) 0 (fun j t e=>by rw [Nat.zero_add];exact (h4 j t e).2),h1,Xp.over,List.range_eq_range']
theorem Stood.less (H:Stood Post S F g P (m + 1) none C x):Stood Post S F g P m none C x :=
 ⟨H.gate,H.apart,H.rb,H.mb,H.N,H.kept,H.x0,H.addr,H.names,by have:=H.len;omega,H.d,H.n,H.main,H.lo,H.low,H.io,H.holds,H.live,H.chairs.less,fun e=>S.fin.less (H.fine e),H.pvs,H.kpc⟩
theorem Stood.zero:∀ {m:Nat},Stood Post S F g P m none C x→Stood Post S F g P 0 none C x
 | 0,H=>H
 | _ + 1,H=>H.less.zero
theorem Stood.mayAcc (H:Stood Post S F g P m none C x) {i:Nat} (hi:i∈P.able):i < P.n∧∃ r k,P.progs i=.acc r k:=by
 obtain ⟨h1,h2⟩:=List.mem_filter.1 hi;have hn:=List.mem_range.1 h1;refine ⟨hn,?_⟩;rcases H.live i hn (by simp) with h|⟨v,q⟩
 ·exact h
 ·simp [Xp.can,q,Xx.req] at h2
theorem Stood.frame {y:World} {h:Option Nat} (H:Stood Post S F g P m h C x) (hy:∀ r,g.col r→y.heap[r]? = x.heap[r]?) (hs:x.heap.size≤y.heap.size) (hk:∀ j a,S.keep j a→y.cell? a=x.cell? a):Stood Post S F g P m h C y :=
 ⟨H.gate.frame hy hs,H.apart,H.rb,H.mb,H.N,H.kept,H.x0,H.addr,H.names,H.len,H.d,H.n,H.main,H.lo,H.low,H.io,H.holds,H.live,H.chairs,H.fine,H.pvs,fun j h1 h2 h3 a ha=>(hk j a ha).trans (H.kpc j h1 h2 h3 a ha)⟩
end
noncomputable def XeM (F:Fns) (f:FuncId):Bool:=match Try.prog.funcs[f]? with
 | some fn => !(fn.name == "runtime.NumGoroutine") && (match fn.body with | some c => YY F c | none => false)
 | none=>false
theorem XdD {F:Fns} {f:FuncId} (h:XeM F f=true):Xds F f:=by
 unfold XeM at h
 split at h
 ·rename_i fn hfn
  simp only [Bool.and_eq_true,Bool.not_eq_true'] at h;obtain ⟨h1,h2⟩:=h
  split at h2
  ·rename_i c hc
   exact ⟨fn,c,hfn,h1,hc,h2⟩
  ·cases h2
 ·cases h
theorem Xc5:QY Try.prog 150:=⟨Try.f150,Extern.Atomic.swapT (.int .i64),Try.func150,by rfl,by rfl,by kernel_rfl,by kernel_rfl,fun P S args=>V8⟩
noncomputable def FX (ms:List FuncId):Fns:={ fn:=fun f=>ms.contains f,maps:=false,top:=fun f=>decide (f < Try.prog.funcs.size),ext:=fun f=>(150::exts).contains f }
theorem Xat {ms:List FuncId} (S:YK) (h:(ms.all (XeM (FX ms)))=true):Closed Try.prog S (FX ms) where
 maps:=fun h=>by cases h
 text:=fun f hf=>XdD (List.all_eq_true.1 h f (List.contains_iff_mem.1 hf))
 exts:=fun f h=>by
  have h:=List.contains_iff_mem.1 h;rcases List.mem_cons.1 h with rfl|h
  ·exact Xc5
  ·exact Xap f (List.contains_iff_mem.2 h)
 tops:=fun f h=>by
  have h:f < Try.prog.funcs.size:=by simpa [FX] using h
  exact ⟨_,Array.getElem?_eq_getElem h⟩
 early:=Ug
section
variable {Post:Value→World→Prop} {C:Ctx} {x:World} {c:Frame} {cs:List Frame} {b:Nat} {v:Int}
end
theorem XN.free {w:World} {b:Nat} {x:Int} (h:XN w b x):Xr w b x:=⟨h.c0,h.c1,h.c2,h.c4,h.fz⟩
noncomputable def makersX:List FuncId:=[14,80]
theorem closedMX (S:YK):Closed Try.prog S (FX makersX):=Xat S (by kernel_rfl)
theorem setCell_self {x:World} {b k:Nat} {v:Value} (h:x.cell? (th b k)=some v):x.setCell (th b k) v=x:=by
 have e:(x.setCell (th b k) v).heap=x.heap:=by
  apply Array.ext_getElem?;intro i
  by_cases hi:i=b
  ·subst hi
   unfold World.cell? at h;cases hx:x.heap[i]? with
   | none=>simp [hx,th] at h
   | some o =>
    cases o with
    | cells cs t fr =>
     simp only [th,hx] at h;have hk:cs[k]? = some v:=by simpa using h
     rw [show (x.setCell (th i k) v).heap[i]? = some (.cells (cs.setIfInBounds k v) t fr) from by simp [World.setCell,Array.getElem?_modify,hx,th]]
     congr 2
     apply Array.ext_getElem?;intro j
     by_cases hj:k=j
     ·subst hj
      obtain ⟨hlt,_⟩:=GE hk;rw [Array.getElem?_setIfInBounds_self_of_lt hlt,hk]
     ·rw [Array.getElem?_setIfInBounds_ne hj]
    | _=>simp [hx,th] at h
  ·exact Xb hi
 rw [show x.setCell (th b k) v = { x with heap:=(x.setCell (th b k) v).heap } from rfl,e]
def Xg (y z:World):Prop:=y.heap.size≤z.heap.size∧∀ r,r < y.heap.size→z.heap[r]? = y.heap[r]?
theorem Xg.refl (y:World):Xg y y:=⟨Nat.le_refl _,fun _ _=>rfl⟩
theorem Xg.trans {a b c:World} (h:Xg a b) (k:Xg b c):Xg a c:=⟨Nat.le_trans h.1 k.1,fun r hr=>(k.2 r (Nat.lt_of_lt_of_le hr h.1)).trans (h.2 r hr)⟩
theorem Xg.alloc {a b:World} (h:Xg a b) (o:Obj):Xg a (b.alloc o):=h.trans ⟨by simp,fun r hr=>by rw [Xl,Array.getElem?_push,if_neg (by omega)]⟩
theorem jal {P:Program} {Post:Value→World→Prop} {C:Ctx} {x:World} {g:Goroutine} {ob:Obj} {τ:Nat→Question→Nat} {d:Nat} (h:∀ y:World,Xg x y→y.heap[x.heap.size]? = some ob→y.heap.size=x.heap.size + 1→JG P Post C g y):JG P Post C g ((under x τ d).alloc ob) :=
 have e:(x.alloc ob).heap=x.heap.push ob:=rfl
 jt (x:=x.alloc ob) (h _ ((Xg.refl x).alloc ob) (by rw [e,Array.getElem?_push_size]) (by rw [e,Array.size_push]))
theorem Xg.cell {a b:World} (h:Xg a b) {p:Addr} {v:Value} (hc:a.cell? p=some v):b.cell? p=some v:=by
 have hlt:p.block < a.heap.size:=by
  unfold World.cell? at hc;rcases Nat.lt_or_ge p.block a.heap.size with h'|h'
  ·exact h'
  ·rw [Array.getElem?_eq_none h'] at hc;cases hc
 rw [World.cell?_of_block (h.2 _ hlt)];exact hc
theorem Xg.frozen {a b:World} (h:Xg a b) {p:Addr} (hp:p.block < a.heap.size):b.frozen? p=a.frozen? p:=by
 unfold World.frozen?;rw [h.2 _ hp]
section
variable {Post:Value→World→Prop} {C:Ctx} {x:World} {c:Frame} {cs:List Frame}
theorem Xg.free {y z:World} {b:Nat} {v:Int} (h:Xg y z) (hc:Xr y b v):Xr z b v :=
 ⟨h.cell hc.v,h.cell hc.made,h.cell hc.mu,h.cell hc.ch,fun k=>(h.frozen (p:=th b k) (show b < y.heap.size from Xt (a:=th b 0) hc.v)).trans (hc.fr k)⟩
def But (b:Nat) (y z:World):Prop:=z.heap.size=y.heap.size∧∀ r,r≠b→z.heap[r]? = y.heap[r]?
theorem But.set (y:World) (b k:Nat) (u:Value):But b y (y.setCell (th b k) u):=⟨Xh _ _ _,fun r hr=>Xb hr⟩
theorem But.cell {b:Nat} {y z:World} (h:But b y z) {p:Addr} (hp:p.block≠b):z.cell? p=y.cell? p:=World.cell?_of_block (h.2 _ hp)
theorem But.free {b q:Nat} {y z:World} {v:Int} (h:But b y z) (hq:q≠b) (hc:Xr y q v):Xr z q v :=
 ⟨(h.cell (p:=th q 0) hq).trans hc.v,(h.cell (p:=th q 1) hq).trans hc.made,(h.cell (p:=th q 2) hq).trans hc.mu,(h.cell (p:=th q 4) hq).trans hc.ch,fun k=>by have:=hc.fr k;unfold World.frozen? at this ⊢;rw [h.2 q hq];exact this⟩
end
def XgT (Post:Value→World→Prop) (C:Ctx) (x:World):Prop:=∀ w,XcR w=C.io→x.heap.size≤w.heap.size→(∀ r,r < x.heap.size→w.heap[r]? = x.heap[r]?)→Post (.bool true) w
def XgL (C:Ctx) (x:World):Prop:=C.h=0∧C.d=0∧C.n=1∧(∀ i,C.Ch i=none)∧C.lo=x.heap.size
