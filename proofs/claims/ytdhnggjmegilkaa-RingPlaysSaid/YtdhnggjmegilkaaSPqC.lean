/- Arguments of a law that came in: slices of structs, of whole numbers. -/
import Derived.Test.YtdhnggjmegilkaaSCpQ
import Derived.Deep.Slices
import Derived.Deep.Fields
import Derived.ChangeSame
import Derived.ChangeArms
import Derived.Lib.SmallJoins
import Derived.SizedLaws
set_option linter.all false
set_option maxRecDepth 100000
set_option maxHeartbeats 16000000
namespace Go.Proofs.Ytdhnggjmegilkaa
open Go.ChangeShapes Go.WideShapes Go.Deep Go.RowKit Go.Joins
section
variable {H:Type} {enc:TypeId × Value→H} {P:Program} {w:World} {base:Nat} {spare:Nat→Bool} {held:Bool}
theorem QR {t e:TypeId} {fs:Array Field} {fuel:Nat} {cs:List Value} {x:DataW H × List MemPlace} (ht:P.underlying t=some (.slice e)) (he:P.underlying e=some (.struct fs))
 (hone:oneCellFields P fs=true) (hC:P.cellsOf e=fs.size) (h:DataW.trod enc P w base spare held fuel t cs=some x) :
 (cs = [.slice none 0 0]∧x=(.nil,[])) ∨
 ∃ (a:Addr) (len cap m:Nat) (D:Nat→DataW H) (Pl:Nat→List MemPlace),cs = [.slice (some a) len cap]∧base≤a.block∧len≤cap∧cap≤maxLen∧m=(if spare a.block then cap else len) ∧
  x=(.slice ((List.range len).map D) ((List.range (m - len)).map fun j=>D (len + j)),MemPlace.row a (m * fs.size) ++ (List.range m).flatMap Pl) ∧
  ∀ i,i < m→∃ (ys:List (DataW H × List MemPlace)) (n:Nat),D i=.agg (ys.map (·.1))∧Pl i=ys.flatMap (·.2)∧ys.length=fs.size ∧
   ∀ (j:Nat) (f:Field),fs[j]? = some f→∃ (v:Value) (y:DataW H × List MemPlace),w.cell? (a.add (i * fs.size + j))=some v∧ys[j]? = some y∧DataW.trod enc P w base spare held n f.type [v] = some y:=by
 rcases open_slice ht h with h0|⟨a,len,cap,m,n,D,Pl,hcs,hb,hl,hm,hmm,hx,hi⟩
 ·exact .inl h0
 ·refine .inr ⟨a,len,cap,m,D,Pl,hcs,hb,hl,hm,hmm,by rw [hC] at hx;exact hx,fun i him=>?_⟩
  obtain ⟨cs',hc,ht'⟩:=hi i him;rw [hC] at hc;obtain ⟨ys,n',hn',hy,hlen,hyl,hf⟩:=DataW.trod_struct he ht';obtain ⟨_,hcl,hat⟩:=World.cells?_some hc;simp only [Prod.mk.injEq] at hy;refine ⟨ys,n',hy.1,hy.2,hyl,fun j f hj=>?_⟩;obtain ⟨ho,hk⟩:=hone_of hone j f hj;have hjl:j < fs.size:=(GE hj).1;have hcell:=hat j hjl;have hv:cs'[j]? = some (cs'[j]'(by omega)):=List.getElem?_eq_getElem (by omega);have h1:=hf j f hj;rw [ho,hk] at h1;have hone':(cs'.drop j).take 1 = [cs'[j]'(by omega)]:=by
   rw [List.drop_eq_getElem_cons (by omega)]
   rfl
  rw [hone'] at h1;have hys:ys[j]? = some (ys[j]'(by omega)):=List.getElem?_eq_getElem (by omega);refine ⟨_,_,?_,hys,h1.trans hys⟩;rw [← Go.Deep.add_add,hcell,hv]
end
theorem Xah {α:Type} {Q:Nat→α→Prop}:∀ (n:Nat),(∀ i,i < n→∃ a,Q i a)→∃ L:List α,L.length=n∧∀ i a,L[i]? = some a→Q i a
 | 0,_=>⟨[],rfl,fun i a h=>by simp at h⟩
 | n + 1,h=>by
  obtain ⟨L,hl,hL⟩:=Xah n fun i hi=>h i (by omega);obtain ⟨x,hx⟩:=h n (by omega);refine ⟨L ++ [x],by simp [hl],fun i a ha=>?_⟩;rcases Nat.lt_or_ge i n with hi|hi
  ·rw [List.getElem?_append_left (by omega)] at ha
   exact hL i a ha
  ·rw [List.getElem?_append_right (by omega)] at ha
   have e:i=n:=by
    have:=(LE' ha).1
    simp at this
    omega
   subst e;rw [hl,Nat.sub_self] at ha;simp only [List.getElem?_cons_zero,Option.some.injEq] at ha;subst ha;exact hx
theorem XcA {H:Type} {enc:TypeId × Value→H} {w:World} {k:IntKind} {t e:TypeId} {v:Value} {fuel:Nat} {x:DataW H × List MemPlace} (ht:Try.prog.underlying t=some (.slice e)) (he:Try.prog.underlying e=some (.int .i64)) (hc:Try.prog.cellsOf e=1)
 (h:DataW.trod enc Try.prog w 0 (fun _=>true) true fuel t [v] = some x):∃ (a:Option Addr) (L:List Int) (cap:Nat),v=.slice a L.length cap∧X0 w a L∧(a=none→cap=0):=by
 rcases open_ints ht he hc h with ⟨hcs,_⟩|⟨a,len,cap,zs,hcs,_,hl,hm,hz,_,hcell,hw⟩
 ·injection hcs with hcs
  exact ⟨none,[],0,hcs,fun i x hx=>by simp at hx,fun _=>rfl⟩
 ·injection hcs with hcs
  simp only [if_true] at hz;have hlen:(zs.take len).length=len:=by simp;omega
  refine ⟨some a,zs.take len,cap,by rw [hlen];exact hcs,fun i x hx=>?_,fun e=>by cases e⟩;have hi:i < len:=by have:=(LE' hx).1;omega
  have hx':zs[i]? = some x:=by rwa [List.getElem?_take_of_lt hi] at hx
  have h0:=hcell i (by omega);rw [List.getD_eq_getElem?_getD,hx'] at h0;obtain ⟨g,off,spot⟩:=a;have hs:spot=none:=by
   have h1:=World.cell?_spot (hcell 0 (by omega));simpa [Addr.add] using h1
  subst hs;have hadd:(⟨g,off,none⟩:Addr).add i=⟨g,off + i,none⟩:=by simp [Addr.add]
  rw [hadd] at h0;exact ⟨g,off,rfl,h0⟩
theorem Z6 {H:Type} {P:Program} {e:TypeId} {n:Nat}:∀ {ds:List (DataW H)} {d:DataW H},d∈ds→n∈d.weights P e→n∈DataW.weightsAll P e ds
 | d0::ds,d,hd,hn=>by
  simp only [DataW.weightsAll,List.mem_append];rcases List.mem_cons.1 hd with rfl|hd
  ·exact .inl hn
  ·exact .inr (Z6 hd hn)
