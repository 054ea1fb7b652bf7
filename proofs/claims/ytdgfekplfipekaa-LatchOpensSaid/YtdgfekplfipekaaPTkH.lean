/- A region that draws its order under J: operations that read alone, in whatever order, and some more behind them one by one. -/
import Derived.Test.YtdgfekplfipekaaPTkL
import Derived.StillTail
import Derived.StillTailTactics
set_option linter.all false
set_option maxRecDepth 100000
set_option maxHeartbeats 16000000
namespace Go.Proofs.Ytdgfekplfipekaa
open Go.Conc
def F00:Fns:={ fn:=fun _=>false,maps:=false,top:=fun _=>false,ext:=fun _=>false }
theorem Ub {P:Program}:Q7 P F00:=⟨fun f h=>(by cases h),fun f h=>(by cases h)⟩
section
variable {P:Program} {Post:Value→World→Prop} {C:Ctx} {x:World} {b:Frame} {a:Act} {k:List Item} {cs:List Frame} {ops:Array Oper}
theorem QF {o:Oper} {w:World} {Kf:(Nat→Question→Nat)→Nat→Act→Prop} (hm:mild F00 o.op=true) (hT:X6 C.prot x w) (H:∀ τ d,o.still P a (under x τ d) (Kf τ d)) :
 (∃ v,∀ τ d,(execOp a.eval o).run P (under x τ d)=.ok (.value v) (under x τ d)∧Kf τ d (a.put o.dst v))∨(∀ τ d,(execOp a.eval o).run P (under x τ d)=.ok .skip (under x τ d)∧Kf τ d (a.put o.dst undef)):=by
 have hs:=QO (P:=P) (S:=C.prot) (Ub (P:=P)) (fun h=>by cases h) (ρ:=a.eval) (fun f=>rfl) hm;obtain ⟨n,f,hb|⟨r,hf,hr,evs,he,hev⟩⟩:=hs x (w.at 0) (hT.mvr w.tape 0)
 ·exfalso
  obtain ⟨hh,y,e,hbad⟩:=hb (fun j _=>f j) 0 (fun j _ _=>by simp)
  have:=H (fun j _=>f j) 0
  unfold Oper.still at this;rw [e] at this;exact this
 ·have h0:=H (fun j _=>f j) 0
  have hr0:=hr (fun j _=>f j) 0 (fun j _ _=>by simp);unfold Oper.still at h0;rw [hr0] at h0;generalize (execOp a.eval o).run P (w.at 0)=rw0 at hf;cases hf with
  | panic _ _ _=>exact h0.elim
  | @ok a' _ y _ hN hT₁ ht hsz =>
   obtain ⟨rfl,hN⟩:=hN;have hall:n=0→under y (fun j _=>f j) 0=under x (fun j _=>f j) 0→∀ τ d,(execOp a.eval o).run P (under x τ d)=.ok a' (under x τ d):=fun hn hy τ d=>by
    subst hn;rw [hr τ d (fun j h _=>absurd h (by omega))]
    have:under y τ d=under x τ d:=by
     have:=congrArg (fun z=>under z τ d) hy
     exact this
    simp only [Result.tap,Nat.add_zero];rw [this]
   rcases hN with ⟨v,rfl⟩|rfl|⟨_,_,_,hfn⟩
   ·simp only [Result.tap,Oper.stillUpon] at h0
    have hn:n=0:=by
     have:=congrArg World.drawn h0.1
     simpa [under] using this
    have hA:=hall hn (by have:=h0.1;rw [hn] at this;exact this);refine .inl ⟨v,fun τ d=>⟨hA τ d,?_⟩⟩;have h1:=H τ d;unfold Oper.still at h1;rw [hA τ d] at h1;exact h1.2
   ·simp only [Result.tap,Oper.stillUpon] at h0
    have hn:n=0:=by
     have:=congrArg World.drawn h0.1
     simpa [under] using this
    have hA:=hall hn (by have:=h0.1;rw [hn] at this;exact this);refine .inr fun τ d=>⟨hA τ d,?_⟩
    have h1:=H τ d;unfold Oper.still at h1;rw [hA τ d] at h1;exact h1.2
   ·cases hfn
