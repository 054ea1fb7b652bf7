/- What a thread's own calls come to in a run, as the record tells it: where each call's accesses stand, what is told. No program in sight. -/
import Derived.Test.YtdgfekplfipekaaVPlA
set_option linter.all false
set_option maxRecDepth 100000
set_option maxHeartbeats 16000000
namespace Go.Proofs.Ytdgfekplfipekaa
open Go.Conc Go.RowKit
open Go.ConcN (upd upd_same upd_ne)
inductive Doing (α:Type) where
 | ret (a:α)
 | out
 | acc (r:Ask) (k:Told→Doing α)
namespace Doing
variable {Sh α β:Type}
def bind (g:α→Doing β):Doing α→Doing β
 | .ret a=>g a
 | .out=>.out
 | .acc r k=>.acc r fun a=>(k a).bind g
def into (g:α→Xx Sh Unit):Doing α→Xx Sh Unit
 | .ret a=>g a
 | .out=>.out
 | .acc r k=>.acc r fun a=>(k a).into g
inductive Ok (nc:Nat):Doing α→Prop
 | ret (a:α):Ok nc (.ret a)
 | out:Ok nc .out
 | acc {r:Ask} {k:Told→Doing α} (hr:r.Good) (hc:r.cell < nc) (hk:∀ a,Ok nc (k a)):Ok nc (.acc r k)
theorem Ok.into {nc:Nat} {g:α→Xx Sh Unit} (hg:∀ a,Xx.Ok nc (g a)):∀ {c:Doing α},Ok nc c→Xx.Ok nc (c.into g)
 | .ret a,_=>hg a
 | .out,_=>.out
 | .acc r k,h=>by
  cases h with
  | acc h1 h2 h3=>exact .acc h1 h2 fun a=>(h3 a).into hg
end Doing
section
variable {α:Type}
def tells (j:Nat) (a:α) (s:Nat→List α):Nat→List α:=upd s j (s j ++ [a])
def doings (j:Nat):List (Doing α)→Xx (Nat→List α) Unit
 | []=>.ret ()
 | c::l=>c.into fun a=>.act (tells j a) fun _=>doings j l
def midst (j:Nat) (c:Doing α) (l:List (Doing α)):Xx (Nat→List α) Unit:=c.into fun a=>.act (tells j a) fun _=>doings j l
inductive Nx (α:Type) where
 | ended
 | out
 | at (r:Ask) (k:Told→Doing α) (l:List (Doing α))
def Nx.prog (j:Nat):Nx α→Xx (Nat→List α) Unit
 | .ended=>.ret ()
 | .out=>.out
 | .at r k l=>midst j (.acc r k) l
def norm:List (Doing α)→Doing α→List α × Nx α
 | [],.ret a=>([a],.ended)
 | c::l,.ret a=>(a::(norm l c).1,(norm l c).2)
 | _,.out=>([],.out)
 | l,.acc r k=>([],.at r k l)
inductive RestN (L left:List Xo) (names:List Nat) (cells:Nat→Int) (j:Nat):Nat→Nx α→List α→Prop
 | ended {i:Nat} (h1:∀ q a,i≤q→L[q]? = some a→a.thread≠j) (h2:∀ a,a∈left→a.thread≠j):RestN L left names cells j i .ended []
 | acc {i q:Nat} {a:Xo} {r:Ask} {k:Told→Doing α} {l:List (Doing α)} {T:List α} (h1:i≤q) (h2:L[q]? = some a) (h3:a.thread=j) (h4:∀ x b,i≤x→x < q→L[x]? = some b→b.thread≠j) (h5:a.op=r.op∧a.arg=r.arg∧a.new=r.new) (h6:r.cell∈names∧a.cell=(names.idxOf r.cell:Nat)) (h7:RestN L left names cells j (q + 1) (norm l (k ⟨a.was,a.now,a.ok⟩)).2 T):RestN L left names cells j i (.at r k l) ((norm l (k ⟨a.was,a.now,a.ok⟩)).1 ++ T)
 | left {i:Nat} {a:Xo} {r:Ask} {k:Told→Doing α} {l:List (Doing α)} (h1:∀ q a,i≤q→L[q]? = some a→a.thread≠j) (h2:left.find? (fun a=>a.thread == j)=some a) (h5:a.op=r.op∧a.arg=r.arg∧a.new=r.new) (h6:a.cell=if r.cell∈names then ((names.idxOf r.cell:Nat):Int) else -1) (h7:r.cell ∉ names→a.was=cells r.cell):RestN L left names cells j i (.at r k l) []
def RestC (L left:List Xo) (names:List Nat) (cells:Nat→Int) (j i:Nat) (c:Doing α) (l:List (Doing α)) (T:List α):Prop:=∃ T',T=(norm l c).1 ++ T'∧RestN L left names cells j i (norm l c).2 T'
section
variable {L left:List Xo} {names:List Nat} {cells:Nat→Int} {j i:Nat} {c:Doing α} {l:List (Doing α)} {T:List α} {a:α}
theorem RestC.next (h:RestC L left names cells j i (.ret a) (c::l) T):∃ T',T=a::T'∧RestC L left names cells j i c l T':=by
 obtain ⟨T',e,h⟩:=h;exact ⟨(norm l c).1 ++ T',e,T',rfl,h⟩
theorem RestC.last (h:RestC L left names cells j i (.ret a) [] T):T = [a]∧RestN L left names cells j i (.ended:Nx α) []:=by
 obtain ⟨T',e,h⟩:=h;have h':RestN L left names cells j i (.ended:Nx α) T':=h;cases h' with
 | ended h1 h2=>exact ⟨e,.ended h1 h2⟩
end
namespace Xp
variable {P Q:Xp (Nat→List α)} {sched:List Nat→List Nat→Nat}
