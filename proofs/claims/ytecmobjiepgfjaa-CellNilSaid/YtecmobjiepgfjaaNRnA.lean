/- Runs under a gate, in plain words: what a body asks for access by access, and what a run by a schedule comes to. No program in sight. -/
import Derived.RowKit
import Derived.Conc.Token
namespace Go.Proofs.Ytecmobjiepgfjaa
open Go.Conc Go.RowKit
open Go.ConcN (upd upd_same upd_ne)
set_option linter.unusedSimpArgs false
set_option linter.unusedVariables false
/-- An access that is asked for: of which cell (by a number of one's own), with what. -/
structure Ask where
  op : Int
  cell : Nat
  arg : Int
  new : Int
/-- Its numbers are those that its kind names. -/
structure Ask.Good (r : Ask) : Prop where
  lo : 1 ≤ r.op
  hi : r.op ≤ 6
  load : r.op = 1 → r.arg = 0
  cas : r.op ≠ 3 → r.new = 0
/-- What an access found and left. -/
structure Told where
  was : Int
  now : Int
  ok : Bool
/-- An entry of a record. -/
structure Entry where
  thread : Nat
  op : Int
  cell : Int
  arg : Int
  new : Int
  was : Int
  now : Int
  ok : Bool
/-- What a body does: accesses, and what it does by itself to what the bodies share; 'out': no more is told. -/
inductive Prog (Sh : Type) (α : Type) where
  | ret (a : α)
  | fall
  | out
  | acc (r : Ask) (k : Told → Prog Sh α)
  | act (f : Sh → Sh) (k : Sh → Prog Sh α)
namespace Prog
variable {Sh α β : Type}
def bind (g : α → Prog Sh β) : Prog Sh α → Prog Sh β
  | .ret a => g a
  | .fall => .fall
  | .out => .out
  | .acc r k => .acc r fun a => (k a).bind g
  | .act f k => .act f fun s => (k s).bind g
/-- Up to its next access, or its end. -/
def pass : Prog Sh α → Sh → Sh × Prog Sh α
  | .act f k, s => (k s).pass (f s)
  | p, s => (s, p)
def req : Prog Sh α → Option Ask
  | .acc r _ => some r
  | _ => none
def ended : Prog Sh α → Bool
  | .ret _ => true
  | .fall => true
  | _ => false
def fell : Prog Sh α → Bool
  | .fall => true
  | _ => false
end Prog
/-- What a cell holds behind an access; whether that was a Cas that changed it. -/
def behind (op was arg new : Int) : Int × Bool :=
  if op = 2 ∨ op = 5 then (arg, false) else if op = 4 then (wrap64 (was + arg), false) else if op = 3 ∧ was = arg then (new, true) else (was, false)
/-- What stands in a run beside its threads. -/
structure Rst (Sh : Type) where
  sh : Sh
  cells : Nat → Int
  names : List Nat
  log : List Entry
  went : List Nat
  ready : List Nat
namespace Rst
variable {Sh : Type}
/-- The number of a cell. -/
def num (s : Rst Sh) (c : Nat) : Int := (s.names.idxOf c : Nat)
def ans (s : Rst Sh) (r : Ask) : Told := ⟨s.cells r.cell, (behind r.op (s.cells r.cell) r.arg r.new).1, (behind r.op (s.cells r.cell) r.arg r.new).2⟩
def entry (s : Rst Sh) (i : Nat) (r : Ask) : Entry := ⟨i, r.op, s.num r.cell, r.arg, r.new, (s.ans r).was, (s.ans r).now, (s.ans r).ok⟩
/-- A thread's access. -/
def access (s : Rst Sh) (i : Nat) (r : Ask) : Rst Sh :=
  { s with cells := upd s.cells r.cell (s.ans r).now, names := if r.cell ∈ s.names then s.names else s.names ++ [r.cell], log := s.log ++ [s.entry i r] }
end Rst
/-- A run as it goes on. -/
structure Play (Sh : Type) where
  n : Nat
  progs : Nat → Prog Sh Unit
  st : Rst Sh
namespace Play
variable {Sh : Type}
/-- May a thread go? -/
def can (P : Play Sh) (i : Nat) : Bool :=
  match (P.progs i).req with
  | some r => decide (r.op ≠ 6) || decide (P.st.cells r.cell ≠ r.arg)
  | none => false
def able (P : Play Sh) : List Nat := (List.range P.n).filter P.can
def over (P : Play Sh) : Bool := (List.range P.n).all fun i => (P.progs i).ended
/-- A thread goes on by itself. -/
def settle (P : Play Sh) (i : Nat) (p : Prog Sh Unit) : Play Sh :=
  { P with progs := upd P.progs i (p.pass P.st.sh).2, st := { P.st with sh := (p.pass P.st.sh).1 } }
/-- A thread's access, and what it does behind it. -/
def goes (P : Play Sh) (i : Nat) : Play Sh :=
  match P.progs i with
  | .acc r k => settle { P with st := P.st.access i r } i (k (P.st.ans r))
  | _ => P
/-- It is its turn. -/
def turn (P : Play Sh) (i : Nat) : Play Sh :=
  goes { P with st := { P.st with went := P.st.went ++ [i], ready := P.st.ready ++ [P.able.length] } } i
/-- Threads are begun, one behind the other. -/
def start (P : Play Sh) : List (Prog Sh Unit) → Play Sh
  | [] => P
  | p :: l => start (settle { P with n := P.n + 1 } P.n p) l
/-- Up to the end: 1 over, 3 dead, 2 cut; so many turns at most. -/
def runs (sched : List Nat → List Nat → Nat) : Nat → Play Sh → Int × Play Sh
  | m, P => if P.over then (1, P) else if P.able = [] then (3, P) else
    match m with
    | 0 => (2, P)
    | m + 1 => runs sched m (P.turn (sched P.st.went P.able))
/-- Where a thread stands. -/
def stands (P : Play Sh) (i : Nat) : Option Entry :=
  (P.progs i).req.map fun r => ⟨i, r.op, if r.cell ∈ P.st.names then P.st.num r.cell else -1, r.arg, r.new, P.st.cells r.cell, P.st.cells r.cell, false⟩
def left (P : Play Sh) : List Entry := (List.range P.n).filterMap P.stands
def fell (P : Play Sh) : List Nat := (List.range P.n).filter fun i => (P.progs i).fell
end Play
/-- Who goes, by picks. -/
def picked (picks : List Int) (went l : List Nat) : Nat :=
  match picks[went.length]? with
  | some p => l.getD (p % (l.length : Int)).toNat 0
  | none => (l.find? fun t => match went.getLast? with | some q => decide (q < t) | none => true).getD (l.headD 0)
end Go.Proofs.Ytecmobjiepgfjaa
