/- gate.Run of one thread that makes no access. -/
import Derived.Test.YtdgfekplfipekaaVRnH
import Derived.Test.YtdgfekplfipekaaVTkK
import Derived.LaidEqlPtr
import Derived.MapKept
import Derived.Test.YtdgfekplfipekaaVGtI
import Derived.Carry
set_option linter.all false
set_option maxRecDepth 100000
set_option maxHeartbeats 16000000
namespace Go.Proofs.Ytdgfekplfipekaa
open Go.Conc Go.RowKit
open Go.ConcN (upd upd_same upd_ne)
set_option maxRecDepth 100000
def XZ (w:World) (b:Nat):Prop:=∃ ca ta,w.heap[b]? = some (.cells ca ta (0,0))
def YN (A:Nat→Nat):List Nat→Nat→List (Value × Value)
 | [],_=>[]
 | c::l,n=>(P0 (A c),.int .i64 n)::YN A l (n + 1)
theorem U6 (A:Nat→Nat) (l:List Nat) (c:Nat):∀ n,YN A (l ++ [c]) n=YN A l n ++ [(P0 (A c),.int .i64 ((n + l.length:Nat):Int))]:=by
 induction l with
 | nil=>intro n;rfl
 | cons d l ih=>intro n;simp only [List.cons_append,YN,ih,List.length_cons,show n + 1 + l.length=n + (l.length + 1) by omega]
def MapAt (w:World) (mb:Nat) (A:Nat→Nat) (names:List Nat):Prop:=∃ es cl,w.heap[mb]? = some (.map es cl)∧es.toList.map (fun e=>(e.key,e.val))=YN A names 0
theorem MapAt.heap {w w':World} {mb:Nat} {A:Nat→Nat} {names:List Nat} (h:MapAt w mb A names) (he:w'.heap[mb]? = w.heap[mb]?):MapAt w' mb A names:=by
 obtain ⟨es,cl,h1,h2⟩:=h;exact ⟨es,cl,he.trans h1,h2⟩
theorem Ww:(Try.prog.info? 63).map (fun i=>(i.zero,i.size,i.bytes))=some (some (.agg #[.int .i64 0]),1,8):=by kernel_rfl
theorem XbA (w:World) (a:Addr):(Op.equal 78 (.pointer (some a)) (.pointer (some a))).run Try.prog w=.ok true w:=by
 obtain ⟨j,hj,hz0,hz1,hz2⟩:=XM Ww;have h:∀ d:Nat,(Op.equalIn (d + 1) 78 (.pointer (some a)) (.pointer (some a))).run Try.prog w=.ok true w:=fun d=>by
  simp [Op.equalIn,run_underlying Try.underlying78,sizeOf,typeInfo,hj,run_sameAddr_same]
 simp [Op.equal,Op.maxDepth,h 9999]
theorem Xaq {w:World} {a b:Nat} (ha:XZ w a) (hb:XZ w b) (hne:a≠b):(Op.equal 78 (P0 a) (P0 b)).run Try.prog w=.ok false w:=by
 obtain ⟨j,hj,hz0,hz1,hz2⟩:=XM Ww;obtain ⟨ca,ta,ea⟩:=ha;obtain ⟨cb,tb,eb⟩:=hb;have hn:(⟨a,0,none⟩:Addr)≠⟨b,0,none⟩:=fun e=>by cases e;exact hne rfl
 have h:∀ d:Nat,(Op.equalIn (d + 1) 78 (P0 a) (P0 b)).run Try.prog w=.ok false w:=fun d=>by
  simp [Op.equalIn,run_underlying Try.underlying78,sizeOf,typeInfo,hj,hz1,run_sameAddr_other w hn ea eb]
 simp [Op.equal,Op.maxDepth,h 9999]
theorem Xc1 {w:World} {A:Nat→Nat} {id:Nat} (hid:XZ w (A id)):∀ (l:List MapEntry) (names:List Nat) (n:Nat),l.map (fun e=>(e.key,e.val))=YN A names n→(∀ c∈names,XZ w (A c)∧(A c=A id→c=id)) →
 (Instr.findAsking 78 (P0 (A id)) l n).run Try.prog w=.ok (if id∈names then some (n + names.idxOf id,.int .i64 ((n + names.idxOf id:Nat):Int)) else none) w:=by
 intro l
 induction l with
 | nil =>
  intro names n h _;cases names with
  | nil=>simp [Instr.findAsking]
  | cons c l=>simp [YN] at h
 | cons e l ih =>
  intro names n h hr;cases names with
  | nil=>simp [YN] at h
  | cons c names =>
   simp only [List.map_cons,YN,List.cons.injEq,Prod.mk.injEq] at h;obtain ⟨⟨hk,hv⟩,hl⟩:=h
   by_cases e1:c=id
   ·subst e1
    simp [Instr.findAsking,hk,hv,XbA]
   ·have h2:=hr c (by simp)
    have:=ih names (n + 1) hl fun d hd=>hr d (by simp [hd])
    have hne:A id≠A c:=fun z=>e1 (h2.2 z.symm);have h3:¬ id=c:=fun z=>e1 z.symm;have hi:(c::names).idxOf id=names.idxOf id + 1:=by rw [List.idxOf_cons,beq_eq_false_iff_ne.2 e1];rfl
    rw [show n + 1 + names.idxOf id=n + (names.idxOf id + 1) by omega] at this;simp only [Instr.findAsking,hk,Sem.run_bind,Xaq hid h2.1 hne,Result.andThen_ok,Bool.false_eq_true,if_false,this,List.mem_cons,h3,false_or,hi]
section
variable {w:World} {mb:Nat} {A:Nat→Nat} {names:List Nat} {id:Nat}
theorem WF (e:Bool) (n b:Nat) (w:World):(Instr.checkKey e (n + 1) 78 (P0 b)).run Try.prog w=.ok () w:=by
 simp [Instr.checkKey,run_underlying Try.underlying78]
theorem Q4 {es:Array MapEntry} (h2:es.toList.map (fun e=>(e.key,e.val))=YN A names 0) (hid:XZ w (A id)) (hr:∀ c∈names,XZ w (A c)∧(A c=A id→c=id)) :
 (Instr.findKey 78 (P0 (A id)) es.toList).run Try.prog w=.ok (if id∈names then some (names.idxOf id,.int .i64 (names.idxOf id:Nat)) else none) w:=by
 have hf:=Xc1 hid es.toList names 0 h2 hr;simp only [Nat.zero_add] at hf;unfold Instr.findKey;rw [Sem.run_bind,run_underlying Try.underlying78,Result.andThen_ok];cases he:es.toList with
 | nil =>
  rw [he] at h2;cases names with
  | nil=>simp [Instr.findNow]
  | cons c l=>simp [YN] at h2
 | cons e l =>
  rw [he] at hf;simp only [Instr.findNow,Instr.sameNow];exact hf
theorem Xdz (w:World):(zeroValue 3).run Try.prog w=.ok (.int .i64 0) w:=by
 have h:(Try.prog.info? 3).bind (fun i=>i.zero)=some (.int .i64 0):=by kernel_rfl
 obtain ⟨i,hi,hz⟩:=Option.bind_eq_some_iff.1 h;simp [zeroValue,typeInfo,hi,hz]
theorem Wq (hM:MapAt w mb A names) (hid:XZ w (A id)) (hr:∀ c∈names,XZ w (A c)∧(A c=A id→c=id)) :
 (Instr.lookup 81 (.map (some mb)) (P0 (A id)) true).run Try.prog w=.ok (.tuple #[.int .i64 (if id∈names then (names.idxOf id:Nat) else (0:Nat):Nat),.bool (decide (id∈names))]) w:=by
 obtain ⟨es,cl,h1,h2⟩:=hM;have hn:=Q4 (w:=w) h2 hid hr;unfold Instr.lookup;rw [Sem.run_bind,run_underlying Try.underlying81,Result.andThen_ok];simp only [bind_assoc,pure_bind];rw [Sem.run_bind,MapKept.run_getObj_map h1,Result.andThen_ok];simp only [bind_assoc,pure_bind];rw [Sem.run_bind,WF _ 9999,Result.andThen_ok];rw [Sem.run_bind,hn,Result.andThen_ok]
 by_cases e:id∈names
 ·simp [e]
 ·simp [e,Xdz]
theorem XdR (hM:MapAt w mb A names) (hid:XZ w (A id)) (hr:∀ c∈names,XZ w (A c)∧(A c=A id→c=id)) (hnew:id ∉ names) :
 ∃ o,(Instr.mapUpdate 81 (.map (some mb)) (P0 (A id)) (.int .i64 (names.length:Nat))).run Try.prog w=.ok () { w with heap:=w.heap.setIfInBounds mb o }∧(∀ w',w'.heap[mb]? = some o→MapAt w' mb A (names ++ [id]))∧mb < w.heap.size∧∃ es cl,o=.map es cl:=by
 obtain ⟨es,cl,h1,h2⟩:=hM;have hn:=Q4 (w:=w) h2 hid hr;refine ⟨.map (es.push { key:=P0 (A id),val:=.int .i64 (names.length:Nat),born:=cl }) (cl + 1),?_,fun w' h=>⟨_,_,h,?_⟩,(GE h1).1,_,_,rfl⟩
 ·unfold Instr.mapUpdate
  rw [Sem.run_bind,run_underlying Try.underlying81,Result.andThen_ok];simp only;rw [Sem.run_bind,MapKept.run_getObj_map h1,Result.andThen_ok];simp only;rw [Sem.run_bind,WF _ 9999,Result.andThen_ok];rw [Sem.run_bind,hn,Result.andThen_ok,if_neg hnew];exact MapKept.run_setObj_map _ h1
 ·rw [Array.toList_push,List.map_append,h2,U6,Nat.zero_add]
  rfl
theorem XcK (hM:MapAt w mb A names):∃ es cl,w.heap[mb]? = some (.map es cl)∧es.size=names.length:=by
 obtain ⟨es,cl,h1,h2⟩:=hM;refine ⟨es,cl,h1,?_⟩
 have:=congrArg List.length h2
 have hp:∀ (l:List Nat) n,(YN A l n).length=l.length:=fun l=>by
  induction l with
  | nil=>intro n;rfl
  | cons c l ih=>intro n;simp [YN,ih]
 rw [List.length_map,hp] at this;simpa using this
