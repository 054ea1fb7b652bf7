/- The document's Walk is made. Conditions: the record lies there and is a run's. -/
import Derived.Test.YtdhnggjmegilkaaSWkM
import Derived.Test.YtdhnggjmegilkaaSWkL
set_option linter.all false
set_option maxRecDepth 100000
set_option maxHeartbeats 16000000
namespace Go.Proofs.Ytdhnggjmegilkaa
open Go.RowKit
set_option maxRecDepth 100000
def Yg (K:Wk) (xb q:Nat):Prop:=K.turns q∨q=xb
def WSR (K:Wk) (gv0:List Bool) (xb j:Nat) (out:Bool) (R:Nat→Prop) (w:World):Prop :=
 ∃ gv at',WAt K gv w∧Ul gv0 gv∧at'≤K.L.length∧K.B≤w.heap.size∧K.B≤xb∧Blk w xb 55 (XD K.wb j out at')∧(∀ q a,q < at'→K.L[q]? = some a→a.thread=j→gv.getD a.cell.toNat false=true)∧(out=false→R at') ∧
  (out=true→(∀ q a,at'≤q→K.L[q]? = some a→a.thread≠j)∧∃ a,K.left.find? (fun a=>a.thread == j)=some a)
structure WS {α:Type} (K:Wk) (gv0:List Bool) (xb j:Nat) (l:List (Xm α)) (T:List α) (out:Bool) (c:Xm α) (w:World):Prop where
 s:WSR K gv0 xb j out (fun i=>ZV K.L K.left K.names K.cells j i c l T) w
 t:out=true→T = []
theorem WSR.kept {K:Wk} {gv0:List Bool} {xb j:Nat} {out:Bool} {R:Nat→Prop} {w w':World} (h:WSR K gv0 xb j out R w) (hk:Kept (fun _=>False) w w'):WSR K gv0 xb j out R w':=by
 obtain ⟨gv,at',h1,h2,h3,h4,h5,h6,h7⟩:=h;exact ⟨gv,at',h1.kept h4 hk (fun _ h=>h.elim),h2,h3,by have:=hk.size;omega,h5,hk.blk h6 id,h7⟩
theorem WSR.mono {K:Wk} {gv0:List Bool} {xb j:Nat} {out:Bool} {R R':Nat→Prop} {w:World} (h:WSR K gv0 xb j out R w) (hR:out=false→∀ i,R i→R' i):WSR K gv0 xb j out R' w:=by
 obtain ⟨gv,at',h1,h2,h3,h4,h5,h6,h7,h8,h9⟩:=h;exact ⟨gv,at',h1,h2,h3,h4,h5,h6,h7,fun e=>hR e _ (h8 e),h9⟩
theorem UR (a b c d e f g h:Value) (w:World):(Instr.field 172 (.agg #[a,b,c,d,e,f,g,h]) 5).run Try.prog w=.ok f w:=by
 simp [Instr.field,go_sem]
 rfl
theorem UQ (a b c d e f g h:Value) (w:World):(Instr.field 172 (.agg #[a,b,c,d,e,f,g,h]) 6).run Try.prog w=.ok g w:=by
 simp [Instr.field,go_sem]
 rfl
theorem UP (a b c d e f g h:Value) (w:World):(Instr.field 172 (.agg #[a,b,c,d,e,f,g,h]) 7).run Try.prog w=.ok h w:=by
 simp [Instr.field,go_sem]
 rfl
section
variable {α:Type} {K:Wk} {gv0:List Bool} {xb j:Nat} {l:List (Xm α)} {T:List α} {out:Bool} {c:Xm α} {w w':World}
theorem WS.kept (h:WS K gv0 xb j l T out c w) (hk:Kept (fun _=>False) w w'):WS K gv0 xb j l T out c w':=⟨h.s.kept hk,h.t⟩
theorem WS.out_ {c':Xm α} (h:WS K gv0 xb j l T true c w):WS K gv0 xb j l T true c' w:=⟨h.s.mono fun e=>(by cases e),h.t⟩
theorem WS.lt (h:WS K gv0 xb j l T out c w):xb < w.heap.size:=by
 obtain ⟨gv,at',h1,h2,h3,h4,h5,h6,_⟩:=h.s;exact Blk.lt h6
theorem WS.cell2 (h:WS K gv0 xb j l T out c w):w.cell? ⟨xb,2,none⟩=some (.bool out):=by
 obtain ⟨gv,at',h1,h2,h3,h4,h5,h6,_⟩:=h.s;exact Blk.cell h6 2
theorem WS.no (h:WS K gv0 xb j l T false .out w):False:=by
 obtain ⟨gv,at',h1,h2,h3,h4,h5,h6,h7,h8,_⟩:=h.s;exact (h8 rfl).out_
def Um (K:Wk) (gv0:List Bool) (xb j:Nat) (l:List (Xm α)) (T:List α) (out:Bool) (k:Told→Xm α) (w:World) (e:Ending) (w':World):Prop :=
 ∃ out' a,e=.returned (.agg (Yj a).toArray)∧WS K gv0 xb j l T out' (k ⟨a.was,a.now,a.ok⟩) w'∧Kept (Yg K xb) w w'∧(out=true→out'=true)
theorem Xar {nc:Nat} (hK:K.OK nc) {r:Ask} {k:Told→Xm α} (h:WS K gv0 xb j l T out (.acc r k) w) (hc:r.cell < nc) :
 Calls Try.prog 137 #[.pointer (some ⟨xb,0,none⟩),.int .i8 r.op,nmV (K.nm r.cell),.int .i64 r.arg,.int .i64 r.new] w (Um K gv0 xb j l T out k w):=by
 have hS:=h;obtain ⟨⟨gv,at',h1,h2,h3,h4,h5,h6,h7,h8,h9⟩,h10⟩:=h;cases out with
 | true =>
  refine (Xas (gv:=gv) h6 r.op r.arg r.new (K.nm r.cell)).mono ?_;rintro e w' ⟨he,hk⟩;exact ⟨true,⟨0,0,0,0,0,0,0,false⟩,he,(hS.kept hk).out_,hk.mono fun _ h=>h.elim,fun _=>rfl⟩
 | false =>
  refine (Xd6 hK h1 h4 h5 h6 h3 (h8 rfl) hc).mono ?_;rintro e w' ⟨gv',a1,a2,a3,a4⟩;have hsz:=a3.size;rcases a4 with ⟨q,a,b1,b2,b3,b4,b5,b6,b7,b8⟩|⟨b1,b2,b3,b4,b5⟩
  ·refine ⟨false,a,b6,⟨⟨gv',q + 1,a1,h2.trans a2,?_,by omega,h5,b7,fun x b c1 c2 c3=>?_,fun _=>b8,fun e=>(by cases e)⟩,fun e=>(by cases e)⟩,a3,fun e=>(by cases e)⟩
   ·have:=(List.getElem?_eq_some_iff.1 b2).1;omega
   ·by_cases e1:x < at'
    ·exact a2 _ (h7 x b e1 c2 c3)
    ·by_cases e2:x=q
     ·subst e2;rw [b2] at c2;rw [← Option.some.inj c2];exact b5
     ·exact absurd c3 (b4 x b (by omega) (by omega) c2)
  ·refine ⟨true,⟨0,0,0,0,0,0,0,false⟩,b3,⟨⟨gv',K.L.length,a1,h2.trans a2,Nat.le_refl _,by omega,h5,b4,fun x b c1 c2 c3=>?_,fun e=>(by cases e),fun _=>⟨fun x b c1 c2=>?_,b2⟩⟩,fun _=>b5⟩,a3,fun _=>rfl⟩
   ·by_cases e1:x < at'
    ·exact a2 _ (h7 x b e1 c2 c3)
    ·exact absurd c3 (b1 x b (by omega) c2)
   ·have:=(List.getElem?_eq_some_iff.1 c2).1;omega
variable {nc:Nat} (hK:K.OK nc) {k:Told→Xm α}
include hK
theorem XdB (c:Nat) (h:WS K gv0 xb j l T out (.acc ⟨1,c,0,0⟩ k) w) (hc:c < nc) :
 Calls Try.prog 89 #[.pointer (some ⟨xb,0,none⟩),nmV (K.nm c)] w (fun e w'=>∃ out' t,e=.returned (.int .i64 t.was)∧WS K gv0 xb j l T out' (k t) w'∧Kept (Yg K xb) w w'∧(out=true→out'=true)):=by
 obtain ⟨n1,n2,hnm⟩:∃ n1 n2,K.nm c=(n1,n2):=⟨_,_,rfl⟩
 have hd:∀ z,Kept (fun _=>False) w z→Calls Try.prog 137 #[.pointer (some ⟨xb,0,none⟩),.int .i8 1,.agg #[.int .i64 n1,.int .i64 n2],.int .i64 0,.int .i64 0] z (Um K gv0 xb j l T out k z):=fun z hz=>by
  have:=Xar hK (h.kept hz) hc
  rw [show nmV (K.nm c)=.agg #[.int .i64 n1,.int .i64 n2] by rw [hnm];rfl] at this;exact this
 rw [hnm];replace hd:=Lib.hid hd;clear h hnm hK;unfold nmV
 go_enter Try.func89,Try.ntmps89
 go_upto_region 1 with (fail)
 have hk:=(Kept.refl (fun _=>False) w).alloc (.cells #[.int .i64 n1,.int .i64 n2] 51);have hp:Blk (w.alloc (.cells #[.int .i64 n1,.int .i64 n2] 51)) w.heap.size 51 #[.int .i64 n1,.int .i64 n2]:=Blk.new w _ _;generalize w.alloc (.cells #[.int .i64 n1,.int .i64 n2] 51)=w1 at hk hp ⊢;generalize w.heap.size=pb at hp ⊢;have p0:w1.cell? ⟨pb,0,none⟩=some (.int .i64 n1):=Blk.cell hp 0;have p1:w1.cell? ⟨pb,1,none⟩=some (.int .i64 n2):=Blk.cell hp 1;have hpl:=Blk.lt hp;clear hp;have hf5:=UR;have hf6:=UQ;have hf7:=UP
 go_wp2_with (go_at_call 137;go_must (refine (hd.out w1 hk).mono ?_);rintro e w2 ⟨out',a,he,hs,hk2,ho⟩;obtain rfl:e=.returned (.agg #[.int .i64 a.thread,.int .i8 a.op,.int .i64 a.cell,.int .i64 a.arg,.int .i64 a.new,.int .i64 a.was,.int .i64 a.now,.bool a.ok]):=he)
 go_ret;exact ⟨out',⟨a.was,a.now,a.ok⟩,rfl,hs,(hk.mono fun _ h=>h.elim).trans hk2,ho⟩
theorem XbR (c:Nat) (v:Int) (h:WS K gv0 xb j l T out (.acc ⟨2,c,v,0⟩ k) w) (hc:c < nc) :
 Calls Try.prog 90 #[.pointer (some ⟨xb,0,none⟩),nmV (K.nm c),.int .i64 v] w (fun e w'=>∃ out' t,e=.returned (.tuple #[])∧WS K gv0 xb j l T out' (k t) w'∧Kept (Yg K xb) w w'∧(out=true→out'=true)):=by
 obtain ⟨n1,n2,hnm⟩:∃ n1 n2,K.nm c=(n1,n2):=⟨_,_,rfl⟩
 have hd:∀ z,Kept (fun _=>False) w z→Calls Try.prog 137 #[.pointer (some ⟨xb,0,none⟩),.int .i8 2,.agg #[.int .i64 n1,.int .i64 n2],.int .i64 v,.int .i64 0] z (Um K gv0 xb j l T out k z):=fun z hz=>by
  have:=Xar hK (h.kept hz) hc
  rw [show nmV (K.nm c)=.agg #[.int .i64 n1,.int .i64 n2] by rw [hnm];rfl] at this;exact this
 rw [hnm];replace hd:=Lib.hid hd;clear h hnm hK;unfold nmV
 go_enter Try.func90,Try.ntmps90
 go_upto_region 1 with (fail)
 have hk:=(Kept.refl (fun _=>False) w).alloc (.cells #[.int .i64 n1,.int .i64 n2] 51);have hp:Blk (w.alloc (.cells #[.int .i64 n1,.int .i64 n2] 51)) w.heap.size 51 #[.int .i64 n1,.int .i64 n2]:=Blk.new w _ _;generalize w.alloc (.cells #[.int .i64 n1,.int .i64 n2] 51)=w1 at hk hp ⊢;generalize w.heap.size=pb at hp ⊢;have p0:w1.cell? ⟨pb,0,none⟩=some (.int .i64 n1):=Blk.cell hp 0;have p1:w1.cell? ⟨pb,1,none⟩=some (.int .i64 n2):=Blk.cell hp 1;have hpl:=Blk.lt hp;clear hp;have hf5:=UR;have hf6:=UQ;have hf7:=UP
 go_wp2_with (go_at_call 137;go_must (refine (hd.out w1 hk).mono ?_);rintro e w2 ⟨out',a,he,hs,hk2,ho⟩;obtain rfl:e=.returned (.agg #[.int .i64 a.thread,.int .i8 a.op,.int .i64 a.cell,.int .i64 a.arg,.int .i64 a.new,.int .i64 a.was,.int .i64 a.now,.bool a.ok]):=he)
 go_end0
 exact ⟨out',⟨a.was,a.now,a.ok⟩,rfl,hs,(hk.mono fun _ h=>h.elim).trans hk2,ho⟩
theorem XeF (c:Nat) (o n:Int) (h:WS K gv0 xb j l T out (.acc ⟨3,c,o,n⟩ k) w) (hc:c < nc) :
 Calls Try.prog 91 #[.pointer (some ⟨xb,0,none⟩),nmV (K.nm c),.int .i64 o,.int .i64 n] w (fun e w'=>∃ out' t,e=.returned (.bool t.ok)∧WS K gv0 xb j l T out' (k t) w'∧Kept (Yg K xb) w w'∧(out=true→out'=true)):=by
 obtain ⟨n1,n2,hnm⟩:∃ n1 n2,K.nm c=(n1,n2):=⟨_,_,rfl⟩
 have hd:∀ z,Kept (fun _=>False) w z→Calls Try.prog 137 #[.pointer (some ⟨xb,0,none⟩),.int .i8 3,.agg #[.int .i64 n1,.int .i64 n2],.int .i64 o,.int .i64 n] z (Um K gv0 xb j l T out k z):=fun z hz=>by
  have:=Xar hK (h.kept hz) hc
  rw [show nmV (K.nm c)=.agg #[.int .i64 n1,.int .i64 n2] by rw [hnm];rfl] at this;exact this
 rw [hnm];replace hd:=Lib.hid hd;clear h hnm hK;unfold nmV
 go_enter Try.func91,Try.ntmps91
 go_upto_region 1 with (fail)
 have hk:=(Kept.refl (fun _=>False) w).alloc (.cells #[.int .i64 n1,.int .i64 n2] 51);have hp:Blk (w.alloc (.cells #[.int .i64 n1,.int .i64 n2] 51)) w.heap.size 51 #[.int .i64 n1,.int .i64 n2]:=Blk.new w _ _;generalize w.alloc (.cells #[.int .i64 n1,.int .i64 n2] 51)=w1 at hk hp ⊢;generalize w.heap.size=pb at hp ⊢;have p0:w1.cell? ⟨pb,0,none⟩=some (.int .i64 n1):=Blk.cell hp 0;have p1:w1.cell? ⟨pb,1,none⟩=some (.int .i64 n2):=Blk.cell hp 1;have hpl:=Blk.lt hp;clear hp;have hf5:=UR;have hf6:=UQ;have hf7:=UP
 go_wp2_with (go_at_call 137;go_must (refine (hd.out w1 hk).mono ?_);rintro e w2 ⟨out',a,he,hs,hk2,ho⟩;obtain rfl:e=.returned (.agg #[.int .i64 a.thread,.int .i8 a.op,.int .i64 a.cell,.int .i64 a.arg,.int .i64 a.new,.int .i64 a.was,.int .i64 a.now,.bool a.ok]):=he)
 go_ret;exact ⟨out',⟨a.was,a.now,a.ok⟩,rfl,hs,(hk.mono fun _ h=>h.elim).trans hk2,ho⟩
end
theorem XbP {K:Wk} {gv:List Bool} {w:World} (hW:WAt K gv w) (hF:K.vF=.slice none 0 0) (j:Nat):Calls Try.prog 97 #[.pointer (some ⟨K.wb,0,none⟩),.int .i64 j] w (fun e w'=>e=.returned (.bool false)∧w'=w):=by
 have c6:w.cell? ⟨K.wb,6,none⟩=some (.slice none 0 0):=(Blk.cell hW.blk 6).trans (congrArg some hF);have hwb:=Blk.lt hW.blk;clear hW
 go_enter Try.func97,Try.ntmps97
 go_upto_region 2 with (fail)
 go_loopw [5] (fun i wr=>i=.int .i64 0∧wr=w) (fun _ _=>0)
 case atStart=>exact ⟨rfl,rfl⟩
 case round =>
  obtain ⟨rfl,rfl⟩:=hrel;have x0:decide ((0:Int) < 0)=false:=by decide
  go_wp2_with fail
  go_ret;exact ⟨rfl,rfl⟩
def XgS (K:Wk) (gv0:List Bool) (xb j:Nat) (w w':World):Prop:=∃ gv,WAt K gv w'∧Ul gv0 gv∧Kept (Yg K xb) w w'∧∀ (q:Nat) (a:Xo),K.L[q]? = some a→a.thread=j→gv.getD a.cell.toNat false=true
theorem XdA {α:Type} {K:Wk} {gv0:List Bool} {xb j:Nat} {out:Bool} {w:World} (hF:K.vF=.slice none 0 0) (h:WSR K gv0 xb j out (fun i=>ZL K.L K.left K.names K.cells j i (.ended:Nx α) []) w) :
 Calls Try.prog 25 #[.pointer (some ⟨xb,0,none⟩),.bool false] w (fun e w'=>e=.returned (.tuple #[])∧XgS K gv0 xb j w w'):=by
 obtain ⟨gv,at',h1,h2,h3,h4,h5,h6,h7,h8,h9⟩:=h;have hno:∀ q a,at'≤q→K.L[q]? = some a→a.thread≠j:=by
  cases out with
  | true=>exact (h9 rfl).1
  | false =>
   have:=h8 rfl
   cases this with
   | ended a b=>exact a
 obtain ⟨b,hvl⟩:∃ b:Xo,U7 (K.left.find? fun a=>a.thread == j)=.tuple #[.agg #[.int .i64 b.thread,.int .i8 b.op,.int .i64 b.cell,.int .i64 b.arg,.int .i64 b.new,.int .i64 b.was,.int .i64 b.now,.bool b.ok],.bool out]:=by
  cases out with
  | true =>
   obtain ⟨a,ha⟩:=(h9 rfl).2;rw [ha];exact ⟨a,rfl⟩
  | false =>
   have:=h8 rfl
   cases this with
   | ended a b =>
    have hf:(K.left.find? fun a=>a.thread == j)=none:=by
     rw [List.find?_eq_none];intro x hx;simpa using b x hx
    rw [hf];exact ⟨⟨0,0,0,0,0,0,0,false⟩,rfl⟩
 have hxa:=h1.away h6 (by decide) h5;have hnx:=Qr h1 h4 h5 h6 h3;have hstep:=ZY hno;have hEnd:∀ w' gv',WAt K gv' w'→Ul gv gv'→Kept (Yg K xb) w w'→XgS K gv0 xb j w w':=fun w' gv' q1 q2 q3 =>
  ⟨gv',q1,h2.trans q2,q3,fun q a c1 c2=>q2 _ (h7 q a (by
   rcases Nat.lt_or_ge q at' with z|z
   ·exact z
   ·exact absurd c2 (hno q a z c1)) c1 c2)⟩
 have hxl:=Blk.lt h6;replace hnx:=Lib.hid hnx;replace hstep:=Lib.hid hstep;replace hEnd:=Lib.hid hEnd;replace h1:=Lib.hid h1;replace hvl:=Lib.hid hvl;replace hxa:=Lib.hid hxa;clear h2 h6 h7 h8 h9 hno
 go_enter Try.func25,Try.ntmps25
 go_upto_region 1 with (go_at_call 95;go_must (refine hnx.out.mono ?_);rintro e w2 ⟨o,ho,he,hx2,hk2⟩;rw [hstep.out] at ho;subst ho;obtain rfl:e=.returned (.tuple #[.agg #[.int .i64 0,.int .i8 0,.int .i64 0,.int .i64 0,.int .i64 0,.int .i64 0,.int .i64 0,.bool false],.bool false]):=he)
 replace hx2:Blk w2 xb 55 (XD K.wb j out K.L.length):=hx2;have hW2:=h1.out.kept h4 hk2 (fun z e=>by rw [e];exact hxa.out);have hk3:Kept (fun _=>False) w2 (w2.alloc (.cells #[.int .i64 0,.int .i8 0,.int .i64 0,.int .i64 0,.int .i64 0,.int .i64 0,.int .i64 0,.bool false] 172)):=(Kept.refl _ w2).alloc _;have hx3:=hk3.blk hx2 id;have hs2:=hk2.size;have hW3:=hW2.kept (by omega) hk3 (fun _ h=>h.elim);have hk13:=hk2.trans (hk3.mono fun _ h=>h.elim);have hs3:=hk13.size;generalize w2.alloc (.cells #[.int .i64 0,.int .i8 0,.int .i64 0,.int .i64 0,.int .i64 0,.int .i64 0,.int .i64 0,.bool false] 172)=w3 at hk3 hx3 hW3 hk13 hs3 ⊢;have hlf:=Uq hW3 (by omega) hx3;clear hk3 hx2 hW2 hk2 hs2;rw [show Xdr K j w3=fun e w'=>e=.returned (U7 (K.left.find? fun a=>a.thread == j))∧Kept (fun _=>False) w3 w' from rfl,hvl.out] at hlf;replace hlf:=Lib.hid hlf;replace hW3:=Lib.hid hW3;replace hx3:=Lib.hid hx3;replace hk13:=Lib.hid hk13;generalize w2.heap.size=u2
 go_upto_region 2 with (go_at_call 96;go_must (refine hlf.out.mono ?_);rintro e w4 ⟨he,hk4⟩;obtain rfl:e=_:=he)
 have hk5:Kept (fun _=>False) w3 (w4.alloc (.cells #[.int .i64 b.thread,.int .i8 b.op,.int .i64 b.cell,.int .i64 b.arg,.int .i64 b.new,.int .i64 b.was,.int .i64 b.now,.bool b.ok] 172)):=hk4.alloc _;generalize w4.alloc (.cells #[.int .i64 b.thread,.int .i8 b.op,.int .i64 b.cell,.int .i64 b.arg,.int .i64 b.new,.int .i64 b.was,.int .i64 b.now,.bool b.ok] 172)=w5 at hk5 ⊢;have hx5:=hk5.blk hx3.out id;have hW5:=hW3.out.kept (by omega) hk5 (fun _ h=>h.elim);have x0:w5.cell? ⟨xb,0,none⟩=some (.pointer (some ⟨K.wb,0,none⟩)):=Blk.cell hx5 0;have x1:w5.cell? ⟨xb,1,none⟩=some (.int .i64 j):=Blk.cell hx5 1;have x2:w5.cell? ⟨xb,2,none⟩=some (.bool out):=Blk.cell hx5 2;have hxl5:=Blk.lt hx5;have hfl:∀ z:World,z.heap=w5.heap→Calls Try.prog 97 #[.pointer (some ⟨K.wb,0,none⟩),.int .i64 j] z (fun e w'=>e=.returned (.bool false)∧w'=z):=fun z hz=>XbP (hW5.frame (w':=z) fun q _=>by rw [hz]) hF j;have hbb:(out != out)=false:=by simp
 replace hfl:=Lib.hid hfl;have hk15:=hk13.out.trans (hk5.mono fun _ h=>h.elim);replace hW5:=Lib.hid hW5;replace hk15:=Lib.hid hk15;clear hx5 hk4 hk5;generalize w4.heap.size=u4;refine wp_region_quiet_lit (by kernel_rfl) (by kernel_rfl) ?_;refine Xz 11 _ _ (fun K' hK'=>?_);simp only [List.take_succ_cons,List.take_zero]
 iterate 11 go_big_quiet_step (fail)
 refine wpQuiet_nil ?_;refine hK' _ ?_;clear hK' K';simp only [List.drop_succ_cons,List.drop_zero];refine YQ 15 rfl rfl _ rfl (by kernel_rfl) ?_;simp only [List.take_succ_cons,List.take_zero,List.drop_succ_cons,List.drop_zero,Q0];go_simp
 iterate 2 go_big_quiet_step (fail)
 refine wpQuiet_nil ?_;intro nd;have x0':(w5.drewN nd).cell? ⟨xb,0,none⟩=some (.pointer (some ⟨K.wb,0,none⟩)):=x0;have x1':(w5.drewN nd).cell? ⟨xb,1,none⟩=some (.int .i64 j):=x1;have hfl':∀ z:World,z.heap=(w5.drewN nd).heap→Calls Try.prog 97 #[.pointer (some ⟨K.wb,0,none⟩),.int .i64 j] z (fun e w'=>e=.returned (.bool false)∧w'=z):=fun z hz=>hfl.out z hz;have hW6:WAt K gv (w5.drewN nd):=hW5.out.frame fun _ _=>rfl;have hk16:=hk15.out.drewN nd;have hxl6:xb < (w5.drewN nd).heap.size:=hxl5;generalize w5.drewN nd=w6 at x0' x1' hfl' hW6 hk16 hxl6 ⊢;clear x0 x1 x2 hfl hW5 hk15 hxl5;replace hfl':=Lib.hid hfl';replace hW6:=Lib.hid hW6;replace hk16:=Lib.hid hk16
 go_upto_region 4 with (fail)
 refine wp_region_quiet_lit (by kernel_rfl) (by kernel_rfl) ?_;refine Xz 11 _ _ (fun K' hK'=>?_);simp only [List.take_succ_cons,List.take_zero]
 iterate 11 go_big_quiet_step (fail)
 refine wpQuiet_nil ?_;refine hK' _ ?_;clear hK' K';simp only [List.drop_succ_cons,List.drop_zero]
 go_big_quiet_step (exact (hfl'.out (w6.drewN _) rfl).mono fun e w' h=>⟨h.1,_,h.2⟩)
 go_big_quiet_step (fail)
 refine wpQuiet_nil ?_;rintro _ ⟨nd2,rfl⟩
 go_wp2_with fail
 go_end0
 exact ⟨rfl,hEnd.out _ _ (hW6.out.frame fun _ _=>rfl) (Ul.refl _) ((hk16.out.drewN nd2).mono fun q h=>.inr h)⟩
theorem Xew:(Try.prog.info? 51).map (fun i=>(i.zero,i.size,i.bytes))=some (some (.agg #[.int .i64 0,.int .i64 0]),2,16):=by kernel_rfl
theorem Xf0:(Try.prog.info? 4).map (fun i=>(i.zero,i.size,i.bytes))=some (some (.bool false),1,1):=by kernel_rfl
theorem XfT (wb j:Nat) (w:World):Calls Try.prog 23 #[.pointer (some ⟨wb,0,none⟩),.int .i64 j] w (fun e w'=>e=.returned (.pointer (some ⟨w.heap.size,0,none⟩))∧Kept (fun _=>False) w w'∧Blk w' w.heap.size 55 (XD wb j false 0)∧w'.heap.size=w.heap.size + 1):=by
 go_enter Try.func23,Try.ntmps23
 go_wp2_with fail
 go_ret;exact ⟨rfl,(Kept.refl _ w).alloc _,Blk.new w _ _,by simp⟩
def Xdy (n:Nat):List Value:=(List.range n).flatMap fun _=>nmL (0,0)
theorem XcC (n:Nat):Xdy (n + 1)=Xdy n ++ [.int .i64 0,.int .i64 0]:=by
 unfold Xdy;rw [List.range_succ,List.flatMap_append];rfl
theorem Zi {w1 w2:World} {M size n:Nat} {t:TypeId} {v:Value} {xs:List Value} {o:Obj} (h:w1.ownsRow M t size v n xs) (hg:(w1.alloc o).grownBy w2 v.ownBlock) {b:Nat} {t':TypeId} {cs:Array Value} (hb:Blk w1 b t' cs) (ne:t'≠t):Blk w2 b t' cs:=by
 have hl:=Blk.lt hb;have e1:w2.heap[b]? = (w1.alloc o).heap[b]?:=hg.block b (by simp;omega) (fun e=>Blk.ne_ hb (Y0 h e.symm) ne rfl);exact (e1.trans (Below.heap_alloc _ _ b hl)).trans hb
theorem YA {w1 w2:World} {M size n:Nat} {t:TypeId} {v:Value} {xs:List Value} {o:Obj} (h:w1.ownsRow M t size v n xs) (hg:(w1.alloc o).grownBy w2 v.ownBlock) {M' size' n':Nat} {t':TypeId} {v':Value} {xs':List Value} (h':w1.ownsRow M' t' size' v' n' xs') (ne:t'≠t):w2.ownsRow M' t' size' v' n' xs' :=
 Xj h' fun b hb=>by
  have hl:=own_lt h' hb;rw [hg.block b (by simp;omega) (fun e=>Blk.ne_ (Y0 h' hb) (Y0 h e.symm) ne rfl)];exact Below.heap_alloc _ _ b hl
theorem Ye {w:World} {M size n:Nat} {t:TypeId} {v:Value} {xs:List Value} (h:w.ownsRow M t size v n xs) {b:Nat} {t':TypeId} {cs:Array Value} (hb:Blk w b t' cs) (ne:t'≠t) (i:Nat) (u:Value):(w.setCell ⟨b,i,none⟩ u).ownsRow M t size v n xs :=
 Xj h fun g hg=>Below.heap_setCell _ _ _ g fun e=>Blk.ne_ (Y0 h hg) hb (fun e=>ne e.symm) e
def XgG (A:Value→Value→Value→Array Value) (L:List Xo) (firstAt:Nat→List Int) (rb wb:Nat) (RA:Array Value) (w:World) (i:Value) (wr:World):Prop :=
 ∃ (k:Nat) (vN vG v1:Value),k≤L.length∧i=.int .i64 k∧Blk wr rb 43 RA∧Blk wr wb 61 (A vN vG v1)∧wr.ownsRow w.heap.size 51 2 vN (firstAt k).length (Xdy (firstAt k).length)∧wr.ownsRow w.heap.size 4 1 vG (firstAt k).length (List.replicate (firstAt k).length (.bool false))∧wr.ownsRow w.heap.size 2 1 v1 (firstAt k).length (YO (firstAt k))∧Kept (fun _=>False) w wr
theorem Xac {e:Int} {nr:Nat} {aL al:Option Addr} {vW vR vF:Value} {cL cl:Nat} {L left:List Xo} {nowAt firstAt:Nat→List Int} {w:World} (hL:XW w w.heap.size aL L) (hlen:L.length≤65536) (hmk:XaA L left nowAt firstAt) (hvW:∃ a n c,vW=.slice a n c) (hvR:∃ a n c,vR=.slice a n c) (hvF:∃ a n c,vF=.slice a n c) :
 Calls Try.prog 21 #[XfG e nr (.slice aL L.length cL) vW vR (.slice al left.length cl) vF] w (fun e' w'=>∃ wb vN vG v1,e'=.returned (.pointer (some ⟨wb,0,none⟩))∧w.heap.size≤wb∧Blk w' wb 61 (UZ e nr (.slice aL L.length cL) vW vR (.slice al left.length cl) vF false vN vG v1 (.slice none 0 0) (.slice none 0 0)) ∧
  w'.ownsRow w.heap.size 51 2 vN (firstAt L.length).length (Xdy (firstAt L.length).length)∧w'.ownsRow w.heap.size 4 1 vG (firstAt L.length).length (List.replicate (firstAt L.length).length (.bool false))∧w'.ownsRow w.heap.size 2 1 v1 (firstAt L.length).length (YO (firstAt L.length))∧Kept (fun _=>False) w w'):=by
 obtain ⟨a1,n1,c1,rfl⟩:=hvW;obtain ⟨a2,n2,c2,rfl⟩:=hvR;obtain ⟨a3,n3,c3,rfl⟩:=hvF;have HL:=Lib.hid hL;have HM:=Lib.hid hmk;clear hL hmk;unfold XfG
 go_enter Try.func21,Try.ntmps21
 go_upto_region 2 with (fail)
 have hr0:Blk ((w.alloc (.cells #[.int .i8 e,.int .i64 nr,.slice aL L.length cL,.slice a1 n1 c1,.slice a2 n2 c2,.slice al left.length cl,.slice a3 n3 c3] 43)).alloc (.cells #[.int .i8 e,.int .i64 nr,.slice aL L.length cL,.slice a1 n1 c1,.slice a2 n2 c2,.slice al left.length cl,.slice a3 n3 c3,.bool false,.slice none 0 0,.slice none 0 0,.slice none 0 0,.slice none 0 0,.slice none 0 0] 61)) w.heap.size 43 #[.int .i8 e,.int .i64 nr,.slice aL L.length cL,.slice a1 n1 c1,.slice a2 n2 c2,.slice al left.length cl,.slice a3 n3 c3]:=(Blk.new w _ _).alloc _;have hw0:Blk ((w.alloc (.cells #[.int .i8 e,.int .i64 nr,.slice aL L.length cL,.slice a1 n1 c1,.slice a2 n2 c2,.slice al left.length cl,.slice a3 n3 c3] 43)).alloc (.cells #[.int .i8 e,.int .i64 nr,.slice aL L.length cL,.slice a1 n1 c1,.slice a2 n2 c2,.slice al left.length cl,.slice a3 n3 c3,.bool false,.slice none 0 0,.slice none 0 0,.slice none 0 0,.slice none 0 0,.slice none 0 0] 61)) (w.heap.size + 1) 61 #[.int .i8 e,.int .i64 nr,.slice aL L.length cL,.slice a1 n1 c1,.slice a2 n2 c2,.slice al left.length cl,.slice a3 n3 c3,.bool false,.slice none 0 0,.slice none 0 0,.slice none 0 0,.slice none 0 0,.slice none 0 0]:=Blk.new' _ _ _ _ (by simp);have hk0:=((Kept.refl (fun _=>False) w).alloc (.cells #[.int .i8 e,.int .i64 nr,.slice aL L.length cL,.slice a1 n1 c1,.slice a2 n2 c2,.slice al left.length cl,.slice a3 n3 c3] 43)).alloc (.cells #[.int .i8 e,.int .i64 nr,.slice aL L.length cL,.slice a1 n1 c1,.slice a2 n2 c2,.slice al left.length cl,.slice a3 n3 c3,.bool false,.slice none 0 0,.slice none 0 0,.slice none 0 0,.slice none 0 0,.slice none 0 0] 61);generalize ((w.alloc (.cells #[.int .i8 e,.int .i64 nr,.slice aL L.length cL,.slice a1 n1 c1,.slice a2 n2 c2,.slice al left.length cl,.slice a3 n3 c3] 43)).alloc (.cells #[.int .i8 e,.int .i64 nr,.slice aL L.length cL,.slice a1 n1 c1,.slice a2 n2 c2,.slice al left.length cl,.slice a3 n3 c3,.bool false,.slice none 0 0,.slice none 0 0,.slice none 0 0,.slice none 0 0,.slice none 0 0] 61))=w0 at hr0 hw0 hk0 ⊢;generalize hrb:w.heap.size=rb at hr0 ⊢;generalize hwb:rb + 1=wb at ⊢;rw [hrb,hwb] at hw0;have hrw:rb≠wb:=by omega
 have hrw':wb≠rb:=by omega
 replace hrb:=Lib.hid hrb;replace hwb:=Lib.hid hwb;replace hr0:=Lib.hid hr0;replace hw0:=Lib.hid hw0;replace hk0:=Lib.hid hk0;obtain ⟨iN,hiN,hn0,hn1,hn2⟩:=XM Xew;obtain ⟨iB,hiB,hb0,hb1,hb2⟩:=XM Xf0;obtain ⟨iF,hiF,hf0,hf1,hf2⟩:=XM Xai
 go_upto_region 3 with (fail)
 go_loopw [4] (fun i wr=>XgG (fun vN vG v1=>UZ e nr (.slice aL L.length cL) (.slice a1 n1 c1) (.slice a2 n2 c2) (.slice al left.length cl) (.slice a3 n3 c3) false vN vG v1 (.slice none 0 0) (.slice none 0 0)) L firstAt rb wb #[.int .i8 e,.int .i64 nr,.slice aL L.length cL,.slice a1 n1 c1,.slice a2 n2 c2,.slice al left.length cl,.slice a3 n3 c3] w i wr) (fun i _=>L.length - (intOf i).toNat)
 case atStart =>
  have hz:=HM.out.first0;exact ⟨0,_,_,_,Nat.zero_le _,rfl,hr0.out,hw0.out,by rw [hz];exact X7,by rw [hz];exact X7,by rw [hz];exact X7,hk0.out⟩
 case round =>
  obtain ⟨k,vN,vG,v1,hk,rfl,hbr,hbw,hN,hG,hF,hKp⟩:=hrel;have hLr:=HL.out.of (w':=wr) fun q hq=>hKp.block q hq id;obtain ⟨aN,cN,rfl⟩:=Xq hN;obtain ⟨aG,cG,rfl⟩:=Xq hG;obtain ⟨aF,cF,rfl⟩:=Xq hF;have r2:wr.cell? ⟨rb,2,none⟩=some (.slice aL L.length cL):=Blk.cell hbr 2;have k10:wr.cell? ⟨wb,10,none⟩=some (.slice aF (firstAt k).length cF):=Blk.cell hbw 10;have hrl:=Blk.lt hbr;have hwl:=Blk.lt hbw;have hsz:=hKp.size
  by_cases hkn:k < L.length
  ·obtain ⟨a,ha⟩:∃ a,L[k]? = some a:=⟨_,List.getElem?_eq_getElem hkn⟩
   obtain ⟨g,off,hg,hgB,hA⟩:=hLr.at_ k a ha;rw [hg] at r2;obtain ⟨q0,q1,q2,q3,q4,q5,q6,q7⟩:=Yt hA;clear hA hLr;obtain ⟨m,hm,hcase⟩:=HM.out.cell k a ha;obtain ⟨hln,hlf⟩:=HM.out.lens k hk;obtain ⟨q,hq⟩:∃ q,(firstAt k).length=q:=⟨_,rfl⟩
   rw [hq] at hN hG hF k10;have hq1:q≤k:=by omega
   have hqn:(nowAt k).length=q:=by omega
   have x0:decide (k < L.length)=true:=by simpa using hkn
   have x1:decide ((k:Int) < L.length)=true:=by simp;omega
   have x2:(k:Int) < L.length:=by omega
   have x3:(0:Int)≤k:=by omega
   have hgl:g < wr.heap.size:=by omega
   have hgr:g≠rb:=by have:=hrb.out;omega
   have hgw:g≠wb:=by have:=hrb.out;have:=hwb.out;omega
   have hi1:IntKind.i64.wrap ((k:Int) + 1)=((k + 1:Nat):Int):=by rw [IntKind.wrap_i64];omega
   rw [hm] at q2;replace ha:=Lib.hid ha;replace hq:=Lib.hid hq;replace hg:=Lib.hid hg;replace hm:=Lib.hid hm;clear hln hlf
   by_cases hmq:m=q
   ·obtain ⟨hf3⟩:firstAt (k + 1)=firstAt k ++ [a.was]∧True:=by
     rcases hcase with ⟨_,_,h⟩|⟨h,_⟩
     ·exact ⟨h,trivial⟩
     ·have:=(List.getElem?_eq_some_iff.1 h).1;omega
    subst hmq;have y1:((m:Int) == m)=true:=by simp
    have y2:decide ((m:Int)=m)=true:=by simp
    have y3:(m == m)=true:=by simp
    clear hcase
    go_upto_region 5 with (fail)
    go_region
    obtain ⟨w1,hw1⟩:∃ w1,w1=wr.drew:=⟨_,rfl⟩
    rw [← hw1];have hbrw1:Blk w1 rb 43 #[.int .i8 e,.int .i64 nr,.slice aL L.length cL,.slice a1 n1 c1,.slice a2 n2 c2,.slice al left.length cl,.slice a3 n3 c3]:=by rw [hw1];exact hbr
    have hbww1:Blk w1 wb 61 (UZ e nr (.slice aL L.length cL) (.slice a1 n1 c1) (.slice a2 n2 c2) (.slice al left.length cl) (.slice a3 n3 c3) false (.slice aN m cN) (.slice aG m cG) (.slice aF m cF) (.slice none 0 0) (.slice none 0 0)):=by rw [hw1];rw [hq.out] at hbw;exact hbw
    have hNw1:w1.ownsRow w.heap.size 51 2 (.slice aN m cN) m (Xdy m):=by rw [hw1];exact hN.drew
    have hGw1:w1.ownsRow w.heap.size 4 1 (.slice aG m cG) m (List.replicate m (.bool false)):=by rw [hw1];exact hG.drew
    have hFw1:w1.ownsRow w.heap.size 2 1 (.slice aF m cF) m (YO (firstAt k)):=by rw [hw1];exact hF.drew
    have hKpw1:Kept (fun _=>False) w w1:=by rw [hw1];exact hKp.drew
    clear hw1 hbr hbw hN hG hF hKp r2 k10 q0 q1 q2 q3 q4 q5 q6 q7 hrl hwl hsz hgl;have N2:Hid (m + 1≤maxLen):=Lib.hid (by unfold maxLen;omega);have N3N:Hid ((m + 1) * 16≤140737488355328):=Lib.hid (by omega);have N3G:Hid ((m + 1) * 1≤140737488355328):=Lib.hid (by omega);have N3F:Hid ((m + 1) * 8≤140737488355328):=Lib.hid (by omega);replace hbrw1:=Lib.hid hbrw1;replace hbww1:=Lib.hid hbww1;replace hNw1:=Lib.hid hNw1;replace hGw1:=Lib.hid hGw1;replace hFw1:=Lib.hid hFw1;replace hKpw1:=Lib.hid hKpw1;have HON:Hid ((w1.alloc (.cells #[.int .i64 0,.int .i64 0] 51)).ownsRow w.heap.size 51 2 (.slice aN m cN) m (Xdy m)):=Lib.hid (hNw1.out.alloc _);have N4N:Hid (w.heap.size≤(w1.alloc (.cells #[.int .i64 0,.int .i64 0] 51)).heap.size):=Lib.hid (by have:=hKpw1.out.size;simp;omega);have kN:w1.cell? ⟨wb,8,none⟩=some (.slice aN m cN):=Blk.cell hbww1.out 8;have hwlw1:=Blk.lt hbww1.out
    go_upto_region 7 with (first|(at_builtin;refine wpList_append_lies _ rfl _ _ 58 rfl w.heap.size 51 iN _ 2 16 Try.underlying58 hiN hn0 hn1 hn2 rfl (by decide) _ m (Xdy m) rfl HON.out ⟨w1.heap.size,0,none⟩ 1 1 [.int .i64 0,.int .i64 0] rfl rfl (World.news_of_block (cs:=#[.int .i64 0,.int .i64 0]) (t:=51) (fr:=(0,0)) (heap_alloc_new w1 _)) (by simp [Value.oneCell']) (by omega) N2.out N3N.out N4N.out _ rfl ?_;intro gNN cNN uN hown hgrow hat hlt3;have hbwu:=Zi hNw1.out hgrow hbww1.out (by decide);have ku:uN.cell? ⟨wb,8,none⟩=some (.slice aN m cN):=Blk.cell hbwu 8;have fu:uN.frozen? ⟨wb,8,none⟩=false:=Blk.frozen hbwu 8;have lu:=Blk.lt hbwu;have HOW:=Lib.hid hown;have HGR:=Lib.hid hgrow;replace hbwu:=Lib.hid hbwu;clear hown hgrow hat hlt3))
    have hbrw2:Blk (uN.setCell ⟨wb,8,none⟩ (.slice (some ⟨gNN,0,none⟩) (m + 1) cNN)) rb 43 #[.int .i8 e,.int .i64 nr,.slice aL L.length cL,.slice a1 n1 c1,.slice a2 n2 c2,.slice al left.length cl,.slice a3 n3 c3]:=Blk.far (Zi hNw1.out HGR.out hbrw1.out (by decide)) (p:=⟨wb,8,none⟩) hrw _;have hbww2:Blk (uN.setCell ⟨wb,8,none⟩ (.slice (some ⟨gNN,0,none⟩) (m + 1) cNN)) wb 61 (UZ e nr (.slice aL L.length cL) (.slice a1 n1 c1) (.slice a2 n2 c2) (.slice al left.length cl) (.slice a3 n3 c3) false (.slice (some ⟨gNN,0,none⟩) (m + 1) cNN) (.slice aG m cG) (.slice aF m cF) (.slice none 0 0) (.slice none 0 0)):=Blk.set_ hbwu.out 8 _;have hNw2:=Ye HOW.out hbwu.out (by decide) 8 (.slice (some ⟨gNN,0,none⟩) (m + 1) cNN);have hGw2:=Ye (YA hNw1.out HGR.out hGw1.out (by decide)) hbwu.out (by decide) 8 (.slice (some ⟨gNN,0,none⟩) (m + 1) cNN);have hFw2:=Ye (YA hNw1.out HGR.out hFw1.out (by decide)) hbwu.out (by decide) 8 (.slice (some ⟨gNN,0,none⟩) (m + 1) cNN);have hKpw2:Kept (fun _=>False) w (uN.setCell ⟨wb,8,none⟩ (.slice (some ⟨gNN,0,none⟩) (m + 1) cNN)):=by
     refine Kept.shrink (T:=fun q=>q=wb) ?_ (fun q hq h=>absurd h (by have:=hwb.out;have:=hrb.out;omega));refine Kept.set (S:=fun q=>q=wb) ?_ (p:=⟨wb,8,none⟩) rfl _;refine ⟨HGR.out.os.trans hKpw1.out.os,HGR.out.tape.trans hKpw1.out.tape,HGR.out.output.trans hKpw1.out.output,by have h1:=HGR.out.size;have h2:=hKpw1.out.size;simp at h1;omega,fun q hq _=>?_⟩
     have:=hKpw1.out.size
     rw [HGR.out.block q (by simp;omega) (fun e=>by have:=XE hNw1.out e.symm;omega),Below.heap_alloc _ _ q (by omega)];exact hKpw1.out.block q hq id
    generalize (uN.setCell ⟨wb,8,none⟩ (.slice (some ⟨gNN,0,none⟩) (m + 1) cNN))=w2 at hbrw2 hbww2 hNw2 hGw2 hFw2 hKpw2 ⊢;clear kN ku fu lu HON N4N hwlw1;replace hbrw2:=Lib.hid hbrw2;replace hbww2:=Lib.hid hbww2;replace hNw2:=Lib.hid hNw2;replace hGw2:=Lib.hid hGw2;replace hFw2:=Lib.hid hFw2;replace hKpw2:=Lib.hid hKpw2;clear HOW HGR hbwu hbrw1 hbww1 hNw1 hGw1 hFw1 hKpw1;have HOG:Hid ((w2.alloc (.cells #[.bool false] 4)).ownsRow w.heap.size 4 1 (.slice aG m cG) m (List.replicate m (.bool false))):=Lib.hid (hGw2.out.alloc _);have N4G:Hid (w.heap.size≤(w2.alloc (.cells #[.bool false] 4)).heap.size):=Lib.hid (by have:=hKpw2.out.size;simp;omega);have kG:w2.cell? ⟨wb,9,none⟩=some (.slice aG m cG):=Blk.cell hbww2.out 9;have hwlw2:=Blk.lt hbww2.out
    go_upto_region 8 with (first|(at_builtin;refine wpList_append_lies _ rfl _ _ 59 rfl w.heap.size 4 iB _ 1 1 Try.underlying59 hiB hb0 hb1 hb2 rfl (by decide) _ m (List.replicate m (.bool false)) rfl HOG.out ⟨w2.heap.size,0,none⟩ 1 1 [.bool false] rfl rfl (World.news_of_block (cs:=#[.bool false]) (t:=4) (fr:=(0,0)) (heap_alloc_new w2 _)) (by simp [Value.oneCell']) (by omega) N2.out N3G.out N4G.out _ rfl ?_;intro gGG cGG uG hown hgrow hat hlt3;have hbwu:=Zi hGw2.out hgrow hbww2.out (by decide);have ku:uG.cell? ⟨wb,9,none⟩=some (.slice aG m cG):=Blk.cell hbwu 9;have fu:uG.frozen? ⟨wb,9,none⟩=false:=Blk.frozen hbwu 9;have lu:=Blk.lt hbwu;have HOW:=Lib.hid hown;have HGR:=Lib.hid hgrow;replace hbwu:=Lib.hid hbwu;clear hown hgrow hat hlt3))
    have hbrw3:Blk (uG.setCell ⟨wb,9,none⟩ (.slice (some ⟨gGG,0,none⟩) (m + 1) cGG)) rb 43 #[.int .i8 e,.int .i64 nr,.slice aL L.length cL,.slice a1 n1 c1,.slice a2 n2 c2,.slice al left.length cl,.slice a3 n3 c3]:=Blk.far (Zi hGw2.out HGR.out hbrw2.out (by decide)) (p:=⟨wb,9,none⟩) hrw _;have hbww3:Blk (uG.setCell ⟨wb,9,none⟩ (.slice (some ⟨gGG,0,none⟩) (m + 1) cGG)) wb 61 (UZ e nr (.slice aL L.length cL) (.slice a1 n1 c1) (.slice a2 n2 c2) (.slice al left.length cl) (.slice a3 n3 c3) false (.slice (some ⟨gNN,0,none⟩) (m + 1) cNN) (.slice (some ⟨gGG,0,none⟩) (m + 1) cGG) (.slice aF m cF) (.slice none 0 0) (.slice none 0 0)):=Blk.set_ hbwu.out 9 _;have hGw3:=Ye HOW.out hbwu.out (by decide) 9 (.slice (some ⟨gGG,0,none⟩) (m + 1) cGG);have hNw3:=Ye (YA hGw2.out HGR.out hNw2.out (by decide)) hbwu.out (by decide) 9 (.slice (some ⟨gGG,0,none⟩) (m + 1) cGG);have hFw3:=Ye (YA hGw2.out HGR.out hFw2.out (by decide)) hbwu.out (by decide) 9 (.slice (some ⟨gGG,0,none⟩) (m + 1) cGG);have hKpw3:Kept (fun _=>False) w (uG.setCell ⟨wb,9,none⟩ (.slice (some ⟨gGG,0,none⟩) (m + 1) cGG)):=by
     refine Kept.shrink (T:=fun q=>q=wb) ?_ (fun q hq h=>absurd h (by have:=hwb.out;have:=hrb.out;omega));refine Kept.set (S:=fun q=>q=wb) ?_ (p:=⟨wb,9,none⟩) rfl _;refine ⟨HGR.out.os.trans hKpw2.out.os,HGR.out.tape.trans hKpw2.out.tape,HGR.out.output.trans hKpw2.out.output,by have h1:=HGR.out.size;have h2:=hKpw2.out.size;simp at h1;omega,fun q hq _=>?_⟩
     have:=hKpw2.out.size
     rw [HGR.out.block q (by simp;omega) (fun e=>by have:=XE hGw2.out e.symm;omega),Below.heap_alloc _ _ q (by omega)];exact hKpw2.out.block q hq id
    generalize (uG.setCell ⟨wb,9,none⟩ (.slice (some ⟨gGG,0,none⟩) (m + 1) cGG))=w3 at hbrw3 hbww3 hNw3 hGw3 hFw3 hKpw3 ⊢;clear kG ku fu lu HOG N4G hwlw2;replace hbrw3:=Lib.hid hbrw3;replace hbww3:=Lib.hid hbww3;replace hNw3:=Lib.hid hNw3;replace hGw3:=Lib.hid hGw3;replace hFw3:=Lib.hid hFw3;replace hKpw3:=Lib.hid hKpw3;clear HOW HGR hbwu hbrw2 hbww2 hNw2 hGw2 hFw2 hKpw2;have r2:w3.cell? ⟨rb,2,none⟩=some (.slice (some ⟨g,off,none⟩) L.length cL):=(Blk.cell hbrw3.out 2).trans (by rw [hg.out];rfl);have hA3:=(HL.out.of (w':=w3) fun q hq=>hKpw3.out.block q hq id).at_ k a ha.out;obtain ⟨g',off',e',_,hA3⟩:=hA3;rw [hg.out] at e';injection e' with e'
    injection e' with e1 e2
    subst e1 e2;obtain ⟨_,_,_,_,_,s5,_,_⟩:=Yt hA3;clear hA3;have hgl3:g < w3.heap.size:=by have:=hKpw3.out.size;omega
    have hrl3:=Blk.lt hbrw3.out;have hwl3:=Blk.lt hbww3.out;have k10:w3.cell? ⟨wb,10,none⟩=some (.slice aF m cF):=Blk.cell hbww3.out 10;have HOF:Hid (((w3.alloc (.cells #[.int .i64 a.was] 2)).drew).ownsRow w.heap.size 2 1 (.slice aF m cF) m (YO (firstAt k))):=Lib.hid ((hFw3.out.alloc _).drew);have hwM:w.heap.size≤w3.heap.size:=hKpw3.out.size;have e0:wb < w3.heap.size:=hwl3;have e1':wb < w3.heap.size + 1:=by omega
    have e2':rb < w3.heap.size + 1:=by omega
    have e3':g < w3.heap.size + 1:=by omega
    go_region_law (first
     | (refine step_append_lies _ (by rfl) _ _ _ (by rfl) w.heap.size 2 iF _ 1 8 Try.underlying22 hiF hf0 hf1 hf2 rfl (by omega) (.slice aF m cF) m (YO (firstAt k)) (by rfl) HOF.out ⟨w3.heap.size,0,none⟩ 1 1 [.int .i64 a.was] (by rfl) (by rfl) (World.news_of_block (cs:=#[.int .i64 a.was]) (t:=2) (fr:=(0,0)) (heap_alloc_new w3 _)) (by simp [Value.oneCell']) (by omega) N2.out N3F.out (by first | (simp;omega) | (simp;done)) (w3.heap.size + 1) (by simp) ?_
        intro gFF cFF uF HG1 HG2 HG3 HG4;have HOW:=Lib.hid HG1;have HGR:=Lib.hid HG2;clear HG1 HG2 HG3 HG4;have hbwu:Blk uF wb 61 (UZ e nr (.slice aL L.length cL) (.slice a1 n1 c1) (.slice a2 n2 c2) (.slice al left.length cl) (.slice a3 n3 c3) false (.slice (some ⟨gNN,0,none⟩) (m + 1) cNN) (.slice (some ⟨gGG,0,none⟩) (m + 1) cGG) (.slice aF m cF) (.slice none 0 0) (.slice none 0 0)):=Zi (w1:=w3.drew) (o:=.cells #[.int .i64 a.was] 2) hFw3.out.drew HGR.out hbww3.out (by decide);have ku:uF.cell? ⟨wb,10,none⟩=some (.slice aF m cF):=Blk.cell hbwu 10;have fu:uF.frozen? ⟨wb,10,none⟩=false:=Blk.frozen hbwu 10;have lu:=Blk.lt hbwu;replace hbwu:=Lib.hid hbwu))
    all_goals (
     have hgrow:((w3.drew).alloc (.cells #[.int .i64 a.was] 2)).grownBy uF (Value.slice aF m cF).ownBlock:=HGR.out;have hbr4:Blk (uF.setCell ⟨wb,10,none⟩ (.slice (some ⟨gFF,0,none⟩) (m + 1) cFF)) rb 43 #[.int .i8 e,.int .i64 nr,.slice aL L.length cL,.slice a1 n1 c1,.slice a2 n2 c2,.slice al left.length cl,.slice a3 n3 c3]:=Blk.far (Zi (w1:=w3.drew) hFw3.out.drew hgrow hbrw3.out (by decide)) (p:=⟨wb,10,none⟩) hrw _;have hbw4:Blk (uF.setCell ⟨wb,10,none⟩ (.slice (some ⟨gFF,0,none⟩) (m + 1) cFF)) wb 61 (UZ e nr (.slice aL L.length cL) (.slice a1 n1 c1) (.slice a2 n2 c2) (.slice al left.length cl) (.slice a3 n3 c3) false (.slice (some ⟨gNN,0,none⟩) (m + 1) cNN) (.slice (some ⟨gGG,0,none⟩) (m + 1) cGG) (.slice (some ⟨gFF,0,none⟩) (m + 1) cFF) (.slice none 0 0) (.slice none 0 0)):=Blk.set_ hbwu.out 10 _;have hF4:=Ye HOW.out hbwu.out (by decide) 10 (.slice (some ⟨gFF,0,none⟩) (m + 1) cFF);have hN4:=Ye (YA (w1:=w3.drew) hFw3.out.drew hgrow hNw3.out.drew (by decide)) hbwu.out (by decide) 10 (.slice (some ⟨gFF,0,none⟩) (m + 1) cFF);have hG4:=Ye (YA (w1:=w3.drew) hFw3.out.drew hgrow hGw3.out.drew (by decide)) hbwu.out (by decide) 10 (.slice (some ⟨gFF,0,none⟩) (m + 1) cFF);have hKp4:Kept (fun _=>False) w (uF.setCell ⟨wb,10,none⟩ (.slice (some ⟨gFF,0,none⟩) (m + 1) cFF)):=by
      refine Kept.shrink (T:=fun q=>q=wb) ?_ (fun q hq h=>absurd h (by have:=hwb.out;have:=hrb.out;omega));refine Kept.set (S:=fun q=>q=wb) ?_ (p:=⟨wb,10,none⟩) rfl _;refine ⟨hgrow.os.trans hKpw3.out.os,hgrow.tape.trans hKpw3.out.drew.tape,hgrow.output.trans hKpw3.out.output,by have h1:=hgrow.size;have h2:=hKpw3.out.size;simp at h1;omega,fun q hq _=>?_⟩
      have:=hKpw3.out.size
      rw [hgrow.block q (by simp;omega) (fun e=>by have:=XE hFw3.out e.symm;omega),Below.heap_alloc _ _ q (by show q < w3.heap.size;omega)];exact hKpw3.out.block q hq id
     generalize (uF.setCell ⟨wb,10,none⟩ (.slice (some ⟨gFF,0,none⟩) (m + 1) cFF))=w4 at hbr4 hbw4 hN4 hG4 hF4 hKp4 ⊢
     go_wp2_with fail
     have hq2:(firstAt (k + 1)).length=m + 1:=by rw [hf3,List.length_append,hq.out];rfl
     refine ⟨⟨k + 1,_,_,_,by omega,by first|rfl|simp,hbr4,?_,by rw [hq2,XcC];exact hN4,by rw [hq2,List.replicate_succ'];exact hG4,by rw [hq2,hf3];unfold YO at hF4 ⊢;rw [List.map_append];exact hF4,hKp4⟩,by simp [intOf];omega⟩;exact hbw4)
   ·obtain ⟨hf3⟩:firstAt (k + 1)=firstAt k∧True:=by
     rcases hcase with ⟨h,_⟩|⟨_,_,h⟩
     ·omega
     ·exact ⟨h,trivial⟩
    have y1:((m:Int) == q)=false:=beq_eq_false_iff_ne.2 (by omega);have y2:decide ((m:Int)=q)=false:=decide_eq_false (by omega);have y3:(m == q)=false:=beq_eq_false_iff_ne.2 hmq;replace hbr:=Lib.hid hbr;replace hbw:=Lib.hid hbw;replace hN:=Lib.hid hN;replace hG:=Lib.hid hG;replace hF:=Lib.hid hF;replace hKp:=Lib.hid hKp;clear hcase
    go_upto_region 5 with (fail)
    go_region
    go_wp2_with fail
    have hq2:(firstAt (k + 1)).length=q:=by rw [hf3,hq.out]
    refine ⟨⟨k + 1,_,_,_,by omega,by first|rfl|simp,hbr.out,?_,by rw [hq2];exact hN.out.drew,by rw [hq2];exact hG.out.drew,by rw [hq2,hf3];exact hF.out.drew,hKp.out.drew⟩,by simp [intOf];omega⟩
    have:=hbw.out
    rw [hq.out] at this;exact this
  ·obtain rfl:k=L.length:=by omega
   have x0:decide (L.length < L.length)=false:=by simp
   have x1:decide ((L.length:Int) < L.length)=false:=by simp
   clear hLr
   go_wp2_with fail
   go_ret;exact ⟨wb,rfl,by have:=hrb.out;have:=hwb.out;omega,_,_,_,hbw,hN,hG,hF,hKp⟩
