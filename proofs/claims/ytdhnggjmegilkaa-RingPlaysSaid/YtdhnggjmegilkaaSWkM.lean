/- The document's Walker: a thread that stands at its next access. Conditions: what the walk's blocks hold; the record is a run's. -/
import Derived.Test.YtdhnggjmegilkaaSWkL
set_option linter.all false
set_option maxRecDepth 100000
set_option maxHeartbeats 16000000
namespace Go.Proofs.Ytdhnggjmegilkaa
open Go.RowKit
structure DW (K:Wk) (gv:List Bool) (w:World) where
 val:World
 low:Kept K.turns w val
 at_:∃ gv',WAt K gv' val∧Ul gv gv'
theorem ZH {K:Wk} {gv:List Bool} {P:Program} {id:Nat} {Q:Exit→Act→World→Prop} {a:Act} {w:World} {l:List Oper} (hW:WAt K gv w) (hB:K.B≤w.heap.size) (hm:P.follows .mixedOrders=true) (hl:Region.lexB .any l.toArray=true)
 (h:wpQuiet P l.toArray (fun w'=>∃ x:DW K gv w,w'=x.val) (fun a'=>∀ w',(∃ x:DW K gv w,w'=x.val)→Q .normal a' w') l a):(Code.region id l.toArray true).wp P Q a w :=
 wp_region_quiet (C:=fun w'=>∃ x:DW K gv w,w'=x.val) hm hl ⟨⟨w.drew,(Kept.refl _ w).drew,gv,hW.kept hB (Kept.refl (fun _=>False) w).drew (fun _ h=>h.elim),Ul.refl _⟩,rfl⟩ (by simpa using h)
theorem Xgw {K:Wk} {nc:Nat} (hK:K.OK nc) {gv:List Bool} {w:World} (hB:K.B≤w.heap.size) (x:DW K gv w) {m c:Nat} (hc:K.names[m]? = some c):Calls Try.prog 156 #[.pointer (some ⟨K.wb,0,none⟩),.int .i64 m,nmV (K.nm c)] x.val fun e w'=>e=.returned (.bool true)∧∃ y:DW K gv w,w'=y.val:=by
 obtain ⟨gv',h1,h2⟩:=x.at_;refine (Xev hK h1 (by have:=x.low.size;omega) hc).mono ?_;rintro e w' ⟨a1,a2,a3⟩;exact ⟨a1,⟨w',x.low.trans a3,_,a2,h2.trans (Ul.set _ _)⟩,rfl⟩
theorem Xdm {K:Wk} {gv:List Bool} {w:World} (hB:K.B≤w.heap.size) (x:DW K gv w) (hs:K.hs.length≤100000) (n:Nm):Calls Try.prog 158 #[.pointer (some ⟨K.wb,0,none⟩),nmV n] x.val fun e w'=>e=.returned (.int .i64 (Y2 K.hs n))∧∃ y:DW K gv w,w'=y.val:=by
 obtain ⟨gv',h1,h2⟩:=x.at_;refine (Vs h1 hs n).mono ?_;rintro e w' ⟨a1,a3⟩;exact ⟨a1,⟨w',x.low.trans (a3.mono fun _ h=>h.elim),gv',h1.kept (by have:=x.low.size;omega) a3 (fun _ h=>h.elim),h2⟩,rfl⟩
theorem doesL_any {α:Type} {K:Wk} {nc:Nat} (hK:K.OK nc) {gv:List Bool} {w:World} {xb j at':Nat} (hW:WAt K gv w) (hB:K.B≤w.heap.size) (hxB:K.B≤xb) (hx:Blk w xb 55 (XD K.wb j false at')) (hat:at'≤K.L.length)
 {r:Ask} {k:Told→Xm α} {l:List (Xm α)} {a:Xo} (h1:∀ q a,at'≤q→K.L[q]? = some a→a.thread≠j) (h2:K.left.find? (fun a=>a.thread == j)=some a) (h5:a.op=r.op∧a.arg=r.arg∧a.new=r.new) (hc:r.cell < nc) (h6:(r.cell∈K.names∧a.cell=(K.names.idxOf r.cell:Nat))∨(a.cell = -1∧a.was=K.cells r.cell)) :
 Calls Try.prog 137 #[.pointer (some ⟨xb,0,none⟩),.int .i8 r.op,nmV (K.nm r.cell),.int .i64 r.arg,.int .i64 r.new] w (UX K gv xb j at' k l [] w):=by
 obtain ⟨e1,e2,e3⟩:=h5;rw [← e1,← e2,← e3];obtain ⟨mc,hcell⟩:∃ mc,a.cell=mc:=⟨_,rfl⟩
 have hbeg:=hK.beg r.cell hc;obtain ⟨n1,n2,hnm⟩:∃ n1 n2,K.nm r.cell=(n1,n2):=⟨_,_,rfl⟩
 have hstep:=ZY h1;have hsm:=hK.small.2;have hEnd:∀ w' gv',WAt K gv' w'→Ul gv gv'→Kept (fun q=>K.turns q∨q=xb) w w'→Blk w' xb 55 (XD K.wb j true K.L.length)→UX K gv xb j at' k l [] w (.returned (.agg #[.int .i64 0,.int .i8 0,.int .i64 0,.int .i64 0,.int .i64 0,.int .i64 0,.int .i64 0,.bool false])) w':=fun w' gv' q1 q2 q3 q5 =>
  ⟨gv',q1,q2,q3,.inr ⟨h1,⟨a,h2⟩,rfl,q5,rfl⟩⟩
 have hxl:=Blk.lt hx;have hxa:=hW.away hx (by decide) hxB;have HW:=Lib.hid hW;have HX:=Lib.hid hx;have HK:=Lib.hid hK;replace hbeg:=Lib.hid hbeg;replace h6:=Lib.hid h6;replace hEnd:=Lib.hid hEnd;replace hstep:=Lib.hid hstep;replace h2:=Lib.hid h2;rw [hnm];replace hnm:=Lib.hid hnm;clear hW hx hK e1 e2 e3 h1;unfold nmV
 go_enter Try.func137,Try.ntmps137
 go_upto_region 1 with (fail)
 have hp1:Blk ((w.alloc (.cells #[.int .i64 n1,.int .i64 n2] 51)).alloc (.cells #[.int .i64 0,.int .i8 0,.int .i64 0,.int .i64 0,.int .i64 0,.int .i64 0,.int .i64 0,.bool false] 172)) w.heap.size 51 #[.int .i64 n1,.int .i64 n2]:=(Blk.new w _ _).alloc _;have hr1:Blk ((w.alloc (.cells #[.int .i64 n1,.int .i64 n2] 51)).alloc (.cells #[.int .i64 0,.int .i8 0,.int .i64 0,.int .i64 0,.int .i64 0,.int .i64 0,.int .i64 0,.bool false] 172)) (w.heap.size + 1) 172 #[.int .i64 0,.int .i8 0,.int .i64 0,.int .i64 0,.int .i64 0,.int .i64 0,.int .i64 0,.bool false]:=Blk.new' _ _ _ _ (by simp);have hk1:=((Kept.refl (fun _=>False) w).alloc (.cells #[.int .i64 n1,.int .i64 n2] 51)).alloc (.cells #[.int .i64 0,.int .i8 0,.int .i64 0,.int .i64 0,.int .i64 0,.int .i64 0,.int .i64 0,.bool false] 172);have hs1:((w.alloc (.cells #[.int .i64 n1,.int .i64 n2] 51)).alloc (.cells #[.int .i64 0,.int .i8 0,.int .i64 0,.int .i64 0,.int .i64 0,.int .i64 0,.int .i64 0,.bool false] 172)).heap.size=w.heap.size + 2:=by simp
 generalize ((w.alloc (.cells #[.int .i64 n1,.int .i64 n2] 51)).alloc (.cells #[.int .i64 0,.int .i8 0,.int .i64 0,.int .i64 0,.int .i64 0,.int .i64 0,.int .i64 0,.bool false] 172))=w1 at hp1 hr1 hk1 hs1 ⊢;generalize hpb:w.heap.size=pb at hp1 hr1 hs1 hxl hB ⊢;generalize hrb:pb + 1=rb at hr1 ⊢;have hW1:=HW.out.kept (by omega) hk1 (fun _ h=>h.elim);have hx1:=hk1.blk HX.out id;have hB1:K.B≤w1.heap.size:=by omega
 have hnx:=Qr hW1 hB1 hxB hx1 hat;have x2:w1.cell? ⟨xb,2,none⟩=some (.bool false):=Blk.cell hx1 2;have hxl1:xb < w1.heap.size:=by omega
 have hrx:rb≠xb:=by omega
 have hpx:pb≠xb:=by omega
 replace hnx:=Lib.hid hnx;replace hW1:=Lib.hid hW1;replace hk1:=Lib.hid hk1;replace hp1:=Lib.hid hp1;replace hr1:=Lib.hid hr1;replace hpb:=Lib.hid hpb;replace hrb:=Lib.hid hrb;clear hx1
 go_upto_region 4 with (go_at_call 95;go_must (refine hnx.out.mono ?_);rintro e w2 ⟨o,ho,he,hx2,hk2⟩;rw [hstep.out] at ho;subst ho;obtain rfl:e=.returned (.tuple #[.agg #[.int .i64 0,.int .i8 0,.int .i64 0,.int .i64 0,.int .i64 0,.int .i64 0,.int .i64 0,.bool false],.bool false]):=he)
 replace hx2:Blk w2 xb 55 (XD K.wb j false K.L.length):=hx2;have hW2:=hW1.out.kept hB1 hk2 (fun z e=>by rw [e];exact hxa);have hp2:=hk2.blk hp1.out hpx;have hr2:=hk2.blk hr1.out hrx;have hb3:Blk (w2.alloc (.cells #[.int .i64 0,.int .i8 0,.int .i64 0,.int .i64 0,.int .i64 0,.int .i64 0,.int .i64 0,.bool false] 172)) w2.heap.size 172 #[.int .i64 0,.int .i8 0,.int .i64 0,.int .i64 0,.int .i64 0,.int .i64 0,.int .i64 0,.bool false]:=Blk.new w2 _ _;have hx3:=Blk.alloc hx2 (.cells #[.int .i64 0,.int .i8 0,.int .i64 0,.int .i64 0,.int .i64 0,.int .i64 0,.int .i64 0,.bool false] 172);have hp3:=Blk.alloc hp2 (.cells #[.int .i64 0,.int .i8 0,.int .i64 0,.int .i64 0,.int .i64 0,.int .i64 0,.int .i64 0,.bool false] 172);have hr3:=Blk.alloc hr2 (.cells #[.int .i64 0,.int .i8 0,.int .i64 0,.int .i64 0,.int .i64 0,.int .i64 0,.int .i64 0,.bool false] 172);have hk3:Kept (fun q=>q=xb) w (w2.alloc (.cells #[.int .i64 0,.int .i8 0,.int .i64 0,.int .i64 0,.int .i64 0,.int .i64 0,.int .i64 0,.bool false] 172)):=((hk1.out.mono fun _ h=>h.elim).trans hk2).alloc _;have hk23:Kept (fun _=>False) w2 (w2.alloc (.cells #[.int .i64 0,.int .i8 0,.int .i64 0,.int .i64 0,.int .i64 0,.int .i64 0,.int .i64 0,.bool false] 172)):=(Kept.refl _ w2).alloc _;have hs2:=hk2.size;have hW3:=hW2.kept (by omega) hk23 (fun _ h=>h.elim);have hpl:=Blk.lt hp2;have hrl:=Blk.lt hr2;have hxl2:=Blk.lt hx2;generalize (w2.alloc (.cells #[.int .i64 0,.int .i8 0,.int .i64 0,.int .i64 0,.int .i64 0,.int .i64 0,.int .i64 0,.bool false] 172))=w3 at hb3 hx3 hp3 hr3 hk3 hk23 hW3 ⊢;generalize hab:w2.heap.size=ab at hb3 hpl hrl hxl2 ⊢;have hs3:ab≤w3.heap.size:=by have:=hk23.size;omega
 clear hx2 hp2 hr2 hk23 hW2 hk2 hs2;have tl:∀ b,K.turns b→b < pb:=fun b hb=>by have:=HW.out.turn_lt hb;have:=hpb.out;omega
 have na:¬ K.turns ab:=fun h=>by have:=tl ab h;omega
 have np:¬ K.turns pb:=fun h=>by have:=tl pb h;omega
 have nr:¬ K.turns rb:=fun h=>by have:=tl rb h;have:=hrb.out;omega
 have nx:¬ K.turns xb:=fun h=>hxa (h.elim (fun e=>.inr (.inr (.inl e))) fun e=>.inr (.inr (.inr (.inl e))));have hlf:=Uq hW3 (by omega) hx3;replace hlf:=Lib.hid hlf;replace hx3:=Lib.hid hx3;replace hr3:=Lib.hid hr3;replace hp3:=Lib.hid hp3;replace hb3:=Lib.hid hb3;replace hk3:=Lib.hid hk3;replace hW3:=Lib.hid hW3;replace tl:=Lib.hid tl;replace na:=Lib.hid na;replace np:=Lib.hid np;replace nr:=Lib.hid nr;replace nx:=Lib.hid nx;replace hxa:=Lib.hid hxa;have hbl3:=Blk.lt hb3.out
 go_upto_region 9 with (fail)
 go_upto_region 10 with (go_at_call 96;go_must (refine hlf.out.mono ?_);rintro e w4 ⟨he,hk4⟩;rw [h2.out] at he;obtain rfl:e=.returned (.tuple #[.agg #[.int .i64 a.thread,.int .i8 a.op,.int .i64 a.cell,.int .i64 a.arg,.int .i64 a.new,.int .i64 a.was,.int .i64 a.now,.bool a.ok],.bool true]):=he;have hb4:=hk4.blk hb3.out id;have m0:w4.cell? ⟨ab,0,none⟩=some (.int .i64 0):=Blk.cell hb4 0;have o0:w4.frozen? ⟨ab,0,none⟩=false:=Blk.frozen hb4 0;have m1:w4.cell? ⟨ab,1,none⟩=some (.int .i8 0):=Blk.cell hb4 1;have o1:w4.frozen? ⟨ab,1,none⟩=false:=Blk.frozen hb4 1;have m2:w4.cell? ⟨ab,2,none⟩=some (.int .i64 0):=Blk.cell hb4 2;have o2:w4.frozen? ⟨ab,2,none⟩=false:=Blk.frozen hb4 2;have m3:w4.cell? ⟨ab,3,none⟩=some (.int .i64 0):=Blk.cell hb4 3;have o3:w4.frozen? ⟨ab,3,none⟩=false:=Blk.frozen hb4 3;have m4:w4.cell? ⟨ab,4,none⟩=some (.int .i64 0):=Blk.cell hb4 4;have o4:w4.frozen? ⟨ab,4,none⟩=false:=Blk.frozen hb4 4;have m5:w4.cell? ⟨ab,5,none⟩=some (.int .i64 0):=Blk.cell hb4 5;have o5:w4.frozen? ⟨ab,5,none⟩=false:=Blk.frozen hb4 5;have m6:w4.cell? ⟨ab,6,none⟩=some (.int .i64 0):=Blk.cell hb4 6;have o6:w4.frozen? ⟨ab,6,none⟩=false:=Blk.frozen hb4 6;have m7:w4.cell? ⟨ab,7,none⟩=some (.bool false):=Blk.cell hb4 7;have o7:w4.frozen? ⟨ab,7,none⟩=false:=Blk.frozen hb4 7)
 have hbx:ab≠xb:=by omega
 have hbp:ab≠pb:=by omega
 have hbr:ab≠rb:=by omega
 have hb5:=((((((((Blk.set_ (w:=w4) hb4 0 (.int .i64 a.thread)).set_ 1 (.int .i8 a.op)).set_ 2 (.int .i64 mc)).set_ 3 (.int .i64 a.arg)).set_ 4 (.int .i64 a.new)).set_ 5 (.int .i64 a.was)).set_ 6 (.int .i64 a.now)).set_ 7 (.bool a.ok))
 simp only [ZJ] at hb5;have hx4:=hk4.blk hx3.out id;have hp4:=hk4.blk hp3.out id;have hr4:=hk4.blk hr3.out id;have hx5:=(Blk.far (p:=⟨ab,7,none⟩) (Blk.far (p:=⟨ab,6,none⟩) (Blk.far (p:=⟨ab,5,none⟩) (Blk.far (p:=⟨ab,4,none⟩) (Blk.far (p:=⟨ab,3,none⟩) (Blk.far (p:=⟨ab,2,none⟩) (Blk.far (p:=⟨ab,1,none⟩) (Blk.far (p:=⟨ab,0,none⟩) hx4 hbx.symm (.int .i64 a.thread)) hbx.symm (.int .i8 a.op)) hbx.symm (.int .i64 mc)) hbx.symm (.int .i64 a.arg)) hbx.symm (.int .i64 a.new)) hbx.symm (.int .i64 a.was)) hbx.symm (.int .i64 a.now)) hbx.symm (.bool a.ok))
 have hp5:=(Blk.far (p:=⟨ab,7,none⟩) (Blk.far (p:=⟨ab,6,none⟩) (Blk.far (p:=⟨ab,5,none⟩) (Blk.far (p:=⟨ab,4,none⟩) (Blk.far (p:=⟨ab,3,none⟩) (Blk.far (p:=⟨ab,2,none⟩) (Blk.far (p:=⟨ab,1,none⟩) (Blk.far (p:=⟨ab,0,none⟩) hp4 hbp.symm (.int .i64 a.thread)) hbp.symm (.int .i8 a.op)) hbp.symm (.int .i64 mc)) hbp.symm (.int .i64 a.arg)) hbp.symm (.int .i64 a.new)) hbp.symm (.int .i64 a.was)) hbp.symm (.int .i64 a.now)) hbp.symm (.bool a.ok))
 have hr5:=(Blk.far (p:=⟨ab,7,none⟩) (Blk.far (p:=⟨ab,6,none⟩) (Blk.far (p:=⟨ab,5,none⟩) (Blk.far (p:=⟨ab,4,none⟩) (Blk.far (p:=⟨ab,3,none⟩) (Blk.far (p:=⟨ab,2,none⟩) (Blk.far (p:=⟨ab,1,none⟩) (Blk.far (p:=⟨ab,0,none⟩) hr4 hbr.symm (.int .i64 a.thread)) hbr.symm (.int .i8 a.op)) hbr.symm (.int .i64 mc)) hbr.symm (.int .i64 a.arg)) hbr.symm (.int .i64 a.new)) hbr.symm (.int .i64 a.was)) hbr.symm (.int .i64 a.now)) hbr.symm (.bool a.ok))
 have hk05:Kept (fun q=>q=xb) w ((((((((w4.setCell ⟨ab,0,none⟩ (.int .i64 a.thread)).setCell ⟨ab,1,none⟩ (.int .i8 a.op)).setCell ⟨ab,2,none⟩ (.int .i64 mc)).setCell ⟨ab,3,none⟩ (.int .i64 a.arg)).setCell ⟨ab,4,none⟩ (.int .i64 a.new)).setCell ⟨ab,5,none⟩ (.int .i64 a.was)).setCell ⟨ab,6,none⟩ (.int .i64 a.now)).setCell ⟨ab,7,none⟩ (.bool a.ok)):=by
  refine Kept.shrink (T:=fun q=>q=xb∨q=ab) ?_ (fun q hq h=>h.resolve_right (by have:=hpb.out;omega));exact ((((((((((hk3.out.trans (hk4.mono fun _ h=>h.elim)).mono (T:=fun q=>q=xb∨q=ab) (fun q h=>.inl h)).set (p:=⟨ab,0,none⟩) (.inr rfl) _).set (p:=⟨ab,1,none⟩) (.inr rfl) _).set (p:=⟨ab,2,none⟩) (.inr rfl) _).set (p:=⟨ab,3,none⟩) (.inr rfl) _).set (p:=⟨ab,4,none⟩) (.inr rfl) _).set (p:=⟨ab,5,none⟩) (.inr rfl) _).set (p:=⟨ab,6,none⟩) (.inr rfl) _).set (p:=⟨ab,7,none⟩) (.inr rfl) _)
 have hk45:Kept (fun q=>q=ab) w4 ((((((((w4.setCell ⟨ab,0,none⟩ (.int .i64 a.thread)).setCell ⟨ab,1,none⟩ (.int .i8 a.op)).setCell ⟨ab,2,none⟩ (.int .i64 mc)).setCell ⟨ab,3,none⟩ (.int .i64 a.arg)).setCell ⟨ab,4,none⟩ (.int .i64 a.new)).setCell ⟨ab,5,none⟩ (.int .i64 a.was)).setCell ⟨ab,6,none⟩ (.int .i64 a.now)).setCell ⟨ab,7,none⟩ (.bool a.ok)):=(((((((((Kept.refl (fun q=>q=ab) w4).set (p:=⟨ab,0,none⟩) rfl _).set (p:=⟨ab,1,none⟩) rfl _).set (p:=⟨ab,2,none⟩) rfl _).set (p:=⟨ab,3,none⟩) rfl _).set (p:=⟨ab,4,none⟩) rfl _).set (p:=⟨ab,5,none⟩) rfl _).set (p:=⟨ab,6,none⟩) rfl _).set (p:=⟨ab,7,none⟩) rfl _)
 have hW5:=(hW3.out.kept (by omega) hk4 (fun _ h=>h.elim)).kept (by have:=hk4.size;omega) hk45 (fun z e=>by
  subst e;exact fun hh=>by
   rcases hh with h|h|h|h|h|h|h
   ·omega
   ·have:=Blk.lt HW.out.blk;have:=hpb.out;omega
   ·exact na.out (.inl h)
   ·exact na.out (.inr h)
   ·have:=own_lt HW.out.fst h.symm;have:=hpb.out;omega
   ·have:=own_lt HW.out.hav h.symm;have:=hpb.out;omega
   ·have:=own_lt HW.out.hol h.symm;have:=hpb.out;omega)
 have hs5:ab < ((((((((w4.setCell ⟨ab,0,none⟩ (.int .i64 a.thread)).setCell ⟨ab,1,none⟩ (.int .i8 a.op)).setCell ⟨ab,2,none⟩ (.int .i64 mc)).setCell ⟨ab,3,none⟩ (.int .i64 a.arg)).setCell ⟨ab,4,none⟩ (.int .i64 a.new)).setCell ⟨ab,5,none⟩ (.int .i64 a.was)).setCell ⟨ab,6,none⟩ (.int .i64 a.now)).setCell ⟨ab,7,none⟩ (.bool a.ok)).heap.size:=by have:=Blk.lt hb5;omega
 generalize ((((((((w4.setCell ⟨ab,0,none⟩ (.int .i64 a.thread)).setCell ⟨ab,1,none⟩ (.int .i8 a.op)).setCell ⟨ab,2,none⟩ (.int .i64 mc)).setCell ⟨ab,3,none⟩ (.int .i64 a.arg)).setCell ⟨ab,4,none⟩ (.int .i64 a.new)).setCell ⟨ab,5,none⟩ (.int .i64 a.was)).setCell ⟨ab,6,none⟩ (.int .i64 a.now)).setCell ⟨ab,7,none⟩ (.bool a.ok))=w5 at hb5 hx5 hp5 hr5 hk05 hk45 hW5 hs5 ⊢;have hB5:K.B≤w5.heap.size:=by omega
 have c0:∀ x:DW K gv w5,x.val.cell? ⟨xb,0,none⟩=some (.pointer (some ⟨K.wb,0,none⟩)):=fun x=>(x.low.cell (p:=⟨xb,0,none⟩) (Blk.lt hx5) nx.out).trans (Blk.cell hx5 0);have p0:∀ x:DW K gv w5,x.val.cell? ⟨pb,0,none⟩=some (.int .i64 n1):=fun x=>(x.low.cell (p:=⟨pb,0,none⟩) (Blk.lt hp5) np.out).trans (Blk.cell hp5 0);have p1:∀ x:DW K gv w5,x.val.cell? ⟨pb,1,none⟩=some (.int .i64 n2):=fun x=>(x.low.cell (p:=⟨pb,1,none⟩) (Blk.lt hp5) np.out).trans (Blk.cell hp5 1);have s1:∀ x:DW K gv w5,x.val.cell? ⟨ab,1,none⟩=some (.int .i8 a.op):=fun x=>(x.low.cell (p:=⟨ab,1,none⟩) (Blk.lt hb5) na.out).trans (Blk.cell hb5 1);have s2:∀ x:DW K gv w5,x.val.cell? ⟨ab,2,none⟩=some (.int .i64 mc):=fun x=>(x.low.cell (p:=⟨ab,2,none⟩) (Blk.lt hb5) na.out).trans (Blk.cell hb5 2);have s3:∀ x:DW K gv w5,x.val.cell? ⟨ab,3,none⟩=some (.int .i64 a.arg):=fun x=>(x.low.cell (p:=⟨ab,3,none⟩) (Blk.lt hb5) na.out).trans (Blk.cell hb5 3);have s4:∀ x:DW K gv w5,x.val.cell? ⟨ab,4,none⟩=some (.int .i64 a.new):=fun x=>(x.low.cell (p:=⟨ab,4,none⟩) (Blk.lt hb5) na.out).trans (Blk.cell hb5 4);have s5:∀ x:DW K gv w5,x.val.cell? ⟨ab,5,none⟩=some (.int .i64 a.was):=fun x=>(x.low.cell (p:=⟨ab,5,none⟩) (Blk.lt hb5) na.out).trans (Blk.cell hb5 5)
 haveI:Nonempty (DW K gv w5):=⟨⟨w5,Kept.refl _ _,gv,hW5,Ul.refl _⟩⟩
 have hxl5:=Blk.lt hx5;replace hW5:=Lib.hid hW5;replace hx5:=Lib.hid hx5;replace hr5:=Lib.hid hr5;replace hk05:=Lib.hid hk05;clear hp5 hx4 hp4 hr4 hb4 hk4 hk45 m0 m1 m2 m3 m4 m5 m6 m7 o0 o1 o2 o3 o4 o5 o6 o7 hb5;have cm1:decide ((-1:Int) ≥ 0)=false:=by decide
 have cm2:decide ((-1:Int) < 0)=true:=by decide
 have cm3:decide ((0:Int)≤-1)=false:=by decide
 go_upto_region 10 with (fail)
 refine ZH (K:=K) (gv:=gv) hW5.out hB5 (by kernel_rfl) (by kernel_rfl) ?_;rcases h6.out with ⟨h7,h8⟩|⟨h8,h9⟩
 obtain ⟨m,hm⟩:∃ m,K.names.idxOf r.cell=m:=⟨_,rfl⟩
 have hmc:=Lib.hid (show K.names[m]? = some r.cell by rw [← hm];exact XcS h7);obtain rfl:mc=(m:Int):=by rw [← hcell,h8,hm]
 clear h7 h8 hm;have hIs:∀ x:DW K gv w5,Calls Try.prog 156 #[.pointer (some ⟨K.wb,0,none⟩),.int .i64 m,.agg #[.int .i64 n1,.int .i64 n2]] x.val fun e w'=>e=.returned (.bool true)∧∃ y:DW K gv w5,w'=y.val:=fun x=>by
  have:=Xgw HK.out hB5 x hmc.out
  rw [hnm.out] at this;exact this
 replace hIs:=Lib.hid hIs;have cm4:decide ((m:Int) < 0)=false:=by simp
 have cm5:decide ((0:Int)≤(m:Int))=true:=by simp
 refine Xz 12 _ _ (fun K' hK'=>?_);simp only [List.take_succ_cons,List.take_zero]
 iterate 12 go_big_quiet_step (fail)
 refine wpQuiet_nil ?_;refine hK' _ ?_;clear hK' K';simp only [List.drop_succ_cons,List.drop_zero];refine Xz 12 _ _ (fun K' hK'=>?_);simp only [List.take_succ_cons,List.take_zero]
 iterate 12 go_big_quiet_step (fail)
 refine wpQuiet_nil ?_;refine hK' _ ?_;clear hK' K';simp only [List.drop_succ_cons,List.drop_zero];refine Xz 16 _ _ (fun K' hK'=>?_);simp only [List.take_succ_cons,List.take_zero]
 iterate 8 go_big_quiet_step (fail)
 go_big_quiet_step (exact hIs.out _)
 iterate 7 go_big_quiet_step (fail)
 refine wpQuiet_nil ?_;refine hK' _ ?_;clear hK' K';simp only [List.drop_succ_cons,List.drop_zero];refine YQ 9 rfl rfl _ rfl (by kernel_rfl) ?_;simp only [List.take_succ_cons,List.take_zero,List.drop_succ_cons,List.drop_zero,Q0];go_simp
 iterate 2 go_big_quiet_step (fail)
 refine wpQuiet_nil ?_
 first|rintro ⟨w6,hk6,gv6,hW6,hg6⟩|(intro _ hx6';obtain ⟨⟨w6,hk6,gv6,hW6,hg6⟩,rfl⟩:=hx6')
 rotate_left
 obtain rfl:mc = -1:=by rw [← hcell,h8]
 replace hbeg:=Lib.hid (hbeg.out.trans h9.symm);clear h8 h9;have hIs:∀ x:DW K gv w5,Calls Try.prog 158 #[.pointer (some ⟨K.wb,0,none⟩),.agg #[.int .i64 n1,.int .i64 n2]] x.val fun e w'=>e=.returned (.int .i64 a.was)∧∃ y:DW K gv w5,w'=y.val:=fun x=>by
  have:=Xdm hB5 x hsm (K.nm r.cell)
  rw [hbeg.out,hnm.out] at this;exact this
 replace hIs:=Lib.hid hIs;refine Xz 12 _ _ (fun K' hK'=>?_);simp only [List.take_succ_cons,List.take_zero]
 iterate 12 go_big_quiet_step (fail)
 refine wpQuiet_nil ?_;refine hK' _ ?_;clear hK' K';simp only [List.drop_succ_cons,List.drop_zero];refine Xz 12 _ _ (fun K' hK'=>?_);simp only [List.take_succ_cons,List.take_zero]
 iterate 12 go_big_quiet_step (fail)
 refine wpQuiet_nil ?_;refine hK' _ ?_;clear hK' K';simp only [List.drop_succ_cons,List.drop_zero];refine YQ 9 rfl rfl _ rfl (by kernel_rfl) ?_;simp only [List.take_succ_cons,List.take_zero,List.drop_succ_cons,List.drop_zero,Q0];go_simp;refine Xz 14 _ _ (fun K' hK'=>?_);simp only [List.take_succ_cons,List.take_zero]
 iterate 14 go_big_quiet_step (fail)
 refine wpQuiet_nil ?_;refine hK' _ ?_;clear hK' K';simp only [List.drop_succ_cons,List.drop_zero]
 go_big_quiet_step (exact hIs.out _)
 iterate 3 go_big_quiet_step (fail)
 refine wpQuiet_nil ?_
 first|rintro ⟨w6,hk6,gv6,hW6,hg6⟩|(intro _ hx6';obtain ⟨⟨w6,hk6,gv6,hW6,hg6⟩,rfl⟩:=hx6')
 all_goals
  simp only at hk6 hW6 ⊢;have hx6:=hk6.blk hx5.out nx.out;have hr6:=hk6.blk hr5.out nr.out;have hk06:=(hk05.out.mono (fun q h=>(.inr h:K.turns q∨q=xb))).trans (hk6.mono fun q h=>.inl h);have y0:w6.cell? ⟨xb,2,none⟩=some (.bool false):=Blk.cell hx6 2;have y1:w6.frozen? ⟨xb,2,none⟩=false:=Blk.frozen hx6 2;have hxl6:=Blk.lt hx6;have m0:w6.cell? ⟨rb,0,none⟩=some (.int .i64 0):=Blk.cell hr6 0;have o0:w6.frozen? ⟨rb,0,none⟩=false:=Blk.frozen hr6 0;have m1:w6.cell? ⟨rb,1,none⟩=some (.int .i8 0):=Blk.cell hr6 1;have o1:w6.frozen? ⟨rb,1,none⟩=false:=Blk.frozen hr6 1;have m2:w6.cell? ⟨rb,2,none⟩=some (.int .i64 0):=Blk.cell hr6 2;have o2:w6.frozen? ⟨rb,2,none⟩=false:=Blk.frozen hr6 2;have m3:w6.cell? ⟨rb,3,none⟩=some (.int .i64 0):=Blk.cell hr6 3;have o3:w6.frozen? ⟨rb,3,none⟩=false:=Blk.frozen hr6 3;have m4:w6.cell? ⟨rb,4,none⟩=some (.int .i64 0):=Blk.cell hr6 4;have o4:w6.frozen? ⟨rb,4,none⟩=false:=Blk.frozen hr6 4;have m5:w6.cell? ⟨rb,5,none⟩=some (.int .i64 0):=Blk.cell hr6 5;have o5:w6.frozen? ⟨rb,5,none⟩=false:=Blk.frozen hr6 5;have m6:w6.cell? ⟨rb,6,none⟩=some (.int .i64 0):=Blk.cell hr6 6;have o6:w6.frozen? ⟨rb,6,none⟩=false:=Blk.frozen hr6 6;have m7:w6.cell? ⟨rb,7,none⟩=some (.bool false):=Blk.cell hr6 7;have o7:w6.frozen? ⟨rb,7,none⟩=false:=Blk.frozen hr6 7;have hrl6:=Blk.lt hr6;have hrx':xb≠rb:=hrx.symm;replace hr6:=Lib.hid hr6;replace hx6:=Lib.hid hx6;replace hk06:=Lib.hid hk06;replace hW6:=Lib.hid hW6;replace hg6:=Lib.hid hg6;clear hk6 s1 s2 s3 s4 s5 c0 p0 p1 hIs
  go_wp2_with fail
  have hr7:=Blk.far (p:=⟨xb,2,none⟩) hr6.out hrx (.bool true);have hx7:=Blk.set_ (w:=w6) hx6.out 2 (.bool true);have hb9:=((((((((Blk.set_ (w:=(w6.setCell ⟨xb,2,none⟩ (.bool true))) hr7 0 (.int .i64 0)).set_ 1 (.int .i8 0)).set_ 2 (.int .i64 0)).set_ 3 (.int .i64 0)).set_ 4 (.int .i64 0)).set_ 5 (.int .i64 0)).set_ 6 (.int .i64 0)).set_ 7 (.bool false))
  simp only [ZJ] at hb9;have hx9:=(Blk.far (p:=⟨rb,7,none⟩) (Blk.far (p:=⟨rb,6,none⟩) (Blk.far (p:=⟨rb,5,none⟩) (Blk.far (p:=⟨rb,4,none⟩) (Blk.far (p:=⟨rb,3,none⟩) (Blk.far (p:=⟨rb,2,none⟩) (Blk.far (p:=⟨rb,1,none⟩) (Blk.far (p:=⟨rb,0,none⟩) hx7 hrx' (.int .i64 0)) hrx' (.int .i8 0)) hrx' (.int .i64 0)) hrx' (.int .i64 0)) hrx' (.int .i64 0)) hrx' (.int .i64 0)) hrx' (.int .i64 0)) hrx' (.bool false))
  replace hx9:Blk _ xb 55 (XD K.wb j true K.L.length):=hx9;have hW9:WAt K gv6 (((((((((w6.setCell ⟨xb,2,none⟩ (.bool true)).setCell ⟨rb,0,none⟩ (.int .i64 0)).setCell ⟨rb,1,none⟩ (.int .i8 0)).setCell ⟨rb,2,none⟩ (.int .i64 0)).setCell ⟨rb,3,none⟩ (.int .i64 0)).setCell ⟨rb,4,none⟩ (.int .i64 0)).setCell ⟨rb,5,none⟩ (.int .i64 0)).setCell ⟨rb,6,none⟩ (.int .i64 0)).setCell ⟨rb,7,none⟩ (.bool false)):=hW6.out.frame fun b hb=>by
   have e:b≠rb:=fun e=>by
    subst e;rcases hb with h|h|h|h|h|h|h
    ·have:=hrb.out;omega
    ·have:=Blk.lt HW.out.blk;have:=hpb.out;have:=hrb.out;omega
    ·exact nr.out (.inl h)
    ·exact nr.out (.inr h)
    ·have:=own_lt HW.out.fst h.symm;have:=hpb.out;have:=hrb.out;omega
    ·have:=own_lt HW.out.hav h.symm;have:=hpb.out;have:=hrb.out;omega
    ·have:=own_lt HW.out.hol h.symm;have:=hpb.out;have:=hrb.out;omega
   have e2:b≠xb:=fun e2=>hxa.out (e2 ▸ hb);rw [Below.heap_setCell _ _ _ b e,Below.heap_setCell _ _ _ b e,Below.heap_setCell _ _ _ b e,Below.heap_setCell _ _ _ b e,Below.heap_setCell _ _ _ b e,Below.heap_setCell _ _ _ b e,Below.heap_setCell _ _ _ b e,Below.heap_setCell _ _ _ b e,Below.heap_setCell _ _ _ b e2]
  have hk9:Kept (fun q=>K.turns q∨q=xb) w (((((((((w6.setCell ⟨xb,2,none⟩ (.bool true)).setCell ⟨rb,0,none⟩ (.int .i64 0)).setCell ⟨rb,1,none⟩ (.int .i8 0)).setCell ⟨rb,2,none⟩ (.int .i64 0)).setCell ⟨rb,3,none⟩ (.int .i64 0)).setCell ⟨rb,4,none⟩ (.int .i64 0)).setCell ⟨rb,5,none⟩ (.int .i64 0)).setCell ⟨rb,6,none⟩ (.int .i64 0)).setCell ⟨rb,7,none⟩ (.bool false)):=by
   refine Kept.shrink (T:=fun q=>(K.turns q∨q=xb)∨q=rb) ?_ (fun q hq h=>h.resolve_right (by have:=hpb.out;have:=hrb.out;omega));exact ((((((((((hk06.out.mono (T:=fun q=>(K.turns q∨q=xb)∨q=rb) (fun q h=>.inl h)).set (p:=⟨xb,2,none⟩) (.inl (.inr rfl)) _).set (p:=⟨rb,0,none⟩) (.inr rfl) _).set (p:=⟨rb,1,none⟩) (.inr rfl) _).set (p:=⟨rb,2,none⟩) (.inr rfl) _).set (p:=⟨rb,3,none⟩) (.inr rfl) _).set (p:=⟨rb,4,none⟩) (.inr rfl) _).set (p:=⟨rb,5,none⟩) (.inr rfl) _).set (p:=⟨rb,6,none⟩) (.inr rfl) _).set (p:=⟨rb,7,none⟩) (.inr rfl) _)
  generalize (((((((((w6.setCell ⟨xb,2,none⟩ (.bool true)).setCell ⟨rb,0,none⟩ (.int .i64 0)).setCell ⟨rb,1,none⟩ (.int .i8 0)).setCell ⟨rb,2,none⟩ (.int .i64 0)).setCell ⟨rb,3,none⟩ (.int .i64 0)).setCell ⟨rb,4,none⟩ (.int .i64 0)).setCell ⟨rb,5,none⟩ (.int .i64 0)).setCell ⟨rb,6,none⟩ (.int .i64 0)).setCell ⟨rb,7,none⟩ (.bool false))=w9 at hb9 hx9 hW9 hk9 ⊢;exact XaB (by rfl) (by rfl) hb9 (by rfl) (hEnd.out w9 _ hW9 hg6.out hk9 hx9)
theorem Xd6 {α:Type} {K:Wk} {nc:Nat} (hK:K.OK nc) {gv:List Bool} {w:World} {xb j at':Nat} (hW:WAt K gv w) (hB:K.B≤w.heap.size) (hxB:K.B≤xb) (hx:Blk w xb 55 (XD K.wb j false at')) (hat:at'≤K.L.length)
 {r:Ask} {k:Told→Xm α} {l:List (Xm α)} {T:List α} (hr:ZV K.L K.left K.names K.cells j at' (.acc r k) l T) (hc:r.cell < nc) :
 Calls Try.prog 137 #[.pointer (some ⟨xb,0,none⟩),.int .i8 r.op,nmV (K.nm r.cell),.int .i64 r.arg,.int .i64 r.new] w (UX K gv xb j at' k l T w):=by
 rcases hr.acc_ with ⟨q,a,h1,h2,h3,h4,h5,h6,h7⟩|⟨a,h1,h2,h5,h6,h7,rfl⟩
 ·exact Xdb hK hW hB hxB hx hat h1 h2 h3 h4 h5 h6 h7
 ·by_cases hm:r.cell∈K.names
  ·exact doesL_any hK hW hB hxB hx hat h1 h2 h5 hc (.inl ⟨hm,by rw [h6,if_pos hm]⟩)
  ·exact doesL_any hK hW hB hxB hx hat h1 h2 h5 hc (.inr ⟨by rw [h6,if_neg hm],h7 hm⟩)
theorem Xas {K:Wk} {gv:List Bool} {w:World} {xb j at':Nat} (hx:Blk w xb 55 (XD K.wb j true at')) (op arg new:Int) (n:Nm) :
 Calls Try.prog 137 #[.pointer (some ⟨xb,0,none⟩),.int .i8 op,nmV n,.int .i64 arg,.int .i64 new] w (fun e w'=>e=.returned XfI∧Kept (fun _=>False) w w'):=by
 obtain ⟨n1,n2⟩:=n;have hxl:=Blk.lt hx;have x2:w.cell? ⟨xb,2,none⟩=some (.bool true):=Blk.cell hx 2;clear hx;unfold nmV
 go_enter Try.func137,Try.ntmps137
 go_upto_region 1 with (fail)
 have hr1:Blk ((w.alloc (.cells #[.int .i64 n1,.int .i64 n2] 51)).alloc (.cells #[.int .i64 0,.int .i8 0,.int .i64 0,.int .i64 0,.int .i64 0,.int .i64 0,.int .i64 0,.bool false] 172)) (w.heap.size + 1) 172 #[.int .i64 0,.int .i8 0,.int .i64 0,.int .i64 0,.int .i64 0,.int .i64 0,.int .i64 0,.bool false]:=Blk.new' _ _ _ _ (by simp);have hk1:=((Kept.refl (fun _=>False) w).alloc (.cells #[.int .i64 n1,.int .i64 n2] 51)).alloc (.cells #[.int .i64 0,.int .i8 0,.int .i64 0,.int .i64 0,.int .i64 0,.int .i64 0,.int .i64 0,.bool false] 172);have x3:((w.alloc (.cells #[.int .i64 n1,.int .i64 n2] 51)).alloc (.cells #[.int .i64 0,.int .i8 0,.int .i64 0,.int .i64 0,.int .i64 0,.int .i64 0,.int .i64 0,.bool false] 172)).cell? ⟨xb,2,none⟩=some (.bool true):=(hk1.cell (p:=⟨xb,2,none⟩) hxl id).trans x2;have hxl1:xb < ((w.alloc (.cells #[.int .i64 n1,.int .i64 n2] 51)).alloc (.cells #[.int .i64 0,.int .i8 0,.int .i64 0,.int .i64 0,.int .i64 0,.int .i64 0,.int .i64 0,.bool false] 172)).heap.size:=by have:=hk1.size;omega
 generalize ((w.alloc (.cells #[.int .i64 n1,.int .i64 n2] 51)).alloc (.cells #[.int .i64 0,.int .i8 0,.int .i64 0,.int .i64 0,.int .i64 0,.int .i64 0,.int .i64 0,.bool false] 172))=w1 at hr1 hk1 x3 hxl1 ⊢;generalize hrb:w.heap.size + 1=rb at hr1 ⊢;replace hrb:=Lib.hid hrb;have m0:w1.cell? ⟨rb,0,none⟩=some (.int .i64 0):=Blk.cell hr1 0;have o0:w1.frozen? ⟨rb,0,none⟩=false:=Blk.frozen hr1 0;have m1:w1.cell? ⟨rb,1,none⟩=some (.int .i8 0):=Blk.cell hr1 1;have o1:w1.frozen? ⟨rb,1,none⟩=false:=Blk.frozen hr1 1;have m2:w1.cell? ⟨rb,2,none⟩=some (.int .i64 0):=Blk.cell hr1 2;have o2:w1.frozen? ⟨rb,2,none⟩=false:=Blk.frozen hr1 2;have m3:w1.cell? ⟨rb,3,none⟩=some (.int .i64 0):=Blk.cell hr1 3;have o3:w1.frozen? ⟨rb,3,none⟩=false:=Blk.frozen hr1 3;have m4:w1.cell? ⟨rb,4,none⟩=some (.int .i64 0):=Blk.cell hr1 4;have o4:w1.frozen? ⟨rb,4,none⟩=false:=Blk.frozen hr1 4;have m5:w1.cell? ⟨rb,5,none⟩=some (.int .i64 0):=Blk.cell hr1 5;have o5:w1.frozen? ⟨rb,5,none⟩=false:=Blk.frozen hr1 5;have m6:w1.cell? ⟨rb,6,none⟩=some (.int .i64 0):=Blk.cell hr1 6;have o6:w1.frozen? ⟨rb,6,none⟩=false:=Blk.frozen hr1 6;have m7:w1.cell? ⟨rb,7,none⟩=some (.bool false):=Blk.cell hr1 7;have o7:w1.frozen? ⟨rb,7,none⟩=false:=Blk.frozen hr1 7;have hrl:=Blk.lt hr1;replace hr1:=Lib.hid hr1;replace hk1:=Lib.hid hk1;clear x2
 go_wp2_with fail
 have hb9:=((((((((Blk.set_ (w:=w1) hr1.out 0 (.int .i64 0)).set_ 1 (.int .i8 0)).set_ 2 (.int .i64 0)).set_ 3 (.int .i64 0)).set_ 4 (.int .i64 0)).set_ 5 (.int .i64 0)).set_ 6 (.int .i64 0)).set_ 7 (.bool false))
 simp only [ZJ] at hb9;have hk9:Kept (fun _=>False) w ((((((((w1.setCell ⟨rb,0,none⟩ (.int .i64 0)).setCell ⟨rb,1,none⟩ (.int .i8 0)).setCell ⟨rb,2,none⟩ (.int .i64 0)).setCell ⟨rb,3,none⟩ (.int .i64 0)).setCell ⟨rb,4,none⟩ (.int .i64 0)).setCell ⟨rb,5,none⟩ (.int .i64 0)).setCell ⟨rb,6,none⟩ (.int .i64 0)).setCell ⟨rb,7,none⟩ (.bool false)):=by
  refine Kept.shrink (T:=fun q=>q=rb) ?_ (fun q hq h=>absurd h (by have:=hrb.out;omega));exact (((((((((hk1.out.mono (T:=fun q=>q=rb) (fun q h=>h.elim)).set (p:=⟨rb,0,none⟩) rfl _).set (p:=⟨rb,1,none⟩) rfl _).set (p:=⟨rb,2,none⟩) rfl _).set (p:=⟨rb,3,none⟩) rfl _).set (p:=⟨rb,4,none⟩) rfl _).set (p:=⟨rb,5,none⟩) rfl _).set (p:=⟨rb,6,none⟩) rfl _).set (p:=⟨rb,7,none⟩) rfl _)
 generalize ((((((((w1.setCell ⟨rb,0,none⟩ (.int .i64 0)).setCell ⟨rb,1,none⟩ (.int .i8 0)).setCell ⟨rb,2,none⟩ (.int .i64 0)).setCell ⟨rb,3,none⟩ (.int .i64 0)).setCell ⟨rb,4,none⟩ (.int .i64 0)).setCell ⟨rb,5,none⟩ (.int .i64 0)).setCell ⟨rb,6,none⟩ (.int .i64 0)).setCell ⟨rb,7,none⟩ (.bool false))=w9 at hb9 hk9 ⊢;exact XaB (by rfl) (by rfl) hb9 (by rfl) ⟨rfl,hk9⟩
