/- Which threads are ready: gate's able. -/
import Derived.Test.YtdgfekplfipekaaVRnF
import Derived.Test.YtdgfekplfipekaaVGtI
import Derived.Test.YtdgfekplfipekaaVTkN
import Derived.Deep.RegionLaw
import Derived.Deep.AppendLies
set_option linter.all false
set_option maxRecDepth 100000
set_option maxHeartbeats 16000000
namespace Go.Proofs.Ytdgfekplfipekaa
open Go.Conc Go.RowKit
open Go.ConcN (upd upd_same upd_ne)
set_option maxRecDepth 100000
structure Xdx (x:World) (tb rb ab mb N num:Nat) (vT vL vW vR vF:Value) (A:Nat→Nat) (names:List Nat) (log:List Xo) (r:Ask) (was:Int):Prop where
 run:x.cell? (th tb 0)=some (P0 rb)
 obj:x.heap[rb]? = some (.cells (XH vT (.map (some mb)) vL vW vR vF false) 85 (0,0))
 rowL:x.ownsRow N 89 8 vL log.length (log.flatMap Yj)
 box:x.heap[ab]? = some (.cells (Yj ⟨num,r.op,-1,r.arg,r.new,0,0,false⟩).toArray 89 (0,0))
 la:vL.ownBlock≠some ab
 lt:vL.ownBlock≠some tb
 lr:vL.ownBlock≠some rb
 lm:vL.ownBlock≠some mb
 li:vL.ownBlock≠some (A r.cell)
 low:N≤x.heap.size
 len:log.length < 70000
 map:MapAt x mb A names
 row:XZ x (A r.cell)
 rows:∀ c∈names,XZ x (A c)∧(A c=A r.cell→c=r.cell)
 offs:∀ c∈names,A c≠ab
 ia:A r.cell≠ab
 it:A r.cell≠tb
 ir:A r.cell≠rb
 was:x.cell? (th (A r.cell) 0)=some (.int .i64 was)
theorem Xdx.doIn {x:World} {tb rb ab mb N num:Nat} {vT vL vW vR vF:Value} {A:Nat→Nat} {names:List Nat} {log:List Xo} {r:Ask} {was:Int} (h:Xdx x tb rb ab mb N num vT vL vW vR vF A names log r was):DoIn x x tb rb ab mb N vT vL vW vR vF false A names r.cell log ⟨num,r.op,-1,r.arg,r.new,0,0,false⟩ was:=by
 obtain ⟨ca,ta,hca⟩:=h.row;exact ⟨h.run,h.obj,h.rowL,h.box,h.la,h.lt,h.lr,h.lm,h.li,h.low,h.len,h.map,h.rows,h.offs,h.ia,h.it,h.ir,h.was,rfl,fun _ _ _=>rfl,ca,ta,hca,by rw [set_same0 ((Xa hca 0).symm.trans h.was)];exact hca⟩
def Ask.done (r:Ask) (num:Nat) (was:Int):Xo:=⟨num,r.op,-1,r.arg,r.new,was,(behind r.op was r.arg r.new).1,(behind r.op was r.arg r.new).2⟩
def Xo.told (a:Xo):Value:=.tuple #[.int .i64 a.was,.int .i64 a.now,.bool a.ok]
section
variable {Post:Value→World→Prop} {C:Ctx} {x:World} {c:Frame} {cs:List Frame} {tb rb ab mb N num:Nat} {vT vL vW vR vF:Value} {A:Nat→Nat} {names:List Nat} {r:Ask} {was:Int} {log:List Xo}
theorem XdH {u5 u6 u7 u8 u9 B0 B1 B2 B4 B5 B6 B7 B8 B9 D0 D1 D2 D3 D4 D5 D6 D7 D8 D9 E0 E1 E2 E3 E4 E5 E6 E7 E8 E9 G0 G1 G2 G3 G4 G5 G6 G7 G8 G9 H0 H4 H5 H6 H7 H8 H9 I1 I2 I3 I4 I5 I6 I7 I8 I9 J0 J1 J2 J3 J4 J5 J6 J7 J8 J9 K0 K1 K2 K3 K4 K5 K6 K7 K8 K9 L0 L1 L2 L3 L4 L5 L6 L7 L8 L9 M0 M3 M4 M5 M6 M7 M8 M9 N0 N1 N5 N6 N7 N8 N9 O0 O1 O2 O3 O4 O5 O6 O7 O8 O9 R0 R1 R2 R3 R4 R5:Value} (hr:r.Good) (hA:Xdx x tb rb ab mb N num vT vL vW vR vF A names log r was)
 (h:∀ y vL',YT x y rb ab mb N vT vL vL' vW vR vF false A names r.cell log (r.done num was)→JG Try.prog Post C (G (c.finish (r.done num was).told) cs) y) :
 JG Try.prog Post C (G ((base 33).at ⟨List.toArray ((P0 tb)::(P0 (A r.cell))::(.int .i8 r.op)::(.int .i64 r.arg)::(.int .i64 r.new)::u5::u6::u7::u8::u9::B0::B1::B2::(P0 ab)::B4::B5::B6::B7::B8::B9::D0::D1::D2::D3::D4::D5::D6::D7::D8::D9::E0::E1::E2::E3::E4::E5::E6::E7::E8::E9::G0::G1::G2::G3::G4::G5::G6::G7::G8::G9::H0::H4::H5::H6::H7::H8::H9::I1::I2::I3::I4::I5::I6::I7::I8::I9::J0::J1::J2::J3::J4::J5::J6::J7::J8::J9::K0::K1::K2::K3::K4::K5::K6::K7::K8::K9::L0::L1::L2::L3::L4::L5::L6::L7::L8::L9::M0::M3::M4::M5::M6::M7::M8::M9::N0::N1::N5::N6::N7::N8::N9::O0::O1::O2::O3::O4::O5::O6::O7::O8::O9::R0::R1::R2::R3::R4::R5::[]),[]⟩ [.code (Code.from (Try.f33.body.getD .skip) 6)]) (c::cs)) x:=by
 have H:=hA.doIn;clear hA;obtain ⟨op,cell,arg,new⟩:=r;obtain ⟨r1,r2,r3,r4⟩:=hr;simp only at *;have hop:op=1∨op=2∨op=3∨op=4∨op=5∨op=6:=by omega
 rcases hop with rfl|rfl|rfl|rfl|rfl|rfl
 ·obtain rfl:=r3 rfl
  obtain rfl:=r4 (by decide);exact Xd9 H h
 ·obtain rfl:=r4 (by decide)
  exact Xdc H h
 ·by_cases he:was=arg
  ·have hb:behind 3 was arg new=(new,true):=by simp [behind,he]
   simp only [Ask.done,hb] at h;exact Xea H he h
  ·have hb:behind 3 was arg new=(was,false):=by simp [behind,he]
   simp only [Ask.done,hb] at h;exact Xeb H he h
 ·obtain rfl:=r4 (by decide)
  exact Xfq H h
 ·obtain rfl:=r4 (by decide)
  exact Xd7 H h
 ·obtain rfl:=r4 (by decide)
  exact Xd8 H h
theorem Zz (h0:x.cell? (th tb 0)=some (P0 rb)) (h13:x.cell? (th tb 13)=some (.bool false)) (h:JG Try.prog Post C (G (c.finish (.bool true)) cs) x):JG Try.prog Post C (G (Frame.enter Try.prog 32 #[P0 tb] .normal) (c::cs)) x:=by
 refine Xu Try.func32 (by rfl) (by rfl) ?_;simp only [Try.f32,Option.getD_some];walk_nrm
 repeat refine kx ?_
 refine JG.ret ?_;exact JG.leave rfl rfl Try.func32 (fun τ d=>results_tmp (t:=2) rfl _ _ _) h
end
structure Uk (Post:Value→World→Prop) (tb ab num b:Nat) (r:Ask) (c:Frame) (cs:List Frame) (g:Goroutine):Prop where
 stop:∀ (C:Ctx) (x:World) (v:Value) (rb:Nat),x.cell? (th tb 0)=some (P0 rb)→x.cell? (th rb 6)=some (.bool true)→JG Try.prog Post C (G (c.raise [{ v:=YI,recovered:=false }]) cs) x→JG Try.prog Post C (Go.Conc.served g v) x
 go:∀ (C:Ctx) (x:World) (v:Value) (rb mb N:Nat) (vT vL vW vR vF:Value) (A:Nat→Nat) (names:List Nat) (log:List Xo) (was:Int),A r.cell=b→Xdx x tb rb ab mb N num vT vL vW vR vF A names log r was →
  (∀ y vL',YT x y rb ab mb N vT vL vL' vW vR vF false A names r.cell log (r.done num was)→JG Try.prog Post C (G (c.finish (r.done num was).told) cs) y)→JG Try.prog Post C (Go.Conc.served g v) x
section
variable {Post:Value→World→Prop} {C:Ctx} {x:World} {c:Frame} {cs:List Frame} {tb rb num wk st p b:Nat} {vv:Value} {ao:Xo} {sp:XL} {r:Ask}
theorem Xb2 {u5 u6 u7 u8 u9 B0 B1 B2 B3 B4 B5 B6 B7 B8 B9 D0 D1 D2 D3 D4 D5 D6 D7 D8 D9 E0 E1 E2 E3 E4 E8 E9 G0 G1 G2 G3 G4 G5 G6 G7 G8 G9 H0 H4 H5 H6 H7 H8 H9 I1 I2 I3 I4 I5 I6 I7 I8 I9 J0 J1 J2 J3 J4 J5 J6 J7 J8 J9 K0 K1 K2 K3 K4 K5 K6 K7 K8 K9 L0 L1 L2 L3 L4 L5 L6 L7 L8 L9 M0 M3 M4 M5 M6 M7 M8 M9 N0 N1 N5 N6 N7 N8 N9 O0 O1 O2 O3 O4 O5 O6 O7 O8 O9 R0 R1 R2 R3 R4 R5:Value} (hr:r.Good) (hd:C.d=0) (hp:p≠C.h) (hsp:C.Ch p=some sp) (hc:sp.c=st) (htb:x.heap[tb]? = some (.cells (Yk rb num wk st vv ao false) 91 (2,4))) (hrb:x.cell? (th rb 6)=some (.bool false)) (hne:rb≠tb)
 (hwk:wk < x.heap.size) (hopen:∃ k,x.heap[wk]? = some (.chan 0 #[] false k k false)) (hown:∀ i s',i≠C.h→C.Ch i=some s'→s'.c≠wk)
 (hnext:∀ (y:World) (g₂:Goroutine) (kk:Nat) (W:XL) (ab:Nat),W.c=wk→(∀ a v,W.kn a v ↔ a=th tb 2∧v=.chan (some wk))→(∀ g,W.home g→Uk Post tb ab num b r c cs g)→sp.home g₂→y.heap[st]? = some (.chan 0 #[] false kk kk false)→x.heap.size≤ab→ab < y.heap.size →
   y.heap[ab]? = some (.cells (Yj ⟨num,r.op,-1,r.arg,r.new,0,0,false⟩).toArray 89 (0,0))→y.heap[tb]? = some (.cells (Yk rb num wk st (P0 b) ⟨num,r.op,-1,r.arg,r.new,0,0,false⟩ false) 91 (2,4))→(∀ q,q≠tb→q < x.heap.size→y.heap[q]? = x.heap[q]?) →
   JG Try.prog Post { Ch:=upd C.Ch C.h (some W),h:=p,d:=0,n:=C.n,lo:=C.lo,io:=C.io } (Go.Conc.served g₂ Qs) (y.setChan st 0 #[] false (kk + 1) (kk + 1) false)) :
 JG Try.prog Post C (G ((base 33).at ⟨List.toArray ((P0 tb)::(P0 b)::(.int .i8 r.op)::(.int .i64 r.arg)::(.int .i64 r.new)::u5::u6::u7::u8::u9::B0::B1::B2::B3::B4::B5::B6::B7::B8::B9::D0::D1::D2::D3::D4::D5::D6::D7::D8::D9::E0::E1::E2::E3::E4::(P0 tb)::(.pointer (some (th tb 0)))::(.pointer (some (th tb 1)))::E8::E9::G0::G1::G2::G3::G4::G5::G6::G7::G8::G9::H0::H4::H5::H6::H7::H8::H9::I1::I2::I3::I4::I5::I6::I7::I8::I9::J0::J1::J2::J3::J4::J5::J6::J7::J8::J9::K0::K1::K2::K3::K4::K5::K6::K7::K8::K9::L0::L1::L2::L3::L4::L5::L6::L7::L8::L9::M0::M3::M4::M5::M6::M7::M8::M9::N0::N1::N5::N6::N7::N8::N9::O0::O1::O2::O3::O4::O5::O6::O7::O8::O9::R0::R1::R2::R3::R4::R5::[]),[]⟩ [.inRegion (Code.opsOf (Code.from (Try.f33.body.getD .skip) 4)) [3,4,5,6,7,8,9],.code (Code.from (Try.f33.body.getD .skip) 5)]) (c::cs)) x:=by
 have hdo:=@XdH Post;simp only [Try.f33,Option.getD_some,Code.from,Code.opsOf] at hdo ⊢;have h1:x.cell? (th tb 1)=some (.int .i64 num):=Xa htb 1;have hlt:tb < x.heap.size:=(GE htb).1;have hrl:rb < x.heap.size:=Xt (a:=th rb 6) hrb
 repeat refine kx ?_
 refine ko fun K E hK hE τ d=>?_;go_simp;refine hK _ _ (jt (x:=x.alloc (.cells #[.int .i64 0,.int .i8 0,.int .i64 0,.int .i64 0,.int .i64 0,.int .i64 0,.int .i64 0,.bool false] 89)) ?_);simp only [Xs];clear hK hE K E τ d;have g0:(x.alloc (.cells #[.int .i64 0,.int .i8 0,.int .i64 0,.int .i64 0,.int .i64 0,.int .i64 0,.int .i64 0,.bool false] 89)).heap[x.heap.size]? = some (.cells #[.int .i64 0,.int .i8 0,.int .i64 0,.int .i64 0,.int .i64 0,.int .i64 0,.int .i64 0,.bool false] 89 (0,0)):=heap_alloc_new x _;have go':∀ q,q < x.heap.size→(x.alloc (.cells #[.int .i64 0,.int .i8 0,.int .i64 0,.int .i64 0,.int .i64 0,.int .i64 0,.int .i64 0,.bool false] 89)).heap[q]? = x.heap[q]?:=fun q h=>by rw [Xl,Array.getElem?_push,if_neg (by omega)]
 have gs:(x.alloc (.cells #[.int .i64 0,.int .i8 0,.int .i64 0,.int .i64 0,.int .i64 0,.int .i64 0,.int .i64 0,.bool false] 89)).heap.size=x.heap.size + 1:=by simp
 generalize x.alloc (.cells #[.int .i64 0,.int .i8 0,.int .i64 0,.int .i64 0,.int .i64 0,.int .i64 0,.int .i64 0,.bool false] 89)=z at g0 go' gs ⊢;generalize hab:x.heap.size=ab at g0 go' gs hwk hnext hlt hrl ⊢;have m0:z.cell? (th ab 0)=some (.int .i64 0):=Xa g0 0;have m1:z.cell? (th ab 1)=some (.int .i8 0):=Xa g0 1;have m2:z.cell? (th ab 2)=some (.int .i64 0):=Xa g0 2;have m3:z.cell? (th ab 3)=some (.int .i64 0):=Xa g0 3;have m4:z.cell? (th ab 4)=some (.int .i64 0):=Xa g0 4;have m5:z.cell? (th ab 5)=some (.int .i64 0):=Xa g0 5;have m6:z.cell? (th ab 6)=some (.int .i64 0):=Xa g0 6;have m7:z.cell? (th ab 7)=some (.bool false):=Xa g0 7;have n0:z.frozen? (th ab 0)=false:=Xe g0 0;have n1:z.frozen? (th ab 1)=false:=Xe g0 1;have n2:z.frozen? (th ab 2)=false:=Xe g0 2;have n3:z.frozen? (th ab 3)=false:=Xe g0 3;have n4:z.frozen? (th ab 4)=false:=Xe g0 4;have n5:z.frozen? (th ab 5)=false:=Xe g0 5;have n6:z.frozen? (th ab 6)=false:=Xe g0 6;have n7:z.frozen? (th ab 7)=false:=Xe g0 7;refine ko fun K E hK hE τ d=>?_;have m0':=(Xk z τ d _).trans m0;have n0':=(Xf z τ d _).trans n0;have m1':=(Xk z τ d _).trans m1;have n1':=(Xf z τ d _).trans n1;have m2':=(Xk z τ d _).trans m2;have n2':=(Xf z τ d _).trans n2;have m3':=(Xk z τ d _).trans m3;have n3':=(Xf z τ d _).trans n3;have m4':=(Xk z τ d _).trans m4;have n4':=(Xf z τ d _).trans n4;have m5':=(Xk z τ d _).trans m5;have n5':=(Xf z τ d _).trans n5;have m6':=(Xk z τ d _).trans m6;have n6':=(Xf z τ d _).trans n6;have m7':=(Xk z τ d _).trans m7;have n7':=(Xf z τ d _).trans n7;go_simp;refine hK _ _ ?_;rw [Xc,Xc,Xc,Xc,Xc,Xc,Xc,Xc];refine jt ?_;clear hK hE K E τ d m0 n0 m0' n0' m1 n1 m1' n1' m2 n2 m2' n2' m3 n3 m3' n3' m4 n4 m4' n4' m5 n5 m5' n5' m6 n6 m6' n6' m7 n7 m7' n7';obtain ⟨w,hw⟩:∃ w,w=(((((((z.setCell (th ab 0) (.int .i64 num)).setCell (th ab 1) (.int .i8 r.op)).setCell (th ab 2) (.int .i64 (-1))).setCell (th ab 3) (.int .i64 r.arg)).setCell (th ab 4) (.int .i64 r.new)).setCell (th ab 5) (.int .i64 0)).setCell (th ab 6) (.int .i64 0)).setCell (th ab 7) (.bool false):=⟨_,rfl⟩
 rw [← hw];have wn:w.heap[ab]? = some (.cells #[.int .i64 num,.int .i8 r.op,.int .i64 (-1),.int .i64 r.arg,.int .i64 r.new,.int .i64 0,.int .i64 0,.bool false] 89 (0,0)):=by
  rw [hw,Xd (Xd (Xd (Xd (Xd (Xd (Xd (Xd g0)))))))];simp only [ZJ]
 have wo:∀ q,q < ab→w.heap[q]? = x.heap[q]?:=fun q h=>by
  have hq:q≠ab:=by omega
  rw [hw,Xb hq,Xb hq,Xb hq,Xb hq,Xb hq,Xb hq,Xb hq,Xb hq,go' q h]
 have ws:w.heap.size=ab + 1:=by rw [hw,Xh,Xh,Xh,Xh,Xh,Xh,Xh,Xh,gs]
 clear hw g0 go' gs
 try walk_nrm
 have k0:w.cell? (th ab 0)=some (.int .i64 num):=Xa wn 0;have k1:w.cell? (th ab 1)=some (.int .i8 r.op):=Xa wn 1;have k2:w.cell? (th ab 2)=some (.int .i64 (-1)):=Xa wn 2;have k3:w.cell? (th ab 3)=some (.int .i64 r.arg):=Xa wn 3;have k4:w.cell? (th ab 4)=some (.int .i64 r.new):=Xa wn 4;have k5:w.cell? (th ab 5)=some (.int .i64 0):=Xa wn 5;have k6:w.cell? (th ab 6)=some (.int .i64 0):=Xa wn 6;have k7:w.cell? (th ab 7)=some (.bool false):=Xa wn 7;replace wo:=HD wo
 repeat refine kx ?_
 clear k0 k1 k2 k3 k4 k5 k6 k7;refine kf (args:=#[P0 tb,P0 b,.agg #[.int .i64 num,.int .i8 r.op,.int .i64 (-1),.int .i64 r.arg,.int .i64 r.new,.int .i64 0,.int .i64 0,.bool false]]) Try.func44 ?_;have wt:=(wo.out tb hlt).trans htb;have wr:w.cell? (th rb 6)=some (.bool false):=by
  simp only [World.cell?];rw [wo.out rb hrl];exact hrb
 refine XdI (a:=⟨num,r.op,-1,r.arg,r.new,0,0,false⟩) (pa:=some ⟨b,0,none⟩) hd hp hsp hc wt wr hne ?_ ?_
 ·obtain ⟨k,hk⟩:=hopen
  exact ⟨by show wk < _;omega,⟨k,(wo.out wk hwk).trans hk⟩,hown,fun a v hv=>by obtain ⟨rfl,rfl⟩:=hv;exact Xa wt 2⟩
 ·intro y g₂ kk hg hcc hsz hyo hyt
  have hba:ab≠tb:=by omega
  refine hnext y g₂ kk (YC Post tb wk _ _) ab rfl (fun a v=>Iff.rfl) ?_ hg hcc (by omega) (by omega) ((hyo ab hba (by omega)).trans wn) hyt (fun q h1 h2=>by rw [hyo q h1 (by omega),wo.out q h2]);intro g hg';refine ⟨fun C' x' v rb' e0 e1 h=>?_,fun C' x' v rb' mb N vT vL vW vR vF A names log was hb hA h=>?_⟩
  ·exact hg' C' x' v rb' true e0 e1 (fun e=>by cases e) fun _=>JG.raise rfl Try.func33 h
  ·refine hg' C' x' v rb' false hA.run (Xa hA.obj 6) (fun _=>?_) (fun e=>by cases e)
   rw [Frame.finish_at];walk_nrm;refine JG.done ?_;subst hb;exact hdo hr hA h
theorem XfP (hr:r.Good) (hd:C.d=0) (hp:p≠C.h) (hsp:C.Ch p=some sp) (hc:sp.c=st) (htb:x.heap[tb]? = some (.cells (Yk rb num wk st vv ao false) 91 (2,4))) (hrb:x.cell? (th rb 6)=some (.bool false)) (hne:rb≠tb)
 (hwk:wk < x.heap.size) (hopen:∃ k,x.heap[wk]? = some (.chan 0 #[] false k k false)) (hown:∀ i s',i≠C.h→C.Ch i=some s'→s'.c≠wk)
 (hnext:∀ (y:World) (g₂:Goroutine) (kk:Nat) (W:XL) (ab:Nat),W.c=wk→(∀ a v,W.kn a v ↔ a=th tb 2∧v=.chan (some wk))→(∀ g,W.home g→Uk Post tb ab num b r c cs g)→sp.home g₂→y.heap[st]? = some (.chan 0 #[] false kk kk false)→x.heap.size≤ab→ab < y.heap.size →
   y.heap[ab]? = some (.cells (Yj ⟨num,r.op,-1,r.arg,r.new,0,0,false⟩).toArray 89 (0,0))→y.heap[tb]? = some (.cells (Yk rb num wk st (P0 b) ⟨num,r.op,-1,r.arg,r.new,0,0,false⟩ false) 91 (2,4))→(∀ q,q≠tb→q < x.heap.size→y.heap[q]? = x.heap[q]?) →
   JG Try.prog Post { Ch:=upd C.Ch C.h (some W),h:=p,d:=0,n:=C.n,lo:=C.lo,io:=C.io } (Go.Conc.served g₂ Qs) (y.setChan st 0 #[] false (kk + 1) (kk + 1) false)) :
 JG Try.prog Post C (G (Frame.enter Try.prog 33 #[P0 tb,P0 b,.int .i8 r.op,.int .i64 r.arg,.int .i64 r.new] .normal) (c::cs)) x:=by
 have hmid:=@Xb2 Post;simp only [Try.f33,Option.getD_some,Code.from,Code.opsOf] at hmid;have h0:x.cell? (th tb 0)=some (P0 rb):=Xa htb 0;have h13:x.cell? (th tb 13)=some (.bool false):=Xa htb 13;obtain ⟨op,cell,arg,new⟩:=r;obtain ⟨r1,r2,r3,r4⟩:=id hr;simp only at *;have hop:op=1∨op=2∨op=3∨op=4∨op=5∨op=6:=by omega
 replace hnext:=HD hnext;rcases hop with rfl|rfl|rfl|rfl|rfl|rfl
 ·obtain rfl:=r3 rfl
  obtain rfl:=r4 (by decide);clear r1 r2 r3 r4;refine Xu Try.func33 (by rfl) (by rfl) ?_;simp only [Try.f33,Option.getD_some];walk_nrm
  repeat refine kx ?_
  refine kf (args:=#[P0 tb]) Try.func32 ?_;refine Zz h0 h13 ?_;rw [Frame.finish_at];walk_nrm
  repeat refine kx ?_
  exact hmid hr hd hp hsp hc htb hrb hne hwk hopen hown hnext.out
 ·obtain rfl:=r4 (by decide)
  clear r1 r2 r3 r4;refine Xu Try.func33 (by rfl) (by rfl) ?_;simp only [Try.f33,Option.getD_some];walk_nrm
  repeat refine kx ?_
  refine kf (args:=#[P0 tb]) Try.func32 ?_;refine Zz h0 h13 ?_;rw [Frame.finish_at];walk_nrm
  repeat refine kx ?_
  exact hmid hr hd hp hsp hc htb hrb hne hwk hopen hown hnext.out
 ·clear r1 r2 r3 r4
  refine Xu Try.func33 (by rfl) (by rfl) ?_;simp only [Try.f33,Option.getD_some];walk_nrm
  repeat refine kx ?_
  refine kf (args:=#[P0 tb]) Try.func32 ?_;refine Zz h0 h13 ?_;rw [Frame.finish_at];walk_nrm
  repeat refine kx ?_
  exact hmid hr hd hp hsp hc htb hrb hne hwk hopen hown hnext.out
 ·obtain rfl:=r4 (by decide)
  clear r1 r2 r3 r4;refine Xu Try.func33 (by rfl) (by rfl) ?_;simp only [Try.f33,Option.getD_some];walk_nrm
  repeat refine kx ?_
  refine kf (args:=#[P0 tb]) Try.func32 ?_;refine Zz h0 h13 ?_;rw [Frame.finish_at];walk_nrm
  repeat refine kx ?_
  exact hmid hr hd hp hsp hc htb hrb hne hwk hopen hown hnext.out
 ·obtain rfl:=r4 (by decide)
  clear r1 r2 r3 r4;refine Xu Try.func33 (by rfl) (by rfl) ?_;simp only [Try.f33,Option.getD_some];walk_nrm
  repeat refine kx ?_
  refine kf (args:=#[P0 tb]) Try.func32 ?_;refine Zz h0 h13 ?_;rw [Frame.finish_at];walk_nrm
  repeat refine kx ?_
  exact hmid hr hd hp hsp hc htb hrb hne hwk hopen hown hnext.out
 ·obtain rfl:=r4 (by decide)
  clear r1 r2 r3 r4;refine Xu Try.func33 (by rfl) (by rfl) ?_;simp only [Try.f33,Option.getD_some];walk_nrm
  repeat refine kx ?_
  refine kf (args:=#[P0 tb]) Try.func32 ?_;refine Zz h0 h13 ?_;rw [Frame.finish_at];walk_nrm
  repeat refine kx ?_
  exact hmid hr hd hp hsp hc htb hrb hne hwk hopen hown hnext.out
end
section
variable {Post:Value→World→Prop} {C:Ctx} {x:World} {c:Frame} {cs:List Frame} {tb rb num wk st b:Nat} {a:Xo} {vv:Value} {v:Int}
theorem XgY (htb:x.heap[tb]? = some (.cells (Yk rb num wk st vv a false) 91 (2,4))) (hop:a.op≠6)
 (h:JG Try.prog Post C (G (c.finish (.bool true)) cs) x):JG Try.prog Post C (G (Frame.enter Try.prog 60 #[P0 tb] .normal) (c::cs)) x:=by
 refine Xu Try.func60 (by rfl) (by rfl) ?_;simp only [Try.f60,Option.getD_some];walk_nrm
 repeat refine kx ?_
 refine JG.code (XO _) (by kernel_rfl) rfl (.inr (by kernel_rfl)) rfl (fun K R hK hR τ=>?_);replace hK:=HD hK;clear hR;have h13:(under x τ 0).cell? (th tb 13)=some (.bool false):=Xa htb 13;have h6:(under x τ 0).cell? (th tb 6)=some (.int .i8 a.op):=Xa htb 6;have hb:tb < (under x τ 0).heap.size:=Xt h13;have hq:(a.op != 6)=true:=by simp [bne,hop]
 have hq2:decide (a.op=6)=false:=by simp [hop]
 go_region
 all_goals (
  refine hK.out _ _ (jt (x:=x) (τ:=τ) (d:=1) ?_);clear hK h13 h6 hb K hq hq2
  repeat refine kx ?_
  refine JG.ret ?_;exact JG.leave rfl rfl Try.func60 (fun τ d=>results_tmp (t:=2) rfl _ _ _) h)
theorem XgX (htb:x.heap[tb]? = some (.cells (Yk rb num wk st (P0 b) a false) 91 (2,4))) (hop:a.op=6) (hv:x.cell? (th b 0)=some (.int .i64 v))
 (h:JG Try.prog Post C (G (c.finish (.bool (v != a.arg))) cs) x):JG Try.prog Post C (G (Frame.enter Try.prog 60 #[P0 tb] .normal) (c::cs)) x:=by
 refine Xu Try.func60 (by rfl) (by rfl) ?_;simp only [Try.f60,Option.getD_some];walk_nrm
 repeat refine kx ?_
 have h13:x.cell? (th tb 13)=some (.bool false):=Xa htb 13;have h6:x.cell? (th tb 6)=some (.int .i8 6):=(Xa htb 6).trans (by rw [← hop];rfl);have h4:x.cell? (th tb 4)=some (P0 b):=Xa htb 4;have h8:x.cell? (th tb 8)=some (.int .i64 a.arg):=Xa htb 8;refine JG.drawCallsG (fun i=>if i=17 then some 0 else none) (fun _=>.int .i64 v) (fun k z=>z=x) 1 (by kernel_rfl) (by kernel_rfl) (by decide) rfl ?_;apply Exists.intro;apply And.intro
 ·intro k hk z hz
  have hk':k=0∨k=1:=by omega
  rcases hk' with rfl|rfl
  ·rw [show z=x from hz]
   repeat first|(refine Xw.un (by rfl) (by rfl) ?_;try walk_nrm)|(refine Xw.rd (by rfl) (by rfl) (by rfl) (fun K hK τ d=>?_);go_simp;refine hK _ ?_;clear hK K τ d)|(refine Xw.rd (by rfl) (by rfl) (by rfl) (fun K hK τ d=>?_);have hfact:=uc τ d (h13);go_simp;refine hK _ ?_;clear hfact hK K τ d)|(refine Xw.rd (by rfl) (by rfl) (by rfl) (fun K hK τ d=>?_);have hfact:=uc τ d (h6);go_simp;refine hK _ ?_;clear hfact hK K τ d)|(refine Xw.rd (by rfl) (by rfl) (by rfl) (fun K hK τ d=>?_);have hfact:=uc τ d (h4);go_simp;refine hK _ ?_;clear hfact hK K τ d)|(refine Xw.rd (by rfl) (by rfl) (by rfl) (fun K hK τ d=>?_);have hfact:=uc τ d (h8);go_simp;refine hK _ ?_;clear hfact hK K τ d)
   refine Xw.cl (by rfl) (by rfl) (fun _=>⟨34,#[P0 b],fun w=>?_,fun w=>?_,fun c hc=>?_⟩) ?_
   iterate 2 (focus obtain ⟨fn, h1, h2, h3⟩ : Yb 34 := ⟨_, Try.func34, by kernel_rfl, by kernel_rfl⟩; have h4 : ¬ fn.name = "runtime.NumGoroutine" := (by simpa using h2); have h5 : ¬ fn.body = none := (by intro e; rw [e] at h3; cases h3); simp [go_sem, execOp, Act.eval, resolve, Deferred.ofValue, invoke, callFunc, h1, h4, h5] <;> decide +kernel)
   ·exact Y1 hv (hc _ rfl)
   repeat first|(refine Xw.un (by rfl) (by rfl) ?_;try walk_nrm)|(refine Xw.rd (by rfl) (by rfl) (by rfl) (fun K hK τ d=>?_);go_simp;refine hK _ ?_;clear hK K τ d)|(refine Xw.rd (by rfl) (by rfl) (by rfl) (fun K hK τ d=>?_);have hfact:=uc τ d (h13);go_simp;refine hK _ ?_;clear hfact hK K τ d)|(refine Xw.rd (by rfl) (by rfl) (by rfl) (fun K hK τ d=>?_);have hfact:=uc τ d (h6);go_simp;refine hK _ ?_;clear hfact hK K τ d)|(refine Xw.rd (by rfl) (by rfl) (by rfl) (fun K hK τ d=>?_);have hfact:=uc τ d (h4);go_simp;refine hK _ ?_;clear hfact hK K τ d)|(refine Xw.rd (by rfl) (by rfl) (by rfl) (fun K hK τ d=>?_);have hfact:=uc τ d (h8);go_simp;refine hK _ ?_;clear hfact hK K τ d)
   exact Xw.nil rfl
  ·rw [show z=x from hz]
   repeat first|(refine Xw.un (by rfl) (by rfl) ?_;try walk_nrm)|(refine Xw.rd (by rfl) (by rfl) (by rfl) (fun K hK τ d=>?_);go_simp;refine hK _ ?_;clear hK K τ d)|(refine Xw.rd (by rfl) (by rfl) (by rfl) (fun K hK τ d=>?_);have hfact:=uc τ d (h13);go_simp;refine hK _ ?_;clear hfact hK K τ d)|(refine Xw.rd (by rfl) (by rfl) (by rfl) (fun K hK τ d=>?_);have hfact:=uc τ d (h6);go_simp;refine hK _ ?_;clear hfact hK K τ d)|(refine Xw.rd (by rfl) (by rfl) (by rfl) (fun K hK τ d=>?_);have hfact:=uc τ d (h4);go_simp;refine hK _ ?_;clear hfact hK K τ d)|(refine Xw.rd (by rfl) (by rfl) (by rfl) (fun K hK τ d=>?_);have hfact:=uc τ d (h8);go_simp;refine hK _ ?_;clear hfact hK K τ d)
   refine Xw.cl (by rfl) (by rfl) (fun h=>by cases h) ?_
   repeat first|(refine Xw.un (by rfl) (by rfl) ?_;try walk_nrm)|(refine Xw.rd (by rfl) (by rfl) (by rfl) (fun K hK τ d=>?_);go_simp;refine hK _ ?_;clear hK K τ d)|(refine Xw.rd (by rfl) (by rfl) (by rfl) (fun K hK τ d=>?_);have hfact:=uc τ d (h13);go_simp;refine hK _ ?_;clear hfact hK K τ d)|(refine Xw.rd (by rfl) (by rfl) (by rfl) (fun K hK τ d=>?_);have hfact:=uc τ d (h6);go_simp;refine hK _ ?_;clear hfact hK K τ d)|(refine Xw.rd (by rfl) (by rfl) (by rfl) (fun K hK τ d=>?_);have hfact:=uc τ d (h4);go_simp;refine hK _ ?_;clear hfact hK K τ d)|(refine Xw.rd (by rfl) (by rfl) (by rfl) (fun K hK τ d=>?_);have hfact:=uc τ d (h8);go_simp;refine hK _ ?_;clear hfact hK K τ d)
   exact Xw.nil rfl
 ·intro z hz
  rw [show z=x from hz]
  try walk_nrm
  repeat refine kx ?_
  refine JG.ret ?_;exact JG.leave rfl rfl Try.func60 (fun τ d=>results_tmp (t:=2) rfl _ _ _) h
def VO (a:Xo) (e:Bool) (v:Int):Bool:=!e && (a.op != 6 || v != a.arg)
theorem XgB {e:Bool} (htb:x.heap[tb]? = some (.cells (Yk rb num wk st vv a e) 91 (2,4))) (hv:e=false→a.op=6→vv=P0 b∧x.cell? (th b 0)=some (.int .i64 v))
 (h:JG Try.prog Post C (G (c.finish (.bool (VO a e v))) cs) x):JG Try.prog Post C (G (Frame.enter Try.prog 60 #[P0 tb] .normal) (c::cs)) x:=by
 cases e with
 | true=>exact XgZ (Xa htb 13) (by simpa [VO] using h)
 | false =>
  by_cases ho:a.op=6
  ·obtain ⟨rfl,h2⟩:=hv rfl ho
   exact XgX htb ho h2 (by simpa [VO,ho] using h)
  ·refine XgY htb ho ?_
   have:VO a false v=true:=by simp [VO,ho]
   rw [this] at h;exact h
end
structure Thr where
 tb:Nat
 rb:Nat
 wk:Nat
 st:Nat
 vv:Value
 at':Xo
 e:Bool
 b:Nat
 v:Int
def Thr.At (x:World) (n:Nat) (t:Thr):Prop:=x.heap[t.tb]? = some (.cells (Yk t.rb n t.wk t.st t.vv t.at' t.e) 91 (2,4))∧(t.e=false→t.at'.op=6→t.vv=P0 t.b∧x.cell? (th t.b 0)=some (.int .i64 t.v))
def Thr.may (t:Thr):Bool:=VO t.at' t.e t.v
def Yx (ts:List Thr):List Value:=(ts.filter Thr.may).map fun t=>P0 t.tb
def Code.nav:Code→List Nat→Code
 | c,[]=>c
 | .seq a _,0::l=>Code.nav a l
 | .seq _ b,_::l=>Code.nav b l
 | .cond _ a _,0::l=>Code.nav a l
 | .cond _ _ b,_::l=>Code.nav b l
 | .block _ a,_::l=>Code.nav a l
 | .loop a,_::l=>Code.nav a l
 | c,_=>c
theorem Xdp {Post:Value→World→Prop} {C:Ctx} {c:Frame} {cs:List Frame} {rb N M:Nat} {vT:Value} (all:List Thr) (hall:all.length < 100):∀ (k i:Nat),i + k=all.length→∀ (x:World) (vl:Value) (ov:Bool) (u1 u4 u5 u6 u7 u8 B2 B3 B4 B5 B6 B7 B8 B9 D0 D1 D2 D3 D4 D5 D6 D7 D8 D9 E0:Value),
 x.ownsRow N 33 1 vT all.length (all.map fun t=>P0 t.tb)→(∀ (j:Nat) (t:Thr),all[j]? = some t→t.At x j)→x.ownsRow M 33 1 vl (Yx (all.take i)).length (Yx (all.take i))→M≤x.heap.size→(∀ g,vT.ownBlock=some g→g < M)→(∀ (j:Nat) (t:Thr),all[j]? = some t→t.tb < M∧(t.e=false→t.at'.op=6→t.b < M)) →
 ov=((all.take i).all fun t=>t.e)→(∀ y vl',y.ownsRow M 33 1 vl' (Yx all).length (Yx all)→x.heap.size≤y.heap.size→(∀ r,r < M→y.heap[r]? = x.heap[r]?)→JG Try.prog Post C (G (c.finish (.tuple #[vl',.bool (all.all fun t=>t.e)])) cs) y) →
 JG Try.prog Post C (G ((base 50).at ⟨#[P0 rb,u1,vl,.bool ov,u4,u5,u6,u7,u8,vT,.int .i64 all.length,.int .i64 i,B2,B3,B4,B5,B6,B7,B8,B9,D0,D1,D2,D3,D4,D5,D6,D7,D8,D9,E0],[]⟩
  [.code (Code.nav (Try.f50.body.getD .skip) [1,1,0,1,0,0]),.inLoop (Code.nav (Try.f50.body.getD .skip) [1,1,0,1,0,0]),.inBlock 0,.code (Code.nav (Try.f50.body.getD .skip) [1,1,1])]) (c::cs)) x:=by
 intro k
 induction k with
 | zero =>
  intro i hik x vl ov u1 u4 u5 u6 u7 u8 B2 B3 B4 B5 B6 B7 B8 B9 D0 D1 D2 D3 D4 D5 D6 D7 D8 D9 E0 hT hA hl hM hTM htM hov h;simp only [Try.f50,Option.getD_some,Code.nav];have hx:decide ((i:Int) < all.length)=false:=by simp;omega
  have ht:all.take i=all:=List.take_of_length_le (by omega);rw [ht] at hl hov;subst hov;replace h:=h x vl hl (Nat.le_refl _) (fun r _=>rfl);clear hT hA hl ht;have hxN:decide (i < all.length)=false:=by simp;omega
  repeat refine kx ?_
  refine JG.exit (by rfl) ?_
  repeat refine kx ?_
  refine JG.ret ?_;exact JG.leave rfl rfl Try.func50 (fun τ d=>results_tmp2 (t:=2) (u:=3) rfl _ _ _) h
 | succ k ih =>
  intro i hik x vl ov u1 u4 u5 u6 u7 u8 B2 B3 B4 B5 B6 B7 B8 B9 D0 D1 D2 D3 D4 D5 D6 D7 D8 D9 E0 hT hA hl hM hTM htM hov h;simp only [Try.f50,Option.getD_some,Code.nav] at ih ⊢;have hx:decide ((i:Int) < all.length)=true:=by simp;omega
  have hlt:i < all.length:=by omega
  obtain ⟨t,ht⟩:∃ t,all[i]? = some t:=⟨_,List.getElem?_eq_getElem hlt⟩
  obtain ⟨g,cap,rfl,hg⟩:=Qi hT (by omega);have hgi:x.cell? (th g i)=some (P0 t.tb):=hg i _ (by rw [List.getElem?_map,ht];rfl);have hti:=hA i t ht;have h13:x.cell? (th t.tb 13)=some (.bool t.e):=Xa hti.1 13;have hlt':(i:Int) < all.length:=by omega
  have h0i:(0:Int)≤i:=by omega
  have hw:IntKind.i64.wrap ((i:Int) + 1)=((i + 1:Nat):Int):=by rw [IntKind.wrap_i64];omega
  have htk:all.take (i + 1)=all.take i ++ [t]:=by rw [List.take_add_one,ht];rfl
  have hall':((all.take (i + 1)).all fun t=>t.e)=(((all.take i).all fun t=>t.e) && t.e):=by rw [htk];simp
  have hab:Yx (all.take (i + 1))=Yx (all.take i) ++ (if t.may then [P0 t.tb] else []):=by
   rw [htk];unfold Yx;rw [List.filter_append,List.map_append];cases hm:t.may<;>simp [hm]
  have hlen:(Yx (all.take i)).length≤i:=by
   unfold Yx;have h1:((all.take i).filter Thr.may).length≤(all.take i).length:=List.length_filter_le _ _;rw [List.length_map];rw [List.length_take] at h1;omega
  have hmay:VO t.at' t.e t.v=t.may:=rfl;replace h:=HD h;replace ih:=HD ih;replace hall':=HD hall';replace hov:=HD hov;obtain ⟨i0,hi0,hz0,hz1,hz2⟩:=XM Vo;cases ov
  all_goals (
   repeat first|refine kc ?_|(first|refine ku ?_|(refine kv fun Ω τ d=>?_;have f0:=uc τ d hgi;have f1:=uc τ d h13;go_simp;refine Ω.f ?_;clear f0 f1 Ω τ d);try walk_nrm)
   refine kf (args:=#[P0 t.tb]) Try.func60 ?_;refine XgB (b:=t.b) (v:=t.v) hti.1 hti.2 ?_;rw [Frame.finish_at,hmay];walk_nrm;generalize t.may=mg at hab ⊢
   repeat first|refine JG.seq ?_|refine JG.skip ?_|refine JG.inBlock ?_|refine JG.block ?_|refine JG.done ?_|refine JG.label ?_
   cases mg
   ·rw [if_neg (by simp),List.append_nil] at hab
    repeat refine kx ?_
    refine JG.inLoop ?_;refine ih.out (i + 1) (by omega) x vl _ _ _ _ _ _ _ _ _ _ _ _ _ _ _ _ _ _ _ _ _ _ _ _ _ _ hT hA (by rw [hab];exact hl) hM hTM htM (by rw [hall'.out,← hov.out];first|rfl|simp) h.out
   ·rw [if_pos rfl] at hab
    refine JG.condT rfl ?_;refine JG.code (XO _) (by kernel_rfl) rfl (.inr (by kernel_rfl)) rfl (fun K R hK hR τ=>?_);replace hK:=HD hK;clear hR;obtain ⟨y,hy⟩:∃ y,y=under x τ 0:=⟨_,rfl⟩
    have hyh:y.heap=x.heap:=by rw [hy];rfl
    rw [← hy];have HO:=HD ((by rw [hy];exact hl:y.ownsRow M 33 1 vl (Yx (all.take i)).length (Yx (all.take i))).alloc (.cells #[P0 t.tb] 33));have N2:Hid ((Yx (all.take i)).length + 1≤maxLen):=HD (by unfold maxLen;omega);have N3:Hid (((Yx (all.take i)).length + 1) * 8≤140737488355328):=HD (by omega);have N4:Hid (M≤(y.alloc (.cells #[P0 t.tb] 33)).heap.size):=HD (by simp [hyh];omega);clear hy;replace hyh:=HD hyh;have hvl:=HD (fun g (e:vl.ownBlock=some g)=>XE hl e);replace hab:=HD hab;replace hA:=HD hA;replace hT:=HD hT;replace htM:=HD htM;replace hTM:=HD hTM;replace hM:=HD hM;clear hg hgi h13 hti hl
    go_wp2_with (first|(at_builtin;refine wpList_append_lies _ rfl _ _ 82 rfl M 33 i0 _ 1 8 Try.underlying82 hi0 hz0 hz1 hz2 rfl (by decide) _ (Yx (all.take i)).length (Yx (all.take i)) rfl HO.out ⟨y.heap.size,0,none⟩ 1 1 [P0 t.tb] rfl rfl (World.news_of_block (cs:=#[P0 t.tb]) (t:=33) (fr:=(0,0)) (heap_alloc_new y _)) (by simp [Value.oneCell']) (by omega) N2.out N3.out N4.out _ rfl ?_;intro gg cap2 w3 hown hgrow hat hlt3;have HOWN:=HD hown;have HGROW:=HD hgrow;have HAT:=HD hat;clear hown hgrow hat hlt3))
    refine hK.out _ _ ?_;have hold:∀ r,r < M→w3.heap[r]? = x.heap[r]?:=fun r hr=>by
     have h1:some r≠vl.ownBlock:=fun e=>by have:=hvl.out r e.symm;omega
     have h2:=hM.out;rw [HGROW.out.block r (by simp [hyh.out];omega) h1,Xl,Array.getElem?_push,hyh.out,if_neg (by omega)]
    have hsz:x.heap.size≤w3.heap.size:=by have:=HGROW.out.size;simp [hyh.out] at this;omega
    replace hold:=HD hold;replace hsz:=HD hsz;clear hK K R
    try walk_nrm
    repeat refine kx ?_
    refine JG.inLoop ?_;refine ih.out (i + 1) (by omega) w3 (.slice (some ⟨gg,0,none⟩) ((Yx (all.take i)).length + 1) cap2) _ _ _ _ _ _ _ _ _ _ _ _ _ _ _ _ _ _ _ _ _ _ _ _ _ _ (Xj hT.out fun g' e=>hold.out g' (hTM.out g' e)) (fun j u hu=>?_) (by rw [hab.out,List.length_append];exact HOWN.out) (Nat.le_trans hM.out hsz.out) hTM.out htM.out (by rw [hall'.out,← hov.out];first|rfl|simp) (fun z vl' q1 q2 q3=>h.out z vl' q1 (Nat.le_trans hsz.out q2) fun r hr=>(q3 r hr).trans (hold.out r hr));obtain ⟨w1,w2⟩:=htM.out j u hu;obtain ⟨v1,v2⟩:=hA.out j u hu;refine ⟨(hold.out _ w1).trans v1,fun e1 e2=>⟨(v2 e1 e2).1,?_⟩⟩
    have:=(v2 e1 e2).2
    simp only [World.cell?] at this ⊢;rw [hold.out _ (w2 e1 e2)];exact this)
theorem Xf4 {Post:Value→World→Prop} {C:Ctx} {x:World} {c:Frame} {cs:List Frame} {rb N:Nat} {vT:Value} (all:List Thr) (hall:all.length < 100) (h0:x.cell? (th rb 0)=some vT)
 (hT:x.ownsRow N 33 1 vT all.length (all.map fun t=>P0 t.tb)) (hA:∀ (j:Nat) (t:Thr),all[j]? = some t→t.At x j)
 (h:∀ y vl',y.ownsRow x.heap.size 33 1 vl' (Yx all).length (Yx all)→x.heap.size≤y.heap.size→(∀ r,r < x.heap.size→y.heap[r]? = x.heap[r]?)→JG Try.prog Post C (G (c.finish (.tuple #[vl',.bool (all.all fun t=>t.e)])) cs) y) :
 JG Try.prog Post C (G (Frame.enter Try.prog 50 #[P0 rb] .normal) (c::cs)) x:=by
 have hl:=@Xdp Post C c cs rb N x.heap.size vT all hall all.length 0 (by omega) x (.slice none 0 0) true;simp only [Try.f50,Option.getD_some,Code.nav] at hl;have hM2:∀ (j:Nat) (t:Thr),all[j]? = some t→t.tb < x.heap.size∧(t.e=false→t.at'.op=6→t.b < x.heap.size):=fun j t e=>by
  obtain ⟨a1,a2⟩:=hA j t e;exact ⟨(GE a1).1,fun e1 e2=>Xt (a2 e1 e2).2⟩
 replace hl:=fun u1 u4 u5 u6 u7 u8 B2 B3 B4 B5 B6 B7 B8 B9 D0 D1 D2 D3 D4 D5 D6 D7 D8 D9 E0=>hl u1 u4 u5 u6 u7 u8 B2 B3 B4 B5 B6 B7 B8 B9 D0 D1 D2 D3 D4 D5 D6 D7 D8 D9 E0 hT hA X7 (Nat.le_refl _) (fun g e=>own_lt hT e) hM2 rfl h;obtain ⟨ao,cap,rfl⟩:=Xq hT;replace hl:=HD hl;clear h hT hA hM2;refine Xu Try.func50 (by rfl) (by rfl) ?_;simp only [Try.f50,Option.getD_some];walk_nrm
 repeat refine kx ?_
 refine JG.loop ?_;exact hl.out _ _ _ _ _ _ _ _ _ _ _ _ _ _ _ _ _ _ _ _ _ _ _ _ _
