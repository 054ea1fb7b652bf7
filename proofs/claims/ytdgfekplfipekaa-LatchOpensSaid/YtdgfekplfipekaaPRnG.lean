/- Step, whole: a thread asks for an access, stands, and, let go again, has done it. -/
import Derived.Test.YtdgfekplfipekaaPRnF
set_option linter.all false
set_option maxRecDepth 100000
set_option maxHeartbeats 16000000
namespace Go.Proofs.Ytdgfekplfipekaa
open Go.Conc Go.RowKit
open Go.ConcN (upd upd_same upd_ne)
structure Xdx (x:World) (tb rb ab mb N num:Nat) (vT vL vW vR vF:Value) (A:Nat→Nat) (names:List Nat) (log:List Xo) (r:Ask) (was:Int):Prop where
 run:x.cell? (th tb 0)=some (P0 rb)
 obj:x.heap[rb]? = some (.cells (XH vT (.map (some mb)) vL vW vR vF false) 85 (0,0))
 rowL:x.ownsRow N 89 8 vL log.length (log.flatMap Yj)
 box:x.heap[ab]? = some (.cells (Yj ⟨num,r.op,-1,r.arg,r.new,0,0,false⟩).toArray 89 (0,0))
 la:vL.ownBlock≠some ab
 lt:vL.ownBlock≠some tb
 lr:vL.ownBlock≠some rb
 lm:vL.ownBlock≠some mb
 li:vL.ownBlock≠some (A r.cell)
 low:N≤x.heap.size
 len:log.length < 70000
 map:MapAt x mb A names
 row:XZ x (A r.cell)
 rows:∀ c∈names,XZ x (A c)∧(A c=A r.cell→c=r.cell)
 offs:∀ c∈names,A c≠ab
 ia:A r.cell≠ab
 it:A r.cell≠tb
 ir:A r.cell≠rb
 was:x.cell? (th (A r.cell) 0)=some (.int .i64 was)
theorem Xdx.doIn {x:World} {tb rb ab mb N num:Nat} {vT vL vW vR vF:Value} {A:Nat→Nat} {names:List Nat} {log:List Xo} {r:Ask} {was:Int} (h:Xdx x tb rb ab mb N num vT vL vW vR vF A names log r was):DoIn x x tb rb ab mb N vT vL vW vR vF false A names r.cell log ⟨num,r.op,-1,r.arg,r.new,0,0,false⟩ was:=by
 obtain ⟨ca,ta,hca⟩:=h.row;exact ⟨h.run,h.obj,h.rowL,h.box,h.la,h.lt,h.lr,h.lm,h.li,h.low,h.len,h.map,h.rows,h.offs,h.ia,h.it,h.ir,h.was,rfl,fun _ _ _=>rfl,ca,ta,hca,by rw [set_same0 ((Xa hca 0).symm.trans h.was)];exact hca⟩
def Ask.done (r:Ask) (num:Nat) (was:Int):Xo:=⟨num,r.op,-1,r.arg,r.new,was,(behind r.op was r.arg r.new).1,(behind r.op was r.arg r.new).2⟩
def Xo.told (a:Xo):Value:=.tuple #[.int .i64 a.was,.int .i64 a.now,.bool a.ok]
section
variable {Post:Value→World→Prop} {C:Ctx} {x:World} {c:Frame} {cs:List Frame} {tb rb ab mb N num:Nat} {vT vL vW vR vF:Value} {A:Nat→Nat} {names:List Nat} {r:Ask} {was:Int} {log:List Xo}
theorem XdH {u5 u6 u7 u8 u9 B0 B1 B2 B4 B5 B6 B7 B8 B9 D0 D1 D2 D3 D4 D5 D6 D7 D8 D9 E0 E1 E2 E3 E4 E5 E6 E7 E8 E9 G0 G1 G2 G3 G4 G5 G6 G7 G8 G9 H0 H4 H5 H6 H7 H8 H9 I1 I2 I3 I4 I5 I6 I7 I8 I9 J0 J1 J2 J3 J4 J5 J6 J7 J8 J9 K0 K1 K2 K3 K4 K5 K6 K7 K8 K9 L0 L1 L2 L3 L4 L5 L6 L7 L8 L9 M0 M3 M4 M5 M6 M7 M8 M9 N0 N1 N5 N6 N7 N8 N9 O0 O1 O2 O3 O4 O5 O6 O7 O8 O9 R0 R1 R2 R3 R4 R5:Value} (hr:r.Good) (hA:Xdx x tb rb ab mb N num vT vL vW vR vF A names log r was)
 (h:∀ y vL',YT x y rb ab mb N vT vL vL' vW vR vF false A names r.cell log (r.done num was)→JG Try.prog Post C (G (c.finish (r.done num was).told) cs) y) :
 JG Try.prog Post C (G ((base 33).at ⟨List.toArray ((P0 tb)::(P0 (A r.cell))::(.int .i8 r.op)::(.int .i64 r.arg)::(.int .i64 r.new)::u5::u6::u7::u8::u9::B0::B1::B2::(P0 ab)::B4::B5::B6::B7::B8::B9::D0::D1::D2::D3::D4::D5::D6::D7::D8::D9::E0::E1::E2::E3::E4::E5::E6::E7::E8::E9::G0::G1::G2::G3::G4::G5::G6::G7::G8::G9::H0::H4::H5::H6::H7::H8::H9::I1::I2::I3::I4::I5::I6::I7::I8::I9::J0::J1::J2::J3::J4::J5::J6::J7::J8::J9::K0::K1::K2::K3::K4::K5::K6::K7::K8::K9::L0::L1::L2::L3::L4::L5::L6::L7::L8::L9::M0::M3::M4::M5::M6::M7::M8::M9::N0::N1::N5::N6::N7::N8::N9::O0::O1::O2::O3::O4::O5::O6::O7::O8::O9::R0::R1::R2::R3::R4::R5::[]),[]⟩ [.code (Code.from (Try.f33.body.getD .skip) 6)]) (c::cs)) x:=by
 have H:=hA.doIn;clear hA;obtain ⟨op,cell,arg,new⟩:=r;obtain ⟨r1,r2,r3,r4⟩:=hr;simp only at *;have hop:op=1∨op=2∨op=3∨op=4∨op=5∨op=6:=by omega
 rcases hop with rfl|rfl|rfl|rfl|rfl|rfl
 ·obtain rfl:=r3 rfl
  obtain rfl:=r4 (by decide);exact Xd9 H h
 ·obtain rfl:=r4 (by decide)
  exact Xdc H h
 ·by_cases he:was=arg
  ·have hb:behind 3 was arg new=(new,true):=by simp [behind,he]
   simp only [Ask.done,hb] at h;exact Xea H he h
  ·have hb:behind 3 was arg new=(was,false):=by simp [behind,he]
   simp only [Ask.done,hb] at h;exact Xeb H he h
 ·obtain rfl:=r4 (by decide)
  exact Xfq H h
 ·obtain rfl:=r4 (by decide)
  exact Xd7 H h
 ·obtain rfl:=r4 (by decide)
  exact Xd8 H h
theorem Zz (h0:x.cell? (th tb 0)=some (P0 rb)) (h13:x.cell? (th tb 13)=some (.bool false)) (h:JG Try.prog Post C (G (c.finish (.bool true)) cs) x):JG Try.prog Post C (G (Frame.enter Try.prog 32 #[P0 tb] .normal) (c::cs)) x:=by
 refine Xu Try.func32 (by rfl) (by rfl) ?_;simp only [Try.f32,Option.getD_some];walk_nrm
 repeat refine kx ?_
 refine JG.ret ?_;exact JG.leave rfl rfl Try.func32 (fun τ d=>results_tmp (t:=2) rfl _ _ _) h
end
structure Uk (Post:Value→World→Prop) (tb ab num b:Nat) (r:Ask) (c:Frame) (cs:List Frame) (g:Goroutine):Prop where
 stop:∀ (C:Ctx) (x:World) (v:Value) (rb:Nat),x.cell? (th tb 0)=some (P0 rb)→x.cell? (th rb 6)=some (.bool true)→JG Try.prog Post C (G (c.raise [{ v:=YI,recovered:=false }]) cs) x→JG Try.prog Post C (Go.Conc.served g v) x
 go:∀ (C:Ctx) (x:World) (v:Value) (rb mb N:Nat) (vT vL vW vR vF:Value) (A:Nat→Nat) (names:List Nat) (log:List Xo) (was:Int),A r.cell=b→Xdx x tb rb ab mb N num vT vL vW vR vF A names log r was →
  (∀ y vL',YT x y rb ab mb N vT vL vL' vW vR vF false A names r.cell log (r.done num was)→JG Try.prog Post C (G (c.finish (r.done num was).told) cs) y)→JG Try.prog Post C (Go.Conc.served g v) x
section
variable {Post:Value→World→Prop} {C:Ctx} {x:World} {c:Frame} {cs:List Frame} {tb rb num wk st p b:Nat} {vv:Value} {ao:Xo} {sp:XL} {r:Ask}
theorem Xb2 {u5 u6 u7 u8 u9 B0 B1 B2 B3 B4 B5 B6 B7 B8 B9 D0 D1 D2 D3 D4 D5 D6 D7 D8 D9 E0 E1 E2 E3 E4 E8 E9 G0 G1 G2 G3 G4 G5 G6 G7 G8 G9 H0 H4 H5 H6 H7 H8 H9 I1 I2 I3 I4 I5 I6 I7 I8 I9 J0 J1 J2 J3 J4 J5 J6 J7 J8 J9 K0 K1 K2 K3 K4 K5 K6 K7 K8 K9 L0 L1 L2 L3 L4 L5 L6 L7 L8 L9 M0 M3 M4 M5 M6 M7 M8 M9 N0 N1 N5 N6 N7 N8 N9 O0 O1 O2 O3 O4 O5 O6 O7 O8 O9 R0 R1 R2 R3 R4 R5:Value} (hr:r.Good) (hd:C.d=0) (hp:p≠C.h) (hsp:C.Ch p=some sp) (hc:sp.c=st) (htb:x.heap[tb]? = some (.cells (Yk rb num wk st vv ao false) 91 (2,4))) (hrb:x.cell? (th rb 6)=some (.bool false)) (hne:rb≠tb)
 (hwk:wk < x.heap.size) (hopen:∃ k,x.heap[wk]? = some (.chan 0 #[] false k k false)) (hown:∀ i s',i≠C.h→C.Ch i=some s'→s'.c≠wk)
 (hnext:∀ (y:World) (g₂:Goroutine) (kk:Nat) (W:XL) (ab:Nat),W.c=wk→(∀ a v,W.kn a v ↔ a=th tb 2∧v=.chan (some wk))→(∀ g,W.home g→Uk Post tb ab num b r c cs g)→sp.home g₂→y.heap[st]? = some (.chan 0 #[] false kk kk false)→x.heap.size≤ab→ab < y.heap.size →
   y.heap[ab]? = some (.cells (Yj ⟨num,r.op,-1,r.arg,r.new,0,0,false⟩).toArray 89 (0,0))→y.heap[tb]? = some (.cells (Yk rb num wk st (P0 b) ⟨num,r.op,-1,r.arg,r.new,0,0,false⟩ false) 91 (2,4))→(∀ q,q≠tb→q < x.heap.size→y.heap[q]? = x.heap[q]?) →
   JG Try.prog Post { Ch:=upd C.Ch C.h (some W),h:=p,d:=0,n:=C.n,lo:=C.lo,io:=C.io } (Go.Conc.served g₂ Qs) (y.setChan st 0 #[] false (kk + 1) (kk + 1) false)) :
 JG Try.prog Post C (G ((base 33).at ⟨List.toArray ((P0 tb)::(P0 b)::(.int .i8 r.op)::(.int .i64 r.arg)::(.int .i64 r.new)::u5::u6::u7::u8::u9::B0::B1::B2::B3::B4::B5::B6::B7::B8::B9::D0::D1::D2::D3::D4::D5::D6::D7::D8::D9::E0::E1::E2::E3::E4::(P0 tb)::(.pointer (some (th tb 0)))::(.pointer (some (th tb 1)))::E8::E9::G0::G1::G2::G3::G4::G5::G6::G7::G8::G9::H0::H4::H5::H6::H7::H8::H9::I1::I2::I3::I4::I5::I6::I7::I8::I9::J0::J1::J2::J3::J4::J5::J6::J7::J8::J9::K0::K1::K2::K3::K4::K5::K6::K7::K8::K9::L0::L1::L2::L3::L4::L5::L6::L7::L8::L9::M0::M3::M4::M5::M6::M7::M8::M9::N0::N1::N5::N6::N7::N8::N9::O0::O1::O2::O3::O4::O5::O6::O7::O8::O9::R0::R1::R2::R3::R4::R5::[]),[]⟩ [.inRegion (Code.opsOf (Code.from (Try.f33.body.getD .skip) 4)) [3,4,5,6,7,8,9],.code (Code.from (Try.f33.body.getD .skip) 5)]) (c::cs)) x:=by
 have hdo:=@XdH Post;simp only [Try.f33,Option.getD_some,Code.from,Code.opsOf] at hdo ⊢;have h1:x.cell? (th tb 1)=some (.int .i64 num):=Xa htb 1;have hlt:tb < x.heap.size:=(GE htb).1;have hrl:rb < x.heap.size:=Xt (a:=th rb 6) hrb
 repeat refine kx ?_
 refine ko fun K E hK hE τ d=>?_;go_simp;refine hK _ _ (jt (x:=x.alloc (.cells #[.int .i64 0,.int .i8 0,.int .i64 0,.int .i64 0,.int .i64 0,.int .i64 0,.int .i64 0,.bool false] 89)) ?_);simp only [Xs];clear hK hE K E τ d;have g0:(x.alloc (.cells #[.int .i64 0,.int .i8 0,.int .i64 0,.int .i64 0,.int .i64 0,.int .i64 0,.int .i64 0,.bool false] 89)).heap[x.heap.size]? = some (.cells #[.int .i64 0,.int .i8 0,.int .i64 0,.int .i64 0,.int .i64 0,.int .i64 0,.int .i64 0,.bool false] 89 (0,0)):=heap_alloc_new x _;have go':∀ q,q < x.heap.size→(x.alloc (.cells #[.int .i64 0,.int .i8 0,.int .i64 0,.int .i64 0,.int .i64 0,.int .i64 0,.int .i64 0,.bool false] 89)).heap[q]? = x.heap[q]?:=fun q h=>by rw [Xl,Array.getElem?_push,if_neg (by omega)]
 have gs:(x.alloc (.cells #[.int .i64 0,.int .i8 0,.int .i64 0,.int .i64 0,.int .i64 0,.int .i64 0,.int .i64 0,.bool false] 89)).heap.size=x.heap.size + 1:=by simp
 generalize x.alloc (.cells #[.int .i64 0,.int .i8 0,.int .i64 0,.int .i64 0,.int .i64 0,.int .i64 0,.int .i64 0,.bool false] 89)=z at g0 go' gs ⊢;generalize hab:x.heap.size=ab at g0 go' gs hwk hnext hlt hrl ⊢;have m0:z.cell? (th ab 0)=some (.int .i64 0):=Xa g0 0;have m1:z.cell? (th ab 1)=some (.int .i8 0):=Xa g0 1;have m2:z.cell? (th ab 2)=some (.int .i64 0):=Xa g0 2;have m3:z.cell? (th ab 3)=some (.int .i64 0):=Xa g0 3;have m4:z.cell? (th ab 4)=some (.int .i64 0):=Xa g0 4;have m5:z.cell? (th ab 5)=some (.int .i64 0):=Xa g0 5;have m6:z.cell? (th ab 6)=some (.int .i64 0):=Xa g0 6;have m7:z.cell? (th ab 7)=some (.bool false):=Xa g0 7;have n0:z.frozen? (th ab 0)=false:=Xe g0 0;have n1:z.frozen? (th ab 1)=false:=Xe g0 1;have n2:z.frozen? (th ab 2)=false:=Xe g0 2;have n3:z.frozen? (th ab 3)=false:=Xe g0 3;have n4:z.frozen? (th ab 4)=false:=Xe g0 4;have n5:z.frozen? (th ab 5)=false:=Xe g0 5;have n6:z.frozen? (th ab 6)=false:=Xe g0 6;have n7:z.frozen? (th ab 7)=false:=Xe g0 7;refine ko fun K E hK hE τ d=>?_;have m0':=(Xk z τ d _).trans m0;have n0':=(Xf z τ d _).trans n0;have m1':=(Xk z τ d _).trans m1;have n1':=(Xf z τ d _).trans n1;have m2':=(Xk z τ d _).trans m2;have n2':=(Xf z τ d _).trans n2;have m3':=(Xk z τ d _).trans m3;have n3':=(Xf z τ d _).trans n3;have m4':=(Xk z τ d _).trans m4;have n4':=(Xf z τ d _).trans n4;have m5':=(Xk z τ d _).trans m5;have n5':=(Xf z τ d _).trans n5;have m6':=(Xk z τ d _).trans m6;have n6':=(Xf z τ d _).trans n6;have m7':=(Xk z τ d _).trans m7;have n7':=(Xf z τ d _).trans n7;go_simp;refine hK _ _ ?_;rw [Xc,Xc,Xc,Xc,Xc,Xc,Xc,Xc];refine jt ?_;clear hK hE K E τ d m0 n0 m0' n0' m1 n1 m1' n1' m2 n2 m2' n2' m3 n3 m3' n3' m4 n4 m4' n4' m5 n5 m5' n5' m6 n6 m6' n6' m7 n7 m7' n7';obtain ⟨w,hw⟩:∃ w,w=(((((((z.setCell (th ab 0) (.int .i64 num)).setCell (th ab 1) (.int .i8 r.op)).setCell (th ab 2) (.int .i64 (-1))).setCell (th ab 3) (.int .i64 r.arg)).setCell (th ab 4) (.int .i64 r.new)).setCell (th ab 5) (.int .i64 0)).setCell (th ab 6) (.int .i64 0)).setCell (th ab 7) (.bool false):=⟨_,rfl⟩
 rw [← hw];have wn:w.heap[ab]? = some (.cells #[.int .i64 num,.int .i8 r.op,.int .i64 (-1),.int .i64 r.arg,.int .i64 r.new,.int .i64 0,.int .i64 0,.bool false] 89 (0,0)):=by
  rw [hw,Xd (Xd (Xd (Xd (Xd (Xd (Xd (Xd g0)))))))];simp only [ZJ]
 have wo:∀ q,q < ab→w.heap[q]? = x.heap[q]?:=fun q h=>by
  have hq:q≠ab:=by omega
  rw [hw,Xb hq,Xb hq,Xb hq,Xb hq,Xb hq,Xb hq,Xb hq,Xb hq,go' q h]
 have ws:w.heap.size=ab + 1:=by rw [hw,Xh,Xh,Xh,Xh,Xh,Xh,Xh,Xh,gs]
 clear hw g0 go' gs
 try walk_nrm
 have k0:w.cell? (th ab 0)=some (.int .i64 num):=Xa wn 0;have k1:w.cell? (th ab 1)=some (.int .i8 r.op):=Xa wn 1;have k2:w.cell? (th ab 2)=some (.int .i64 (-1)):=Xa wn 2;have k3:w.cell? (th ab 3)=some (.int .i64 r.arg):=Xa wn 3;have k4:w.cell? (th ab 4)=some (.int .i64 r.new):=Xa wn 4;have k5:w.cell? (th ab 5)=some (.int .i64 0):=Xa wn 5;have k6:w.cell? (th ab 6)=some (.int .i64 0):=Xa wn 6;have k7:w.cell? (th ab 7)=some (.bool false):=Xa wn 7;replace wo:=HD wo
 repeat refine kx ?_
 clear k0 k1 k2 k3 k4 k5 k6 k7;refine kf (args:=#[P0 tb,P0 b,.agg #[.int .i64 num,.int .i8 r.op,.int .i64 (-1),.int .i64 r.arg,.int .i64 r.new,.int .i64 0,.int .i64 0,.bool false]]) Try.func44 ?_;have wt:=(wo.out tb hlt).trans htb;have wr:w.cell? (th rb 6)=some (.bool false):=by
  simp only [World.cell?];rw [wo.out rb hrl];exact hrb
 refine XdI (a:=⟨num,r.op,-1,r.arg,r.new,0,0,false⟩) (pa:=some ⟨b,0,none⟩) hd hp hsp hc wt wr hne ?_ ?_
 ·obtain ⟨k,hk⟩:=hopen
  exact ⟨by show wk < _;omega,⟨k,(wo.out wk hwk).trans hk⟩,hown,fun a v hv=>by obtain ⟨rfl,rfl⟩:=hv;exact Xa wt 2⟩
 ·intro y g₂ kk hg hcc hsz hyo hyt
  have hba:ab≠tb:=by omega
  refine hnext y g₂ kk (YC Post tb wk _ _) ab rfl (fun a v=>Iff.rfl) ?_ hg hcc (by omega) (by omega) ((hyo ab hba (by omega)).trans wn) hyt (fun q h1 h2=>by rw [hyo q h1 (by omega),wo.out q h2]);intro g hg';refine ⟨fun C' x' v rb' e0 e1 h=>?_,fun C' x' v rb' mb N vT vL vW vR vF A names log was hb hA h=>?_⟩
  ·exact hg' C' x' v rb' true e0 e1 (fun e=>by cases e) fun _=>JG.raise rfl Try.func33 h
  ·refine hg' C' x' v rb' false hA.run (Xa hA.obj 6) (fun _=>?_) (fun e=>by cases e)
   rw [Frame.finish_at];walk_nrm;refine JG.done ?_;subst hb;exact hdo hr hA h
theorem XfP (hr:r.Good) (hd:C.d=0) (hp:p≠C.h) (hsp:C.Ch p=some sp) (hc:sp.c=st) (htb:x.heap[tb]? = some (.cells (Yk rb num wk st vv ao false) 91 (2,4))) (hrb:x.cell? (th rb 6)=some (.bool false)) (hne:rb≠tb)
 (hwk:wk < x.heap.size) (hopen:∃ k,x.heap[wk]? = some (.chan 0 #[] false k k false)) (hown:∀ i s',i≠C.h→C.Ch i=some s'→s'.c≠wk)
 (hnext:∀ (y:World) (g₂:Goroutine) (kk:Nat) (W:XL) (ab:Nat),W.c=wk→(∀ a v,W.kn a v ↔ a=th tb 2∧v=.chan (some wk))→(∀ g,W.home g→Uk Post tb ab num b r c cs g)→sp.home g₂→y.heap[st]? = some (.chan 0 #[] false kk kk false)→x.heap.size≤ab→ab < y.heap.size →
   y.heap[ab]? = some (.cells (Yj ⟨num,r.op,-1,r.arg,r.new,0,0,false⟩).toArray 89 (0,0))→y.heap[tb]? = some (.cells (Yk rb num wk st (P0 b) ⟨num,r.op,-1,r.arg,r.new,0,0,false⟩ false) 91 (2,4))→(∀ q,q≠tb→q < x.heap.size→y.heap[q]? = x.heap[q]?) →
   JG Try.prog Post { Ch:=upd C.Ch C.h (some W),h:=p,d:=0,n:=C.n,lo:=C.lo,io:=C.io } (Go.Conc.served g₂ Qs) (y.setChan st 0 #[] false (kk + 1) (kk + 1) false)) :
 JG Try.prog Post C (G (Frame.enter Try.prog 33 #[P0 tb,P0 b,.int .i8 r.op,.int .i64 r.arg,.int .i64 r.new] .normal) (c::cs)) x:=by
 have hmid:=@Xb2 Post;simp only [Try.f33,Option.getD_some,Code.from,Code.opsOf] at hmid;have h0:x.cell? (th tb 0)=some (P0 rb):=Xa htb 0;have h13:x.cell? (th tb 13)=some (.bool false):=Xa htb 13;obtain ⟨op,cell,arg,new⟩:=r;obtain ⟨r1,r2,r3,r4⟩:=id hr;simp only at *;have hop:op=1∨op=2∨op=3∨op=4∨op=5∨op=6:=by omega
 replace hnext:=HD hnext;rcases hop with rfl|rfl|rfl|rfl|rfl|rfl
 ·obtain rfl:=r3 rfl
  obtain rfl:=r4 (by decide);clear r1 r2 r3 r4;refine Xu Try.func33 (by rfl) (by rfl) ?_;simp only [Try.f33,Option.getD_some];walk_nrm
  repeat refine kx ?_
  refine kf (args:=#[P0 tb]) Try.func32 ?_;refine Zz h0 h13 ?_;rw [Frame.finish_at];walk_nrm
  repeat refine kx ?_
  exact hmid hr hd hp hsp hc htb hrb hne hwk hopen hown hnext.out
 ·obtain rfl:=r4 (by decide)
  clear r1 r2 r3 r4;refine Xu Try.func33 (by rfl) (by rfl) ?_;simp only [Try.f33,Option.getD_some];walk_nrm
  repeat refine kx ?_
  refine kf (args:=#[P0 tb]) Try.func32 ?_;refine Zz h0 h13 ?_;rw [Frame.finish_at];walk_nrm
  repeat refine kx ?_
  exact hmid hr hd hp hsp hc htb hrb hne hwk hopen hown hnext.out
 ·clear r1 r2 r3 r4
  refine Xu Try.func33 (by rfl) (by rfl) ?_;simp only [Try.f33,Option.getD_some];walk_nrm
  repeat refine kx ?_
  refine kf (args:=#[P0 tb]) Try.func32 ?_;refine Zz h0 h13 ?_;rw [Frame.finish_at];walk_nrm
  repeat refine kx ?_
  exact hmid hr hd hp hsp hc htb hrb hne hwk hopen hown hnext.out
 ·obtain rfl:=r4 (by decide)
  clear r1 r2 r3 r4;refine Xu Try.func33 (by rfl) (by rfl) ?_;simp only [Try.f33,Option.getD_some];walk_nrm
  repeat refine kx ?_
  refine kf (args:=#[P0 tb]) Try.func32 ?_;refine Zz h0 h13 ?_;rw [Frame.finish_at];walk_nrm
  repeat refine kx ?_
  exact hmid hr hd hp hsp hc htb hrb hne hwk hopen hown hnext.out
 ·obtain rfl:=r4 (by decide)
  clear r1 r2 r3 r4;refine Xu Try.func33 (by rfl) (by rfl) ?_;simp only [Try.f33,Option.getD_some];walk_nrm
  repeat refine kx ?_
  refine kf (args:=#[P0 tb]) Try.func32 ?_;refine Zz h0 h13 ?_;rw [Frame.finish_at];walk_nrm
  repeat refine kx ?_
  exact hmid hr hd hp hsp hc htb hrb hne hwk hopen hown hnext.out
 ·obtain rfl:=r4 (by decide)
  clear r1 r2 r3 r4;refine Xu Try.func33 (by rfl) (by rfl) ?_;simp only [Try.f33,Option.getD_some];walk_nrm
  repeat refine kx ?_
  refine kf (args:=#[P0 tb]) Try.func32 ?_;refine Zz h0 h13 ?_;rw [Frame.finish_at];walk_nrm
  repeat refine kx ?_
  exact hmid hr hd hp hsp hc htb hrb hne hwk hopen hown hnext.out
