/- Step, whole: a thread asks for an access, stands, and, let go again, has done it. -/
import Derived.Test.YtdhnggjmegilkaaSRnF
set_option linter.unusedSimpArgs false
set_option linter.unusedVariables false
set_option maxRecDepth 100000
set_option maxHeartbeats 16000000
namespace Go.Proofs.Ytdhnggjmegilkaa
open Go.Conc Go.RowKit
open Go.ConcN (upd upd_same upd_ne)
theorem ZH {α:Type} (a0 a1 a2 a3 a4 a5 a6 a7 b0 b1 b2 b3 b4 b5 b6 b7:α) :
 ((((((((#[a0,a1,a2,a3,a4,a5,a6,a7].setIfInBounds 0 b0).setIfInBounds 1 b1).setIfInBounds 2 b2).setIfInBounds 3 b3).setIfInBounds 4 b4).setIfInBounds 5 b5).setIfInBounds 6 b6).setIfInBounds 7 b7)=#[b0,b1,b2,b3,b4,b5,b6,b7]:=by
 apply Array.ext'
 simp only [Array.toList_setIfInBounds]
 rfl
structure Xdm (x:World) (tb rb ab mb N num:Nat) (vT vL vW vR vF:Value) (A:Nat→Nat) (names:List Nat) (log:List Xn) (r:Ask) (was:Int):Prop where
 run:x.cell? (th tb 0)=some (P0 rb)
 obj:x.heap[rb]? = some (.cells (XH vT (.map (some mb)) vL vW vR vF false) 179 (0,0))
 rowL:x.ownsRow N 172 8 vL log.length (log.flatMap Yd)
 box:x.heap[ab]? = some (.cells (Yd ⟨num,r.op,-1,r.arg,r.new,0,0,false⟩).toArray 172 (0,0))
 la:vL.ownBlock≠some ab
 lt:vL.ownBlock≠some tb
 lr:vL.ownBlock≠some rb
 lm:vL.ownBlock≠some mb
 li:vL.ownBlock≠some (A r.cell)
 low:N≤x.heap.size
 len:log.length < 70000
 map:MapAt x mb A names
 row:XV x (A r.cell)
 rows:∀ c∈names,XV x (A c)∧(A c=A r.cell→c=r.cell)
 offs:∀ c∈names,A c≠ab
 ia:A r.cell≠ab
 it:A r.cell≠tb
 ir:A r.cell≠rb
 was:x.cell? (th (A r.cell) 0)=some (.int .i64 was)
def Ask.done (r:Ask) (num:Nat) (was:Int):Xn:=⟨num,r.op,-1,r.arg,r.new,was,(behind r.op was r.arg r.new).1,(behind r.op was r.arg r.new).2⟩
def Xn.told (a:Xn):Value:=.tuple #[.int .i64 a.was,.int .i64 a.now,.bool a.ok]
section
variable {Post:Value→World→Prop} {C:Ctx} {x:World} {c:Frame} {cs:List Frame} {tb rb ab mb N num:Nat} {vT vL vW vR vF:Value} {A:Nat→Nat} {names:List Nat} {r:Ask} {was:Int} {log:List Xn}
theorem Xdw {u5 u6 u7 u8 u9 B0 B1 B2 B4 B5 B6 B7 B8 B9 D0 D1 D2 D3 D4 D5 D6 D7 D8 D9 E0 E1 E2 E3 E4 E5 E6 E7 E8 E9 G0 G1 G2 G3 G4 G5 G6 G7 G8 G9 H4 H5 H6 H7 H8 H9 I0 I1 I2 I3 I4 I5 I6 I7 I8 I9 J0 J1 J2 J3 J4 J5 J6 J7 J8 J9 K0 K1 K3 K4 K5 K6 K7 K8 K9 L0 L1 L2 L3 L4 L5 L6 L7 L8 L9 M0 M1 M4 M5 M6 M7 M8 M9 N1 N5 N6 N7 N8 N9 O0 O1 O2 O3 O4 O5 O6 O7 O8 O9 R0 R1 R2 R3 R4 R5 R6 R7:Value} (hr:r.Good) (hA:Xdm x tb rb ab mb N num vT vL vW vR vF A names log r was)
 (h:∀ y vL',YP x y rb ab mb N vT vL vL' vW vR vF false A names r.cell log (r.done num was)→JG Try.prog Post C (G (c.finish (r.done num was).told) cs) y) :
 JG Try.prog Post C (G ((base 101).at ⟨List.toArray ((P0 tb)::(P0 (A r.cell))::(.int .i8 r.op)::(.int .i64 r.arg)::(.int .i64 r.new)::u5::u6::u7::u8::u9::B0::B1::B2::(P0 ab)::B4::B5::B6::B7::B8::B9::D0::D1::D2::D3::D4::D5::D6::D7::D8::D9::E0::E1::E2::E3::E4::E5::E6::E7::E8::E9::G0::G1::G2::G3::G4::G5::G6::G7::G8::G9::H4::H5::H6::H7::H8::H9::I0::I1::I2::I3::I4::I5::I6::I7::I8::I9::J0::J1::J2::J3::J4::J5::J6::J7::J8::J9::K0::K1::K3::K4::K5::K6::K7::K8::K9::L0::L1::L2::L3::L4::L5::L6::L7::L8::L9::M0::M1::M4::M5::M6::M7::M8::M9::N1::N5::N6::N7::N8::N9::O0::O1::O2::O3::O4::O5::O6::O7::O8::O9::R0::R1::R2::R3::R4::R5::R6::R7::[]),[]⟩ [.code (Code.from (Try.f101.body.getD .skip) 6)]) (c::cs)) x:=by
 obtain ⟨h1,h2,h3,h4,h5,h6,h7,h8,h9,h10,h11,h12,h13,h14,h15,h16,h17,h18,h19⟩:=hA
 obtain ⟨op,cell,arg,new⟩:=r
 obtain ⟨r1,r2,r3,r4⟩:=hr
 simp only at *
 have hop:op=1∨op=2∨op=3∨op=4∨op=5∨op=6:=by omega
 rcases hop with rfl|rfl|rfl|rfl|rfl|rfl
 ·obtain rfl:=r3 rfl
  obtain rfl:=r4 (by decide)
  exact XdU h1 h2 h3 h4 h5 h6 h7 h8 h9 h10 h11 h12 h13 h14 h15 h16 h17 h18 h19 h
 ·obtain rfl:=r4 (by decide)
  exact Xc3 h1 h2 h3 h4 h5 h6 h7 h8 h9 h10 h11 h12 h13 h14 h15 h16 h17 h18 h19 h
 ·by_cases he:was=arg
  ·have hb:behind 3 was arg new=(new,true):=by simp [behind,he]
   simp only [Ask.done,hb] at h
   exact XdV h1 h2 h3 h4 h5 h6 h7 h8 h9 h10 h11 h12 h13 h14 h15 h16 h17 h18 h19 he h
  ·have hb:behind 3 was arg new=(was,false):=by simp [behind,he]
   simp only [Ask.done,hb] at h
   exact XdW h1 h2 h3 h4 h5 h6 h7 h8 h9 h10 h11 h12 h13 h14 h15 h16 h17 h18 h19 he h
 ·obtain rfl:=r4 (by decide)
  exact Xe1 h1 h2 h3 h4 h5 h6 h7 h8 h9 h10 h11 h12 h13 h14 h15 h16 h17 h18 h19 h
 ·obtain rfl:=r4 (by decide)
  exact XdS h1 h2 h3 h4 h5 h6 h7 h8 h9 h10 h11 h12 h13 h14 h15 h16 h17 h18 h19 h
 ·obtain rfl:=r4 (by decide)
  exact XdT h1 h2 h3 h4 h5 h6 h7 h8 h9 h10 h11 h12 h13 h14 h15 h16 h17 h18 h19 h
theorem YU (h0:x.cell? (th tb 0)=some (P0 rb)) (h13:x.cell? (th tb 13)=some (.bool false)) (h:JG Try.prog Post C (G (c.finish (.bool true)) cs) x):JG Try.prog Post C (G (Frame.enter Try.prog 100 #[P0 tb] .normal) (c::cs)) x:=by
 refine Xy Try.func100 (by rfl) (by rfl) ?_
 simp only [Try.f100,Option.getD_some]
 walk_nrm
 repeat first|refine jc rfl ?_|(first|refine ju rfl rfl ?_|(refine jv rfl rfl rfl fun K E f τ d=>?_;have f0:=uc τ d h0;have f1:=uc τ d h13;go_simp;refine f _ _ _ _ ?_;clear f0 f1 f K E τ d);try walk_nrm)
 refine JG.ret ?_
 exact JG.leave rfl rfl Try.func100 (fun τ d=>results_tmp (t:=2) rfl _ _ _) h
end
structure Ud (Post:Value→World→Prop) (tb ab num b:Nat) (r:Ask) (c:Frame) (cs:List Frame) (g:Goroutine):Prop where
 stop:∀ (C:Ctx) (x:World) (v:Value) (rb:Nat),x.cell? (th tb 0)=some (P0 rb)→x.cell? (th rb 6)=some (.bool true)→JG Try.prog Post C (G (c.raise [{ v:=Z3,recovered:=false }]) cs) x→JG Try.prog Post C (Go.Conc.served g v) x
 go:∀ (C:Ctx) (x:World) (v:Value) (rb mb N:Nat) (vT vL vW vR vF:Value) (A:Nat→Nat) (names:List Nat) (log:List Xn) (was:Int),A r.cell=b→Xdm x tb rb ab mb N num vT vL vW vR vF A names log r was →
  (∀ y vL',YP x y rb ab mb N vT vL vL' vW vR vF false A names r.cell log (r.done num was)→JG Try.prog Post C (G (c.finish (r.done num was).told) cs) y)→JG Try.prog Post C (Go.Conc.served g v) x
section
variable {Post:Value→World→Prop} {C:Ctx} {x:World} {c:Frame} {cs:List Frame} {tb rb num wk st p b:Nat} {vv:Value} {ao:Xn} {sp:XM} {r:Ask}
theorem XbW {u5 u6 u7 u8 u9 B0 B1 B2 B3 B4 B5 B6 B7 B8 B9 D0 D1 D2 D3 D4 D5 D6 D7 D8 D9 E0 E1 E2 E3 E4 E8 E9 G0 G1 G2 G3 G4 G5 G6 G7 G8 G9 H4 H5 H6 H7 H8 H9 I0 I1 I2 I3 I4 I5 I6 I7 I8 I9 J0 J1 J2 J3 J4 J5 J6 J7 J8 J9 K0 K1 K3 K4 K5 K6 K7 K8 K9 L0 L1 L2 L3 L4 L5 L6 L7 L8 L9 M0 M1 M4 M5 M6 M7 M8 M9 N1 N5 N6 N7 N8 N9 O0 O1 O2 O3 O4 O5 O6 O7 O8 O9 R0 R1 R2 R3 R4 R5 R6 R7:Value} (hr:r.Good) (hd:C.d=0) (hp:p≠C.h) (hsp:C.Ch p=some sp) (hc:sp.c=st) (htb:x.heap[tb]? = some (.cells (Yf rb num wk st vv ao false) 184 (2,4))) (hrb:x.cell? (th rb 6)=some (.bool false)) (hne:rb≠tb)
 (hwk:wk < x.heap.size) (hopen:∃ k,x.heap[wk]? = some (.chan 0 #[] false k k false)) (hown:∀ i s',i≠C.h→C.Ch i=some s'→s'.c≠wk)
 (hnext:∀ (y:World) (g₂:Goroutine) (kk:Nat) (W:XM) (ab:Nat),W.c=wk→(∀ a v,W.kn a v ↔ a=th tb 2∧v=.chan (some wk))→(∀ g,W.home g→Ud Post tb ab num b r c cs g)→sp.home g₂→y.heap[st]? = some (.chan 0 #[] false kk kk false)→x.heap.size≤ab→ab < y.heap.size →
   y.heap[ab]? = some (.cells (Yd ⟨num,r.op,-1,r.arg,r.new,0,0,false⟩).toArray 172 (0,0))→y.heap[tb]? = some (.cells (Yf rb num wk st (P0 b) ⟨num,r.op,-1,r.arg,r.new,0,0,false⟩ false) 184 (2,4))→(∀ q,q≠tb→q < x.heap.size→y.heap[q]? = x.heap[q]?) →
   JG Try.prog Post { Ch:=upd C.Ch C.h (some W),h:=p,d:=0,n:=C.n,lo:=C.lo,io:=C.io } (Go.Conc.served g₂ Qr) (y.setChan st 0 #[] false (kk + 1) (kk + 1) false)) :
 JG Try.prog Post C (G ((base 101).at ⟨List.toArray ((P0 tb)::(P0 b)::(.int .i8 r.op)::(.int .i64 r.arg)::(.int .i64 r.new)::u5::u6::u7::u8::u9::B0::B1::B2::B3::B4::B5::B6::B7::B8::B9::D0::D1::D2::D3::D4::D5::D6::D7::D8::D9::E0::E1::E2::E3::E4::(P0 tb)::(.pointer (some (th tb 0)))::(.pointer (some (th tb 1)))::E8::E9::G0::G1::G2::G3::G4::G5::G6::G7::G8::G9::H4::H5::H6::H7::H8::H9::I0::I1::I2::I3::I4::I5::I6::I7::I8::I9::J0::J1::J2::J3::J4::J5::J6::J7::J8::J9::K0::K1::K3::K4::K5::K6::K7::K8::K9::L0::L1::L2::L3::L4::L5::L6::L7::L8::L9::M0::M1::M4::M5::M6::M7::M8::M9::N1::N5::N6::N7::N8::N9::O0::O1::O2::O3::O4::O5::O6::O7::O8::O9::R0::R1::R2::R3::R4::R5::R6::R7::[]),[]⟩ [.inRegion (Code.opsOf (Code.from (Try.f101.body.getD .skip) 4)) [3,4,5,6,7,8,9],.code (Code.from (Try.f101.body.getD .skip) 5)]) (c::cs)) x:=by
 have hdo:=@Xdw Post
 simp only [Try.f101,Option.getD_some,Code.from,Code.opsOf] at hdo ⊢
 have h1:x.cell? (th tb 1)=some (.int .i64 num):=Xa htb 1
 have hlt:tb < x.heap.size:=(GE htb).1
 have hrl:rb < x.heap.size:=Xs (a:=th rb 6) hrb
 repeat first|refine jc rfl ?_|(first|refine ju rfl rfl ?_|(refine jv rfl rfl rfl fun K E f τ d=>?_;have f0:=uc τ d h1;go_simp;refine f _ _ _ _ ?_;clear f0 f K E τ d);try walk_nrm)
 refine jo rfl rfl rfl (by decide) fun K E hK hE τ d=>?_
 go_simp
 refine hK _ _ (jt (x:=x.alloc (.cells #[.int .i64 0,.int .i8 0,.int .i64 0,.int .i64 0,.int .i64 0,.int .i64 0,.int .i64 0,.bool false] 172)) ?_)
 simp only [Xv]
 clear hK hE K E τ d
 have g0:(x.alloc (.cells #[.int .i64 0,.int .i8 0,.int .i64 0,.int .i64 0,.int .i64 0,.int .i64 0,.int .i64 0,.bool false] 172)).heap[x.heap.size]? = some (.cells #[.int .i64 0,.int .i8 0,.int .i64 0,.int .i64 0,.int .i64 0,.int .i64 0,.int .i64 0,.bool false] 172 (0,0)):=heap_alloc_new x _
 have go':∀ q,q < x.heap.size→(x.alloc (.cells #[.int .i64 0,.int .i8 0,.int .i64 0,.int .i64 0,.int .i64 0,.int .i64 0,.int .i64 0,.bool false] 172)).heap[q]? = x.heap[q]?:=fun q h=>by rw [Xj,Array.getElem?_push,if_neg (by omega)]
 have gs:(x.alloc (.cells #[.int .i64 0,.int .i8 0,.int .i64 0,.int .i64 0,.int .i64 0,.int .i64 0,.int .i64 0,.bool false] 172)).heap.size=x.heap.size + 1:=by simp
 generalize x.alloc (.cells #[.int .i64 0,.int .i8 0,.int .i64 0,.int .i64 0,.int .i64 0,.int .i64 0,.int .i64 0,.bool false] 172)=z at g0 go' gs ⊢
 generalize hab:x.heap.size=ab at g0 go' gs hwk hnext hlt hrl ⊢
 have m0:z.cell? (th ab 0)=some (.int .i64 0):=Xa g0 0
 have m1:z.cell? (th ab 1)=some (.int .i8 0):=Xa g0 1
 have m2:z.cell? (th ab 2)=some (.int .i64 0):=Xa g0 2
 have m3:z.cell? (th ab 3)=some (.int .i64 0):=Xa g0 3
 have m4:z.cell? (th ab 4)=some (.int .i64 0):=Xa g0 4
 have m5:z.cell? (th ab 5)=some (.int .i64 0):=Xa g0 5
 have m6:z.cell? (th ab 6)=some (.int .i64 0):=Xa g0 6
 have m7:z.cell? (th ab 7)=some (.bool false):=Xa g0 7
 have n0:z.frozen? (th ab 0)=false:=Xe g0 0
 have n1:z.frozen? (th ab 1)=false:=Xe g0 1
 have n2:z.frozen? (th ab 2)=false:=Xe g0 2
 have n3:z.frozen? (th ab 3)=false:=Xe g0 3
 have n4:z.frozen? (th ab 4)=false:=Xe g0 4
 have n5:z.frozen? (th ab 5)=false:=Xe g0 5
 have n6:z.frozen? (th ab 6)=false:=Xe g0 6
 have n7:z.frozen? (th ab 7)=false:=Xe g0 7
 refine jo rfl rfl rfl (by decide) fun K E hK hE τ d=>?_
 have m0':=(Xi z τ d _).trans m0
 have n0':=(Xl z τ d _).trans n0
 have m1':=(Xi z τ d _).trans m1
 have n1':=(Xl z τ d _).trans n1
 have m2':=(Xi z τ d _).trans m2
 have n2':=(Xl z τ d _).trans n2
 have m3':=(Xi z τ d _).trans m3
 have n3':=(Xl z τ d _).trans n3
 have m4':=(Xi z τ d _).trans m4
 have n4':=(Xl z τ d _).trans n4
 have m5':=(Xi z τ d _).trans m5
 have n5':=(Xl z τ d _).trans n5
 have m6':=(Xi z τ d _).trans m6
 have n6':=(Xl z τ d _).trans n6
 have m7':=(Xi z τ d _).trans m7
 have n7':=(Xl z τ d _).trans n7
 go_simp
 refine hK _ _ ?_
 rw [Xd,Xd,Xd,Xd,Xd,Xd,Xd,Xd]
 refine jt ?_
 clear hK hE K E τ d m0 n0 m0' n0' m1 n1 m1' n1' m2 n2 m2' n2' m3 n3 m3' n3' m4 n4 m4' n4' m5 n5 m5' n5' m6 n6 m6' n6' m7 n7 m7' n7'
 obtain ⟨w,hw⟩:∃ w,w=(((((((z.setCell (th ab 0) (.int .i64 num)).setCell (th ab 1) (.int .i8 r.op)).setCell (th ab 2) (.int .i64 (-1))).setCell (th ab 3) (.int .i64 r.arg)).setCell (th ab 4) (.int .i64 r.new)).setCell (th ab 5) (.int .i64 0)).setCell (th ab 6) (.int .i64 0)).setCell (th ab 7) (.bool false):=⟨_,rfl⟩
 rw [← hw]
 have wn:w.heap[ab]? = some (.cells #[.int .i64 num,.int .i8 r.op,.int .i64 (-1),.int .i64 r.arg,.int .i64 r.new,.int .i64 0,.int .i64 0,.bool false] 172 (0,0)):=by
  rw [hw,Xc (Xc (Xc (Xc (Xc (Xc (Xc (Xc g0)))))))]
  simp only [ZH]
 have wo:∀ q,q < ab→w.heap[q]? = x.heap[q]?:=fun q h=>by
  have hq:q≠ab:=by omega
  rw [hw,Xb hq,Xb hq,Xb hq,Xb hq,Xb hq,Xb hq,Xb hq,Xb hq,go' q h]
 have ws:w.heap.size=ab + 1:=by rw [hw,Xg,Xg,Xg,Xg,Xg,Xg,Xg,Xg,gs]
 clear hw g0 go' gs
 try walk_nrm
 have k0:w.cell? (th ab 0)=some (.int .i64 num):=Xa wn 0
 have k1:w.cell? (th ab 1)=some (.int .i8 r.op):=Xa wn 1
 have k2:w.cell? (th ab 2)=some (.int .i64 (-1)):=Xa wn 2
 have k3:w.cell? (th ab 3)=some (.int .i64 r.arg):=Xa wn 3
 have k4:w.cell? (th ab 4)=some (.int .i64 r.new):=Xa wn 4
 have k5:w.cell? (th ab 5)=some (.int .i64 0):=Xa wn 5
 have k6:w.cell? (th ab 6)=some (.int .i64 0):=Xa wn 6
 have k7:w.cell? (th ab 7)=some (.bool false):=Xa wn 7
 replace wo:=HD wo
 repeat first|refine jc rfl ?_|(first|refine ju rfl rfl ?_|(refine jv rfl rfl rfl fun K E f τ d=>?_;go_simp;refine f _ _ _ _ ?_;clear f K E τ d);try walk_nrm)
 refine jo rfl rfl rfl (by decide) fun K E hK hE τ d=>?_
 have k0':=(Xi w τ d _).trans k0
 have k1':=(Xi w τ d _).trans k1
 have k2':=(Xi w τ d _).trans k2
 have k3':=(Xi w τ d _).trans k3
 have k4':=(Xi w τ d _).trans k4
 have k5':=(Xi w τ d _).trans k5
 have k6':=(Xi w τ d _).trans k6
 have k7':=(Xi w τ d _).trans k7
 go_simp
 refine hK _ _ (jt ?_)
 clear hK hE K E τ d k0 k0' k1 k1' k2 k2' k3 k3' k4 k4' k5 k5' k6 k6' k7 k7'
 try walk_nrm
 refine Xt (f:=138) (args:=#[P0 tb,P0 b,.agg #[.int .i64 num,.int .i8 r.op,.int .i64 (-1),.int .i64 r.arg,.int .i64 r.new,.int .i64 0,.int .i64 0,.bool false]]) Try.func138 (by kernel_rfl) (by kernel_rfl) rfl rfl rfl rfl (by decide) ?_
 have wt:=(wo.out tb hlt).trans htb
 have wr:w.cell? (th rb 6)=some (.bool false):=by
  simp only [World.cell?];rw [wo.out rb hrl];exact hrb
 refine Xdx (a:=⟨num,r.op,-1,r.arg,r.new,0,0,false⟩) (pa:=some ⟨b,0,none⟩) hd hp hsp hc wt wr hne ?_ ?_
 ·obtain ⟨k,hk⟩:=hopen
  exact ⟨by show wk < _;omega,⟨k,(wo.out wk hwk).trans hk⟩,hown,fun a v hv=>by obtain ⟨rfl,rfl⟩:=hv;exact Xa wt 2⟩
 ·intro y g₂ kk hg hcc hsz hyo hyt
  have hba:ab≠tb:=by omega
  refine hnext y g₂ kk (Yu Post tb wk _ _) ab rfl (fun a v=>Iff.rfl) ?_ hg hcc (by omega) (by omega) ((hyo ab hba (by omega)).trans wn) hyt (fun q h1 h2=>by rw [hyo q h1 (by omega),wo.out q h2])
  intro g hg'
  refine ⟨fun C' x' v rb' e0 e1 h=>?_,fun C' x' v rb' mb N vT vL vW vR vF A names log was hb hA h=>?_⟩
  ·exact hg' C' x' v rb' true e0 e1 (fun e=>by cases e) fun _=>JG.raise rfl Try.func101 h
  ·refine hg' C' x' v rb' false hA.run (Xa hA.obj 6) (fun _=>?_) (fun e=>by cases e)
   rw [Frame.finish_at]
   walk_nrm
   refine JG.done ?_
   subst hb
   exact hdo hr hA h
theorem Xfo (hr:r.Good) (hd:C.d=0) (hp:p≠C.h) (hsp:C.Ch p=some sp) (hc:sp.c=st) (htb:x.heap[tb]? = some (.cells (Yf rb num wk st vv ao false) 184 (2,4))) (hrb:x.cell? (th rb 6)=some (.bool false)) (hne:rb≠tb)
 (hwk:wk < x.heap.size) (hopen:∃ k,x.heap[wk]? = some (.chan 0 #[] false k k false)) (hown:∀ i s',i≠C.h→C.Ch i=some s'→s'.c≠wk)
 (hnext:∀ (y:World) (g₂:Goroutine) (kk:Nat) (W:XM) (ab:Nat),W.c=wk→(∀ a v,W.kn a v ↔ a=th tb 2∧v=.chan (some wk))→(∀ g,W.home g→Ud Post tb ab num b r c cs g)→sp.home g₂→y.heap[st]? = some (.chan 0 #[] false kk kk false)→x.heap.size≤ab→ab < y.heap.size →
   y.heap[ab]? = some (.cells (Yd ⟨num,r.op,-1,r.arg,r.new,0,0,false⟩).toArray 172 (0,0))→y.heap[tb]? = some (.cells (Yf rb num wk st (P0 b) ⟨num,r.op,-1,r.arg,r.new,0,0,false⟩ false) 184 (2,4))→(∀ q,q≠tb→q < x.heap.size→y.heap[q]? = x.heap[q]?) →
   JG Try.prog Post { Ch:=upd C.Ch C.h (some W),h:=p,d:=0,n:=C.n,lo:=C.lo,io:=C.io } (Go.Conc.served g₂ Qr) (y.setChan st 0 #[] false (kk + 1) (kk + 1) false)) :
 JG Try.prog Post C (G (Frame.enter Try.prog 101 #[P0 tb,P0 b,.int .i8 r.op,.int .i64 r.arg,.int .i64 r.new] .normal) (c::cs)) x:=by
 have hmid:=@XbW Post
 simp only [Try.f101,Option.getD_some,Code.from,Code.opsOf] at hmid
 have h0:x.cell? (th tb 0)=some (P0 rb):=Xa htb 0
 have h13:x.cell? (th tb 13)=some (.bool false):=Xa htb 13
 obtain ⟨op,cell,arg,new⟩:=r
 obtain ⟨r1,r2,r3,r4⟩:=id hr
 simp only at *
 have hop:op=1∨op=2∨op=3∨op=4∨op=5∨op=6:=by omega
 replace hnext:=HD hnext
 rcases hop with rfl|rfl|rfl|rfl|rfl|rfl
 ·obtain rfl:=r3 rfl
  obtain rfl:=r4 (by decide)
  clear r1 r2 r3 r4
  refine Xy Try.func101 (by rfl) (by rfl) ?_
  simp only [Try.f101,Option.getD_some]
  walk_nrm
  repeat first|refine jc rfl ?_|(first|refine ju rfl rfl ?_|(refine jv rfl rfl rfl fun K E f τ d=>?_;go_simp;refine f _ _ _ _ ?_;clear f K E τ d);try walk_nrm)
  refine Xt (f:=100) (args:=#[P0 tb]) Try.func100 (by kernel_rfl) (by kernel_rfl) rfl rfl rfl rfl (by decide) ?_
  refine YU h0 h13 ?_
  rw [Frame.finish_at]
  walk_nrm
  repeat first|refine jc rfl ?_|(first|refine ju rfl rfl ?_|(refine jv rfl rfl rfl fun K E f τ d=>?_;go_simp;refine f _ _ _ _ ?_;clear f K E τ d);try walk_nrm)
  exact hmid hr hd hp hsp hc htb hrb hne hwk hopen hown hnext.out
 ·obtain rfl:=r4 (by decide)
  clear r1 r2 r3 r4
  refine Xy Try.func101 (by rfl) (by rfl) ?_
  simp only [Try.f101,Option.getD_some]
  walk_nrm
  repeat first|refine jc rfl ?_|(first|refine ju rfl rfl ?_|(refine jv rfl rfl rfl fun K E f τ d=>?_;go_simp;refine f _ _ _ _ ?_;clear f K E τ d);try walk_nrm)
  refine Xt (f:=100) (args:=#[P0 tb]) Try.func100 (by kernel_rfl) (by kernel_rfl) rfl rfl rfl rfl (by decide) ?_
  refine YU h0 h13 ?_
  rw [Frame.finish_at]
  walk_nrm
  repeat first|refine jc rfl ?_|(first|refine ju rfl rfl ?_|(refine jv rfl rfl rfl fun K E f τ d=>?_;go_simp;refine f _ _ _ _ ?_;clear f K E τ d);try walk_nrm)
  exact hmid hr hd hp hsp hc htb hrb hne hwk hopen hown hnext.out
 ·clear r1 r2 r3 r4
  refine Xy Try.func101 (by rfl) (by rfl) ?_
  simp only [Try.f101,Option.getD_some]
  walk_nrm
  repeat first|refine jc rfl ?_|(first|refine ju rfl rfl ?_|(refine jv rfl rfl rfl fun K E f τ d=>?_;go_simp;refine f _ _ _ _ ?_;clear f K E τ d);try walk_nrm)
  refine Xt (f:=100) (args:=#[P0 tb]) Try.func100 (by kernel_rfl) (by kernel_rfl) rfl rfl rfl rfl (by decide) ?_
  refine YU h0 h13 ?_
  rw [Frame.finish_at]
  walk_nrm
  repeat first|refine jc rfl ?_|(first|refine ju rfl rfl ?_|(refine jv rfl rfl rfl fun K E f τ d=>?_;go_simp;refine f _ _ _ _ ?_;clear f K E τ d);try walk_nrm)
  exact hmid hr hd hp hsp hc htb hrb hne hwk hopen hown hnext.out
 ·obtain rfl:=r4 (by decide)
  clear r1 r2 r3 r4
  refine Xy Try.func101 (by rfl) (by rfl) ?_
  simp only [Try.f101,Option.getD_some]
  walk_nrm
  repeat first|refine jc rfl ?_|(first|refine ju rfl rfl ?_|(refine jv rfl rfl rfl fun K E f τ d=>?_;go_simp;refine f _ _ _ _ ?_;clear f K E τ d);try walk_nrm)
  refine Xt (f:=100) (args:=#[P0 tb]) Try.func100 (by kernel_rfl) (by kernel_rfl) rfl rfl rfl rfl (by decide) ?_
  refine YU h0 h13 ?_
  rw [Frame.finish_at]
  walk_nrm
  repeat first|refine jc rfl ?_|(first|refine ju rfl rfl ?_|(refine jv rfl rfl rfl fun K E f τ d=>?_;go_simp;refine f _ _ _ _ ?_;clear f K E τ d);try walk_nrm)
  exact hmid hr hd hp hsp hc htb hrb hne hwk hopen hown hnext.out
 ·obtain rfl:=r4 (by decide)
  clear r1 r2 r3 r4
  refine Xy Try.func101 (by rfl) (by rfl) ?_
  simp only [Try.f101,Option.getD_some]
  walk_nrm
  repeat first|refine jc rfl ?_|(first|refine ju rfl rfl ?_|(refine jv rfl rfl rfl fun K E f τ d=>?_;go_simp;refine f _ _ _ _ ?_;clear f K E τ d);try walk_nrm)
  refine Xt (f:=100) (args:=#[P0 tb]) Try.func100 (by kernel_rfl) (by kernel_rfl) rfl rfl rfl rfl (by decide) ?_
  refine YU h0 h13 ?_
  rw [Frame.finish_at]
  walk_nrm
  repeat first|refine jc rfl ?_|(first|refine ju rfl rfl ?_|(refine jv rfl rfl rfl fun K E f τ d=>?_;go_simp;refine f _ _ _ _ ?_;clear f K E τ d);try walk_nrm)
  exact hmid hr hd hp hsp hc htb hrb hne hwk hopen hown hnext.out
 ·obtain rfl:=r4 (by decide)
  clear r1 r2 r3 r4
  refine Xy Try.func101 (by rfl) (by rfl) ?_
  simp only [Try.f101,Option.getD_some]
  walk_nrm
  repeat first|refine jc rfl ?_|(first|refine ju rfl rfl ?_|(refine jv rfl rfl rfl fun K E f τ d=>?_;go_simp;refine f _ _ _ _ ?_;clear f K E τ d);try walk_nrm)
  refine Xt (f:=100) (args:=#[P0 tb]) Try.func100 (by kernel_rfl) (by kernel_rfl) rfl rfl rfl rfl (by decide) ?_
  refine YU h0 h13 ?_
  rw [Frame.finish_at]
  walk_nrm
  repeat first|refine jc rfl ?_|(first|refine ju rfl rfl ?_|(refine jv rfl rfl rfl fun K E f τ d=>?_;go_simp;refine f _ _ _ _ ?_;clear f K E τ d);try walk_nrm)
  exact hmid hr hd hp hsp hc htb hrb hne hwk hopen hown hnext.out
end
end Go.Proofs.Ytdhnggjmegilkaa
