/- An access, from where the thread is let go on. -/
import Derived.Test.YtdgfekplfipekaaVLbA
set_option linter.all false
set_option maxRecDepth 100000
set_option maxHeartbeats 16000000
namespace Go.Proofs.Ytdgfekplfipekaa
open Go.Conc Go.RowKit
open Go.ConcN (upd upd_same upd_ne)
structure YT (x y:World) (rb ab mb N:Nat) (vT vL vL' vW vR vF:Value) (stops:Bool) (A:Nat→Nat) (names:List Nat) (id:Nat) (log:List Xo) (a:Xo):Prop where
 obj:y.heap[rb]? = some (.cells (XH vT (.map (some mb)) vL' vW vR vF stops) 85 (0,0))
 log:y.ownsRow N 89 8 vL' (log.length + 1) ((log ++ [{ a with cell:=(names.idxOf id:Nat) }]).flatMap Yj)
 lnew:vL'.ownBlock=vL.ownBlock∨∃ g,vL'.ownBlock=some g∧x.heap.size≤g
 map:MapAt y mb A (if id∈names then names else names ++ [id])
 size:x.heap.size≤y.heap.size
 old:∀ r,r < x.heap.size→r≠rb→r≠ab→r≠mb→r≠A id→some r≠vL.ownBlock→y.heap[r]? = x.heap[r]?
 cell:y.heap[A id]? = (x.setCell (th (A id) 0) (.int .i64 a.now)).heap[A id]?
structure DoIn (x0 x:World) (tb rb ab mb N:Nat) (vT vL vW vR vF:Value) (stops:Bool) (A:Nat→Nat) (names:List Nat) (id:Nat) (log:List Xo) (e:Xo) (cv:Int):Prop where
 run:x.cell? (th tb 0)=some (P0 rb)
 obj:x.heap[rb]? = some (.cells (XH vT (.map (some mb)) vL vW vR vF stops) 85 (0,0))
 rowL:x.ownsRow N 89 8 vL log.length (log.flatMap Yj)
 box:x.heap[ab]? = some (.cells (Yj e).toArray 89 (0,0))
 la:vL.ownBlock≠some ab
 lt:vL.ownBlock≠some tb
 lr:vL.ownBlock≠some rb
 lm:vL.ownBlock≠some mb
 li:vL.ownBlock≠some (A id)
 low:N≤x.heap.size
 len:log.length < 70000
 map:MapAt x mb A names
 rows:∀ c∈names,XZ x (A c)∧(A c=A id→c=id)
 offs:∀ c∈names,A c≠ab
 ia:A id≠ab
 it:A id≠tb
 ir:A id≠rb
 was:x.cell? (th (A id) 0)=some (.int .i64 cv)
 sz:x.heap.size=x0.heap.size
 old:∀ r,r≠ab→r≠A id→x.heap[r]? = x0.heap[r]?
 cl:∃ c0 t0,x0.heap[A id]? = some (.cells c0 t0 (0,0))∧x.heap[A id]? = some (.cells (c0.setIfInBounds 0 (.int .i64 cv)) t0 (0,0))
theorem set_same0 {ca:Array Value} {v:Value} (hv:ca[0]? = some v):ca.setIfInBounds 0 v=ca:=by
 apply Array.ext_getElem?;intro i
 by_cases e:0=i
 ·subst e
  obtain ⟨h1,h2⟩:=GE hv;rw [Array.getElem?_setIfInBounds_self_of_lt h1];exact hv.symm
 ·rw [Array.getElem?_setIfInBounds_ne e]
theorem Zh {w:World} {b r k i:Nat} {v:Value} (h:r≠b):(w.setCell (th b k) v).cell? (th r i)=w.cell? (th r i):=by
 simp only [World.cell?];rw [Xb h]
section
variable {x0 x:World} {tb rb ab mb N:Nat} {vT vL vW vR vF:Value} {stops:Bool} {A:Nat→Nat} {names:List Nat} {id:Nat} {log:List Xo} {e:Xo} {cv:Int}
theorem DoIn.fz (D:DoIn x0 x tb rb ab mb N vT vL vW vR vF stops A names id log e cv):x.frozen? (th (A id) 0)=false:=by
 obtain ⟨c0,t0,_,h⟩:=D.cl;exact Xe h 0
theorem DoIn.ne (D:DoIn x0 x tb rb ab mb N vT vL vW vR vF stops A names id log e cv):rb≠ab∧mb≠ab∧A id≠mb:=by
 obtain ⟨es,cl,e1,_⟩:=D.map;obtain ⟨c0,t0,_,h⟩:=D.cl;refine ⟨?_,?_,fun z=>?_⟩
 ·have h1:=D.obj;have h2:=D.box
  rintro rfl;rw [h1] at h2;simp at h2
 ·have h2:=D.box
  rintro rfl;rw [e1] at h2;simp at h2
 ·rw [z,e1] at h;simp at h
theorem DoIn.acc (D:DoIn x0 x tb rb ab mb N vT vL vW vR vF stops A names id log e cv) (k:Nat) (v:Value) (e':Xo) (h0:k≠0) (hk:(Yj e).toArray.setIfInBounds k v=(Yj e').toArray):DoIn x0 (x.setCell (th ab k) v) tb rb ab mb N vT vL vW vR vF stops A names id log e' cv:=by
 obtain ⟨n1,n2,n3⟩:=D.ne;have zo:∀ r,r≠ab→(x.setCell (th ab k) v).heap[r]? = x.heap[r]?:=fun r h=>Xb h;have hn:∀ b:Nat,th b 0≠th ab k:=fun b h=>h0 (congrArg Addr.off h).symm;obtain ⟨c0,t0,q1,q2⟩:=D.cl;exact { D with
  run:=Xi (hn tb) D.run
  obj:=(zo _ n1).trans D.obj
  rowL:=Xj D.rowL fun g h=>zo g fun z=>D.la (z ▸ h)
  box:=by rw [Xd D.box,hk]
  low:=by rw [Xh];exact D.low
  map:=D.map.heap (zo mb n2)
  rows:=fun c hc=>by
   obtain ⟨⟨ca,ta,h⟩,h2⟩:=D.rows c hc;exact ⟨⟨ca,ta,(zo _ (D.offs c hc)).trans h⟩,h2⟩
  was:=Xi (hn (A id)) D.was
  sz:=(Xh _ _ _).trans D.sz
  old:=fun r h1 h2=>(zo r h1).trans (D.old r h1 h2)
  cl:=⟨c0,t0,q1,(zo _ D.ia).trans q2⟩ }
theorem DoIn.set (D:DoIn x0 x tb rb ab mb N vT vL vW vR vF stops A names id log e cv) (v:Int):DoIn x0 (x.setCell (th (A id) 0) (.int .i64 v)) tb rb ab mb N vT vL vW vR vF stops A names id log e v:=by
 obtain ⟨n1,n2,n3⟩:=D.ne;have zo:∀ r,r≠A id→(x.setCell (th (A id) 0) (.int .i64 v)).heap[r]? = x.heap[r]?:=fun r h=>Xb h;obtain ⟨c0,t0,q1,q2⟩:=D.cl;have q3:(x.setCell (th (A id) 0) (.int .i64 v)).heap[A id]? = some (.cells (c0.setIfInBounds 0 (.int .i64 v)) t0 (0,0)):=by
  rw [Xd q2,Array.setIfInBounds_setIfInBounds]
 exact { D with
  run:=(Zh fun h=>D.it h.symm).trans D.run
  obj:=(zo _ fun h=>D.ir h.symm).trans D.obj
  rowL:=Xj D.rowL fun g h=>zo g fun z=>D.li (z ▸ h)
  box:=(zo _ fun h=>D.ia h.symm).trans D.box
  low:=by rw [Xh];exact D.low
  map:=D.map.heap (zo mb fun h=>n3 h.symm)
  rows:=fun c hc=>by
   obtain ⟨⟨ca,ta,h⟩,h2⟩:=D.rows c hc
   by_cases e2:A c=A id
   ·exact ⟨⟨_,_,by rw [e2];exact q3⟩,h2⟩
   ·exact ⟨⟨ca,ta,(zo _ e2).trans h⟩,h2⟩
  was:=by
   have h1:=(GE ((Xa q2 0).symm.trans D.was)).1;rw [Array.size_setIfInBounds] at h1;rw [Xa q3,Array.getElem?_setIfInBounds_self_of_lt h1]
  sz:=(Xh _ _ _).trans D.sz
  old:=fun r h1 h2=>(zo r h2).trans (D.old r h1 h2)
  cl:=⟨c0,t0,q1,q3⟩ }
end
section
variable {Post:Value→World→Prop} {C:Ctx} {x0 x:World} {c:Frame} {cs:List Frame} {tb rb ab mb N:Nat} {vT vL vW vR vF:Value} {stops:Bool} {num:Nat} {A:Nat→Nat} {names:List Nat} {id:Nat} {was arg new:Int} {log:List Xo}
theorem doEnd_J {a:Xo} {u2 u3 u4 u5 u6 u7 u8 u9 B0 B1 B2 B4 B5 B6 B7 B8 B9 D0 D1 D2 D3 D4 D5 D6 D7 D8 D9 E0 E1 E2 E3 E4 E5 E6 E7 E8 E9 G0 G1 G2 G3 G4 G5 G6 G7 G8 G9 H0 H4 H5 H6 H7 H8 H9 I1 I2 I3 I4 I5 I6 I7 I8 I9 J0 J1 J2 J4 J5 J6 J7 J8 J9 K0 K1 K2 K3 K4 K5 K6 K7 K8 K9 L0 L1 L2 L3 L4 L5 L6 L7 L8 L9 M0 M3 M4 M5 M6 M7 M8 M9 N0 N1 N5 N6 N7 N8 N9 O0 O1 O2 O3 O4 O5 O6 O7 O8 O9 R0 R1 R2 R3 R4 R5:Value} (D:DoIn x0 x tb rb ab mb N vT vL vW vR vF stops A names id log { a with now:=0 } a.now) (h:∀ y vL',YT x0 y rb ab mb N vT vL vL' vW vR vF stops A names id log a→JG Try.prog Post C (G (c.finish (.tuple #[.int .i64 a.was,.int .i64 a.now,.bool a.ok])) cs) y) :
 JG Try.prog Post C (G ((base 33).at ⟨List.toArray ((P0 tb)::(P0 (A id))::u2::u3::u4::u5::u6::u7::u8::u9::B0::B1::B2::(P0 ab)::B4::B5::B6::B7::B8::B9::D0::D1::D2::D3::D4::D5::D6::D7::D8::D9::E0::E1::E2::E3::E4::E5::E6::E7::E8::E9::G0::G1::G2::G3::G4::G5::G6::G7::G8::G9::H0::H4::H5::H6::H7::H8::H9::I1::I2::I3::I4::I5::I6::I7::I8::I9::J0::J1::J2::(P0 (A id))::J4::J5::J6::J7::J8::J9::K0::K1::K2::K3::K4::K5::K6::K7::K8::K9::L0::L1::L2::L3::L4::L5::L6::L7::L8::L9::M0::M3::M4::M5::M6::M7::M8::M9::N0::N1::N5::N6::N7::N8::N9::O0::O1::O2::O3::O4::O5::O6::O7::O8::O9::R0::R1::R2::R3::R4::R5::[]),[]⟩ [.inRegion (Code.opsOf (Code.from (Try.f33.body.getD .skip) 8)) [1,2,3],.code (Code.from (Try.f33.body.getD .skip) 9)]) (c::cs)) x:=by
 obtain ⟨n1,n2,n3⟩:=D.ne;obtain ⟨c0,t0,q1,q2⟩:=D.cl;refine Zb D.run D.obj D.rowL D.box D.la D.lt D.lr D.lm D.low D.len D.map ⟨_,_,q2⟩ D.rows D.offs D.ia D.was fun y vL' hS=>?_;refine h y vL' ⟨hS.obj,hS.log,?_,hS.map,by rw [← D.sz];exact hS.size,fun r e1 e2 e3 e4 e5 e6=>by rw [hS.old r (by rw [D.sz];exact e1) e2 e3 e4 e6,D.old r e3 e5],?_⟩
 ·rcases hS.lnew with h|⟨g,h,h'⟩
  ·exact .inl h
  ·exact .inr ⟨g,h,by rw [← D.sz];exact h'⟩
 ·rw [hS.old _ (GE q2).1 D.ir D.ia n3 fun e=>D.li e.symm,q2,Xd q1]
theorem Xd9 {u5 u6 u7 u8 u9 B0 B1 B2 B4 B5 B6 B7 B8 B9 D0 D1 D2 D3 D4 D5 D6 D7 D8 D9 E0 E1 E2 E3 E4 E5 E6 E7 E8 E9 G0 G1 G2 G3 G4 G5 G6 G7 G8 G9 H0 H4 H5 H6 H7 H8 H9 I1 I2 I3 I4 I5 I6 I7 I8 I9 J0 J1 J2 J3 J4 J5 J6 J7 J8 J9 K0 K1 K2 K3 K4 K5 K6 K7 K8 K9 L0 L1 L2 L3 L4 L5 L6 L7 L8 L9 M0 M3 M4 M5 M6 M7 M8 M9 N0 N1 N5 N6 N7 N8 N9 O0 O1 O2 O3 O4 O5 O6 O7 O8 O9 R0 R1 R2 R3 R4 R5:Value} (H:DoIn x x tb rb ab mb N vT vL vW vR vF stops A names id log ⟨num,1,-1,0,0,0,0,false⟩ was)
 (h:∀ y vL',YT x y rb ab mb N vT vL vL' vW vR vF stops A names id log ⟨num,1,-1,0,0,was,was,false⟩→JG Try.prog Post C (G (c.finish (.tuple #[.int .i64 was,.int .i64 (was),.bool (false)])) cs) y) :
 JG Try.prog Post C (G ((base 33).at ⟨List.toArray ((P0 tb)::(P0 (A id))::(.int .i8 1)::(.int .i64 0)::(.int .i64 0)::u5::u6::u7::u8::u9::B0::B1::B2::(P0 ab)::B4::B5::B6::B7::B8::B9::D0::D1::D2::D3::D4::D5::D6::D7::D8::D9::E0::E1::E2::E3::E4::E5::E6::E7::E8::E9::G0::G1::G2::G3::G4::G5::G6::G7::G8::G9::H0::H4::H5::H6::H7::H8::H9::I1::I2::I3::I4::I5::I6::I7::I8::I9::J0::J1::J2::J3::J4::J5::J6::J7::J8::J9::K0::K1::K2::K3::K4::K5::K6::K7::K8::K9::L0::L1::L2::L3::L4::L5::L6::L7::L8::L9::M0::M3::M4::M5::M6::M7::M8::M9::N0::N1::N5::N6::N7::N8::N9::O0::O1::O2::O3::O4::O5::O6::O7::O8::O9::R0::R1::R2::R3::R4::R5::[]),[]⟩ [.code (Code.from (Try.f33.body.getD .skip) 6)]) (c::cs)) x:=by
 have hend:=@doEnd_J Post C x;simp only [Try.f33,Option.getD_some,Code.from,Code.opsOf] at hend ⊢
 repeat refine kx ?_
 refine kf (args:=#[P0 (A id)]) Try.func34 ?_;refine Y1 H.was ?_;rw [Frame.finish_at];walk_nrm;have a5:x.cell? (th ab 5)=some (.int .i64 0):=Xa H.box 5
 repeat refine kx ?_
 refine kst (And.intro a5 (Xe H.box 5)) ?_;have D:=H.acc 5 (.int .i64 was) ⟨num,1,-1,0,0,was,0,false⟩ (by decide) rfl;clear a5 H;generalize x.setCell (th ab 5) (.int .i64 was)=z at D ⊢
 repeat refine kx ?_
 exact hend (a:=⟨num,1,-1,0,0,was,was,false⟩) D h
theorem Xd8 {u5 u6 u7 u8 u9 B0 B1 B2 B4 B5 B6 B7 B8 B9 D0 D1 D2 D3 D4 D5 D6 D7 D8 D9 E0 E1 E2 E3 E4 E5 E6 E7 E8 E9 G0 G1 G2 G3 G4 G5 G6 G7 G8 G9 H0 H4 H5 H6 H7 H8 H9 I1 I2 I3 I4 I5 I6 I7 I8 I9 J0 J1 J2 J3 J4 J5 J6 J7 J8 J9 K0 K1 K2 K3 K4 K5 K6 K7 K8 K9 L0 L1 L2 L3 L4 L5 L6 L7 L8 L9 M0 M3 M4 M5 M6 M7 M8 M9 N0 N1 N5 N6 N7 N8 N9 O0 O1 O2 O3 O4 O5 O6 O7 O8 O9 R0 R1 R2 R3 R4 R5:Value} (H:DoIn x x tb rb ab mb N vT vL vW vR vF stops A names id log ⟨num,6,-1,arg,0,0,0,false⟩ was)
 (h:∀ y vL',YT x y rb ab mb N vT vL vL' vW vR vF stops A names id log ⟨num,6,-1,arg,0,was,was,false⟩→JG Try.prog Post C (G (c.finish (.tuple #[.int .i64 was,.int .i64 (was),.bool (false)])) cs) y) :
 JG Try.prog Post C (G ((base 33).at ⟨List.toArray ((P0 tb)::(P0 (A id))::(.int .i8 6)::(.int .i64 arg)::(.int .i64 0)::u5::u6::u7::u8::u9::B0::B1::B2::(P0 ab)::B4::B5::B6::B7::B8::B9::D0::D1::D2::D3::D4::D5::D6::D7::D8::D9::E0::E1::E2::E3::E4::E5::E6::E7::E8::E9::G0::G1::G2::G3::G4::G5::G6::G7::G8::G9::H0::H4::H5::H6::H7::H8::H9::I1::I2::I3::I4::I5::I6::I7::I8::I9::J0::J1::J2::J3::J4::J5::J6::J7::J8::J9::K0::K1::K2::K3::K4::K5::K6::K7::K8::K9::L0::L1::L2::L3::L4::L5::L6::L7::L8::L9::M0::M3::M4::M5::M6::M7::M8::M9::N0::N1::N5::N6::N7::N8::N9::O0::O1::O2::O3::O4::O5::O6::O7::O8::O9::R0::R1::R2::R3::R4::R5::[]),[]⟩ [.code (Code.from (Try.f33.body.getD .skip) 6)]) (c::cs)) x:=by
 have hend:=@doEnd_J Post C x;simp only [Try.f33,Option.getD_some,Code.from,Code.opsOf] at hend ⊢
 repeat refine kx ?_
 refine kf (args:=#[P0 (A id)]) Try.func34 ?_;refine Y1 H.was ?_;rw [Frame.finish_at];walk_nrm;have a5:x.cell? (th ab 5)=some (.int .i64 0):=Xa H.box 5
 repeat refine kx ?_
 refine kst (And.intro a5 (Xe H.box 5)) ?_;have D:=H.acc 5 (.int .i64 was) ⟨num,6,-1,arg,0,was,0,false⟩ (by decide) rfl;clear a5 H;generalize x.setCell (th ab 5) (.int .i64 was)=z at D ⊢
 repeat refine kx ?_
 exact hend (a:=⟨num,6,-1,arg,0,was,was,false⟩) D h
theorem Xdc {u5 u6 u7 u8 u9 B0 B1 B2 B4 B5 B6 B7 B8 B9 D0 D1 D2 D3 D4 D5 D6 D7 D8 D9 E0 E1 E2 E3 E4 E5 E6 E7 E8 E9 G0 G1 G2 G3 G4 G5 G6 G7 G8 G9 H0 H4 H5 H6 H7 H8 H9 I1 I2 I3 I4 I5 I6 I7 I8 I9 J0 J1 J2 J3 J4 J5 J6 J7 J8 J9 K0 K1 K2 K3 K4 K5 K6 K7 K8 K9 L0 L1 L2 L3 L4 L5 L6 L7 L8 L9 M0 M3 M4 M5 M6 M7 M8 M9 N0 N1 N5 N6 N7 N8 N9 O0 O1 O2 O3 O4 O5 O6 O7 O8 O9 R0 R1 R2 R3 R4 R5:Value} (H:DoIn x x tb rb ab mb N vT vL vW vR vF stops A names id log ⟨num,2,-1,arg,0,0,0,false⟩ was)
 (h:∀ y vL',YT x y rb ab mb N vT vL vL' vW vR vF stops A names id log ⟨num,2,-1,arg,0,was,arg,false⟩→JG Try.prog Post C (G (c.finish (.tuple #[.int .i64 was,.int .i64 (arg),.bool (false)])) cs) y) :
 JG Try.prog Post C (G ((base 33).at ⟨List.toArray ((P0 tb)::(P0 (A id))::(.int .i8 2)::(.int .i64 arg)::(.int .i64 0)::u5::u6::u7::u8::u9::B0::B1::B2::(P0 ab)::B4::B5::B6::B7::B8::B9::D0::D1::D2::D3::D4::D5::D6::D7::D8::D9::E0::E1::E2::E3::E4::E5::E6::E7::E8::E9::G0::G1::G2::G3::G4::G5::G6::G7::G8::G9::H0::H4::H5::H6::H7::H8::H9::I1::I2::I3::I4::I5::I6::I7::I8::I9::J0::J1::J2::J3::J4::J5::J6::J7::J8::J9::K0::K1::K2::K3::K4::K5::K6::K7::K8::K9::L0::L1::L2::L3::L4::L5::L6::L7::L8::L9::M0::M3::M4::M5::M6::M7::M8::M9::N0::N1::N5::N6::N7::N8::N9::O0::O1::O2::O3::O4::O5::O6::O7::O8::O9::R0::R1::R2::R3::R4::R5::[]),[]⟩ [.code (Code.from (Try.f33.body.getD .skip) 6)]) (c::cs)) x:=by
 have hend:=@doEnd_J Post C x;simp only [Try.f33,Option.getD_some,Code.from,Code.opsOf] at hend ⊢
 repeat refine kx ?_
 refine kf (args:=#[P0 (A id)]) Try.func34 ?_;refine Y1 H.was ?_;rw [Frame.finish_at];walk_nrm;have a5:x.cell? (th ab 5)=some (.int .i64 0):=Xa H.box 5
 repeat refine kx ?_
 refine kst (And.intro a5 (Xe H.box 5)) ?_;have D:=H.acc 5 (.int .i64 was) ⟨num,2,-1,arg,0,was,0,false⟩ (by decide) rfl;clear a5 H;generalize x.setCell (th ab 5) (.int .i64 was)=z at D ⊢
 repeat refine kx ?_
 refine kf (args:=#[P0 (A id),.int .i64 arg]) Try.func27 ?_;refine VQ D.was D.fz ?_;rw [Frame.finish_at];walk_nrm;replace D:=D.set (arg);generalize z.setCell (th (A id) 0) (.int .i64 (arg))=w at D ⊢
 repeat refine kx ?_
 exact hend (a:=⟨num,2,-1,arg,0,was,arg,false⟩) D h
theorem Xd7 {u5 u6 u7 u8 u9 B0 B1 B2 B4 B5 B6 B7 B8 B9 D0 D1 D2 D3 D4 D5 D6 D7 D8 D9 E0 E1 E2 E3 E4 E5 E6 E7 E8 E9 G0 G1 G2 G3 G4 G5 G6 G7 G8 G9 H0 H4 H5 H6 H7 H8 H9 I1 I2 I3 I4 I5 I6 I7 I8 I9 J0 J1 J2 J3 J4 J5 J6 J7 J8 J9 K0 K1 K2 K3 K4 K5 K6 K7 K8 K9 L0 L1 L2 L3 L4 L5 L6 L7 L8 L9 M0 M3 M4 M5 M6 M7 M8 M9 N0 N1 N5 N6 N7 N8 N9 O0 O1 O2 O3 O4 O5 O6 O7 O8 O9 R0 R1 R2 R3 R4 R5:Value} (H:DoIn x x tb rb ab mb N vT vL vW vR vF stops A names id log ⟨num,5,-1,arg,0,0,0,false⟩ was)
 (h:∀ y vL',YT x y rb ab mb N vT vL vL' vW vR vF stops A names id log ⟨num,5,-1,arg,0,was,arg,false⟩→JG Try.prog Post C (G (c.finish (.tuple #[.int .i64 was,.int .i64 (arg),.bool (false)])) cs) y) :
 JG Try.prog Post C (G ((base 33).at ⟨List.toArray ((P0 tb)::(P0 (A id))::(.int .i8 5)::(.int .i64 arg)::(.int .i64 0)::u5::u6::u7::u8::u9::B0::B1::B2::(P0 ab)::B4::B5::B6::B7::B8::B9::D0::D1::D2::D3::D4::D5::D6::D7::D8::D9::E0::E1::E2::E3::E4::E5::E6::E7::E8::E9::G0::G1::G2::G3::G4::G5::G6::G7::G8::G9::H0::H4::H5::H6::H7::H8::H9::I1::I2::I3::I4::I5::I6::I7::I8::I9::J0::J1::J2::J3::J4::J5::J6::J7::J8::J9::K0::K1::K2::K3::K4::K5::K6::K7::K8::K9::L0::L1::L2::L3::L4::L5::L6::L7::L8::L9::M0::M3::M4::M5::M6::M7::M8::M9::N0::N1::N5::N6::N7::N8::N9::O0::O1::O2::O3::O4::O5::O6::O7::O8::O9::R0::R1::R2::R3::R4::R5::[]),[]⟩ [.code (Code.from (Try.f33.body.getD .skip) 6)]) (c::cs)) x:=by
 have hend:=@doEnd_J Post C x;simp only [Try.f33,Option.getD_some,Code.from,Code.opsOf] at hend ⊢
 repeat refine kx ?_
 refine kf (args:=#[P0 (A id)]) Try.func34 ?_;refine Y1 H.was ?_;rw [Frame.finish_at];walk_nrm;have a5:x.cell? (th ab 5)=some (.int .i64 0):=Xa H.box 5
 repeat refine kx ?_
 refine kst (And.intro a5 (Xe H.box 5)) ?_;have D:=H.acc 5 (.int .i64 was) ⟨num,5,-1,arg,0,was,0,false⟩ (by decide) rfl;clear a5 H;generalize x.setCell (th ab 5) (.int .i64 was)=z at D ⊢
 repeat refine kx ?_
 refine kf (args:=#[P0 (A id),.int .i64 arg]) Try.func27 ?_;refine VQ D.was D.fz ?_;rw [Frame.finish_at];walk_nrm;replace D:=D.set (arg);generalize z.setCell (th (A id) 0) (.int .i64 (arg))=w at D ⊢
 repeat refine kx ?_
 exact hend (a:=⟨num,5,-1,arg,0,was,arg,false⟩) D h
theorem Xfq {u5 u6 u7 u8 u9 B0 B1 B2 B4 B5 B6 B7 B8 B9 D0 D1 D2 D3 D4 D5 D6 D7 D8 D9 E0 E1 E2 E3 E4 E5 E6 E7 E8 E9 G0 G1 G2 G3 G4 G5 G6 G7 G8 G9 H0 H4 H5 H6 H7 H8 H9 I1 I2 I3 I4 I5 I6 I7 I8 I9 J0 J1 J2 J3 J4 J5 J6 J7 J8 J9 K0 K1 K2 K3 K4 K5 K6 K7 K8 K9 L0 L1 L2 L3 L4 L5 L6 L7 L8 L9 M0 M3 M4 M5 M6 M7 M8 M9 N0 N1 N5 N6 N7 N8 N9 O0 O1 O2 O3 O4 O5 O6 O7 O8 O9 R0 R1 R2 R3 R4 R5:Value} (H:DoIn x x tb rb ab mb N vT vL vW vR vF stops A names id log ⟨num,4,-1,arg,0,0,0,false⟩ was)
 (h:∀ y vL',YT x y rb ab mb N vT vL vL' vW vR vF stops A names id log ⟨num,4,-1,arg,0,was,wrap64 (was + arg),false⟩→JG Try.prog Post C (G (c.finish (.tuple #[.int .i64 was,.int .i64 (wrap64 (was + arg)),.bool (false)])) cs) y) :
 JG Try.prog Post C (G ((base 33).at ⟨List.toArray ((P0 tb)::(P0 (A id))::(.int .i8 4)::(.int .i64 arg)::(.int .i64 0)::u5::u6::u7::u8::u9::B0::B1::B2::(P0 ab)::B4::B5::B6::B7::B8::B9::D0::D1::D2::D3::D4::D5::D6::D7::D8::D9::E0::E1::E2::E3::E4::E5::E6::E7::E8::E9::G0::G1::G2::G3::G4::G5::G6::G7::G8::G9::H0::H4::H5::H6::H7::H8::H9::I1::I2::I3::I4::I5::I6::I7::I8::I9::J0::J1::J2::J3::J4::J5::J6::J7::J8::J9::K0::K1::K2::K3::K4::K5::K6::K7::K8::K9::L0::L1::L2::L3::L4::L5::L6::L7::L8::L9::M0::M3::M4::M5::M6::M7::M8::M9::N0::N1::N5::N6::N7::N8::N9::O0::O1::O2::O3::O4::O5::O6::O7::O8::O9::R0::R1::R2::R3::R4::R5::[]),[]⟩ [.code (Code.from (Try.f33.body.getD .skip) 6)]) (c::cs)) x:=by
 have hend:=@doEnd_J Post C x;simp only [Try.f33,Option.getD_some,Code.from,Code.opsOf] at hend ⊢
 repeat refine kx ?_
 refine kf (args:=#[P0 (A id)]) Try.func34 ?_;refine Y1 H.was ?_;rw [Frame.finish_at];walk_nrm;have a5:x.cell? (th ab 5)=some (.int .i64 0):=Xa H.box 5
 repeat refine kx ?_
 refine kst (And.intro a5 (Xe H.box 5)) ?_;have D:=H.acc 5 (.int .i64 was) ⟨num,4,-1,arg,0,was,0,false⟩ (by decide) rfl;clear a5 H;generalize x.setCell (th ab 5) (.int .i64 was)=z at D ⊢
 repeat refine kx ?_
 refine kf (args:=#[P0 (A id),.int .i64 arg]) Try.func45 ?_;refine Xf1 D.was D.fz ?_;rw [Frame.finish_at];walk_nrm;replace D:=D.set (wrap64 (was + arg));generalize z.setCell (th (A id) 0) (.int .i64 (wrap64 (was + arg)))=w at D ⊢
 repeat refine kx ?_
 exact hend (a:=⟨num,4,-1,arg,0,was,wrap64 (was + arg),false⟩) D h
theorem Xea {u5 u6 u7 u8 u9 B0 B1 B2 B4 B5 B6 B7 B8 B9 D0 D1 D2 D3 D4 D5 D6 D7 D8 D9 E0 E1 E2 E3 E4 E5 E6 E7 E8 E9 G0 G1 G2 G3 G4 G5 G6 G7 G8 G9 H0 H4 H5 H6 H7 H8 H9 I1 I2 I3 I4 I5 I6 I7 I8 I9 J0 J1 J2 J3 J4 J5 J6 J7 J8 J9 K0 K1 K2 K3 K4 K5 K6 K7 K8 K9 L0 L1 L2 L3 L4 L5 L6 L7 L8 L9 M0 M3 M4 M5 M6 M7 M8 M9 N0 N1 N5 N6 N7 N8 N9 O0 O1 O2 O3 O4 O5 O6 O7 O8 O9 R0 R1 R2 R3 R4 R5:Value} (H:DoIn x x tb rb ab mb N vT vL vW vR vF stops A names id log ⟨num,3,-1,arg,new,0,0,false⟩ was) (he:was=arg)
 (h:∀ y vL',YT x y rb ab mb N vT vL vL' vW vR vF stops A names id log ⟨num,3,-1,arg,new,was,new,true⟩→JG Try.prog Post C (G (c.finish (.tuple #[.int .i64 was,.int .i64 (new),.bool (true)])) cs) y) :
 JG Try.prog Post C (G ((base 33).at ⟨List.toArray ((P0 tb)::(P0 (A id))::(.int .i8 3)::(.int .i64 arg)::(.int .i64 new)::u5::u6::u7::u8::u9::B0::B1::B2::(P0 ab)::B4::B5::B6::B7::B8::B9::D0::D1::D2::D3::D4::D5::D6::D7::D8::D9::E0::E1::E2::E3::E4::E5::E6::E7::E8::E9::G0::G1::G2::G3::G4::G5::G6::G7::G8::G9::H0::H4::H5::H6::H7::H8::H9::I1::I2::I3::I4::I5::I6::I7::I8::I9::J0::J1::J2::J3::J4::J5::J6::J7::J8::J9::K0::K1::K2::K3::K4::K5::K6::K7::K8::K9::L0::L1::L2::L3::L4::L5::L6::L7::L8::L9::M0::M3::M4::M5::M6::M7::M8::M9::N0::N1::N5::N6::N7::N8::N9::O0::O1::O2::O3::O4::O5::O6::O7::O8::O9::R0::R1::R2::R3::R4::R5::[]),[]⟩ [.code (Code.from (Try.f33.body.getD .skip) 6)]) (c::cs)) x:=by
 replace he:=HD he;have hend:=@doEnd_J Post C x;simp only [Try.f33,Option.getD_some,Code.from,Code.opsOf] at hend ⊢
 repeat refine kx ?_
 refine kf (args:=#[P0 (A id)]) Try.func34 ?_;refine Y1 H.was ?_;rw [Frame.finish_at];walk_nrm;have a5:x.cell? (th ab 5)=some (.int .i64 0):=Xa H.box 5
 repeat refine kx ?_
 refine kst (And.intro a5 (Xe H.box 5)) ?_;have D:=H.acc 5 (.int .i64 was) ⟨num,3,-1,arg,new,was,0,false⟩ (by decide) rfl;clear a5 H;generalize x.setCell (th ab 5) (.int .i64 was)=z at D ⊢
 repeat refine kx ?_
 refine kf (args:=#[P0 (A id),.int .i64 arg,.int .i64 new]) Try.func41 ?_;refine XcT D.was D.fz ?_;rw [Frame.finish_at];walk_nrm;rw [if_pos he.out,decide_eq_true he.out];replace D:=D.set (new);generalize z.setCell (th (A id) 0) (.int .i64 (new))=w at D ⊢;have b7:w.cell? (th ab 7)=some (.bool false):=Xa D.box 7
 repeat refine kx ?_
 refine kst (And.intro b7 (Xe D.box 7)) ?_;replace D:=D.acc 7 (.bool true) ⟨num,3,-1,arg,new,was,0,true⟩ (by decide) rfl;clear b7;generalize w.setCell (th ab 7) (.bool true)=v at D ⊢
 repeat refine kx ?_
 exact hend (a:=⟨num,3,-1,arg,new,was,new,true⟩) D h
theorem Xeb {u5 u6 u7 u8 u9 B0 B1 B2 B4 B5 B6 B7 B8 B9 D0 D1 D2 D3 D4 D5 D6 D7 D8 D9 E0 E1 E2 E3 E4 E5 E6 E7 E8 E9 G0 G1 G2 G3 G4 G5 G6 G7 G8 G9 H0 H4 H5 H6 H7 H8 H9 I1 I2 I3 I4 I5 I6 I7 I8 I9 J0 J1 J2 J3 J4 J5 J6 J7 J8 J9 K0 K1 K2 K3 K4 K5 K6 K7 K8 K9 L0 L1 L2 L3 L4 L5 L6 L7 L8 L9 M0 M3 M4 M5 M6 M7 M8 M9 N0 N1 N5 N6 N7 N8 N9 O0 O1 O2 O3 O4 O5 O6 O7 O8 O9 R0 R1 R2 R3 R4 R5:Value} (H:DoIn x x tb rb ab mb N vT vL vW vR vF stops A names id log ⟨num,3,-1,arg,new,0,0,false⟩ was) (he:was≠arg)
 (h:∀ y vL',YT x y rb ab mb N vT vL vL' vW vR vF stops A names id log ⟨num,3,-1,arg,new,was,was,false⟩→JG Try.prog Post C (G (c.finish (.tuple #[.int .i64 was,.int .i64 (was),.bool (false)])) cs) y) :
 JG Try.prog Post C (G ((base 33).at ⟨List.toArray ((P0 tb)::(P0 (A id))::(.int .i8 3)::(.int .i64 arg)::(.int .i64 new)::u5::u6::u7::u8::u9::B0::B1::B2::(P0 ab)::B4::B5::B6::B7::B8::B9::D0::D1::D2::D3::D4::D5::D6::D7::D8::D9::E0::E1::E2::E3::E4::E5::E6::E7::E8::E9::G0::G1::G2::G3::G4::G5::G6::G7::G8::G9::H0::H4::H5::H6::H7::H8::H9::I1::I2::I3::I4::I5::I6::I7::I8::I9::J0::J1::J2::J3::J4::J5::J6::J7::J8::J9::K0::K1::K2::K3::K4::K5::K6::K7::K8::K9::L0::L1::L2::L3::L4::L5::L6::L7::L8::L9::M0::M3::M4::M5::M6::M7::M8::M9::N0::N1::N5::N6::N7::N8::N9::O0::O1::O2::O3::O4::O5::O6::O7::O8::O9::R0::R1::R2::R3::R4::R5::[]),[]⟩ [.code (Code.from (Try.f33.body.getD .skip) 6)]) (c::cs)) x:=by
 replace he:=HD he;have hend:=@doEnd_J Post C x;simp only [Try.f33,Option.getD_some,Code.from,Code.opsOf] at hend ⊢
 repeat refine kx ?_
 refine kf (args:=#[P0 (A id)]) Try.func34 ?_;refine Y1 H.was ?_;rw [Frame.finish_at];walk_nrm;have a5:x.cell? (th ab 5)=some (.int .i64 0):=Xa H.box 5
 repeat refine kx ?_
 refine kst (And.intro a5 (Xe H.box 5)) ?_;have D:=H.acc 5 (.int .i64 was) ⟨num,3,-1,arg,new,was,0,false⟩ (by decide) rfl;clear a5 H;generalize x.setCell (th ab 5) (.int .i64 was)=z at D ⊢
 repeat refine kx ?_
 refine kf (args:=#[P0 (A id),.int .i64 arg,.int .i64 new]) Try.func41 ?_;refine XcT D.was D.fz ?_;rw [Frame.finish_at];walk_nrm;rw [if_neg he.out,decide_eq_false he.out];have b7:z.cell? (th ab 7)=some (.bool false):=Xa D.box 7
 repeat refine kx ?_
 refine kst (And.intro b7 (Xe D.box 7)) ?_;replace D:=D.acc 7 (.bool false) ⟨num,3,-1,arg,new,was,0,false⟩ (by decide) rfl;clear b7;generalize z.setCell (th ab 7) (.bool false)=v at D ⊢
 repeat refine kx ?_
 exact hend (a:=⟨num,3,-1,arg,new,was,was,false⟩) D h
