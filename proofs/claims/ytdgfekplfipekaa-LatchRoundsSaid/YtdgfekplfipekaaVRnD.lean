/- An access: gate's Step, said of whoever holds: the token is given away; let go again, the access is done and listed. -/
import Derived.Test.YtdgfekplfipekaaVGtK
import Derived.Test.YtdgfekplfipekaaVGtO
set_option linter.all false
set_option maxRecDepth 100000
set_option maxHeartbeats 16000000
namespace Go.Proofs.Ytdgfekplfipekaa
open Go.Conc Go.RowKit
open Go.ConcN (upd upd_same upd_ne)
def Code.opsOf:Code→Array Oper
 | .seq (.region _ ops _) _=>ops
 | _=>#[]
theorem Vp:(Try.prog.info? 89).map (fun i=>(i.zero,i.size,i.bytes))=some (some (.agg #[.int .i64 0,.int .i8 0,.int .i64 0,.int .i64 0,.int .i64 0,.int .i64 0,.int .i64 0,.bool false]),8,64):=by kernel_rfl
theorem Xb1 (Post:Value→World→Prop) (C:Ctx) (x:World) (c:Frame) (cs:List Frame) (ab:Nat) (a:Xo) (u0 u1 u2 u3 u4 u5 u6 u7 u8 u9 B0 B1 B2 B4 B5 B6 B7 B8 B9 D0 D1 D2 D3 D4 D5 D6 D7 D8 D9 E0 E1 E2 E3 E4 E5 E6 E7 E8 E9 G0 G1 G2 G3 G4 G5 G6 G7 G8 G9 H0 H4 H5 H6 H7 H8 H9 I1 I2 I3 I4 I5 I6 I7 I8 I9 J0 J1 J2 J3 J4 J5 J6 J7 J8 J9 K0 K1 K2 K3 K4 K5 K6 K7 K8 K9 L0 L1 L2 L3 L4 L5 L6 L7 L8 L9 M0 M3 M4 M5 M6 M7 M8 M9 N0 N1 N5 N6 N7 N8 N9 O0 O1 O2 O3 O4 O5 O6 O7 O8 O9 R0 R1 R2 R3 R4 R5:Value) (hab:x.heap[ab]? = some (.cells (Yj a).toArray 89 (0,0))) (h:JG Try.prog Post C (G (c.finish (.tuple #[.int .i64 a.was,.int .i64 a.now,.bool a.ok])) cs) x) :
 JG Try.prog Post C (G ((base 33).at ⟨List.toArray (u0::u1::u2::u3::u4::u5::u6::u7::u8::u9::B0::B1::B2::(P0 ab)::B4::B5::B6::B7::B8::B9::D0::D1::D2::D3::D4::D5::D6::D7::D8::D9::E0::E1::E2::E3::E4::E5::E6::E7::E8::E9::G0::G1::G2::G3::G4::G5::G6::G7::G8::G9::H0::H4::H5::H6::H7::H8::H9::I1::I2::I3::I4::I5::I6::I7::I8::I9::J0::J1::J2::J3::J4::J5::J6::J7::J8::J9::K0::K1::K2::K3::K4::K5::K6::K7::K8::K9::L0::L1::L2::L3::L4::L5::L6::L7::L8::L9::M0::M3::M4::M5::M6::M7::M8::M9::N0::N1::N5::N6::N7::N8::N9::O0::O1::O2::O3::O4::O5::O6::O7::O8::O9::R0::R1::R2::R3::R4::R5::[]),[]⟩ [.code (Code.from (Try.f33.body.getD .skip) 13)]) (c::cs)) x:=by
 simp only [Try.f33,Option.getD_some,Code.from]
 repeat first|refine JG.seq ?_|refine JG.skip ?_|refine JG.inBlock ?_|refine JG.block ?_|refine JG.done ?_|refine JG.label ?_
 refine JG.code (XO _) (by kernel_rfl) rfl (.inr (by kernel_rfl)) rfl (fun K R hK hR τ=>?_);replace hK:=HD hK;clear hR;have a5:(under x τ 0).cell? (th ab 5)=some (.int .i64 a.was):=Xa hab 5;have a6:(under x τ 0).cell? (th ab 6)=some (.int .i64 a.now):=Xa hab 6;have a7:(under x τ 0).cell? (th ab 7)=some (.bool a.ok):=Xa hab 7
 go_region
 all_goals (
  refine hK.out _ _ (jt (x:=x) (τ:=τ) (d:=1) ?_);clear hK a5 a6 a7 K
  try walk_nrm
  repeat first|refine JG.seq ?_|refine JG.skip ?_|refine JG.inBlock ?_|refine JG.block ?_|refine JG.done ?_|refine JG.label ?_
  refine JG.ret ?_;exact JG.leave rfl rfl Try.func33 (fun τ d=>results_tmp3 (t:=10) (u:=11) (v:=12) rfl _ _ _) h)
section
variable {Post:Value→World→Prop} {C:Ctx} {x:World} {c:Frame} {cs:List Frame} {tb rb ab mb N:Nat} {vT vM vL vW vR vF:Value} {stops:Bool} {a:Xo} {n:Int} {log:List Xo}
theorem Xb3 {u1 u2 u3 u4 u5 u6 u7 u8 u9 B0 B1 B2 B4 B5 B6 B7 B8 B9 D0 D1 D2 D3 D4 D5 D6 D7 D8 D9 E0 E1 E2 E3 E4 E5 E6 E7 E8 E9 G0 G1 G2 G3 G4 G5 G6 G7 G8 G9 H0 H4 H5 H6 H7 H8 H9 I1 I2 I3 I4 I5 I6 I7 I8 I9 J0 J1 J2 J3 J4 J5 J6 J7 J8 J9 K0 K1 K2 K3 K4 K5 K6 K7 K8 K9 L0 L1 L2 L3 L4 L5 L6 L7 L8 L9 M0 M3 M4 M5 M6 M7 M8 N1 N5 N6 N7 N8 N9 O0 O1 O2 O3 O4 O5 O6 O7 O8 O9 R0 R1 R2 R3 R4 R5:Value} (h0:x.cell? (th tb 0)=some (P0 rb)) (hr:x.heap[rb]? = some (.cells (XH vT vM vL vW vR vF stops) 85 (0,0))) (hL:x.ownsRow N 89 8 vL log.length (log.flatMap Yj))
 (hab:x.heap[ab]? = some (.cells (Yj a).toArray 89 (0,0))) (hLa:vL.ownBlock≠some ab) (hLt:vL.ownBlock≠some tb) (hLr:vL.ownBlock≠some rb) (hN:N≤x.heap.size) (hlen:log.length < 70000)
 (h:∀ y vL',y.heap[rb]? = some (.cells (XH vT vM vL' vW vR vF stops) 85 (0,0))→y.ownsRow N 89 8 vL' (log.length + 1) ((log ++ [{ a with cell:=n }]).flatMap Yj)→(vL'.ownBlock=vL.ownBlock∨∃ g,vL'.ownBlock=some g∧x.heap.size≤g) →
   x.heap.size≤y.heap.size→(∀ r,r < x.heap.size→r≠rb→r≠ab→some r≠vL.ownBlock→y.heap[r]? = x.heap[r]?)→JG Try.prog Post C (G (c.finish (.tuple #[.int .i64 a.was,.int .i64 a.now,.bool a.ok])) cs) y) :
 JG Try.prog Post C (G ((base 33).at ⟨List.toArray ((P0 tb)::u1::u2::u3::u4::u5::u6::u7::u8::u9::B0::B1::B2::(P0 ab)::B4::B5::B6::B7::B8::B9::D0::D1::D2::D3::D4::D5::D6::D7::D8::D9::E0::E1::E2::E3::E4::E5::E6::E7::E8::E9::G0::G1::G2::G3::G4::G5::G6::G7::G8::G9::H0::H4::H5::H6::H7::H8::H9::I1::I2::I3::I4::I5::I6::I7::I8::I9::J0::J1::J2::J3::J4::J5::J6::J7::J8::J9::K0::K1::K2::K3::K4::K5::K6::K7::K8::K9::L0::L1::L2::L3::L4::L5::L6::L7::L8::L9::M0::M3::M4::M5::M6::M7::M8::(.int .i64 n)::(.pointer (some (th ab 2)))::N1::N5::N6::N7::N8::N9::O0::O1::O2::O3::O4::O5::O6::O7::O8::O9::R0::R1::R2::R3::R4::R5::[]),[]⟩ [.inRegion (Code.opsOf (Code.from (Try.f33.body.getD .skip) 11)) [2],.code (Code.from (Try.f33.body.getD .skip) 12)]) (c::cs)) x:=by
 have hret:=Xb1 Post C;simp only [Try.f33,Option.getD_some,Code.from,Code.opsOf] at hret ⊢;replace hret:=HD hret;have a2:x.cell? (th ab 2)=some (.int .i64 a.cell):=Xa hab 2;have f2:x.frozen? (th ab 2)=false:=Xe hab 2;refine kst (And.intro a2 f2) ?_;clear a2 f2;have gra:rb≠ab:=by rintro rfl;rw [hr] at hab;simp at hab
 have gta:tb≠ab:=by
  rintro rfl;rw [Xa hab] at h0;simp [Yj] at h0
 have z0:(x.setCell (th ab 2) (.int .i64 n)).cell? (th tb 0)=some (P0 rb):=Xi (by simp [th]) h0;have zr:=(Xb (w:=x) (k:=2) (v:=.int .i64 n) gra).trans hr;have za:(x.setCell (th ab 2) (.int .i64 n)).heap[ab]? = some (.cells #[.int .i64 a.thread,.int .i8 a.op,.int .i64 n,.int .i64 a.arg,.int .i64 a.new,.int .i64 a.was,.int .i64 a.now,.bool a.ok] 89 (0,0)):=by
  rw [Xd hab];rfl
 have zL:=Xj (w':=x.setCell (th ab 2) (.int .i64 n)) hL (fun g e=>Xb (fun z=>hLa (z ▸ e)));have zs:=Xh x (th ab 2) (.int .i64 n);have zo:∀ r,r≠ab→(x.setCell (th ab 2) (.int .i64 n)).heap[r]? = x.heap[r]?:=fun r h=>Xb h;generalize x.setCell (th ab 2) (.int .i64 n)=z at z0 zr za zL zs zo ⊢;clear h0 hr hab;obtain ⟨i0,hi0,hz0,hz1,hz2⟩:=XM Vp
 repeat first|refine JG.seq ?_|refine JG.skip ?_|refine JG.inBlock ?_|refine JG.block ?_|refine JG.done ?_|refine JG.label ?_
 refine JG.code (XO _) (by kernel_rfl) rfl (.inr (by kernel_rfl)) rfl (fun K R hK hR τ=>?_);replace hK:=HD hK;clear hR;replace h:=HD h;obtain ⟨y,hy⟩:∃ y,y=under z τ 0:=⟨_,rfl⟩
 have hyh:y.heap=z.heap:=by rw [hy];rfl
 rw [← hy];rw [← hyh] at za zr;have k0:y.cell? (th rb 2)=some vL:=Xa zr 2;have f0:y.frozen? (th rb 2)=false:=Xe zr 2;have k1:y.cell? (th tb 0)=some (P0 rb):=by rw [hy];exact z0
 have a0:y.cell? (th ab 0)=some (.int .i64 a.thread):=Xa za 0;have a1:y.cell? (th ab 1)=some (.int .i8 a.op):=Xa za 1;have a2:y.cell? (th ab 2)=some (.int .i64 n):=Xa za 2;have a3:y.cell? (th ab 3)=some (.int .i64 a.arg):=Xa za 3;have a4:y.cell? (th ab 4)=some (.int .i64 a.new):=Xa za 4;have a5:y.cell? (th ab 5)=some (.int .i64 a.was):=Xa za 5;have a6:y.cell? (th ab 6)=some (.int .i64 a.now):=Xa za 6;have a7:y.cell? (th ab 7)=some (.bool a.ok):=Xa za 7;have HOT:Hid (((y.alloc (.cells #[.int .i64 a.thread,.int .i8 a.op,.int .i64 n,.int .i64 a.arg,.int .i64 a.new,.int .i64 a.was,.int .i64 a.now,.bool a.ok] 89)).drew).ownsRow N 89 8 vL log.length (log.flatMap Yj)):=HD (((by rw [hy];exact zL:y.ownsRow N 89 8 vL log.length (log.flatMap Yj)).alloc _).drew);have hN':N≤y.heap.size:=by rw [hyh];omega
 have e0:rb < y.heap.size:=Xt k0;have e1:rb < y.heap.size + 1:=by omega
 have e2:tb < y.heap.size:=Xt k1;have e3:tb < y.heap.size + 1:=by omega
 have e4:ab < y.heap.size:=Xt a0;have e5:ab < y.heap.size + 1:=by omega
 have HY:=HD hyh;have HR:=HD zr;have HA:=HD za;have HZ:=HD zs;have HO0:=HD zo;clear hy hyh zr za z0 zL hL hN zs zo;have m1:Hid (log.length + 1≤maxLen):=HD (by unfold maxLen;omega);have m2:Hid ((log.length + 1) * 64≤140737488355328):=HD (by omega)
 go_region_law (first
  | (refine step_append_lies _ (by rfl) _ _ _ (by rfl) N 89 i0 _ 8 64 Try.underlying41 hi0 hz0 hz1 hz2 rfl (by omega) vL log.length (log.flatMap Yj) (by rfl) HOT.out ⟨y.heap.size,0,none⟩ 1 1 [.int .i64 a.thread,.int .i8 a.op,.int .i64 n,.int .i64 a.arg,.int .i64 a.new,.int .i64 a.was,.int .i64 a.now,.bool a.ok] (by rfl) (by rfl) (World.news_of_block (cs:=#[.int .i64 a.thread,.int .i8 a.op,.int .i64 n,.int .i64 a.arg,.int .i64 a.new,.int .i64 a.was,.int .i64 a.now,.bool a.ok]) (t:=89) (fr:=(0,0)) (heap_alloc_new y _)) (by simp [Value.oneCell']) (by omega) m1.out m2.out (by first | (simp;done) | (simp;omega)) (y.heap.size + 1) (by simp) ?_
     intro g cap w' HG1 HG2 HG3 HG4;have HB:=HD HG2;have HO:=HD HG1;have HG:=HD HG3;clear HG1 HG2 HG3 HG4;have g0:w'.heap[rb]? = some (.cells (XH vT vM vL vW vR vF stops) 85 (0,0)):=by
      rw [HB.out.block rb (by simp;omega) (fun e=>hLr e.symm),XI,Xl,Array.getElem?_push,if_neg (by omega)];exact HR.out
     have HQ:=HD g0;have q0:w'.cell? (th rb 2)=some vL:=Xa g0 2;have q1:w'.frozen? (th rb 2)=false:=Xe g0 2;have q2:w'.cell? (th tb 0)=some (P0 rb):=HB.out.cell (XU k1) (fun e=>hLt e.symm);have ga:w'.heap[ab]? = some (.cells #[.int .i64 a.thread,.int .i8 a.op,.int .i64 n,.int .i64 a.arg,.int .i64 a.new,.int .i64 a.was,.int .i64 a.now,.bool a.ok] 89 (0,0)):=by
      rw [HB.out.block ab (by simp;omega) (fun e=>hLa e.symm),XI,Xl,Array.getElem?_push,if_neg (by omega)];exact HA.out
     have b0:w'.cell? (th ab 0)=some (.int .i64 a.thread):=Xa ga 0;have b1:w'.cell? (th ab 1)=some (.int .i8 a.op):=Xa ga 1;have b2:w'.cell? (th ab 2)=some (.int .i64 n):=Xa ga 2;have b3:w'.cell? (th ab 3)=some (.int .i64 a.arg):=Xa ga 3;have b4:w'.cell? (th ab 4)=some (.int .i64 a.new):=Xa ga 4;have b5:w'.cell? (th ab 5)=some (.int .i64 a.was):=Xa ga 5;have b6:w'.cell? (th ab 6)=some (.int .i64 a.now):=Xa ga 6;have b7:w'.cell? (th ab 7)=some (.bool a.ok):=Xa ga 7;have HA2:=HD ga;clear ga g0))
 all_goals (
  show K _ _;refine hK.out _ _ ?_;refine hret.out _ c cs ab { a with cell:=n } _ _ _ _ _ _ _ _ _ _ _ _ _ _ _ _ _ _ _ _ _ _ _ _ _ _ _ _ _ _ _ _ _ _ _ _ _ _ _ _ _ _ _ _ _ _ _ _ _ _ _ _ _ _ _ _ _ _ _ _ _ _ _ _ _ _ _ _ _ _ _ _ _ _ _ _ _ _ _ _ _ _ _ _ _ _ _ _ _ _ _ _ _ _ _ _ _ _ _ _ _ _ _ _ _ _ _ _ _ _ _ _ _ _ _ _ _ _ _ _ _ _ _ _ _ _ ((Xb fun e=>gra e.symm).trans HA2.out) (h.out _ (.slice (some ⟨g,0,none⟩) (log.length + 1) cap) ?_ ?_ ?_ ?_ ?_)
  ·rw [Xd HQ.out];rfl
  ·have hfm:(log ++ [{ a with cell:=n }]).flatMap Yj=log.flatMap Yj ++ [.int .i64 a.thread,.int .i8 a.op,.int .i64 n,.int .i64 a.arg,.int .i64 a.new,.int .i64 a.was,.int .i64 a.now,.bool a.ok]:=by simp [Yj]
   rw [hfm];refine Xj HO.out fun g' hg'=>Xb ?_;obtain rfl:g=g':=by simpa [Value.ownBlock] using hg'
   rintro rfl;rcases HG.out with h|h
   ·exact hLr h
   ·omega
  ·rcases HG.out with h|h
   ·exact .inl h.symm
   ·exact .inr ⟨g,rfl,by rw [← HZ.out,← HY.out];omega⟩
  ·rw [Xh,← HZ.out,← HY.out];have:=HB.out.size;simp at this;omega
  ·intro r h1 h2 h3 h4
   rw [← HZ.out,← HY.out] at h1;rw [Xb h2,HB.out.block r (by simp;omega) h4,XI,Xl,Array.getElem?_push,if_neg (by omega),HY.out,HO0.out r h3])
