/- A turn is written down: the two appends of gate's until. -/
import Derived.Test.YtdhnggjmegilkaaSRnM
import Derived.BigRegion
import Derived.BigQuiet
import Derived.Deep.RegionLaw
import Derived.Deep.RegionWith
import Derived.Deep.AppendLies
import Derived.Laws.EntriesVeiled
set_option linter.all false
set_option maxRecDepth 100000
set_option maxHeartbeats 16000000
namespace Go.Proofs.Ytdhnggjmegilkaa
open Go.Conc Go.RowKit
open Go.ConcN (upd upd_same upd_ne)
section
variable {Post:Value→World→Prop} {C:Ctx} {x:World} {c:Frame} {cs:List Frame} {tb rb N num n:Nat} {vT vM vL vW vR vF:Value} {stops:Bool} {went ready:List Value} {ao:Option Addr} {lc:Nat} {kk:List Item}
theorem XfJ {u1 u2 u3 u4 u5 u6 u7 u8 u9 B0 B1 B3 B5 B6 B7 B8 B9 D0 D1 D2 D3 D4 D5 D6 D7 D8 D9 E0 E1 E2 E3 E4 E5 E6 E7 E8 E9 G0 G1 G2 G3 G4 G5 G6 G7 G8 G9 H0 H4 H5 H6 H7 H8 H9 I0 I1 I2 I3 I4 I5 I6 I7 I8 I9 J0 J1 J2 J3 J4 J5 J6 J7 J8 J9 K0 K1 K2:Value} (h1:x.cell? (th tb 1)=some (.int .i64 num)) (hr:x.heap[rb]? = some (.cells (XH vT vM vL vW vR vF stops) 179 (0,0))) (hW:x.ownsRow N 3 1 vW went.length went) (hN:N≤x.heap.size) (hWr:vW.ownBlock≠some rb) (hWt:vW.ownBlock≠some tb) (hlen:went.length < 70000) (hne:tb≠rb)
 (h:∀ (y:World) (vW':Value) (u4 u5 u6 u7 u8 u9 B0 B1 B3 B5 B6 B7 B8 B9 D0 D1 D2 D3 D4 D5 D6 D7 D8 D9 E0 E1 E2 E3 E4 E5 E6 E7 E8 E9 G0 G1 G2 G3 G4 G5 G6 G7 G8 G9 H0 H4 H5 H6 H7 H8 H9 I0 I1 I2 I3 I4 I5 I6 I7 I8 I9 J0 J1 J2 J3 J4 J5 J6 J7 J8 J9 K0 K1 K2:Value),y.heap[rb]? = some (.cells (XH vT vM vL vW' vR vF stops) 179 (0,0))→y.ownsRow N 3 1 vW' (went.length + 1) (went ++ [.int .i64 num])→(vW'.ownBlock=vW.ownBlock∨∃ g,vW'.ownBlock=some g∧x.heap.size≤g)→x.heap.size≤y.heap.size→(∀ r,r < x.heap.size→r≠rb→some r≠vW.ownBlock→y.heap[r]? = x.heap[r]?) →
   JG Try.prog Post C (G ((base 82).at ⟨List.toArray ((P0 rb)::u1::u2::u3::u4::u5::u6::u7::u8::u9::B0::B1::(.slice ao n lc)::B3::(P0 tb)::B5::B6::B7::B8::B9::D0::D1::D2::D3::D4::D5::D6::D7::D8::D9::E0::E1::E2::E3::E4::E5::E6::E7::E8::E9::G0::G1::G2::G3::G4::G5::G6::G7::G8::G9::H0::H4::H5::H6::H7::H8::H9::I0::I1::I2::I3::I4::I5::I6::I7::I8::I9::J0::J1::J2::J3::J4::J5::J6::J7::J8::J9::K0::K1::K2::[]),[]⟩ (.code (Code.nav (Try.f82.body.getD .skip) [1,1,0,0,0,1,1,1,1,1])::kk)) (c::cs)) y) :
 JG Try.prog Post C (G ((base 82).at ⟨List.toArray ((P0 rb)::u1::u2::u3::u4::u5::u6::u7::u8::u9::B0::B1::(.slice ao n lc)::B3::(P0 tb)::B5::B6::B7::B8::B9::D0::D1::D2::D3::D4::D5::D6::D7::D8::D9::E0::E1::E2::E3::E4::E5::E6::E7::E8::E9::G0::G1::G2::G3::G4::G5::G6::G7::G8::G9::H0::H4::H5::H6::H7::H8::H9::I0::I1::I2::I3::I4::I5::I6::I7::I8::I9::J0::J1::J2::J3::J4::J5::J6::J7::J8::J9::K0::K1::K2::[]),[]⟩ (.code (Code.nav (Try.f82.body.getD .skip) [1,1,0,0,0,1,1,1,1,0])::.code (Code.nav (Try.f82.body.getD .skip) [1,1,0,0,0,1,1,1,1,1])::kk)) (c::cs)) x:=by
 simp only [Try.f82,Option.getD_some,Code.nav] at h ⊢;obtain ⟨i0,hi0,hz0,hz1,hz2⟩:=XM UI;refine JG.code (XO _) (by kernel_rfl) rfl (.inr (by kernel_rfl)) rfl (fun K R hK hR τ=>?_);replace hK:=HD hK;clear hR;replace h:=HD h;obtain ⟨y,hy⟩:∃ y,y=under x τ 0:=⟨_,rfl⟩
 have hyh:y.heap=x.heap:=by rw [hy];rfl
 rw [← hy];have zr:=hr;rw [← hyh] at zr;have k0:y.cell? (th rb 3)=some vW:=Xa zr 3;have f0:y.frozen? (th rb 3)=false:=Xe zr 3;have k1:y.cell? (th tb 1)=some (.int .i64 num):=by rw [hy];exact h1
 have HOT:Hid (((y.alloc (.cells #[.int .i64 num] 3)).drew).ownsRow N 3 1 vW went.length went):=HD (((by rw [hy];exact hW:y.ownsRow N 3 1 vW went.length went).alloc _).drew);have hN':N≤y.heap.size:=by rw [hyh];exact hN
 have e0:rb < y.heap.size:=Xt k0;have e1:rb < y.heap.size + 1:=by omega
 have e2:tb < y.heap.size:=Xt k1;have e3:tb < y.heap.size + 1:=by omega
 have HY:=HD hyh;have HR:=HD zr;clear hy hyh hr h1 hW hN zr;have m1:Hid (went.length + 1≤maxLen):=HD (by unfold maxLen;omega);have m2:Hid ((went.length + 1) * 8≤140737488355328):=HD (by omega)
 go_region_law (first
  | (refine step_append_lies _ (by rfl) _ _ _ (by rfl) N 3 i0 _ 1 8 Try.underlying24 hi0 hz0 hz1 hz2 rfl (by omega) vW went.length went (by rfl) HOT.out ⟨y.heap.size,0,none⟩ 1 1 [.int .i64 num] (by rfl) (by rfl) (World.news_of_block (cs:=#[.int .i64 num]) (t:=3) (fr:=(0,0)) (heap_alloc_new y _)) (by simp [Value.oneCell']) (by omega) m1.out m2.out (by first | (simp;done) | (simp;omega)) (y.heap.size + 1) (by simp) ?_
     intro g cap w' HG1 HG2 HG3 HG4;have HB:=HD HG2;have HO:=HD HG1;have HG:=HD HG3;clear HG1 HG2 HG3 HG4;have g0:w'.heap[rb]? = some (.cells (XH vT vM vL vW vR vF stops) 179 (0,0)):=by
      rw [HB.out.block rb (by simp;omega) (fun e=>hWr e.symm),XI,Xl,Array.getElem?_push,if_neg (by omega)];exact HR.out
     have HQ:=HD g0;have q0:w'.cell? (th rb 3)=some vW:=Xa g0 3;have q1:w'.frozen? (th rb 3)=false:=Xe g0 3;have q2:w'.cell? (th tb 1)=some (.int .i64 num):=HB.out.cell (XU k1) (fun e=>hWt e.symm);clear g0))
 all_goals (
  show K _ _;refine hK.out _ _ ?_;refine h.out _ (.slice (some ⟨g,0,none⟩) (went.length + 1) cap) _ _ _ _ _ _ _ _ _ _ _ _ _ _ _ _ _ _ _ _ _ _ _ _ _ _ _ _ _ _ _ _ _ _ _ _ _ _ _ _ _ _ _ _ _ _ _ _ _ _ _ _ _ _ _ _ _ _ _ _ _ _ _ _ _ _ _ _ _ _ _ _ _ _ ?_ ?_ ?_ ?_ ?_
  ·rw [Xd HQ.out];rfl
  ·refine Xj HO.out fun g' hg'=>Xb ?_
   obtain rfl:g=g':=by simpa [Value.ownBlock] using hg'
   rintro rfl;rcases HG.out with h|h
   ·exact hWr h
   ·omega
  ·rcases HG.out with h|h
   ·exact .inl h.symm
   ·exact .inr ⟨g,rfl,by rw [← HY.out];omega⟩
  ·rw [Xh,← HY.out];have:=HB.out.size;simp at this;omega
  ·intro r h1 h2 h3
   rw [← HY.out] at h1;rw [Xb h2,HB.out.block r (by simp;omega) h3,XI,Xl,Array.getElem?_push,if_neg (by omega),HY.out])
theorem Xe1 {u1 u2 u3 u4 u5 u6 u7 u8 u9 B0 B1 B3 B5 B6 B7 B8 B9 D0 D1 D2 D3 D4 D5 D6 D7 D8 D9 E0 E1 E2 E3 E4 E5 E6 E7 E8 E9 G0 G1 G2 G3 G4 G5 G6 G7 G8 G9 H0 H4 H5 H6 H7 H8 H9 I0 I1 I2 I3 I4 I5 I6 I7 I8 I9 J0 J1 J2 J3 J4 J5 J6 J7 J8 J9 K0 K1 K2:Value} (hr:x.heap[rb]? = some (.cells (XH vT vM vL vW vR vF stops) 179 (0,0))) (hW:x.ownsRow N 3 1 vR ready.length ready) (hN:N≤x.heap.size) (hWr:vR.ownBlock≠some rb) (hlen:ready.length < 70000)
 (h:∀ (y:World) (vR':Value) (u4 u5 u6 u7 u8 u9 B0 B1 B3 B5 B6 B7 B8 B9 D0 D1 D2 D3 D4 D5 D6 D7 D8 D9 E0 E1 E2 E3 E4 E5 E6 E7 E8 E9 G0 G1 G2 G3 G4 G5 G6 G7 G8 G9 H0 H4 H5 H6 H7 H8 H9 I0 I1 I2 I3 I4 I5 I6 I7 I8 I9 J0 J1 J2 J3 J4 J5 J6 J7 J8 J9 K0 K1 K2:Value),y.heap[rb]? = some (.cells (XH vT vM vL vW vR' vF stops) 179 (0,0))→y.ownsRow N 3 1 vR' (ready.length + 1) (ready ++ [.int .i64 n])→(vR'.ownBlock=vR.ownBlock∨∃ g,vR'.ownBlock=some g∧x.heap.size≤g)→x.heap.size≤y.heap.size→(∀ r,r < x.heap.size→r≠rb→some r≠vR.ownBlock→y.heap[r]? = x.heap[r]?) →
   JG Try.prog Post C (G ((base 82).at ⟨List.toArray ((P0 rb)::u1::u2::u3::u4::u5::u6::u7::u8::u9::B0::B1::(.slice ao n lc)::B3::(P0 tb)::B5::B6::B7::B8::B9::D0::D1::D2::D3::D4::D5::D6::D7::D8::D9::E0::E1::E2::E3::E4::E5::E6::E7::E8::E9::G0::G1::G2::G3::G4::G5::G6::G7::G8::G9::H0::H4::H5::H6::H7::H8::H9::I0::I1::I2::I3::I4::I5::I6::I7::I8::I9::J0::J1::J2::J3::J4::J5::J6::J7::J8::J9::K0::K1::K2::[]),[]⟩ (.code (Code.nav (Try.f82.body.getD .skip) [1,1,0,0,0,1,1,1,1,1,1])::kk)) (c::cs)) y) :
 JG Try.prog Post C (G ((base 82).at ⟨List.toArray ((P0 rb)::u1::u2::u3::u4::u5::u6::u7::u8::u9::B0::B1::(.slice ao n lc)::B3::(P0 tb)::B5::B6::B7::B8::B9::D0::D1::D2::D3::D4::D5::D6::D7::D8::D9::E0::E1::E2::E3::E4::E5::E6::E7::E8::E9::G0::G1::G2::G3::G4::G5::G6::G7::G8::G9::H0::H4::H5::H6::H7::H8::H9::I0::I1::I2::I3::I4::I5::I6::I7::I8::I9::J0::J1::J2::J3::J4::J5::J6::J7::J8::J9::K0::K1::K2::[]),[]⟩ (.code (Code.nav (Try.f82.body.getD .skip) [1,1,0,0,0,1,1,1,1,1])::kk)) (c::cs)) x:=by
 simp only [Try.f82,Option.getD_some,Code.nav] at h ⊢;obtain ⟨i0,hi0,hz0,hz1,hz2⟩:=XM UI;refine JG.seq ?_;refine JG.code (XO _) (by kernel_rfl) rfl (.inr (by kernel_rfl)) rfl (fun K R hK hR τ=>?_);replace hK:=HD hK;clear hR;replace h:=HD h;obtain ⟨y,hy⟩:∃ y,y=under x τ 0:=⟨_,rfl⟩
 have hyh:y.heap=x.heap:=by rw [hy];rfl
 rw [← hy];have zr:=hr;rw [← hyh] at zr;have k0:y.cell? (th rb 4)=some vR:=Xa zr 4;have f0:y.frozen? (th rb 4)=false:=Xe zr 4;have HOT:Hid ((y.alloc (.cells #[.int .i64 n] 3)).ownsRow N 3 1 vR ready.length ready):=HD ((by rw [hy];exact hW:y.ownsRow N 3 1 vR ready.length ready).alloc _);have N4:Hid (N≤(y.alloc (.cells #[.int .i64 n] 3)).heap.size):=HD (by simp [hyh];omega);have e0:rb < y.heap.size:=Xt k0;have HY:=HD hyh;have HR:=HD zr;clear hy hyh hr hW hN zr;have m1:Hid (ready.length + 1≤maxLen):=HD (by unfold maxLen;omega);have m2:Hid ((ready.length + 1) * 8≤140737488355328):=HD (by omega)
 go_wp2_with (first
  | (at_builtin
     refine wpList_append_lies _ rfl _ _ 24 rfl N 3 i0 _ 1 8 Try.underlying24 hi0 hz0 hz1 hz2 rfl (by decide) _ ready.length ready rfl HOT.out ⟨y.heap.size,0,none⟩ 1 1 [.int .i64 n] rfl rfl (World.news_of_block (cs:=#[.int .i64 n]) (t:=3) (fr:=(0,0)) (heap_alloc_new y _)) (by simp [Value.oneCell']) (by omega) m1.out m2.out N4.out _ rfl ?_;intro g cap w' HG1 HG2 HG3 HG4;have HB:=HD HG2;have HO:=HD HG1;have HG:=HD HG3;clear HG1 HG2 HG3 HG4;have g0:w'.heap[rb]? = some (.cells (XH vT vM vL vW vR vF stops) 179 (0,0)):=by
      rw [HB.out.block rb (by simp;omega) (fun e=>hWr e.symm),Xl,Array.getElem?_push,if_neg (by omega)];exact HR.out
     have HQ:=HD g0;have q0:w'.cell? (th rb 4)=some vR:=Xa g0 4;have q1:w'.frozen? (th rb 4)=false:=Xe g0 4;clear g0))
 all_goals (
  show K _ _;refine hK.out _ _ ?_;refine h.out _ (.slice (some ⟨g,0,none⟩) (ready.length + 1) cap) _ _ _ _ _ _ _ _ _ _ _ _ _ _ _ _ _ _ _ _ _ _ _ _ _ _ _ _ _ _ _ _ _ _ _ _ _ _ _ _ _ _ _ _ _ _ _ _ _ _ _ _ _ _ _ _ _ _ _ _ _ _ _ _ _ _ _ _ _ _ _ _ _ _ ?_ ?_ ?_ ?_ ?_
  ·rw [Xd HQ.out];rfl
  ·refine Xj HO.out fun g' hg'=>Xb ?_
   obtain rfl:g=g':=by simpa [Value.ownBlock] using hg'
   rintro rfl;rcases HG.out with h|h
   ·exact hWr h
   ·simp at h;omega
  ·rcases HG.out with h|h
   ·exact .inl h.symm
   ·exact .inr ⟨g,rfl,by rw [← HY.out];simp at h;omega⟩
  ·rw [Xh,← HY.out];have:=HB.out.size;simp at this;omega
  ·intro r h1 h2 h3
   rw [← HY.out] at h1;rw [Xb h2,HB.out.block r (by simp;omega) h3,Xl,Array.getElem?_push,if_neg (by omega),HY.out])
