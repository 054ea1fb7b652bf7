/- An access, from where it has been done on: what is there is told, the cell's number, the record. -/
import Derived.Test.YtdhnggjmegilkaaORnD
import Derived.Test.YtdhnggjmegilkaaOTkL
set_option linter.all false
set_option maxRecDepth 100000
set_option maxHeartbeats 16000000
namespace Go.Proofs.Ytdhnggjmegilkaa
open Go.Conc Go.RowKit
open Go.ConcN (upd upd_same upd_ne)
structure Stepped (x y:World) (rb ab mb N:Nat) (vT vL vL' vW vR vF:Value) (stops:Bool) (A:Nat→Nat) (names:List Nat) (id:Nat) (log:List Xo) (a:Xo):Prop where
 obj:y.heap[rb]? = some (.cells (XH vT (.map (some mb)) vL' vW vR vF stops) 179 (0,0))
 log:y.ownsRow N 172 8 vL' (log.length + 1) ((log ++ [{ a with cell:=(names.idxOf id:Nat) }]).flatMap Yj)
 lnew:vL'.ownBlock=vL.ownBlock∨∃ g,vL'.ownBlock=some g∧x.heap.size≤g
 map:MapAt y mb A (if id∈names then names else names ++ [id])
 size:x.heap.size≤y.heap.size
 old:∀ r,r < x.heap.size→r≠rb→r≠ab→r≠mb→some r≠vL.ownBlock→y.heap[r]? = x.heap[r]?
section
variable {Post:Value→World→Prop} {C:Ctx} {x:World} {c:Frame} {cs:List Frame} {tb rb ab mb N:Nat} {vT vL vW vR vF:Value} {stops:Bool} {a:Xo} {A:Nat→Nat} {names:List Nat} {id:Nat} {v:Int} {log:List Xo}
theorem Zb {u2 u3 u4 u5 u6 u7 u8 u9 B0 B1 B2 B4 B5 B6 B7 B8 B9 D0 D1 D2 D3 D4 D5 D6 D7 D8 D9 E0 E1 E2 E3 E4 E5 E6 E7 E8 E9 G0 G1 G2 G3 G4 G5 G6 G7 G8 G9 H0 H4 H5 H6 H7 H8 H9 I0 I1 I2 I3 I4 I5 I6 I7 I8 I9 J0 J1 J3 J4 J5 J6 J7 J8 J9 K0 K1 K2 K3 K4 K5 K6 K7 K8 K9 L0 L1 L2 L3 L4 L5 L6 L7 L8 L9 M0 M1 M2 M3 M4 M5 M6 M7 M8 M9 N0 N1 N5 N6 N7 N8 N9 O0 O1 O2 O3 O4 O5 O6 O7 O8 O9 R0 R1 R2:Value} (h0:x.cell? (th tb 0)=some (P0 rb)) (hr:x.heap[rb]? = some (.cells (XH vT (.map (some mb)) vL vW vR vF stops) 179 (0,0))) (hL:x.ownsRow N 172 8 vL log.length (log.flatMap Yj))
 (hab:x.heap[ab]? = some (.cells (Yj { a with now:=0 }).toArray 172 (0,0))) (hLa:vL.ownBlock≠some ab) (hLt:vL.ownBlock≠some tb) (hLr:vL.ownBlock≠some rb) (hLm:vL.ownBlock≠some mb) (hN:N≤x.heap.size) (hlen:log.length < 70000)
 (hM:MapAt x mb A names) (hid:XZ x (A id)) (hnm:∀ c∈names,XZ x (A c)∧(A c=A id→c=id)) (hab':∀ c∈names,A c≠ab) (hia:A id≠ab) (hv:x.cell? (th (A id) 0)=some (.int .i64 a.now))
 (h:∀ y vL',Stepped x y rb ab mb N vT vL vL' vW vR vF stops A names id log a→JG Try.prog Post C (G (c.finish (.tuple #[.int .i64 a.was,.int .i64 a.now,.bool a.ok])) cs) y) :
 JG Try.prog Post C (G ((base 101).at ⟨List.toArray ((P0 tb)::(P0 (A id))::u2::u3::u4::u5::u6::u7::u8::u9::B0::B1::B2::(P0 ab)::B4::B5::B6::B7::B8::B9::D0::D1::D2::D3::D4::D5::D6::D7::D8::D9::E0::E1::E2::E3::E4::E5::E6::E7::E8::E9::G0::G1::G2::G3::G4::G5::G6::G7::G8::G9::H0::H4::H5::H6::H7::H8::H9::I0::I1::I2::I3::I4::I5::I6::I7::I8::I9::J0::J1::(P0 (A id))::J3::J4::J5::J6::J7::J8::J9::K0::K1::K2::K3::K4::K5::K6::K7::K8::K9::L0::L1::L2::L3::L4::L5::L6::L7::L8::L9::M0::M1::M2::M3::M4::M5::M6::M7::M8::M9::N0::N1::N5::N6::N7::N8::N9::O0::O1::O2::O3::O4::O5::O6::O7::O8::O9::R0::R1::R2::[]),[]⟩ [.inRegion (Code.opsOf (Code.from (Try.f101.body.getD .skip) 8)) [1,2,3],.code (Code.from (Try.f101.body.getD .skip) 9)]) (c::cs)) x:=by
 have hlog:=@Xb3 Post C;simp only [Try.f101,Option.getD_some,Code.from,Code.opsOf] at hlog ⊢;refine kf (args:=#[P0 (A id)]) Try.func102 ?_;refine Y1 hv ?_;rw [Frame.finish_at];walk_nrm;have a6:x.cell? (th ab 6)=some (.int .i64 0):=Xa hab 6;have f6:x.frozen? (th ab 6)=false:=Xe hab 6
 repeat refine kx ?_
 refine kst (And.intro a6 f6) ?_;clear a6 f6;have gra:rb≠ab:=by rintro rfl;rw [hr] at hab;simp at hab
 have gma:mb≠ab:=by
  obtain ⟨es,cl,e,_⟩:=hM;rintro rfl;rw [e] at hab;simp at hab
 have grm:rb≠mb:=by
  obtain ⟨es,cl,e,_⟩:=hM;rintro rfl;rw [e] at hr;simp at hr
 have gtm:tb≠mb:=by
  obtain ⟨es,cl,e,_⟩:=hM;rintro rfl;simp [World.cell?,th,e] at h0
 have gam:∀ c,XZ x (A c)→A c≠mb:=fun c ⟨ca,ta,e1⟩=>by
  obtain ⟨es,cl,e,_⟩:=hM;intro z;rw [z,e] at e1;simp at e1
 have z0:(x.setCell (th ab 6) (.int .i64 a.now)).cell? (th tb 0)=some (P0 rb):=Xi (by simp [th]) h0;have zr:=(Xb (w:=x) (k:=6) (v:=.int .i64 a.now) gra).trans hr;have za:(x.setCell (th ab 6) (.int .i64 a.now)).heap[ab]? = some (.cells (Yj a).toArray 172 (0,0)):=by
  rw [Xd hab];rfl
 have zL:=Xj (w':=x.setCell (th ab 6) (.int .i64 a.now)) hL (fun g e=>Xb (fun z=>hLa (z ▸ e)));have zs:=Xh x (th ab 6) (.int .i64 a.now);have zo:∀ r,r≠ab→(x.setCell (th ab 6) (.int .i64 a.now)).heap[r]? = x.heap[r]?:=fun r h=>Xb h;have zM:=hM.heap (zo mb gma);have zid:XZ (x.setCell (th ab 6) (.int .i64 a.now)) (A id):=by obtain ⟨ca,ta,e⟩:=hid;exact ⟨ca,ta,(zo _ hia).trans e⟩
 have znm:∀ c∈names,XZ (x.setCell (th ab 6) (.int .i64 a.now)) (A c)∧(A c=A id→c=id):=fun c hc=>by
  obtain ⟨⟨ca,ta,e⟩,h2⟩:=hnm c hc;exact ⟨⟨ca,ta,(zo _ (hab' c hc)).trans e⟩,h2⟩
 generalize x.setCell (th ab 6) (.int .i64 a.now)=z at z0 zr za zL zs zo zM zid znm ⊢;clear h0 hr hab hL hM hv;have hlk:∀ τ d,(Instr.lookup 176 (.map (some mb)) (P0 (A id)) true).run Try.prog (under z τ d)=.ok (.tuple #[.int .i64 (if id∈names then (names.idxOf id:Nat) else (0:Nat):Nat),.bool (decide (id∈names))]) (under z τ d):=fun τ d=>Wq (w:=under z τ d) zM zid znm;have zr1:z.cell? (th rb 1)=some (.map (some mb)):=Xa zr 1;replace zo:=HD zo;replace zs:=HD zs;replace znm':=HD znm;replace hnm:=HD hnm;replace hab':=HD hab';replace gam:=HD gam;clear znm
 by_cases hin:id∈names
 ·simp only [hin,if_true,decide_true] at hlk
  repeat refine kx ?_
  refine hlog z0 zr zL za hLa hLt hLr (by rw [zs.out];exact hN) hlen fun y vL' k1 k2 k3 k4 k5=>?_;refine h y vL' ⟨k1,k2,?_,?_,by rw [← zs.out];exact k4,fun r e1 e2 e3 e4 e5=>by rw [k5 r (by rw [zs.out];exact e1) e2 e3 e5,zo.out r e3]⟩
  ·rcases k3 with h|⟨g,h,h'⟩
   ·exact .inl h
   ·exact .inr ⟨g,h,by rw [← zs.out];exact h'⟩
  ·rw [if_pos hin]
   refine zM.heap (k5 mb ?_ grm.symm gma fun e=>hLm e.symm);obtain ⟨es,cl,e,_⟩:=zM;exact (GE e).1
 ·simp only [hin,if_false,decide_false] at hlk
  obtain ⟨es,cl,ze,zsz⟩:=XcK zM;have ze':=fun τ d=>(show (under z τ d).heap[mb]? = some (.map es cl) from ze)
  have hlen':∀ τ d,(Builtin.len_ #[176] 3 #[.map (some mb)]).run Try.prog (under z τ d)=.ok (.int .i64 (names.length:Nat)) (under z τ d):=fun τ d=>by
   simp [Builtin.len_,run_underlying Try.underlying176,MapKept.run_getObj_map (ze' τ d),zsz,goInt]
  clear ze'
  repeat refine kx ?_
  refine JG.mapUpd rfl rfl ze rfl (by rfl) (by decide) (fun K E hK hE τ d=>?_);obtain ⟨_,ho1,ho2,ho3,es',cl',rfl⟩:=XdR (w:=under z τ d) zM zid znm'.out hin;go_simp;refine hK _ _ ?_;have zM2:=ho2 { z with heap:=z.heap.setIfInBounds mb (.map es' cl') } (Array.getElem?_setIfInBounds_self_of_lt ho3);have zo2:∀ r,r≠mb→({ z with heap:=z.heap.setIfInBounds mb (.map es' cl') }:World).heap[r]? = z.heap[r]?:=fun r hr=>Array.getElem?_setIfInBounds_ne (fun e=>hr e.symm);have zs2:({ z with heap:=z.heap.setIfInBounds mb (.map es' cl') }:World).heap.size=z.heap.size:=by simp
  show JG _ _ _ _ (under { z with heap:=z.heap.setIfInBounds mb (.map es' cl') } τ d);refine jt ?_;generalize ({ z with heap:=z.heap.setIfInBounds mb (.map es' cl') }:World)=q at zM2 zo2 zs2 ⊢;clear hK hE K E ho1 ho2 hlen' hlk;have q0:q.cell? (th tb 0)=some (P0 rb):=by
   simp only [World.cell?];rw [zo2 tb gtm];exact z0
  have qr:=(zo2 rb grm).trans zr;have qa:=(zo2 ab gma.symm).trans za;have qL:=Xj (w':=q) zL fun g e=>zo2 g fun z=>hLm (z ▸ e);replace zo2:=HD zo2
  try walk_nrm
  repeat refine kx ?_
  refine hlog q0 qr qL qa hLa hLt hLr (by rw [zs2,zs.out];exact hN) hlen fun y vL' k1 k2 k3 k4 k5=>?_;have hix:(names.idxOf id:Nat)=names.length:=List.idxOf_eq_length hin;refine h y vL' ⟨k1,by rw [hix];exact k2,?_,?_,by rw [← zs.out,← zs2];exact k4,fun r e1 e2 e3 e4 e5=>by rw [k5 r (by rw [zs2,zs.out];exact e1) e2 e3 e5,zo2.out r e4,zo.out r e3]⟩
  ·rcases k3 with h|⟨g,h,h'⟩
   ·exact .inl h
   ·exact .inr ⟨g,h,by rw [← zs.out,← zs2];exact h'⟩
  ·rw [if_neg hin]
   refine zM2.heap (k5 mb ?_ grm.symm gma fun e=>hLm e.symm);obtain ⟨es,cl,e,_⟩:=zM2;exact (GE e).1
