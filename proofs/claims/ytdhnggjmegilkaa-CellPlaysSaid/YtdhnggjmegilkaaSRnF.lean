/- An access, from where the thread is let go on. -/
import Derived.Test.YtdhnggjmegilkaaSRnE
set_option linter.unusedSimpArgs false
set_option linter.unusedVariables false
set_option maxRecDepth 100000
set_option maxHeartbeats 16000000
namespace Go.Proofs.Ytdhnggjmegilkaa
open Go.Conc Go.RowKit
open Go.ConcN (upd upd_same upd_ne)
structure YP (x y:World) (rb ab mb N:Nat) (vT vL vL' vW vR vF:Value) (stops:Bool) (A:Nat→Nat) (names:List Nat) (id:Nat) (log:List Xn) (a:Xn):Prop where
 obj:y.heap[rb]? = some (.cells (XH vT (.map (some mb)) vL' vW vR vF stops) 179 (0,0))
 log:y.ownsRow N 172 8 vL' (log.length + 1) ((log ++ [{ a with cell:=(names.idxOf id:Nat) }]).flatMap Yd)
 lnew:vL'.ownBlock=vL.ownBlock∨∃ g,vL'.ownBlock=some g∧x.heap.size≤g
 map:MapAt y mb A (if id∈names then names else names ++ [id])
 size:x.heap.size≤y.heap.size
 old:∀ r,r < x.heap.size→r≠rb→r≠ab→r≠mb→r≠A id→some r≠vL.ownBlock→y.heap[r]? = x.heap[r]?
 cell:y.heap[A id]? = (x.setCell (th (A id) 0) (.int .i64 a.now)).heap[A id]?
theorem VA {w:World} {b:Nat} {ca:Array Value} {ta:TypeId} {v:Value} (h:w.heap[b]? = some (.cells ca ta (0,0))) (hv:w.cell? (th b 0)=some v):(w.setCell (th b 0) v).heap[b]? = w.heap[b]?:=by
 rw [Xc h,h]
 rw [Xa h] at hv
 have:ca.setIfInBounds 0 v=ca:=by
  apply Array.ext_getElem?
  intro i
  by_cases e:0=i
  ·subst e
   obtain ⟨h1,h2⟩:=GE hv
   rw [Array.getElem?_setIfInBounds_self_of_lt h1];exact hv.symm
  ·rw [Array.getElem?_setIfInBounds_ne e]
 rw [this]
section
variable {Post:Value→World→Prop} {C:Ctx} {x:World} {c:Frame} {cs:List Frame} {tb rb ab mb N:Nat} {vT vL vW vR vF:Value} {stops:Bool} {num:Nat} {A:Nat→Nat} {names:List Nat} {id:Nat} {was arg new:Int} {log:List Xn}
theorem Za {w:World} {b r k i:Nat} {v:Value} (h:r≠b):(w.setCell (th b k) v).cell? (th r i)=w.cell? (th r i):=by
 simp only [World.cell?];rw [Xb h]
theorem XdU {u5 u6 u7 u8 u9 B0 B1 B2 B4 B5 B6 B7 B8 B9 D0 D1 D2 D3 D4 D5 D6 D7 D8 D9 E0 E1 E2 E3 E4 E5 E6 E7 E8 E9 G0 G1 G2 G3 G4 G5 G6 G7 G8 G9 H4 H5 H6 H7 H8 H9 I0 I1 I2 I3 I4 I5 I6 I7 I8 I9 J0 J1 J2 J3 J4 J5 J6 J7 J8 J9 K0 K1 K3 K4 K5 K6 K7 K8 K9 L0 L1 L2 L3 L4 L5 L6 L7 L8 L9 M0 M1 M4 M5 M6 M7 M8 M9 N1 N5 N6 N7 N8 N9 O0 O1 O2 O3 O4 O5 O6 O7 O8 O9 R0 R1 R2 R3 R4 R5 R6 R7:Value} (h0:x.cell? (th tb 0)=some (P0 rb)) (hr:x.heap[rb]? = some (.cells (XH vT (.map (some mb)) vL vW vR vF stops) 179 (0,0))) (hL:x.ownsRow N 172 8 vL log.length (log.flatMap Yd))
 (hab:x.heap[ab]? = some (.cells (Yd ⟨num,1,-1,0,0,0,0,false⟩).toArray 172 (0,0))) (hLa:vL.ownBlock≠some ab) (hLt:vL.ownBlock≠some tb) (hLr:vL.ownBlock≠some rb) (hLm:vL.ownBlock≠some mb) (hLi:vL.ownBlock≠some (A id)) (hN:N≤x.heap.size) (hlen:log.length < 70000)
 (hM:MapAt x mb A names) (hid:XV x (A id)) (hnm:∀ c∈names,XV x (A c)∧(A c=A id→c=id)) (hab':∀ c∈names,A c≠ab) (hia:A id≠ab) (hit:A id≠tb) (hir:A id≠rb) (hv:x.cell? (th (A id) 0)=some (.int .i64 was))
 (h:∀ y vL',YP x y rb ab mb N vT vL vL' vW vR vF stops A names id log ⟨num,1,-1,0,0,was,was,false⟩→JG Try.prog Post C (G (c.finish (.tuple #[.int .i64 was,.int .i64 (was),.bool (false)])) cs) y) :
 JG Try.prog Post C (G ((base 101).at ⟨List.toArray ((P0 tb)::(P0 (A id))::(.int .i8 1)::(.int .i64 0)::(.int .i64 0)::u5::u6::u7::u8::u9::B0::B1::B2::(P0 ab)::B4::B5::B6::B7::B8::B9::D0::D1::D2::D3::D4::D5::D6::D7::D8::D9::E0::E1::E2::E3::E4::E5::E6::E7::E8::E9::G0::G1::G2::G3::G4::G5::G6::G7::G8::G9::H4::H5::H6::H7::H8::H9::I0::I1::I2::I3::I4::I5::I6::I7::I8::I9::J0::J1::J2::J3::J4::J5::J6::J7::J8::J9::K0::K1::K3::K4::K5::K6::K7::K8::K9::L0::L1::L2::L3::L4::L5::L6::L7::L8::L9::M0::M1::M4::M5::M6::M7::M8::M9::N1::N5::N6::N7::N8::N9::O0::O1::O2::O3::O4::O5::O6::O7::O8::O9::R0::R1::R2::R3::R4::R5::R6::R7::[]),[]⟩ [.code (Code.from (Try.f101.body.getD .skip) 6)]) (c::cs)) x:=by
 have hend:=@Y3 Post C
 simp only [Try.f101,Option.getD_some,Code.from,Code.opsOf] at hend ⊢
 obtain ⟨ca,ta,hca⟩:=hid
 have gra:rb≠ab:=by rintro rfl;rw [hr] at hab;simp at hab
 have gma:mb≠ab:=by
  obtain ⟨es,cl,e,_⟩:=hM
  rintro rfl;rw [e] at hab;simp at hab
 have gim:A id≠mb:=by
  obtain ⟨es,cl,e,_⟩:=hM
  intro z;rw [z,e] at hca;simp at hca
 repeat first|refine jc rfl ?_|(first|refine ju rfl rfl ?_|(refine jv rfl rfl rfl fun K E f τ d=>?_;go_simp;refine f _ _ _ _ ?_;clear f K E τ d);try walk_nrm)
 refine Xt (f:=102) (args:=#[P0 (A id)]) Try.func102 (by kernel_rfl) (by kernel_rfl) rfl rfl rfl rfl (by decide) ?_
 refine YV hv ?_
 rw [Frame.finish_at]
 walk_nrm
 have a5:x.cell? (th ab 5)=some (.int .i64 0):=Xa hab 5
 have f5:x.frozen? (th ab 5)=false:=Xe hab 5
 repeat first|refine jc rfl ?_|(first|refine ju rfl rfl ?_|(refine jv rfl rfl rfl fun K E f τ d=>?_;go_simp;refine f _ _ _ _ ?_;clear f K E τ d);try walk_nrm)
 refine jo rfl rfl rfl (by decide) fun K E hK hE τ d=>?_
 have hf:=ust (And.intro a5 f5) τ d
 obtain ⟨hf,hg⟩:=hf
 go_simp
 refine hK _ _ ?_
 rw [Xd]
 refine jt ?_
 clear hf hg hK hE K E τ d
 try walk_nrm
 clear a5 f5
 have z0:(x.setCell (th ab 5) (.int .i64 was)).cell? (th tb 0)=some (P0 rb):=Xk (by simp [th]) h0
 have zr:=(Xb (w:=x) (k:=5) (v:=.int .i64 was) gra).trans hr
 have za:(x.setCell (th ab 5) (.int .i64 was)).heap[ab]? = some (.cells (Yd ⟨num,1,-1,0,0,was,0,false⟩).toArray 172 (0,0)):=by
  rw [Xc hab];rfl
 have zL:=Xh (w':=x.setCell (th ab 5) (.int .i64 was)) hL (fun g e=>Xb (fun z=>hLa (z ▸ e)))
 have zs:=Xg x (th ab 5) (.int .i64 was)
 have zo:∀ r,r≠ab→(x.setCell (th ab 5) (.int .i64 was)).heap[r]? = x.heap[r]?:=fun r h=>Xb h
 have zM:=hM.heap (zo mb gma)
 have zca:=(zo _ hia).trans hca
 have zv:(x.setCell (th ab 5) (.int .i64 was)).cell? (th (A id) 0)=some (.int .i64 was):=Xk (by simp [th]) hv
 have znm:∀ c∈names,XV (x.setCell (th ab 5) (.int .i64 was)) (A c)∧(A c=A id→c=id):=fun c hc=>by
  obtain ⟨⟨ca,ta,e⟩,h2⟩:=hnm c hc
  exact ⟨⟨ca,ta,(zo _ (hab' c hc)).trans e⟩,h2⟩
 generalize x.setCell (th ab 5) (.int .i64 was)=z at z0 zr za zL zs zo zM zca zv znm ⊢
 clear hr hab hL hM h0
 have zf:z.frozen? (th (A id) 0)=false:=Xe zca 0
 replace zo:=HD zo
 replace zs:=HD zs
 replace znm:=HD znm
 replace hnm:=HD hnm
 replace hab':=HD hab'
 repeat first|refine jc rfl ?_|(first|refine ju rfl rfl ?_|(refine jv rfl rfl rfl fun K E f τ d=>?_;go_simp;refine f _ _ _ _ ?_;clear f K E τ d);try walk_nrm)
 refine hend (x:=z) (a:=⟨num,1,-1,0,0,was,was,false⟩) z0 zr zL za hLa hLt hLr hLm (by rw [zs.out];exact hN) hlen zM ⟨ca,ta,zca⟩ znm.out hab'.out hia zv fun y vL' hS=>?_
 refine h y vL' ⟨hS.obj,hS.log,?_,hS.map,by rw [← zs.out];exact hS.size,fun r e1 e2 e3 e4 e5 e6=>by rw [hS.old r (by rw [zs.out];exact e1) e2 e3 e4 e6,zo.out r e3],?_⟩
 ·rcases hS.lnew with h|⟨g,h,h'⟩
  ·exact .inl h
  ·exact .inr ⟨g,h,by rw [← zs.out];exact h'⟩
 ·rw [VA hca hv]
  rw [hS.old _ (by rw [zs.out];exact (GE hca).1) hir hia gim fun e=>hLi e.symm,zo.out _ hia]
theorem XdT {u5 u6 u7 u8 u9 B0 B1 B2 B4 B5 B6 B7 B8 B9 D0 D1 D2 D3 D4 D5 D6 D7 D8 D9 E0 E1 E2 E3 E4 E5 E6 E7 E8 E9 G0 G1 G2 G3 G4 G5 G6 G7 G8 G9 H4 H5 H6 H7 H8 H9 I0 I1 I2 I3 I4 I5 I6 I7 I8 I9 J0 J1 J2 J3 J4 J5 J6 J7 J8 J9 K0 K1 K3 K4 K5 K6 K7 K8 K9 L0 L1 L2 L3 L4 L5 L6 L7 L8 L9 M0 M1 M4 M5 M6 M7 M8 M9 N1 N5 N6 N7 N8 N9 O0 O1 O2 O3 O4 O5 O6 O7 O8 O9 R0 R1 R2 R3 R4 R5 R6 R7:Value} (h0:x.cell? (th tb 0)=some (P0 rb)) (hr:x.heap[rb]? = some (.cells (XH vT (.map (some mb)) vL vW vR vF stops) 179 (0,0))) (hL:x.ownsRow N 172 8 vL log.length (log.flatMap Yd))
 (hab:x.heap[ab]? = some (.cells (Yd ⟨num,6,-1,arg,0,0,0,false⟩).toArray 172 (0,0))) (hLa:vL.ownBlock≠some ab) (hLt:vL.ownBlock≠some tb) (hLr:vL.ownBlock≠some rb) (hLm:vL.ownBlock≠some mb) (hLi:vL.ownBlock≠some (A id)) (hN:N≤x.heap.size) (hlen:log.length < 70000)
 (hM:MapAt x mb A names) (hid:XV x (A id)) (hnm:∀ c∈names,XV x (A c)∧(A c=A id→c=id)) (hab':∀ c∈names,A c≠ab) (hia:A id≠ab) (hit:A id≠tb) (hir:A id≠rb) (hv:x.cell? (th (A id) 0)=some (.int .i64 was))
 (h:∀ y vL',YP x y rb ab mb N vT vL vL' vW vR vF stops A names id log ⟨num,6,-1,arg,0,was,was,false⟩→JG Try.prog Post C (G (c.finish (.tuple #[.int .i64 was,.int .i64 (was),.bool (false)])) cs) y) :
 JG Try.prog Post C (G ((base 101).at ⟨List.toArray ((P0 tb)::(P0 (A id))::(.int .i8 6)::(.int .i64 arg)::(.int .i64 0)::u5::u6::u7::u8::u9::B0::B1::B2::(P0 ab)::B4::B5::B6::B7::B8::B9::D0::D1::D2::D3::D4::D5::D6::D7::D8::D9::E0::E1::E2::E3::E4::E5::E6::E7::E8::E9::G0::G1::G2::G3::G4::G5::G6::G7::G8::G9::H4::H5::H6::H7::H8::H9::I0::I1::I2::I3::I4::I5::I6::I7::I8::I9::J0::J1::J2::J3::J4::J5::J6::J7::J8::J9::K0::K1::K3::K4::K5::K6::K7::K8::K9::L0::L1::L2::L3::L4::L5::L6::L7::L8::L9::M0::M1::M4::M5::M6::M7::M8::M9::N1::N5::N6::N7::N8::N9::O0::O1::O2::O3::O4::O5::O6::O7::O8::O9::R0::R1::R2::R3::R4::R5::R6::R7::[]),[]⟩ [.code (Code.from (Try.f101.body.getD .skip) 6)]) (c::cs)) x:=by
 have hend:=@Y3 Post C
 simp only [Try.f101,Option.getD_some,Code.from,Code.opsOf] at hend ⊢
 obtain ⟨ca,ta,hca⟩:=hid
 have gra:rb≠ab:=by rintro rfl;rw [hr] at hab;simp at hab
 have gma:mb≠ab:=by
  obtain ⟨es,cl,e,_⟩:=hM
  rintro rfl;rw [e] at hab;simp at hab
 have gim:A id≠mb:=by
  obtain ⟨es,cl,e,_⟩:=hM
  intro z;rw [z,e] at hca;simp at hca
 repeat first|refine jc rfl ?_|(first|refine ju rfl rfl ?_|(refine jv rfl rfl rfl fun K E f τ d=>?_;go_simp;refine f _ _ _ _ ?_;clear f K E τ d);try walk_nrm)
 refine Xt (f:=102) (args:=#[P0 (A id)]) Try.func102 (by kernel_rfl) (by kernel_rfl) rfl rfl rfl rfl (by decide) ?_
 refine YV hv ?_
 rw [Frame.finish_at]
 walk_nrm
 have a5:x.cell? (th ab 5)=some (.int .i64 0):=Xa hab 5
 have f5:x.frozen? (th ab 5)=false:=Xe hab 5
 repeat first|refine jc rfl ?_|(first|refine ju rfl rfl ?_|(refine jv rfl rfl rfl fun K E f τ d=>?_;go_simp;refine f _ _ _ _ ?_;clear f K E τ d);try walk_nrm)
 refine jo rfl rfl rfl (by decide) fun K E hK hE τ d=>?_
 have hf:=ust (And.intro a5 f5) τ d
 obtain ⟨hf,hg⟩:=hf
 go_simp
 refine hK _ _ ?_
 rw [Xd]
 refine jt ?_
 clear hf hg hK hE K E τ d
 try walk_nrm
 clear a5 f5
 have z0:(x.setCell (th ab 5) (.int .i64 was)).cell? (th tb 0)=some (P0 rb):=Xk (by simp [th]) h0
 have zr:=(Xb (w:=x) (k:=5) (v:=.int .i64 was) gra).trans hr
 have za:(x.setCell (th ab 5) (.int .i64 was)).heap[ab]? = some (.cells (Yd ⟨num,6,-1,arg,0,was,0,false⟩).toArray 172 (0,0)):=by
  rw [Xc hab];rfl
 have zL:=Xh (w':=x.setCell (th ab 5) (.int .i64 was)) hL (fun g e=>Xb (fun z=>hLa (z ▸ e)))
 have zs:=Xg x (th ab 5) (.int .i64 was)
 have zo:∀ r,r≠ab→(x.setCell (th ab 5) (.int .i64 was)).heap[r]? = x.heap[r]?:=fun r h=>Xb h
 have zM:=hM.heap (zo mb gma)
 have zca:=(zo _ hia).trans hca
 have zv:(x.setCell (th ab 5) (.int .i64 was)).cell? (th (A id) 0)=some (.int .i64 was):=Xk (by simp [th]) hv
 have znm:∀ c∈names,XV (x.setCell (th ab 5) (.int .i64 was)) (A c)∧(A c=A id→c=id):=fun c hc=>by
  obtain ⟨⟨ca,ta,e⟩,h2⟩:=hnm c hc
  exact ⟨⟨ca,ta,(zo _ (hab' c hc)).trans e⟩,h2⟩
 generalize x.setCell (th ab 5) (.int .i64 was)=z at z0 zr za zL zs zo zM zca zv znm ⊢
 clear hr hab hL hM h0
 have zf:z.frozen? (th (A id) 0)=false:=Xe zca 0
 replace zo:=HD zo
 replace zs:=HD zs
 replace znm:=HD znm
 replace hnm:=HD hnm
 replace hab':=HD hab'
 repeat first|refine jc rfl ?_|(first|refine ju rfl rfl ?_|(refine jv rfl rfl rfl fun K E f τ d=>?_;go_simp;refine f _ _ _ _ ?_;clear f K E τ d);try walk_nrm)
 refine hend (x:=z) (a:=⟨num,6,-1,arg,0,was,was,false⟩) z0 zr zL za hLa hLt hLr hLm (by rw [zs.out];exact hN) hlen zM ⟨ca,ta,zca⟩ znm.out hab'.out hia zv fun y vL' hS=>?_
 refine h y vL' ⟨hS.obj,hS.log,?_,hS.map,by rw [← zs.out];exact hS.size,fun r e1 e2 e3 e4 e5 e6=>by rw [hS.old r (by rw [zs.out];exact e1) e2 e3 e4 e6,zo.out r e3],?_⟩
 ·rcases hS.lnew with h|⟨g,h,h'⟩
  ·exact .inl h
  ·exact .inr ⟨g,h,by rw [← zs.out];exact h'⟩
 ·rw [VA hca hv]
  rw [hS.old _ (by rw [zs.out];exact (GE hca).1) hir hia gim fun e=>hLi e.symm,zo.out _ hia]
theorem Xc3 {u5 u6 u7 u8 u9 B0 B1 B2 B4 B5 B6 B7 B8 B9 D0 D1 D2 D3 D4 D5 D6 D7 D8 D9 E0 E1 E2 E3 E4 E5 E6 E7 E8 E9 G0 G1 G2 G3 G4 G5 G6 G7 G8 G9 H4 H5 H6 H7 H8 H9 I0 I1 I2 I3 I4 I5 I6 I7 I8 I9 J0 J1 J2 J3 J4 J5 J6 J7 J8 J9 K0 K1 K3 K4 K5 K6 K7 K8 K9 L0 L1 L2 L3 L4 L5 L6 L7 L8 L9 M0 M1 M4 M5 M6 M7 M8 M9 N1 N5 N6 N7 N8 N9 O0 O1 O2 O3 O4 O5 O6 O7 O8 O9 R0 R1 R2 R3 R4 R5 R6 R7:Value} (h0:x.cell? (th tb 0)=some (P0 rb)) (hr:x.heap[rb]? = some (.cells (XH vT (.map (some mb)) vL vW vR vF stops) 179 (0,0))) (hL:x.ownsRow N 172 8 vL log.length (log.flatMap Yd))
 (hab:x.heap[ab]? = some (.cells (Yd ⟨num,2,-1,arg,0,0,0,false⟩).toArray 172 (0,0))) (hLa:vL.ownBlock≠some ab) (hLt:vL.ownBlock≠some tb) (hLr:vL.ownBlock≠some rb) (hLm:vL.ownBlock≠some mb) (hLi:vL.ownBlock≠some (A id)) (hN:N≤x.heap.size) (hlen:log.length < 70000)
 (hM:MapAt x mb A names) (hid:XV x (A id)) (hnm:∀ c∈names,XV x (A c)∧(A c=A id→c=id)) (hab':∀ c∈names,A c≠ab) (hia:A id≠ab) (hit:A id≠tb) (hir:A id≠rb) (hv:x.cell? (th (A id) 0)=some (.int .i64 was))
 (h:∀ y vL',YP x y rb ab mb N vT vL vL' vW vR vF stops A names id log ⟨num,2,-1,arg,0,was,arg,false⟩→JG Try.prog Post C (G (c.finish (.tuple #[.int .i64 was,.int .i64 (arg),.bool (false)])) cs) y) :
 JG Try.prog Post C (G ((base 101).at ⟨List.toArray ((P0 tb)::(P0 (A id))::(.int .i8 2)::(.int .i64 arg)::(.int .i64 0)::u5::u6::u7::u8::u9::B0::B1::B2::(P0 ab)::B4::B5::B6::B7::B8::B9::D0::D1::D2::D3::D4::D5::D6::D7::D8::D9::E0::E1::E2::E3::E4::E5::E6::E7::E8::E9::G0::G1::G2::G3::G4::G5::G6::G7::G8::G9::H4::H5::H6::H7::H8::H9::I0::I1::I2::I3::I4::I5::I6::I7::I8::I9::J0::J1::J2::J3::J4::J5::J6::J7::J8::J9::K0::K1::K3::K4::K5::K6::K7::K8::K9::L0::L1::L2::L3::L4::L5::L6::L7::L8::L9::M0::M1::M4::M5::M6::M7::M8::M9::N1::N5::N6::N7::N8::N9::O0::O1::O2::O3::O4::O5::O6::O7::O8::O9::R0::R1::R2::R3::R4::R5::R6::R7::[]),[]⟩ [.code (Code.from (Try.f101.body.getD .skip) 6)]) (c::cs)) x:=by
 have hend:=@Y3 Post C
 simp only [Try.f101,Option.getD_some,Code.from,Code.opsOf] at hend ⊢
 obtain ⟨ca,ta,hca⟩:=hid
 have gra:rb≠ab:=by rintro rfl;rw [hr] at hab;simp at hab
 have gma:mb≠ab:=by
  obtain ⟨es,cl,e,_⟩:=hM
  rintro rfl;rw [e] at hab;simp at hab
 have gim:A id≠mb:=by
  obtain ⟨es,cl,e,_⟩:=hM
  intro z;rw [z,e] at hca;simp at hca
 repeat first|refine jc rfl ?_|(first|refine ju rfl rfl ?_|(refine jv rfl rfl rfl fun K E f τ d=>?_;go_simp;refine f _ _ _ _ ?_;clear f K E τ d);try walk_nrm)
 refine Xt (f:=102) (args:=#[P0 (A id)]) Try.func102 (by kernel_rfl) (by kernel_rfl) rfl rfl rfl rfl (by decide) ?_
 refine YV hv ?_
 rw [Frame.finish_at]
 walk_nrm
 have a5:x.cell? (th ab 5)=some (.int .i64 0):=Xa hab 5
 have f5:x.frozen? (th ab 5)=false:=Xe hab 5
 repeat first|refine jc rfl ?_|(first|refine ju rfl rfl ?_|(refine jv rfl rfl rfl fun K E f τ d=>?_;go_simp;refine f _ _ _ _ ?_;clear f K E τ d);try walk_nrm)
 refine jo rfl rfl rfl (by decide) fun K E hK hE τ d=>?_
 have hf:=ust (And.intro a5 f5) τ d
 obtain ⟨hf,hg⟩:=hf
 go_simp
 refine hK _ _ ?_
 rw [Xd]
 refine jt ?_
 clear hf hg hK hE K E τ d
 try walk_nrm
 clear a5 f5
 have z0:(x.setCell (th ab 5) (.int .i64 was)).cell? (th tb 0)=some (P0 rb):=Xk (by simp [th]) h0
 have zr:=(Xb (w:=x) (k:=5) (v:=.int .i64 was) gra).trans hr
 have za:(x.setCell (th ab 5) (.int .i64 was)).heap[ab]? = some (.cells (Yd ⟨num,2,-1,arg,0,was,0,false⟩).toArray 172 (0,0)):=by
  rw [Xc hab];rfl
 have zL:=Xh (w':=x.setCell (th ab 5) (.int .i64 was)) hL (fun g e=>Xb (fun z=>hLa (z ▸ e)))
 have zs:=Xg x (th ab 5) (.int .i64 was)
 have zo:∀ r,r≠ab→(x.setCell (th ab 5) (.int .i64 was)).heap[r]? = x.heap[r]?:=fun r h=>Xb h
 have zM:=hM.heap (zo mb gma)
 have zca:=(zo _ hia).trans hca
 have zv:(x.setCell (th ab 5) (.int .i64 was)).cell? (th (A id) 0)=some (.int .i64 was):=Xk (by simp [th]) hv
 have znm:∀ c∈names,XV (x.setCell (th ab 5) (.int .i64 was)) (A c)∧(A c=A id→c=id):=fun c hc=>by
  obtain ⟨⟨ca,ta,e⟩,h2⟩:=hnm c hc
  exact ⟨⟨ca,ta,(zo _ (hab' c hc)).trans e⟩,h2⟩
 generalize x.setCell (th ab 5) (.int .i64 was)=z at z0 zr za zL zs zo zM zca zv znm ⊢
 clear hr hab hL hM h0
 have zf:z.frozen? (th (A id) 0)=false:=Xe zca 0
 replace zo:=HD zo
 replace zs:=HD zs
 replace znm:=HD znm
 replace hnm:=HD hnm
 replace hab':=HD hab'
 repeat first|refine jc rfl ?_|(first|refine ju rfl rfl ?_|(refine jv rfl rfl rfl fun K E f τ d=>?_;go_simp;refine f _ _ _ _ ?_;clear f K E τ d);try walk_nrm)
 refine Xt (f:=80) (args:=#[P0 (A id),.int .i64 arg]) Try.func80 (by kernel_rfl) (by kernel_rfl) rfl rfl rfl rfl (by decide) ?_
 refine XaU zv zf ?_
 rw [Frame.finish_at]
 walk_nrm
 have wr:=(Xb (w:=z) (k:=0) (v:=.int .i64 (arg)) (fun e=>hir e.symm)).trans zr
 have wa:=(Xb (w:=z) (k:=0) (v:=.int .i64 (arg)) (fun e=>hia e.symm)).trans za
 have wL:=Xh (w':=z.setCell (th (A id) 0) (.int .i64 (arg))) zL (fun g e=>Xb (fun z=>hLi (z ▸ e)))
 have ws:=Xg z (th (A id) 0) (.int .i64 (arg))
 have wo:∀ r,r≠A id→(z.setCell (th (A id) 0) (.int .i64 (arg))).heap[r]? = z.heap[r]?:=fun r h=>Xb h
 have wM:=zM.heap (wo mb gim.symm)
 have wc:(z.setCell (th (A id) 0) (.int .i64 (arg))).heap[A id]? = some (.cells (ca.setIfInBounds 0 (.int .i64 (arg))) ta (0,0)):=Xc zca
 have wx:(z.setCell (th (A id) 0) (.int .i64 (arg))).heap[A id]? = (x.setCell (th (A id) 0) (.int .i64 (arg))).heap[A id]?:=by rw [wc,Xc hca]
 have w0:(z.setCell (th (A id) 0) (.int .i64 (arg))).cell? (th tb 0)=some (P0 rb):=(Za (fun e=>hit e.symm)).trans z0
 have wv:(z.setCell (th (A id) 0) (.int .i64 (arg))).cell? (th (A id) 0)=some (.int .i64 (arg)):=by
  obtain ⟨h1,_⟩:=GE ((Xa zca 0).symm.trans zv)
  rw [Xa wc,Array.getElem?_setIfInBounds_self_of_lt h1]
 have wnm:∀ c∈names,XV (z.setCell (th (A id) 0) (.int .i64 (arg))) (A c)∧(A c=A id→c=id):=fun c hc=>by
  obtain ⟨⟨ca',ta',e⟩,h2⟩:=znm.out c hc
  by_cases e2:A c=A id
  ·exact ⟨⟨_,_,by rw [e2];exact wc⟩,h2⟩
  ·exact ⟨⟨ca',ta',(wo _ e2).trans e⟩,h2⟩
 generalize z.setCell (th (A id) 0) (.int .i64 (arg))=w at wr wa wL ws wo wM wc wx w0 wv wnm ⊢
 replace wo:=HD wo
 replace ws:=HD ws
 replace wnm:=HD wnm
 replace wx:=HD wx
 repeat first|refine jc rfl ?_|(first|refine ju rfl rfl ?_|(refine jv rfl rfl rfl fun K E f τ d=>?_;go_simp;refine f _ _ _ _ ?_;clear f K E τ d);try walk_nrm)
 refine hend (x:=w) (a:=⟨num,2,-1,arg,0,was,arg,false⟩) w0 wr wL wa hLa hLt hLr hLm (by rw [ws.out,zs.out];exact hN) hlen wM ⟨_,ta,wc⟩ wnm.out hab'.out hia wv fun y vL' hS=>?_
 refine h y vL' ⟨hS.obj,hS.log,?_,hS.map,by rw [← zs.out,← ws.out];exact hS.size,fun r e1 e2 e3 e4 e5 e6=>by rw [hS.old r (by rw [ws.out,zs.out];exact e1) e2 e3 e4 e6,wo.out r e5,zo.out r e3],?_⟩
 ·rcases hS.lnew with h|⟨g,h,h'⟩
  ·exact .inl h
  ·exact .inr ⟨g,h,by rw [← zs.out,← ws.out];exact h'⟩
 ·rw [hS.old _ (by rw [ws.out,zs.out];exact (GE hca).1) hir hia gim fun e=>hLi e.symm];exact wx.out
theorem XdS {u5 u6 u7 u8 u9 B0 B1 B2 B4 B5 B6 B7 B8 B9 D0 D1 D2 D3 D4 D5 D6 D7 D8 D9 E0 E1 E2 E3 E4 E5 E6 E7 E8 E9 G0 G1 G2 G3 G4 G5 G6 G7 G8 G9 H4 H5 H6 H7 H8 H9 I0 I1 I2 I3 I4 I5 I6 I7 I8 I9 J0 J1 J2 J3 J4 J5 J6 J7 J8 J9 K0 K1 K3 K4 K5 K6 K7 K8 K9 L0 L1 L2 L3 L4 L5 L6 L7 L8 L9 M0 M1 M4 M5 M6 M7 M8 M9 N1 N5 N6 N7 N8 N9 O0 O1 O2 O3 O4 O5 O6 O7 O8 O9 R0 R1 R2 R3 R4 R5 R6 R7:Value} (h0:x.cell? (th tb 0)=some (P0 rb)) (hr:x.heap[rb]? = some (.cells (XH vT (.map (some mb)) vL vW vR vF stops) 179 (0,0))) (hL:x.ownsRow N 172 8 vL log.length (log.flatMap Yd))
 (hab:x.heap[ab]? = some (.cells (Yd ⟨num,5,-1,arg,0,0,0,false⟩).toArray 172 (0,0))) (hLa:vL.ownBlock≠some ab) (hLt:vL.ownBlock≠some tb) (hLr:vL.ownBlock≠some rb) (hLm:vL.ownBlock≠some mb) (hLi:vL.ownBlock≠some (A id)) (hN:N≤x.heap.size) (hlen:log.length < 70000)
 (hM:MapAt x mb A names) (hid:XV x (A id)) (hnm:∀ c∈names,XV x (A c)∧(A c=A id→c=id)) (hab':∀ c∈names,A c≠ab) (hia:A id≠ab) (hit:A id≠tb) (hir:A id≠rb) (hv:x.cell? (th (A id) 0)=some (.int .i64 was))
 (h:∀ y vL',YP x y rb ab mb N vT vL vL' vW vR vF stops A names id log ⟨num,5,-1,arg,0,was,arg,false⟩→JG Try.prog Post C (G (c.finish (.tuple #[.int .i64 was,.int .i64 (arg),.bool (false)])) cs) y) :
 JG Try.prog Post C (G ((base 101).at ⟨List.toArray ((P0 tb)::(P0 (A id))::(.int .i8 5)::(.int .i64 arg)::(.int .i64 0)::u5::u6::u7::u8::u9::B0::B1::B2::(P0 ab)::B4::B5::B6::B7::B8::B9::D0::D1::D2::D3::D4::D5::D6::D7::D8::D9::E0::E1::E2::E3::E4::E5::E6::E7::E8::E9::G0::G1::G2::G3::G4::G5::G6::G7::G8::G9::H4::H5::H6::H7::H8::H9::I0::I1::I2::I3::I4::I5::I6::I7::I8::I9::J0::J1::J2::J3::J4::J5::J6::J7::J8::J9::K0::K1::K3::K4::K5::K6::K7::K8::K9::L0::L1::L2::L3::L4::L5::L6::L7::L8::L9::M0::M1::M4::M5::M6::M7::M8::M9::N1::N5::N6::N7::N8::N9::O0::O1::O2::O3::O4::O5::O6::O7::O8::O9::R0::R1::R2::R3::R4::R5::R6::R7::[]),[]⟩ [.code (Code.from (Try.f101.body.getD .skip) 6)]) (c::cs)) x:=by
 have hend:=@Y3 Post C
 simp only [Try.f101,Option.getD_some,Code.from,Code.opsOf] at hend ⊢
 obtain ⟨ca,ta,hca⟩:=hid
 have gra:rb≠ab:=by rintro rfl;rw [hr] at hab;simp at hab
 have gma:mb≠ab:=by
  obtain ⟨es,cl,e,_⟩:=hM
  rintro rfl;rw [e] at hab;simp at hab
 have gim:A id≠mb:=by
  obtain ⟨es,cl,e,_⟩:=hM
  intro z;rw [z,e] at hca;simp at hca
 repeat first|refine jc rfl ?_|(first|refine ju rfl rfl ?_|(refine jv rfl rfl rfl fun K E f τ d=>?_;go_simp;refine f _ _ _ _ ?_;clear f K E τ d);try walk_nrm)
 refine Xt (f:=102) (args:=#[P0 (A id)]) Try.func102 (by kernel_rfl) (by kernel_rfl) rfl rfl rfl rfl (by decide) ?_
 refine YV hv ?_
 rw [Frame.finish_at]
 walk_nrm
 have a5:x.cell? (th ab 5)=some (.int .i64 0):=Xa hab 5
 have f5:x.frozen? (th ab 5)=false:=Xe hab 5
 repeat first|refine jc rfl ?_|(first|refine ju rfl rfl ?_|(refine jv rfl rfl rfl fun K E f τ d=>?_;go_simp;refine f _ _ _ _ ?_;clear f K E τ d);try walk_nrm)
 refine jo rfl rfl rfl (by decide) fun K E hK hE τ d=>?_
 have hf:=ust (And.intro a5 f5) τ d
 obtain ⟨hf,hg⟩:=hf
 go_simp
 refine hK _ _ ?_
 rw [Xd]
 refine jt ?_
 clear hf hg hK hE K E τ d
 try walk_nrm
 clear a5 f5
 have z0:(x.setCell (th ab 5) (.int .i64 was)).cell? (th tb 0)=some (P0 rb):=Xk (by simp [th]) h0
 have zr:=(Xb (w:=x) (k:=5) (v:=.int .i64 was) gra).trans hr
 have za:(x.setCell (th ab 5) (.int .i64 was)).heap[ab]? = some (.cells (Yd ⟨num,5,-1,arg,0,was,0,false⟩).toArray 172 (0,0)):=by
  rw [Xc hab];rfl
 have zL:=Xh (w':=x.setCell (th ab 5) (.int .i64 was)) hL (fun g e=>Xb (fun z=>hLa (z ▸ e)))
 have zs:=Xg x (th ab 5) (.int .i64 was)
 have zo:∀ r,r≠ab→(x.setCell (th ab 5) (.int .i64 was)).heap[r]? = x.heap[r]?:=fun r h=>Xb h
 have zM:=hM.heap (zo mb gma)
 have zca:=(zo _ hia).trans hca
 have zv:(x.setCell (th ab 5) (.int .i64 was)).cell? (th (A id) 0)=some (.int .i64 was):=Xk (by simp [th]) hv
 have znm:∀ c∈names,XV (x.setCell (th ab 5) (.int .i64 was)) (A c)∧(A c=A id→c=id):=fun c hc=>by
  obtain ⟨⟨ca,ta,e⟩,h2⟩:=hnm c hc
  exact ⟨⟨ca,ta,(zo _ (hab' c hc)).trans e⟩,h2⟩
 generalize x.setCell (th ab 5) (.int .i64 was)=z at z0 zr za zL zs zo zM zca zv znm ⊢
 clear hr hab hL hM h0
 have zf:z.frozen? (th (A id) 0)=false:=Xe zca 0
 replace zo:=HD zo
 replace zs:=HD zs
 replace znm:=HD znm
 replace hnm:=HD hnm
 replace hab':=HD hab'
 repeat first|refine jc rfl ?_|(first|refine ju rfl rfl ?_|(refine jv rfl rfl rfl fun K E f τ d=>?_;go_simp;refine f _ _ _ _ ?_;clear f K E τ d);try walk_nrm)
 refine Xt (f:=80) (args:=#[P0 (A id),.int .i64 arg]) Try.func80 (by kernel_rfl) (by kernel_rfl) rfl rfl rfl rfl (by decide) ?_
 refine XaU zv zf ?_
 rw [Frame.finish_at]
 walk_nrm
 have wr:=(Xb (w:=z) (k:=0) (v:=.int .i64 (arg)) (fun e=>hir e.symm)).trans zr
 have wa:=(Xb (w:=z) (k:=0) (v:=.int .i64 (arg)) (fun e=>hia e.symm)).trans za
 have wL:=Xh (w':=z.setCell (th (A id) 0) (.int .i64 (arg))) zL (fun g e=>Xb (fun z=>hLi (z ▸ e)))
 have ws:=Xg z (th (A id) 0) (.int .i64 (arg))
 have wo:∀ r,r≠A id→(z.setCell (th (A id) 0) (.int .i64 (arg))).heap[r]? = z.heap[r]?:=fun r h=>Xb h
 have wM:=zM.heap (wo mb gim.symm)
 have wc:(z.setCell (th (A id) 0) (.int .i64 (arg))).heap[A id]? = some (.cells (ca.setIfInBounds 0 (.int .i64 (arg))) ta (0,0)):=Xc zca
 have wx:(z.setCell (th (A id) 0) (.int .i64 (arg))).heap[A id]? = (x.setCell (th (A id) 0) (.int .i64 (arg))).heap[A id]?:=by rw [wc,Xc hca]
 have w0:(z.setCell (th (A id) 0) (.int .i64 (arg))).cell? (th tb 0)=some (P0 rb):=(Za (fun e=>hit e.symm)).trans z0
 have wv:(z.setCell (th (A id) 0) (.int .i64 (arg))).cell? (th (A id) 0)=some (.int .i64 (arg)):=by
  obtain ⟨h1,_⟩:=GE ((Xa zca 0).symm.trans zv)
  rw [Xa wc,Array.getElem?_setIfInBounds_self_of_lt h1]
 have wnm:∀ c∈names,XV (z.setCell (th (A id) 0) (.int .i64 (arg))) (A c)∧(A c=A id→c=id):=fun c hc=>by
  obtain ⟨⟨ca',ta',e⟩,h2⟩:=znm.out c hc
  by_cases e2:A c=A id
  ·exact ⟨⟨_,_,by rw [e2];exact wc⟩,h2⟩
  ·exact ⟨⟨ca',ta',(wo _ e2).trans e⟩,h2⟩
 generalize z.setCell (th (A id) 0) (.int .i64 (arg))=w at wr wa wL ws wo wM wc wx w0 wv wnm ⊢
 replace wo:=HD wo
 replace ws:=HD ws
 replace wnm:=HD wnm
 replace wx:=HD wx
 repeat first|refine jc rfl ?_|(first|refine ju rfl rfl ?_|(refine jv rfl rfl rfl fun K E f τ d=>?_;go_simp;refine f _ _ _ _ ?_;clear f K E τ d);try walk_nrm)
 refine hend (x:=w) (a:=⟨num,5,-1,arg,0,was,arg,false⟩) w0 wr wL wa hLa hLt hLr hLm (by rw [ws.out,zs.out];exact hN) hlen wM ⟨_,ta,wc⟩ wnm.out hab'.out hia wv fun y vL' hS=>?_
 refine h y vL' ⟨hS.obj,hS.log,?_,hS.map,by rw [← zs.out,← ws.out];exact hS.size,fun r e1 e2 e3 e4 e5 e6=>by rw [hS.old r (by rw [ws.out,zs.out];exact e1) e2 e3 e4 e6,wo.out r e5,zo.out r e3],?_⟩
 ·rcases hS.lnew with h|⟨g,h,h'⟩
  ·exact .inl h
  ·exact .inr ⟨g,h,by rw [← zs.out,← ws.out];exact h'⟩
 ·rw [hS.old _ (by rw [ws.out,zs.out];exact (GE hca).1) hir hia gim fun e=>hLi e.symm];exact wx.out
theorem Xe1 {u5 u6 u7 u8 u9 B0 B1 B2 B4 B5 B6 B7 B8 B9 D0 D1 D2 D3 D4 D5 D6 D7 D8 D9 E0 E1 E2 E3 E4 E5 E6 E7 E8 E9 G0 G1 G2 G3 G4 G5 G6 G7 G8 G9 H4 H5 H6 H7 H8 H9 I0 I1 I2 I3 I4 I5 I6 I7 I8 I9 J0 J1 J2 J3 J4 J5 J6 J7 J8 J9 K0 K1 K3 K4 K5 K6 K7 K8 K9 L0 L1 L2 L3 L4 L5 L6 L7 L8 L9 M0 M1 M4 M5 M6 M7 M8 M9 N1 N5 N6 N7 N8 N9 O0 O1 O2 O3 O4 O5 O6 O7 O8 O9 R0 R1 R2 R3 R4 R5 R6 R7:Value} (h0:x.cell? (th tb 0)=some (P0 rb)) (hr:x.heap[rb]? = some (.cells (XH vT (.map (some mb)) vL vW vR vF stops) 179 (0,0))) (hL:x.ownsRow N 172 8 vL log.length (log.flatMap Yd))
 (hab:x.heap[ab]? = some (.cells (Yd ⟨num,4,-1,arg,0,0,0,false⟩).toArray 172 (0,0))) (hLa:vL.ownBlock≠some ab) (hLt:vL.ownBlock≠some tb) (hLr:vL.ownBlock≠some rb) (hLm:vL.ownBlock≠some mb) (hLi:vL.ownBlock≠some (A id)) (hN:N≤x.heap.size) (hlen:log.length < 70000)
 (hM:MapAt x mb A names) (hid:XV x (A id)) (hnm:∀ c∈names,XV x (A c)∧(A c=A id→c=id)) (hab':∀ c∈names,A c≠ab) (hia:A id≠ab) (hit:A id≠tb) (hir:A id≠rb) (hv:x.cell? (th (A id) 0)=some (.int .i64 was))
 (h:∀ y vL',YP x y rb ab mb N vT vL vL' vW vR vF stops A names id log ⟨num,4,-1,arg,0,was,wrap64 (was + arg),false⟩→JG Try.prog Post C (G (c.finish (.tuple #[.int .i64 was,.int .i64 (wrap64 (was + arg)),.bool (false)])) cs) y) :
 JG Try.prog Post C (G ((base 101).at ⟨List.toArray ((P0 tb)::(P0 (A id))::(.int .i8 4)::(.int .i64 arg)::(.int .i64 0)::u5::u6::u7::u8::u9::B0::B1::B2::(P0 ab)::B4::B5::B6::B7::B8::B9::D0::D1::D2::D3::D4::D5::D6::D7::D8::D9::E0::E1::E2::E3::E4::E5::E6::E7::E8::E9::G0::G1::G2::G3::G4::G5::G6::G7::G8::G9::H4::H5::H6::H7::H8::H9::I0::I1::I2::I3::I4::I5::I6::I7::I8::I9::J0::J1::J2::J3::J4::J5::J6::J7::J8::J9::K0::K1::K3::K4::K5::K6::K7::K8::K9::L0::L1::L2::L3::L4::L5::L6::L7::L8::L9::M0::M1::M4::M5::M6::M7::M8::M9::N1::N5::N6::N7::N8::N9::O0::O1::O2::O3::O4::O5::O6::O7::O8::O9::R0::R1::R2::R3::R4::R5::R6::R7::[]),[]⟩ [.code (Code.from (Try.f101.body.getD .skip) 6)]) (c::cs)) x:=by
 have hend:=@Y3 Post C
 simp only [Try.f101,Option.getD_some,Code.from,Code.opsOf] at hend ⊢
 obtain ⟨ca,ta,hca⟩:=hid
 have gra:rb≠ab:=by rintro rfl;rw [hr] at hab;simp at hab
 have gma:mb≠ab:=by
  obtain ⟨es,cl,e,_⟩:=hM
  rintro rfl;rw [e] at hab;simp at hab
 have gim:A id≠mb:=by
  obtain ⟨es,cl,e,_⟩:=hM
  intro z;rw [z,e] at hca;simp at hca
 repeat first|refine jc rfl ?_|(first|refine ju rfl rfl ?_|(refine jv rfl rfl rfl fun K E f τ d=>?_;go_simp;refine f _ _ _ _ ?_;clear f K E τ d);try walk_nrm)
 refine Xt (f:=102) (args:=#[P0 (A id)]) Try.func102 (by kernel_rfl) (by kernel_rfl) rfl rfl rfl rfl (by decide) ?_
 refine YV hv ?_
 rw [Frame.finish_at]
 walk_nrm
 have a5:x.cell? (th ab 5)=some (.int .i64 0):=Xa hab 5
 have f5:x.frozen? (th ab 5)=false:=Xe hab 5
 repeat first|refine jc rfl ?_|(first|refine ju rfl rfl ?_|(refine jv rfl rfl rfl fun K E f τ d=>?_;go_simp;refine f _ _ _ _ ?_;clear f K E τ d);try walk_nrm)
 refine jo rfl rfl rfl (by decide) fun K E hK hE τ d=>?_
 have hf:=ust (And.intro a5 f5) τ d
 obtain ⟨hf,hg⟩:=hf
 go_simp
 refine hK _ _ ?_
 rw [Xd]
 refine jt ?_
 clear hf hg hK hE K E τ d
 try walk_nrm
 clear a5 f5
 have z0:(x.setCell (th ab 5) (.int .i64 was)).cell? (th tb 0)=some (P0 rb):=Xk (by simp [th]) h0
 have zr:=(Xb (w:=x) (k:=5) (v:=.int .i64 was) gra).trans hr
 have za:(x.setCell (th ab 5) (.int .i64 was)).heap[ab]? = some (.cells (Yd ⟨num,4,-1,arg,0,was,0,false⟩).toArray 172 (0,0)):=by
  rw [Xc hab];rfl
 have zL:=Xh (w':=x.setCell (th ab 5) (.int .i64 was)) hL (fun g e=>Xb (fun z=>hLa (z ▸ e)))
 have zs:=Xg x (th ab 5) (.int .i64 was)
 have zo:∀ r,r≠ab→(x.setCell (th ab 5) (.int .i64 was)).heap[r]? = x.heap[r]?:=fun r h=>Xb h
 have zM:=hM.heap (zo mb gma)
 have zca:=(zo _ hia).trans hca
 have zv:(x.setCell (th ab 5) (.int .i64 was)).cell? (th (A id) 0)=some (.int .i64 was):=Xk (by simp [th]) hv
 have znm:∀ c∈names,XV (x.setCell (th ab 5) (.int .i64 was)) (A c)∧(A c=A id→c=id):=fun c hc=>by
  obtain ⟨⟨ca,ta,e⟩,h2⟩:=hnm c hc
  exact ⟨⟨ca,ta,(zo _ (hab' c hc)).trans e⟩,h2⟩
 generalize x.setCell (th ab 5) (.int .i64 was)=z at z0 zr za zL zs zo zM zca zv znm ⊢
 clear hr hab hL hM h0
 have zf:z.frozen? (th (A id) 0)=false:=Xe zca 0
 replace zo:=HD zo
 replace zs:=HD zs
 replace znm:=HD znm
 replace hnm:=HD hnm
 replace hab':=HD hab'
 repeat first|refine jc rfl ?_|(first|refine ju rfl rfl ?_|(refine jv rfl rfl rfl fun K E f τ d=>?_;go_simp;refine f _ _ _ _ ?_;clear f K E τ d);try walk_nrm)
 refine Xt (f:=124) (args:=#[P0 (A id),.int .i64 arg]) Try.func124 (by kernel_rfl) (by kernel_rfl) rfl rfl rfl rfl (by decide) ?_
 refine Xeh zv zf ?_
 rw [Frame.finish_at]
 walk_nrm
 have wr:=(Xb (w:=z) (k:=0) (v:=.int .i64 (wrap64 (was + arg))) (fun e=>hir e.symm)).trans zr
 have wa:=(Xb (w:=z) (k:=0) (v:=.int .i64 (wrap64 (was + arg))) (fun e=>hia e.symm)).trans za
 have wL:=Xh (w':=z.setCell (th (A id) 0) (.int .i64 (wrap64 (was + arg)))) zL (fun g e=>Xb (fun z=>hLi (z ▸ e)))
 have ws:=Xg z (th (A id) 0) (.int .i64 (wrap64 (was + arg)))
 have wo:∀ r,r≠A id→(z.setCell (th (A id) 0) (.int .i64 (wrap64 (was + arg)))).heap[r]? = z.heap[r]?:=fun r h=>Xb h
 have wM:=zM.heap (wo mb gim.symm)
 have wc:(z.setCell (th (A id) 0) (.int .i64 (wrap64 (was + arg)))).heap[A id]? = some (.cells (ca.setIfInBounds 0 (.int .i64 (wrap64 (was + arg)))) ta (0,0)):=Xc zca
 have wx:(z.setCell (th (A id) 0) (.int .i64 (wrap64 (was + arg)))).heap[A id]? = (x.setCell (th (A id) 0) (.int .i64 (wrap64 (was + arg)))).heap[A id]?:=by rw [wc,Xc hca]
 have w0:(z.setCell (th (A id) 0) (.int .i64 (wrap64 (was + arg)))).cell? (th tb 0)=some (P0 rb):=(Za (fun e=>hit e.symm)).trans z0
 have wv:(z.setCell (th (A id) 0) (.int .i64 (wrap64 (was + arg)))).cell? (th (A id) 0)=some (.int .i64 (wrap64 (was + arg))):=by
  obtain ⟨h1,_⟩:=GE ((Xa zca 0).symm.trans zv)
  rw [Xa wc,Array.getElem?_setIfInBounds_self_of_lt h1]
 have wnm:∀ c∈names,XV (z.setCell (th (A id) 0) (.int .i64 (wrap64 (was + arg)))) (A c)∧(A c=A id→c=id):=fun c hc=>by
  obtain ⟨⟨ca',ta',e⟩,h2⟩:=znm.out c hc
  by_cases e2:A c=A id
  ·exact ⟨⟨_,_,by rw [e2];exact wc⟩,h2⟩
  ·exact ⟨⟨ca',ta',(wo _ e2).trans e⟩,h2⟩
 generalize z.setCell (th (A id) 0) (.int .i64 (wrap64 (was + arg)))=w at wr wa wL ws wo wM wc wx w0 wv wnm ⊢
 replace wo:=HD wo
 replace ws:=HD ws
 replace wnm:=HD wnm
 replace wx:=HD wx
 repeat first|refine jc rfl ?_|(first|refine ju rfl rfl ?_|(refine jv rfl rfl rfl fun K E f τ d=>?_;go_simp;refine f _ _ _ _ ?_;clear f K E τ d);try walk_nrm)
 refine hend (x:=w) (a:=⟨num,4,-1,arg,0,was,wrap64 (was + arg),false⟩) w0 wr wL wa hLa hLt hLr hLm (by rw [ws.out,zs.out];exact hN) hlen wM ⟨_,ta,wc⟩ wnm.out hab'.out hia wv fun y vL' hS=>?_
 refine h y vL' ⟨hS.obj,hS.log,?_,hS.map,by rw [← zs.out,← ws.out];exact hS.size,fun r e1 e2 e3 e4 e5 e6=>by rw [hS.old r (by rw [ws.out,zs.out];exact e1) e2 e3 e4 e6,wo.out r e5,zo.out r e3],?_⟩
 ·rcases hS.lnew with h|⟨g,h,h'⟩
  ·exact .inl h
  ·exact .inr ⟨g,h,by rw [← zs.out,← ws.out];exact h'⟩
 ·rw [hS.old _ (by rw [ws.out,zs.out];exact (GE hca).1) hir hia gim fun e=>hLi e.symm];exact wx.out
theorem XdV {u5 u6 u7 u8 u9 B0 B1 B2 B4 B5 B6 B7 B8 B9 D0 D1 D2 D3 D4 D5 D6 D7 D8 D9 E0 E1 E2 E3 E4 E5 E6 E7 E8 E9 G0 G1 G2 G3 G4 G5 G6 G7 G8 G9 H4 H5 H6 H7 H8 H9 I0 I1 I2 I3 I4 I5 I6 I7 I8 I9 J0 J1 J2 J3 J4 J5 J6 J7 J8 J9 K0 K1 K3 K4 K5 K6 K7 K8 K9 L0 L1 L2 L3 L4 L5 L6 L7 L8 L9 M0 M1 M4 M5 M6 M7 M8 M9 N1 N5 N6 N7 N8 N9 O0 O1 O2 O3 O4 O5 O6 O7 O8 O9 R0 R1 R2 R3 R4 R5 R6 R7:Value} (h0:x.cell? (th tb 0)=some (P0 rb)) (hr:x.heap[rb]? = some (.cells (XH vT (.map (some mb)) vL vW vR vF stops) 179 (0,0))) (hL:x.ownsRow N 172 8 vL log.length (log.flatMap Yd))
 (hab:x.heap[ab]? = some (.cells (Yd ⟨num,3,-1,arg,new,0,0,false⟩).toArray 172 (0,0))) (hLa:vL.ownBlock≠some ab) (hLt:vL.ownBlock≠some tb) (hLr:vL.ownBlock≠some rb) (hLm:vL.ownBlock≠some mb) (hLi:vL.ownBlock≠some (A id)) (hN:N≤x.heap.size) (hlen:log.length < 70000)
 (hM:MapAt x mb A names) (hid:XV x (A id)) (hnm:∀ c∈names,XV x (A c)∧(A c=A id→c=id)) (hab':∀ c∈names,A c≠ab) (hia:A id≠ab) (hit:A id≠tb) (hir:A id≠rb) (hv:x.cell? (th (A id) 0)=some (.int .i64 was)) (he:was=arg)
 (h:∀ y vL',YP x y rb ab mb N vT vL vL' vW vR vF stops A names id log ⟨num,3,-1,arg,new,was,new,true⟩→JG Try.prog Post C (G (c.finish (.tuple #[.int .i64 was,.int .i64 (new),.bool (true)])) cs) y) :
 JG Try.prog Post C (G ((base 101).at ⟨List.toArray ((P0 tb)::(P0 (A id))::(.int .i8 3)::(.int .i64 arg)::(.int .i64 new)::u5::u6::u7::u8::u9::B0::B1::B2::(P0 ab)::B4::B5::B6::B7::B8::B9::D0::D1::D2::D3::D4::D5::D6::D7::D8::D9::E0::E1::E2::E3::E4::E5::E6::E7::E8::E9::G0::G1::G2::G3::G4::G5::G6::G7::G8::G9::H4::H5::H6::H7::H8::H9::I0::I1::I2::I3::I4::I5::I6::I7::I8::I9::J0::J1::J2::J3::J4::J5::J6::J7::J8::J9::K0::K1::K3::K4::K5::K6::K7::K8::K9::L0::L1::L2::L3::L4::L5::L6::L7::L8::L9::M0::M1::M4::M5::M6::M7::M8::M9::N1::N5::N6::N7::N8::N9::O0::O1::O2::O3::O4::O5::O6::O7::O8::O9::R0::R1::R2::R3::R4::R5::R6::R7::[]),[]⟩ [.code (Code.from (Try.f101.body.getD .skip) 6)]) (c::cs)) x:=by
 replace he:=HD he
 have hend:=@Y3 Post C
 simp only [Try.f101,Option.getD_some,Code.from,Code.opsOf] at hend ⊢
 obtain ⟨ca,ta,hca⟩:=hid
 have gra:rb≠ab:=by rintro rfl;rw [hr] at hab;simp at hab
 have gma:mb≠ab:=by
  obtain ⟨es,cl,e,_⟩:=hM
  rintro rfl;rw [e] at hab;simp at hab
 have gim:A id≠mb:=by
  obtain ⟨es,cl,e,_⟩:=hM
  intro z;rw [z,e] at hca;simp at hca
 repeat first|refine jc rfl ?_|(first|refine ju rfl rfl ?_|(refine jv rfl rfl rfl fun K E f τ d=>?_;go_simp;refine f _ _ _ _ ?_;clear f K E τ d);try walk_nrm)
 refine Xt (f:=102) (args:=#[P0 (A id)]) Try.func102 (by kernel_rfl) (by kernel_rfl) rfl rfl rfl rfl (by decide) ?_
 refine YV hv ?_
 rw [Frame.finish_at]
 walk_nrm
 have a5:x.cell? (th ab 5)=some (.int .i64 0):=Xa hab 5
 have f5:x.frozen? (th ab 5)=false:=Xe hab 5
 repeat first|refine jc rfl ?_|(first|refine ju rfl rfl ?_|(refine jv rfl rfl rfl fun K E f τ d=>?_;go_simp;refine f _ _ _ _ ?_;clear f K E τ d);try walk_nrm)
 refine jo rfl rfl rfl (by decide) fun K E hK hE τ d=>?_
 have hf:=ust (And.intro a5 f5) τ d
 obtain ⟨hf,hg⟩:=hf
 go_simp
 refine hK _ _ ?_
 rw [Xd]
 refine jt ?_
 clear hf hg hK hE K E τ d
 try walk_nrm
 clear a5 f5
 have z0:(x.setCell (th ab 5) (.int .i64 was)).cell? (th tb 0)=some (P0 rb):=Xk (by simp [th]) h0
 have zr:=(Xb (w:=x) (k:=5) (v:=.int .i64 was) gra).trans hr
 have za:(x.setCell (th ab 5) (.int .i64 was)).heap[ab]? = some (.cells (Yd ⟨num,3,-1,arg,new,was,0,false⟩).toArray 172 (0,0)):=by
  rw [Xc hab];rfl
 have zL:=Xh (w':=x.setCell (th ab 5) (.int .i64 was)) hL (fun g e=>Xb (fun z=>hLa (z ▸ e)))
 have zs:=Xg x (th ab 5) (.int .i64 was)
 have zo:∀ r,r≠ab→(x.setCell (th ab 5) (.int .i64 was)).heap[r]? = x.heap[r]?:=fun r h=>Xb h
 have zM:=hM.heap (zo mb gma)
 have zca:=(zo _ hia).trans hca
 have zv:(x.setCell (th ab 5) (.int .i64 was)).cell? (th (A id) 0)=some (.int .i64 was):=Xk (by simp [th]) hv
 have znm:∀ c∈names,XV (x.setCell (th ab 5) (.int .i64 was)) (A c)∧(A c=A id→c=id):=fun c hc=>by
  obtain ⟨⟨ca,ta,e⟩,h2⟩:=hnm c hc
  exact ⟨⟨ca,ta,(zo _ (hab' c hc)).trans e⟩,h2⟩
 generalize x.setCell (th ab 5) (.int .i64 was)=z at z0 zr za zL zs zo zM zca zv znm ⊢
 clear hr hab hL hM h0
 have zf:z.frozen? (th (A id) 0)=false:=Xe zca 0
 replace zo:=HD zo
 replace zs:=HD zs
 replace znm:=HD znm
 replace hnm:=HD hnm
 replace hab':=HD hab'
 repeat first|refine jc rfl ?_|(first|refine ju rfl rfl ?_|(refine jv rfl rfl rfl fun K E f τ d=>?_;go_simp;refine f _ _ _ _ ?_;clear f K E τ d);try walk_nrm)
 refine Xt (f:=126) (args:=#[P0 (A id),.int .i64 arg,.int .i64 new]) Try.func126 (by kernel_rfl) (by kernel_rfl) rfl rfl rfl rfl (by decide) ?_
 refine XcJ zv zf ?_
 rw [Frame.finish_at]
 walk_nrm
 rw [if_pos he.out,decide_eq_true he.out]
 have wr:=(Xb (w:=z) (k:=0) (v:=.int .i64 (new)) (fun e=>hir e.symm)).trans zr
 have wa:=(Xb (w:=z) (k:=0) (v:=.int .i64 (new)) (fun e=>hia e.symm)).trans za
 have wL:=Xh (w':=z.setCell (th (A id) 0) (.int .i64 (new))) zL (fun g e=>Xb (fun z=>hLi (z ▸ e)))
 have ws:=Xg z (th (A id) 0) (.int .i64 (new))
 have wo:∀ r,r≠A id→(z.setCell (th (A id) 0) (.int .i64 (new))).heap[r]? = z.heap[r]?:=fun r h=>Xb h
 have wM:=zM.heap (wo mb gim.symm)
 have wc:(z.setCell (th (A id) 0) (.int .i64 (new))).heap[A id]? = some (.cells (ca.setIfInBounds 0 (.int .i64 (new))) ta (0,0)):=Xc zca
 have wx:(z.setCell (th (A id) 0) (.int .i64 (new))).heap[A id]? = (x.setCell (th (A id) 0) (.int .i64 (new))).heap[A id]?:=by rw [wc,Xc hca]
 have w0:(z.setCell (th (A id) 0) (.int .i64 (new))).cell? (th tb 0)=some (P0 rb):=(Za (fun e=>hit e.symm)).trans z0
 have wv:(z.setCell (th (A id) 0) (.int .i64 (new))).cell? (th (A id) 0)=some (.int .i64 (new)):=by
  obtain ⟨h1,_⟩:=GE ((Xa zca 0).symm.trans zv)
  rw [Xa wc,Array.getElem?_setIfInBounds_self_of_lt h1]
 have wnm:∀ c∈names,XV (z.setCell (th (A id) 0) (.int .i64 (new))) (A c)∧(A c=A id→c=id):=fun c hc=>by
  obtain ⟨⟨ca',ta',e⟩,h2⟩:=znm.out c hc
  by_cases e2:A c=A id
  ·exact ⟨⟨_,_,by rw [e2];exact wc⟩,h2⟩
  ·exact ⟨⟨ca',ta',(wo _ e2).trans e⟩,h2⟩
 generalize z.setCell (th (A id) 0) (.int .i64 (new))=w at wr wa wL ws wo wM wc wx w0 wv wnm ⊢
 replace wo:=HD wo
 replace ws:=HD ws
 replace wnm:=HD wnm
 replace wx:=HD wx
 have b7:w.cell? (th ab 7)=some (.bool false):=Xa wa 7
 have f7:w.frozen? (th ab 7)=false:=Xe wa 7
 repeat first|refine jc rfl ?_|(first|refine ju rfl rfl ?_|(refine jv rfl rfl rfl fun K E f τ d=>?_;go_simp;refine f _ _ _ _ ?_;clear f K E τ d);try walk_nrm)
 refine jo rfl rfl rfl (by decide) fun K E hK hE τ d=>?_
 have hf:=ust (And.intro b7 f7) τ d
 obtain ⟨hf,hg⟩:=hf
 go_simp
 refine hK _ _ ?_
 rw [Xd]
 refine jt ?_
 clear hf hg hK hE K E τ d
 try walk_nrm
 clear b7 f7
 have vr:=(Xb (w:=w) (k:=7) (v:=.bool true) gra).trans wr
 have va:(w.setCell (th ab 7) (.bool true)).heap[ab]? = some (.cells (Yd ⟨num,3,-1,arg,new,was,0,true⟩).toArray 172 (0,0)):=by
  rw [Xc wa];rfl
 have vL':=Xh (w':=w.setCell (th ab 7) (.bool true)) wL (fun g e=>Xb (fun z=>hLa (z ▸ e)))
 have vs:=Xg w (th ab 7) (.bool true)
 have vo:∀ r,r≠ab→(w.setCell (th ab 7) (.bool true)).heap[r]? = w.heap[r]?:=fun r h=>Xb h
 have v0:(w.setCell (th ab 7) (.bool true)).cell? (th tb 0)=some (P0 rb):=Xk (by simp [th]) w0
 have vv:(w.setCell (th ab 7) (.bool true)).cell? (th (A id) 0)=some (.int .i64 (new)):=Xk (by simp [th]) wv
 generalize w.setCell (th ab 7) (.bool true)=v at vr va vL' vs vo v0 vv ⊢
 replace vo:=HD vo
 have wM':=wM.heap (vo.out mb gma)
 have wc':=(vo.out _ hia).trans wc
 have wnm':∀ c∈names,XV v (A c)∧(A c=A id→c=id):=fun c hc=>by
  obtain ⟨⟨ca',ta',e⟩,h2⟩:=wnm.out c hc
  exact ⟨⟨ca',ta',(vo.out _ (hab'.out c hc)).trans e⟩,h2⟩
 have wx':=(vo.out _ hia).trans wx.out
 replace wnm':=HD wnm'
 replace vs:=HD vs
 repeat first|refine jc rfl ?_|(first|refine ju rfl rfl ?_|(refine jv rfl rfl rfl fun K E f τ d=>?_;go_simp;refine f _ _ _ _ ?_;clear f K E τ d);try walk_nrm)
 refine hend (x:=v) (a:=⟨num,3,-1,arg,new,was,new,true⟩) v0 vr vL' va hLa hLt hLr hLm (by rw [vs.out,ws.out,zs.out];exact hN) hlen wM' ⟨_,ta,wc'⟩ wnm'.out hab'.out hia vv fun y vL' hS=>?_
 refine h y vL' ⟨hS.obj,hS.log,?_,hS.map,by rw [← zs.out,← ws.out,← vs.out];exact hS.size,fun r e1 e2 e3 e4 e5 e6=>by rw [hS.old r (by rw [vs.out,ws.out,zs.out];exact e1) e2 e3 e4 e6,vo.out r e3,wo.out r e5,zo.out r e3],?_⟩
 ·rcases hS.lnew with h|⟨g,h,h'⟩
  ·exact .inl h
  ·exact .inr ⟨g,h,by rw [← zs.out,← ws.out,← vs.out];exact h'⟩
 ·rw [hS.old _ (by rw [vs.out,ws.out,zs.out];exact (GE hca).1) hir hia gim fun e=>hLi e.symm];exact wx'
theorem XdW {u5 u6 u7 u8 u9 B0 B1 B2 B4 B5 B6 B7 B8 B9 D0 D1 D2 D3 D4 D5 D6 D7 D8 D9 E0 E1 E2 E3 E4 E5 E6 E7 E8 E9 G0 G1 G2 G3 G4 G5 G6 G7 G8 G9 H4 H5 H6 H7 H8 H9 I0 I1 I2 I3 I4 I5 I6 I7 I8 I9 J0 J1 J2 J3 J4 J5 J6 J7 J8 J9 K0 K1 K3 K4 K5 K6 K7 K8 K9 L0 L1 L2 L3 L4 L5 L6 L7 L8 L9 M0 M1 M4 M5 M6 M7 M8 M9 N1 N5 N6 N7 N8 N9 O0 O1 O2 O3 O4 O5 O6 O7 O8 O9 R0 R1 R2 R3 R4 R5 R6 R7:Value} (h0:x.cell? (th tb 0)=some (P0 rb)) (hr:x.heap[rb]? = some (.cells (XH vT (.map (some mb)) vL vW vR vF stops) 179 (0,0))) (hL:x.ownsRow N 172 8 vL log.length (log.flatMap Yd))
 (hab:x.heap[ab]? = some (.cells (Yd ⟨num,3,-1,arg,new,0,0,false⟩).toArray 172 (0,0))) (hLa:vL.ownBlock≠some ab) (hLt:vL.ownBlock≠some tb) (hLr:vL.ownBlock≠some rb) (hLm:vL.ownBlock≠some mb) (hLi:vL.ownBlock≠some (A id)) (hN:N≤x.heap.size) (hlen:log.length < 70000)
 (hM:MapAt x mb A names) (hid:XV x (A id)) (hnm:∀ c∈names,XV x (A c)∧(A c=A id→c=id)) (hab':∀ c∈names,A c≠ab) (hia:A id≠ab) (hit:A id≠tb) (hir:A id≠rb) (hv:x.cell? (th (A id) 0)=some (.int .i64 was)) (he:was≠arg)
 (h:∀ y vL',YP x y rb ab mb N vT vL vL' vW vR vF stops A names id log ⟨num,3,-1,arg,new,was,was,false⟩→JG Try.prog Post C (G (c.finish (.tuple #[.int .i64 was,.int .i64 (was),.bool (false)])) cs) y) :
 JG Try.prog Post C (G ((base 101).at ⟨List.toArray ((P0 tb)::(P0 (A id))::(.int .i8 3)::(.int .i64 arg)::(.int .i64 new)::u5::u6::u7::u8::u9::B0::B1::B2::(P0 ab)::B4::B5::B6::B7::B8::B9::D0::D1::D2::D3::D4::D5::D6::D7::D8::D9::E0::E1::E2::E3::E4::E5::E6::E7::E8::E9::G0::G1::G2::G3::G4::G5::G6::G7::G8::G9::H4::H5::H6::H7::H8::H9::I0::I1::I2::I3::I4::I5::I6::I7::I8::I9::J0::J1::J2::J3::J4::J5::J6::J7::J8::J9::K0::K1::K3::K4::K5::K6::K7::K8::K9::L0::L1::L2::L3::L4::L5::L6::L7::L8::L9::M0::M1::M4::M5::M6::M7::M8::M9::N1::N5::N6::N7::N8::N9::O0::O1::O2::O3::O4::O5::O6::O7::O8::O9::R0::R1::R2::R3::R4::R5::R6::R7::[]),[]⟩ [.code (Code.from (Try.f101.body.getD .skip) 6)]) (c::cs)) x:=by
 replace he:=HD he
 have hend:=@Y3 Post C
 simp only [Try.f101,Option.getD_some,Code.from,Code.opsOf] at hend ⊢
 obtain ⟨ca,ta,hca⟩:=hid
 have gra:rb≠ab:=by rintro rfl;rw [hr] at hab;simp at hab
 have gma:mb≠ab:=by
  obtain ⟨es,cl,e,_⟩:=hM
  rintro rfl;rw [e] at hab;simp at hab
 have gim:A id≠mb:=by
  obtain ⟨es,cl,e,_⟩:=hM
  intro z;rw [z,e] at hca;simp at hca
 repeat first|refine jc rfl ?_|(first|refine ju rfl rfl ?_|(refine jv rfl rfl rfl fun K E f τ d=>?_;go_simp;refine f _ _ _ _ ?_;clear f K E τ d);try walk_nrm)
 refine Xt (f:=102) (args:=#[P0 (A id)]) Try.func102 (by kernel_rfl) (by kernel_rfl) rfl rfl rfl rfl (by decide) ?_
 refine YV hv ?_
 rw [Frame.finish_at]
 walk_nrm
 have a5:x.cell? (th ab 5)=some (.int .i64 0):=Xa hab 5
 have f5:x.frozen? (th ab 5)=false:=Xe hab 5
 repeat first|refine jc rfl ?_|(first|refine ju rfl rfl ?_|(refine jv rfl rfl rfl fun K E f τ d=>?_;go_simp;refine f _ _ _ _ ?_;clear f K E τ d);try walk_nrm)
 refine jo rfl rfl rfl (by decide) fun K E hK hE τ d=>?_
 have hf:=ust (And.intro a5 f5) τ d
 obtain ⟨hf,hg⟩:=hf
 go_simp
 refine hK _ _ ?_
 rw [Xd]
 refine jt ?_
 clear hf hg hK hE K E τ d
 try walk_nrm
 clear a5 f5
 have z0:(x.setCell (th ab 5) (.int .i64 was)).cell? (th tb 0)=some (P0 rb):=Xk (by simp [th]) h0
 have zr:=(Xb (w:=x) (k:=5) (v:=.int .i64 was) gra).trans hr
 have za:(x.setCell (th ab 5) (.int .i64 was)).heap[ab]? = some (.cells (Yd ⟨num,3,-1,arg,new,was,0,false⟩).toArray 172 (0,0)):=by
  rw [Xc hab];rfl
 have zL:=Xh (w':=x.setCell (th ab 5) (.int .i64 was)) hL (fun g e=>Xb (fun z=>hLa (z ▸ e)))
 have zs:=Xg x (th ab 5) (.int .i64 was)
 have zo:∀ r,r≠ab→(x.setCell (th ab 5) (.int .i64 was)).heap[r]? = x.heap[r]?:=fun r h=>Xb h
 have zM:=hM.heap (zo mb gma)
 have zca:=(zo _ hia).trans hca
 have zv:(x.setCell (th ab 5) (.int .i64 was)).cell? (th (A id) 0)=some (.int .i64 was):=Xk (by simp [th]) hv
 have znm:∀ c∈names,XV (x.setCell (th ab 5) (.int .i64 was)) (A c)∧(A c=A id→c=id):=fun c hc=>by
  obtain ⟨⟨ca,ta,e⟩,h2⟩:=hnm c hc
  exact ⟨⟨ca,ta,(zo _ (hab' c hc)).trans e⟩,h2⟩
 generalize x.setCell (th ab 5) (.int .i64 was)=z at z0 zr za zL zs zo zM zca zv znm ⊢
 clear hr hab hL hM h0
 have zf:z.frozen? (th (A id) 0)=false:=Xe zca 0
 replace zo:=HD zo
 replace zs:=HD zs
 replace znm:=HD znm
 replace hnm:=HD hnm
 replace hab':=HD hab'
 repeat first|refine jc rfl ?_|(first|refine ju rfl rfl ?_|(refine jv rfl rfl rfl fun K E f τ d=>?_;go_simp;refine f _ _ _ _ ?_;clear f K E τ d);try walk_nrm)
 refine Xt (f:=126) (args:=#[P0 (A id),.int .i64 arg,.int .i64 new]) Try.func126 (by kernel_rfl) (by kernel_rfl) rfl rfl rfl rfl (by decide) ?_
 refine XcJ zv zf ?_
 rw [Frame.finish_at]
 walk_nrm
 rw [if_neg he.out,decide_eq_false he.out]
 have b7:z.cell? (th ab 7)=some (.bool false):=Xa za 7
 have f7:z.frozen? (th ab 7)=false:=Xe za 7
 repeat first|refine jc rfl ?_|(first|refine ju rfl rfl ?_|(refine jv rfl rfl rfl fun K E f τ d=>?_;go_simp;refine f _ _ _ _ ?_;clear f K E τ d);try walk_nrm)
 refine jo rfl rfl rfl (by decide) fun K E hK hE τ d=>?_
 have hf:=ust (And.intro b7 f7) τ d
 obtain ⟨hf,hg⟩:=hf
 go_simp
 refine hK _ _ ?_
 rw [Xd]
 refine jt ?_
 clear hf hg hK hE K E τ d
 try walk_nrm
 clear b7 f7
 have vr:=(Xb (w:=z) (k:=7) (v:=.bool false) gra).trans zr
 have va:(z.setCell (th ab 7) (.bool false)).heap[ab]? = some (.cells (Yd ⟨num,3,-1,arg,new,was,0,false⟩).toArray 172 (0,0)):=by
  rw [Xc za];rfl
 have vL':=Xh (w':=z.setCell (th ab 7) (.bool false)) zL (fun g e=>Xb (fun z=>hLa (z ▸ e)))
 have vs:=Xg z (th ab 7) (.bool false)
 have vo:∀ r,r≠ab→(z.setCell (th ab 7) (.bool false)).heap[r]? = z.heap[r]?:=fun r h=>Xb h
 have v0:(z.setCell (th ab 7) (.bool false)).cell? (th tb 0)=some (P0 rb):=Xk (by simp [th]) z0
 have vv:(z.setCell (th ab 7) (.bool false)).cell? (th (A id) 0)=some (.int .i64 was):=Xk (by simp [th]) zv
 generalize z.setCell (th ab 7) (.bool false)=v at vr va vL' vs vo v0 vv ⊢
 replace vo:=HD vo
 have wM':=zM.heap (vo.out mb gma)
 have wc':=(vo.out _ hia).trans zca
 have wnm':∀ c∈names,XV v (A c)∧(A c=A id→c=id):=fun c hc=>by
  obtain ⟨⟨ca',ta',e⟩,h2⟩:=znm.out c hc
  exact ⟨⟨ca',ta',(vo.out _ (hab'.out c hc)).trans e⟩,h2⟩
 replace wnm':=HD wnm'
 replace vs:=HD vs
 repeat first|refine jc rfl ?_|(first|refine ju rfl rfl ?_|(refine jv rfl rfl rfl fun K E f τ d=>?_;go_simp;refine f _ _ _ _ ?_;clear f K E τ d);try walk_nrm)
 refine hend (x:=v) (a:=⟨num,3,-1,arg,new,was,was,false⟩) v0 vr vL' va hLa hLt hLr hLm (by rw [vs.out,zs.out];exact hN) hlen wM' ⟨_,ta,wc'⟩ wnm'.out hab'.out hia vv fun y vL' hS=>?_
 refine h y vL' ⟨hS.obj,hS.log,?_,hS.map,by rw [← zs.out,← vs.out];exact hS.size,fun r e1 e2 e3 e4 e5 e6=>by rw [hS.old r (by rw [vs.out,zs.out];exact e1) e2 e3 e4 e6,vo.out r e3,zo.out r e3],?_⟩
 ·rcases hS.lnew with h|⟨g,h,h'⟩
  ·exact .inl h
  ·exact .inr ⟨g,h,by rw [← zs.out,← vs.out];exact h'⟩
 ·rw [VA hca hv]
  rw [hS.old _ (by rw [vs.out,zs.out];exact (GE hca).1) hir hia gim fun e=>hLi e.symm,vo.out _ hia,zo.out _ hia]
end
end Go.Proofs.Ytdhnggjmegilkaa
