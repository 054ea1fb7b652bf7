/- What the walks of several laws share: more mild functions; a free cell's Add and Swap under J, cell.New; worlds whose old blocks stand. -/
import Derived.Test.YtdgfekplfipekaaVRnD
import Derived.Test.YtdgfekplfipekaaVTkL
import Derived.Test.YtdgfekplfipekaaVGtC
import Derived.Test.YtdgfekplfipekaaVGtO
import Derived.Test.YtdgfekplfipekaaVGtK
import Derived.Test.YtdgfekplfipekaaVTkK
import Derived.Test.YtdgfekplfipekaaVCell
set_option linter.all false
set_option maxRecDepth 100000
set_option maxHeartbeats 16000000
namespace Go.Proofs.Ytdgfekplfipekaa
open Go.Conc Go.RowKit
open Go.ConcN (upd upd_same upd_ne)
set_option maxRecDepth 100000
structure Stepped (x y:World) (rb ab mb N:Nat) (vT vL vL' vW vR vF:Value) (stops:Bool) (A:Nat→Nat) (names:List Nat) (id:Nat) (log:List Xo) (a:Xo):Prop where
 obj:y.heap[rb]? = some (.cells (XH vT (.map (some mb)) vL' vW vR vF stops) 85 (0,0))
 log:y.ownsRow N 89 8 vL' (log.length + 1) ((log ++ [{ a with cell:=(names.idxOf id:Nat) }]).flatMap Yj)
 lnew:vL'.ownBlock=vL.ownBlock∨∃ g,vL'.ownBlock=some g∧x.heap.size≤g
 map:MapAt y mb A (if id∈names then names else names ++ [id])
 size:x.heap.size≤y.heap.size
 old:∀ r,r < x.heap.size→r≠rb→r≠ab→r≠mb→some r≠vL.ownBlock→y.heap[r]? = x.heap[r]?
section
variable {Post:Value→World→Prop} {C:Ctx} {x:World} {c:Frame} {cs:List Frame} {tb rb ab mb N:Nat} {vT vL vW vR vF:Value} {stops:Bool} {a:Xo} {A:Nat→Nat} {names:List Nat} {id:Nat} {v:Int} {log:List Xo}
theorem Zb {u2 u3 u4 u5 u6 u7 u8 u9 B0 B1 B2 B4 B5 B6 B7 B8 B9 D0 D1 D2 D3 D4 D5 D6 D7 D8 D9 E0 E1 E2 E3 E4 E5 E6 E7 E8 E9 G0 G1 G2 G3 G4 G5 G6 G7 G8 G9 H0 H4 H5 H6 H7 H8 H9 I1 I2 I3 I4 I5 I6 I7 I8 I9 J0 J1 J2 J4 J5 J6 J7 J8 J9 K0 K1 K2 K3 K4 K5 K6 K7 K8 K9 L0 L1 L2 L3 L4 L5 L6 L7 L8 L9 M0 M3 M4 M5 M6 M7 M8 M9 N0 N1 N5 N6 N7 N8 N9 O0 O1 O2 O3 O4 O5 O6 O7 O8 O9 R0 R1 R2 R3 R4 R5:Value} (h0:x.cell? (th tb 0)=some (P0 rb)) (hr:x.heap[rb]? = some (.cells (XH vT (.map (some mb)) vL vW vR vF stops) 85 (0,0))) (hL:x.ownsRow N 89 8 vL log.length (log.flatMap Yj))
 (hab:x.heap[ab]? = some (.cells (Yj { a with now:=0 }).toArray 89 (0,0))) (hLa:vL.ownBlock≠some ab) (hLt:vL.ownBlock≠some tb) (hLr:vL.ownBlock≠some rb) (hLm:vL.ownBlock≠some mb) (hN:N≤x.heap.size) (hlen:log.length < 70000)
 (hM:MapAt x mb A names) (hid:XZ x (A id)) (hnm:∀ c∈names,XZ x (A c)∧(A c=A id→c=id)) (hab':∀ c∈names,A c≠ab) (hia:A id≠ab) (hv:x.cell? (th (A id) 0)=some (.int .i64 a.now))
 (h:∀ y vL',Stepped x y rb ab mb N vT vL vL' vW vR vF stops A names id log a→JG Try.prog Post C (G (c.finish (.tuple #[.int .i64 a.was,.int .i64 a.now,.bool a.ok])) cs) y) :
 JG Try.prog Post C (G ((base 33).at ⟨List.toArray ((P0 tb)::(P0 (A id))::u2::u3::u4::u5::u6::u7::u8::u9::B0::B1::B2::(P0 ab)::B4::B5::B6::B7::B8::B9::D0::D1::D2::D3::D4::D5::D6::D7::D8::D9::E0::E1::E2::E3::E4::E5::E6::E7::E8::E9::G0::G1::G2::G3::G4::G5::G6::G7::G8::G9::H0::H4::H5::H6::H7::H8::H9::I1::I2::I3::I4::I5::I6::I7::I8::I9::J0::J1::J2::(P0 (A id))::J4::J5::J6::J7::J8::J9::K0::K1::K2::K3::K4::K5::K6::K7::K8::K9::L0::L1::L2::L3::L4::L5::L6::L7::L8::L9::M0::M3::M4::M5::M6::M7::M8::M9::N0::N1::N5::N6::N7::N8::N9::O0::O1::O2::O3::O4::O5::O6::O7::O8::O9::R0::R1::R2::R3::R4::R5::[]),[]⟩ [.inRegion (Code.opsOf (Code.from (Try.f33.body.getD .skip) 8)) [1,2,3],.code (Code.from (Try.f33.body.getD .skip) 9)]) (c::cs)) x:=by
 have hlog:=@Xb3 Post C;simp only [Try.f33,Option.getD_some,Code.from,Code.opsOf] at hlog ⊢;refine kf (args:=#[P0 (A id)]) Try.func34 ?_;refine Y1 hv ?_;rw [Frame.finish_at];walk_nrm;have a6:x.cell? (th ab 6)=some (.int .i64 0):=Xa hab 6;have f6:x.frozen? (th ab 6)=false:=Xe hab 6
 repeat refine kx ?_
 refine kst (And.intro a6 f6) ?_;clear a6 f6;have gra:rb≠ab:=by rintro rfl;rw [hr] at hab;simp at hab
 have gma:mb≠ab:=by
  obtain ⟨es,cl,e,_⟩:=hM;rintro rfl;rw [e] at hab;simp at hab
 have grm:rb≠mb:=by
  obtain ⟨es,cl,e,_⟩:=hM;rintro rfl;rw [e] at hr;simp at hr
 have gtm:tb≠mb:=by
  obtain ⟨es,cl,e,_⟩:=hM;rintro rfl;simp [World.cell?,th,e] at h0
 have gam:∀ c,XZ x (A c)→A c≠mb:=fun c ⟨ca,ta,e1⟩=>by
  obtain ⟨es,cl,e,_⟩:=hM;intro z;rw [z,e] at e1;simp at e1
 have z0:(x.setCell (th ab 6) (.int .i64 a.now)).cell? (th tb 0)=some (P0 rb):=Xi (by simp [th]) h0;have zr:=(Xb (w:=x) (k:=6) (v:=.int .i64 a.now) gra).trans hr;have za:(x.setCell (th ab 6) (.int .i64 a.now)).heap[ab]? = some (.cells (Yj a).toArray 89 (0,0)):=by
  rw [Xd hab];rfl
 have zL:=Xj (w':=x.setCell (th ab 6) (.int .i64 a.now)) hL (fun g e=>Xb (fun z=>hLa (z ▸ e)));have zs:=Xh x (th ab 6) (.int .i64 a.now);have zo:∀ r,r≠ab→(x.setCell (th ab 6) (.int .i64 a.now)).heap[r]? = x.heap[r]?:=fun r h=>Xb h;have zM:=hM.heap (zo mb gma);have zid:XZ (x.setCell (th ab 6) (.int .i64 a.now)) (A id):=by obtain ⟨ca,ta,e⟩:=hid;exact ⟨ca,ta,(zo _ hia).trans e⟩
 have znm:∀ c∈names,XZ (x.setCell (th ab 6) (.int .i64 a.now)) (A c)∧(A c=A id→c=id):=fun c hc=>by
  obtain ⟨⟨ca,ta,e⟩,h2⟩:=hnm c hc;exact ⟨⟨ca,ta,(zo _ (hab' c hc)).trans e⟩,h2⟩
 generalize x.setCell (th ab 6) (.int .i64 a.now)=z at z0 zr za zL zs zo zM zid znm ⊢;clear h0 hr hab hL hM hv;have hlk:∀ τ d,(Instr.lookup 81 (.map (some mb)) (P0 (A id)) true).run Try.prog (under z τ d)=.ok (.tuple #[.int .i64 (if id∈names then (names.idxOf id:Nat) else (0:Nat):Nat),.bool (decide (id∈names))]) (under z τ d):=fun τ d=>Wq (w:=under z τ d) zM zid znm;have zr1:z.cell? (th rb 1)=some (.map (some mb)):=Xa zr 1;replace zo:=HD zo;replace zs:=HD zs;replace znm':=HD znm;replace hnm:=HD hnm;replace hab':=HD hab';replace gam:=HD gam;clear znm
 by_cases hin:id∈names
 ·simp only [hin,if_true,decide_true] at hlk
  repeat refine kx ?_
  refine hlog z0 zr zL za hLa hLt hLr (by rw [zs.out];exact hN) hlen fun y vL' k1 k2 k3 k4 k5=>?_;refine h y vL' ⟨k1,k2,?_,?_,by rw [← zs.out];exact k4,fun r e1 e2 e3 e4 e5=>by rw [k5 r (by rw [zs.out];exact e1) e2 e3 e5,zo.out r e3]⟩
  ·rcases k3 with h|⟨g,h,h'⟩
   ·exact .inl h
   ·exact .inr ⟨g,h,by rw [← zs.out];exact h'⟩
  ·rw [if_pos hin]
   refine zM.heap (k5 mb ?_ grm.symm gma fun e=>hLm e.symm);obtain ⟨es,cl,e,_⟩:=zM;exact (GE e).1
 ·simp only [hin,if_false,decide_false] at hlk
  obtain ⟨es,cl,ze,zsz⟩:=XcK zM;have ze':=fun τ d=>(show (under z τ d).heap[mb]? = some (.map es cl) from ze)
  have hlen':∀ τ d,(Builtin.len_ #[81] 3 #[.map (some mb)]).run Try.prog (under z τ d)=.ok (.int .i64 (names.length:Nat)) (under z τ d):=fun τ d=>by
   simp [Builtin.len_,run_underlying Try.underlying81,MapKept.run_getObj_map (ze' τ d),zsz,goInt]
  clear ze'
  repeat refine kx ?_
  refine JG.mapUpd rfl rfl ze rfl (by rfl) (by decide) (fun K E hK hE τ d=>?_);obtain ⟨_,ho1,ho2,ho3,es',cl',rfl⟩:=XdR (w:=under z τ d) zM zid znm'.out hin;go_simp;refine hK _ _ ?_;have zM2:=ho2 { z with heap:=z.heap.setIfInBounds mb (.map es' cl') } (Array.getElem?_setIfInBounds_self_of_lt ho3);have zo2:∀ r,r≠mb→({ z with heap:=z.heap.setIfInBounds mb (.map es' cl') }:World).heap[r]? = z.heap[r]?:=fun r hr=>Array.getElem?_setIfInBounds_ne (fun e=>hr e.symm);have zs2:({ z with heap:=z.heap.setIfInBounds mb (.map es' cl') }:World).heap.size=z.heap.size:=by simp
  show JG _ _ _ _ (under { z with heap:=z.heap.setIfInBounds mb (.map es' cl') } τ d);refine jt ?_;generalize ({ z with heap:=z.heap.setIfInBounds mb (.map es' cl') }:World)=q at zM2 zo2 zs2 ⊢;clear hK hE K E ho1 ho2 hlen' hlk;have q0:q.cell? (th tb 0)=some (P0 rb):=by
   simp only [World.cell?];rw [zo2 tb gtm];exact z0
  have qr:=(zo2 rb grm).trans zr;have qa:=(zo2 ab gma.symm).trans za;have qL:=Xj (w':=q) zL fun g e=>zo2 g fun z=>hLm (z ▸ e);replace zo2:=HD zo2
  try walk_nrm
  repeat refine kx ?_
  refine hlog q0 qr qL qa hLa hLt hLr (by rw [zs2,zs.out];exact hN) hlen fun y vL' k1 k2 k3 k4 k5=>?_;have hix:(names.idxOf id:Nat)=names.length:=List.idxOf_eq_length hin;refine h y vL' ⟨k1,by rw [hix];exact k2,?_,?_,by rw [← zs.out,← zs2];exact k4,fun r e1 e2 e3 e4 e5=>by rw [k5 r (by rw [zs2,zs.out];exact e1) e2 e3 e5,zo2.out r e4,zo.out r e3]⟩
  ·rcases k3 with h|⟨g,h,h'⟩
   ·exact .inl h
   ·exact .inr ⟨g,h,by rw [← zs.out,← zs2];exact h'⟩
  ·rw [if_neg hin]
   refine zM2.heap (k5 mb ?_ grm.symm gma fun e=>hLm e.symm);obtain ⟨es,cl,e,_⟩:=zM2;exact (GE e).1
end
noncomputable def XeM (F:Fns) (f:FuncId):Bool:=match Try.prog.funcs[f]? with
 | some fn => !(fn.name == "runtime.NumGoroutine") && (match fn.body with | some c => YY F c | none => false)
 | none=>false
theorem XdD {F:Fns} {f:FuncId} (h:XeM F f=true):Xds F f:=by
 unfold XeM at h
 split at h
 ·rename_i fn hfn
  simp only [Bool.and_eq_true,Bool.not_eq_true'] at h;obtain ⟨h1,h2⟩:=h
  split at h2
  ·rename_i c hc
   exact ⟨fn,c,hfn,h1,hc,h2⟩
  ·cases h2
 ·cases h
theorem Xc5:QY Try.prog 54:=⟨Try.f54,Extern.Atomic.swapT (.int .i64),Try.func54,by rfl,by rfl,by kernel_rfl,by kernel_rfl,fun P S args=>V8⟩
noncomputable def FX (ms:List FuncId):Fns:={ fn:=fun f=>ms.contains f,maps:=false,top:=fun f=>decide (f < Try.prog.funcs.size),ext:=fun f=>(54::exts).contains f }
theorem Xat {ms:List FuncId} (S:YK) (h:(ms.all (XeM (FX ms)))=true):Closed Try.prog S (FX ms) where
 maps:=fun h=>by cases h
 text:=fun f hf=>XdD (List.all_eq_true.1 h f (List.contains_iff_mem.1 hf))
 exts:=fun f h=>by
  have h:=List.contains_iff_mem.1 h;rcases List.mem_cons.1 h with rfl|h
  ·exact Xc5
  ·exact Xap f (List.contains_iff_mem.2 h)
 tops:=fun f h=>by
  have h:f < Try.prog.funcs.size:=by simpa [FX] using h
  exact ⟨_,Array.getElem?_eq_getElem h⟩
 early:=Ug
theorem r_swap64 {w:World} {ad:Addr} {v u:Int} (hc:w.cell? ad=some (.int .i64 v)) (hz:w.frozen? ad=false):(callFunc 54 #[.pointer (some ad),.int .i64 u]).run Try.prog w=.ok (.value (.int .i64 v)) (w.setCell ad (.int .i64 u)):=by
 rw [run_callFunc_extern Try.func54 (by kernel_rfl) (by kernel_rfl) (by rfl) (by rfl:_=some (Extern.Atomic.swapT (.int .i64)))]
 change (Sem.run Try.prog (do
  let a' ← asAddr (.pointer (some ad))
  let old ← Extern.Atomic.read (.int .i64) a'
  store a' (.int .i64 u) .atomic
  pure old) w).andThen _=_
 simp [Extern.Atomic.read,asAddr,hc,hz,run_store Try.prog w ad (.int .i64 u) .atomic rfl,Result.andThen]
section
variable {Post:Value→World→Prop} {C:Ctx} {x:World} {c:Frame} {cs:List Frame} {b:Nat} {v:Int}
theorem iswap_J {u:Int} (h0:x.cell? (th b 0)=some (.int .i64 v)) (f0:x.frozen? (th b 0)=false) (h:JG Try.prog Post C (G (c.finish (.int .i64 v)) cs) (x.setCell (th b 0) (.int .i64 u))):JG Try.prog Post C (G (Frame.enter Try.prog 42 #[P0 b,.int .i64 u] .normal) (c::cs)) x:=by
 refine Xu Try.func42 (by rfl) (by rfl) ?_;simp only [Try.f42,Option.getD_some];walk_nrm;refine JG.code (Xat (ms:=[42]) _ (by kernel_rfl)) (by kernel_rfl) rfl (.inr (by kernel_rfl)) rfl (fun K R hK hR τ=>?_);replace hK:=HD hK;replace hR:=HD hR;have k0:(under x τ 0).cell? (th b 0)=some (.int .i64 v):=h0;have z0:(under x τ 0).frozen? (th b 0)=false:=f0;have hr:=r_swap64 (u:=u) k0 z0
 go_wp2
 refine ⟨rfl,?_⟩;refine hR.out _ _ (fun todo=>?_);rw [Xc];refine jt ?_;exact JG.leave rfl rfl Try.func42 (fun τ d=>results_tmp (t:=4) rfl _ _ _) h
theorem swap_J {u:Int} (hc:Xr x b v) (h:JG Try.prog Post C (G (c.finish (.int .i64 v)) cs) (x.setCell (th b 0) (.int .i64 u))):JG Try.prog Post C (G (Frame.enter Try.prog 29 #[P0 b,.pointer none,.int .i64 u] .normal) (c::cs)) x:=by
 refine Xu Try.func29 (by rfl) (by rfl) ?_;simp only [Try.f29,Option.getD_some];walk_nrm
 repeat refine kx ?_
 refine kf (args:=#[P0 b]) Try.func31 ?_;refine Vl hc.made ?_;rw [Frame.finish_at];walk_nrm
 repeat refine kx ?_
 refine kf (args:=#[.pointer none]) Try.func32 ?_;refine Xag ?_;rw [Frame.finish_at];walk_nrm
 repeat refine kx ?_
 refine kf (args:=#[P0 b,.int .i64 u]) Try.func42 ?_;refine iswap_J hc.v (hc.fr 0) ?_;rw [Frame.finish_at]
 try walk_nrm
 repeat refine kx ?_
 refine kf (args:=#[P0 b]) Try.func35 ?_;refine XbQ (hc.set (u:=u)).mu ((hc.set (u:=u)).fr 2) (hc.set (u:=u)).ch ?_;rw [Frame.finish_at]
 try walk_nrm
 repeat refine kx ?_
 refine JG.ret ?_;exact JG.leave rfl rfl Try.func29 (fun τ d=>results_tmp (t:=6) rfl _ _ _) h
theorem add_J {u:Int} (hc:Xr x b v) (h:JG Try.prog Post C (G (c.finish (.int .i64 (wrap64 (v + u)))) cs) (x.setCell (th b 0) (.int .i64 (wrap64 (v + u))))):JG Try.prog Post C (G (Frame.enter Try.prog 39 #[P0 b,.pointer none,.int .i64 u] .normal) (c::cs)) x:=by
 refine Xu Try.func39 (by rfl) (by rfl) ?_;simp only [Try.f39,Option.getD_some];walk_nrm
 repeat refine kx ?_
 refine kf (args:=#[P0 b]) Try.func31 ?_;refine Vl hc.made ?_;rw [Frame.finish_at];walk_nrm
 repeat refine kx ?_
 refine kf (args:=#[.pointer none]) Try.func32 ?_;refine Xag ?_;rw [Frame.finish_at];walk_nrm
 repeat refine kx ?_
 refine kf (args:=#[P0 b,.int .i64 u]) Try.func45 ?_;refine Xf1 hc.v (hc.fr 0) ?_;rw [Frame.finish_at]
 try walk_nrm
 repeat refine kx ?_
 refine kf (args:=#[P0 b]) Try.func35 ?_;refine XbQ (hc.set (u:=wrap64 (v + u))).mu ((hc.set (u:=wrap64 (v + u))).fr 2) (hc.set (u:=wrap64 (v + u))).ch ?_;rw [Frame.finish_at]
 try walk_nrm
 repeat refine kx ?_
 refine JG.ret ?_;exact JG.leave rfl rfl Try.func39 (fun τ d=>results_tmp (t:=6) rfl _ _ _) h
end
theorem XN.free {w:World} {b:Nat} {x:Int} (h:XN w b x):Xr w b x:=⟨h.c0,h.c1,h.c2,h.c4,h.fz⟩
noncomputable def makersX:List FuncId:=[9,27]
theorem closedMX (S:YK):Closed Try.prog S (FX makersX):=Xat S (by kernel_rfl)
def Xg (y z:World):Prop:=y.heap.size≤z.heap.size∧∀ r,r < y.heap.size→z.heap[r]? = y.heap[r]?
theorem Xg.refl (y:World):Xg y y:=⟨Nat.le_refl _,fun _ _=>rfl⟩
theorem Xg.trans {a b c:World} (h:Xg a b) (k:Xg b c):Xg a c:=⟨Nat.le_trans h.1 k.1,fun r hr=>(k.2 r (Nat.lt_of_lt_of_le hr h.1)).trans (h.2 r hr)⟩
theorem Xg.alloc {a b:World} (h:Xg a b) (o:Obj):Xg a (b.alloc o):=h.trans ⟨by simp,fun r hr=>by rw [Xl,Array.getElem?_push,if_neg (by omega)]⟩
theorem jal {P:Program} {Post:Value→World→Prop} {C:Ctx} {x:World} {g:Goroutine} {ob:Obj} {τ:Nat→Question→Nat} {d:Nat} (h:∀ y:World,Xg x y→y.heap[x.heap.size]? = some ob→y.heap.size=x.heap.size + 1→JG P Post C g y):JG P Post C g ((under x τ d).alloc ob) :=
 have e:(x.alloc ob).heap=x.heap.push ob:=rfl
 jt (x:=x.alloc ob) (h _ ((Xg.refl x).alloc ob) (by rw [e,Array.getElem?_push_size]) (by rw [e,Array.size_push]))
theorem Xg.cell {a b:World} (h:Xg a b) {p:Addr} {v:Value} (hc:a.cell? p=some v):b.cell? p=some v:=by
 have hlt:p.block < a.heap.size:=by
  unfold World.cell? at hc;rcases Nat.lt_or_ge p.block a.heap.size with h'|h'
  ·exact h'
  ·rw [Array.getElem?_eq_none h'] at hc;cases hc
 rw [World.cell?_of_block (h.2 _ hlt)];exact hc
theorem Xg.frozen {a b:World} (h:Xg a b) {p:Addr} (hp:p.block < a.heap.size):b.frozen? p=a.frozen? p:=by
 unfold World.frozen?;rw [h.2 _ hp]
section
variable {Post:Value→World→Prop} {C:Ctx} {x:World} {c:Frame} {cs:List Frame}
theorem cellNew_J {v:Int} (h:∀ y,Xg x y→Xr y x.heap.size v→y.heap.size=x.heap.size + 1→JG Try.prog Post C (G (c.finish (P0 x.heap.size)) cs) y):JG Try.prog Post C (G (Frame.enter Try.prog 9 #[.int .i64 v] .normal) (c::cs)) x:=by
 refine JG.calls (F:=FX makersX) (Q:=fun u y=>u=P0 x.heap.size∧Xg x y∧Xr y x.heap.size v∧y.heap.size=x.heap.size + 1) (closedMX _) (by kernel_rfl) (fun τ=>?_) (fun u y hq=>?_)
 ·refine (Xa4 v _).mono ?_
  rintro e y ⟨rfl,rfl⟩;exact ⟨_,rfl,rfl,(Xg.refl (under x τ 0)).alloc _,(Xbx (under x τ 0) v).free,by simp [Xs]⟩
 ·obtain ⟨rfl,h1,h2,h3⟩:=hq
  exact h y h1 h2 h3
theorem Xg.free {y z:World} {b:Nat} {v:Int} (h:Xg y z) (hc:Xr y b v):Xr z b v :=
 ⟨h.cell hc.v,h.cell hc.made,h.cell hc.mu,h.cell hc.ch,fun k=>(h.frozen (p:=th b k) (show b < y.heap.size from Xt (a:=th b 0) hc.v)).trans (hc.fr k)⟩
def But (b:Nat) (y z:World):Prop:=z.heap.size=y.heap.size∧∀ r,r≠b→z.heap[r]? = y.heap[r]?
theorem But.set (y:World) (b k:Nat) (u:Value):But b y (y.setCell (th b k) u):=⟨Xh _ _ _,fun r hr=>Xb hr⟩
theorem But.cell {b:Nat} {y z:World} (h:But b y z) {p:Addr} (hp:p.block≠b):z.cell? p=y.cell? p:=World.cell?_of_block (h.2 _ hp)
theorem But.free {b q:Nat} {y z:World} {v:Int} (h:But b y z) (hq:q≠b) (hc:Xr y q v):Xr z q v :=
 ⟨(h.cell (p:=th q 0) hq).trans hc.v,(h.cell (p:=th q 1) hq).trans hc.made,(h.cell (p:=th q 2) hq).trans hc.mu,(h.cell (p:=th q 4) hq).trans hc.ch,fun k=>by have:=hc.fr k;unfold World.frozen? at this ⊢;rw [h.2 q hq];exact this⟩
theorem Xg.but {b:Nat} {a y z:World} (h:Xg a y) (k:But b y z) (hb:a.heap.size≤b):Xg a z:=⟨by rw [k.1];exact h.1,fun r hr=>(k.2 r (by omega)).trans (h.2 r hr)⟩
end
theorem wrap_eq64 (z:Int):IntKind.i64.wrap z=wrap64 z:=by unfold wrap64;exact IntKind.wrap_i64 z
def XgT (Post:Value→World→Prop) (C:Ctx) (x:World):Prop:=∀ w,XcR w=C.io→x.heap.size≤w.heap.size→(∀ r,r < x.heap.size→w.heap[r]? = x.heap[r]?)→Post (.bool true) w
def XgL (C:Ctx) (x:World):Prop:=C.h=0∧C.d=0∧C.n=1∧(∀ i,C.Ch i=none)∧C.lo=x.heap.size
