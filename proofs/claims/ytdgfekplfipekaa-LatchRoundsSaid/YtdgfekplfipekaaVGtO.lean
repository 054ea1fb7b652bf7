/- A free cell's methods, without a gate. -/
import Derived.Test.YtdgfekplfipekaaVTkL
import Derived.Test.YtdgfekplfipekaaVGtE
import Derived.Conc.AtomicLaws2
import Derived.Conc.MuLone
set_option linter.all false
set_option maxRecDepth 100000
set_option maxHeartbeats 16000000
namespace Go.Proofs.Ytdgfekplfipekaa
open Go.Conc Go.RowKit
open Go.ConcN (upd upd_same upd_ne)
set_option maxRecDepth 100000
noncomputable def Xc4:List (FuncId):=[62,67,54]
noncomputable def FE:Fns:={ fn:=fun _=>false,maps:=false,top:=fun f=>decide (f < Try.prog.funcs.size),ext:=fun f=>Xc4.contains f }
theorem ZC:QY Try.prog 62:=⟨Try.f62,Extern.Atomic.casT (.int .i32),Try.func62,by rfl,by rfl,by kernel_rfl,by kernel_rfl,fun P S args=>XaI⟩
theorem WD:QY Try.prog 67:=⟨Try.f67,Extern.Atomic.update (Op.intArith .add) .i32 true,Try.func67,by rfl,by rfl,by kernel_rfl,by kernel_rfl,fun P S args=>Xcj⟩
theorem VU:QY Try.prog 54:=⟨Try.f54,Extern.Atomic.swapT (.int .i64),Try.func54,by rfl,by rfl,by kernel_rfl,by kernel_rfl,fun P S args=>V8⟩
theorem Xc3 (f:FuncId) (h:Xc4.contains f=true):QY Try.prog f:=by
 have h:=List.contains_iff_mem.1 h;simp only [Xc4,List.mem_cons,List.not_mem_nil,or_false] at h;rcases h with rfl|rfl|rfl
 ·exact ZC
 ·exact WD
 ·exact VU
theorem Xdg (S:YK):Closed Try.prog S FE where
 maps:=fun h=>by cases h
 text:=fun f h=>by cases h
 exts:=Xc3
 tops:=fun f h=>by
  have h:f < Try.prog.funcs.size:=by simpa [FE] using h
  exact ⟨_,Array.getElem?_eq_getElem h⟩
 early:=Ug
theorem Xe3 {w:World} {ad:Addr} {v n:Int} (hc:w.cell? ad=some (.int .i32 v)) (hz:w.frozen? ad=false):(callFunc 62 #[.pointer (some ad),.int .i32 v,.int .i32 n]).run Try.prog w=.ok (.value (.bool true)) (w.setCell ad (.int .i32 n)):=by
 rw [run_callFunc_extern Try.func62 (by kernel_rfl) (by kernel_rfl) (by rfl) (by rfl:_=some (Extern.Atomic.casT (.int .i32))),casT_eq,run_cas_hit_entry hc hz];rfl
theorem Xe5 {w:World} {ad:Addr} {v n:Int} (hc:w.cell? ad=some (.int .i32 v)) (hz:w.frozen? ad=false):(callFunc 67 #[.pointer (some ad),.int .i32 n]).run Try.prog w=.ok (.value (.int .i32 (IntKind.i32.wrap (v + n)))) (w.setCell ad (.int .i32 (IntKind.i32.wrap (v + n)))):=by
 rw [run_callFunc_extern Try.func67 (by kernel_rfl) (by kernel_rfl) (by rfl) (by rfl:_=some (Extern.Atomic.update (Op.intArith .add) .i32 true)),run_add_entry hc hz];rfl
theorem Xfn {Post:Value→World→Prop} {C:Ctx} {x:World} {c:Frame} {cs:List Frame} {b k:Nat} (h0:x.cell? (th b k)=some (.int .i32 0)) (f0:x.frozen? (th b k)=false)
 (h:JG Try.prog Post C (G (c.finish (.tuple #[])) cs) (x.setCell (th b k) (.int .i32 1))):JG Try.prog Post C (G (Frame.enter Try.prog 56 #[.pointer (some ⟨b,k,none⟩)] .normal) (c::cs)) x:=by
 refine Xu Try.func56 (by rfl) (by rfl) ?_;simp only [Try.f56,Option.getD_some];walk_nrm;refine JG.seq ?_;refine kc ?_;refine JG.disable rfl (by rfl) (by decide) rfl Try.func61 (by kernel_rfl) (by kernel_rfl) (by rfl) (by rfl) ?_
 try walk_nrm
 repeat first|refine JG.seq ?_|refine JG.skip ?_|refine JG.inBlock ?_|refine JG.block ?_|refine JG.done ?_|refine JG.label ?_
 refine JG.code (Xdg _) (by kernel_rfl) rfl (.inr (by kernel_rfl)) rfl (fun K R hK hR τ=>?_);replace hK:=HD hK;clear hR;have k0:(under x τ 0).cell? (th b k)=some (.int .i32 0):=h0;have z0:(under x τ 0).frozen? (th b k)=false:=f0;have hcas:=Xe3 (n:=1) k0 z0
 go_wp2
 refine hK.out _ _ ?_;rw [Xc];refine jt ?_;clear hK k0 z0 hcas K R τ;refine JG.condT rfl ?_;refine JG.seq ?_;refine JG.condT rfl ?_
 repeat first|refine JG.seq ?_|refine JG.skip ?_|refine JG.inBlock ?_|refine JG.block ?_|refine JG.done ?_|refine JG.label ?_
 refine kc ?_;refine JG.enable rfl (by rfl) (by decide) rfl Try.func63 (by kernel_rfl) (by kernel_rfl) (by rfl) (by rfl) ?_
 try walk_nrm
 repeat first|refine JG.seq ?_|refine JG.skip ?_|refine JG.inBlock ?_|refine JG.block ?_|refine JG.done ?_|refine JG.label ?_
 refine kc ?_;refine kx ?_;have c1:(x.setCell (th b k) (.int .i32 1)).cell? (th b k)=some (.int .i32 1):=by have:=World.cell?_setCell_same (w:=x) (a:=th b k) (v:=.int .i32 1) h0;exact this
 refine ko fun K E hK hE τ d=>?_;have hcv:=run_convert_to_unsafe (P:=Try.prog) (src:=116) (dst:=120) Try.underlying116 Try.underlying120 (by kernel_rfl) (uc τ d c1);go_simp;refine hK _ _ (jt ?_);clear hcv hK hE K E τ d
 try walk_nrm
 refine JG.acquire (ad:=th b k) rfl (by rfl) (by decide) rfl Try.func64 (by kernel_rfl) (by kernel_rfl) (by rfl) (by rfl) (by simp [Act.eval]) ?_ ?_
 ·rw [Xh];exact Xt h0
 try walk_nrm
 repeat first|refine JG.seq ?_|refine JG.skip ?_|refine JG.inBlock ?_|refine JG.block ?_|refine JG.done ?_|refine JG.label ?_
 refine JG.ret ?_;refine JG.leave0 rfl rfl Try.func56 (by rfl) ?_;exact h
theorem XfV {Post:Value→World→Prop} {C:Ctx} {x:World} {c:Frame} {cs:List Frame} {b k:Nat} (h0:x.cell? (th b k)=some (.int .i32 0)) (f0:x.frozen? (th b k)=false)
 (h:JG Try.prog Post C (G (c.finish (.tuple #[])) cs) (x.setCell (th b k) (.int .i32 1))):JG Try.prog Post C (G (Frame.enter Try.prog 47 #[.pointer (some ⟨b,k,none⟩)] .normal) (c::cs)) x:=by
 refine Xu Try.func47 (by rfl) (by rfl) ?_;simp only [Try.f47,Option.getD_some];walk_nrm
 repeat refine kx ?_
 refine kf (args:=#[.pointer (some ⟨b,k,none⟩)]) Try.func56 ?_;refine Xfn h0 f0 ?_;rw [Frame.finish_at]
 repeat refine kx ?_
 refine JG.fin ?_;exact JG.leave0 rfl rfl Try.func47 (by rfl) h
theorem XcO {Post:Value→World→Prop} {C:Ctx} {x:World} {c:Frame} {cs:List Frame} {b k:Nat} (h0:x.cell? (th b k)=some (.int .i32 1)) (f0:x.frozen? (th b k)=false)
 (h:JG Try.prog Post C (G (c.finish (.tuple #[])) cs) (x.setCell (th b k) (.int .i32 0))):JG Try.prog Post C (G (Frame.enter Try.prog 57 #[.pointer (some ⟨b,k,none⟩)] .normal) (c::cs)) x:=by
 refine Xu Try.func57 (by rfl) (by rfl) ?_;simp only [Try.f57,Option.getD_some];walk_nrm
 repeat refine kx ?_
 refine ko fun K E hK hE τ d=>?_;have hcv:=run_convert_to_unsafe (P:=Try.prog) (src:=116) (dst:=120) Try.underlying116 Try.underlying120 (by kernel_rfl) (uc τ d h0);go_simp;refine hK _ _ (jt ?_);clear hcv hK hE K E τ d
 try walk_nrm
 refine JG.releaseM (ad:=th b k) rfl (by rfl) (by decide) rfl Try.func66 (by kernel_rfl) (by kernel_rfl) (by rfl) (by rfl) (by simp [Act.eval]) (Xt h0) ?_
 try walk_nrm
 repeat refine kx ?_
 refine JG.disable rfl (by rfl) (by decide) rfl Try.func61 (by kernel_rfl) (by kernel_rfl) (by rfl) (by rfl) ?_
 try walk_nrm
 repeat refine JG.done ?_
 refine JG.seq ?_;refine JG.code (Xdg _) (by kernel_rfl) rfl (.inr (by kernel_rfl)) rfl (fun K R hK hR τ=>?_);replace hK:=HD hK;clear hR;have k0:(under x τ 0).cell? (th b k)=some (.int .i32 1):=h0;have z0:(under x τ 0).frozen? (th b k)=false:=f0;have hadd:=Xe5 (n:=-1) k0 z0
 go_wp2
 refine hK.out _ _ ?_;rw [Xc];refine jt ?_;clear hK k0 z0 hadd K R τ
 repeat refine kx ?_
 refine JG.enable rfl (by rfl) (by decide) rfl Try.func63 (by kernel_rfl) (by kernel_rfl) (by rfl) (by rfl) ?_
 try walk_nrm
 repeat refine kx ?_
 refine JG.fin ?_;refine JG.leave0 rfl rfl Try.func57 (by rfl) ?_;exact h
theorem XbS {Post:Value→World→Prop} {C:Ctx} {x:World} {c:Frame} {cs:List Frame} {b k:Nat} (h0:x.cell? (th b k)=some (.int .i32 1)) (f0:x.frozen? (th b k)=false)
 (h:JG Try.prog Post C (G (X3 c) cs) (x.setCell (th b k) (.int .i32 0))):JG Try.prog Post C (G (Frame.enter Try.prog 48 #[.pointer (some ⟨b,k,none⟩)] .deferred) (c::cs)) x:=by
 refine Xc8 Try.func48 (by rfl) (by rfl) ?_;simp only [Try.f48,Option.getD_some];walk_nrm
 repeat refine kx ?_
 refine kf (args:=#[.pointer (some ⟨b,k,none⟩)]) Try.func57 ?_;refine XcO h0 f0 ?_;rw [Frame.finish_at]
 repeat refine kx ?_
 refine JG.fin ?_;exact JG.leaveD rfl rfl Try.func48 (by rfl) h
theorem Xcl {x:World} {b k:Nat} {v:Value} {u:Value} (h:x.cell? (th b k)=some v):(x.setCell (th b k) u).setCell (th b k) v=x:=by
 have hh:((x.setCell (th b k) u).setCell (th b k) v).heap=x.heap:=by
  apply Array.ext_getElem?;intro r
  by_cases hr:r=b
  ·subst hr
   unfold World.cell? at h;cases ho:x.heap[r]? with
   | none=>simp [th,ho] at h
   | some o =>
    cases o with
    | cells cs t fr =>
     have h1:cs[k]? = some v:=by simpa [th,ho] using h
     obtain ⟨hlt,hv⟩:=GE h1;rw [Xd (Xd ho)]
     congr 2
     apply Array.ext_getElem?;intro j;simp only [Array.getElem?_setIfInBounds,Array.size_setIfInBounds]
     by_cases hj:k=j
     ·subst hj;rw [if_pos rfl,if_pos hlt];exact h1.symm
     ·rw [if_neg hj,if_neg hj]
    | _=>simp [th,ho] at h
  ·rw [Xb hr,Xb hr]
 cases x;simp only [World.setCell] at hh ⊢;simp only [hh]
theorem QU (x:World) (a b:Addr) (v:Value):(x.setCell a v).frozen? b=x.frozen? b:=by
 unfold World.frozen?;rw [heap_setCell]
 by_cases hb:b.block=a.block
 ·cases h:x.heap[b.block]? with
  | none=>rfl
  | some o=>rw [Option.map_some,if_pos hb];cases o<;>rfl
 ·simp only [hb,if_false]
  cases h:x.heap[b.block]?<;>rfl
theorem XbQ {Post:Value→World→Prop} {C:Ctx} {x:World} {c:Frame} {cs:List Frame} {b:Nat} (h0:x.cell? (th b 2)=some (.int .i32 0)) (f0:x.frozen? (th b 2)=false) (h4:x.cell? (th b 4)=some (.chan none))
 (h:JG Try.prog Post C (G (c.finish (.tuple #[])) cs) x):JG Try.prog Post C (G (Frame.enter Try.prog 35 #[P0 b] .normal) (c::cs)) x:=by
 refine Xu Try.func35 (by rfl) (by rfl) ?_;simp only [Try.f35,Option.getD_some];walk_nrm
 repeat refine kx ?_
 refine kf (args:=#[.pointer (some ⟨b,2,none⟩)]) Try.func47 ?_;refine XfV h0 f0 ?_;rw [Frame.finish_at];walk_nrm;have k4:=Xi (v:=.int .i32 1) (show (th b 4)≠(th b 2) by simp [th]) h4
 repeat refine kx ?_
 refine JG.defer (d:={ target:=.fn (.func 48) #[],args:=#[.pointer (some ⟨b,2,none⟩)] }) rfl (by rfl) (by decide) (fun w=>by simp [go_sem,execOp,Act.eval,resolve,Deferred.ofValue]) (fun w=>by simp [go_sem,execOp,Act.eval,resolve,Deferred.ofValue]) ?_
 try walk_nrm
 repeat refine kx ?_
 refine JG.fin ?_;refine JG.unwind (m:=.returning) (by simp) rfl rfl Try.func48 (by rfl) (by rfl) ?_;refine XbS (World.cell?_setCell_same (w:=x) (a:=th b 2) (v:=.int .i32 1) h0) (by rw [QU];exact f0) ?_;rw [Xcl h0];exact JG.leave0 rfl rfl Try.func35 (by rfl) h
theorem XdQ {w:World} {ad:Addr} {v:Int} (hc:w.cell? ad=some (.int .i64 v)):(callFunc 46 #[.pointer (some ad)]).run Try.prog w=.ok (.value (.int .i64 v)) w:=by
 rw [run_callFunc_extern Try.func46 (by kernel_rfl) (by kernel_rfl) (by rfl) (by rfl:_=some (Extern.Atomic.loadT (.int .i64)))];show (Sem.run Try.prog (do let a ← asAddr (.pointer (some ad));Extern.Atomic.read (.int .i64) a) w).andThen _=_;simp [Extern.Atomic.read,asAddr,hc,Result.andThen]
theorem Xcs {w:World} {ad:Addr} {v u:Int} (hc:w.cell? ad=some (.int .i64 v)) (hz:w.frozen? ad=false):(callFunc 40 #[.pointer (some ad),.int .i64 u]).run Try.prog w=.ok (.value (.tuple #[])) (w.setCell ad (.int .i64 u)):=by
 rw [run_callFunc_extern Try.func40 (by kernel_rfl) (by kernel_rfl) (by rfl) (by rfl:_=some Extern.Atomic.storeT)];show (Sem.run Try.prog (do let a ← asAddr (.pointer (some ad));store a (.int .i64 u) .atomic;pure Extern.Atomic.none_) w).andThen _=_;simp [asAddr,hc,hz,run_store Try.prog w ad (.int .i64 u) .atomic rfl,Result.andThen,Extern.Atomic.none_]
theorem Xe4 {w:World} {ad:Addr} {v n:Int} (hc:w.cell? ad=some (.int .i64 v)) (hz:w.frozen? ad=false):(callFunc 55 #[.pointer (some ad),.int .i64 n]).run Try.prog w=.ok (.value (.int .i64 (IntKind.i64.wrap (v + n)))) (w.setCell ad (.int .i64 (IntKind.i64.wrap (v + n)))):=by
 rw [run_callFunc_extern Try.func55 (by kernel_rfl) (by kernel_rfl) (by rfl) (by rfl:_=some (Extern.Atomic.update (Op.intArith .add) .i64 true)),run_add_entry hc hz];rfl
theorem Xe2 {w:World} {ad:Addr} {v old n:Int} (hc:w.cell? ad=some (.int .i64 v)) (hz:w.frozen? ad=false):(callFunc 53 #[.pointer (some ad),.int .i64 old,.int .i64 n]).run Try.prog w=.ok (.value (.bool (decide (v=old)))) (if v=old then w.setCell ad (.int .i64 n) else w):=by
 rw [run_callFunc_extern Try.func53 (by kernel_rfl) (by kernel_rfl) (by rfl) (by rfl:_=some (Extern.Atomic.casT (.int .i64))),casT_eq]
 by_cases h:v=old
 ·subst h;rw [run_cas_hit_entry hc hz];simp [Result.andThen]
 ·rw [run_cas_miss_entry hc hz h];simp [Result.andThen,h]
section
variable {Post:Value→World→Prop} {C:Ctx} {x:World} {c:Frame} {cs:List Frame} {b:Nat} {v:Int}
theorem Y1 (h0:x.cell? (th b 0)=some (.int .i64 v)) (h:JG Try.prog Post C (G (c.finish (.int .i64 v)) cs) x):JG Try.prog Post C (G (Frame.enter Try.prog 34 #[P0 b] .normal) (c::cs)) x:=by
 refine Xu Try.func34 (by rfl) (by rfl) ?_;simp only [Try.f34,Option.getD_some];walk_nrm;refine JG.code (XO _) (by kernel_rfl) rfl (.inr (by kernel_rfl)) rfl (fun K R hK hR τ=>?_);replace hK:=HD hK;replace hR:=HD hR;have k0:(under x τ 0).cell? (th b 0)=some (.int .i64 v):=h0;have hr:=XdQ k0
 go_wp2
 refine ⟨rfl,?_⟩;refine hR.out _ _ (fun todo=>jt (x:=x) (τ:=τ) (d:=0) ?_);exact JG.leave rfl rfl Try.func34 (fun τ d=>results_tmp (t:=2) rfl _ _ _) h
theorem VQ {u:Int} (h0:x.cell? (th b 0)=some (.int .i64 v)) (f0:x.frozen? (th b 0)=false) (h:JG Try.prog Post C (G (c.finish (.tuple #[])) cs) (x.setCell (th b 0) (.int .i64 u))):JG Try.prog Post C (G (Frame.enter Try.prog 27 #[P0 b,.int .i64 u] .normal) (c::cs)) x:=by
 refine Xu Try.func27 (by rfl) (by rfl) ?_;simp only [Try.f27,Option.getD_some];walk_nrm;refine JG.code (XO _) (by kernel_rfl) rfl (.inr (by kernel_rfl)) rfl (fun K R hK hR τ=>?_);replace hK:=HD hK;replace hR:=HD hR;have k0:(under x τ 0).cell? (th b 0)=some (.int .i64 v):=h0;have z0:(under x τ 0).frozen? (th b 0)=false:=f0;have hr:=Xcs (u:=u) k0 z0
 go_wp2
 refine hK.out _ _ ?_;rw [Xc];refine jt (JG.fin ?_);exact JG.leave0 rfl rfl Try.func27 (by rfl) h
theorem XcT {u o:Int} (h0:x.cell? (th b 0)=some (.int .i64 v)) (f0:x.frozen? (th b 0)=false) (h:JG Try.prog Post C (G (c.finish (.bool (decide (v=o)))) cs) (if v=o then x.setCell (th b 0) (.int .i64 u) else x)):JG Try.prog Post C (G (Frame.enter Try.prog 41 #[P0 b,.int .i64 o,.int .i64 u] .normal) (c::cs)) x:=by
 refine Xu Try.func41 (by rfl) (by rfl) ?_;simp only [Try.f41,Option.getD_some];walk_nrm;refine JG.code (XO _) (by kernel_rfl) rfl (.inr (by kernel_rfl)) rfl (fun K R hK hR τ=>?_);replace hK:=HD hK;replace hR:=HD hR;have k0:(under x τ 0).cell? (th b 0)=some (.int .i64 v):=h0;have z0:(under x τ 0).frozen? (th b 0)=false:=f0;have hr:=Xe2 (old:=o) (n:=u) k0 z0
 by_cases e:v=o
 ·rw [if_pos e] at hr h
  rw [decide_eq_true e] at hr h;clear k0 z0;replace e:=HD e
  go_wp2
  refine ⟨rfl,?_⟩;refine hR.out _ _ (fun todo=>?_);rw [Xc];refine jt ?_;exact JG.leave rfl rfl Try.func41 (fun τ d=>results_tmp (t:=6) rfl _ _ _) h
 ·rw [if_neg e] at hr h
  rw [decide_eq_false e] at hr h;clear k0 z0;replace e:=HD e
  go_wp2
  refine ⟨rfl,?_⟩;refine hR.out _ _ (fun todo=>jt (x:=x) (τ:=τ) (d:=0) ?_);exact JG.leave rfl rfl Try.func41 (fun τ d=>results_tmp (t:=6) rfl _ _ _) h
theorem Xf1 {u:Int} (h0:x.cell? (th b 0)=some (.int .i64 v)) (f0:x.frozen? (th b 0)=false) (h:JG Try.prog Post C (G (c.finish (.int .i64 (wrap64 (v + u)))) cs) (x.setCell (th b 0) (.int .i64 (wrap64 (v + u))))):JG Try.prog Post C (G (Frame.enter Try.prog 45 #[P0 b,.int .i64 u] .normal) (c::cs)) x:=by
 refine Xu Try.func45 (by rfl) (by rfl) ?_;simp only [Try.f45,Option.getD_some];walk_nrm;refine JG.code (XO _) (by kernel_rfl) rfl (.inr (by kernel_rfl)) rfl (fun K R hK hR τ=>?_);replace hK:=HD hK;replace hR:=HD hR;have k0:(under x τ 0).cell? (th b 0)=some (.int .i64 v):=h0;have z0:(under x τ 0).frozen? (th b 0)=false:=f0;have hr:=Xe4 (n:=u) k0 z0
 go_wp2
 refine ⟨rfl,?_⟩;refine hR.out _ _ (fun todo=>?_);rw [Xc];refine jt ?_;exact JG.leave rfl rfl Try.func45 (fun τ d=>results_tmp (t:=4) rfl _ _ _) h
theorem Vl {k:Bool} (h1:x.cell? (th b 1)=some (.bool k)) (h:JG Try.prog Post C (G (c.finish (.bool (!k))) cs) x):JG Try.prog Post C (G (Frame.enter Try.prog 31 #[P0 b] .normal) (c::cs)) x:=by
 refine Xu Try.func31 (by rfl) (by rfl) ?_;simp only [Try.f31,Option.getD_some];walk_nrm
 repeat refine kx ?_
 refine JG.ret ?_;exact JG.leave rfl rfl Try.func31 (fun τ d=>results_tmp (t:=2) rfl _ _ _) h
theorem Xag (h:JG Try.prog Post C (G (c.finish (.bool false)) cs) x):JG Try.prog Post C (G (Frame.enter Try.prog 32 #[.pointer none] .normal) (c::cs)) x:=by
 refine Xu Try.func32 (by rfl) (by rfl) ?_;simp only [Try.f32,Option.getD_some];walk_nrm
 repeat refine kx ?_
 refine JG.ret ?_;exact JG.leave rfl rfl Try.func32 (fun τ d=>results_tmp (t:=2) rfl _ _ _) h
end
structure Xr (x:World) (b:Nat) (v:Int):Prop where
 v:x.cell? (th b 0)=some (.int .i64 v)
 made:x.cell? (th b 1)=some (.bool true)
 mu:x.cell? (th b 2)=some (.int .i32 0)
 ch:x.cell? (th b 4)=some (.chan none)
 fr:∀ k,x.frozen? (th b k)=false
theorem Xr.set {x:World} {b:Nat} {v u:Int} (h:Xr x b v):Xr (x.setCell (th b 0) (.int .i64 u)) b u :=
 ⟨World.cell?_setCell_same (w:=x) (a:=th b 0) (v:=.int .i64 u) h.v,Xi (by simp [th]) h.made,Xi (by simp [th]) h.mu,Xi (by simp [th]) h.ch,fun k=>by rw [QU];exact h.fr k⟩
theorem Xr.set_ne {x:World} {b b' k:Nat} {v:Int} {u:Value} (h:Xr x b v) (hb:b≠b'):Xr (x.setCell (th b' k) u) b v :=
 ⟨Xi (by simp [th,hb]) h.v,Xi (by simp [th,hb]) h.made,Xi (by simp [th,hb]) h.mu,Xi (by simp [th,hb]) h.ch,fun k=>by rw [QU];exact h.fr k⟩
section
variable {Post:Value→World→Prop} {C:Ctx} {x:World} {c:Frame} {cs:List Frame} {b:Nat} {v:Int}
theorem UG (hc:Xr x b v) (h:JG Try.prog Post C (G (c.finish (.int .i64 v)) cs) x):JG Try.prog Post C (G (Frame.enter Try.prog 13 #[P0 b,.pointer none] .normal) (c::cs)) x:=by
 refine Xu Try.func13 (by rfl) (by rfl) ?_;simp only [Try.f13,Option.getD_some];walk_nrm
 repeat refine kx ?_
 refine kf (args:=#[P0 b]) Try.func31 ?_;refine Vl hc.made ?_;rw [Frame.finish_at];walk_nrm
 repeat refine kx ?_
 refine kf (args:=#[.pointer none]) Try.func32 ?_;refine Xag ?_;rw [Frame.finish_at];walk_nrm
 repeat refine kx ?_
 refine kf (args:=#[P0 b]) Try.func34 ?_;refine Y1 hc.v ?_;rw [Frame.finish_at];walk_nrm
 repeat refine kx ?_
 refine JG.ret ?_;exact JG.leave rfl rfl Try.func13 (fun τ d=>results_tmp (t:=4) rfl _ _ _) h
theorem store_J {u:Int} (hc:Xr x b v) (h:JG Try.prog Post C (G (c.finish (.tuple #[])) cs) (x.setCell (th b 0) (.int .i64 u))):JG Try.prog Post C (G (Frame.enter Try.prog 14 #[P0 b,.pointer none,.int .i64 u] .normal) (c::cs)) x:=by
 refine Xu Try.func14 (by rfl) (by rfl) ?_;simp only [Try.f14,Option.getD_some];walk_nrm
 repeat refine kx ?_
 refine kf (args:=#[P0 b]) Try.func31 ?_;refine Vl hc.made ?_;rw [Frame.finish_at];walk_nrm
 repeat refine kx ?_
 refine kf (args:=#[.pointer none]) Try.func32 ?_;refine Xag ?_;rw [Frame.finish_at];walk_nrm
 repeat refine kx ?_
 refine kf (args:=#[P0 b,.int .i64 u]) Try.func27 ?_;refine VQ hc.v (hc.fr 0) ?_;rw [Frame.finish_at]
 try walk_nrm
 repeat refine kx ?_
 refine kf (args:=#[P0 b]) Try.func35 ?_;refine XbQ (hc.set (u:=u)).mu ((hc.set (u:=u)).fr 2) (hc.set (u:=u)).ch ?_;rw [Frame.finish_at]
 try walk_nrm
 repeat refine kx ?_
 refine JG.fin ?_;exact JG.leave0 rfl rfl Try.func14 (by rfl) h
theorem XgA {o u:Int} (hc:Xr x b v) (h:JG Try.prog Post C (G (c.finish (.bool (decide (v=o)))) cs) (if v=o then x.setCell (th b 0) (.int .i64 u) else x)):JG Try.prog Post C (G (Frame.enter Try.prog 28 #[P0 b,.pointer none,.int .i64 o,.int .i64 u] .normal) (c::cs)) x:=by
 refine Xu Try.func28 (by rfl) (by rfl) ?_;simp only [Try.f28,Option.getD_some];walk_nrm
 repeat refine kx ?_
 refine kf (args:=#[P0 b]) Try.func31 ?_;refine Vl hc.made ?_;rw [Frame.finish_at];walk_nrm
 repeat refine kx ?_
 refine kf (args:=#[.pointer none]) Try.func32 ?_;refine Xag ?_;rw [Frame.finish_at];walk_nrm
 repeat refine kx ?_
 refine kf (args:=#[P0 b,.int .i64 o,.int .i64 u]) Try.func41 ?_;refine XcT hc.v (hc.fr 0) ?_;rw [Frame.finish_at]
 by_cases e:v=o
 ·rw [if_pos e] at h ⊢
  rw [decide_eq_true e] at h ⊢;clear e;walk_nrm
  repeat refine kx ?_
  refine kf (args:=#[P0 b]) Try.func35 ?_;refine XbQ (hc.set (u:=u)).mu ((hc.set (u:=u)).fr 2) (hc.set (u:=u)).ch ?_;rw [Frame.finish_at]
  try walk_nrm
  repeat refine kx ?_
  refine JG.ret ?_;exact JG.leave rfl rfl Try.func28 (fun τ d=>results_tmp (t:=8) rfl _ _ _) h
 ·rw [if_neg e] at h ⊢
  rw [decide_eq_false e] at h ⊢;clear e;walk_nrm
  repeat refine kx ?_
  refine JG.ret ?_;exact JG.leave rfl rfl Try.func28 (fun τ d=>results_tmp (t:=8) rfl _ _ _) h
