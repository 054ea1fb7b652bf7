/- The ring document's Does and Begin. -/
import Derived.Test.YtdhnggjmegilkaaSRgL
set_option linter.all false
set_option maxRecDepth 100000
set_option maxHeartbeats 16000000
namespace Go.Proofs.Ytdhnggjmegilkaa
open Go.Conc Go.RowKit
set_option maxRecDepth 100000
section
variable {Post:Value→World→Prop} {C:Ctx} {x:World} {c:Frame} {cs:List Frame} {K:Wk} {nc n:Nat} {gv0:List Bool} {xb j:Nat} {l:List (Xm Ym)} {T:List Ym} {fr v:Int} {bm qa:Nat}
theorem WO {u2:Value} (R:RK K nc n) (nb:¬ ZW K xb bm) (nq:¬ ZW K xb qa) (hbq:bm≠qa):∀ (f:Nat) (x:World) (out:Bool) (u5 u6 u7 u8 u9 B0 B1 B2 B3 B4 B5 B6 B7 B8 B9 D0 D1 D2 D3 D4 D5 D6 D7 D8 D9 E0 E1 E2 E3 E4 E5 E6 E7 E8 E9 G0 G1 G2 G3 G4 G5 G6 G7 G8 G9 H4 H5 H6 H7 H8 H9 I0 I1:Value),WS K gv0 xb j l T out (takeD n f) x→Blk x bm 84 #[.int .i64 n,.int .i64 fr]→x.heap[qa]? = some (.cells #[.int .i64 0,.bool false,.int .i64 0] 93 (0,0)) →
 (∀ y out' a,WS K gv0 xb j l T out' (.ret a) y→XA (fun r=>Yg K xb r∨r=qa) x y→JG Try.prog Post C (G (c.finish (aV a)) cs) y) →
 JG Try.prog Post C (G ((base 108).at ⟨#[P0 xb,.agg #[.int .i64 n,.int .i64 fr],u2,P0 bm,P0 qa,u5,u6,u7,u8,u9,B0,B1,B2,B3,B4,B5,B6,B7,B8,B9,D0,D1,D2,D3,D4,D5,D6,D7,D8,D9,E0,E1,E2,E3,E4,E5,E6,E7,E8,E9,G0,G1,G2,G3,G4,G5,G6,G7,G8,G9,H4,H5,H6,H7,H8,H9,I0,I1],[]⟩ [.code (Code.nav (Try.f108.body.getD .skip) [1,0,0,0]),.inLoop (Code.nav (Try.f108.body.getD .skip) [1,0,0,0]),.inBlock 0,.code (Code.nav (Try.f108.body.getD .skip) [1,1])]) (c::cs)) x:=by
 intro f
 induction f with
 | zero =>
  intro x out u5 u6 u7 u8 u9 B0 B1 B2 B3 B4 B5 B6 B7 B8 B9 D0 D1 D2 D3 D4 D5 D6 D7 D8 D9 E0 E1 E2 E3 E4 E5 E6 E7 E8 E9 G0 G1 G2 G3 G4 G5 G6 G7 G8 G9 H4 H5 H6 H7 H8 H9 I0 I1 hS hm hq h;cases out with
  | false=>exact absurd hS WS.no
  | true =>
   have yx:=hS.cell2;have nb:=HD nb;replace nq:=HD nq;replace h:=HD h;replace hS:=HD hS;replace hm:=HD hm;simp only [Try.f108,Option.getD_some,Code.nav]
   repeat refine kx ?_
   refine JG.exit (by rfl) ?_
   repeat refine kx ?_
   refine kst3 (hq) ?_;obtain ⟨z,hz0,hz1,hz2,hz3⟩:=W8 (.int .i64 (0)) (.bool false) (.int .i64 (0)) (hq);rw [← hz0];clear hz0;replace hz1:=HD hz1;replace hz2:=HD hz2;replace hz3:=HD hz3
   repeat refine kx ?_
   refine JG.ret ?_;exact JG.leave rfl rfl Try.func108 (fun τ d=>results_cell_row (p:=4) rfl _ _ qa _ _ _ _ rfl hz1.out Try.underlying93 rfl (by kernel_rfl)) (h.out z _ ⟨0,false,0⟩ ((hS.out.out_).frame (Nat.le_of_eq hz3.out.symm) fun r hr=>hz2.out r fun e=>nq.out (e ▸ hr)) (XA.refl.trans ⟨Nat.le_of_eq hz3.out.symm,fun r _ hr=>hz2.out r fun e=>hr (.inr e)⟩))
 | succ f ih =>
  intro x out u5 u6 u7 u8 u9 B0 B1 B2 B3 B4 B5 B6 B7 B8 B9 D0 D1 D2 D3 D4 D5 D6 D7 D8 D9 E0 E1 E2 E3 E4 E5 E6 E7 E8 E9 G0 G1 G2 G3 G4 G5 G6 G7 G8 G9 H4 H5 H6 H7 H8 H9 I0 I1 hS hm hq h;have yx:=hS.cell2;have nb:=HD nb;replace nq:=HD nq;cases out with
  | true =>
   replace h:=HD h;replace hS:=HD hS;replace hm:=HD hm;clear ih;simp only [Try.f108,Option.getD_some,Code.nav]
   repeat refine kx ?_
   refine JG.exit (by rfl) ?_
   repeat refine kx ?_
   refine kst3 (hq) ?_;obtain ⟨z,hz0,hz1,hz2,hz3⟩:=W8 (.int .i64 (0)) (.bool false) (.int .i64 (0)) (hq);rw [← hz0];clear hz0;replace hz1:=HD hz1;replace hz2:=HD hz2;replace hz3:=HD hz3
   repeat refine kx ?_
   refine JG.ret ?_;exact JG.leave rfl rfl Try.func108 (fun τ d=>results_cell_row (p:=4) rfl _ _ qa _ _ _ _ rfl hz1.out Try.underlying93 rfl (by kernel_rfl)) (h.out z _ ⟨0,false,0⟩ ((hS.out.out_).frame (Nat.le_of_eq hz3.out.symm) fun r hr=>hz2.out r fun e=>nq.out (e ▸ hr)) (XA.refl.trans ⟨Nat.le_of_eq hz3.out.symm,fun r _ hr=>hz2.out r fun e=>hr (.inr e)⟩))
  | false =>
   have IH:=HD ih;have HR:=HD R;replace h:=HD h;replace hS:=HD hS;replace hm:=HD hm;replace hq:=HD hq;replace hbq:=HD hbq;clear ih R;simp only [Try.f108,Option.getD_some,Code.nav]
   repeat refine kx ?_
   refine kf (args:=#[]) Try.func105 ?_;refine XaK fun y1 ho1=>?_;rw [Frame.finish_at];walk_nrm;clear yx;replace ho1:=HD ho1
   repeat refine kx ?_
   refine kf (args:=#[P0 xb,nmV (61,0)]) Try.func89 ?_;refine Qe HR.out.ok HR.out.nm1.1 (hS.out.old ho1.out) HR.out.nm1.2 fun y2 out2 t2 hS2 hu2 _=>?_;rw [Frame.finish_at];walk_nrm
   try dsimp only at hS2
   have hu2':XA (fun r=>Yg K xb r∨r=qa) x y2:=(ho1.out.turned.trans hu2).mono fun r h=>.inl h;have hm2:Blk y2 bm 84 #[.int .i64 n,.int .i64 fr]:=(ho1.out.turned.trans hu2).heap hm.out fun e=>nb.out (ZW.of e);have hq2:=(ho1.out.turned.trans hu2).heap hq.out fun e=>nq.out (ZW.of e);have m0:y2.cell? ⟨bm,0,none⟩=some (.int .i64 n):=Blk.cell hm2 0;have m1:y2.cell? ⟨bm,1,none⟩=some (.int .i64 fr):=Blk.cell hm2 1;generalize t2.was=p at *;clear hu2 hq hm hS ho1;replace hS2:=HD hS2;replace hu2':=HD hu2';replace hm2:=HD hm2;replace hq2:=HD hq2
   repeat refine kx ?_
   refine kf (args:=#[.agg #[.int .i64 n,.int .i64 fr],.int .i64 p]) Try.func106 ?_;refine Ut HR.out.n2 HR.out.n4 fun y3 ho3=>?_;rw [Frame.finish_at];walk_nrm;clear m0 m1;replace ho3:=HD ho3
   repeat refine kx ?_
   refine kf (args:=#[P0 xb,nmV (62,p % n)]) Try.func89 ?_;refine Qe HR.out.ok (HR.out.turn p).1 (hS2.out.old ho3.out) (HR.out.turn p).2 fun y4 out4 t4 hS4 hu4 _=>?_;rw [Frame.finish_at];walk_nrm
   try dsimp only at hS4
   have hu4':XA (fun r=>Yg K xb r∨r=qa) x y4:=hu2'.out.trans ((ho3.out.turned.trans hu4).mono fun r h=>.inl h);have hm4:Blk y4 bm 84 #[.int .i64 n,.int .i64 fr]:=(ho3.out.turned.trans hu4).heap hm2.out fun e=>nb.out (ZW.of e);have hq4:=(ho3.out.turned.trans hu4).heap hq2.out fun e=>nq.out (ZW.of e);generalize t4.was=t at *;clear hu4 hq2 hm2 hS2 ho3 hu2';obtain ⟨dd,hdd⟩:∃ dd,IntKind.i64.wrap (t - IntKind.i64.wrap (p + 1))=dd:=⟨_,rfl⟩
   rw [hdd] at hS4;have yx:=hS4.cell2;have m0:y4.cell? ⟨bm,0,none⟩=some (.int .i64 n):=Blk.cell hm4 0;have m1:y4.cell? ⟨bm,1,none⟩=some (.int .i64 fr):=Blk.cell hm4 1;replace hu4':=HD hu4';replace hm4:=HD hm4;cases out4 with
   | true =>
    replace hS4:=HD hS4
    repeat refine kx ?_
    refine JG.exit (by rfl) ?_
    repeat refine kx ?_
    refine kst3 (hq4) ?_;obtain ⟨z,hz0,hz1,hz2,hz3⟩:=W8 (.int .i64 (0)) (.bool false) (.int .i64 (0)) (hq4);rw [← hz0];clear hz0;replace hz1:=HD hz1;replace hz2:=HD hz2;replace hz3:=HD hz3
    repeat refine kx ?_
    refine JG.ret ?_;exact JG.leave rfl rfl Try.func108 (fun τ d=>results_cell_row (p:=4) rfl _ _ qa _ _ _ _ rfl hz1.out Try.underlying93 rfl (by kernel_rfl)) (h.out z _ ⟨0,false,0⟩ ((hS4.out.out_).frame (Nat.le_of_eq hz3.out.symm) fun r hr=>hz2.out r fun e=>nq.out (e ▸ hr)) (hu4'.out.trans ⟨Nat.le_of_eq hz3.out.symm,fun r _ hr=>hz2.out r fun e=>hr (.inr e)⟩))
   | false =>
    by_cases d1:dd < 0
    ·have d0:¬ dd=0:=by omega
     rw [if_neg d0,if_pos d1] at hS4;have e1:decide (dd < 0)=true:=by simpa using d1
     replace hS4:=HD hS4;clear d0 d1
     repeat refine kx ?_
     refine kst3 (hq4) ?_;obtain ⟨z,hz0,hz1,hz2,hz3⟩:=W8 (.int .i64 (0)) (.bool false) (.int .i64 (0)) (hq4);rw [← hz0];clear hz0;replace hz1:=HD hz1;replace hz2:=HD hz2;replace hz3:=HD hz3
     repeat refine kx ?_
     refine JG.ret ?_;exact JG.leave rfl rfl Try.func108 (fun τ d=>results_cell_row (p:=4) rfl _ _ qa _ _ _ _ rfl hz1.out Try.underlying93 rfl (by kernel_rfl)) (h.out z _ ⟨0,false,0⟩ ((hS4.out).frame (Nat.le_of_eq hz3.out.symm) fun r hr=>hz2.out r fun e=>nq.out (e ▸ hr)) (hu4'.out.trans ⟨Nat.le_of_eq hz3.out.symm,fun r _ hr=>hz2.out r fun e=>hr (.inr e)⟩))
    ·by_cases d0:dd=0
     ·subst d0
      rw [if_pos rfl] at hS4;replace hq4:=HD hq4;replace hS4:=HD hS4;clear d1
      repeat refine kx ?_
      refine kf (args:=#[]) Try.func105 ?_;refine XaK fun y5 ho5=>?_;rw [Frame.finish_at];walk_nrm;replace ho5:=HD ho5;clear yx
      repeat refine kx ?_
      refine kf (args:=#[P0 xb,nmV (61,0),.int .i64 p,.int .i64 (IntKind.i64.wrap (p + 1))]) Try.func91 ?_;refine Xep HR.out.ok HR.out.nm1.1 (hS4.out.old ho5.out) HR.out.nm1.2 fun y6 out6 t6 hS6 hu6 _=>?_;rw [Frame.finish_at];walk_nrm
      try dsimp only at hS6
      have hu6':XA (fun r=>Yg K xb r∨r=qa) x y6:=hu4'.out.trans ((ho5.out.turned.trans hu6).mono fun r h=>.inl h);have hm6:Blk y6 bm 84 #[.int .i64 n,.int .i64 fr]:=(ho5.out.turned.trans hu6).heap hm4.out fun e=>nb.out (ZW.of e);have hq6:=(ho5.out.turned.trans hu6).heap hq4.out fun e=>nq.out (ZW.of e);clear m0 m1;have m0:y6.cell? ⟨bm,0,none⟩=some (.int .i64 n):=Blk.cell hm6 0;have m1:y6.cell? ⟨bm,1,none⟩=some (.int .i64 fr):=Blk.cell hm6 1;clear hu6 hq4 hm4 hS4 ho5 hu4';replace hu6':=HD hu6';replace hm6:=HD hm6;cases hok:t6.ok
      ·rw [hok,if_neg (by decide)] at hS6
       have IH':=IH.out y6 out6;simp only [Try.f108,Option.getD_some,Code.nav] at IH';replace IH':=HD IH';replace hS6:=HD hS6;replace hq6:=HD hq6
       repeat refine kx ?_
       refine JG.inLoop ?_;exact IH'.out _ _ _ _ _ _ _ _ _ _ _ _ _ _ _ _ _ _ _ _ _ _ _ _ _ _ _ _ _ _ _ _ _ _ _ _ _ _ _ _ _ _ _ _ _ _ _ _ _ _ _ _ _ hS6.out hm6.out hq6.out fun y out' a h1 h2=>h.out y out' a h1 (hu6'.out.trans h2)
      ·rw [hok,if_pos rfl] at hS6
       simp only [if_true] at hS6;replace hS6:=HD hS6;replace hq6:=HD hq6
       repeat refine kx ?_
       refine kf (args:=#[.agg #[.int .i64 n,.int .i64 fr],.int .i64 p]) Try.func141 ?_;refine Xb5 HR.out.n2 HR.out.n4 fun y7 ho7=>?_;rw [Frame.finish_at];walk_nrm;clear m0 m1;replace ho7:=HD ho7
       repeat refine kx ?_
       refine kf (args:=#[P0 xb,nmV (63,p % n)]) Try.func89 ?_;refine Qe HR.out.ok (HR.out.slot p).1 (hS6.out.old ho7.out) (HR.out.slot p).2 fun y8 out8 t8 hS8 hu8 _=>?_;rw [Frame.finish_at];walk_nrm
       try dsimp only at hS8
       have hu8':XA (fun r=>Yg K xb r∨r=qa) x y8:=hu6'.out.trans ((ho7.out.turned.trans hu8).mono fun r h=>.inl h);have hm8:Blk y8 bm 84 #[.int .i64 n,.int .i64 fr]:=(ho7.out.turned.trans hu8).heap hm6.out fun e=>nb.out (ZW.of e);have hq8:=(ho7.out.turned.trans hu8).heap hq6.out fun e=>nq.out (ZW.of e);have m0:y8.cell? ⟨bm,0,none⟩=some (.int .i64 n):=Blk.cell hm8 0;have m1:y8.cell? ⟨bm,1,none⟩=some (.int .i64 fr):=Blk.cell hm8 1;clear hu8 hq6 hm6 hS6 ho7 hu6';replace hS8:=HD hS8;replace hu8':=HD hu8';replace hm8:=HD hm8;replace hq8:=HD hq8;generalize t8.was=vv at *;clear m0 m1
       repeat refine kx ?_
       refine JG.drawChain 9 (fun i=>if i=3 then some 0 else if i=8 then some 1 else none) (tkW K gv0 xb j l T x bm qa n fr p vv C y8 out8) 2 [some 49,some 54] (fun _=>undef) (by kernel_rfl) (by kernel_rfl) (by kernel_rfl) (by decide) (by decide) ⟨rfl,rfl⟩ ?_;apply Exists.intro;apply And.intro
       ·intro s hs cv C' y hW
        have hmy:=tkW.made hm8.out hW (fun e=>nb.out (ZW.of e));have z0:y.cell? ⟨bm,0,none⟩=some (.int .i64 n):=Blk.cell hmy 0;have z1:y.cell? ⟨bm,1,none⟩=some (.int .i64 fr):=Blk.cell hmy 1;replace hW:=HD hW;replace hmy:=HD hmy;simp only [List.take]
        repeat first|(refine XG.rd (by rfl) (fun K hK τ d=>?_);go_simp;refine hK _ ?_;clear hK K τ d)|(refine XG.rd (by rfl) (fun K hK τ d=>?_);have hfact:=uc τ d (z0);go_simp;refine hK _ ?_;clear hfact hK K τ d)
        refine XG.rd (by rfl) (fun K hK τ d=>?_);have q0:=uc τ d z0;have q1:=uc τ d z1;go_simp;refine hK _ ?_;clear q0 q1 hK K τ d
        repeat first|(refine XG.rd (by rfl) (fun K hK τ d=>?_);go_simp;refine hK _ ?_;clear hK K τ d)|(refine XG.rd (by rfl) (fun K hK τ d=>?_);have hfact:=uc τ d (z0);go_simp;refine hK _ ?_;clear hfact hK K τ d)
        refine XG.ch (by rfl) (fun hq0=>?_) ?_
        ·subst hq0
         refine Y4.call 106 #[.agg #[.int .i64 n,.int .i64 fr],.int .i64 p] rfl rfl (by decide) (fun w=>?_) (fun w=>?_) (fun a' L hda hc=>?_)
         iterate 2 (focus obtain ⟨fn, h1, h2, h3⟩ : Yb 106 := ⟨_, Try.func106, by kernel_rfl, by kernel_rfl⟩; have h4 : ¬ fn.name = "runtime.NumGoroutine" := (by simpa using h2); have h5 : ¬ fn.body = none := (by intro e; rw [e] at h3; cases h3); simp [go_sem, execOp, Act.eval, resolve, Deferred.ofValue, invoke, callFunc, h1, h4, h5])
         ·obtain ⟨rfl,rfl⟩:=hW.out
          refine Ut HR.out.n2 HR.out.n4 fun y9 ho9=>?_;exact hc _ _ _ ⟨rfl,ho9,XQ⟩
        try walk_nrm
        repeat first|(refine XG.rd (by rfl) (fun K hK τ d=>?_);go_simp;refine hK _ ?_;clear hK K τ d)|(refine XG.rd (by rfl) (fun K hK τ d=>?_);have hfact:=uc τ d (z0);go_simp;refine hK _ ?_;clear hfact hK K τ d)
        refine XG.ch (by rfl) (fun hq0=>?_) ?_
        ·subst hq0
         obtain ⟨rfl,ho9,hcv⟩:=hW.out;rw [hcv];refine Y4.call 90 #[P0 xb,nmV (62,p % n),.int .i64 (IntKind.i64.wrap (p + n))] rfl rfl (by decide) (fun w=>?_) (fun w=>?_) (fun a' L hda hc=>?_)
         iterate 2 (focus obtain ⟨fn, h1, h2, h3⟩ : Yb 90 := ⟨_, Try.func90, by kernel_rfl, by kernel_rfl⟩; have h4 : ¬ fn.name = "runtime.NumGoroutine" := (by simpa using h2); have h5 : ¬ fn.body = none := (by intro e; rw [e] at h3; cases h3); simp [go_sem, execOp, Act.eval, resolve, Deferred.ofValue, invoke, callFunc, h1, h4, h5])
         ·refine Vw HR.out.ok (HR.out.turn p).1 (hS8.out.old ho9) (HR.out.turn p).2 fun ya outa ta hSa hua _=>?_
          exact hc _ _ _ ⟨rfl,ho9.turned.trans hua,outa,hSa⟩
        try walk_nrm
        exact XG.nil rfl
       ·apply And.intro
        ·intro cv
         rfl
        ·intro cv C' ya hW
         obtain ⟨rfl,hua,outa,hSa⟩:=hW;have hua':XA (fun r=>Yg K xb r∨r=qa) x ya:=hu8'.out.trans (hua.mono fun r h=>.inl h);have hqa:=hua.heap hq8.out fun e=>nq.out (ZW.of e);clear hua hq8 hm8 hS8 hu8';replace hSa:=HD hSa;replace hua':=HD hua';show JG _ _ _ (G ((base _).at _ (.inRegion _ []::_)) _) _
         repeat refine kx ?_
         refine kst3 (hqa) ?_;obtain ⟨z,hz0,hz1,hz2,hz3⟩:=W8 (.int .i64 (vv)) (.bool true) (.int .i64 (0)) (hqa);rw [← hz0];clear hz0;replace hz1:=HD hz1;replace hz2:=HD hz2;replace hz3:=HD hz3
         repeat refine kx ?_
         refine JG.ret ?_;exact JG.leave rfl rfl Try.func108 (fun τ d=>results_cell_row (p:=4) rfl _ _ qa _ _ _ _ rfl hz1.out Try.underlying93 rfl (by kernel_rfl)) (h.out z _ ⟨vv,true,0⟩ ((hSa.out).frame (Nat.le_of_eq hz3.out.symm) fun r hr=>hz2.out r fun e=>nq.out (e ▸ hr)) (hua'.out.trans ⟨Nat.le_of_eq hz3.out.symm,fun r _ hr=>hz2.out r fun e=>hr (.inr e)⟩))
     ·have e0:(dd == 0)=false:=by simpa using d0
      have e1:decide (dd < 0)=false:=by simpa using d1
      rw [if_neg d0,if_neg d1] at hS4;have IH':=IH.out y4 false;simp only [Try.f108,Option.getD_some,Code.nav] at IH';replace IH':=HD IH';replace hS4:=HD hS4;replace hq4:=HD hq4;clear d0 d1
      repeat refine kx ?_
      refine JG.inLoop ?_;exact IH'.out _ _ _ _ _ _ _ _ _ _ _ _ _ _ _ _ _ _ _ _ _ _ _ _ _ _ _ _ _ _ _ _ _ _ _ _ _ _ _ _ _ _ _ _ _ _ _ _ _ _ _ _ _ hS4.out hm4.out hq4.out fun y out' a h1 h2=>h.out y out' a h1 (hu4'.out.trans h2)
theorem XdF {out:Bool} (R:RK K nc n) (f:Nat) (hS:WS K gv0 xb j l T out (takeD n f) x) (h:∀ y out' a,WS K gv0 xb j l T out' (.ret a) y→XA (Yg K xb) x y→JG Try.prog Post C (G (c.finish (aV a)) cs) y) :
 JG Try.prog Post C (G (Frame.enter Try.prog 108 #[P0 xb,.agg #[.int .i64 n,.int .i64 fr]] .normal) (c::cs)) x:=by
 have hlt:∀ r,ZW K xb r→r < x.heap.size:=fun r hr=>hS.own_lt hr;replace hS:=HD hS;replace h:=HD h;replace hlt:=HD hlt;refine Xu Try.func108 (by rfl) (by rfl) ?_;simp only [Try.f108,Option.getD_some];walk_nrm
 repeat refine kx ?_
 refine ko fun K E hK hE τ d=>?_;go_simp;refine hK _ _ (jt (x:=x.alloc (.cells #[.int .i64 n,.int .i64 fr] 84)) ?_);simp only [Xs];clear hK hE K E τ d
 try walk_nrm
 refine ko fun K E hK hE τ d=>?_;go_simp;refine hK _ _ (jt (x:=(x.alloc (.cells #[.int .i64 n,.int .i64 fr] 84)).alloc (.cells #[.int .i64 0,.bool false,.int .i64 0] 93)) ?_);simp only [Xs];clear hK hE K E τ d
 try walk_nrm
 have hO:Xg x ((x.alloc (.cells #[.int .i64 n,.int .i64 fr] 84)).alloc (.cells #[.int .i64 0,.bool false,.int .i64 0] 93)):=((Xg.refl x).alloc _).alloc _;have w1:((x.alloc (.cells #[.int .i64 n,.int .i64 fr] 84)).alloc (.cells #[.int .i64 0,.bool false,.int .i64 0] 93)).heap[x.heap.size + 1]? = some (.cells #[.int .i64 0,.bool false,.int .i64 0] 93 (0,0)):=by
  have:=heap_alloc_new (x.alloc (.cells #[.int .i64 n,.int .i64 fr] 84)) (.cells #[.int .i64 0,.bool false,.int .i64 0] 93)
  rwa [Zf] at this
 have w0:Blk ((x.alloc (.cells #[.int .i64 n,.int .i64 fr] 84)).alloc (.cells #[.int .i64 0,.bool false,.int .i64 0] 93)) x.heap.size 84 #[.int .i64 n,.int .i64 fr]:=by
  exact (heap_alloc_old _ _ (by rw [Zf];omega)).trans (heap_alloc_new x _)
 rw [Zf];generalize ((x.alloc (.cells #[.int .i64 n,.int .i64 fr] 84)).alloc (.cells #[.int .i64 0,.bool false,.int .i64 0] 93))=y at hO w0 w1 ⊢;have hL:=@WO Post C c cs K nc n gv0 xb j l T fr ;simp only [Try.f108,Option.getD_some,Code.nav] at hL;replace w0:=HD w0;replace w1:=HD w1;replace hO:=HD hO
 repeat refine kx ?_
 refine JG.loop ?_;refine hL R (fun e=>by have:=hlt.out _ e;omega) (fun e=>by have:=hlt.out _ e;omega) (by omega) f y out _ _ _ _ _ _ _ _ _ _ _ _ _ _ _ _ _ _ _ _ _ _ _ _ _ _ _ _ _ _ _ _ _ _ _ _ _ _ _ _ _ _ _ _ _ _ _ _ _ _ _ _ _ (hS.out.old hO.out) w0.out w1.out fun z out' a h1 h2=>h.out z out' a h1 ⟨Nat.le_trans hO.out.1 h2.size,fun r hr hk=>(h2.block r (Nat.lt_of_lt_of_le hr hO.out.1) fun e=>e.elim hk fun e=>by omega).trans (hO.out.2 r hr)⟩
end
section
variable {Post:Value→World→Prop} {C:Ctx} {x:World} {c:Frame} {cs:List Frame} {K:Wk} {nc n:Nat} {gv0:List Bool} {xb j:Nat} {l:List (Xm Ym)} {T:List Ym} {fr v:Int} {bm qa:Nat}
theorem Xa0 {o:Int} {out:Bool} (R:RK K nc n) (f:Nat) (hS:WS K gv0 xb j l T out (YZ n f o v) x) (h:∀ y out' a,WS K gv0 xb j l T out' (.ret a) y→XA (Yg K xb) x y→JG Try.prog Post C (G (c.finish (aV a)) cs) y) :
 JG Try.prog Post C (G (Frame.enter Try.prog 37 #[P0 xb,.agg #[.int .i64 n,.int .i64 fr],.agg #[.int .i64 o,.int .i64 v]] .normal) (c::cs)) x:=by
 have hlt:∀ r,ZW K xb r→r < x.heap.size:=fun r hr=>hS.own_lt hr;have HR:=HD R;clear R;replace hS:=HD hS;replace h:=HD h;replace hlt:=HD hlt;refine Xu Try.func37 (by rfl) (by rfl) ?_;simp only [Try.f37,Option.getD_some];walk_nrm
 repeat refine kx ?_
 refine ko fun K E hK hE τ d=>?_;go_simp;refine hK _ _ (jt (x:=(x.alloc (.cells #[.int .i64 n,.int .i64 fr] 84))) ?_);simp only [Xs];clear hK hE K E τ d
 try walk_nrm
 refine ko fun K E hK hE τ d=>?_;go_simp;refine hK _ _ (jt (x:=((x.alloc (.cells #[.int .i64 n,.int .i64 fr] 84)).alloc (.cells #[.int .i64 o,.int .i64 v] 96))) ?_);simp only [Xs];clear hK hE K E τ d
 try walk_nrm
 refine ko fun K E hK hE τ d=>?_;go_simp;refine hK _ _ (jt (x:=(((x.alloc (.cells #[.int .i64 n,.int .i64 fr] 84)).alloc (.cells #[.int .i64 o,.int .i64 v] 96)).alloc (.cells #[.int .i64 0,.bool false,.int .i64 0] 93))) ?_);simp only [Xs];clear hK hE K E τ d
 try walk_nrm
 have hO:Xg x (((x.alloc (.cells #[.int .i64 n,.int .i64 fr] 84)).alloc (.cells #[.int .i64 o,.int .i64 v] 96)).alloc (.cells #[.int .i64 0,.bool false,.int .i64 0] 93)):=(((Xg.refl x).alloc _).alloc _).alloc _;have w2:(((x.alloc (.cells #[.int .i64 n,.int .i64 fr] 84)).alloc (.cells #[.int .i64 o,.int .i64 v] 96)).alloc (.cells #[.int .i64 0,.bool false,.int .i64 0] 93)).heap[x.heap.size + 1 + 1]? = some (.cells #[.int .i64 0,.bool false,.int .i64 0] 93 (0,0)):=by
  have:=heap_alloc_new ((x.alloc (.cells #[.int .i64 n,.int .i64 fr] 84)).alloc (.cells #[.int .i64 o,.int .i64 v] 96)) (.cells #[.int .i64 0,.bool false,.int .i64 0] 93)
  rwa [Zf,Zf] at this
 have w1:Blk (((x.alloc (.cells #[.int .i64 n,.int .i64 fr] 84)).alloc (.cells #[.int .i64 o,.int .i64 v] 96)).alloc (.cells #[.int .i64 0,.bool false,.int .i64 0] 93)) (x.heap.size + 1) 96 #[.int .i64 o,.int .i64 v]:=by
  have:=heap_alloc_new (x.alloc (.cells #[.int .i64 n,.int .i64 fr] 84)) (.cells #[.int .i64 o,.int .i64 v] 96)
  rw [Zf] at this;exact (heap_alloc_old _ _ (by rw [Zf,Zf];omega)).trans this
 have w0:Blk (((x.alloc (.cells #[.int .i64 n,.int .i64 fr] 84)).alloc (.cells #[.int .i64 o,.int .i64 v] 96)).alloc (.cells #[.int .i64 0,.bool false,.int .i64 0] 93)) x.heap.size 84 #[.int .i64 n,.int .i64 fr]:=by
  exact (heap_alloc_old _ _ (by rw [Zf,Zf];omega)).trans ((heap_alloc_old _ _ (by rw [Zf];omega)).trans (heap_alloc_new x _))
 rw [Zf,Zf];generalize (((x.alloc (.cells #[.int .i64 n,.int .i64 fr] 84)).alloc (.cells #[.int .i64 o,.int .i64 v] 96)).alloc (.cells #[.int .i64 0,.bool false,.int .i64 0] 93))=y at hO w0 w1 w2 ⊢;obtain ⟨bm,hbm⟩:∃ q,q=x.heap.size:=⟨_,rfl⟩
 obtain ⟨bc,hbc⟩:∃ q,q=x.heap.size + 1:=⟨_,rfl⟩
 obtain ⟨qa,hqa⟩:∃ q,q=x.heap.size + 1 + 1:=⟨_,rfl⟩
 rw [← hqa] at w2;rw [← hbc] at w1;rw [← hbm] at w0;rw [← hqa,← hbc,← hbm];have nq:¬ ZW K xb qa:=fun e=>by have:=hlt.out _ e;omega
 have hback:∀ (y2 z:World),XA (Yg K xb) y y2→(∀ r,r≠qa→z.heap[r]? = y2.heap[r]?)→z.heap.size=y2.heap.size→XA (Yg K xb) x z:=fun y2 z h1 h2 h3=>⟨by rw [h3];exact Nat.le_trans hO.1 h1.size,fun r hr hn=>(h2 r (by omega)).trans ((h1.block r (Nat.lt_of_lt_of_le hr hO.1) hn).trans (hO.2 r hr))⟩
 have hSy:=hS.out.old hO;have m0:y.cell? ⟨bm,0,none⟩=some (.int .i64 n):=Blk.cell w0 0;have m1:y.cell? ⟨bm,1,none⟩=some (.int .i64 fr):=Blk.cell w0 1;have c0:y.cell? ⟨bc,0,none⟩=some (.int .i64 o):=Blk.cell w1 0;have c1:y.cell? ⟨bc,1,none⟩=some (.int .i64 v):=Blk.cell w1 1;clear hS hlt hO w0 w1;replace hbm:=HD hbm;replace hbc:=HD hbc;replace hqa:=HD hqa;replace nq:=HD nq;replace hback:=HD hback;have hops:o=0∨o=1∨o=2∨(o≠0∧o≠1∧o≠2):=by omega
 rcases hops with rfl|rfl|rfl|⟨n0,n1,n2⟩
 ·have hd:YZ n f 0 v=XfR n v f:=by unfold YZ;rw [if_pos rfl]
  rw [hd] at hSy;replace hSy:=HD hSy;replace w2:=HD w2
  repeat refine kx ?_
  refine kf (args:=#[P0 xb,.agg #[.int .i64 n,.int .i64 fr],.int .i64 v]) Try.func107 ?_;refine Xe7 HR.out f hSy.out fun y2 out2 a hS2 hu2=>?_;rw [Frame.finish_at];walk_nrm;have hq2:=hu2.heap w2.out fun e=>nq.out (ZW.of e);rw [show aV a=Value.agg #[.int .i64 a.v,.bool a.is,.int .i64 a.e] from rfl];clear m0 m1 c0 c1;replace hS2:=HD hS2;replace hu2:=HD hu2
  repeat refine kx ?_
  refine kst3 (hq2) ?_;obtain ⟨z,hz0,hz1,hz2,hz3⟩:=W8 (.int .i64 (a.v)) (.bool (a.is)) (.int .i64 (a.e)) (hq2);rw [← hz0];clear hz0;replace hz1:=HD hz1;replace hz2:=HD hz2;replace hz3:=HD hz3
  repeat refine kx ?_
  refine JG.ret ?_;exact JG.leave rfl rfl Try.func37 (fun τ d=>results_cell_row (p:=6) rfl _ _ qa _ _ _ _ rfl hz1.out Try.underlying93 rfl (by kernel_rfl)) (h.out z _ ⟨a.v,a.is,a.e⟩ ((hS2.out).frame (Nat.le_of_eq hz3.out.symm) fun r hr=>hz2.out r fun e=>nq.out (e ▸ hr)) (hback.out _ _ (hu2.out) hz2.out hz3.out))
 ·have hd:YZ n f 1 v=takeD n f:=by unfold YZ;rw [if_neg (by decide),if_pos rfl]
  rw [hd] at hSy;replace hSy:=HD hSy;replace w2:=HD w2
  repeat refine kx ?_
  refine kf (args:=#[P0 xb,.agg #[.int .i64 n,.int .i64 fr]]) Try.func108 ?_;refine XdF HR.out f hSy.out fun y2 out2 a hS2 hu2=>?_;rw [Frame.finish_at];walk_nrm;have hq2:=hu2.heap w2.out fun e=>nq.out (ZW.of e);rw [show aV a=Value.agg #[.int .i64 a.v,.bool a.is,.int .i64 a.e] from rfl];clear m0 m1 c0 c1;replace hS2:=HD hS2;replace hu2:=HD hu2
  repeat refine kx ?_
  refine kst3 (hq2) ?_;obtain ⟨z,hz0,hz1,hz2,hz3⟩:=W8 (.int .i64 (a.v)) (.bool (a.is)) (.int .i64 (a.e)) (hq2);rw [← hz0];clear hz0;replace hz1:=HD hz1;replace hz2:=HD hz2;replace hz3:=HD hz3
  repeat refine kx ?_
  refine JG.ret ?_;exact JG.leave rfl rfl Try.func37 (fun τ d=>results_cell_row (p:=6) rfl _ _ qa _ _ _ _ rfl hz1.out Try.underlying93 rfl (by kernel_rfl)) (h.out z _ ⟨a.v,a.is,a.e⟩ ((hS2.out).frame (Nat.le_of_eq hz3.out.symm) fun r hr=>hz2.out r fun e=>nq.out (e ▸ hr)) (hback.out _ _ (hu2.out) hz2.out hz3.out))
 ·have hd:YZ n f 2 v=Xgj:=by unfold YZ;rw [if_neg (by decide),if_neg (by decide),if_pos rfl]
  rw [hd] at hSy;replace hSy:=HD hSy;replace w2:=HD w2
  repeat refine kx ?_
  refine kf (args:=#[]) Try.func105 ?_;refine XaK fun y1 ho1=>?_;rw [Frame.finish_at];walk_nrm;replace ho1:=HD ho1;clear m0 m1 c0 c1
  repeat refine kx ?_
  refine kf (args:=#[P0 xb,nmV (61,0)]) Try.func89 ?_;refine Qe HR.out.ok HR.out.nm1.1 (hSy.out.old ho1.out) HR.out.nm1.2 fun y2 out2 t2 hS2 hu2 _=>?_;rw [Frame.finish_at];walk_nrm
  try dsimp only at hS2
  have hu2':=ho1.out.turned.trans hu2;generalize t2.was=a2 at *;clear hu2;replace hS2:=HD hS2;replace hu2':=HD hu2'
  repeat refine kx ?_
  refine kf (args:=#[]) Try.func104 ?_;refine Xd0 fun y3 ho3=>?_;rw [Frame.finish_at];walk_nrm;replace ho3:=HD ho3
  repeat refine kx ?_
  refine kf (args:=#[P0 xb,nmV (60,0)]) Try.func89 ?_;refine Qe HR.out.ok HR.out.nm0.1 (hS2.out.old ho3.out) HR.out.nm0.2 fun y4 out4 t4 hS4 hu4 _=>?_;rw [Frame.finish_at];walk_nrm
  try dsimp only at hS4
  have hu4':=hu2'.out.trans (ho3.out.turned.trans hu4);have hq4:=hu4'.heap w2.out fun e=>nq.out (ZW.of e);generalize t4.was=a4 at *;clear hu4;replace hS4:=HD hS4;replace hu4':=HD hu4'
  repeat refine kx ?_
  refine kst3 (hq4) ?_;obtain ⟨z,hz0,hz1,hz2,hz3⟩:=W8 (.int .i64 (IntKind.i64.wrap (a4 - a2))) (.bool (false)) (.int .i64 (0)) (hq4);rw [← hz0];clear hz0;replace hz1:=HD hz1;replace hz2:=HD hz2;replace hz3:=HD hz3
  repeat refine kx ?_
  refine JG.ret ?_;exact JG.leave rfl rfl Try.func37 (fun τ d=>results_cell_row (p:=6) rfl _ _ qa _ _ _ _ rfl hz1.out Try.underlying93 rfl (by kernel_rfl)) (h.out z _ ⟨IntKind.i64.wrap (a4 - a2),false,0⟩ ((hS4.out).frame (Nat.le_of_eq hz3.out.symm) fun r hr=>hz2.out r fun e=>nq.out (e ▸ hr)) (hback.out _ _ (hu4'.out) hz2.out hz3.out))
 ·have hd:YZ n f o v=.ret ⟨0,false,0⟩:=by unfold YZ;rw [if_neg n0,if_neg n1,if_neg n2]
  rw [hd] at hSy;replace hSy:=HD hSy;have d0:(o == 0)=false:=by simpa using n0
  have d1:(o == 1)=false:=by simpa using n1
  have d2:(o == 2)=false:=by simpa using n2
  clear n0 n1 n2 hd
  repeat refine kx ?_
  refine kst3 (w2) ?_;obtain ⟨z,hz0,hz1,hz2,hz3⟩:=W8 (.int .i64 (0)) (.bool (false)) (.int .i64 (0)) (w2);rw [← hz0];clear hz0;replace hz1:=HD hz1;replace hz2:=HD hz2;replace hz3:=HD hz3
  repeat refine kx ?_
  refine JG.ret ?_;exact JG.leave rfl rfl Try.func37 (fun τ d=>results_cell_row (p:=6) rfl _ _ qa _ _ _ _ rfl hz1.out Try.underlying93 rfl (by kernel_rfl)) (h.out z _ ⟨0,false,0⟩ ((hSy.out).frame (Nat.le_of_eq hz3.out.symm) fun r hr=>hz2.out r fun e=>nq.out (e ▸ hr)) (hback.out _ _ (XA.refl) hz2.out hz3.out))
end
def hsR (n:Nat) (fr:Int) (k:Nat):List (Nm × Int):=[((60,0),fr),((61,0),fr)] ++ (List.range k).map fun (i:Nat)=>(((62,IntKind.i64.wrap (fr + i) % n):Nm),IntKind.i64.wrap (fr + i))
theorem Xd1 (n:Nat) (fr:Int) (k:Nat):hsR n fr (k + 1)=hsR n fr k ++ [(((62,IntKind.i64.wrap (fr + k) % n):Nm),IntKind.i64.wrap (fr + k))]:=by
 unfold hsR;rw [List.range_succ,List.map_append,List.append_assoc];rfl
theorem VS (n:Nat) (fr:Int) (k:Nat):(hsR n fr k).length=k + 2:=by simp [hsR]
section
variable {Post:Value→World→Prop} {C:Ctx} {x:World} {c:Frame} {cs:List Frame} {α:Type} {n:Nat} {fr:Int} {x0:World} {gv:List Bool} {Q:Xp (Nat→List α)} {cells:Nat→Int} {wb bm:Nat}
theorem Xal {K:Wk} {nm:Nat→Nm} {hs:List (Nm × Int)} (hw:K.wb=wb) (H:Qo x0 K gv Q nm cells hs x) (hl:hs.length≤10000) (n:Nm) (v:Int)
 (h:∀ y K',K'.wb=K.wb→Qo x0 K' gv Q nm cells (hs ++ [(n,v)]) y→XA K.told x y→JG Try.prog Post C (G (c.finish (.tuple #[])) cs) y) :
 JG Try.prog Post C (G (Frame.enter Try.prog 22 #[P0 wb,nmV n,.int .i64 v] .normal) (c::cs)) x:=by
 subst hw;exact Xfo H hl n v h
def bgW (K:Wk) (S:Wk→World→Prop) (nm:Nm) (C:Ctx) (x:World):Nat→(Nat→Value)→Ctx→World→Prop
 | 0,_,C',y=>C'=C∧y=x
 | 1,cv,C',y=>C'=C∧Xg x y∧cv 0=nmV nm
 | _,cv,C',y=>C'=C∧XA K.told x y∧∃ K',K'.wb=K.wb∧S K' y
theorem bgW.made {K:Wk} {S:Wk→World→Prop} {nm:Nm} {y:World} {s:Nat} {cv:Nat→Value} {C':Ctx} (hm:Blk x bm 84 #[.int .i64 n,.int .i64 fr]) (h:bgW K S nm C x s cv C' y) (hn:¬ K.told bm):Blk y bm 84 #[.int .i64 n,.int .i64 fr]:=by
 match s,h with
 | 0,h=>rw [h.2];exact hm
 | 1,h=>exact (h.2.1.turned (S:=K.told)).heap hm hn
 | _ + 2,h=>exact h.2.1.heap hm hn
theorem WL {u2:Value} (hn:2≤n) (hn2:n≤4096):∀ (p k:Nat),k + p=n→∀ (C:Ctx) (x:World) (K:Wk) (u5 u6 u7 u8 u9 B0 B1 B2 B3 B4 B5 B6 B7 B8 B9 D0 D1 D2 D3 D4 D5 D6 D7 D8 D9 E0 E1 E2:Value),K.wb=wb→Qo x0 K gv Q nmR cells (hsR n fr k) x→Blk x bm 84 #[.int .i64 n,.int .i64 fr] →
 (∀ y K',K'.wb=wb→Qo x0 K' gv Q nmR cells (hsR n fr n) y→JG Try.prog Post C (G (c.finish (.tuple #[])) cs) y) →
 JG Try.prog Post C (G ((base 36).at ⟨#[P0 wb,.agg #[.int .i64 n,.int .i64 fr],u2,P0 bm,.int .i64 k,u5,u6,u7,u8,u9,B0,B1,B2,B3,B4,B5,B6,B7,B8,B9,D0,D1,D2,D3,D4,D5,D6,D7,D8,D9,E0,E1,E2],[]⟩ [.code (Code.nav (Try.f36.body.getD .skip) [1,1,1,1,0,0]),.inLoop (Code.nav (Try.f36.body.getD .skip) [1,1,1,1,0,0]),.inBlock 0]) (c::cs)) x:=by
 intro p
 induction p with
 | zero =>
  intro k hkp C x K u5 u6 u7 u8 u9 B0 B1 B2 B3 B4 B5 B6 B7 B8 B9 D0 D1 D2 D3 D4 D5 D6 D7 D8 D9 E0 E1 E2 hwb hH hm h;obtain rfl:k=n:=by omega
  have m0:x.cell? ⟨bm,0,none⟩=some (.int .i64 k):=Blk.cell hm 0;have m1:x.cell? ⟨bm,1,none⟩=some (.int .i64 fr):=Blk.cell hm 1;replace h:=HD (h x K hwb hH);replace hH:=HD hH;replace hm:=HD hm;clear hwb;simp only [Try.f36,Option.getD_some,Code.nav];have hx:decide ((k:Int) < k)=false:=by simp
  have hxN:decide (k < k)=false:=by simp
  repeat refine kx ?_
  refine JG.exit (by rfl) ?_
  repeat refine kx ?_
  first|refine JG.fin ?_|refine JG.done (JG.fin ?_)
  exact JG.leave0 rfl rfl Try.func36 (by rfl) h.out
 | succ p ih =>
  intro k hkp C x K u5 u6 u7 u8 u9 B0 B1 B2 B3 B4 B5 B6 B7 B8 B9 D0 D1 D2 D3 D4 D5 D6 D7 D8 D9 E0 E1 E2 hwb hH hm h;have hkn:k < n:=by omega
  have m0:x.cell? ⟨bm,0,none⟩=some (.int .i64 n):=Blk.cell hm 0;have IH:=HD ih;replace h:=HD h;replace hH:=HD hH;replace hm:=HD hm;replace hwb:=HD hwb;clear ih;simp only [Try.f36,Option.getD_some,Code.nav];have hx:decide ((k:Int) < n)=true:=by simp;omega
  have hxN:decide (k < n)=true:=by simp;omega
  repeat refine kx ?_
  clear m0;refine JG.drawChain 12 (fun i=>if i=6 then some 0 else if i=11 then some 1 else none) (bgW K (fun K' y=>Qo x0 K' gv Q nmR cells (hsR n fr k ++ [(((62,IntKind.i64.wrap (fr + k) % n):Nm),IntKind.i64.wrap (fr + k))]) y) ((62,IntKind.i64.wrap (fr + k) % n):Nm) _ _) 2 [some 27,some 32] (fun _=>undef) (by kernel_rfl) (by kernel_rfl) (by kernel_rfl) (by decide) (by decide) ⟨rfl,rfl⟩ ?_;apply Exists.intro;apply And.intro
  ·intro s hs cv C' y hW
   have hmy:=bgW.made hm.out hW (Wk.told_ne hH.out.at_ hm.out (by decide) (by decide) (by decide));have z0:y.cell? ⟨bm,0,none⟩=some (.int .i64 n):=Blk.cell hmy 0;have z1:y.cell? ⟨bm,1,none⟩=some (.int .i64 fr):=Blk.cell hmy 1;replace hW:=HD hW;replace hmy:=HD hmy;simp only [List.take]
   repeat first|(refine XG.rd (by rfl) (fun K hK τ d=>?_);go_simp;refine hK _ ?_;clear hK K τ d)|(refine XG.rd (by rfl) (fun K hK τ d=>?_);have hfact:=uc τ d (z1);go_simp;refine hK _ ?_;clear hfact hK K τ d)
   refine XG.rd (by rfl) (fun K hK τ d=>?_);have q0:=uc τ d z0;have q1:=uc τ d z1;go_simp;refine hK _ ?_;clear q0 q1 hK K τ d
   repeat first|(refine XG.rd (by rfl) (fun K hK τ d=>?_);go_simp;refine hK _ ?_;clear hK K τ d)|(refine XG.rd (by rfl) (fun K hK τ d=>?_);have hfact:=uc τ d (z1);go_simp;refine hK _ ?_;clear hfact hK K τ d)
   refine XG.ch (by rfl) (fun hq0=>?_) ?_
   ·subst hq0
    refine Y4.call 106 #[.agg #[.int .i64 n,.int .i64 fr],.int .i64 (IntKind.i64.wrap (fr + k))] rfl rfl (by decide) (fun w=>?_) (fun w=>?_) (fun a' L hda hc=>?_)
    iterate 2 (focus obtain ⟨fn, h1, h2, h3⟩ : Yb 106 := ⟨_, Try.func106, by kernel_rfl, by kernel_rfl⟩; have h4 : ¬ fn.name = "runtime.NumGoroutine" := (by simpa using h2); have h5 : ¬ fn.body = none := (by intro e; rw [e] at h3; cases h3); simp [go_sem, execOp, Act.eval, resolve, Deferred.ofValue, invoke, callFunc, h1, h4, h5])
    ·obtain ⟨rfl,rfl⟩:=hW.out
     refine Ut hn hn2 fun y9 ho9=>?_;exact hc _ _ _ ⟨rfl,ho9,XQ⟩
   try walk_nrm
   repeat first|(refine XG.rd (by rfl) (fun K hK τ d=>?_);go_simp;refine hK _ ?_;clear hK K τ d)|(refine XG.rd (by rfl) (fun K hK τ d=>?_);have hfact:=uc τ d (z1);go_simp;refine hK _ ?_;clear hfact hK K τ d)
   refine XG.ch (by rfl) (fun hq0=>?_) ?_
   ·subst hq0
    obtain ⟨rfl,ho9,hcv⟩:=hW.out;rw [hcv];refine Y4.call 22 #[P0 wb,(nmV (62,IntKind.i64.wrap (fr + k) % n)),.int .i64 (IntKind.i64.wrap (fr + k))] rfl rfl (by decide) (fun w=>?_) (fun w=>?_) (fun a' L hda hc=>?_)
    iterate 2 (focus obtain ⟨fn, h1, h2, h3⟩ : Yb 22 := ⟨_, Try.func22, by kernel_rfl, by kernel_rfl⟩; have h4 : ¬ fn.name = "runtime.NumGoroutine" := (by simpa using h2); have h5 : ¬ fn.body = none := (by intro e; rw [e] at h3; cases h3); simp [go_sem, execOp, Act.eval, resolve, Deferred.ofValue, invoke, callFunc, h1, h4, h5])
    ·refine Xal hwb.out (hH.out.up ho9) (by first|(simp;done)|(rw [VS];omega)) ((62,IntKind.i64.wrap (fr + k) % n):Nm) (IntKind.i64.wrap (fr + k)) fun ya K' hw1 hw2 hw3=>?_
     exact hc _ _ _ ⟨rfl,ho9.turned.trans hw3,K',hw1,hw2⟩
   try walk_nrm
   exact XG.nil rfl
  ·apply And.intro
   ·intro cv
    rfl
   ·intro cv C' ya hW
    obtain ⟨rfl,hua,K2,hwK,hH2⟩:=hW;have hm2:=hua.heap hm.out (Wk.told_ne hH.out.at_ hm.out (by decide) (by decide) (by decide));replace hwK:=hwK.trans hwb.out;rw [← Xd1] at hH2;have IH':=IH.out (k + 1) (by omega) C' ya K2;simp only [Try.f36,Option.getD_some,Code.nav] at IH';replace IH':=HD IH';replace hwK:=HD hwK;replace hH2:=HD hH2;replace hm2:=HD hm2;replace hua:=HD hua;have hwr:IntKind.i64.wrap ((k:Int) + 1)=((k + 1:Nat):Int):=by
     rw [IntKind.wrap_i64];omega
    show JG _ _ _ (G ((base _).at _ (.inRegion _ []::_)) _) _
    repeat refine kx ?_
    refine JG.inLoop ?_;rw [show ((k:Int) + 1)=((k + 1:Nat):Int) from rfl];exact IH'.out _ _ _ _ _ _ _ _ _ _ _ _ _ _ _ _ _ _ _ _ _ _ _ _ _ _ _ _ hwK.out hH2.out hm2.out h.out
theorem Xdn {K:Wk} (H:Qo x0 K gv Q nmR cells [] x) (hn:2≤n) (hn2:n≤4096) (h:∀ y K',K'.wb=K.wb→Qo x0 K' gv Q nmR cells (hsR n fr n) y→JG Try.prog Post C (G (c.finish (.tuple #[])) cs) y) :
 JG Try.prog Post C (G (Frame.enter Try.prog 36 #[P0 K.wb,.agg #[.int .i64 n,.int .i64 fr]] .normal) (c::cs)) x:=by
 obtain ⟨wb,hwb⟩:∃ wb,K.wb=wb:=⟨_,rfl⟩
 rw [hwb] at h ⊢;have hB:=Blk.lt H.at_.blk;have hL:=fun (u2:Value)=>@WL Post c cs α n fr x0 gv Q cells wb x.heap.size u2;simp only [Try.f36,Option.getD_some,Code.nav] at hL;replace hL:=HD hL;replace hwb:=HD hwb;replace h:=HD h;refine Xu Try.func36 (by rfl) (by rfl) ?_;simp only [Try.f36,Option.getD_some];walk_nrm
 repeat refine kx ?_
 refine ko fun K E hK hE τ d=>?_;go_simp;refine hK _ _ (jt (x:=x.alloc (.cells #[.int .i64 n,.int .i64 fr] 84)) ?_);simp only [Xs];clear hK hE K E τ d
 try walk_nrm
 have hH1:=H.up ((Xg.refl x).alloc (.cells #[.int .i64 n,.int .i64 fr] 84));have hm:Blk (x.alloc (.cells #[.int .i64 n,.int .i64 fr] 84)) x.heap.size 84 #[.int .i64 n,.int .i64 fr]:=heap_alloc_new _ _;generalize x.alloc (.cells #[.int .i64 n,.int .i64 fr] 84)=y1 at hH1 hm ⊢;generalize hbm:x.heap.size=bm at hm hL ⊢;replace hbm:=HD hbm;replace hm:=HD hm;replace hH1:=HD hH1;clear H hB
 repeat refine kx ?_
 refine JG.drawChain 5 (fun i=>if i=1 then some 0 else if i=4 then some 1 else none) (bgW K (fun K' y=>Qo x0 K' gv Q nmR cells ([] ++ [((60,0),fr)]) y) (60,0) _ _) 2 [some 6,some 9] (fun _=>undef) (by kernel_rfl) (by kernel_rfl) (by kernel_rfl) (by decide) (by decide) ⟨rfl,rfl⟩ ?_;apply Exists.intro;apply And.intro
 ·intro s hs cv C' y hW
  have hmy:=bgW.made hm.out hW (Wk.told_ne hH1.out.at_ hm.out (by decide) (by decide) (by decide));have z0:y.cell? ⟨bm,0,none⟩=some (.int .i64 n):=Blk.cell hmy 0;have z1:y.cell? ⟨bm,1,none⟩=some (.int .i64 fr):=Blk.cell hmy 1;replace hW:=HD hW;replace hmy:=HD hmy;simp only [List.take]
  repeat first|(refine XG.rd (by rfl) (fun K hK τ d=>?_);go_simp;refine hK _ ?_;clear hK K τ d)|(refine XG.rd (by rfl) (fun K hK τ d=>?_);have hfact:=uc τ d (z1);go_simp;refine hK _ ?_;clear hfact hK K τ d)
  refine XG.ch (by rfl) (fun hq0=>?_) ?_
  ·subst hq0
   refine Y4.call 104 #[] rfl rfl (by decide) (fun w=>?_) (fun w=>?_) (fun a' L hda hc=>?_)
   iterate 2 (focus obtain ⟨fn, h1, h2, h3⟩ : Yb 104 := ⟨_, Try.func104, by kernel_rfl, by kernel_rfl⟩; have h4 : ¬ fn.name = "runtime.NumGoroutine" := (by simpa using h2); have h5 : ¬ fn.body = none := (by intro e; rw [e] at h3; cases h3); simp [go_sem, execOp, Act.eval, resolve, Deferred.ofValue, invoke, callFunc, h1, h4, h5])
   ·obtain ⟨rfl,rfl⟩:=hW.out
    refine Xd0 fun y9 ho9=>?_;exact hc _ _ _ ⟨rfl,ho9,XQ⟩
  try walk_nrm
  repeat first|(refine XG.rd (by rfl) (fun K hK τ d=>?_);go_simp;refine hK _ ?_;clear hK K τ d)|(refine XG.rd (by rfl) (fun K hK τ d=>?_);have hfact:=uc τ d (z1);go_simp;refine hK _ ?_;clear hfact hK K τ d)
  refine XG.ch (by rfl) (fun hq0=>?_) ?_
  ·subst hq0
   obtain ⟨rfl,ho9,hcv⟩:=hW.out;rw [hcv];refine Y4.call 22 #[P0 wb,nmV (60,0),.int .i64 (fr)] rfl rfl (by decide) (fun w=>?_) (fun w=>?_) (fun a' L hda hc=>?_)
   iterate 2 (focus obtain ⟨fn, h1, h2, h3⟩ : Yb 22 := ⟨_, Try.func22, by kernel_rfl, by kernel_rfl⟩; have h4 : ¬ fn.name = "runtime.NumGoroutine" := (by simpa using h2); have h5 : ¬ fn.body = none := (by intro e; rw [e] at h3; cases h3); simp [go_sem, execOp, Act.eval, resolve, Deferred.ofValue, invoke, callFunc, h1, h4, h5])
   ·refine Xal hwb.out (hH1.out.up ho9) (by first|(simp;done)|(rw [VS];omega)) (60,0) (fr) fun ya K' hw1 hw2 hw3=>?_
    exact hc _ _ _ ⟨rfl,ho9.turned.trans hw3,K',hw1,hw2⟩
  try walk_nrm
  exact XG.nil rfl
 ·apply And.intro
  ·intro cv
   rfl
  ·intro cv C' ya hW
   obtain ⟨rfl,hua,K2,hwK,hH2⟩:=hW;have hm2:=hua.heap hm.out (Wk.told_ne hH1.out.at_ hm.out (by decide) (by decide) (by decide));replace hwK:=hwK.trans hwb.out;replace hwK:=HD hwK;replace hm:=HD hm2;replace hH2:=HD hH2;clear hH1 hwb hm2 hua;have hwb:=hwK;clear hwK;show JG _ _ _ (G ((base _).at _ (.inRegion _ []::_)) _) _
   repeat refine kx ?_
   refine JG.drawChain 5 (fun i=>if i=1 then some 0 else if i=4 then some 1 else none) (bgW K2 (fun K' y=>Qo x0 K' gv Q nmR cells (([] ++ [((60,0),fr)]) ++ [((61,0),fr)]) y) (61,0) _ _) 2 [some 11,some 14] (fun _=>undef) (by kernel_rfl) (by kernel_rfl) (by kernel_rfl) (by decide) (by decide) ⟨rfl,rfl⟩ ?_;apply Exists.intro;apply And.intro
   ·intro s hs cv C' y hW
    have hmy:=bgW.made hm.out hW (Wk.told_ne hH2.out.at_ hm.out (by decide) (by decide) (by decide));have z0:y.cell? ⟨bm,0,none⟩=some (.int .i64 n):=Blk.cell hmy 0;have z1:y.cell? ⟨bm,1,none⟩=some (.int .i64 fr):=Blk.cell hmy 1;replace hW:=HD hW;replace hmy:=HD hmy;simp only [List.take]
    repeat first|(refine XG.rd (by rfl) (fun K hK τ d=>?_);go_simp;refine hK _ ?_;clear hK K τ d)|(refine XG.rd (by rfl) (fun K hK τ d=>?_);have hfact:=uc τ d (z1);go_simp;refine hK _ ?_;clear hfact hK K τ d)
    refine XG.ch (by rfl) (fun hq0=>?_) ?_
    ·subst hq0
     refine Y4.call 105 #[] rfl rfl (by decide) (fun w=>?_) (fun w=>?_) (fun a' L hda hc=>?_)
     iterate 2 (focus obtain ⟨fn, h1, h2, h3⟩ : Yb 105 := ⟨_, Try.func105, by kernel_rfl, by kernel_rfl⟩; have h4 : ¬ fn.name = "runtime.NumGoroutine" := (by simpa using h2); have h5 : ¬ fn.body = none := (by intro e; rw [e] at h3; cases h3); simp [go_sem, execOp, Act.eval, resolve, Deferred.ofValue, invoke, callFunc, h1, h4, h5])
     ·obtain ⟨rfl,rfl⟩:=hW.out
      refine XaK fun y9 ho9=>?_;exact hc _ _ _ ⟨rfl,ho9,XQ⟩
    try walk_nrm
    repeat first|(refine XG.rd (by rfl) (fun K hK τ d=>?_);go_simp;refine hK _ ?_;clear hK K τ d)|(refine XG.rd (by rfl) (fun K hK τ d=>?_);have hfact:=uc τ d (z1);go_simp;refine hK _ ?_;clear hfact hK K τ d)
    refine XG.ch (by rfl) (fun hq0=>?_) ?_
    ·subst hq0
     obtain ⟨rfl,ho9,hcv⟩:=hW.out;rw [hcv];refine Y4.call 22 #[P0 wb,nmV (61,0),.int .i64 (fr)] rfl rfl (by decide) (fun w=>?_) (fun w=>?_) (fun a' L hda hc=>?_)
     iterate 2 (focus obtain ⟨fn, h1, h2, h3⟩ : Yb 22 := ⟨_, Try.func22, by kernel_rfl, by kernel_rfl⟩; have h4 : ¬ fn.name = "runtime.NumGoroutine" := (by simpa using h2); have h5 : ¬ fn.body = none := (by intro e; rw [e] at h3; cases h3); simp [go_sem, execOp, Act.eval, resolve, Deferred.ofValue, invoke, callFunc, h1, h4, h5])
     ·refine Xal hwb.out (hH2.out.up ho9) (by first|(simp;done)|(rw [VS];omega)) (61,0) (fr) fun ya K' hw1 hw2 hw3=>?_
      exact hc _ _ _ ⟨rfl,ho9.turned.trans hw3,K',hw1,hw2⟩
    try walk_nrm
    exact XG.nil rfl
   ·apply And.intro
    ·intro cv
     rfl
    ·intro cv C' ya hW
     obtain ⟨rfl,hua,K3,hwK,hH3⟩:=hW;have hm2:=hua.heap hm.out (Wk.told_ne hH2.out.at_ hm.out (by decide) (by decide) (by decide));replace hwK:=hwK.trans hwb.out;replace hwK:=HD hwK;replace hm2:=HD hm2;replace hH3:=HD hH3;show JG _ _ _ (G ((base _).at _ (.inRegion _ []::_)) _) _
     repeat refine kx ?_
     refine JG.loop ?_;exact hL.out _ hn hn2 n 0 (by omega) _ _ K3 _ _ _ _ _ _ _ _ _ _ _ _ _ _ _ _ _ _ _ _ _ _ _ _ _ _ _ _ hwK.out hH3.out hm2.out h.out
