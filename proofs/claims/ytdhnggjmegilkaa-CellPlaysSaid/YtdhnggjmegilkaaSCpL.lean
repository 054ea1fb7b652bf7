/- The cell law makes its bodies: a closure a script, each with a box of its own for its number. -/
import Derived.Test.YtdhnggjmegilkaaSWkE
import Derived.Test.YtdhnggjmegilkaaSCpJ
set_option linter.unusedSimpArgs false
set_option linter.unusedVariables false
set_option maxRecDepth 100000
set_option maxHeartbeats 16000000
namespace Go.Proofs.Ytdhnggjmegilkaa
open Go.Conc Go.RowKit
set_option maxRecDepth 100000
theorem XfA:(Try.prog.info? 29).map (fun i=>(i.zero,i.size,i.bytes))=some (some (.pointer none),1,8):=by kernel_rfl
structure Qm (x0:World) (bl:Nat) (v:Nat→Int) (k:Nat) (As:List Nat) (vL:Value) (x:World):Prop where
 len:As.length=k
 size:x0.heap.size≤x.heap.size
 old:∀ r,r < x0.heap.size→r≠bl→x.heap[r]? = x0.heap[r]?
 lo:bl < x0.heap.size
 blk:x.heap[bl]? = some (.cells #[vL] 28 (0,0))
 row:x.ownsRow x0.heap.size 29 1 vL k (As.map fun b=>P0 b)
 cell:∀ i b,As[i]? = some b→x0.heap.size≤b∧XA x b (v i)
 nodup:As.Nodup
theorem Qm.old_ {x0 x y:World} {bl k:Nat} {v:Nat→Int} {As:List Nat} {vL:Value} (h:Qm x0 bl v k As vL x) (ho:Xf x y):Qm x0 bl v k As vL y :=
 ⟨h.len,Nat.le_trans h.size ho.1,fun r h1 h2=>(ho.2 r (Nat.lt_of_lt_of_le h1 h.size)).trans (h.old r h1 h2),h.lo,(ho.2 bl (Nat.lt_of_lt_of_le h.lo h.size)).trans h.blk,Xh h.row fun g hg=>ho.2 g (Xq h.row hg),fun i b hi=>⟨(h.cell i b hi).1,(ho.2 b (h.cell i b hi).2.lt).trans (h.cell i b hi).2⟩,h.nodup⟩
theorem Qm.more {x0 y:World} {bl k:Nat} {v:Nat→Int} {As:List Nat} {vL:Value} (h:Qm x0 bl v k As vL y) (hk:k < 100000) {b B:Nat} (hb:x0.heap.size≤b) (hc:XA y b (v k)) (hn:b ∉ As) (hB:y.heap[B]? = some (.cells #[P0 b] 29 (0,0))) (τ:Nat→Question→Nat) (d:Nat) :
 ∃ u y',(Builtin.append_ #[28,28] 28 #[vL,.slice (some ⟨B,0,none⟩) 1 1]).run Try.prog (under y τ d)=.ok u y'∧(∃ a l c,u=.slice a l c)∧y'.cell? (th bl 0)=some vL∧y'.frozen? (th bl 0)=false∧(∀ r,r < x0.heap.size→y'.heap[r]? = y.heap[r]?) ∧
  Qm x0 bl v (k + 1) (As ++ [b]) u (y'.setCell (th bl 0) u):=by
 obtain ⟨i0,hi0,hz0,hz1,hz2⟩:=XI XfA
 obtain ⟨g,cap,y',e1,e2,e3,e4,e5⟩:=run_append_lies (P:=Try.prog) (under y τ d) 28 28 x0.heap.size 29 i0 _ 1 8 Try.underlying28 hi0 hz0 hz1 hz2 rfl (by omega) vL _ _ h.row ⟨B,0,none⟩ 1 1 [P0 b] rfl (World.news_of_block (cs:=#[P0 b]) (t:=29) (fr:=(0,0)) hB) (by simp [Value.oneCell']) (by omega) (by unfold maxLen;omega) (by omega) h.size _ rfl
 have hlow:∀ r,r < x0.heap.size→y'.heap[r]? = y.heap[r]?:=fun r h1=>e3.block r (Nat.lt_of_lt_of_le h1 h.size) fun e=>by have:=Yx h.row e.symm;omega
 have hsz:y.heap.size≤y'.heap.size:=e3.size
 have hgN:x0.heap.size≤g:=Yx e2 rfl
 have hcell:∀ (b':Nat) (u:Int),x0.heap.size≤b'→XA y b' u→XA (y'.setCell (th bl 0) (.slice (some ⟨g,0,none⟩) (k + 1) cap)) b' u:=fun b' u h1 h2=>by
  refine ((Xb (fun e=>by have:=h.lo;omega)).trans (e3.block b' h2.lt fun e=>?_)).trans h2
  rcases h.row.2 with ⟨e0,_⟩|⟨g',cap',cur,e0,_,hg,_⟩
  ·rw [e0] at e;cases e
  ·rw [e0] at e
   obtain rfl:b'=g':=by simpa [Value.ownBlock] using e
   have:=hg.symm.trans h2
   injection this with this
   injection this with _ this
   exact absurd this (by decide)
 refine ⟨_,y',e1,⟨_,_,_,rfl⟩,?_,?_,hlow,?_⟩
 ·rw [World.cell?_of_block (hlow bl h.lo)];exact Xa h.blk 0
 ·rw [show y'.frozen? (th bl 0)=y.frozen? (th bl 0) from World.frozen?_of_block (hlow bl h.lo)]
  exact Xe h.blk 0
 ·refine ⟨by simp [h.len],by rw [Xg];exact Nat.le_trans h.size hsz,fun r h1 h2=>((Xb h2).trans (hlow r h1)).trans (h.old r h1 h2),h.lo,?_,?_,fun i b' hi=>?_,?_⟩
  ·rw [Xc ((hlow bl h.lo).trans h.blk)];rfl
  ·rw [List.map_append]
   exact Xh e2 fun q hq=>Xb (by
    obtain rfl:g=q:=by simpa [Value.ownBlock] using hq
    have:=h.lo;omega)
  ·rcases Nat.lt_or_ge i As.length with hi'|hi'
   ·rw [List.getElem?_append_left hi'] at hi
    exact ⟨(h.cell i b' hi).1,hcell _ _ (h.cell i b' hi).1 (h.cell i b' hi).2⟩
   ·rw [List.getElem?_append_right hi'] at hi
    have:=(LE' hi).1
    have e:i=k:=by simp at this;have:=h.len;omega
    subst e
    rw [h.len,Nat.sub_self] at hi
    obtain rfl:b=b':=by simpa using hi
    exact ⟨hb,hcell _ _ hb hc⟩
  ·exact List.nodup_append.2 ⟨h.nodup,by simp,fun a ha c hc e=>by rw [List.mem_singleton.1 hc] at e;exact hn (e ▸ ha)⟩
section
variable {Post:Value→World→Prop} {C:Ctx} {cs:List Frame} {x0:World} {bp bl gC oC nC cC:Nat} {v:Nat→Int} {kk:List Item}
structure Xep (x0:World) (bp bl gC oC nC cC:Nat) (v:Nat→Int):Prop where
 p:x0.cell? (th bp 0)=some (.slice (some ⟨gC,oC,none⟩) nC cC)
 v:∀ i,i < nC→x0.cell? ⟨gC,oC + i,none⟩=some (.int .i64 (v i))
 b1:bp≠bl
 b2:gC≠bl
 n:nC≤40
theorem Qm.sees {x:World} {k:Nat} {As:List Nat} {vL:Value} (h:Qm x0 bl v k As vL x) {a:Addr} {u:Value} (hc:x0.cell? a=some u) (hne:a.block≠bl):x.cell? a=some u:=(World.cell?_of_block (h.old _ (Xs hc) hne)).trans hc
def ckW (x0:World) (bl:Nat) (v:Nat→Int) (k:Nat) (As:List Nat) (vL:Value) (C:Ctx) (x:World):Nat→(Nat→Value)→Ctx→World→Prop
 | 0,_,C',y=>C'=C∧y=x
 | 1,cv,C',y=>C'=C∧Qm x0 bl v k As vL y∧∃ b,cv 0=P0 b∧x0.heap.size≤b∧XA y b (v k)∧b ∉ As
 | 2,cv,C',y=>C'=C∧Qm x0 bl v k As vL y∧∃ b B,cv 1=.slice (some ⟨B,0,none⟩) 1 1∧x0.heap.size≤b∧XA y b (v k)∧b ∉ As∧y.heap[B]? = some (.cells #[P0 b] 29 (0,0))
 | _,cv,C',y=>C'=C∧y.cell? (th bl 0)=some vL∧y.frozen? (th bl 0)=false∧(∃ a l c,cv 2=.slice a l c)∧(∀ r,r < x0.heap.size→r≠bl→y.heap[r]? = x0.heap[r]?)∧∃ b,Qm x0 bl v (k + 1) (As ++ [b]) (cv 2) (y.setCell (th bl 0) (cv 2))
theorem ckW.low {x:World} {k:Nat} {As:List Nat} {vL:Value} (h0:Qm x0 bl v k As vL x) {q:Nat} {cv:Nat→Value} {C':Ctx} {y:World} (h:ckW x0 bl v k As vL C x q cv C' y):(∀ r,r < x0.heap.size→r≠bl→y.heap[r]? = x0.heap[r]?)∧y.cell? (th bl 0)=some vL:=by
 match q,h with
 | 0,h=>rw [h.2];exact ⟨h0.old,Xa h0.blk 0⟩
 | 1,h=>exact ⟨h.2.1.old,Xa h.2.1.blk 0⟩
 | 2,h=>exact ⟨h.2.1.old,Xa h.2.1.blk 0⟩
 | _ + 3,h=>exact ⟨h.2.2.2.2.1,h.2.1⟩
theorem Xby {u0 u2 u3 u6 u7 u8 u9 B0 B1 B2 B3 B4 B5 B6 B7 B8 B9 D0 D1 D2 D3 D4 G1 G2 G3 G4 G5 G6 G7 G8 G9 H4 H5 H6 H7 H8 H9 I0 I1 I2 I3 I4 I5 I6 I7 I8 I9 J0 J1 J2 J3 J4 J5 J6 J7 J8 J9 K0 K1 K3 K4 K5 K6 K7 K8 K9 L0 L1 L2 L3 L4 L5 L6 L7 L8 L9 M0 M1 M4 M5 M6 M7 M8 M9 N1 N5 N6 N7 N8 N9 O0 O1 O2 O3 O4 O5 O6 O7 O8 O9 R0 R1 R2 R3 R4 R5 R6 R7 R8 R9 S0 S1 S2 S3 S4 S5 S6 S7 S8 S9 T0 T1 T2 T3 T4 T5 T6 T7 T8 T9 U0 U1 U2 U3 U4 U5 U6 U7 U8 U9 V0 V1 V2 V3 V4 V5 V6 V7 V8 V9 W0 W1 W2 W3:Value} (H:Xep x0 bp bl gC oC nC cC v):∀ (q k:Nat),k + q=nC→∀ (x:World) (As:List Nat) (vL:Value) (D5 D6 D7 D8 D9 E0 E1 E2 E3 E4 E5 E6 E7 E8 E9 G0:Value),Qm x0 bl v k As vL x →
 (∀ (y:World) (As:List Nat) (vL:Value) (D5 D6 D7 D8 D9 E0 E1 E2 E3 E4 E5 E6 E7 E8 E9 G0:Value),Qm x0 bl v nC As vL y→JG Try.prog Post C (G ((base 3).at ⟨List.toArray (u0::P0 bp::u2::u3::P0 bl::.int .i64 nC::u6::u7::u8::u9::B0::B1::B2::B3::B4::B5::B6::B7::B8::B9::D0::D1::D2::D3::D4::D5::D6::D7::D8::D9::E0::E1::E2::E3::E4::E5::E6::E7::E8::E9::G0::G1::G2::G3::G4::G5::G6::G7::G8::G9::H4::H5::H6::H7::H8::H9::I0::I1::I2::I3::I4::I5::I6::I7::I8::I9::J0::J1::J2::J3::J4::J5::J6::J7::J8::J9::K0::K1::K3::K4::K5::K6::K7::K8::K9::L0::L1::L2::L3::L4::L5::L6::L7::L8::L9::M0::M1::M4::M5::M6::M7::M8::M9::N1::N5::N6::N7::N8::N9::O0::O1::O2::O3::O4::O5::O6::O7::O8::O9::R0::R1::R2::R3::R4::R5::R6::R7::R8::R9::S0::S1::S2::S3::S4::S5::S6::S7::S8::S9::T0::T1::T2::T3::T4::T5::T6::T7::T8::T9::U0::U1::U2::U3::U4::U5::U6::U7::U8::U9::V0::V1::V2::V3::V4::V5::V6::V7::V8::V9::W0::W1::W2::W3::[]),[]⟩ kk) cs) y) →
 JG Try.prog Post C (G ((base 3).at ⟨List.toArray (u0::P0 bp::u2::u3::P0 bl::.int .i64 k::u6::u7::u8::u9::B0::B1::B2::B3::B4::B5::B6::B7::B8::B9::D0::D1::D2::D3::D4::D5::D6::D7::D8::D9::E0::E1::E2::E3::E4::E5::E6::E7::E8::E9::G0::G1::G2::G3::G4::G5::G6::G7::G8::G9::H4::H5::H6::H7::H8::H9::I0::I1::I2::I3::I4::I5::I6::I7::I8::I9::J0::J1::J2::J3::J4::J5::J6::J7::J8::J9::K0::K1::K3::K4::K5::K6::K7::K8::K9::L0::L1::L2::L3::L4::L5::L6::L7::L8::L9::M0::M1::M4::M5::M6::M7::M8::M9::N1::N5::N6::N7::N8::N9::O0::O1::O2::O3::O4::O5::O6::O7::O8::O9::R0::R1::R2::R3::R4::R5::R6::R7::R8::R9::S0::S1::S2::S3::S4::S5::S6::S7::S8::S9::T0::T1::T2::T3::T4::T5::T6::T7::T8::T9::U0::U1::U2::U3::U4::U5::U6::U7::U8::U9::V0::V1::V2::V3::V4::V5::V6::V7::V8::V9::W0::W1::W2::W3::[]),[]⟩ (.code (Code.nav (Try.f3.body.getD .skip) [1,1,1,1,0,1,0,0])::.inLoop (Code.nav (Try.f3.body.getD .skip) [1,1,1,1,0,1,0,0])::.inBlock 0::kk)) cs) x:=by
 intro q
 induction q with
 | zero =>
  intro k hkq x As vL D5 D6 D7 D8 D9 E0 E1 E2 E3 E4 E5 E6 E7 E8 E9 G0 hI h
  obtain rfl:k=nC:=by omega
  have y1:=hI.sees H.p H.b1
  replace h:=HD (h x As vL)
  replace hI:=HD hI
  clear H
  simp only [Try.f3,Option.getD_some,Code.nav]
  have hx:decide ((k:Int) < k)=false:=by simp
  have hxN:decide (k < k)=false:=by simp
  repeat first|refine jc rfl ?_|(first|refine ju rfl rfl ?_|(refine jv rfl rfl rfl fun K E f τ d=>?_;have f0:=uc τ d y1;go_simp;refine f _ _ _ _ ?_;clear f0 f K E τ d);try walk_nrm)
  refine JG.exit (by rfl) ?_
  try walk_nrm
  exact h.out _ _ _ _ _ _ _ _ _ _ _ _ _ _ _ _ hI.out
 | succ q ih =>
  intro k hkq x As vL D5 D6 D7 D8 D9 E0 E1 E2 E3 E4 E5 E6 E7 E8 E9 G0 hI h
  have hkn:k < nC:=by omega
  have hn40:=H.n
  have y1:=hI.sees H.p H.b1
  have IH:=HD ih
  have HI:=HD hI
  have HH:=HD H
  have Hh:=HD h
  clear ih hI H h
  simp only [Try.f3,Option.getD_some,Code.nav]
  have hx:decide ((k:Int) < nC)=true:=by simp;omega
  have hxN:decide (k < nC)=true:=by simp;omega
  have x4:(k:Int) < nC:=by omega
  have x6:(0:Int)≤k:=by omega
  repeat first|refine jc rfl ?_|(first|refine ju rfl rfl ?_|(refine jv rfl rfl rfl fun K E f τ d=>?_;have f0:=uc τ d y1;go_simp;refine f _ _ _ _ ?_;clear f0 f K E τ d);try walk_nrm)
  refine JG.drawChain 9 (fun i=>if i=6 then some 0 else if i=7 then some 1 else if i=8 then some 2 else none) (ckW x0 bl v k As vL C x) 3 [some 38,some 39,some 40] (fun _=>undef) (by kernel_rfl) (by kernel_rfl) (by kernel_rfl) (by decide) (by decide) ⟨rfl,rfl⟩ ?_
  apply Exists.intro
  apply And.intro
  ·intro s hs cv C' y hW
   obtain ⟨hlow,y4⟩:=ckW.low HI.out hW
   have t:∀ {a:Addr} {u:Value},a.block≠bl→x0.cell? a=some u→y.cell? a=some u:=fun h1 h2=>(World.cell?_of_block (hlow _ (Xs h2) h1)).trans h2
   have y2:=t (a:=th bp 0) HH.out.b1 HH.out.p
   have y3:=t HH.out.b2 (HH.out.v k hkn)
   replace hW:=HD hW
   clear hlow t
   simp only [List.take]
   repeat first|(refine XO.rd (by rfl) (fun K hK τ d=>?_);go_simp;refine hK _ ?_;clear hK K τ d)|(refine XO.rd (by rfl) (fun K hK τ d=>?_);have hfact:=uc τ d (y4);go_simp;refine hK _ ?_;clear hfact hK K τ d)|(refine XO.rd (by rfl) (fun K hK τ d=>?_);have hfact:=uc τ d (y2);go_simp;refine hK _ ?_;clear hfact hK K τ d)|(refine XO.rd (by rfl) (fun K hK τ d=>?_);have hfact:=uc τ d (y3);go_simp;refine hK _ ?_;clear hfact hK K τ d)
   refine XO.ch (by rfl) (fun hq0=>?_) ?_
   ·subst hq0
    refine YA.call 14 #[.int .i64 (v k)] rfl rfl (by decide) (fun w=>?_) (fun w=>?_) (fun a' L hda hc=>?_)
    iterate 2 (focus obtain ⟨fn, h1, h2, h3⟩ : Yk 14 := ⟨_, Try.func14, by kernel_rfl, by kernel_rfl⟩; have h4 : ¬ fn.name = "runtime.NumGoroutine" := (by simpa using h2); have h5 : ¬ fn.body = none := (by intro e; rw [e] at h3; cases h3); simp [go_sem, execOp, Act.eval, resolve, Deferred.ofValue, invoke, callFunc, h1, h4, h5])
    ·obtain ⟨rfl,rfl⟩:=hW.out
     refine Vl fun z oz iz sz=>?_
     exact hc _ _ _ ⟨rfl,HI.out.old_ oz,_,X8,HI.out.size,iz,fun hm=>by
      obtain ⟨i,hi⟩:=List.getElem?_of_mem hm
      have:=(HI.out.cell i _ hi).2.lt
      omega⟩
   try walk_nrm
   refine XO.ch (by rfl) (fun hq0=>?_) ?_
   ·subst hq0
    obtain ⟨rfl,hI1,b,hcv,hb,hib,hnb⟩:=hW.out
    refine YA.op (F:=F0) Ul (fun h=>by cases h) rfl rfl rfl (by decide) (fun K hK τ d=>?_)
    replace hK:=HD hK
    rw [hcv]
    go_simp
    show K _ (under (y.alloc (.cells #[P0 b] 29)) τ d)
    have ho:=(Xf.refl y).alloc (.cells #[P0 b] 29)
    exact hK.out _ _ _ _ ⟨rfl,hI1.old_ ho,b,y.heap.size,X8,hb,(ho.2 b hib.lt).trans hib,hnb,heap_alloc_new _ _⟩
   try walk_nrm
   refine XO.ch (by rfl) (fun hq0=>?_) ?_
   ·subst hq0
    obtain ⟨rfl,hI1,b,B,hcv,hb,hib,hnb,hB⟩:=hW.out
    refine YA.op (F:=F0) Ul (fun h=>by cases h) rfl rfl rfl (by decide) (fun K hK τ d=>?_)
    obtain ⟨u,y',r1,r2,r3,r4,r5,r6⟩:=hI1.more (by omega) hb hib hnb hB τ d
    rw [hcv,Zw (s:=.tmp 32) (x:=.tmp 39) rfl rfl rfl r1]
    exact hK u y' y'.tape y'.drawn ⟨rfl,r3,r4,by rw [X8];exact r2,fun r h1 h2=>(r5 r h1).trans (hI1.old r h1 h2),b,by rw [X8];exact r6⟩
   try walk_nrm
   exact XO.nil rfl
  ·apply And.intro
   ·intro cv
    rfl
   ·intro cv C' y hW
    obtain ⟨rfl,y8,hf,⟨a3,l3,c3,hc3⟩,_,b,hI1⟩:=hW
    rw [hc3] at hI1 ⊢
    have hI2:=HD hI1
    clear hI1
    show JG _ _ _ (G ((base _).at _ (.inRegion _ [9]::_)) _) _
    refine jo rfl rfl rfl (by decide) fun K E hK hE τ d=>?_
    have hf:=ust (And.intro y8 hf) τ d
    obtain ⟨hf,hg⟩:=hf
    go_simp
    refine hK _ _ ?_
    rw [Xd]
    refine jt ?_
    clear hf hg hK hE K E τ d
    try walk_nrm
    have IH':=IH.out (k + 1) (by omega) (y.setCell (th bl 0) (.slice a3 l3 c3)) (As ++ [b]) (.slice a3 l3 c3)
    simp only [Try.f3,Option.getD_some,Code.nav] at IH'
    replace IH':=HD IH'
    have hw:IntKind.i64.wrap ((k:Int) + 1)=((k + 1:Nat):Int):=by
     rw [IntKind.wrap_i64];omega
    repeat first|refine jc rfl ?_|(first|refine ju rfl rfl ?_|(refine jv rfl rfl rfl fun K E f τ d=>?_;go_simp;refine f _ _ _ _ ?_;clear f K E τ d);try walk_nrm)
    refine JG.inLoop ?_
    rw [show ((k:Int) + 1)=((k + 1:Nat):Int) from rfl]
    exact IH'.out _ _ _ _ _ _ _ _ _ _ _ _ _ _ _ _ hI2.out Hh.out
end
theorem XfC:(Try.prog.info? 40).map (fun i=>(i.zero,i.size,i.bytes))=some (some .nilFunc,1,8):=by kernel_rfl
def UB (bp bt bl b:Nat):Value:=.func (.func 15) #[] #[P0 bp,P0 b,P0 bt,P0 bl]
structure VR (x0:World) (bp bt bl k:Nat) (Bs:List Nat) (vB:Value) (x:World):Prop where
 len:Bs.length=k
 size:x0.heap.size≤x.heap.size
 old:∀ r,r < x0.heap.size→x.heap[r]? = x0.heap[r]?
 box:∀ (i b:Nat),Bs[i]? = some b→x0.heap.size≤b∧x.heap[b]? = some (.cells #[.int .i64 i] 3 (0,0))
 row:x.ownsRow x0.heap.size 40 1 vB k (Bs.map fun b=>UB bp bt bl b)
theorem VR.old_ {x0 x y:World} {bp bt bl k:Nat} {Bs:List Nat} {vB:Value} (h:VR x0 bp bt bl k Bs vB x) (ho:Xf x y):VR x0 bp bt bl k Bs vB y :=
 ⟨h.len,Nat.le_trans h.size ho.1,fun r h1=>(ho.2 r (Nat.lt_of_lt_of_le h1 h.size)).trans (h.old r h1),fun i b hi=>⟨(h.box i b hi).1,(ho.2 b (GE (h.box i b hi).2).1).trans (h.box i b hi).2⟩,Xh h.row fun g hg=>ho.2 g (Xq h.row hg)⟩
theorem VR.more {x0 y:World} {bp bt bl k:Nat} {Bs:List Nat} {vB:Value} (h:VR x0 bp bt bl k Bs vB y) (hk:k < 100000) {cur B:Nat} (hb:x0.heap.size≤cur) (hc:y.heap[cur]? = some (.cells #[.int .i64 k] 3 (0,0))) (hB:y.heap[B]? = some (.cells #[UB bp bt bl cur] 40 (0,0))) (τ:Nat→Question→Nat) (d:Nat) :
 ∃ g cap y',(Builtin.append_ #[32,32] 32 #[vB,.slice (some ⟨B,0,none⟩) 1 1]).run Try.prog (under y τ d)=.ok (.slice (some ⟨g,0,none⟩) (k + 1) cap) y'∧y'.heap[cur]? = some (.cells #[.int .i64 k] 3 (0,0))∧VR x0 bp bt bl (k + 1) (Bs ++ [cur]) (.slice (some ⟨g,0,none⟩) (k + 1) cap) y':=by
 obtain ⟨i0,hi0,hz0,hz1,hz2⟩:=XI XfC
 obtain ⟨g,cap,y',e1,e2,e3,e4,e5⟩:=run_append_lies (P:=Try.prog) (under y τ d) 32 32 x0.heap.size 40 i0 _ 1 8 Try.underlying32 hi0 hz0 hz1 hz2 rfl (by omega) vB _ _ h.row ⟨B,0,none⟩ 1 1 [UB bp bt bl cur] rfl (World.news_of_block (cs:=#[UB bp bt bl cur]) (t:=40) (fr:=(0,0)) hB) (by simp [Value.oneCell',UB]) (by omega) (by unfold maxLen;omega) (by omega) h.size _ rfl
 have hlow:∀ r,r < x0.heap.size→y'.heap[r]? = y.heap[r]?:=fun r h1=>e3.block r (Nat.lt_of_lt_of_le h1 h.size) fun e=>by have:=Yx h.row e.symm;omega
 have hbox:∀ (b:Nat) (u:Value),y.heap[b]? = some (.cells #[u] 3 (0,0))→y'.heap[b]? = some (.cells #[u] 3 (0,0)):=fun b u h2=>by
  refine (e3.block b (GE h2).1 fun e=>?_).trans h2
  rcases h.row.2 with ⟨e0,_⟩|⟨g',cap',cur',e0,_,hg,_⟩
  ·rw [e0] at e;cases e
  ·rw [e0] at e
   obtain rfl:b=g':=by simpa [Value.ownBlock] using e
   have:=hg.symm.trans h2
   injection this with this
   injection this with _ this
   exact absurd this (by decide)
 refine ⟨g,cap,y',e1,hbox _ _ hc,⟨by simp [h.len],Nat.le_trans h.size e3.size,fun r h1=>(hlow r h1).trans (h.old r h1),fun i b hi=>?_,by rw [List.map_append];exact e2⟩⟩
 rcases Nat.lt_or_ge i Bs.length with hi'|hi'
 ·rw [List.getElem?_append_left hi'] at hi
  exact ⟨(h.box i b hi).1,hbox _ _ (h.box i b hi).2⟩
 ·rw [List.getElem?_append_right hi'] at hi
  have:=(LE' hi).1
  have e:i=k:=by simp at this;have:=h.len;omega
  subst e
  rw [h.len,Nat.sub_self] at hi
  obtain rfl:cur=b:=by simpa using hi
  exact ⟨hb,hbox _ _ hc⟩
section
variable {Post:Value→World→Prop} {C:Ctx} {cs:List Frame} {x0:World} {bp bt bl nS cS:Nat} {aS:Option Addr} {kk:List Item}
theorem WN {u0 u2 u3 u5 u9 B0 B1 B2 B3 B4 B5 B6 B7 B8 B9 D0 D1 D2 D3 D4 D5 D6 D7 D8 D9 E0 E1 E2 E3 E4 E5 E6 E7 E8 E9 G0 G1 G2 G3 G4 I1 I2 I3 I4 I5 I6 I7 I8 I9 J0 J1 J2 J3 J4 J5 J6 J7 J8 J9 K0 K1 K3 K4 K5 K6 K7 K8 K9 L0 L1 L2 L3 L4 L5 L6 L7 L8 L9 M0 M1 M4 M5 M6 M7 M8 M9 N1 N5 N6 N7 N8 N9 O0 O1 O2 O3 O4 O5 O6 O7 O8 O9 R0 R1 R2 R3 R4 R5 R6 R7 R8 R9 S0 S1 S2 S3 S4 S5 S6 S7 S8 S9 T0 T1 T2 T3 T4 T5 T6 T7 T8 T9 U0 U1 U2 U3 U4 U5 U6 U7 U8 U9 V0 V1 V2 V3 V4 V5 V6 V7 V8 V9 W0 W1 W2 W3:Value} (hp:x0.cell? (th bp 1)=some (.slice aS nS cS)) (hn:nS < 100000):∀ (q k:Nat),k + q=nS→∀ (x:World) (Bs:List Nat) (cur:Nat) (vB:Value) (G5 G6 G7 G8 G9 H4 H5 H6 H7 H8 H9 I0:Value),VR x0 bp bt bl k Bs vB x→x0.heap.size≤cur→x.heap[cur]? = some (.cells #[.int .i64 k] 3 (0,0)) →
 (∀ (y:World) (Bs:List Nat) (cur:Nat) (vB:Value) (G5 G6 G7 G8 G9 H4 H5 H6 H7 H8 H9 I0:Value),VR x0 bp bt bl nS Bs vB y→JG Try.prog Post C (G ((base 3).at ⟨List.toArray (u0::P0 bp::u2::u3::P0 bl::u5::P0 bt::vB::P0 cur::u9::B0::B1::B2::B3::B4::B5::B6::B7::B8::B9::D0::D1::D2::D3::D4::D5::D6::D7::D8::D9::E0::E1::E2::E3::E4::E5::E6::E7::E8::E9::G0::G1::G2::G3::G4::G5::G6::G7::G8::G9::H4::H5::H6::H7::H8::H9::I0::I1::I2::I3::I4::I5::I6::I7::I8::I9::J0::J1::J2::J3::J4::J5::J6::J7::J8::J9::K0::K1::K3::K4::K5::K6::K7::K8::K9::L0::L1::L2::L3::L4::L5::L6::L7::L8::L9::M0::M1::M4::M5::M6::M7::M8::M9::N1::N5::N6::N7::N8::N9::O0::O1::O2::O3::O4::O5::O6::O7::O8::O9::R0::R1::R2::R3::R4::R5::R6::R7::R8::R9::S0::S1::S2::S3::S4::S5::S6::S7::S8::S9::T0::T1::T2::T3::T4::T5::T6::T7::T8::T9::U0::U1::U2::U3::U4::U5::U6::U7::U8::U9::V0::V1::V2::V3::V4::V5::V6::V7::V8::V9::W0::W1::W2::W3::[]),[]⟩ kk) cs) y) →
 JG Try.prog Post C (G ((base 3).at ⟨List.toArray (u0::P0 bp::u2::u3::P0 bl::u5::P0 bt::vB::P0 cur::u9::B0::B1::B2::B3::B4::B5::B6::B7::B8::B9::D0::D1::D2::D3::D4::D5::D6::D7::D8::D9::E0::E1::E2::E3::E4::E5::E6::E7::E8::E9::G0::G1::G2::G3::G4::G5::G6::G7::G8::G9::H4::H5::H6::H7::H8::H9::I0::I1::I2::I3::I4::I5::I6::I7::I8::I9::J0::J1::J2::J3::J4::J5::J6::J7::J8::J9::K0::K1::K3::K4::K5::K6::K7::K8::K9::L0::L1::L2::L3::L4::L5::L6::L7::L8::L9::M0::M1::M4::M5::M6::M7::M8::M9::N1::N5::N6::N7::N8::N9::O0::O1::O2::O3::O4::O5::O6::O7::O8::O9::R0::R1::R2::R3::R4::R5::R6::R7::R8::R9::S0::S1::S2::S3::S4::S5::S6::S7::S8::S9::T0::T1::T2::T3::T4::T5::T6::T7::T8::T9::U0::U1::U2::U3::U4::U5::U6::U7::U8::U9::V0::V1::V2::V3::V4::V5::V6::V7::V8::V9::W0::W1::W2::W3::[]),[]⟩ (.code (Code.nav (Try.f3.body.getD .skip) [1,1,1,1,1,1,1,0,1,0,0])::.inLoop (Code.nav (Try.f3.body.getD .skip) [1,1,1,1,1,1,1,0,1,0,0])::.inBlock 2::kk)) cs) x:=by
 intro q
 induction q with
 | zero =>
  intro k hkq x Bs cur vB G5 G6 G7 G8 G9 H4 H5 H6 H7 H8 H9 I0 hI hcx hcur h
  obtain rfl:k=nS:=by omega
  have y1:x.cell? (th bp 1)=some (.slice aS k cS):=(World.cell?_of_block (hI.old _ (Xs hp))).trans hp
  have y2:x.cell? (th cur 0)=some (.int .i64 k):=Xa hcur 0
  replace h:=HD (h x Bs cur vB)
  replace hI:=HD hI
  clear hcur
  simp only [Try.f3,Option.getD_some,Code.nav]
  have hx:decide ((k:Int) < k)=false:=by simp
  have hxN:decide (k < k)=false:=by simp
  repeat first|refine jc rfl ?_|(first|refine ju rfl rfl ?_|(refine jv rfl rfl rfl fun K E f τ d=>?_;have f0:=uc τ d y1;have f1:=uc τ d y2;go_simp;refine f _ _ _ _ ?_;clear f0 f1 f K E τ d);try walk_nrm)
  refine JG.exit (by rfl) ?_
  try walk_nrm
  exact h.out _ _ _ _ _ _ _ _ _ _ _ _ hI.out
 | succ q ih =>
  intro k hkq x Bs cur vB G5 G6 G7 G8 G9 H4 H5 H6 H7 H8 H9 I0 hI hcx hcur h
  have hkn:k < nS:=by omega
  have y1:x.cell? (th bp 1)=some (.slice aS nS cS):=(World.cell?_of_block (hI.old _ (Xs hp))).trans hp
  have y2:x.cell? (th cur 0)=some (.int .i64 k):=Xa hcur 0
  have IH:=HD ih
  have HI:=HD hI
  have HC:=HD hcur
  have Hh:=HD h
  clear ih hI hcur h
  simp only [Try.f3,Option.getD_some,Code.nav]
  have hx:decide ((k:Int) < nS)=true:=by simp;omega
  have hxN:decide (k < nS)=true:=by simp;omega
  repeat first|refine jc rfl ?_|(first|refine ju rfl rfl ?_|(refine jv rfl rfl rfl fun K E f τ d=>?_;have f0:=uc τ d y1;have f1:=uc τ d y2;go_simp;refine f _ _ _ _ ?_;clear f0 f1 f K E τ d);try walk_nrm)
  refine jo rfl rfl rfl (by decide) fun K E hK hE τ d=>?_
  go_simp
  refine hK _ _ (jt (x:=x.alloc (.cells #[UB bp bt bl cur] 40)) ?_)
  simp only [Xv]
  clear hK hE K E τ d
  have ho:=(Xf.refl x).alloc (.cells #[UB bp bt bl cur] 40)
  have HI1:=HI.out.old_ ho
  have HC1:=(ho.2 cur (GE HC.out).1).trans HC.out
  have hB:(x.alloc (.cells #[UB bp bt bl cur] 40)).heap[x.heap.size]? = some (.cells #[UB bp bt bl cur] 40 (0,0)):=heap_alloc_new _ _
  generalize x.alloc (.cells #[UB bp bt bl cur] 40)=x1 at HI1 HC1 hB ⊢
  generalize x.heap.size=B at hB ⊢
  clear ho y1 y2 HI HC
  refine jo rfl rfl rfl (by decide) (fun K E hK hE τ d=>?_)
  obtain ⟨g,cap,y',r1,r2,r3⟩:=HI1.more (by omega) hcx HC1 hB τ d
  rw [Zw (s:=.tmp 52) (x:=.tmp 54) rfl rfl rfl r1,uponE_value]
  refine hK _ _ ?_
  clear hK hE K E r1 HI1 HC1 hB
  have y3:y'.cell? (th cur 0)=some (.int .i64 k):=Xa r2 0
  replace r2:=HD r2
  replace r3:=HD r3
  try walk_nrm
  repeat first|refine jc rfl ?_|(first|refine ju rfl rfl ?_|(refine jv rfl rfl rfl fun K E f τ d=>?_;have f0:=uc τ d y3;go_simp;refine f _ _ _ _ ?_;clear f0 f K E τ d);try walk_nrm)
  refine jo rfl rfl rfl (by decide) fun K E hK hE τ d=>?_
  go_simp
  refine hK _ _ (jt (x:=y'.alloc (.cells #[.int .i64 0] 3)) ?_)
  simp only [Xv]
  clear hK hE K E τ d
  have b1:(y'.alloc (.cells #[.int .i64 0] 3)).heap[y'.heap.size]? = some (.cells #[.int .i64 0] 3 (0,0)):=heap_alloc_new _ _
  have o1:=(Xf.refl y').alloc (.cells #[.int .i64 0] 3)
  generalize y'.alloc (.cells #[.int .i64 0] 3)=w1 at b1 o1 ⊢
  obtain ⟨nb,hnb⟩:∃ nb,nb=y'.heap.size:=⟨_,rfl⟩
  rw [← hnb] at b1 ⊢
  replace hnb:=HD hnb
  refine jo rfl rfl rfl (by decide) fun K E hK hE τ d=>?_
  have hf:=ust (And.intro (Xa b1 0) (Xe b1 0)) τ d
  obtain ⟨hf,hg⟩:=hf
  go_simp
  refine hK _ _ ?_
  rw [Xd]
  refine jt ?_
  clear hf hg hK hE K E τ d
  try walk_nrm
  have b2:(w1.setCell (th nb 0) (.int .i64 k)).heap[nb]? = some (.cells #[.int .i64 k] 3 (0,0)):=by rw [Xc b1];rfl
  have o2:Xf y' (w1.setCell (th nb 0) (.int .i64 k)):=o1.setNew (by show y'.heap.size≤nb;have:=hnb.out;omega)
  generalize w1.setCell (th nb 0) (.int .i64 k)=w2 at b2 o2 ⊢
  clear b1 o1
  have y4:w2.cell? (th nb 0)=some (.int .i64 k):=Xa b2 0
  have hw:IntKind.i64.wrap ((k:Int) + 1)=((k + 1:Nat):Int):=by
   rw [IntKind.wrap_i64];omega
  repeat first|refine jc rfl ?_|(first|refine ju rfl rfl ?_|(refine jv rfl rfl rfl fun K E f τ d=>?_;have f0:=uc τ d y4;go_simp;refine f _ _ _ _ ?_;clear f0 f K E τ d);try walk_nrm)
  refine jo rfl rfl rfl (by decide) fun K E hK hE τ d=>?_
  have hf:=ust (And.intro y4 (Xe b2 0)) τ d
  obtain ⟨hf,hg⟩:=hf
  go_simp
  refine hK _ _ ?_
  rw [Xd]
  refine jt ?_
  clear hf hg hK hE K E τ d
  try walk_nrm
  have b3:(w2.setCell (th nb 0) (.int .i64 ((k:Int) + 1))).heap[nb]? = some (.cells #[.int .i64 ((k + 1:Nat):Int)] 3 (0,0)):=by rw [Xc b2];rfl
  have o3:Xf y' (w2.setCell (th nb 0) (.int .i64 ((k:Int) + 1))):=o2.setNew (by show y'.heap.size≤nb;have:=hnb.out;omega)
  generalize w2.setCell (th nb 0) (.int .i64 ((k:Int) + 1))=w3 at b3 o3 ⊢
  have IH':=IH.out (k + 1) (by omega) w3 (Bs ++ [cur]) nb (.slice (some ⟨g,0,none⟩) (k + 1) cap)
  simp only [Try.f3,Option.getD_some,Code.nav] at IH'
  replace IH':=HD IH'
  clear y4 b2 o2 y3
  replace b3:=HD b3
  repeat first|refine jc rfl ?_|(first|refine ju rfl rfl ?_|(refine jv rfl rfl rfl fun K E f τ d=>?_;go_simp;refine f _ _ _ _ ?_;clear f K E τ d);try walk_nrm)
  refine JG.inLoop ?_
  exact IH'.out _ _ _ _ _ _ _ _ _ _ _ _ (r3.out.old_ o3) (by have:=r3.out.size;have:=hnb.out;omega) b3.out Hh.out
end
end Go.Proofs.Ytdhnggjmegilkaa
