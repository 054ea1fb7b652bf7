/- Where the threads that are left stand: the first loop of gate's ends. -/
import Derived.Test.YtdgfekplfipekaaVLbB
set_option linter.all false
set_option maxRecDepth 100000
set_option maxHeartbeats 16000000
namespace Go.Proofs.Ytdgfekplfipekaa
open Go.Conc Go.RowKit
open Go.ConcN (upd upd_same upd_ne)
structure Lo where
 tb:Nat
 wk:Nat
 st:Nat
 vv:Value
 at':Xo
 e:Bool
 b:Nat
 v:Int
 n:Int
 ok:Bool
structure Lo.At (x:World) (M rb mb j:Nat) (t:Lo):Prop where
 o:x.heap[t.tb]? = some (.cells (Yk rb j t.wk t.st t.vv t.at' t.e) 91 (2,4))
 lt:t.tb < M
 s:t.e=false→t.vv=P0 t.b∧t.b < M∧x.cell? (th t.b 0)=some (.int .i64 t.v)∧∀ y:World,(∀ r,r < M→y.heap[r]? = x.heap[r]?)→(Instr.lookup 81 (.map (some mb)) (P0 t.b) true).run Try.prog y=.ok (.tuple #[.int .i64 t.n,.bool t.ok]) y
theorem Lo.At.old {x y:World} {M rb mb j:Nat} {t:Lo} (h:t.At x M rb mb j) (hy:∀ r,r < M→y.heap[r]? = x.heap[r]?):t.At y M rb mb j:=by
 refine ⟨(hy _ h.lt).trans h.o,h.lt,fun e=>?_⟩;obtain ⟨h1,h2,h3,h4⟩:=h.s e;refine ⟨h1,h2,?_,fun z hz=>h4 z fun r hr=>(hz r hr).trans (hy r hr)⟩;simp only [World.cell?] at h3 ⊢;rw [hy _ h2];exact h3
def Lo.left (t:Lo):Xo:={ t.at' with cell:=if t.ok then t.n else t.at'.cell,was:=t.v,now:=t.v }
def XT (l:List Lo):List Xo:=(l.filter fun t=>!t.e).map Lo.left
section
variable {Post:Value→World→Prop} {C:Ctx} {x:World} {c:Frame} {cs:List Frame} {rb mb N M:Nat} {vT:Value}
theorem XcN (all:List Lo) (hall:all.length < 100) (hrM:rb < M):∀ (k i:Nat),i + k=all.length→∀ (x:World) (vl:Value) (u1 u2 u4 u5 u6 u7 u8 u9 B0 B1 B2 B3 B7 B8 B9 D0 D1 D2 D3 D4 D5 D6 D7 D8 D9 E0 E1 E2 E3 E4 E5 E6 E7 E8 E9 G0 G1 G2 G3 G4 G5 G6 G7 G8 G9 H0 H4 H5 H6 H7 H8 H9 I1 I2 I3 I4 I5 I6 I7 I8 I9 J0 J1 J2 J3 J4 J5 J6 J7 J8 J9 K0 K1 K2 K3 K4 K5 K6 K7 K8 K9 L0 L1 L2:Value),
 x.ownsRow N 33 1 vT all.length (all.map fun t=>P0 t.tb)→(∀ (j:Nat) (t:Lo),all[j]? = some t→t.At x M rb mb j)→x.ownsRow M 89 8 vl (XT (all.take i)).length ((XT (all.take i)).flatMap Yj)→M≤x.heap.size→(∀ g,vT.ownBlock=some g→g < M)→x.cell? (th rb 1)=some (.map (some mb)) →
 (∀ (y:World) (vl':Value) (u1 u2 u4 u5 u6 u7 u8 u9 B0 B1 B2 B3 B4 B5 B6 B7 B8 B9 D0 D1 D2 D3 D4 D5 D6 D7 D8 D9 E0 E1 E2 E3 E4 E5 E6 E7 E8 E9 G0 G1 G2 G3 G4 G5 G6 G7 G8 G9 H0 H4 H5 H6 H7 H8 H9 I1 I2 I3 I4 I5 I6 I7 I8 I9 J0 J1 J2 J3 J4 J5 J6 J7 J8 J9 K0 K1 K2 K3 K4 K5 K6 K7 K8 K9 L0 L1 L2:Value),y.ownsRow M 89 8 vl' (XT all).length ((XT all).flatMap Yj)→x.heap.size≤y.heap.size→(∀ r,r < M→y.heap[r]? = x.heap[r]?)→JG Try.prog Post C (G ((base 52).at ⟨List.toArray ((P0 rb)::u1::u2::(vl')::u4::u5::u6::u7::u8::u9::B0::B1::B2::B3::B4::B5::B6::B7::B8::B9::D0::D1::D2::D3::D4::D5::D6::D7::D8::D9::E0::E1::E2::E3::E4::E5::E6::E7::E8::E9::G0::G1::G2::G3::G4::G5::G6::G7::G8::G9::H0::H4::H5::H6::H7::H8::H9::I1::I2::I3::I4::I5::I6::I7::I8::I9::J0::J1::J2::J3::J4::J5::J6::J7::J8::J9::K0::K1::K2::K3::K4::K5::K6::K7::K8::K9::L0::L1::L2::[]),[]⟩ [.code (Code.nav (Try.f52.body.getD .skip) [1,1,1])]) (c::cs)) y) →
 JG Try.prog Post C (G ((base 52).at ⟨List.toArray ((P0 rb)::u1::u2::(vl)::u4::u5::u6::u7::u8::u9::B0::B1::B2::B3::(vT)::(.int .i64 all.length)::(.int .i64 i)::B7::B8::B9::D0::D1::D2::D3::D4::D5::D6::D7::D8::D9::E0::E1::E2::E3::E4::E5::E6::E7::E8::E9::G0::G1::G2::G3::G4::G5::G6::G7::G8::G9::H0::H4::H5::H6::H7::H8::H9::I1::I2::I3::I4::I5::I6::I7::I8::I9::J0::J1::J2::J3::J4::J5::J6::J7::J8::J9::K0::K1::K2::K3::K4::K5::K6::K7::K8::K9::L0::L1::L2::[]),[]⟩ [.code (Code.nav (Try.f52.body.getD .skip) [1,1,0,1,0,0]),.inLoop (Code.nav (Try.f52.body.getD .skip) [1,1,0,1,0,0]),.inBlock 0,.code (Code.nav (Try.f52.body.getD .skip) [1,1,1])]) (c::cs)) x:=by
 intro k
 induction k with
 | zero =>
  intro i hik x vl u1 u2 u4 u5 u6 u7 u8 u9 B0 B1 B2 B3 B7 B8 B9 D0 D1 D2 D3 D4 D5 D6 D7 D8 D9 E0 E1 E2 E3 E4 E5 E6 E7 E8 E9 G0 G1 G2 G3 G4 G5 G6 G7 G8 G9 H0 H4 H5 H6 H7 H8 H9 I1 I2 I3 I4 I5 I6 I7 I8 I9 J0 J1 J2 J3 J4 J5 J6 J7 J8 J9 K0 K1 K2 K3 K4 K5 K6 K7 K8 K9 L0 L1 L2 hT hA hl hM hTM hrm h;simp only [Try.f52,Option.getD_some,Code.nav] at h ⊢;have hx:decide ((i:Int) < all.length)=false:=by simp;omega
  have hxN:decide (i < all.length)=false:=by simp;omega
  have ht:all.take i=all:=List.take_of_length_le (by omega);rw [ht] at hl;replace h:=h x vl;replace h:=fun (w1 w2 w4 w5 w6 w7 w8 w9 w10 w11 w12 w13 w14 w15 w16 w17 w18 w19 w20 w21 w22 w23 w24 w25 w26 w27 w28 w29 w30 w31 w32 w33 w34 w35 w36 w37 w38 w39 w40 w41 w42 w43 w44 w45 w46 w47 w48 w49 w50 w51 w52 w53 w54 w55 w56 w57 w58 w59 w60 w61 w62 w63 w64 w65 w66 w67 w68 w69 w70 w71 w72 w73 w74 w75 w76 w77 w78 w79 w80 w81 w82 w83 w84 w85 w86 w87 w88:Value)=>h w1 w2 w4 w5 w6 w7 w8 w9 w10 w11 w12 w13 w14 w15 w16 w17 w18 w19 w20 w21 w22 w23 w24 w25 w26 w27 w28 w29 w30 w31 w32 w33 w34 w35 w36 w37 w38 w39 w40 w41 w42 w43 w44 w45 w46 w47 w48 w49 w50 w51 w52 w53 w54 w55 w56 w57 w58 w59 w60 w61 w62 w63 w64 w65 w66 w67 w68 w69 w70 w71 w72 w73 w74 w75 w76 w77 w78 w79 w80 w81 w82 w83 w84 w85 w86 w87 w88 hl (Nat.le_refl _) (fun r _=>rfl);replace h:=HD h;clear hT hA hl ht hrm
  repeat refine kx ?_
  refine JG.exit (by rfl) ?_
  first|exact h.out _ _ _ _ _ _ _ _ _ _ _ _ _ _ _ _ _ _ _ _ _ _ _ _ _ _ _ _ _ _ _ _ _ _ _ _ _ _ _ _ _ _ _ _ _ _ _ _ _ _ _ _ _ _ _ _ _ _ _ _ _ _ _ _ _ _ _ _ _ _ _ _ _ _ _ _ _ _ _ _ _ _ _ _ _ _ _|(walk_nrm;exact h.out _ _ _ _ _ _ _ _ _ _ _ _ _ _ _ _ _ _ _ _ _ _ _ _ _ _ _ _ _ _ _ _ _ _ _ _ _ _ _ _ _ _ _ _ _ _ _ _ _ _ _ _ _ _ _ _ _ _ _ _ _ _ _ _ _ _ _ _ _ _ _ _ _ _ _ _ _ _ _ _ _ _ _ _ _ _ _)
 | succ k ih =>
  intro i hik x vl u1 u2 u4 u5 u6 u7 u8 u9 B0 B1 B2 B3 B7 B8 B9 D0 D1 D2 D3 D4 D5 D6 D7 D8 D9 E0 E1 E2 E3 E4 E5 E6 E7 E8 E9 G0 G1 G2 G3 G4 G5 G6 G7 G8 G9 H0 H4 H5 H6 H7 H8 H9 I1 I2 I3 I4 I5 I6 I7 I8 I9 J0 J1 J2 J3 J4 J5 J6 J7 J8 J9 K0 K1 K2 K3 K4 K5 K6 K7 K8 K9 L0 L1 L2 hT hA hl hM hTM hrm h;simp only [Try.f52,Option.getD_some,Code.nav] at ih h ⊢;have hx:decide ((i:Int) < all.length)=true:=by simp;omega
  have hxN:decide (i < all.length)=true:=by simp;omega
  have hlt:i < all.length:=by omega
  have hlt':(i:Int) < all.length:=by omega
  have h0i:(0:Int)≤i:=by omega
  have hw:IntKind.i64.wrap ((i:Int) + 1)=((i + 1:Nat):Int):=by rw [IntKind.wrap_i64];omega
  obtain ⟨t,ht⟩:∃ t,all[i]? = some t:=⟨_,List.getElem?_eq_getElem hlt⟩
  obtain ⟨g,cap,rfl,hg⟩:=Qi hT (by omega);have hgi:x.cell? (th g i)=some (P0 t.tb):=hg i _ (by rw [List.getElem?_map,ht];rfl);obtain ⟨hto,htM,hts⟩:=hA i t ht;have h13:x.cell? (th t.tb 13)=some (.bool t.e):=Xa hto 13;have htk:all.take (i + 1)=all.take i ++ [t]:=by rw [List.take_add_one,ht];rfl
  have hlf:XT (all.take (i + 1))=XT (all.take i) ++ (if t.e then [] else [t.left]):=by
   rw [htk];unfold XT;rw [List.filter_append,List.map_append];cases hm:t.e<;>simp [hm]
  have hlen:(XT (all.take i)).length≤i:=by
   unfold XT;have h1:((all.take i).filter fun t=>!t.e).length≤(all.take i).length:=List.length_filter_le _ _;rw [List.length_map];rw [List.length_take] at h1;omega
  replace h:=HD h;replace ih:=HD ih;replace hA:=HD hA;replace hT:=HD hT;have HL:=HD hl;clear hl;obtain ⟨i0,hi0,hz0,hz1,hz2⟩:=XM Vp;obtain ⟨al,ac,rfl⟩:=Xq HL.out;cases he:t.e with
  | true =>
   rw [he] at h13 hlf;rw [if_pos rfl,List.append_nil] at hlf;replace hlf:=HD hlf;clear hts
   repeat first|refine kc ?_|(first|refine ku ?_|(refine kv fun Ω τ d=>?_;have f0:=uc τ d hgi;have f1:=uc τ d h13;go_simp;refine Ω.f ?_;clear f0 f1 Ω τ d);try walk_nrm)
   first|refine JG.exit (by rfl) ?_|skip
   repeat refine kx ?_
   refine JG.inLoop ?_;exact ih.out (i + 1) (by omega) x _ _ _ _ _ _ _ _ _ _ _ _ _ _ _ _ _ _ _ _ _ _ _ _ _ _ _ _ _ _ _ _ _ _ _ _ _ _ _ _ _ _ _ _ _ _ _ _ _ _ _ _ _ _ _ _ _ _ _ _ _ _ _ _ _ _ _ _ _ _ _ _ _ _ _ _ _ _ _ _ _ _ _ _ _ hT.out hA.out (by rw [hlf.out];exact HL.out) hM hTM hrm h.out
  | false =>
   rw [he] at h13 hlf;rw [if_neg (by simp)] at hlf;replace hlf:=HD hlf;obtain ⟨hvv,hbM,hbv,hlk⟩:=hts he;rw [hvv,he] at hto;generalize hae:t.at'=a at hto;have hleft:Hid (t.left = { a with cell:=if t.ok then t.n else a.cell,was:=t.v,now:=t.v }):=HD (by unfold Lo.left;rw [hae]);have k5:x.cell? (th t.tb 5)=some (.int .i64 a.thread):=Xa hto 5;have k6:x.cell? (th t.tb 6)=some (.int .i8 a.op):=Xa hto 6;have k7:x.cell? (th t.tb 7)=some (.int .i64 a.cell):=Xa hto 7;have k8:x.cell? (th t.tb 8)=some (.int .i64 a.arg):=Xa hto 8;have k9:x.cell? (th t.tb 9)=some (.int .i64 a.new):=Xa hto 9;have k10:x.cell? (th t.tb 10)=some (.int .i64 a.was):=Xa hto 10;have k11:x.cell? (th t.tb 11)=some (.int .i64 a.now):=Xa hto 11;have k12:x.cell? (th t.tb 12)=some (.bool a.ok):=Xa hto 12;have htb:t.tb < x.heap.size:=Xt k5
   repeat first|refine kc ?_|(first|refine ku ?_|(refine kv fun Ω τ d=>?_;have f0:=uc τ d hgi;have f1:=uc τ d h13;go_simp;refine Ω.f ?_;clear f0 f1 Ω τ d);try walk_nrm)
   refine ko fun K E hK hE τ d=>?_;have k5':=(Xk x τ d _).trans k5;have k6':=(Xk x τ d _).trans k6;have k7':=(Xk x τ d _).trans k7;have k8':=(Xk x τ d _).trans k8;have k9':=(Xk x τ d _).trans k9;have k10':=(Xk x τ d _).trans k10;have k11':=(Xk x τ d _).trans k11;have k12':=(Xk x τ d _).trans k12;go_simp;refine hK _ _ (jt ?_);clear hK hE K E τ d k5' k6' k7' k8' k9' k10' k11' k12'
   try walk_nrm
   refine ko fun K E hK hE τ d=>?_;go_simp;refine hK _ _ (jt (x:=x.alloc (.cells #[.int .i64 0,.int .i8 0,.int .i64 0,.int .i64 0,.int .i64 0,.int .i64 0,.int .i64 0,.bool false] 89)) ?_);simp only [Xs];clear hK hE K E τ d;have g0:(x.alloc (.cells #[.int .i64 0,.int .i8 0,.int .i64 0,.int .i64 0,.int .i64 0,.int .i64 0,.int .i64 0,.bool false] 89)).heap[x.heap.size]? = some (.cells #[.int .i64 0,.int .i8 0,.int .i64 0,.int .i64 0,.int .i64 0,.int .i64 0,.int .i64 0,.bool false] 89 (0,0)):=heap_alloc_new x _;have go':∀ q,q < x.heap.size→(x.alloc (.cells #[.int .i64 0,.int .i8 0,.int .i64 0,.int .i64 0,.int .i64 0,.int .i64 0,.int .i64 0,.bool false] 89)).heap[q]? = x.heap[q]?:=fun q h=>by rw [Xl,Array.getElem?_push,if_neg (by omega)]
   have gs:(x.alloc (.cells #[.int .i64 0,.int .i8 0,.int .i64 0,.int .i64 0,.int .i64 0,.int .i64 0,.int .i64 0,.bool false] 89)).heap.size=x.heap.size + 1:=by simp
   generalize x.alloc (.cells #[.int .i64 0,.int .i8 0,.int .i64 0,.int .i64 0,.int .i64 0,.int .i64 0,.int .i64 0,.bool false] 89)=z at g0 go' gs ⊢;generalize hab:x.heap.size=ab at g0 go' gs hM htb ⊢;have m0:z.cell? (th ab 0)=some (.int .i64 0):=Xa g0 0;have n0:z.frozen? (th ab 0)=false:=Xe g0 0;have m1:z.cell? (th ab 1)=some (.int .i8 0):=Xa g0 1;have n1:z.frozen? (th ab 1)=false:=Xe g0 1;have m2:z.cell? (th ab 2)=some (.int .i64 0):=Xa g0 2;have n2:z.frozen? (th ab 2)=false:=Xe g0 2;have m3:z.cell? (th ab 3)=some (.int .i64 0):=Xa g0 3;have n3:z.frozen? (th ab 3)=false:=Xe g0 3;have m4:z.cell? (th ab 4)=some (.int .i64 0):=Xa g0 4;have n4:z.frozen? (th ab 4)=false:=Xe g0 4;have m5:z.cell? (th ab 5)=some (.int .i64 0):=Xa g0 5;have n5:z.frozen? (th ab 5)=false:=Xe g0 5;have m6:z.cell? (th ab 6)=some (.int .i64 0):=Xa g0 6;have n6:z.frozen? (th ab 6)=false:=Xe g0 6;have m7:z.cell? (th ab 7)=some (.bool false):=Xa g0 7;have n7:z.frozen? (th ab 7)=false:=Xe g0 7;clear k5 k6 k7 k8 k9 k10 k11 k12;refine ko fun K E hK hE τ d=>?_;have m0':=(Xk z τ d _).trans m0;have n0':=(Xf z τ d _).trans n0;have m1':=(Xk z τ d _).trans m1;have n1':=(Xf z τ d _).trans n1;have m2':=(Xk z τ d _).trans m2;have n2':=(Xf z τ d _).trans n2;have m3':=(Xk z τ d _).trans m3;have n3':=(Xf z τ d _).trans n3;have m4':=(Xk z τ d _).trans m4;have n4':=(Xf z τ d _).trans n4;have m5':=(Xk z τ d _).trans m5;have n5':=(Xf z τ d _).trans n5;have m6':=(Xk z τ d _).trans m6;have n6':=(Xf z τ d _).trans n6;have m7':=(Xk z τ d _).trans m7;have n7':=(Xf z τ d _).trans n7;go_simp;refine hK _ _ ?_;rw [Xc,Xc,Xc,Xc,Xc,Xc,Xc,Xc];refine jt ?_;clear hK hE K E τ d m0 n0 m0' n0' m1 n1 m1' n1' m2 n2 m2' n2' m3 n3 m3' n3' m4 n4 m4' n4' m5 n5 m5' n5' m6 n6 m6' n6' m7 n7 m7' n7';obtain ⟨w,hw⟩:∃ w,w=((((((((z.setCell (th ab 0) (.int .i64 a.thread)).setCell (th ab 1) (.int .i8 a.op)).setCell (th ab 2) (.int .i64 a.cell)).setCell (th ab 3) (.int .i64 a.arg)).setCell (th ab 4) (.int .i64 a.new)).setCell (th ab 5) (.int .i64 a.was)).setCell (th ab 6) (.int .i64 a.now)).setCell (th ab 7) (.bool a.ok)):=⟨_,rfl⟩
   rw [← hw];have wn:w.heap[ab]? = some (.cells #[.int .i64 a.thread,.int .i8 a.op,.int .i64 a.cell,.int .i64 a.arg,.int .i64 a.new,.int .i64 a.was,.int .i64 a.now,.bool a.ok] 89 (0,0)):=by
    rw [hw,Xd (Xd (Xd (Xd (Xd (Xd (Xd (Xd g0)))))))];simp only [ZJ]
   have wo:∀ q,q < ab→w.heap[q]? = x.heap[q]?:=fun q h=>by
    have hq:q≠ab:=by omega
    rw [hw,Xb hq,Xb hq,Xb hq,Xb hq,Xb hq,Xb hq,Xb hq,Xb hq,go' q h]
   have ws:w.heap.size=ab + 1:=by rw [hw,Xh,Xh,Xh,Xh,Xh,Xh,Xh,Xh,gs]
   clear hw g0 go' gs
   try walk_nrm
   have wto:=(wo t.tb htb).trans hto;have w4:w.cell? (th t.tb 4)=some (P0 t.b):=Xa wto 4;have w1:w.cell? (th rb 1)=some (.map (some mb)):=by
    have h1:rb < ab:=by omega
    simp only [World.cell?] at hrm ⊢;rw [wo rb h1];exact hrm
   have wbv:w.cell? (th t.b 0)=some (.int .i64 t.v):=by
    have h1:t.b < ab:=by omega
    simp only [World.cell?] at hbv ⊢;rw [wo t.b h1];exact hbv
   replace wo:=HD wo
   repeat refine kx ?_
   refine JG.code (XO _) (by kernel_rfl) rfl (.inr (by kernel_rfl)) rfl (fun K R hK hR τ=>?_);replace hK:=HD hK;clear hR;have hlk1:=hlk (under w τ 0) (fun r hr=>wo.out r (by omega));have hlk2:=hlk (under w τ 0).drew (fun r hr=>wo.out r (by omega));have z1:(under w τ 0).cell? (th rb 1)=some (.map (some mb)):=w1;have z4:(under w τ 0).cell? (th t.tb 4)=some (P0 t.b):=w4;have z5:rb < (under w τ 0).heap.size:=Xt z1;have z6:t.tb < (under w τ 0).heap.size:=Xt z4;clear hlk;obtain ⟨cv,hcv⟩:∃ cv,cv=if t.ok then t.n else a.cell:=⟨_,rfl⟩
   generalize hok:t.ok=ok at hlk1 hlk2 hcv;cases ok
   all_goals (
    go_region
    refine hK.out _ _ (jt (x:=w) (τ:=τ) (d:=1) ?_);clear hK hlk1 hlk2 z1 z4 z5 z6 K τ
    try walk_nrm
    repeat first|refine kc ?_|(first|refine ku ?_|(refine kv fun Ω τ d=>?_;have f0:=uc τ d w4);go_simp;refine Ω.f ?_;clear f0 Ω τ d);try walk_nrm)
   ·replace hcv:cv=a.cell:=by rw [hcv];simp
    obtain ⟨w2,hw2⟩:∃ w2,w2=w:=⟨_,rfl⟩
    rw [← hw2];have wn2:w2.heap[ab]? = some (.cells #[.int .i64 a.thread,.int .i8 a.op,.int .i64 cv,.int .i64 a.arg,.int .i64 a.new,.int .i64 a.was,.int .i64 a.now,.bool a.ok] 89 (0,0)):=by rw [hw2,hcv];exact wn
    have wo2:∀ q,q≠ab→w2.heap[q]? = w.heap[q]?:=fun q _=>by rw [hw2]
    have ws2:w2.heap.size=ab + 1:=by rw [hw2];exact ws
    clear hw2;have hbab:t.b < ab:=by omega
    have k4:w2.cell? (th t.tb 4)=some (P0 t.b):=by
     simp only [World.cell?] at w4 ⊢;rw [wo2 _ (by omega)];exact w4
    have kb:w2.cell? (th t.b 0)=some (.int .i64 t.v):=by
     simp only [World.cell?] at wbv ⊢;rw [wo2 _ (by omega)];exact wbv
    clear wn ws w4 w1 wbv wto;replace wo2:=HD wo2
    repeat refine kx ?_
    refine JG.call (f:=34) (args:=#[P0 t.b]) rfl (by rfl) (by decide) (fun w=>?_) (fun w=>?_) ?_
    iterate 2 (focus obtain ⟨fn, h1, h2, h3⟩ : Yb 34 := ⟨_, Try.func34, by kernel_rfl, by kernel_rfl⟩; have h4 : ¬ fn.name = "runtime.NumGoroutine" := (by simpa using h2); have h5 : ¬ fn.body = none := (by intro e; rw [e] at h3; cases h3); simp [go_sem, execOp, Act.eval, resolve, Deferred.ofValue, invoke, callFunc, h1, h4, h5] <;> decide +kernel)
    refine Y1 kb ?_;rw [Frame.finish_at];walk_nrm
    repeat refine kx ?_
    have x5:w2.cell? (th ab 5)=some (.int .i64 a.was):=Xa wn2 5;have y5:w2.frozen? (th ab 5)=false:=Xe wn2 5;refine kst (And.intro x5 y5) ?_;clear x5 y5;have wn3:(w2.setCell (th ab 5) (.int .i64 t.v)).heap[ab]? = some (.cells #[.int .i64 a.thread,.int .i8 a.op,.int .i64 cv,.int .i64 a.arg,.int .i64 a.new,.int .i64 t.v,.int .i64 a.now,.bool a.ok] 89 (0,0)):=by rw [Xd wn2];rfl
    have ws3:(w2.setCell (th ab 5) (.int .i64 t.v)).heap.size=ab + 1:=by rw [Xh];exact ws2
    have wo3:∀ q,q≠ab→(w2.setCell (th ab 5) (.int .i64 t.v)).heap[q]? = w.heap[q]?:=fun q hq=>by rw [Xb hq];exact wo2.out q hq
    generalize w2.setCell (th ab 5) (.int .i64 t.v)=w3 at wn3 ws3 wo3 ⊢;clear wn2 ws2 wo2 k4 kb;replace wo3:=HD wo3;have v5:w3.cell? (th ab 5)=some (.int .i64 t.v):=Xa wn3 5
    repeat refine kx ?_
    have x6:w3.cell? (th ab 6)=some (.int .i64 a.now):=Xa wn3 6;have y6:w3.frozen? (th ab 6)=false:=Xe wn3 6;refine kst (And.intro x6 y6) ?_;clear x6 y6 v5;have wn4:(w3.setCell (th ab 6) (.int .i64 t.v)).heap[ab]? = some (.cells #[.int .i64 a.thread,.int .i8 a.op,.int .i64 cv,.int .i64 a.arg,.int .i64 a.new,.int .i64 t.v,.int .i64 t.v,.bool a.ok] 89 (0,0)):=by rw [Xd wn3];rfl
    have ws4:(w3.setCell (th ab 6) (.int .i64 t.v)).heap.size=ab + 1:=by rw [Xh];exact ws3
    have wo4:∀ q,q < ab→(w3.setCell (th ab 6) (.int .i64 t.v)).heap[q]? = x.heap[q]?:=fun q hq=>by rw [Xb (by omega),wo3.out q (by omega)];exact wo.out q hq
    generalize w3.setCell (th ab 6) (.int .i64 t.v)=w4 at wn4 ws4 wo4 ⊢;clear wn3 ws3 wo3;replace wo4:=HD wo4
    repeat first|refine JG.done ?_|refine JG.seq ?_
    have hacc:Yj t.left = [.int .i64 a.thread,.int .i8 a.op,.int .i64 cv,.int .i64 a.arg,.int .i64 a.new,.int .i64 t.v,.int .i64 t.v,.bool a.ok]:=by rw [hleft.out];simp [Yj,hok,hcv]
    refine JG.code (XO _) (by kernel_rfl) rfl (.inr (by kernel_rfl)) rfl (fun K R hK hR τ=>?_);replace hK:=HD hK;clear hR;obtain ⟨y,hy⟩:∃ y,y=under w4 τ 0:=⟨_,rfl⟩
    have hyh:y.heap=w4.heap:=by rw [hy];rfl
    rw [← hy];rw [← hyh] at wn4 ws4;have c0:y.cell? (th ab 0)=some (.int .i64 a.thread):=Xa wn4 0;have c1:y.cell? (th ab 1)=some (.int .i8 a.op):=Xa wn4 1;have c2:y.cell? (th ab 2)=some (.int .i64 cv):=Xa wn4 2;have c3:y.cell? (th ab 3)=some (.int .i64 a.arg):=Xa wn4 3;have c4:y.cell? (th ab 4)=some (.int .i64 a.new):=Xa wn4 4;have c5:y.cell? (th ab 5)=some (.int .i64 t.v):=Xa wn4 5;have c6:y.cell? (th ab 6)=some (.int .i64 t.v):=Xa wn4 6;have c7:y.cell? (th ab 7)=some (.bool a.ok):=Xa wn4 7;have HO:=HD ((Xj (w':=y) HL.out fun g' e=>by rw [hyh];exact wo4.out g' (by have:=own_lt HL.out e;omega)).alloc (.cells #[.int .i64 a.thread,.int .i8 a.op,.int .i64 cv,.int .i64 a.arg,.int .i64 a.new,.int .i64 t.v,.int .i64 t.v,.bool a.ok] 89));have N2:Hid ((XT (all.take i)).length + 1≤maxLen):=HD (by unfold maxLen;omega);have N3:Hid (((XT (all.take i)).length + 1) * 64≤140737488355328):=HD (by omega);have N4:Hid (M≤(y.alloc (.cells #[.int .i64 a.thread,.int .i8 a.op,.int .i64 cv,.int .i64 a.arg,.int .i64 a.new,.int .i64 t.v,.int .i64 t.v,.bool a.ok] 89)).heap.size):=HD (by simp;omega);have hwab:ab < y.heap.size:=by omega
    have wo5:∀ q,q < ab→y.heap[q]? = x.heap[q]?:=fun q hq=>by rw [hyh];exact wo4.out q hq
    replace wo5:=HD wo5;clear hy hyh wo4;replace wn4:=HD wn4;replace ws4:=HD ws4;replace hacc:=HD hacc;replace hcv:=HD hcv;replace hok:=HD hok
    go_wp2_with (first|(at_builtin;refine wpList_append_lies _ rfl _ _ 41 rfl M 89 i0 _ 8 64 Try.underlying41 hi0 hz0 hz1 hz2 rfl (by decide) _ (XT (all.take i)).length ((XT (all.take i)).flatMap Yj) rfl HO.out ⟨y.heap.size,0,none⟩ 1 1 [.int .i64 a.thread,.int .i8 a.op,.int .i64 cv,.int .i64 a.arg,.int .i64 a.new,.int .i64 t.v,.int .i64 t.v,.bool a.ok] rfl rfl (World.news_of_block (cs:=#[.int .i64 a.thread,.int .i8 a.op,.int .i64 cv,.int .i64 a.arg,.int .i64 a.new,.int .i64 t.v,.int .i64 t.v,.bool a.ok]) (t:=89) (fr:=(0,0)) (heap_alloc_new y _)) (by simp [Value.oneCell']) (by omega) N2.out N3.out N4.out _ rfl ?_;intro gg cap2 w5 hown hgrow hat hlt3;have HOWN:=HD hown;have HGROW:=HD hgrow;have HAT:=HD hat;clear hown hgrow hat hlt3))
    refine hK.out _ _ ?_;have hold:∀ r,r < M→w5.heap[r]? = x.heap[r]?:=fun r hr=>by
     have h1:some r≠(Value.slice al (XT (all.take i)).length ac).ownBlock:=fun e=>by have:=XE HL.out e.symm;omega
     rw [HGROW.out.block r (by simp;have:=ws4.out;omega) h1,Xl,Array.getElem?_push,if_neg (by have:=ws4.out;omega)];exact wo5.out r (by omega)
    have hsz:ab≤w5.heap.size:=by have:=HGROW.out.size;simp at this;have:=ws4.out;omega
    replace hold:=HD hold;replace hsz:=HD hsz;clear hK K R
    try walk_nrm
    repeat refine kx ?_
    refine JG.inLoop ?_;refine ih.out (i + 1) (by omega) w5 (.slice (some ⟨gg,0,none⟩) ((XT (all.take i)).length + 1) cap2) _ _ _ _ _ _ _ _ _ _ _ _ _ _ _ _ _ _ _ _ _ _ _ _ _ _ _ _ _ _ _ _ _ _ _ _ _ _ _ _ _ _ _ _ _ _ _ _ _ _ _ _ _ _ _ _ _ _ _ _ _ _ _ _ _ _ _ _ _ _ _ _ _ _ _ _ _ _ _ _ _ _ _ _ (Xj hT.out fun g' e=>hold.out g' (hTM g' e)) (fun j u hu=>(hA.out j u hu).old hold.out) ?_ (by have:=hsz.out;omega) hTM ?_ (fun z vl' w1 w2 w4 w5 w6 w7 w8 w9 w10 w11 w12 w13 w14 w15 w16 w17 w18 w19 w20 w21 w22 w23 w24 w25 w26 w27 w28 w29 w30 w31 w32 w33 w34 w35 w36 w37 w38 w39 w40 w41 w42 w43 w44 w45 w46 w47 w48 w49 w50 w51 w52 w53 w54 w55 w56 w57 w58 w59 w60 w61 w62 w63 w64 w65 w66 w67 w68 w69 w70 w71 w72 w73 w74 w75 w76 w77 w78 w79 w80 w81 w82 w83 w84 w85 w86 w87 w88 q1 q2 q3=>h.out z vl' w1 w2 w4 w5 w6 w7 w8 w9 w10 w11 w12 w13 w14 w15 w16 w17 w18 w19 w20 w21 w22 w23 w24 w25 w26 w27 w28 w29 w30 w31 w32 w33 w34 w35 w36 w37 w38 w39 w40 w41 w42 w43 w44 w45 w46 w47 w48 w49 w50 w51 w52 w53 w54 w55 w56 w57 w58 w59 w60 w61 w62 w63 w64 w65 w66 w67 w68 w69 w70 w71 w72 w73 w74 w75 w76 w77 w78 w79 w80 w81 w82 w83 w84 w85 w86 w87 w88 q1 (by have:=hsz.out;omega) fun r hr=>(q3 r hr).trans (hold.out r hr))
    ·rw [hlf.out,List.length_append,List.flatMap_append]
     have hfm : [t.left].flatMap Yj = [.int .i64 a.thread,.int .i8 a.op,.int .i64 cv,.int .i64 a.arg,.int .i64 a.new,.int .i64 t.v,.int .i64 t.v,.bool a.ok]:=by simp [hacc.out]
     rw [hfm];exact HOWN.out
    ·simp only [World.cell?] at hrm ⊢
     rw [hold.out rb hrM];exact hrm
   ·replace hcv:cv=t.n:=by rw [hcv];simp
    have w2:w.cell? (th ab 2)=some (.int .i64 a.cell):=Xa wn 2;have f2:w.frozen? (th ab 2)=false:=Xe wn 2;refine kst (And.intro w2 f2) ?_;clear w2 f2;obtain ⟨w2,hw2⟩:∃ w2,w2=w.setCell (th ab 2) (.int .i64 t.n):=⟨_,rfl⟩
    rw [← hw2];have wn2:w2.heap[ab]? = some (.cells #[.int .i64 a.thread,.int .i8 a.op,.int .i64 cv,.int .i64 a.arg,.int .i64 a.new,.int .i64 a.was,.int .i64 a.now,.bool a.ok] 89 (0,0)):=by rw [hw2,Xd wn,hcv];rfl
    have wo2:∀ q,q≠ab→w2.heap[q]? = w.heap[q]?:=fun q hq=>by rw [hw2];exact Xb hq
    have ws2:w2.heap.size=ab + 1:=by rw [hw2,Xh];exact ws
    clear hw2
    repeat refine kx ?_
    have hbab:t.b < ab:=by omega
    have k4:w2.cell? (th t.tb 4)=some (P0 t.b):=by
     simp only [World.cell?] at w4 ⊢;rw [wo2 _ (by omega)];exact w4
    have kb:w2.cell? (th t.b 0)=some (.int .i64 t.v):=by
     simp only [World.cell?] at wbv ⊢;rw [wo2 _ (by omega)];exact wbv
    clear wn ws w4 w1 wbv wto;replace wo2:=HD wo2
    repeat refine kx ?_
    refine JG.call (f:=34) (args:=#[P0 t.b]) rfl (by rfl) (by decide) (fun w=>?_) (fun w=>?_) ?_
    iterate 2 (focus obtain ⟨fn, h1, h2, h3⟩ : Yb 34 := ⟨_, Try.func34, by kernel_rfl, by kernel_rfl⟩; have h4 : ¬ fn.name = "runtime.NumGoroutine" := (by simpa using h2); have h5 : ¬ fn.body = none := (by intro e; rw [e] at h3; cases h3); simp [go_sem, execOp, Act.eval, resolve, Deferred.ofValue, invoke, callFunc, h1, h4, h5] <;> decide +kernel)
    refine Y1 kb ?_;rw [Frame.finish_at];walk_nrm
    repeat refine kx ?_
    have x5:w2.cell? (th ab 5)=some (.int .i64 a.was):=Xa wn2 5;have y5:w2.frozen? (th ab 5)=false:=Xe wn2 5;refine kst (And.intro x5 y5) ?_;clear x5 y5;have wn3:(w2.setCell (th ab 5) (.int .i64 t.v)).heap[ab]? = some (.cells #[.int .i64 a.thread,.int .i8 a.op,.int .i64 cv,.int .i64 a.arg,.int .i64 a.new,.int .i64 t.v,.int .i64 a.now,.bool a.ok] 89 (0,0)):=by rw [Xd wn2];rfl
    have ws3:(w2.setCell (th ab 5) (.int .i64 t.v)).heap.size=ab + 1:=by rw [Xh];exact ws2
    have wo3:∀ q,q≠ab→(w2.setCell (th ab 5) (.int .i64 t.v)).heap[q]? = w.heap[q]?:=fun q hq=>by rw [Xb hq];exact wo2.out q hq
    generalize w2.setCell (th ab 5) (.int .i64 t.v)=w3 at wn3 ws3 wo3 ⊢;clear wn2 ws2 wo2 k4 kb;replace wo3:=HD wo3;have v5:w3.cell? (th ab 5)=some (.int .i64 t.v):=Xa wn3 5
    repeat refine kx ?_
    have x6:w3.cell? (th ab 6)=some (.int .i64 a.now):=Xa wn3 6;have y6:w3.frozen? (th ab 6)=false:=Xe wn3 6;refine kst (And.intro x6 y6) ?_;clear x6 y6 v5;have wn4:(w3.setCell (th ab 6) (.int .i64 t.v)).heap[ab]? = some (.cells #[.int .i64 a.thread,.int .i8 a.op,.int .i64 cv,.int .i64 a.arg,.int .i64 a.new,.int .i64 t.v,.int .i64 t.v,.bool a.ok] 89 (0,0)):=by rw [Xd wn3];rfl
    have ws4:(w3.setCell (th ab 6) (.int .i64 t.v)).heap.size=ab + 1:=by rw [Xh];exact ws3
    have wo4:∀ q,q < ab→(w3.setCell (th ab 6) (.int .i64 t.v)).heap[q]? = x.heap[q]?:=fun q hq=>by rw [Xb (by omega),wo3.out q (by omega)];exact wo.out q hq
    generalize w3.setCell (th ab 6) (.int .i64 t.v)=w4 at wn4 ws4 wo4 ⊢;clear wn3 ws3 wo3;replace wo4:=HD wo4
    repeat first|refine JG.done ?_|refine JG.seq ?_
    have hacc:Yj t.left = [.int .i64 a.thread,.int .i8 a.op,.int .i64 cv,.int .i64 a.arg,.int .i64 a.new,.int .i64 t.v,.int .i64 t.v,.bool a.ok]:=by rw [hleft.out];simp [Yj,hok,hcv]
    refine JG.code (XO _) (by kernel_rfl) rfl (.inr (by kernel_rfl)) rfl (fun K R hK hR τ=>?_);replace hK:=HD hK;clear hR;obtain ⟨y,hy⟩:∃ y,y=under w4 τ 0:=⟨_,rfl⟩
    have hyh:y.heap=w4.heap:=by rw [hy];rfl
    rw [← hy];rw [← hyh] at wn4 ws4;have c0:y.cell? (th ab 0)=some (.int .i64 a.thread):=Xa wn4 0;have c1:y.cell? (th ab 1)=some (.int .i8 a.op):=Xa wn4 1;have c2:y.cell? (th ab 2)=some (.int .i64 cv):=Xa wn4 2;have c3:y.cell? (th ab 3)=some (.int .i64 a.arg):=Xa wn4 3;have c4:y.cell? (th ab 4)=some (.int .i64 a.new):=Xa wn4 4;have c5:y.cell? (th ab 5)=some (.int .i64 t.v):=Xa wn4 5;have c6:y.cell? (th ab 6)=some (.int .i64 t.v):=Xa wn4 6;have c7:y.cell? (th ab 7)=some (.bool a.ok):=Xa wn4 7;have HO:=HD ((Xj (w':=y) HL.out fun g' e=>by rw [hyh];exact wo4.out g' (by have:=own_lt HL.out e;omega)).alloc (.cells #[.int .i64 a.thread,.int .i8 a.op,.int .i64 cv,.int .i64 a.arg,.int .i64 a.new,.int .i64 t.v,.int .i64 t.v,.bool a.ok] 89));have N2:Hid ((XT (all.take i)).length + 1≤maxLen):=HD (by unfold maxLen;omega);have N3:Hid (((XT (all.take i)).length + 1) * 64≤140737488355328):=HD (by omega);have N4:Hid (M≤(y.alloc (.cells #[.int .i64 a.thread,.int .i8 a.op,.int .i64 cv,.int .i64 a.arg,.int .i64 a.new,.int .i64 t.v,.int .i64 t.v,.bool a.ok] 89)).heap.size):=HD (by simp;omega);have hwab:ab < y.heap.size:=by omega
    have wo5:∀ q,q < ab→y.heap[q]? = x.heap[q]?:=fun q hq=>by rw [hyh];exact wo4.out q hq
    replace wo5:=HD wo5;clear hy hyh wo4;replace wn4:=HD wn4;replace ws4:=HD ws4;replace hacc:=HD hacc;replace hcv:=HD hcv;replace hok:=HD hok
    go_wp2_with (first|(at_builtin;refine wpList_append_lies _ rfl _ _ 41 rfl M 89 i0 _ 8 64 Try.underlying41 hi0 hz0 hz1 hz2 rfl (by decide) _ (XT (all.take i)).length ((XT (all.take i)).flatMap Yj) rfl HO.out ⟨y.heap.size,0,none⟩ 1 1 [.int .i64 a.thread,.int .i8 a.op,.int .i64 cv,.int .i64 a.arg,.int .i64 a.new,.int .i64 t.v,.int .i64 t.v,.bool a.ok] rfl rfl (World.news_of_block (cs:=#[.int .i64 a.thread,.int .i8 a.op,.int .i64 cv,.int .i64 a.arg,.int .i64 a.new,.int .i64 t.v,.int .i64 t.v,.bool a.ok]) (t:=89) (fr:=(0,0)) (heap_alloc_new y _)) (by simp [Value.oneCell']) (by omega) N2.out N3.out N4.out _ rfl ?_;intro gg cap2 w5 hown hgrow hat hlt3;have HOWN:=HD hown;have HGROW:=HD hgrow;have HAT:=HD hat;clear hown hgrow hat hlt3))
    refine hK.out _ _ ?_;have hold:∀ r,r < M→w5.heap[r]? = x.heap[r]?:=fun r hr=>by
     have h1:some r≠(Value.slice al (XT (all.take i)).length ac).ownBlock:=fun e=>by have:=XE HL.out e.symm;omega
     rw [HGROW.out.block r (by simp;have:=ws4.out;omega) h1,Xl,Array.getElem?_push,if_neg (by have:=ws4.out;omega)];exact wo5.out r (by omega)
    have hsz:ab≤w5.heap.size:=by have:=HGROW.out.size;simp at this;have:=ws4.out;omega
    replace hold:=HD hold;replace hsz:=HD hsz;clear hK K R
    try walk_nrm
    repeat refine kx ?_
    refine JG.inLoop ?_;refine ih.out (i + 1) (by omega) w5 (.slice (some ⟨gg,0,none⟩) ((XT (all.take i)).length + 1) cap2) _ _ _ _ _ _ _ _ _ _ _ _ _ _ _ _ _ _ _ _ _ _ _ _ _ _ _ _ _ _ _ _ _ _ _ _ _ _ _ _ _ _ _ _ _ _ _ _ _ _ _ _ _ _ _ _ _ _ _ _ _ _ _ _ _ _ _ _ _ _ _ _ _ _ _ _ _ _ _ _ _ _ _ _ (Xj hT.out fun g' e=>hold.out g' (hTM g' e)) (fun j u hu=>(hA.out j u hu).old hold.out) ?_ (by have:=hsz.out;omega) hTM ?_ (fun z vl' w1 w2 w4 w5 w6 w7 w8 w9 w10 w11 w12 w13 w14 w15 w16 w17 w18 w19 w20 w21 w22 w23 w24 w25 w26 w27 w28 w29 w30 w31 w32 w33 w34 w35 w36 w37 w38 w39 w40 w41 w42 w43 w44 w45 w46 w47 w48 w49 w50 w51 w52 w53 w54 w55 w56 w57 w58 w59 w60 w61 w62 w63 w64 w65 w66 w67 w68 w69 w70 w71 w72 w73 w74 w75 w76 w77 w78 w79 w80 w81 w82 w83 w84 w85 w86 w87 w88 q1 q2 q3=>h.out z vl' w1 w2 w4 w5 w6 w7 w8 w9 w10 w11 w12 w13 w14 w15 w16 w17 w18 w19 w20 w21 w22 w23 w24 w25 w26 w27 w28 w29 w30 w31 w32 w33 w34 w35 w36 w37 w38 w39 w40 w41 w42 w43 w44 w45 w46 w47 w48 w49 w50 w51 w52 w53 w54 w55 w56 w57 w58 w59 w60 w61 w62 w63 w64 w65 w66 w67 w68 w69 w70 w71 w72 w73 w74 w75 w76 w77 w78 w79 w80 w81 w82 w83 w84 w85 w86 w87 w88 q1 (by have:=hsz.out;omega) fun r hr=>(q3 r hr).trans (hold.out r hr))
    ·rw [hlf.out,List.length_append,List.flatMap_append]
     have hfm : [t.left].flatMap Yj = [.int .i64 a.thread,.int .i8 a.op,.int .i64 cv,.int .i64 a.arg,.int .i64 a.new,.int .i64 t.v,.int .i64 t.v,.bool a.ok]:=by simp [hacc.out]
     rw [hfm];exact HOWN.out
    ·simp only [World.cell?] at hrm ⊢
     rw [hold.out rb hrM];exact hrm
