/- The threads that are left are stopped; gate's ends, whole. -/
import Derived.Test.YtdgfekplfipekaaVRnY
set_option linter.all false
set_option maxRecDepth 100000
set_option maxHeartbeats 16000000
namespace Go.Proofs.Ytdgfekplfipekaa
open Go.Conc Go.RowKit
open Go.ConcN (upd upd_same upd_ne)
section
variable {Sh:Type}
structure Qc (Post:Value→World→Prop) (S:Zv Sh) (F:Fix) (g:Gs) (P:Xp Sh) (C:Ctx) (x:World):Prop where
 gate:Xy g P none true x
 apart:g.Apart
 rb:g.rb=F.rb
 mb:g.mb=F.mb
 N:g.N=F.N
 kept:∀ r,F.kept r→g.kept r
 x0:∀ r,F.kept r→g.x0.heap[r]? = F.x0.heap[r]?
 addr:g.A=S.A
 d:C.d=0
 n:C.n=F.n0 + P.n
 main:F.hm < F.n0
 lo:C.lo=F.lo
 low:F.lo≤F.N
 io:C.io=F.io
 holds:C.h=F.hm
 live:∀ j,j < P.n→(∃ r k,P.progs j=.acc r k)∨(∃ v,P.progs j=.ret v)
 chairs:WN Post S F g P 0 none C.Ch
variable {Post:Value→World→Prop} {S:Zv Sh} {F:Fix} {g:Gs} {P:Xp Sh} {C:Ctx} {x:World} {c:Frame} {cs:List Frame}
theorem Xy.stopped {h:Option Nat} (H:Xy g P h false x) (hap:g.Apart):Xy g P h true (x.setCell (th g.rb 6) (.bool true)):=by
 have keep:∀ (b:Nat) (o:Obj),x.heap[b]? = some o→(∀ cur,o≠.cells cur 85 (0,0))→(x.setCell (th g.rb 6) (.bool true)).heap[b]? = some o:=fun b o hb hn=>by
  rw [Xb (Yf hb H.obj (hn _))];exact hb
 have hown:∀ {e:TypeId} {size:Nat} {v:Value} {n:Nat} {xs:List Value},x.ownsRow g.N e size v n xs→e≠85→(x.setCell (th g.rb 6) (.bool true)).ownsRow g.N e size v n xs:=fun hv e1=>Xj hv fun b hb=>by
  obtain ⟨cur,hc⟩:=X9 hv hb;rw [keep b _ hc (fun c e=>by injection e with _ e;exact e1 e),hc]
 refine ⟨?_,hown H.ths (by decide),hown H.fls (by decide),hown H.lg (by decide),hown H.wn (by decide),hown H.rd (by decide),?_,H.num,fun j u hu=>?_,fun b hb=>?_,by rw [Xh];exact H.low,fun u hu=>by rw [Xh];exact H.abl u hu⟩
 ·rw [Xd H.obj];rfl
 ·obtain ⟨es,cl,hmb,hx⟩:=H.map
  exact ⟨es,cl,keep _ _ hmb (by simp),hx⟩
 ·obtain ⟨h1,h2,⟨k3,h3⟩,⟨k4,h4⟩,⟨vv,a,h5,h6⟩,h7⟩:=H.thr j u hu
  exact ⟨keep _ _ h1 (by simp),keep _ _ h2 (by simp),⟨k3,keep _ _ h3 (by simp)⟩,⟨k4,keep _ _ h4 (by simp)⟩,⟨vv,a,keep _ _ h5 (by simp),h6⟩,fun e r k e2=>keep _ _ (h7 e r k e2) (by simp)⟩
 ·obtain ⟨b1,b2⟩:=H.kept b hb
  obtain ⟨k1,_⟩:=hap.kept b hb;exact ⟨by rw [Xh];exact b1,by rw [Xb k1];exact b2⟩
theorem Stood.stopped (H:Stood Post S F g P 0 none C x):Qc Post S F g P C (x.setCell (th F.rb 6) (.bool true)):=by
 have:=H.gate.stopped H.apart
 rw [H.rb] at this;exact ⟨this,H.apart,H.rb,H.mb,H.N,H.kept,H.x0,H.addr,H.d,H.n,H.main,H.lo,H.low,H.io,H.holds,fun j hj=>H.live j hj (by simp),H.chairs⟩
theorem Qc.frame {y:World} (H:Qc Post S F g P C x) (hy:∀ r,g.col r→y.heap[r]? = x.heap[r]?) (hs:x.heap.size≤y.heap.size):Qc Post S F g P C y :=
 ⟨H.gate.frame hy hs,H.apart,H.rb,H.mb,H.N,H.kept,H.x0,H.addr,H.d,H.n,H.main,H.lo,H.low,H.io,H.holds,H.live,H.chairs⟩
theorem XfO {i:Nat} {t:Th} {r:Ask} {k:Told→Xx Sh Unit} (H:Qc Post S F g P C x) (hi:g.thr[i]? = some t) (hp:P.progs i=.acc r k)
 (hnext:∀ (C':Ctx) (z:World),Qc Post S F g { P with progs:=upd P.progs i (.ret ()) } C' z→x.heap.size≤z.heap.size→(∀ q,q < x.heap.size→¬ g.col q→z.heap[q]? = x.heap[q]?)→JG Try.prog Post C' (G (c.finish (.tuple #[])) cs) z) :
 JG Try.prog Post C (G (Frame.enter Try.prog 51 #[P0 t.tb] .normal) (c::cs)) x:=by
 obtain ⟨W,cb,cf,csf,a1,a2,a3,a4,a5,hr,hrc,hcb,hcs⟩:=H.chairs.chair i t r k hi (by simp) hp;have he:(P.progs i).ended=false:=by rw [hp];rfl
 have hh:C.h=F.hm:=H.holds;have hmain:=H.main;have hmem:t∈g.thr:=List.mem_of_getElem? hi;have hin:i < P.n:=by rw [← H.gate.num];exact (LE' hi).1
 have hT:=H.gate.thr i t hi;have e0:((none:Option Nat) == some i)=false:=rfl;rw [e0] at hT;obtain ⟨htv,hrv,⟨kw,hwk⟩,⟨ks,hst⟩,⟨vv,ao,htb,_⟩,_⟩:=hT;replace htb:x.heap[t.tb]? = some (.cells (Yk g.rb i t.wk t.st vv ao false) 91 (2,4)):=by simpa [he] using htb
 refine XcY (j:=F.n0 + i) (sj:=W) (st:=t.st) H.d (by omega) a1 (by rw [a2];exact Xa htb 2) (Xa htb 3) ⟨(GE hst).1,⟨ks,hst⟩,fun i' s' h1 h2=>?_,fun a v hv=>by obtain ⟨rfl,rfl⟩:=hv;exact Xa htb 3⟩ (by simp [World.frozen?,htb]) (fun g₂ kk hg hck=>?_)
 ·obtain ⟨j,u,e1,e2,e3,_⟩:=H.chairs.oth i' s' (by rw [← hh];exact h1) h2 (fun j q=>by cases q)
  rw [e3];exact H.apart.ws j i u t e2 hi
 ·rw [a2]
  obtain ⟨x1,hx1⟩:∃ x1,x1=x.setChan t.wk 0 #[] false (kk + 1) (kk + 1) false:=⟨_,rfl⟩
  rw [← hx1];have H1:Xy g P none true x1:=by rw [hx1];exact H.gate.chan H.apart ⟨t,hmem,.inl rfl⟩
  have hs1:x1.heap.size=x.heap.size:=by rw [hx1];exact X8 _ _ _
  have ho1:∀ q,¬ g.col q→x1.heap[q]? = x.heap[q]?:=fun q hq=>by rw [hx1];exact XK fun e=>hq (Qb hmem (by simp [e]))
  have H2:Xy g { P with progs:=upd P.progs i (.ret ()),st:={ P.st with sh:=P.st.sh } } (some i) true x1:=(H1.let he).settled;have hT1:=H2.thr i t hi;have e1:(some i == some i)=true:=by simp
  rw [e1] at hT1;obtain ⟨htv1,hrv1,_,⟨ks1,hst1⟩,⟨vv1,ao1,htb1,_⟩,_⟩:=hT1;replace htb1:x1.heap[t.tb]? = some (.cells (Yk g.rb i t.wk t.st vv1 ao1 false) 91 (2,4)):=by simpa using htb1
  refine (a4 g₂ hg).stop _ x1 _ g.rb (Xa htb1 0) (Xa H1.obj 6) ?_;refine a5 _ x1 (fun y hsz hy=>?_);have H3:Xy g { P with progs:=upd P.progs i (.ret ()),st:={ P.st with sh:=P.st.sh } } (some i) true y:=H2.frame (fun r hr=>hy r (H2.colLt hr)) hsz;have lt:∀ {q:Nat} {o:Obj},x1.heap[q]? = some o→y.heap[q]? = some o:=fun {q o} h=>(hy q (GE h).1).trans h;refine hcs _ y ⟨⟨F.hm,Ya Post t.tb t.st c cs,false,g.rb,rfl,by show 0 < F.n0 + i;omega,by show F.hm≠F.n0 + i;omega,?_,rfl,Xa (lt hrv1) 0,Xa H3.obj 6,Xa (lt htv1) 0,Xa (lt htb1) 3,Xa (lt htb1) 13,by simp [World.frozen?,lt htb1],fun g₃ kk' h3 hc3=>?_⟩⟩
  ·show upd C.Ch C.h _ F.hm=_
   rw [hh];exact upd_same _ _ _
  ·refine h3 _ _ _ ?_
   have hsb:t.st≠t.tb:=Yf (lt hst1) (lt htb1) (by simp);have hlt:t.st < (y.setCell (th t.tb 13) (.bool true)).heap.size:=by rw [Xh];exact (GE (lt hst1)).1
   have hz6:∀ q,q≠t.tb→q≠t.st→((y.setCell (th t.tb 13) (.bool true)).setChan t.st 0 #[] false (kk' + 1) (kk' + 1) false).heap[q]? = y.heap[q]?:=fun q h1 h2=>by rw [XK h2,Xb h1]
   have HG:=H3.ended (z:=(y.setCell (th t.tb 13) (.bool true)).setChan t.st 0 #[] false (kk' + 1) (kk' + 1) false) (kk:=kk' + 1) (vv:=vv1) (a:=ao1) H.apart hi (by simp [upd_same,Xx.ended])
    (by rw [XK (fun e=>hsb e.symm),Xd (lt htb1)];rfl) hz6 (WG hlt) (by rw [X8,Xh])
   refine hnext _ _ ⟨HG,H.apart,H.rb,H.mb,H.N,H.kept,H.x0,H.addr,rfl,H.n,hmain,H.lo,H.low,H.io,rfl,fun j hj=>?_,⟨fun i' s' h1 h2 _=>?_,fun j u r k h1 _ h3=>?_⟩⟩ (by rw [X8,Xh];omega) (fun q hq hc=>?_)
   ·by_cases e:j=i
    ·subst e;exact .inr ⟨_,upd_same _ _ _⟩
    ·rcases H.live j hj with ⟨r,k,q⟩|⟨v',q⟩
     ·exact .inl ⟨r,k,(upd_ne _ _ e).trans q⟩
     ·exact .inr ⟨v',(upd_ne _ _ e).trans q⟩
   ·replace h2:upd (upd C.Ch C.h (some (Ya Post t.tb t.st c cs))) (F.n0 + i) none i'=some s':=h2
    by_cases e:i'=F.n0 + i
    ·subst e;rw [upd_same] at h2;cases h2
    ·rw [upd_ne _ _ e,upd_ne _ _ (by omega)] at h2
     obtain ⟨j,u,e1,e2,e3,e4⟩:=H.chairs.oth i' s' h1 h2 (fun j q=>by cases q);exact ⟨j,u,e1,e2,e3,by show (upd P.progs i (Xx.ret ()) j).ended=false;rw [upd_ne _ _ (by rintro rfl;omega)];exact e4⟩
   ·replace h3:upd P.progs i (Xx.ret ()) j=Xx.acc r k:=h3
    have hji:j≠i:=by rintro rfl;rw [upd_same] at h3;cases h3
    rw [upd_ne _ _ hji] at h3;obtain ⟨W',cb',cf',csf',b1,b2⟩:=H.chairs.chair j u r k h1 (by simp) h3;refine ⟨W',cb',cf',csf',?_,b2⟩;show upd (upd C.Ch C.h (some (Ya Post t.tb t.st c cs))) (F.n0 + i) none (F.n0 + j)=_;rw [upd_ne _ _ (by omega),upd_ne _ _ (by omega)];exact b1
   ·rw [hz6 q (fun e=>hc (Qb hmem (by simp [e]))) (fun e=>hc (Qb hmem (by simp [e]))),hy q (by omega),ho1 q hc]
theorem Xb0 {vl:Value}:∀ (k i:Nat) (P:Xp Sh),i + k=P.n→P.n≤64→∀ (C:Ctx) (x:World) (u1 u2 u4 u5 u6 u7 u8 B0 B1 B2 B3 B4 B5 B6 B7 B8 B9 D0 D1 D2 D3 D4 D5 D6 D7 D8 D9 E0 E1 E2 E3 E4 E5 E6 E7 E8 E9 G0 G1 G2 G3 G4 G5 G6 G7 G8 G9 H0 H4 H5 H6 H7 H8 H9 I1 I2 I3 I4 I5 I6 I7 I8 I9 J0 J1 J2 J3 J4 J5 J6 J7 J8 J9 K0 K1 K2 K3 K4 K5 K6 K7 K8 K9 L0 L1 L2:Value),Qc Post S F g P C x→(∀ j,j < i→(P.progs j).ended=true) →
 (∀ (P':Xp Sh) (C':Ctx) (z:World) (u1 u2 u4 u5 u6 u7 u8 u9 B0 B1 B2 B3 B4 B5 B6 B7 B8 B9 D0 D1 D2 D3 D4 D5 D6 D7 D8 D9 E0 E1 E2 E3 E4 E5 E6 E7 E8 E9 G0 G1 G2 G3 G4 G5 G6 G7 G8 G9 H0 H4 H5 H6 H7 H8 H9 I1 I2 I3 I4 I5 I6 I7 I8 I9 J0 J1 J2 J3 J4 J5 J6 J7 J8 J9 K0 K1 K2 K3 K4 K5 K6 K7 K8 K9 L0 L1 L2:Value),Qc Post S F g P' C' z→P'.n=P.n→P'.st=P.st→(∀ j,j < P.n→(P'.progs j).ended=true)→x.heap.size≤z.heap.size→(∀ q,q < x.heap.size→¬ g.col q→z.heap[q]? = x.heap[q]?)→JG Try.prog Post C' (G ((base 52).at ⟨List.toArray ((P0 F.rb)::u1::u2::(vl)::u4::u5::u6::u7::u8::u9::B0::B1::B2::B3::B4::B5::B6::B7::B8::B9::D0::D1::D2::D3::D4::D5::D6::D7::D8::D9::E0::E1::E2::E3::E4::E5::E6::E7::E8::E9::G0::G1::G2::G3::G4::G5::G6::G7::G8::G9::H0::H4::H5::H6::H7::H8::H9::I1::I2::I3::I4::I5::I6::I7::I8::I9::J0::J1::J2::J3::J4::J5::J6::J7::J8::J9::K0::K1::K2::K3::K4::K5::K6::K7::K8::K9::L0::L1::L2::[]),[]⟩ [.code (Code.nav (Try.f52.body.getD .skip) [1,1,1,1,1])]) (c::cs)) z) →
 JG Try.prog Post C (G ((base 52).at ⟨List.toArray ((P0 F.rb)::u1::u2::(vl)::u4::u5::u6::u7::u8::(.int .i64 i)::B0::B1::B2::B3::B4::B5::B6::B7::B8::B9::D0::D1::D2::D3::D4::D5::D6::D7::D8::D9::E0::E1::E2::E3::E4::E5::E6::E7::E8::E9::G0::G1::G2::G3::G4::G5::G6::G7::G8::G9::H0::H4::H5::H6::H7::H8::H9::I1::I2::I3::I4::I5::I6::I7::I8::I9::J0::J1::J2::J3::J4::J5::J6::J7::J8::J9::K0::K1::K2::K3::K4::K5::K6::K7::K8::K9::L0::L1::L2::[]),[]⟩ [.code (Code.nav (Try.f52.body.getD .skip) [1,1,1,1,0,1,0,0]),.inLoop (Code.nav (Try.f52.body.getD .skip) [1,1,1,1,0,1,0,0]),.inBlock 2,.code (Code.nav (Try.f52.body.getD .skip) [1,1,1,1,1])]) (c::cs)) x:=by
 intro k
 induction k with
 | zero =>
  intro i P hik hn C x u1 u2 u4 u5 u6 u7 u8 B0 B1 B2 B3 B4 B5 B6 B7 B8 B9 D0 D1 D2 D3 D4 D5 D6 D7 D8 D9 E0 E1 E2 E3 E4 E5 E6 E7 E8 E9 G0 G1 G2 G3 G4 G5 G6 G7 G8 G9 H0 H4 H5 H6 H7 H8 H9 I1 I2 I3 I4 I5 I6 I7 I8 I9 J0 J1 J2 J3 J4 J5 J6 J7 J8 J9 K0 K1 K2 K3 K4 K5 K6 K7 K8 K9 L0 L1 L2 H hend h;simp only [Try.f52,Option.getD_some,Code.nav] at h ⊢;have hx:decide ((i:Int) < P.n)=false:=by simp;omega
  have hxN:decide (i < P.n)=false:=by simp;omega
  obtain ⟨ao,ac,evT⟩:=Xq H.gate.ths;have k0:x.cell? (th F.rb 0)=some (.slice ao P.n ac):=by rw [← H.rb,Xa H.gate.obj 0,← H.gate.num,← evT];rfl
  replace h:=h P C x;replace h:=fun (w1 w2 w4 w5 w6 w7 w8 w9 w10 w11 w12 w13 w14 w15 w16 w17 w18 w19 w20 w21 w22 w23 w24 w25 w26 w27 w28 w29 w30 w31 w32 w33 w34 w35 w36 w37 w38 w39 w40 w41 w42 w43 w44 w45 w46 w47 w48 w49 w50 w51 w52 w53 w54 w55 w56 w57 w58 w59 w60 w61 w62 w63 w64 w65 w66 w67 w68 w69 w70 w71 w72 w73 w74 w75 w76 w77 w78 w79 w80 w81 w82 w83 w84 w85 w86 w87 w88:Value)=>h w1 w2 w4 w5 w6 w7 w8 w9 w10 w11 w12 w13 w14 w15 w16 w17 w18 w19 w20 w21 w22 w23 w24 w25 w26 w27 w28 w29 w30 w31 w32 w33 w34 w35 w36 w37 w38 w39 w40 w41 w42 w43 w44 w45 w46 w47 w48 w49 w50 w51 w52 w53 w54 w55 w56 w57 w58 w59 w60 w61 w62 w63 w64 w65 w66 w67 w68 w69 w70 w71 w72 w73 w74 w75 w76 w77 w78 w79 w80 w81 w82 w83 w84 w85 w86 w87 w88 H rfl rfl (fun j hj=>hend j (by omega)) (Nat.le_refl _) (fun q _ _=>rfl);replace h:=HD h;clear H hend evT
  repeat refine kx ?_
  refine JG.exit (by rfl) ?_
  first|exact h.out _ _ _ _ _ _ _ _ _ _ _ _ _ _ _ _ _ _ _ _ _ _ _ _ _ _ _ _ _ _ _ _ _ _ _ _ _ _ _ _ _ _ _ _ _ _ _ _ _ _ _ _ _ _ _ _ _ _ _ _ _ _ _ _ _ _ _ _ _ _ _ _ _ _ _ _ _ _ _ _ _ _ _ _ _ _ _|(walk_nrm;exact h.out _ _ _ _ _ _ _ _ _ _ _ _ _ _ _ _ _ _ _ _ _ _ _ _ _ _ _ _ _ _ _ _ _ _ _ _ _ _ _ _ _ _ _ _ _ _ _ _ _ _ _ _ _ _ _ _ _ _ _ _ _ _ _ _ _ _ _ _ _ _ _ _ _ _ _ _ _ _ _ _ _ _ _ _ _ _ _)
 | succ k ih =>
  intro i P hik hn C x u1 u2 u4 u5 u6 u7 u8 B0 B1 B2 B3 B4 B5 B6 B7 B8 B9 D0 D1 D2 D3 D4 D5 D6 D7 D8 D9 E0 E1 E2 E3 E4 E5 E6 E7 E8 E9 G0 G1 G2 G3 G4 G5 G6 G7 G8 G9 H0 H4 H5 H6 H7 H8 H9 I1 I2 I3 I4 I5 I6 I7 I8 I9 J0 J1 J2 J3 J4 J5 J6 J7 J8 J9 K0 K1 K2 K3 K4 K5 K6 K7 K8 K9 L0 L1 L2 H hend h;simp only [Try.f52,Option.getD_some,Code.nav] at ih h ⊢;have hx:decide ((i:Int) < P.n)=true:=by simp;omega
  have hxN:decide (i < P.n)=true:=by simp;omega
  have hlt:i < P.n:=by omega
  have hlt':(i:Int) < P.n:=by omega
  have h0i:(0:Int)≤i:=by omega
  have hw:IntKind.i64.wrap ((i:Int) + 1)=((i + 1:Nat):Int):=by rw [IntKind.wrap_i64];omega
  obtain ⟨t,ht⟩:∃ t,g.thr[i]? = some t:=⟨_,List.getElem?_eq_getElem (by rw [H.gate.num];exact hlt)⟩
  have hths:=H.gate.ths;rw [H.gate.num] at hths;obtain ⟨gt,cap,evT,hg⟩:=Qi hths (by omega);have k0:x.cell? (th F.rb 0)=some (.slice (some ⟨gt,0,none⟩) P.n cap):=by rw [← H.rb,Xa H.gate.obj 0,← evT];rfl
  have hgi:x.cell? (th gt i)=some (P0 t.tb):=hg i _ (by rw [List.getElem?_map,ht];rfl);have hT:=H.gate.thr i t ht;have e0:((none:Option Nat) == some i)=false:=rfl;rw [e0] at hT;obtain ⟨_,_,_,_,⟨vv,ao,htb,_⟩,_⟩:=hT;have h13:x.cell? (th t.tb 13)=some (.bool (P.progs i).ended):=by rw [Xa htb 13];simp [Yk]
  have HH:=HD H;have HE:=HD hend;replace h:=HD h;replace ih:=HD ih;clear H hend hths evT hg htb;rcases HH.out.live i hlt with ⟨r,kk,hp⟩|⟨v,hp⟩
  ·rw [hp] at h13
   replace h13:x.cell? (th t.tb 13)=some (.bool false):=h13
   repeat refine kx ?_
   refine kf (args:=#[P0 t.tb]) Try.func51 ?_;refine XfO HH.out ht hp (fun C' z H2 hs2 ho2=>?_);rw [Frame.finish_at];walk_nrm
   repeat refine kx ?_
   refine JG.inLoop ?_;refine ih.out (i + 1) { P with progs:=upd P.progs i (.ret ()) } (by show i + 1 + k=P.n;omega) hn C' z _ _ _ _ _ _ _ _ _ _ _ _ _ _ _ _ _ _ _ _ _ _ _ _ _ _ _ _ _ _ _ _ _ _ _ _ _ _ _ _ _ _ _ _ _ _ _ _ _ _ _ _ _ _ _ _ _ _ _ _ _ _ _ _ _ _ _ _ _ _ _ _ _ _ _ _ _ _ _ _ _ _ _ _ _ _ H2 (fun j hj=>?_) (fun P' C2 z2 w1 w2 w4 w5 w6 w7 w8 w9 w10 w11 w12 w13 w14 w15 w16 w17 w18 w19 w20 w21 w22 w23 w24 w25 w26 w27 w28 w29 w30 w31 w32 w33 w34 w35 w36 w37 w38 w39 w40 w41 w42 w43 w44 w45 w46 w47 w48 w49 w50 w51 w52 w53 w54 w55 w56 w57 w58 w59 w60 w61 w62 w63 w64 w65 w66 w67 w68 w69 w70 w71 w72 w73 w74 w75 w76 w77 w78 w79 w80 w81 w82 w83 w84 w85 w86 w87 w88 H3 n3 s3 e3 hs3 ho3=>h.out P' C2 z2 w1 w2 w4 w5 w6 w7 w8 w9 w10 w11 w12 w13 w14 w15 w16 w17 w18 w19 w20 w21 w22 w23 w24 w25 w26 w27 w28 w29 w30 w31 w32 w33 w34 w35 w36 w37 w38 w39 w40 w41 w42 w43 w44 w45 w46 w47 w48 w49 w50 w51 w52 w53 w54 w55 w56 w57 w58 w59 w60 w61 w62 w63 w64 w65 w66 w67 w68 w69 w70 w71 w72 w73 w74 w75 w76 w77 w78 w79 w80 w81 w82 w83 w84 w85 w86 w87 w88 H3 n3 s3 e3 (by omega) fun q hq hc=>(ho3 q (by omega) hc).trans (ho2 q hq hc))
   by_cases e:j=i
   ·subst e;show (upd P.progs j (Xx.ret ()) j).ended=true;rw [upd_same];rfl
   ·show (upd P.progs i (Xx.ret ()) j).ended=true
    rw [upd_ne _ _ e];exact HE.out j (by omega)
  ·rw [hp] at h13
   replace h13:x.cell? (th t.tb 13)=some (.bool true):=h13
   repeat refine kx ?_
   refine JG.inLoop ?_;refine ih.out (i + 1) P (by omega) hn C x _ _ _ _ _ _ _ _ _ _ _ _ _ _ _ _ _ _ _ _ _ _ _ _ _ _ _ _ _ _ _ _ _ _ _ _ _ _ _ _ _ _ _ _ _ _ _ _ _ _ _ _ _ _ _ _ _ _ _ _ _ _ _ _ _ _ _ _ _ _ _ _ _ _ _ _ _ _ _ _ _ _ _ _ _ _ HH.out (fun j hj=>?_) h.out
   by_cases e:j=i
   ·subst e;rw [hp];rfl
   ·exact HE.out j (by omega)
end
theorem XcL {Sh:Type}:∀ (all:List Lo) (f:Nat→Option Xo) (off:Nat),(∀ (j:Nat) (t:Lo),all[j]? = some t→(if t.e then none else some t.left)=f (off + j))→XT all=(List.range' off all.length).filterMap f:=by
 intro all
 induction all with
 | nil=>intros;rfl
 | cons t l ih =>
  intro f off h;have h1:=h 0 t rfl;have hi:=ih f (off + 1) (fun j u e=>by
   have:=h (j + 1) u (by simpa using e)
   rw [show off + (j + 1)=off + 1 + j by omega] at this;exact this)
  rw [Nat.add_zero] at h1;unfold XT at hi ⊢;rw [List.length_cons,List.range'_succ,List.filterMap_cons,← h1];cases he:t.e<;>simp [he,hi]
section
variable {Sh:Type} {Post:Value→World→Prop} {S:Zv Sh} {F:Fix} {g:Gs} {P:Xp Sh} {C:Ctx} {x:World} {c:Frame} {cs:List Frame}
theorem Stood.lefts (H:Stood Post S F g P 0 none C x) (hI:S.I P.st.sh P.st.cells g.col x) :
 ∃ all:List Lo,all.length=P.n∧(∀ (j:Nat) (t:Lo),all[j]? = some t→t.At x x.heap.size F.rb F.mb j)∧(all.map fun t=>P0 t.tb)=(g.thr.map fun t=>P0 t.tb)∧XT all=P.left:=by
 have hex:∀ j,j < P.n→∃ t:Lo,t.At x x.heap.size F.rb F.mb j∧(∀ u,g.thr[j]? = some u→t.tb=u.tb)∧(if t.e then none else some t.left)=P.stands j:=fun j hj=>by
  obtain ⟨u,hu⟩:∃ u,g.thr[j]? = some u:=⟨_,List.getElem?_eq_getElem (by rw [H.gate.num];exact hj)⟩
  have hT:=H.gate.thr j u hu;have e0:((none:Option Nat) == some j)=false:=rfl;rw [e0] at hT;obtain ⟨h1,h2,_,_,⟨vv,a,h5,h6⟩,h7⟩:=hT;rw [H.rb] at h5;have hlt:=(GE h5).1;rcases H.live j hj (by simp) with ⟨r,k,hp⟩|⟨v,hp⟩
  ·obtain ⟨e1,e2⟩:=h6 rfl r k hp
   obtain ⟨_,_,_,_,_,_,_,_,_,_,hrc,_⟩:=H.chairs.chair j u r k hu (by simp) hp;obtain ⟨⟨ca,ta,c1⟩,c2,_⟩:=S.cell hI _ hrc;have hne:(P.progs j).ended=false:=by rw [hp];rfl
   rw [hne] at h5;refine ⟨⟨u.tb,u.wk,u.st,vv,a,false,S.A r.cell,P.st.cells r.cell,((if r.cell∈P.st.names then (P.st.names.idxOf r.cell:Nat) else (0:Nat):Nat):Int),decide (r.cell∈P.st.names)⟩,⟨h5,hlt,fun _=>⟨by rw [e1,H.addr],(GE c1).1,c2,fun y hy=>?_⟩⟩,fun u' e=>by rw [hu] at e;rw [OI e],?_⟩
   ·have hm:=H.gate.map
    rw [H.mb,H.addr] at hm;obtain ⟨es,cl,m1,m2⟩:=hm;refine Wq (A:=S.A) (names:=P.st.names) (id:=r.cell) ⟨es,cl,(hy _ (GE m1).1).trans m1,m2⟩ ⟨ca,ta,(hy _ (GE c1).1).trans c1⟩ (fun q hq=>?_);obtain ⟨⟨ca',ta',c1'⟩,_⟩:=S.cell hI q (H.names q hq);exact ⟨⟨ca',ta',(hy _ (GE c1').1).trans c1'⟩,fun e=>S.inj q r.cell (H.names q hq) hrc e⟩
   ·simp only [Xp.stands,hp,Xx.req,Lo.left,e2,Ask.at',Option.map_some,Rst.num]
    by_cases hin:r.cell∈P.st.names<;>simp [hin]
  ·have he:(P.progs j).ended=true:=by rw [hp];rfl
   rw [he] at h5;refine ⟨⟨u.tb,u.wk,u.st,vv,a,true,0,0,0,false⟩,⟨h5,hlt,fun e=>by cases e⟩,fun u' e=>by rw [hu] at e;rw [OI e],?_⟩;simp [Xp.stands,hp,Xx.req]
 have hall:∀ n,n≤P.n→∃ all:List Lo,all.length=n∧∀ (j:Nat) (t:Lo),all[j]? = some t→t.At x x.heap.size F.rb F.mb j∧(∀ u,g.thr[j]? = some u→t.tb=u.tb)∧(if t.e then none else some t.left)=P.stands j:=fun n=>by
  induction n with
  | zero=>exact fun _=>⟨[],rfl,fun j t e=>by simp at e⟩
  | succ n ih =>
   intro hn;obtain ⟨all,h1,h2⟩:=ih (by omega);obtain ⟨t,ht⟩:=hex n (by omega);refine ⟨all ++ [t],by simp [h1],fun j u hu=>?_⟩;rcases Nat.lt_or_ge j all.length with h|h
   ·rw [List.getElem?_append_left h] at hu;exact h2 j u hu
   ·rw [List.getElem?_append_right h] at hu
    have hj:j - all.length=0:=by
     rcases Nat.eq_zero_or_pos (j - all.length) with h0|h0
     ·exact h0
     ·rw [List.getElem?_eq_none (by simp;omega)] at hu;cases hu
    rw [hj] at hu;obtain rfl:t=u:=by simpa using hu
    obtain rfl:j=n:=by omega
    exact ht
 obtain ⟨all,h1,h2⟩:=hall P.n (Nat.le_refl _);refine ⟨all,h1,fun j t e=>(h2 j t e).1,?_,?_⟩
 ·apply List.ext_getElem?
  intro j;rw [List.getElem?_map,List.getElem?_map];rcases Nat.lt_or_ge j P.n with h|h
  ·obtain ⟨t,ht⟩:∃ t,all[j]? = some t:=⟨_,List.getElem?_eq_getElem (by omega)⟩
   obtain ⟨u,hu⟩:∃ u,g.thr[j]? = some u:=⟨_,List.getElem?_eq_getElem (by rw [H.gate.num];exact h)⟩
   rw [ht,hu];simp [(h2 j t ht).2.1 u hu]
  ·rw [List.getElem?_eq_none (l:=all) (by omega),List.getElem?_eq_none (l:=g.thr) (by rw [H.gate.num];exact h)];rfl
 ·rw [XcL (Sh:=Sh) all P.stands 0 (fun j t e=>by rw [Nat.zero_add];exact (h2 j t e).2.2),h1,Xp.left,List.range_eq_range']
theorem Xf2 (H:Stood Post S F g P 0 none C x) (hI:S.I P.st.sh P.st.cells g.col x) (hn:P.n≤64)
 (h:∀ (P':Xp Sh) (C':Ctx) (z:World) (vl:Value),Qc Post S F g P' C' z→P'.n=P.n→P'.st=P.st→(∀ j,j < P.n→(P'.progs j).ended=true)→z.ownsRow x.heap.size 89 8 vl P.left.length (P.left.flatMap Yj)→x.heap.size≤z.heap.size→(∀ q,q < x.heap.size→¬ g.col q→z.heap[q]? = x.heap[q]?) →
   JG Try.prog Post C' (G (c.finish vl) cs) z) :
 JG Try.prog Post C (G (Frame.enter Try.prog 52 #[P0 F.rb] .normal) (c::cs)) x:=by
 obtain ⟨all,e1,e2,e3,e4⟩:=H.lefts hI;have hT:x.ownsRow g.N 33 1 g.vT all.length (all.map fun t=>P0 t.tb):=by
  rw [e3,show all.length=g.thr.length from e1.trans H.gate.num.symm];exact H.gate.ths
 have hl:=@XcN Post C c cs F.rb F.mb g.N x.heap.size g.vT all (by omega) (by rw [← H.rb];exact (GE H.gate.obj).1) all.length 0 (by omega) x (.slice none 0 0);simp only [Try.f52,Option.getD_some,Code.nav] at hl;have hs:=fun vl=>@Xb0 Sh Post S F g c cs vl P.n 0 P (by omega) hn C;simp only [Try.f52,Option.getD_some,Code.nav] at hs;have k0:x.cell? (th F.rb 0)=some g.vT:=by rw [← H.rb,Xa H.gate.obj 0];rfl
 have k1:x.cell? (th F.rb 1)=some (.map (some F.mb)):=by rw [← H.rb,Xa H.gate.obj 1,← H.mb];rfl
 obtain ⟨ao,ac,evT⟩:=Xq hT;rw [evT] at k0;replace hl:=HD hl;replace hs:=HD hs;have HH:=HD H;have HI:=HD hI;replace h:=HD h;replace e2:=HD e2;replace hT:=HD hT;replace e4:=HD e4;replace e1:=HD e1;replace e3:=HD e3;replace evT:=HD evT;clear H hI;refine Xu Try.func52 (by rfl) (by rfl) ?_;simp only [Try.f52,Option.getD_some];walk_nrm
 repeat refine kx ?_
 refine JG.loop ?_;rw [← evT.out];refine hl.out _ _ _ _ _ _ _ _ _ _ _ _ _ _ _ _ _ _ _ _ _ _ _ _ _ _ _ _ _ _ _ _ _ _ _ _ _ _ _ _ _ _ _ _ _ _ _ _ _ _ _ _ _ _ _ _ _ _ _ _ _ _ _ _ _ _ _ _ _ _ _ _ _ _ _ _ _ _ _ _ _ _ _ _ hT.out e2.out X7 (Nat.le_refl _) (fun q e=>own_lt hT.out e) k1 ?_;intro y vl w1 w2 w4 w5 w6 w7 w8 w9 w10 w11 w12 w13 w14 w15 w16 w17 w18 w19 w20 w21 w22 w23 w24 w25 w26 w27 w28 w29 w30 w31 w32 w33 w34 w35 w36 w37 w38 w39 w40 w41 w42 w43 w44 w45 w46 w47 w48 w49 w50 w51 w52 w53 w54 w55 w56 w57 w58 w59 w60 w61 w62 w63 w64 w65 w66 w67 w68 w69 w70 w71 w72 w73 w74 w75 w76 w77 w78 w79 w80 w81 w82 w83 w84 w85 w86 w87 w88 hown hsz hold;rw [e4.out] at hown;have Hy:Stood Post S F g P 0 none C y:=HH.out.frame (fun r hr=>hold r (HH.out.gate.colLt hr)) hsz fun j a ha=>World.cell?_of_block (hold a.block (S.keepI HI.out j a ha).1);have hobj:=Hy.gate.obj;rw [Hy.rb] at hobj;have c6:y.cell? (th F.rb 6)=some (.bool false):=Xa hobj 6;have f6:y.frozen? (th F.rb 6)=false:=Xe hobj 6;have HY:=HD Hy;replace hold:=HD hold;replace hown:=HD hown;replace hobj:=HD hobj;clear Hy
 repeat refine kx ?_
 refine kst (And.intro c6 f6) ?_;clear c6 f6;have HE:=HY.out.stopped;have zo:∀ q,q≠F.rb→(y.setCell (th F.rb 6) (.bool true)).heap[q]? = y.heap[q]?:=fun q hq=>Xb hq;have zs:=Xh y (th F.rb 6) (.bool true);generalize y.setCell (th F.rb 6) (.bool true)=z at HE zo zs ⊢;replace HE:=HD HE;replace zo:=HD zo;replace zs:=HD zs
 repeat refine kx ?_
 refine JG.loop ?_;refine (hs.out vl) z _ _ _ _ _ _ _ _ _ _ _ _ _ _ _ _ _ _ _ _ _ _ _ _ _ _ _ _ _ _ _ _ _ _ _ _ _ _ _ _ _ _ _ _ _ _ _ _ _ _ _ _ _ _ _ _ _ _ _ _ _ _ _ _ _ _ _ _ _ _ _ _ _ _ _ _ _ _ _ _ _ _ _ _ _ _ HE.out (fun j hj=>by omega) ?_;intro P' C' z2 v1 v2 v4 v5 v6 v7 v8 v9 v10 v11 v12 v13 v14 v15 v16 v17 v18 v19 v20 v21 v22 v23 v24 v25 v26 v27 v28 v29 v30 v31 v32 v33 v34 v35 v36 v37 v38 v39 v40 v41 v42 v43 v44 v45 v46 v47 v48 v49 v50 v51 v52 v53 v54 v55 v56 v57 v58 v59 v60 v61 v62 v63 v64 v65 v66 v67 v68 v69 v70 v71 v72 v73 v74 v75 v76 v77 v78 v79 v80 v81 v82 v83 v84 v85 v86 v87 v88 H2 n2 s2 en2 hs2 ho2;have hcrb:g.col F.rb:=by rw [← HH.out.rb];simp [Gs.col]
 have hkeep:∀ q,q < z.heap.size→¬ g.col q→z2.heap[q]? = y.heap[q]?:=fun q hq hc=>(ho2 q hq hc).trans (zo.out q fun e=>hc (e ▸ hcrb));have zs':=zs.out;have hres:=h.out P' C' z2 vl H2 n2 s2 en2 (Xj hown.out fun b hb=>hkeep b (by have:=own_lt hown.out hb;omega) fun hc=>by
  have h1:=HH.out.gate.colLt hc;have h2:=XE hown.out hb
  omega) (by omega) (fun q hq hc=>(hkeep q (by omega) hc).trans (hold.out q hq))
 clear hkeep H2 ho2;replace hres:=HD hres
 repeat refine kx ?_
 refine JG.ret ?_;exact JG.leave rfl rfl Try.func52 (fun τ d=>results_tmp (t:=2) rfl _ _ _) hres.out
