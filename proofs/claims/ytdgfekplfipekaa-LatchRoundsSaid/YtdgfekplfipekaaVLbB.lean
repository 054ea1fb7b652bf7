/- Latches, locks, barriers under J, called by a thread that is nil; and those that are none. -/
import Derived.Test.YtdgfekplfipekaaVLpF
import Derived.Test.YtdgfekplfipekaaVLbA
set_option linter.all false
set_option maxRecDepth 100000
set_option maxHeartbeats 16000000
namespace Go.Proofs.Ytdgfekplfipekaa
open Go.Conc Go.RowKit
open Go.ConcN (upd upd_same upd_ne)
set_option maxRecDepth 100000
section
variable {Sh:Type} {Post:Value→World→Prop} {S:Zv Sh} {F:Fix} {g:Gs} {P:Xp Sh} {m:Nat} {C:Ctx} {x:World} {h:Option Nat}
theorem Stood.keptCell (H:Stood Post S F g P m h C x) {r k:Nat} (hr:F.kept r):x.cell? (th r k)=F.x0.cell? (th r k):=by
 have:=(H.gate.kept r (H.kept r hr)).2.trans (H.x0 r hr)
 simp only [World.cell?];rw [this]
theorem Xcm {picks:List Int} {pb pv pc:Nat} {po:Option Addr} (hk1:F.kept pb) (hk2:F.kept pv) (h1:F.x0.cell? (th pb 0)=some (.slice po picks.length pc)) (h2:F.x0.cell? (th pv 0)=some (P0 F.rb))
 (h3:picks≠[]→∃ gp og,po=some ⟨gp,og,none⟩∧F.kept gp∧∀ (j:Nat) (q:Int),picks[j]? = some q→F.x0.cell? ⟨gp,og + j,none⟩=some (.int .i64 q)):UW Post S F 37 #[P0 pb,P0 pv] (picked picks):=by
 refine ⟨⟨_,Try.func37,by kernel_rfl,by kernel_rfl⟩,fun g P m C x N vl c cs H hab hown hwl hn hnext=>?_⟩;have hl:0 < P.able.length:=List.length_pos_iff.2 hab;obtain ⟨gb,cap,rfl,hg⟩:=Qi hown (by omega);have hlen:P.able.length≤P.n:=by unfold Xp.able;exact Nat.le_trans (List.length_filter_le _ _) (by simp)
 obtain ⟨gw,wc,hwn⟩:∃ gw wc,(x.cell? (th g.rb 3)=some (.slice (some ⟨gw,0,none⟩) P.st.went.length wc)∨P.st.went = [])∧∀ (j q:Nat),P.st.went[j]? = some q→x.cell? (th gw j)=some (.int .i64 q):=by
  by_cases hw:P.st.went = []
  ·exact ⟨0,0,.inr hw,fun j q e=>by rw [hw] at e;simp at e⟩
  ·obtain ⟨gw,wc,e1,e2⟩:=Qi H.gate.wn (fun e=>hw (List.length_eq_zero_iff.1 e))
   refine ⟨gw,wc,.inl ?_,fun j q e=>e2 j _ (by rw [List.getElem?_map,e];rfl)⟩;rw [Xa H.gate.obj 3];show some g.vW=_;rw [e1]
 have hp:=XfS (Post:=Post) (C:=C) (x:=x) (c:=c) (cs:=cs) (pb:=pb) (pv:=pv) (rb:=g.rb) (g:=gb) (pc:=pc) (cap:=cap) (gw:=gw) (po:=po) (wc:=wc) picks (P.able.map fun i=>(i,g.tbOf i)) P.st.went (by rw [H.keptCell hk1];exact h1)
  (fun e=>by
    obtain ⟨gp,og,q1,q2,q3⟩:=h3 e;exact ⟨gp,og,q1,fun j q hq=>by show x.cell? (th gp (og + j))=_;rw [H.keptCell q2];exact q3 j q hq⟩) (by rw [H.keptCell hk2,H.rb];exact h2) hwn.1 hwn.2 (by omega) (by simpa using hl) (by rw [List.length_map];omega)
  (fun j q hq=>by
    rw [List.getElem?_map] at hq;cases e:P.able[j]? with
    | none=>rw [e] at hq;cases hq
    | some i =>
     rw [e] at hq;obtain rfl:=OI hq;exact hg j _ (by rw [List.getElem?_map,e];rfl))
  (fun j q hq=>by
    rw [List.getElem?_map] at hq;cases e:P.able[j]? with
    | none=>rw [e] at hq;cases hq
    | some i =>
     rw [e] at hq;obtain rfl:=OI hq;obtain ⟨hi,_⟩:=H.mayAcc (List.mem_of_getElem? e);obtain ⟨t,ht⟩:∃ t,g.thr[i]? = some t:=⟨_,List.getElem?_eq_getElem (by rw [H.gate.num];exact hi)⟩
     obtain ⟨_,_,_,_,⟨vv,a,hto,_⟩,_⟩:=H.gate.thr i t ht;show x.cell? (th (g.tbOf i) 1)=_;rw [show g.tbOf i=t.tb by unfold Gs.tbOf;rw [ht];rfl];exact Xa hto 1)
  (fun q hq hpick=>by
    obtain ⟨i,hi,rfl⟩:=List.mem_map.1 hq;refine hnext i hi ?_;have hid:((fun q:Nat × Nat=>q.1) ∘ fun i=>(i,g.tbOf i))=id:=rfl;rw [List.map_map,hid,List.map_id] at hpick;exact hpick)
 rw [List.length_map] at hp;exact hp
end
structure Xa8 (Sh:Type) where
 fb:FuncId
 cap:Array Value
 prog:Xx Sh Unit
theorem Xp.start_st {Sh:Type}:∀ (l:List (Xx Sh Unit)) (P:Xp Sh),(P.start l).n=P.n + l.length∧(P.start l).st.went=P.st.went∧(P.start l).st.ready=P.st.ready
 | [],P=>⟨rfl,rfl,rfl⟩
 | p::l,P=>by
  obtain ⟨h1,h2,h3⟩:=Xp.start_st l (({ P with n:=P.n + 1 }:Xp Sh).settle P.n p);refine ⟨?_,h2,h3⟩;show (Xp.start _ l).n=_;rw [h1];show P.n + 1 + l.length=P.n + (l.length + 1)
  omega
section
variable {Sh:Type} {Post:Value→World→Prop} {S:Zv Sh} {F:Fix} {fs:FuncId} {cap:Array Value} {sched:List Nat→List Nat→Nat} {most m:Nat} {c:Frame} {cs:List Frame} {bodies:List (Xa8 Sh)} {ab:Option Addr} {bc:Nat}
theorem Xax (hbs:∀ (j:Nat) (b:Xa8 Sh),bodies[j]? = some b→∃ bb,ab=some ⟨bb,0,none⟩∧F.kept bb∧F.x0.cell? (th bb j)=some (.func (.func b.fb) #[] b.cap)) (hok:∀ (j:Nat) (b:Xa8 Sh),bodies[j]? = some b→Vu Post S j m b.fb b.cap b.prog) (hlen:bodies.length≤64) :
 ∀ (k i:Nat),i + k=bodies.length→∀ (g:Gs) (P:Xp Sh) (C:Ctx) (x:World) (u2 u4 u5 u6 u7 u8 u9 B0 B1 B2 B3 B4 B8 B9 D0 D1 D2 D3 D4 D5 D6 D7 D8 D9 E0 E1 E2 E3 E4 E5 E6 E7 E8 E9 G0 G1 G2 G3 G4 G5 G6 G7 G8 G9 H0 H4 H5 H6 H7 H8 H9 I1 I2 I3 I4 I5 I6 I7 I8 I9 J0 J1 J2 J3 J4 J5 J6 J7 J8 J9 K0 K1 K2 K3:Value),Stood Post S F g P m none C x→S.I P.st.sh P.st.cells g.col x→P.n=i→(∀ l1 l2,(bodies.drop i).map (fun b=>b.prog)=l1 ++ l2→S.fin.f m (P.start l1)) →
 (∀ (g':Gs) (C':Ctx) (z:World) (u2 u4 u5 u6 u7 u8 u9 B0 B1 B2 B3 B4 B5 B6 B7 B8 B9 D0 D1 D2 D3 D4 D5 D6 D7 D8 D9 E0 E1 E2 E3 E4 E5 E6 E7 E8 E9 G0 G1 G2 G3 G4 G5 G6 G7 G8 G9 H0 H4 H5 H6 H7 H8 H9 I1 I2 I3 I4 I5 I6 I7 I8 I9 J0 J1 J2 J3 J4 J5 J6 J7 J8 J9 K0 K1 K2 K3:Value),Stood Post S F g' (P.start ((bodies.drop i).map fun b=>b.prog)) m none C' z→S.I (P.start ((bodies.drop i).map fun b=>b.prog)).st.sh (P.start ((bodies.drop i).map fun b=>b.prog)).st.cells g'.col z→JG Try.prog Post C' (G ((base 36).at ⟨List.toArray ((P0 F.rb)::(.int .i64 most)::u2::(.func (.func fs) #[] cap)::u4::u5::u6::u7::u8::u9::B0::B1::B2::B3::B4::B5::B6::B7::B8::B9::D0::D1::D2::D3::D4::D5::D6::D7::D8::D9::E0::E1::E2::E3::E4::E5::E6::E7::E8::E9::G0::G1::G2::G3::G4::G5::G6::G7::G8::G9::H0::H4::H5::H6::H7::H8::H9::I1::I2::I3::I4::I5::I6::I7::I8::I9::J0::J1::J2::J3::J4::J5::J6::J7::J8::J9::K0::K1::K2::K3::[]),[]⟩ [.code (Code.nav (Try.f36.body.getD .skip) [1,1])]) (c::cs)) z) →
 JG Try.prog Post C (G ((base 36).at ⟨List.toArray ((P0 F.rb)::(.int .i64 most)::u2::(.func (.func fs) #[] cap)::u4::u5::u6::u7::u8::u9::B0::B1::B2::B3::B4::(.slice ab bodies.length bc)::(.int .i64 bodies.length)::(.int .i64 i)::B8::B9::D0::D1::D2::D3::D4::D5::D6::D7::D8::D9::E0::E1::E2::E3::E4::E5::E6::E7::E8::E9::G0::G1::G2::G3::G4::G5::G6::G7::G8::G9::H0::H4::H5::H6::H7::H8::H9::I1::I2::I3::I4::I5::I6::I7::I8::I9::J0::J1::J2::J3::J4::J5::J6::J7::J8::J9::K0::K1::K2::K3::[]),[]⟩ [.code (Code.nav (Try.f36.body.getD .skip) [1,0,1,0,0]),.inLoop (Code.nav (Try.f36.body.getD .skip) [1,0,1,0,0]),.inBlock 0,.code (Code.nav (Try.f36.body.getD .skip) [1,1])]) (c::cs)) x:=by
 intro k
 induction k with
 | zero =>
  intro i hik g P C x u2 u4 u5 u6 u7 u8 u9 B0 B1 B2 B3 B4 B8 B9 D0 D1 D2 D3 D4 D5 D6 D7 D8 D9 E0 E1 E2 E3 E4 E5 E6 E7 E8 E9 G0 G1 G2 G3 G4 G5 G6 G7 G8 G9 H0 H4 H5 H6 H7 H8 H9 I1 I2 I3 I4 I5 I6 I7 I8 I9 J0 J1 J2 J3 J4 J5 J6 J7 J8 J9 K0 K1 K2 K3 H hI hn _ h;simp only [Try.f36,Option.getD_some,Code.nav] at h ⊢;have hx:decide ((i:Int) < bodies.length)=false:=by simp;omega
  have hxN:decide (i < bodies.length)=false:=by simp;omega
  rw [List.drop_eq_nil_of_le (by omega)] at h;replace h:=h g C x;replace h:=fun (w2 w4 w5 w6 w7 w8 w9 w10 w11 w12 w13 w14 w15 w16 w17 w18 w19 w20 w21 w22 w23 w24 w25 w26 w27 w28 w29 w30 w31 w32 w33 w34 w35 w36 w37 w38 w39 w40 w41 w42 w43 w44 w45 w46 w47 w48 w49 w50 w51 w52 w53 w54 w55 w56 w57 w58 w59 w60 w61 w62 w63 w64 w65 w66 w67 w68 w69 w70 w71 w72 w73 w74 w75 w76 w77 w78 w79:Value)=>h w2 w4 w5 w6 w7 w8 w9 w10 w11 w12 w13 w14 w15 w16 w17 w18 w19 w20 w21 w22 w23 w24 w25 w26 w27 w28 w29 w30 w31 w32 w33 w34 w35 w36 w37 w38 w39 w40 w41 w42 w43 w44 w45 w46 w47 w48 w49 w50 w51 w52 w53 w54 w55 w56 w57 w58 w59 w60 w61 w62 w63 w64 w65 w66 w67 w68 w69 w70 w71 w72 w73 w74 w75 w76 w77 w78 w79 H hI;replace h:=HD h;clear H hI
  repeat refine kx ?_
  refine JG.exit (by rfl) ?_
  first|exact h.out _ _ _ _ _ _ _ _ _ _ _ _ _ _ _ _ _ _ _ _ _ _ _ _ _ _ _ _ _ _ _ _ _ _ _ _ _ _ _ _ _ _ _ _ _ _ _ _ _ _ _ _ _ _ _ _ _ _ _ _ _ _ _ _ _ _ _ _ _ _ _ _ _ _ _ _ _|(walk_nrm;exact h.out _ _ _ _ _ _ _ _ _ _ _ _ _ _ _ _ _ _ _ _ _ _ _ _ _ _ _ _ _ _ _ _ _ _ _ _ _ _ _ _ _ _ _ _ _ _ _ _ _ _ _ _ _ _ _ _ _ _ _ _ _ _ _ _ _ _ _ _ _ _ _ _ _ _ _ _ _)
 | succ k ih =>
  intro i hik g P C x u2 u4 u5 u6 u7 u8 u9 B0 B1 B2 B3 B4 B8 B9 D0 D1 D2 D3 D4 D5 D6 D7 D8 D9 E0 E1 E2 E3 E4 E5 E6 E7 E8 E9 G0 G1 G2 G3 G4 G5 G6 G7 G8 G9 H0 H4 H5 H6 H7 H8 H9 I1 I2 I3 I4 I5 I6 I7 I8 I9 J0 J1 J2 J3 J4 J5 J6 J7 J8 J9 K0 K1 K2 K3 H hI hn hfine h;simp only [Try.f36,Option.getD_some,Code.nav] at ih h ⊢;have hx:decide ((i:Int) < bodies.length)=true:=by simp;omega
  have hxN:decide (i < bodies.length)=true:=by simp;omega
  have hlt:i < bodies.length:=by omega
  have hltI:(i:Int) < bodies.length:=by omega
  have h0i:(0:Int)≤i:=by omega
  have hw:IntKind.i64.wrap ((i:Int) + 1)=((i + 1:Nat):Int):=by rw [IntKind.wrap_i64];omega
  obtain ⟨b,hb⟩:∃ b,bodies[i]? = some b:=⟨_,List.getElem?_eq_getElem hlt⟩
  obtain ⟨bb,rfl,hbk,hbc⟩:=hbs i b hb;have hgi:x.cell? (th bb i)=some (.func (.func b.fb) #[] b.cap):=by rw [H.keptCell hbk];exact hbc
  have hdrop:bodies.drop i=b::bodies.drop (i + 1):=by
   rw [List.drop_eq_getElem_cons hlt];rw [List.getElem?_eq_getElem hlt] at hb;rw [OI hb]
  rw [hdrop,List.map_cons] at h;have hf1:=hfine [b.prog] ((bodies.drop (i + 1)).map fun b=>b.prog) (by rw [hdrop];rfl);have hf2:∀ l1 l2,(bodies.drop (i + 1)).map (fun b=>b.prog)=l1 ++ l2→S.fin.f m ((({ P with n:=P.n + 1 }:Xp Sh).settle P.n b.prog).start l1):=fun l1 l2 e=>hfine (b.prog::l1) l2 (by rw [hdrop,List.map_cons,e];rfl);replace hf1:=HD hf1;replace hf2:=HD hf2;clear hfine;have hrb:=H.rb;replace h:=HD h;replace ih:=HD ih;have HH:=HD H;have HI:=HD hI;replace hbs:=HD hbs;replace hdrop:=HD hdrop;replace hb:=HD hb;clear H hI hbc
  repeat refine kx ?_
  refine kf (args:=#[P0 F.rb,.func (.func b.fb) #[] b.cap]) Try.func49 ?_;rw [← hrb];refine Xfv HH.out HI.out (by omega) (by rw [hn];exact hok i b hb.out) rfl hf1.out (fun g' C' z tb H2 hI2=>?_);rw [hrb,Frame.finish_at];walk_nrm
  repeat refine kx ?_
  refine JG.inLoop ?_;exact ih.out (i + 1) (by omega) g' _ C' z _ _ _ _ _ _ _ _ _ _ _ _ _ _ _ _ _ _ _ _ _ _ _ _ _ _ _ _ _ _ _ _ _ _ _ _ _ _ _ _ _ _ _ _ _ _ _ _ _ _ _ _ _ _ _ _ _ _ _ _ _ _ _ _ _ _ _ _ _ _ _ _ _ _ H2 hI2 (by show P.n + 1=_;omega) hf2.out h.out
theorem XeL (hS:UW Post S F fs cap sched) (hmost:most≤65536) (hbs:∀ (j:Nat) (b:Xa8 Sh),bodies[j]? = some b→∃ bb,ab=some ⟨bb,0,none⟩∧F.kept bb∧F.x0.cell? (th bb j)=some (.func (.func b.fb) #[] b.cap)) (hok:∀ (j:Nat) (b:Xa8 Sh),bodies[j]? = some b→Vu Post S j most b.fb b.cap b.prog) (hlen:bodies.length≤64)
 {g:Gs} {P:Xp Sh} {C:Ctx} {x:World} (H:Stood Post S F g P most none C x) (hI:S.I P.st.sh P.st.cells g.col x) (hn:P.n=0) (hw:P.st.went = []) (hr:P.st.ready = []) (hfine:∀ l1 l2,bodies.map (fun b=>b.prog)=l1 ++ l2→S.fin.f most (P.start l1))
 (h:∀ (g':Gs) (C':Ctx) (z:World),Stood Post S F g' ((P.start (bodies.map fun b=>b.prog)).runs sched most).2 0 none C' z→S.I ((P.start (bodies.map fun b=>b.prog)).runs sched most).2.st.sh ((P.start (bodies.map fun b=>b.prog)).runs sched most).2.st.cells g'.col z →
   JG Try.prog Post C' (G (c.finish (.tuple #[.int .i8 ((P.start (bodies.map fun b=>b.prog)).runs sched most).1,.bool true])) cs) z) :
 JG Try.prog Post C (G (Frame.enter Try.prog 36 #[P0 F.rb,.int .i64 most,.slice ab bodies.length bc,.func (.func fs) #[] cap] .normal) (c::cs)) x:=by
 have hb:=@Xax Sh Post S F fs cap most most c cs bodies ab bc hbs hok hlen bodies.length 0 (by omega) g P C x;have hl:=@Vc Sh Post S F fs cap sched most c cs hS hmost most;unfold UT at hl;simp only [Try.f36,Option.getD_some,Code.nav] at hb hl;replace hb:=HD hb;replace hl:=HD hl;replace h:=HD h;have HH:=HD H;have HI:=HD hI;have HW:=HD (And.intro hw hr);clear hS hbs hok H hI hw hr;refine Xu Try.func36 (by rfl) (by rfl) ?_;simp only [Try.f36,Option.getD_some];walk_nrm
 repeat refine kx ?_
 refine JG.loop ?_;refine hb.out _ _ _ _ _ _ _ _ _ _ _ _ _ _ _ _ _ _ _ _ _ _ _ _ _ _ _ _ _ _ _ _ _ _ _ _ _ _ _ _ _ _ _ _ _ _ _ _ _ _ _ _ _ _ _ _ _ _ _ _ _ _ _ _ _ _ _ _ _ _ _ _ _ _ HH.out HI.out hn (by rw [List.drop_zero];exact hfine) ?_;intro g' C' z w2 w4 w5 w6 w7 w8 w9 w10 w11 w12 w13 w14 w15 w16 w17 w18 w19 w20 w21 w22 w23 w24 w25 w26 w27 w28 w29 w30 w31 w32 w33 w34 w35 w36 w37 w38 w39 w40 w41 w42 w43 w44 w45 w46 w47 w48 w49 w50 w51 w52 w53 w54 w55 w56 w57 w58 w59 w60 w61 w62 w63 w64 w65 w66 w67 w68 w69 w70 w71 w72 w73 w74 w75 w76 w77 w78 w79 H2 hI2;rw [List.drop_zero] at H2 hI2;obtain ⟨s1,s2,s3⟩:=Xp.start_st (bodies.map fun b=>b.prog) P
 repeat refine kx ?_
 refine JG.loop ?_;refine hl.out g' _ C' z _ _ _ _ _ _ _ _ _ _ _ _ _ _ _ _ _ _ _ _ _ _ _ _ _ _ _ _ _ _ _ _ _ _ _ _ _ _ _ _ _ _ _ _ _ _ _ _ _ _ _ _ _ _ _ _ _ _ _ _ _ _ _ _ _ _ _ _ _ _ _ _ _ _ _ _ _ H2 hI2 ?_ ?_ ?_ h.out
 ·rw [s2,HW.out.1];simp
 ·rw [s2,s3,HW.out.1,HW.out.2]
 ·rw [s1,List.length_map];omega
end
theorem JG.scope {P:Program} {Post:Value→World→Prop} {C:Ctx} {x:World} {b:Frame} {a:Act} {k:List Item} {cs:List Frame} {c:Code} (h:JG P Post C (G (b.at a (.code c::.inScope c::k)) cs) x):JG P Post C (G (b.at a (.code (.scope c)::k)) cs) x:=.ctl rfl (fun _ _=>by simp [G,stepG,stepG.exec,Frame.at]) h
theorem JG.inScope {P:Program} {Post:Value→World→Prop} {C:Ctx} {x:World} {b:Frame} {a:Act} {k:List Item} {cs:List Frame} {c:Code} (h:JG P Post C (G (b.at a k) cs) x):JG P Post C (G (b.at a (.inScope c::k)) cs) x:=.ctl rfl (fun _ _=>by simp [G,stepG,stepG.exec,Frame.at]) h
section
variable {Post:Value→World→Prop} {C:Ctx} {x:World} {c:Frame} {cs:List Frame} {l s:Nat} {v n k:Int}
theorem latchNew_J (hn:decide (n < 0)=false) (h:∀ y,Xg x y→Xr y x.heap.size n→y.cell? (th (x.heap.size + 1) 0)=some (P0 x.heap.size)→JG Try.prog Post C (G (c.finish (.tuple #[P0 (x.heap.size + 1),.int .i64 0])) cs) y) :
 JG Try.prog Post C (G (Frame.enter Try.prog 20 #[.int .i64 n] .normal) (c::cs)) x:=by
 refine Xu Try.func20 (by rfl) (by rfl) ?_;simp only [Try.f20,Option.getD_some];walk_nrm
 repeat refine kx ?_
 refine kf (args:=#[.int .i64 n]) Try.func9 ?_;refine cellNew_J fun y s1 fc hy=>?_;rw [Frame.finish_at];walk_nrm
 repeat refine kx ?_
 refine ko fun K E hK hE τ d=>?_;go_simp;refine hK _ _ (jt (x:=y.alloc (.cells #[P0 x.heap.size] 98)) ?_);simp only [Xs];clear hK hE K E τ d;have s2:=(Xg.refl y).alloc (.cells #[P0 x.heap.size] 98);have l0:(y.alloc (.cells #[P0 x.heap.size] 98)).cell? (th y.heap.size 0)=some (P0 x.heap.size):=Xa (heap_alloc_new y _) 0;have fc2:=s2.free fc;generalize y.alloc (.cells #[P0 x.heap.size] 98)=z at s2 l0 fc2 ⊢;rw [hy] at l0 ⊢
 repeat refine kx ?_
 refine JG.ret ?_;exact JG.leave rfl rfl Try.func20 (fun τ d=>results_tmp2 (t:=2) (u:=3) rfl _ _ _) (h z (s1.trans s2) fc2 l0)
theorem newLock_J (h:∀ y,Xg x y→Xr y x.heap.size 0→y.cell? (th (x.heap.size + 1) 0)=some (P0 x.heap.size)→JG Try.prog Post C (G (c.finish (P0 (x.heap.size + 1))) cs) y) :
 JG Try.prog Post C (G (Frame.enter Try.prog 8 #[] .normal) (c::cs)) x:=by
 refine Xu Try.func8 (by rfl) (by rfl) ?_;simp only [Try.f8,Option.getD_some];walk_nrm
 repeat refine kx ?_
 refine kf (args:=#[.int .i64 0]) Try.func9 ?_;refine cellNew_J fun y s1 fc hy=>?_;rw [Frame.finish_at];walk_nrm
 repeat refine kx ?_
 refine ko fun K E hK hE τ d=>?_;go_simp;refine hK _ _ (jt (x:=y.alloc (.cells #[P0 x.heap.size] 58)) ?_);simp only [Xs];clear hK hE K E τ d;have s2:=(Xg.refl y).alloc (.cells #[P0 x.heap.size] 58);have l0:(y.alloc (.cells #[P0 x.heap.size] 58)).cell? (th y.heap.size 0)=some (P0 x.heap.size):=Xa (heap_alloc_new y _) 0;have fc2:=s2.free fc;generalize y.alloc (.cells #[P0 x.heap.size] 58)=z at s2 l0 fc2 ⊢;rw [hy] at l0 ⊢
 repeat refine kx ?_
 refine JG.ret ?_;exact JG.leave rfl rfl Try.func8 (fun τ d=>results_tmp (t:=0) rfl _ _ _) (h z (s1.trans s2) fc2 l0)
theorem barrierNew_J (hn:decide (n < 1)=false) (h:∀ y,Xg x y→Xr y x.heap.size 0→Xr y (x.heap.size + 1) 0→y.heap[x.heap.size + 2]? = some (.cells #[.int .i64 n,P0 x.heap.size,P0 (x.heap.size + 1)] 96 (0,0))→JG Try.prog Post C (G (c.finish (.tuple #[P0 (x.heap.size + 2),.int .i64 0])) cs) y) :
 JG Try.prog Post C (G (Frame.enter Try.prog 17 #[.int .i64 n] .normal) (c::cs)) x:=by
 refine Xu Try.func17 (by rfl) (by rfl) ?_;simp only [Try.f17,Option.getD_some];walk_nrm
 repeat refine kx ?_
 refine kf (args:=#[.int .i64 0]) Try.func9 ?_;refine cellNew_J fun y s1 fc hy=>?_;rw [Frame.finish_at];walk_nrm
 repeat refine kx ?_
 refine kf (args:=#[.int .i64 0]) Try.func9 ?_;refine cellNew_J fun y1 s2 fd hy1=>?_;rw [Frame.finish_at];walk_nrm;have fc1:=s2.free fc;rw [hy] at fd hy1 ⊢
 repeat refine kx ?_
 refine ko fun K E hK hE τ d=>?_;go_simp;refine hK _ _ (jt (x:=y1.alloc (.cells #[.int .i64 n,P0 x.heap.size,P0 (x.heap.size + 1)] 96)) ?_);simp only [Xs];clear hK hE K E τ d;have s3:=(Xg.refl y1).alloc (.cells #[.int .i64 n,P0 x.heap.size,P0 (x.heap.size + 1)] 96);have l0:(y1.alloc (.cells #[.int .i64 n,P0 x.heap.size,P0 (x.heap.size + 1)] 96)).heap[y1.heap.size]? = some (.cells #[.int .i64 n,P0 x.heap.size,P0 (x.heap.size + 1)] 96 (0,0)):=heap_alloc_new y1 _;have fc2:=s3.free fc1;have fd2:=s3.free fd;generalize y1.alloc (.cells #[.int .i64 n,P0 x.heap.size,P0 (x.heap.size + 1)] 96)=z at s3 l0 fc2 fd2 ⊢;rw [hy1] at l0 ⊢
 repeat refine kx ?_
 refine JG.ret ?_;exact JG.leave rfl rfl Try.func17 (fun τ d=>results_tmp2 (t:=2) (u:=3) rfl _ _ _) (h z ((s1.trans s2).trans s3) fc2 fd2 l0)
