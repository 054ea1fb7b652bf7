/- GATE.RUN, WHOLE: any bodies, any picks: what comes back is the plain run. -/
import Derived.Test.YtdgfekplfipekaaVRoA
import Derived.Test.YtdgfekplfipekaaVGtI
import Derived.Carry
set_option linter.all false
set_option maxRecDepth 100000
set_option maxHeartbeats 16000000
namespace Go.Proofs.Ytdgfekplfipekaa
open Go.Conc Go.RowKit
open Go.ConcN (upd upd_same upd_ne)
set_option maxRecDepth 100000
section
variable {Post:Value→World→Prop} {C:Ctx} {x:World} {c:Frame} {cs:List Frame} {rb rp n fc:Nat} {fo:Option Addr} {e:Int} {vl:Value}
theorem Xc2 (hn:n < 100) (hf:∀ i,i < n→∃ gf,fo=some ⟨gf,0,none⟩∧x.cell? (th gf i)=some (.bool false)):∀ (k i:Nat),i + k=n→∀ (u2 u3 u7 u8 u9 B0 B1 B2 B3 B7 B8 B9 D0 D1 D2 D3 D4 D5 D6 D7 D8 D9 E0 E1 E2 E3 E4 E5 E6 E7 E8 E9 G0 G1 G2 G3 G4 G5 G6 G7:Value),
 (∀ (u2 u3 u7 u8 u9 B0 B1 B2 B3 B4 B5 B6 B7 B8 B9 D0 D1 D2 D3 D4 D5 D6 D7 D8 D9 E0 E1 E2 E3 E4 E5 E6 E7 E8 E9 G0 G1 G2 G3 G4 G5 G6 G7:Value),JG Try.prog Post C (G ((base 38).at ⟨List.toArray ((P0 rb)::(.int .i8 e)::u2::u3::(P0 rp)::(vl)::(.slice none 0 0)::u7::u8::u9::B0::B1::B2::B3::B4::B5::B6::B7::B8::B9::D0::D1::D2::D3::D4::D5::D6::D7::D8::D9::E0::E1::E2::E3::E4::E5::E6::E7::E8::E9::G0::G1::G2::G3::G4::G5::G6::G7::[]),[]⟩ [.code (Code.nav (Try.f38.body.getD .skip) [1,1,1,1])]) (c::cs)) x)→JG Try.prog Post C (G ((base 38).at ⟨List.toArray ((P0 rb)::(.int .i8 e)::u2::u3::(P0 rp)::(vl)::(.slice none 0 0)::u7::u8::u9::B0::B1::B2::B3::(.slice fo n fc)::(.int .i64 n)::(.int .i64 i)::B7::B8::B9::D0::D1::D2::D3::D4::D5::D6::D7::D8::D9::E0::E1::E2::E3::E4::E5::E6::E7::E8::E9::G0::G1::G2::G3::G4::G5::G6::G7::[]),[]⟩ [.code (Code.nav (Try.f38.body.getD .skip) [1,1,1,0,1,0,0]),.inLoop (Code.nav (Try.f38.body.getD .skip) [1,1,1,0,1,0,0]),.inBlock 0,.code (Code.nav (Try.f38.body.getD .skip) [1,1,1,1])]) (c::cs)) x:=by
 intro k
 induction k with
 | zero =>
  intro i hik u2 u3 u7 u8 u9 B0 B1 B2 B3 B7 B8 B9 D0 D1 D2 D3 D4 D5 D6 D7 D8 D9 E0 E1 E2 E3 E4 E5 E6 E7 E8 E9 G0 G1 G2 G3 G4 G5 G6 G7 h;simp only [Try.f38,Option.getD_some,Code.nav] at h ⊢;have hx:decide ((i:Int) < n)=false:=by simp;omega
  have hxN:decide (i < n)=false:=by simp;omega
  replace h:=HD h
  repeat refine kx ?_
  refine JG.exit (by rfl) ?_
  first|exact h.out _ _ _ _ _ _ _ _ _ _ _ _ _ _ _ _ _ _ _ _ _ _ _ _ _ _ _ _ _ _ _ _ _ _ _ _ _ _ _ _ _ _ _|(walk_nrm;exact h.out _ _ _ _ _ _ _ _ _ _ _ _ _ _ _ _ _ _ _ _ _ _ _ _ _ _ _ _ _ _ _ _ _ _ _ _ _ _ _ _ _ _ _)
 | succ k ih =>
  intro i hik u2 u3 u7 u8 u9 B0 B1 B2 B3 B7 B8 B9 D0 D1 D2 D3 D4 D5 D6 D7 D8 D9 E0 E1 E2 E3 E4 E5 E6 E7 E8 E9 G0 G1 G2 G3 G4 G5 G6 G7 h;simp only [Try.f38,Option.getD_some,Code.nav] at ih h ⊢;have hx:decide ((i:Int) < n)=true:=by simp;omega
  have hxN:decide (i < n)=true:=by simp;omega
  have hlt:i < n:=by omega
  have hlt':(i:Int) < n:=by omega
  have h0i:(0:Int)≤i:=by omega
  have hw:IntKind.i64.wrap ((i:Int) + 1)=((i + 1:Nat):Int):=by rw [IntKind.wrap_i64];omega
  obtain ⟨gf,hfo,hgi⟩:=hf i hlt;subst hfo;replace h:=HD h;replace ih:=HD ih
  repeat refine kx ?_
  refine JG.inLoop ?_;exact ih.out (i + 1) (by omega) _ _ _ _ _ _ _ _ _ _ _ _ _ _ _ _ _ _ _ _ _ _ _ _ _ _ _ _ _ _ _ _ _ _ _ _ _ _ _ _ h.out
end
section
variable {Sh:Type} {Post:Value→World→Prop} {S:Zv Sh} {F:Fix} {g:Gs} {P:Xp Sh} {C:Ctx} {x:World} {c:Frame} {cs:List Frame} {e:Int}
theorem XdP (H:Stood Post S F g P 0 none C x) (hI:S.I P.st.sh P.st.cells g.col x) (hn:P.n≤64) (hwl:P.st.went.length≤65536)
 (h:∀ (P':Xp Sh) (C':Ctx) (z:World) (vl:Value) (M:Nat),Qc Post S F g P' C' z→P'.n=P.n→P'.st=P.st→(∀ j,j < P.n→(P'.progs j).ended=true)→x.heap.size≤M→z.ownsRow M 89 8 vl P.left.length (P.left.flatMap Yj)→x.heap.size≤z.heap.size→(∀ q,q < x.heap.size→¬ g.col q→z.heap[q]? = x.heap[q]?) →
   JG Try.prog Post C' (G (c.finish (.agg #[.int .i8 e,.int .i64 P.st.went.length,g.vL,g.vW,g.vR,vl,.slice none 0 0])) cs) z) :
 JG Try.prog Post C (G (Frame.enter Try.prog 38 #[P0 F.rb,.int .i8 e] .normal) (c::cs)) x:=by
 have hfl:=@Xc2 Post;simp only [Try.f38,Option.getD_some,Code.nav] at hfl;have HH:=HD H;have HI:=HD hI;replace h:=HD h;clear H hI;refine Xu Try.func38 (by rfl) (by rfl) ?_;simp only [Try.f38,Option.getD_some];walk_nrm;refine JG.seq ?_;refine JG.code (XO _) (by kernel_rfl) rfl (.inr (by kernel_rfl)) rfl (fun K R hK hR τ=>?_);replace hK:=HD hK;clear hR
 go_wp2
 refine hK.out _ _ (jt (x:=x.alloc (.cells #[.int .i8 0,.int .i64 0,.slice none 0 0,.slice none 0 0,.slice none 0 0,.slice none 0 0,.slice none 0 0] 43)) ?_);simp only [Xs];clear hK K R τ;obtain ⟨w,hw⟩:∃ w,w=x.alloc (.cells #[.int .i8 0,.int .i64 0,.slice none 0 0,.slice none 0 0,.slice none 0 0,.slice none 0 0,.slice none 0 0] 43):=⟨_,rfl⟩
 rw [← hw];have wold:∀ r,r < x.heap.size→w.heap[r]? = x.heap[r]?:=fun r h=>by rw [hw,Xl,Array.getElem?_push,if_neg (by omega)]
 have wnew:w.heap[x.heap.size]? = some (.cells #[.int .i8 0,.int .i64 0,.slice none 0 0,.slice none 0 0,.slice none 0 0,.slice none 0 0,.slice none 0 0] 43):=by rw [hw,Xl,Array.getElem?_push,if_pos rfl]
 have wsz:w.heap.size=x.heap.size + 1:=by rw [hw];simp
 clear hw;have Hw:Stood Post S F g P 0 none C w:=HH.out.frame (fun r hr=>wold r (HH.out.gate.colLt hr)) (by omega) fun j a ha=>World.cell?_of_block (wold a.block (S.keepI HI.out j a ha).1);have hIw:S.I P.st.sh P.st.cells g.col w:=S.frame HI.out _ _ (by omega) (fun r hr _=>wold r hr) fun _ _ h=>h;replace Hw:=HD Hw;replace hIw:=HD hIw;replace wold:=HD wold
 repeat refine kx ?_
 refine kf (args:=#[P0 F.rb]) Try.func52 ?_;refine Xf2 Hw.out hIw.out hn (fun P' C' y vl HE n' s' en' hown hsz hold=>?_);rw [Frame.finish_at];walk_nrm;have hrpc:¬ g.col x.heap.size:=fun hc=>Nat.lt_irrefl _ (HH.out.gate.colLt hc);have ynew:=(hold x.heap.size (by omega) hrpc).trans wnew;have yold:∀ q,q < x.heap.size→¬ g.col q→y.heap[q]? = x.heap[q]?:=fun q hq hc=>(hold q (by omega) hc).trans (wold.out q hq);have yo:=HE.gate.obj;rw [HE.rb] at yo;have hfls:=HE.gate.fls;rw [HE.gate.num,n'] at hfls;obtain ⟨fo,fcap,evF⟩:=Xq hfls;have y5:y.cell? (th F.rb 5)=some (.slice fo P.n fcap):=by rw [Xa yo 5,← evF];rfl
 have hfg:∀ i,i < P.n→∃ gf,fo=some ⟨gf,0,none⟩∧y.cell? (th gf i)=some (.bool false):=fun i hi=>by
  obtain ⟨gf,cf,q1,q2⟩:=Qi hfls (by omega);rw [evF] at q1;injection q1 with q1 _ _
  exact ⟨gf,q1,q2 i _ (by rw [List.getElem?_replicate,if_pos hi])⟩
 have hsl:∃ aL cL aW cW aR cR al cl,g.vL=.slice aL P.st.log.length cL∧g.vW=.slice aW P.st.went.length cW∧g.vR=.slice aR P.st.ready.length cR∧vl=.slice al P.left.length cl:=by
  obtain ⟨aL,cL,q1⟩:=Xq HH.out.gate.lg;obtain ⟨aW,cW,q2⟩:=Xq HH.out.gate.wn;obtain ⟨aR,cR,q3⟩:=Xq HH.out.gate.rd;obtain ⟨al,cl,q4⟩:=Xq hown;exact ⟨aL,cL,aW,cW,aR,cR,al,cl,q1,q2,q3,q4⟩
 obtain ⟨aL,cL,aW,cW,aR,cR,al,cl,evL,evW,evR,evl⟩:=hsl;have y2:y.cell? (th F.rb 2)=some (.slice aL P.st.log.length cL):=by rw [Xa yo 2,← evL];rfl
 have y3:y.cell? (th F.rb 3)=some (.slice aW P.st.went.length cW):=by rw [Xa yo 3,← evW];rfl
 have y4:y.cell? (th F.rb 4)=some (.slice aR P.st.ready.length cR):=by rw [Xa yo 4,← evR];rfl
 replace h:=HD (fun (z:World)=>h.out P' C' z vl w.heap.size);rw [evL,evW,evR,evl] at h;subst evl;replace HE:=HD HE;replace hown:=HD hown;replace yold:=HD yold;replace en':=HD en';replace evL:=HD evL;replace evW:=HD evW;replace evR:=HD evR;clear hold yo hfls evF;have hrb0:F.rb < x.heap.size:=by rw [← HH.out.rb];exact (GE HH.out.gate.obj).1
 have hsz1:x.heap.size + 1≤y.heap.size:=by omega
 repeat refine kx ?_
 refine JG.loop ?_;refine hfl (n:=P.n) (fo:=fo) (fc:=fcap) (by omega) hfg P.n 0 (by omega) _ _ _ _ _ _ _ _ _ _ _ _ _ _ _ _ _ _ _ _ _ _ _ _ _ _ _ _ _ _ _ _ _ _ _ _ _ _ _ _ ?_;intro w2 w3 w7 w8 w9 w10 w11 w12 w13 w14 w15 w16 w17 w18 w19 w20 w21 w22 w23 w24 w25 w26 w27 w28 w29 w30 w31 w32 w33 w34 w35 w36 w37 w38 w39 w40 w41 w42 w43 w44 w45 w46 w47
 repeat refine kx ?_
 refine JG.code (XO _) (by kernel_rfl) rfl (.inr (by kernel_rfl)) rfl (fun K R hK hR τ=>?_);replace hK:=HD hK;clear hR;have z2:(under y τ 0).cell? (th F.rb 2)=some (.slice aL P.st.log.length cL):=y2;have z3:(under y τ 0).cell? (th F.rb 3)=some (.slice aW P.st.went.length cW):=y3;have z4:(under y τ 0).cell? (th F.rb 4)=some (.slice aR P.st.ready.length cR):=y4;have hbr:=WJ;have m0:(under y τ 0).cell? (th x.heap.size 0)=some (.int .i8 0):=Xa ynew 0;have n0:(under y τ 0).frozen? (th x.heap.size 0)=false:=Xe ynew 0;have m1:(under y τ 0).cell? (th x.heap.size 1)=some (.int .i64 0):=Xa ynew 1;have n1:(under y τ 0).frozen? (th x.heap.size 1)=false:=Xe ynew 1;have m2:(under y τ 0).cell? (th x.heap.size 2)=some (.slice none 0 0):=Xa ynew 2;have n2:(under y τ 0).frozen? (th x.heap.size 2)=false:=Xe ynew 2;have m3:(under y τ 0).cell? (th x.heap.size 3)=some (.slice none 0 0):=Xa ynew 3;have n3:(under y τ 0).frozen? (th x.heap.size 3)=false:=Xe ynew 3;have m4:(under y τ 0).cell? (th x.heap.size 4)=some (.slice none 0 0):=Xa ynew 4;have n4:(under y τ 0).frozen? (th x.heap.size 4)=false:=Xe ynew 4;have m5:(under y τ 0).cell? (th x.heap.size 5)=some (.slice none 0 0):=Xa ynew 5;have n5:(under y τ 0).frozen? (th x.heap.size 5)=false:=Xe ynew 5;have m6:(under y τ 0).cell? (th x.heap.size 6)=some (.slice none 0 0):=Xa ynew 6;have n6:(under y τ 0).frozen? (th x.heap.size 6)=false:=Xe ynew 6;have hrb:F.rb < (under y τ 0).heap.size:=Xt z2;have zn:=ynew;rw [← Vd y τ 0] at zn;obtain ⟨z,hz⟩:∃ z,z=under y τ 0:=⟨_,rfl⟩
 have zh:z.heap=y.heap:=by rw [hz];rfl
 rw [← hz] at zn z2 z3 z4 hrb m0 n0 m1 n1 m2 n2 m3 n3 m4 n4 m5 n5 m6 n6 ⊢;have zs:x.heap.size < z.heap.size:=by rw [zh];omega
 replace zh:=HD zh;replace zn:=HD zn;clear hz y2 y3 y4 y5 hfg;generalize hrp:x.heap.size=rp at m0 n0 m1 n1 m2 n2 m3 n3 m4 n4 m5 n5 m6 n6 zn zs hrb0 hsz1 ⊢
 go_region
 all_goals (
  refine hK.out _ _ ?_;clear hK K R;subst hrp;obtain ⟨u,hu⟩:∃ u,u=(((((((z.setCell (th x.heap.size 0) (.int .i8 e)).setCell (th x.heap.size 1) (.int .i64 P.st.went.length)).setCell (th x.heap.size 2) (.slice aL P.st.log.length cL)).setCell (th x.heap.size 3) (.slice aW P.st.went.length cW)).setCell (th x.heap.size 4) (.slice aR P.st.ready.length cR)).setCell (th x.heap.size 5) (.slice al P.left.length cl)).setCell (th x.heap.size 6) (.slice none 0 0)).drew:=⟨_,rfl⟩
  rw [← hu];have uo:∀ r,r≠x.heap.size→u.heap[r]? = y.heap[r]?:=fun r hne=>by
   rw [hu,XI,Xb hne,Xb hne,Xb hne,Xb hne,Xb hne,Xb hne,Xb hne,zh.out]
  have us:u.heap.size=y.heap.size:=by rw [hu,XI,Xh,Xh,Xh,Xh,Xh,Xh,Xh,zh.out]
  have un:u.heap[x.heap.size]? = some (.cells #[.int .i8 e,.int .i64 P.st.went.length,.slice aL P.st.log.length cL,.slice aW P.st.went.length cW,.slice aR P.st.ready.length cR,.slice al P.left.length cl,.slice none 0 0] 43 (0,0)):=by
   rw [hu,XI];exact Xd (Xd (Xd (Xd (Xd (Xd (Xd zn.out))))))
  clear hu
  repeat refine kx ?_
  refine JG.ret ?_;refine JG.leave rfl rfl Try.func38 (fun τ d=>results_cell_row (p:=4) rfl _ _ x.heap.size _ _ _ _ rfl un Try.underlying43 rfl (by kernel_rfl)) (h.out u (HE.out.frame (fun r hr=>uo r fun e=>hrpc (e ▸ hr)) (by omega)) n' s' en'.out (by omega) (Xj hown.out fun b hb=>uo b fun e=>?_) (by omega) fun q hq hc=>(uo q (by omega)).trans (yold.out q hq hc))
  have:=XE hown.out hb
  omega)
end
namespace Xp
variable {Sh:Type}
def init (sh:Sh) (cells:Nat→Int):Xp Sh:=⟨0,fun _=>.ret (),⟨sh,cells,[],[],[],[]⟩⟩
theorem turn_st (P:Xp Sh) (q:Nat):(P.turn q).n=P.n∧(P.turn q).st.went=P.st.went ++ [q]∧(P.turn q).st.ready=P.st.ready ++ [P.able.length]:=by
 obtain ⟨n1,n2,n3⟩:=Xex (P:={ P with st:={ P.st with went:=P.st.went ++ [q],ready:=P.st.ready ++ [P.able.length] } }) q;exact ⟨n1,n2,n3⟩
theorem runs_st (sched:List Nat→List Nat→Nat):∀ (m:Nat) (P:Xp Sh),(P.runs sched m).2.n=P.n∧(P.runs sched m).2.st.went.length≤P.st.went.length + m
 | m,P=>by
  by_cases h1:P.over=true
  ·rw [runs_over h1];exact ⟨rfl,by simp⟩
  ·replace h1:P.over=false:=by simpa using h1
   by_cases h2:P.able = []
   ·rw [runs_dead h1 h2];exact ⟨rfl,by simp⟩
   ·match m with
    | 0=>rw [runs_cut h1 h2];exact ⟨rfl,by simp⟩
    | m + 1 =>
     rw [runs_turn h1 h2];obtain ⟨e1,e2⟩:=runs_st sched m (P.turn (sched P.st.went P.able));obtain ⟨n1,n2,_⟩:=P.turn_st (sched P.st.went P.able);rw [n2,List.length_append,List.length_singleton] at e2;exact ⟨e1.trans n1,by omega⟩
end Xp
abbrev Xab:Value:=.slice none 0 0
theorem run_RO {Sh:Type} {Post:Value→World→Prop} {C:Ctx} {x:World} {c:Frame} {cs:List Frame} {S:Zv Sh} {Kp:Nat→Prop} {picks:List Int} {most:Int} {m:Nat} {bodies:List (Xa8 Sh)} {ab po:Option Addr} {bc pc:Nat} {sh:Sh} {cells:Nat→Int}
 (hm:(if 65536 < if most < 0 then 0 else most then 65536 else if most < 0 then 0 else most)=(m:Int)) (hd:C.d=0) (hh:C.h < C.n) (hlo:C.lo≤x.heap.size) (hnone:∀ i,i≠C.h→C.Ch i=none)
 (hpo:picks≠[]→∃ gp og,po=some ⟨gp,og,none⟩∧Kp gp∧∀ (j:Nat) (q:Int),picks[j]? = some q→x.cell? ⟨gp,og + j,none⟩=some (.int .i64 q))
 (hbs:∀ (j:Nat) (b:Xa8 Sh),bodies[j]? = some b→∃ bb,ab=some ⟨bb,0,none⟩∧Kp bb∧x.cell? (th bb j)=some (.func (.func b.fb) #[] b.cap)) (hlen:bodies.length≤64) (hKp:∀ r,Kp r→r < x.heap.size)
 (hok:∀ (j:Nat) (b:Xa8 Sh),bodies[j]? = some b→Vu Post S j m b.fb b.cap b.prog) (hI:S.I sh cells Kp x) (hfine:∀ l1 l2,bodies.map (fun b=>b.prog)=l1 ++ l2→S.fin.f m ((Xp.init sh cells).start l1))
 (h:∀ (Q:Xp Sh) (e:Int) (C':Ctx) (z:World) (M:Nat) (vL vW vR vl:Value),((Xp.init sh cells).start (bodies.map fun b=>b.prog)).runs (picked picks) m=(e,Q)→C'.d=0→C'.h=C.h→C'.n=C.n + bodies.length→C'.lo=C.lo→C'.io=C.io→(∀ i,i≠C.h→C'.Ch i=none) →
   (∀ r,Kp r→z.heap[r]? = x.heap[r]?)→x.heap.size≤z.heap.size→x.heap.size≤M→z.ownsRow M 89 8 vL Q.st.log.length (Q.st.log.flatMap Yj)→z.ownsRow M 3 1 vW Q.st.went.length (Q.st.went.map fun i=>.int .i64 (i:Nat))→z.ownsRow M 3 1 vR Q.st.ready.length (Q.st.ready.map fun i=>.int .i64 (i:Nat))→z.ownsRow M 89 8 vl Q.left.length (Q.left.flatMap Yj) →
   S.I Q.st.sh Q.st.cells Kp z→Q.n=bodies.length→(∀ j,j < Q.n→(∃ r k,Q.progs j=.acc r k)∨(∃ v,Q.progs j=.ret v))→(∀ q∈Q.st.names,q < S.nc)→JG Try.prog Post C' (G (c.finish (.agg #[.int .i8 e,.int .i64 Q.st.went.length,vL,vW,vR,vl,.slice none 0 0])) cs) z) :
 JG Try.prog Post C (G (Frame.enter Try.prog 16 #[.slice po picks.length pc,.int .i64 most,.slice ab bodies.length bc] .normal) (c::cs)) x:=by
 have d64:decide (64 < bodies.length)=false:=by simp;omega
 have d64i:decide ((64:Int) < bodies.length)=false:=by simp;omega
 replace hpo:=HD hpo;replace hbs:=HD hbs;replace hKp:=HD hKp;replace hok:=HD hok;replace hfine:=HD hfine;replace hI:=HD hI;replace h:=HD h;replace hnone:=HD hnone;replace hd:=HD hd;replace hm:=HD hm;refine Xu Try.func16 (by rfl) (by rfl) ?_;simp only [Try.f16,Option.getD_some];walk_nrm;refine JG.seq ?_;refine JG.code (XO _) (by kernel_rfl) rfl (.inr (by kernel_rfl)) rfl (fun K R hK hR τ=>?_);replace hK:=HD hK;clear hR
 go_wp2
 refine hK.out _ _ (jt (x:=(x.alloc (.cells #[.slice po picks.length pc] 22)).alloc (.cells #[.int .i8 0,.int .i64 0,.slice none 0 0,.slice none 0 0,.slice none 0 0,.slice none 0 0,.slice none 0 0] 43)) ?_);simp only [Xs];clear hK K R τ;obtain ⟨w,hw⟩:∃ w,w=(x.alloc (.cells #[.slice po picks.length pc] 22)).alloc (.cells #[.int .i8 0,.int .i64 0,.slice none 0 0,.slice none 0 0,.slice none 0 0,.slice none 0 0,.slice none 0 0] 43):=⟨_,rfl⟩
 rw [← hw];have ws:w.heap.size=x.heap.size + 2:=by rw [hw];simp
 have wn:w.heap[x.heap.size + 1]? = some (.cells #[.int .i8 0,.int .i64 0,.slice none 0 0,.slice none 0 0,.slice none 0 0,.slice none 0 0,.slice none 0 0] 43 (0,0)):=by
  rw [hw,Xl,Xl,Array.getElem?_push,Array.size_push,if_pos rfl]
 have wpk:w.heap[x.heap.size]? = some (.cells #[.slice po picks.length pc] 22 (0,0)):=by
  rw [hw,Xl,Xl,Array.getElem?_push,Array.size_push,if_neg (by omega),Array.getElem?_push,if_pos rfl]
 have wo:∀ r,r < x.heap.size→w.heap[r]? = x.heap[r]?:=fun r h=>by
  rw [hw,Xl,Xl,Array.getElem?_push,Array.size_push,if_neg (by omega),Array.getElem?_push,if_neg (by omega)]
 clear hw;generalize hrp:x.heap.size + 1=rp at wn ⊢;refine JG.seq ?_;refine JG.seq ?_;refine JG.code (XO _) (by kernel_rfl) rfl (.inr (by kernel_rfl)) rfl (fun K R hK hR τ=>?_);replace hK:=HD hK;clear hR
 go_wp2
 refine hK.out _ _ (jt (x:=w) (τ:=τ) (d:=0) ?_);clear hK K R τ;refine JG.condF rfl ?_;refine JG.skip ?_;refine JG.seq ?_;refine JG.code (XO _) (by kernel_rfl) rfl (.inr (by kernel_rfl)) rfl (fun K R hK hR τ=>?_);replace hK:=HD hK;clear hR;have hmm:=fun w=>run_makeMap (P:=Try.prog) 81 w
 go_wp2
 refine hK.out _ _ (jt (x:=((w.alloc (.map #[] 0)).alloc (.cells (XH Xab (.map (some w.heap.size)) Xab Xab Xab Xab false) 85)).alloc (.cells #[P0 (w.heap.size + 1)] 80)) ?_);simp only [Xs];clear hK K R τ hmm;obtain ⟨y,hy⟩:∃ y,y=((w.alloc (.map #[] 0)).alloc (.cells (XH Xab (.map (some w.heap.size)) Xab Xab Xab Xab false) 85)).alloc (.cells #[P0 (w.heap.size + 1)] 80):=⟨_,rfl⟩
 rw [← hy];have ys:y.heap.size=w.heap.size + 3:=by rw [hy];simp
 have ymp:y.heap[w.heap.size]? = some (.map #[] 0):=by
  rw [hy,Xl,Xl,Xl,Array.getElem?_push,Array.size_push,Array.size_push,if_neg (by omega),Array.getElem?_push,Array.size_push,if_neg (by omega),Array.getElem?_push,if_pos rfl]
 have yr:y.heap[w.heap.size + 1]? = some (.cells (XH Xab (.map (some w.heap.size)) Xab Xab Xab Xab false) 85 (0,0)):=by
  rw [hy,Xl,Xl,Xl,Array.getElem?_push,Array.size_push,Array.size_push,if_neg (by omega),Array.getElem?_push,Array.size_push,if_pos rfl]
 have yp':y.heap[w.heap.size + 1 + 1]? = some (.cells #[P0 (w.heap.size + 1)] 80 (0,0)):=by
  rw [hy,Xl,Xl,Xl,Array.getElem?_push,Array.size_push,Array.size_push,if_pos rfl]
 have yo:∀ r,r < w.heap.size→y.heap[r]? = w.heap[r]?:=fun r h=>by
  rw [hy,Xl,Xl,Xl,Array.getElem?_push,Array.size_push,Array.size_push,if_neg (by omega),Array.getElem?_push,Array.size_push,if_neg (by omega),Array.getElem?_push,if_neg (by omega)]
 have yp:y.cell? (th (w.heap.size + 1 + 1) 0)=some (P0 (w.heap.size + 1)):=by rw [Xa yp'];rfl
 clear hy;generalize hmb:w.heap.size=mb at ymp yr yp yp' yo ys ⊢;generalize hpv:mb + 1 + 1=pv at yp yp' ⊢;generalize hrb:mb + 1=rb at yr yp yp' ⊢;have yx:∀ r,r < x.heap.size→y.heap[r]? = x.heap[r]?:=fun r h=>(yo r (by omega)).trans (wo r h)
 repeat refine kx ?_
 refine kf (args:=#[P0 rb,.int .i64 (if 65536 < if most < 0 then 0 else most then 65536 else if most < 0 then 0 else most),.slice ab bodies.length bc,.func (.func 37) #[] #[P0 x.heap.size,P0 pv]]) Try.func36 ?_;rw [hm.out];obtain ⟨F,hF⟩:∃ F:Fix,F = { rb:=rb,mb:=mb,N:=x.heap.size,kept:=fun r=>Kp r∨r=x.heap.size∨r=rp∨r=pv,x0:=y,n0:=C.n,hm:=C.h,lo:=C.lo,io:=C.io }:=⟨_,rfl⟩
 have Frb:F.rb=rb:=by rw [hF]
 have FN:F.N=x.heap.size:=by rw [hF]
 have Fk:∀ r,F.kept r ↔ (Kp r∨r=x.heap.size∨r=rp∨r=pv):=fun r=>by rw [hF]
 have Fx:F.x0=y:=by rw [hF]
 have Fn:F.n0=C.n:=by rw [hF]
 have Fh:F.hm=C.h:=by rw [hF]
 have Flo:F.lo=C.lo:=by rw [hF]
 have Fio:F.io=C.io:=by rw [hF]
 obtain ⟨g0,hg0⟩:∃ g0:Gs,g0 = { rb:=rb,mb:=mb,N:=x.heap.size,vT:=.slice none 0 0,vL:=.slice none 0 0,vW:=.slice none 0 0,vR:=.slice none 0 0,vF:=.slice none 0 0,thr:=[],kept:=F.kept,x0:=y,A:=S.A,pv:=fun _ _=>False }:=⟨_,rfl⟩
 have hkept:∀ r,F.kept r→r < y.heap.size∧r≠rb∧r≠mb:=fun r hr=>by
  rcases (Fk r).1 hr with h|h|h|h
  ·have:=hKp.out r h;omega
  ·omega
  ·omega
  ·omega
 have hG:Xy g0 (Xp.init sh cells) none false y:=by
  rw [hg0];exact ⟨yr,X7,X7,X7,X7,X7,⟨#[],0,ymp,rfl⟩,rfl,fun i t e=>by simp at e,fun r hr=>⟨(hkept r hr).1,rfl⟩,by show x.heap.size≤_;omega,fun t ht=>by simp at ht⟩
 have hap:g0.Apart:=by
  rw [hg0];refine ⟨fun b e=>by simp [Value.ownBlock] at e,fun t ht=>by simp at ht,fun t ht=>by simp at ht,fun i j t u e=>by simp at e,fun i j t u e=>by simp at e,fun i j t u e=>by simp at e,fun i j t u e=>by simp at e,fun r hr=>?_⟩;obtain ⟨_,k1,k2⟩:=hkept r hr;exact ⟨k1,k2,by simp [Value.ownBlock],by simp [Value.ownBlock],by simp [Value.ownBlock],by simp [Value.ownBlock],by simp [Value.ownBlock],fun t ht=>by simp at ht⟩
 have hSt:Stood Post S F g0 (Xp.init sh cells) m none C y:=by
  have hm65:m≤65536:=by
   have:=hm.out
   have h2:(m:Int)≤65536:=by rw [← this];split<;>omega
   omega
  refine ⟨hG,hap,by rw [hg0,hF],by rw [hg0,hF],by rw [hg0,hF],by rw [hg0];exact fun _ h=>h,by rw [hg0,hF];exact fun _ _=>rfl,by rw [hg0],fun c hc=>by simp [Xp.init] at hc,by simpa [Xp.init] using hm65,hd.out,by rw [Fn];rfl,by rw [Fh,Fn];exact hh,Flo.symm,by rw [Flo,FN];exact hlo,Fio.symm,Fh.symm,fun j hj=>by simp [Xp.init] at hj,⟨fun i s h1 h2=>?_,fun j t r k e=>by rw [hg0] at e;simp at e⟩,fun _=>hfine.out [] _ rfl,by rw [hg0];exact ⟨fun _ _ h=>h.elim,fun _ _ _ _ h=>h.elim,fun _ _ h=>h.elim,fun _ _ h=>h.elim⟩,fun j hj=>by simp [Xp.init] at hj⟩;rw [hnone.out i (by rw [← Fh];exact h1)] at h2;cases h2
 have hI0:S.I sh cells g0.col y:=S.frame hI.out _ _ (by omega) (fun r hr _=>yx r hr) (fun r hr hc=>by
  rw [hg0] at hc;simp only [Gs.col,Value.ownBlock] at hc;rcases hc with h|h|h|h|h|h|h|h|⟨t,ht,_⟩
  ·rcases (Fk r).1 h with h|h|h|h
   ·exact h
   ·omega
   ·omega
   ·omega
  ·omega
  ·omega
  ·cases h
  ·cases h
  ·cases h
  ·cases h
  ·cases h
  ·simp at ht)
 have hS:UW Post S F 37 #[P0 x.heap.size,P0 pv] (picked picks):=by
  refine Xcm ((Fk _).2 (.inr (.inl rfl))) ((Fk _).2 (.inr (.inr (.inr rfl)))) (po:=po) (pc:=pc) ?_ ?_ ?_
  ·rw [Fx];exact (Xa ((yo _ (by omega)).trans wpk) 0).trans rfl
  ·rw [Fx,Frb];exact yp
  ·intro hne
   obtain ⟨gp,og,q1,q2,q3⟩:=hpo.out hne;refine ⟨gp,og,q1,(Fk _).2 (.inl q2),fun j q hq=>?_⟩
   have:=q3 j q hq
   rw [Fx];simp only [World.cell?] at this ⊢;rw [yx gp (hKp.out gp q2)];exact this
 have hbs':∀ (j:Nat) (b:Xa8 Sh),bodies[j]? = some b→∃ bb,ab=some ⟨bb,0,none⟩∧F.kept bb∧F.x0.cell? (th bb j)=some (.func (.func b.fb) #[] b.cap):=fun j b e=>by
  obtain ⟨bb,q1,q2,q3⟩:=hbs.out j b e;refine ⟨bb,q1,(Fk _).2 (.inl q2),?_⟩;rw [Fx];simp only [World.cell?] at q3 ⊢;rw [yx bb (hKp.out bb q2)];exact q3
 have hm65:m≤65536:=by
  have:=hm.out
  have h2:(m:Int)≤65536:=by rw [← this];split<;>omega
  omega
 rw [← Frb];refine XeL hS hm65 hbs' hok.out hlen hSt hI0 rfl rfl rfl hfine.out (fun g' C' z H2 hI2=>?_);rw [Frame.finish_at];walk_nrm;obtain ⟨Q,hQ⟩:∃ Q,Q=(((Xp.init sh cells).start (bodies.map fun b=>b.prog)).runs (picked picks) m).2:=⟨_,rfl⟩
 obtain ⟨e,he⟩:∃ e,e=(((Xp.init sh cells).start (bodies.map fun b=>b.prog)).runs (picked picks) m).1:=⟨_,rfl⟩
 have hQe:((Xp.init sh cells).start (bodies.map fun b=>b.prog)).runs (picked picks) m=(e,Q):=by rw [he,hQ]
 obtain ⟨st1,st2,st3⟩:=Xp.start_st (bodies.map fun b=>b.prog) (Xp.init sh cells);obtain ⟨rs1,rs2⟩:=Xp.runs_st (picked picks) m ((Xp.init sh cells).start (bodies.map fun b=>b.prog));rw [← hQ] at H2 hI2 rs1 rs2;rw [← he];rw [st1,List.length_map] at rs1;rw [st2] at rs2;have hQn:Q.n=bodies.length:=by rw [rs1];simp [Xp.init]
 have hQw:Q.st.went.length≤65536:=by have:(Xp.init sh cells).st.went.length=0:=rfl;omega
 replace h:=HD (h.out Q e);clear hS hbs' hI0 hSt hG hap hQ he st1 st2 st3 rs1 rs2;have zp:z.cell? (th pv 0)=some (P0 F.rb):=by rw [H2.keptCell ((Fk _).2 (.inr (.inr (.inr rfl)))),Fx,yp,Frb]
 have HH:=HD H2;have HI:=HD hI2;clear H2 hI2
 repeat refine kx ?_
 refine kf (args:=#[P0 F.rb,.int .i8 e]) Try.func38 ?_;refine XdP HH.out HI.out (by omega) hQw (fun P' C2 u vl M HE n' s' en' hzM hown hsz hold=>?_);rw [Frame.finish_at];walk_nrm;have hrpk:g'.kept rp:=HH.out.kept _ ((Fk _).2 (.inr (.inr (.inl rfl))));have un:u.heap[rp]? = some (.cells #[.int .i8 0,.int .i64 0,.slice none 0 0,.slice none 0 0,.slice none 0 0,.slice none 0 0,.slice none 0 0] 43 (0,0)):=by
  rw [(HE.gate.kept rp hrpk).2,HE.x0 rp ((Fk _).2 (.inr (.inr (.inl rfl)))),Fx,yo rp (by omega)];exact wn
 have hlg:=HE.gate.lg;have hwn:=HE.gate.wn;have hrd:=HE.gate.rd;rw [s',HE.N,FN] at hlg hwn hrd;have hxz:x.heap.size≤z.heap.size:=by have:=HH.out.gate.low;rw [HH.out.N,FN] at this;exact this
 have hkz:∀ r,Kp r→u.heap[r]? = x.heap[r]?:=fun r hr=>by
  rw [(HE.gate.kept r (HE.kept r ((Fk _).2 (.inl hr)))).2,HE.x0 r ((Fk _).2 (.inl hr)),Fx];exact yx r (hKp.out r hr)
 obtain ⟨aL,cL,evL⟩:=Xq hlg;obtain ⟨aW,cW,evW⟩:=Xq hwn;obtain ⟨aR,cR,evR⟩:=Xq hrd;obtain ⟨al,cl,evl⟩:=Xq hown;have hrpz:rp < z.heap.size:=by rw [← hrp];exact HH.out.gate.colLt (.inl (hrp ▸ hrpk))
 have hch:∀ i,i≠C.h→C2.Ch i=none:=fun i hi=>by
  cases hc:C2.Ch i with
  | none=>rfl
  | some s =>
   obtain ⟨j,t,q1,q2,q3,q4⟩:=HE.chairs.oth i s (by rw [Fh];exact hi) hc (fun j q=>by cases q);rw [en' j (by have:=(LE' q2).1;rw [HE.gate.num,n'] at this;exact this)] at q4;cases q4
 have c2d:=HE.d;have c2h:C2.h=C.h:=HE.holds.trans Fh;have c2n:C2.n=C.n + bodies.length:=by rw [HE.n,Fn,n',hQn]
 have c2lo:C2.lo=C.lo:=HE.lo.trans Flo;have c2io:C2.io=C.io:=HE.io.trans Fio;have hIu:∀ v:World,v.heap.size=u.heap.size→(∀ r,r≠rp→v.heap[r]? = u.heap[r]?)→S.I Q.st.sh Q.st.cells Kp v:=fun v hs ho=>S.frame HI.out _ _ (by omega) (fun r hr hc=>by
  rw [ho r (fun e=>hc (.inl (e ▸ hrpk))),hold r hr hc]) fun r hr hk=>.inl (HH.out.kept _ ((Fk _).2 (.inl hk)))
 rw [evL] at hlg ⊢;rw [evW] at hwn ⊢;rw [evR] at hrd ⊢;rw [evl] at hown ⊢;have m0:u.cell? (th rp 0)=some (.int .i8 0):=Xa un 0;have n0:u.frozen? (th rp 0)=false:=Xe un 0;have m1:u.cell? (th rp 1)=some (.int .i64 0):=Xa un 1;have n1:u.frozen? (th rp 1)=false:=Xe un 1;have m2:u.cell? (th rp 2)=some (.slice none 0 0):=Xa un 2;have n2:u.frozen? (th rp 2)=false:=Xe un 2;have m3:u.cell? (th rp 3)=some (.slice none 0 0):=Xa un 3;have n3:u.frozen? (th rp 3)=false:=Xe un 3;have m4:u.cell? (th rp 4)=some (.slice none 0 0):=Xa un 4;have n4:u.frozen? (th rp 4)=false:=Xe un 4;have m5:u.cell? (th rp 5)=some (.slice none 0 0):=Xa un 5;have n5:u.frozen? (th rp 5)=false:=Xe un 5;have m6:u.cell? (th rp 6)=some (.slice none 0 0):=Xa un 6;have n6:u.frozen? (th rp 6)=false:=Xe un 6;replace hlg:=HD hlg;replace hwn:=HD hwn;replace hrd:=HD hrd;replace hown:=HD hown;replace hIu:=HD hIu;replace hkz:=HD hkz;replace hch:=HD hch;replace hold:=HD hold;replace HE:=HD HE;clear evL evW evR evl;refine ko fun K E hK hE τ d=>?_;have m0':=(Xk u τ d _).trans m0;have n0':=(Xf u τ d _).trans n0;have m1':=(Xk u τ d _).trans m1;have n1':=(Xf u τ d _).trans n1;have m2':=(Xk u τ d _).trans m2;have n2':=(Xf u τ d _).trans n2;have m3':=(Xk u τ d _).trans m3;have n3':=(Xf u τ d _).trans n3;have m4':=(Xk u τ d _).trans m4;have n4':=(Xf u τ d _).trans n4;have m5':=(Xk u τ d _).trans m5;have n5':=(Xf u τ d _).trans n5;have m6':=(Xk u τ d _).trans m6;have n6':=(Xf u τ d _).trans n6;go_simp;refine hK _ _ ?_;rw [Xc,Xc,Xc,Xc,Xc,Xc,Xc];refine jt ?_;clear m0 n0 m0' n0' m1 n1 m1' n1' m2 n2 m2' n2' m3 n3 m3' n3' m4 n4 m4' n4' m5 n5 m5' n5' m6 n6 m6' n6' hK hE K E τ d;obtain ⟨v,hv⟩:∃ v,v=(((((((u.setCell (th rp 0) (.int .i8 e)).setCell (th rp 1) (.int .i64 Q.st.went.length)).setCell (th rp 2) (.slice aL Q.st.log.length cL)).setCell (th rp 3) (.slice aW Q.st.went.length cW)).setCell (th rp 4) (.slice aR Q.st.ready.length cR)).setCell (th rp 5) (.slice al Q.left.length cl)).setCell (th rp 6) (.slice none 0 0)):=⟨_,rfl⟩
 rw [← hv]
 try walk_nrm
 have hsv:v.heap.size=u.heap.size:=by rw [hv,Xh,Xh,Xh,Xh,Xh,Xh,Xh]
 have hvo:∀ r,r≠rp→v.heap[r]? = u.heap[r]?:=fun r h=>by
  rw [hv,Xb h,Xb h,Xb h,Xb h,Xb h,Xb h,Xb h]
 have hvn:v.heap[rp]? = some (.cells #[.int .i8 e,.int .i64 Q.st.went.length,.slice aL Q.st.log.length cL,.slice aW Q.st.went.length cW,.slice aR Q.st.ready.length cR,.slice al Q.left.length cl,.slice none 0 0] 43 (0,0)):=by
  rw [hv];exact Xd (Xd (Xd (Xd (Xd (Xd (Xd un))))))
 clear hv;replace hvo:=HD hvo
 repeat refine kx ?_
 refine JG.ret ?_;refine JG.leave rfl rfl Try.func16 (fun τ d=>results_cell_row (p:=6) rfl _ _ rp _ _ _ _ rfl hvn Try.underlying43 rfl (by kernel_rfl)) (h.out C2 v x.heap.size _ _ _ _ hQe c2d c2h c2n c2lo c2io hch.out (fun r hr=>?_) (by omega) (Nat.le_refl _) ?_ ?_ ?_ ?_ (hIu.out v hsv hvo.out) hQn (fun j hj=>HH.out.live j hj (by simp)) HH.out.names)
 ·rw [hvo.out r (by have:=hKp.out r hr;omega)];exact hkz.out r hr
 ·exact Xj hlg.out fun b hb=>hvo.out b fun e=>Zp hlg.out (fun cur=>by rw [un];simp) (by rw [← e];exact hb)
 ·exact Xj hwn.out fun b hb=>hvo.out b fun e=>Zp hwn.out (fun cur=>by rw [un];simp) (by rw [← e];exact hb)
 ·exact Xj hrd.out fun b hb=>hvo.out b fun e=>Zp hrd.out (fun cur=>by rw [un];simp) (by rw [← e];exact hb)
 ·have hw:=Xj (w':=v) hown.out fun b hb=>hvo.out b fun e=>Zp hown.out (fun cur=>by rw [un];simp) (by rw [← e];exact hb)
  exact ⟨hw.1,hw.2.imp id fun ⟨g,cap,cur,q1,q2,q3⟩=>⟨g,cap,cur,q1,by omega,q3⟩⟩
