/- A run that has ended is told: gate's report, whole. -/
import Derived.Test.YtdgfekplfipekaaPRoA
import Derived.Test.YtdgfekplfipekaaPGtI
set_option linter.all false
set_option maxRecDepth 100000
set_option maxHeartbeats 16000000
namespace Go.Proofs.Ytdgfekplfipekaa
open Go.Conc Go.RowKit
open Go.ConcN (upd upd_same upd_ne)
section
variable {Post:Value→World→Prop} {C:Ctx} {x:World} {c:Frame} {cs:List Frame} {rb rp n fc:Nat} {fo:Option Addr} {e:Int} {vl:Value}
theorem Xc2 (hn:n < 100) (hf:∀ i,i < n→∃ gf,fo=some ⟨gf,0,none⟩∧x.cell? (th gf i)=some (.bool false)):∀ (k i:Nat),i + k=n→∀ (u2 u3 u7 u8 u9 B0 B1 B2 B3 B7 B8 B9 D0 D1 D2 D3 D4 D5 D6 D7 D8 D9 E0 E1 E2 E3 E4 E5 E6 E7 E8 E9 G0 G1 G2 G3 G4 G5 G6 G7:Value),
 (∀ (u2 u3 u7 u8 u9 B0 B1 B2 B3 B4 B5 B6 B7 B8 B9 D0 D1 D2 D3 D4 D5 D6 D7 D8 D9 E0 E1 E2 E3 E4 E5 E6 E7 E8 E9 G0 G1 G2 G3 G4 G5 G6 G7:Value),JG Try.prog Post C (G ((base 38).at ⟨List.toArray ((P0 rb)::(.int .i8 e)::u2::u3::(P0 rp)::(vl)::(.slice none 0 0)::u7::u8::u9::B0::B1::B2::B3::B4::B5::B6::B7::B8::B9::D0::D1::D2::D3::D4::D5::D6::D7::D8::D9::E0::E1::E2::E3::E4::E5::E6::E7::E8::E9::G0::G1::G2::G3::G4::G5::G6::G7::[]),[]⟩ [.code (Code.nav (Try.f38.body.getD .skip) [1,1,1,1])]) (c::cs)) x)→JG Try.prog Post C (G ((base 38).at ⟨List.toArray ((P0 rb)::(.int .i8 e)::u2::u3::(P0 rp)::(vl)::(.slice none 0 0)::u7::u8::u9::B0::B1::B2::B3::(.slice fo n fc)::(.int .i64 n)::(.int .i64 i)::B7::B8::B9::D0::D1::D2::D3::D4::D5::D6::D7::D8::D9::E0::E1::E2::E3::E4::E5::E6::E7::E8::E9::G0::G1::G2::G3::G4::G5::G6::G7::[]),[]⟩ [.code (Code.nav (Try.f38.body.getD .skip) [1,1,1,0,1,0,0]),.inLoop (Code.nav (Try.f38.body.getD .skip) [1,1,1,0,1,0,0]),.inBlock 0,.code (Code.nav (Try.f38.body.getD .skip) [1,1,1,1])]) (c::cs)) x:=by
 intro k
 induction k with
 | zero =>
  intro i hik u2 u3 u7 u8 u9 B0 B1 B2 B3 B7 B8 B9 D0 D1 D2 D3 D4 D5 D6 D7 D8 D9 E0 E1 E2 E3 E4 E5 E6 E7 E8 E9 G0 G1 G2 G3 G4 G5 G6 G7 h;simp only [Try.f38,Option.getD_some,Code.nav] at h ⊢;have hx:decide ((i:Int) < n)=false:=by simp;omega
  have hxN:decide (i < n)=false:=by simp;omega
  replace h:=HD h
  repeat refine kx ?_
  refine JG.exit (by rfl) ?_
  first|exact h.out _ _ _ _ _ _ _ _ _ _ _ _ _ _ _ _ _ _ _ _ _ _ _ _ _ _ _ _ _ _ _ _ _ _ _ _ _ _ _ _ _ _ _|(walk_nrm;exact h.out _ _ _ _ _ _ _ _ _ _ _ _ _ _ _ _ _ _ _ _ _ _ _ _ _ _ _ _ _ _ _ _ _ _ _ _ _ _ _ _ _ _ _)
 | succ k ih =>
  intro i hik u2 u3 u7 u8 u9 B0 B1 B2 B3 B7 B8 B9 D0 D1 D2 D3 D4 D5 D6 D7 D8 D9 E0 E1 E2 E3 E4 E5 E6 E7 E8 E9 G0 G1 G2 G3 G4 G5 G6 G7 h;simp only [Try.f38,Option.getD_some,Code.nav] at ih h ⊢;have hx:decide ((i:Int) < n)=true:=by simp;omega
  have hxN:decide (i < n)=true:=by simp;omega
  have hlt:i < n:=by omega
  have hlt':(i:Int) < n:=by omega
  have h0i:(0:Int)≤i:=by omega
  have hw:IntKind.i64.wrap ((i:Int) + 1)=((i + 1:Nat):Int):=by rw [IntKind.wrap_i64];omega
  obtain ⟨gf,hfo,hgi⟩:=hf i hlt;subst hfo;replace h:=HD h;replace ih:=HD ih
  repeat refine kx ?_
  refine JG.inLoop ?_;exact ih.out (i + 1) (by omega) _ _ _ _ _ _ _ _ _ _ _ _ _ _ _ _ _ _ _ _ _ _ _ _ _ _ _ _ _ _ _ _ _ _ _ _ _ _ _ _ h.out
end
section
variable {Sh:Type} {Post:Value→World→Prop} {S:Zv Sh} {F:Fix} {g:Gs} {P:Xp Sh} {C:Ctx} {x:World} {c:Frame} {cs:List Frame} {e:Int}
theorem XdP (H:Stood Post S F g P 0 none C x) (hI:S.I P.st.sh P.st.cells g.col x) (hn:P.n≤64) (hwl:P.st.went.length≤65536)
 (h:∀ (P':Xp Sh) (C':Ctx) (z:World) (vl:Value) (M:Nat),Qc Post S F g P' C' z→P'.n=P.n→P'.st=P.st→(∀ j,j < P.n→(P'.progs j).ended=true)→x.heap.size≤M→z.ownsRow M 89 8 vl P.left.length (P.left.flatMap Yj)→x.heap.size≤z.heap.size→(∀ q,q < x.heap.size→¬ g.col q→z.heap[q]? = x.heap[q]?) →
   JG Try.prog Post C' (G (c.finish (.agg #[.int .i8 e,.int .i64 P.st.went.length,g.vL,g.vW,g.vR,vl,.slice none 0 0])) cs) z) :
 JG Try.prog Post C (G (Frame.enter Try.prog 38 #[P0 F.rb,.int .i8 e] .normal) (c::cs)) x:=by
 have hfl:=@Xc2 Post;simp only [Try.f38,Option.getD_some,Code.nav] at hfl;have HH:=HD H;have HI:=HD hI;replace h:=HD h;clear H hI;refine Xu Try.func38 (by rfl) (by rfl) ?_;simp only [Try.f38,Option.getD_some];walk_nrm;refine JG.seq ?_;refine JG.code (XO _) (by kernel_rfl) rfl (.inr (by kernel_rfl)) rfl (fun K R hK hR τ=>?_);replace hK:=HD hK;clear hR
 go_wp2
 refine hK.out _ _ (jt (x:=x.alloc (.cells #[.int .i8 0,.int .i64 0,.slice none 0 0,.slice none 0 0,.slice none 0 0,.slice none 0 0,.slice none 0 0] 43)) ?_);simp only [Xs];clear hK K R τ;obtain ⟨w,hw⟩:∃ w,w=x.alloc (.cells #[.int .i8 0,.int .i64 0,.slice none 0 0,.slice none 0 0,.slice none 0 0,.slice none 0 0,.slice none 0 0] 43):=⟨_,rfl⟩
 rw [← hw];have wold:∀ r,r < x.heap.size→w.heap[r]? = x.heap[r]?:=fun r h=>by rw [hw,Xl,Array.getElem?_push,if_neg (by omega)]
 have wnew:w.heap[x.heap.size]? = some (.cells #[.int .i8 0,.int .i64 0,.slice none 0 0,.slice none 0 0,.slice none 0 0,.slice none 0 0,.slice none 0 0] 43):=by rw [hw,Xl,Array.getElem?_push,if_pos rfl]
 have wsz:w.heap.size=x.heap.size + 1:=by rw [hw];simp
 clear hw;have Hw:Stood Post S F g P 0 none C w:=HH.out.frame (fun r hr=>wold r (HH.out.gate.colLt hr)) (by omega) fun j a ha=>World.cell?_of_block (wold a.block (S.keepI HI.out j a ha).1);have hIw:S.I P.st.sh P.st.cells g.col w:=S.frame HI.out _ _ (by omega) (fun r hr _=>wold r hr) fun _ _ h=>h;replace Hw:=HD Hw;replace hIw:=HD hIw;replace wold:=HD wold
 repeat refine kx ?_
 refine kf (args:=#[P0 F.rb]) Try.func52 ?_;refine Xf2 Hw.out hIw.out hn (fun P' C' y vl HE n' s' en' hown hsz hold=>?_);rw [Frame.finish_at];walk_nrm;have hrpc:¬ g.col x.heap.size:=fun hc=>Nat.lt_irrefl _ (HH.out.gate.colLt hc);have ynew:=(hold x.heap.size (by omega) hrpc).trans wnew;have yold:∀ q,q < x.heap.size→¬ g.col q→y.heap[q]? = x.heap[q]?:=fun q hq hc=>(hold q (by omega) hc).trans (wold.out q hq);have yo:=HE.gate.obj;rw [HE.rb] at yo;have hfls:=HE.gate.fls;rw [HE.gate.num,n'] at hfls;obtain ⟨fo,fcap,evF⟩:=Xq hfls;have y5:y.cell? (th F.rb 5)=some (.slice fo P.n fcap):=by rw [Xa yo 5,← evF];rfl
 have hfg:∀ i,i < P.n→∃ gf,fo=some ⟨gf,0,none⟩∧y.cell? (th gf i)=some (.bool false):=fun i hi=>by
  obtain ⟨gf,cf,q1,q2⟩:=Qi hfls (by omega);rw [evF] at q1;injection q1 with q1 _ _
  exact ⟨gf,q1,q2 i _ (by rw [List.getElem?_replicate,if_pos hi])⟩
 have hsl:∃ aL cL aW cW aR cR al cl,g.vL=.slice aL P.st.log.length cL∧g.vW=.slice aW P.st.went.length cW∧g.vR=.slice aR P.st.ready.length cR∧vl=.slice al P.left.length cl:=by
  obtain ⟨aL,cL,q1⟩:=Xq HH.out.gate.lg;obtain ⟨aW,cW,q2⟩:=Xq HH.out.gate.wn;obtain ⟨aR,cR,q3⟩:=Xq HH.out.gate.rd;obtain ⟨al,cl,q4⟩:=Xq hown;exact ⟨aL,cL,aW,cW,aR,cR,al,cl,q1,q2,q3,q4⟩
 obtain ⟨aL,cL,aW,cW,aR,cR,al,cl,evL,evW,evR,evl⟩:=hsl;have y2:y.cell? (th F.rb 2)=some (.slice aL P.st.log.length cL):=by rw [Xa yo 2,← evL];rfl
 have y3:y.cell? (th F.rb 3)=some (.slice aW P.st.went.length cW):=by rw [Xa yo 3,← evW];rfl
 have y4:y.cell? (th F.rb 4)=some (.slice aR P.st.ready.length cR):=by rw [Xa yo 4,← evR];rfl
 replace h:=HD (fun (z:World)=>h.out P' C' z vl w.heap.size);rw [evL,evW,evR,evl] at h;subst evl;replace HE:=HD HE;replace hown:=HD hown;replace yold:=HD yold;replace en':=HD en';replace evL:=HD evL;replace evW:=HD evW;replace evR:=HD evR;clear hold yo hfls evF;have hrb0:F.rb < x.heap.size:=by rw [← HH.out.rb];exact (GE HH.out.gate.obj).1
 have hsz1:x.heap.size + 1≤y.heap.size:=by omega
 repeat refine kx ?_
 refine JG.loop ?_;refine hfl (n:=P.n) (fo:=fo) (fc:=fcap) (by omega) hfg P.n 0 (by omega) _ _ _ _ _ _ _ _ _ _ _ _ _ _ _ _ _ _ _ _ _ _ _ _ _ _ _ _ _ _ _ _ _ _ _ _ _ _ _ _ ?_;intro w2 w3 w7 w8 w9 w10 w11 w12 w13 w14 w15 w16 w17 w18 w19 w20 w21 w22 w23 w24 w25 w26 w27 w28 w29 w30 w31 w32 w33 w34 w35 w36 w37 w38 w39 w40 w41 w42 w43 w44 w45 w46 w47
 repeat refine kx ?_
 refine JG.code (XO _) (by kernel_rfl) rfl (.inr (by kernel_rfl)) rfl (fun K R hK hR τ=>?_);replace hK:=HD hK;clear hR;have z2:(under y τ 0).cell? (th F.rb 2)=some (.slice aL P.st.log.length cL):=y2;have z3:(under y τ 0).cell? (th F.rb 3)=some (.slice aW P.st.went.length cW):=y3;have z4:(under y τ 0).cell? (th F.rb 4)=some (.slice aR P.st.ready.length cR):=y4;have hbr:=WJ;have m0:(under y τ 0).cell? (th x.heap.size 0)=some (.int .i8 0):=Xa ynew 0;have n0:(under y τ 0).frozen? (th x.heap.size 0)=false:=Xe ynew 0;have m1:(under y τ 0).cell? (th x.heap.size 1)=some (.int .i64 0):=Xa ynew 1;have n1:(under y τ 0).frozen? (th x.heap.size 1)=false:=Xe ynew 1;have m2:(under y τ 0).cell? (th x.heap.size 2)=some (.slice none 0 0):=Xa ynew 2;have n2:(under y τ 0).frozen? (th x.heap.size 2)=false:=Xe ynew 2;have m3:(under y τ 0).cell? (th x.heap.size 3)=some (.slice none 0 0):=Xa ynew 3;have n3:(under y τ 0).frozen? (th x.heap.size 3)=false:=Xe ynew 3;have m4:(under y τ 0).cell? (th x.heap.size 4)=some (.slice none 0 0):=Xa ynew 4;have n4:(under y τ 0).frozen? (th x.heap.size 4)=false:=Xe ynew 4;have m5:(under y τ 0).cell? (th x.heap.size 5)=some (.slice none 0 0):=Xa ynew 5;have n5:(under y τ 0).frozen? (th x.heap.size 5)=false:=Xe ynew 5;have m6:(under y τ 0).cell? (th x.heap.size 6)=some (.slice none 0 0):=Xa ynew 6;have n6:(under y τ 0).frozen? (th x.heap.size 6)=false:=Xe ynew 6;have hrb:F.rb < (under y τ 0).heap.size:=Xt z2;have zn:=ynew;rw [← Vd y τ 0] at zn;obtain ⟨z,hz⟩:∃ z,z=under y τ 0:=⟨_,rfl⟩
 have zh:z.heap=y.heap:=by rw [hz];rfl
 rw [← hz] at zn z2 z3 z4 hrb m0 n0 m1 n1 m2 n2 m3 n3 m4 n4 m5 n5 m6 n6 ⊢;have zs:x.heap.size < z.heap.size:=by rw [zh];omega
 replace zh:=HD zh;replace zn:=HD zn;clear hz y2 y3 y4 y5 hfg;generalize hrp:x.heap.size=rp at m0 n0 m1 n1 m2 n2 m3 n3 m4 n4 m5 n5 m6 n6 zn zs hrb0 hsz1 ⊢
 go_region
 all_goals (
  refine hK.out _ _ ?_;clear hK K R;subst hrp;obtain ⟨u,hu⟩:∃ u,u=(((((((z.setCell (th x.heap.size 0) (.int .i8 e)).setCell (th x.heap.size 1) (.int .i64 P.st.went.length)).setCell (th x.heap.size 2) (.slice aL P.st.log.length cL)).setCell (th x.heap.size 3) (.slice aW P.st.went.length cW)).setCell (th x.heap.size 4) (.slice aR P.st.ready.length cR)).setCell (th x.heap.size 5) (.slice al P.left.length cl)).setCell (th x.heap.size 6) (.slice none 0 0)).drew:=⟨_,rfl⟩
  rw [← hu];have uo:∀ r,r≠x.heap.size→u.heap[r]? = y.heap[r]?:=fun r hne=>by
   rw [hu,XI,Xb hne,Xb hne,Xb hne,Xb hne,Xb hne,Xb hne,Xb hne,zh.out]
  have us:u.heap.size=y.heap.size:=by rw [hu,XI,Xh,Xh,Xh,Xh,Xh,Xh,Xh,zh.out]
  have un:u.heap[x.heap.size]? = some (.cells #[.int .i8 e,.int .i64 P.st.went.length,.slice aL P.st.log.length cL,.slice aW P.st.went.length cW,.slice aR P.st.ready.length cR,.slice al P.left.length cl,.slice none 0 0] 43 (0,0)):=by
   rw [hu,XI];exact Xd (Xd (Xd (Xd (Xd (Xd (Xd zn.out))))))
  clear hu
  repeat refine kx ?_
  refine JG.ret ?_;refine JG.leave rfl rfl Try.func38 (fun τ d=>results_cell_row (p:=4) rfl _ _ x.heap.size _ _ _ _ rfl un Try.underlying43 rfl (by kernel_rfl)) (h.out u (HE.out.frame (fun r hr=>uo r fun e=>hrpc (e ▸ hr)) (by omega)) n' s' en'.out (by omega) (Xj hown.out fun b hb=>uo b fun e=>?_) (by omega) fun q hq hc=>(uo q (by omega)).trans (yold.out q hq hc))
  have:=XE hown.out hb
  omega)
