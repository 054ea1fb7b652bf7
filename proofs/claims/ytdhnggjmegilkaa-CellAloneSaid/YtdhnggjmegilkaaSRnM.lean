/- Who goes, by picks: the closure of gate.Run. -/
import Derived.Test.YtdhnggjmegilkaaSRnK
import Derived.Deep.RegionLaw
import Derived.Deep.AppendLies
import Derived.Laws.Small
set_option linter.all false
set_option maxRecDepth 100000
set_option maxHeartbeats 16000000
namespace Go.Proofs.Ytdhnggjmegilkaa
open Go.Conc Go.RowKit
open Go.ConcN (upd upd_same upd_ne)
set_option maxRecDepth 100000
structure Thr where
 tb:Nat
 rb:Nat
 wk:Nat
 st:Nat
 vv:Value
 at':Xo
 e:Bool
 b:Nat
 v:Int
def Thr.At (x:World) (n:Nat) (t:Thr):Prop:=x.heap[t.tb]? = some (.cells (Yk t.rb n t.wk t.st t.vv t.at' t.e) 184 (2,4))∧(t.e=false→t.at'.op=6→t.vv=P0 t.b∧x.cell? (th t.b 0)=some (.int .i64 t.v))
def Thr.may (t:Thr):Bool:=VO t.at' t.e t.v
def Yx (ts:List Thr):List Value:=(ts.filter Thr.may).map fun t=>P0 t.tb
def Code.nav:Code→List Nat→Code
 | c,[]=>c
 | .seq a _,0::l=>Code.nav a l
 | .seq _ b,_::l=>Code.nav b l
 | .cond _ a _,0::l=>Code.nav a l
 | .cond _ _ b,_::l=>Code.nav b l
 | .block _ a,_::l=>Code.nav a l
 | .loop a,_::l=>Code.nav a l
 | c,_=>c
theorem Xdp {Post:Value→World→Prop} {C:Ctx} {c:Frame} {cs:List Frame} {rb N M:Nat} {vT:Value} (all:List Thr) (hall:all.length < 100):∀ (k i:Nat),i + k=all.length→∀ (x:World) (vl:Value) (ov:Bool) (u1 u4 u5 u6 u7 u8 B2 B3 B4 B5 B6 B7 B8 B9 D0 D1 D2 D3 D4 D5 D6 D7 D8 D9 E0:Value),
 x.ownsRow N 33 1 vT all.length (all.map fun t=>P0 t.tb)→(∀ (j:Nat) (t:Thr),all[j]? = some t→t.At x j)→x.ownsRow M 33 1 vl (Yx (all.take i)).length (Yx (all.take i))→M≤x.heap.size→(∀ g,vT.ownBlock=some g→g < M)→(∀ (j:Nat) (t:Thr),all[j]? = some t→t.tb < M∧(t.e=false→t.at'.op=6→t.b < M)) →
 ov=((all.take i).all fun t=>t.e)→(∀ y vl',y.ownsRow M 33 1 vl' (Yx all).length (Yx all)→x.heap.size≤y.heap.size→(∀ r,r < M→y.heap[r]? = x.heap[r]?)→JG Try.prog Post C (G (c.finish (.tuple #[vl',.bool (all.all fun t=>t.e)])) cs) y) →
 JG Try.prog Post C (G ((base 131).at ⟨#[P0 rb,u1,vl,.bool ov,u4,u5,u6,u7,u8,vT,.int .i64 all.length,.int .i64 i,B2,B3,B4,B5,B6,B7,B8,B9,D0,D1,D2,D3,D4,D5,D6,D7,D8,D9,E0],[]⟩
  [.code (Code.nav (Try.f131.body.getD .skip) [1,1,0,1,0,0]),.inLoop (Code.nav (Try.f131.body.getD .skip) [1,1,0,1,0,0]),.inBlock 0,.code (Code.nav (Try.f131.body.getD .skip) [1,1,1])]) (c::cs)) x:=by
 intro k
 induction k with
 | zero =>
  intro i hik x vl ov u1 u4 u5 u6 u7 u8 B2 B3 B4 B5 B6 B7 B8 B9 D0 D1 D2 D3 D4 D5 D6 D7 D8 D9 E0 hT hA hl hM hTM htM hov h;simp only [Try.f131,Option.getD_some,Code.nav];have hx:decide ((i:Int) < all.length)=false:=by simp;omega
  have ht:all.take i=all:=List.take_of_length_le (by omega);rw [ht] at hl hov;subst hov;replace h:=h x vl hl (Nat.le_refl _) (fun r _=>rfl);clear hT hA hl ht;have hxN:decide (i < all.length)=false:=by simp;omega
  repeat refine kx ?_
  refine JG.exit (by rfl) ?_
  repeat refine kx ?_
  refine JG.ret ?_;exact JG.leave rfl rfl Try.func131 (fun τ d=>results_tmp2 (t:=2) (u:=3) rfl _ _ _) h
 | succ k ih =>
  intro i hik x vl ov u1 u4 u5 u6 u7 u8 B2 B3 B4 B5 B6 B7 B8 B9 D0 D1 D2 D3 D4 D5 D6 D7 D8 D9 E0 hT hA hl hM hTM htM hov h;simp only [Try.f131,Option.getD_some,Code.nav] at ih ⊢;have hx:decide ((i:Int) < all.length)=true:=by simp;omega
  have hlt:i < all.length:=by omega
  obtain ⟨t,ht⟩:∃ t,all[i]? = some t:=⟨_,List.getElem?_eq_getElem hlt⟩
  obtain ⟨g,cap,rfl,hg⟩:=Qi hT (by omega);have hgi:x.cell? (th g i)=some (P0 t.tb):=hg i _ (by rw [List.getElem?_map,ht];rfl);have hti:=hA i t ht;have h13:x.cell? (th t.tb 13)=some (.bool t.e):=Xa hti.1 13;have hlt':(i:Int) < all.length:=by omega
  have h0i:(0:Int)≤i:=by omega
  have hw:IntKind.i64.wrap ((i:Int) + 1)=((i + 1:Nat):Int):=by rw [IntKind.wrap_i64];omega
  have htk:all.take (i + 1)=all.take i ++ [t]:=by rw [List.take_add_one,ht];rfl
  have hall':((all.take (i + 1)).all fun t=>t.e)=(((all.take i).all fun t=>t.e) && t.e):=by rw [htk];simp
  have hab:Yx (all.take (i + 1))=Yx (all.take i) ++ (if t.may then [P0 t.tb] else []):=by
   rw [htk];unfold Yx;rw [List.filter_append,List.map_append];cases hm:t.may<;>simp [hm]
  have hlen:(Yx (all.take i)).length≤i:=by
   unfold Yx;have h1:((all.take i).filter Thr.may).length≤(all.take i).length:=List.length_filter_le _ _;rw [List.length_map];rw [List.length_take] at h1;omega
  have hmay:VO t.at' t.e t.v=t.may:=rfl;replace h:=HD h;replace ih:=HD ih;replace hall':=HD hall';replace hov:=HD hov;obtain ⟨i0,hi0,hz0,hz1,hz2⟩:=XM Vo;cases ov
  all_goals (
   repeat first|refine kc ?_|(first|refine ku ?_|(refine kv fun Ω τ d=>?_;have f0:=uc τ d hgi;have f1:=uc τ d h13;go_simp;refine Ω.f ?_;clear f0 f1 Ω τ d);try walk_nrm)
   refine kf (args:=#[P0 t.tb]) Try.func153 ?_;refine XgB (b:=t.b) (v:=t.v) hti.1 hti.2 ?_;rw [Frame.finish_at,hmay];walk_nrm;generalize t.may=mg at hab ⊢
   repeat first|refine JG.seq ?_|refine JG.skip ?_|refine JG.inBlock ?_|refine JG.block ?_|refine JG.done ?_|refine JG.label ?_
   cases mg
   ·rw [if_neg (by simp),List.append_nil] at hab
    repeat refine kx ?_
    refine JG.inLoop ?_;refine ih.out (i + 1) (by omega) x vl _ _ _ _ _ _ _ _ _ _ _ _ _ _ _ _ _ _ _ _ _ _ _ _ _ _ hT hA (by rw [hab];exact hl) hM hTM htM (by rw [hall'.out,← hov.out];first|rfl|simp) h.out
   ·rw [if_pos rfl] at hab
    refine JG.condT rfl ?_;refine JG.code (XO _) (by kernel_rfl) rfl (.inr (by kernel_rfl)) rfl (fun K R hK hR τ=>?_);replace hK:=HD hK;clear hR;obtain ⟨y,hy⟩:∃ y,y=under x τ 0:=⟨_,rfl⟩
    have hyh:y.heap=x.heap:=by rw [hy];rfl
    rw [← hy];have HO:=HD ((by rw [hy];exact hl:y.ownsRow M 33 1 vl (Yx (all.take i)).length (Yx (all.take i))).alloc (.cells #[P0 t.tb] 33));have N2:Hid ((Yx (all.take i)).length + 1≤maxLen):=HD (by unfold maxLen;omega);have N3:Hid (((Yx (all.take i)).length + 1) * 8≤140737488355328):=HD (by omega);have N4:Hid (M≤(y.alloc (.cells #[P0 t.tb] 33)).heap.size):=HD (by simp [hyh];omega);clear hy;replace hyh:=HD hyh;have hvl:=HD (fun g (e:vl.ownBlock=some g)=>XE hl e);replace hab:=HD hab;replace hA:=HD hA;replace hT:=HD hT;replace htM:=HD htM;replace hTM:=HD hTM;replace hM:=HD hM;clear hg hgi h13 hti hl
    go_wp2_with (first|(at_builtin;refine wpList_append_lies _ rfl _ _ 177 rfl M 33 i0 _ 1 8 Try.underlying177 hi0 hz0 hz1 hz2 rfl (by decide) _ (Yx (all.take i)).length (Yx (all.take i)) rfl HO.out ⟨y.heap.size,0,none⟩ 1 1 [P0 t.tb] rfl rfl (World.news_of_block (cs:=#[P0 t.tb]) (t:=33) (fr:=(0,0)) (heap_alloc_new y _)) (by simp [Value.oneCell']) (by omega) N2.out N3.out N4.out _ rfl ?_;intro gg cap2 w3 hown hgrow hat hlt3;have HOWN:=HD hown;have HGROW:=HD hgrow;have HAT:=HD hat;clear hown hgrow hat hlt3))
    refine hK.out _ _ ?_;have hold:∀ r,r < M→w3.heap[r]? = x.heap[r]?:=fun r hr=>by
     have h1:some r≠vl.ownBlock:=fun e=>by have:=hvl.out r e.symm;omega
     have h2:=hM.out;rw [HGROW.out.block r (by simp [hyh.out];omega) h1,Xl,Array.getElem?_push,hyh.out,if_neg (by omega)]
    have hsz:x.heap.size≤w3.heap.size:=by have:=HGROW.out.size;simp [hyh.out] at this;omega
    replace hold:=HD hold;replace hsz:=HD hsz;clear hK K R
    try walk_nrm
    repeat refine kx ?_
    refine JG.inLoop ?_;refine ih.out (i + 1) (by omega) w3 (.slice (some ⟨gg,0,none⟩) ((Yx (all.take i)).length + 1) cap2) _ _ _ _ _ _ _ _ _ _ _ _ _ _ _ _ _ _ _ _ _ _ _ _ _ _ (Xj hT.out fun g' e=>hold.out g' (hTM.out g' e)) (fun j u hu=>?_) (by rw [hab.out,List.length_append];exact HOWN.out) (Nat.le_trans hM.out hsz.out) hTM.out htM.out (by rw [hall'.out,← hov.out];first|rfl|simp) (fun z vl' q1 q2 q3=>h.out z vl' q1 (Nat.le_trans hsz.out q2) fun r hr=>(q3 r hr).trans (hold.out r hr));obtain ⟨w1,w2⟩:=htM.out j u hu;obtain ⟨v1,v2⟩:=hA.out j u hu;refine ⟨(hold.out _ w1).trans v1,fun e1 e2=>⟨(v2 e1 e2).1,?_⟩⟩
    have:=(v2 e1 e2).2
    simp only [World.cell?] at this ⊢;rw [hold.out _ (w2 e1 e2)];exact this)
theorem Xf4 {Post:Value→World→Prop} {C:Ctx} {x:World} {c:Frame} {cs:List Frame} {rb N:Nat} {vT:Value} (all:List Thr) (hall:all.length < 100) (h0:x.cell? (th rb 0)=some vT)
 (hT:x.ownsRow N 33 1 vT all.length (all.map fun t=>P0 t.tb)) (hA:∀ (j:Nat) (t:Thr),all[j]? = some t→t.At x j)
 (h:∀ y vl',y.ownsRow x.heap.size 33 1 vl' (Yx all).length (Yx all)→x.heap.size≤y.heap.size→(∀ r,r < x.heap.size→y.heap[r]? = x.heap[r]?)→JG Try.prog Post C (G (c.finish (.tuple #[vl',.bool (all.all fun t=>t.e)])) cs) y) :
 JG Try.prog Post C (G (Frame.enter Try.prog 131 #[P0 rb] .normal) (c::cs)) x:=by
 have hl:=@Xdp Post C c cs rb N x.heap.size vT all hall all.length 0 (by omega) x (.slice none 0 0) true;simp only [Try.f131,Option.getD_some,Code.nav] at hl;have hM2:∀ (j:Nat) (t:Thr),all[j]? = some t→t.tb < x.heap.size∧(t.e=false→t.at'.op=6→t.b < x.heap.size):=fun j t e=>by
  obtain ⟨a1,a2⟩:=hA j t e;exact ⟨(GE a1).1,fun e1 e2=>Xt (a2 e1 e2).2⟩
 replace hl:=fun u1 u4 u5 u6 u7 u8 B2 B3 B4 B5 B6 B7 B8 B9 D0 D1 D2 D3 D4 D5 D6 D7 D8 D9 E0=>hl u1 u4 u5 u6 u7 u8 B2 B3 B4 B5 B6 B7 B8 B9 D0 D1 D2 D3 D4 D5 D6 D7 D8 D9 E0 hT hA X7 (Nat.le_refl _) (fun g e=>own_lt hT e) hM2 rfl h;obtain ⟨ao,cap,rfl⟩:=Xq hT;replace hl:=HD hl;clear h hT hA hM2;refine Xu Try.func131 (by rfl) (by rfl) ?_;simp only [Try.f131,Option.getD_some];walk_nrm
 repeat refine kx ?_
 refine JG.loop ?_;exact hl.out _ _ _ _ _ _ _ _ _ _ _ _ _ _ _ _ _ _ _ _ _ _ _ _ _
theorem Xct (p:Int) (n:Nat) (hn:0 < n) (h:n < 100):(((p.tmod n) + n).tmod n)=p % n:=by
 have hz:(0:Int) < n:=by omega
 rw [tmod_eq_if p n]
 split
 ·have h1:=Int.emod_nonneg p (show (n:Int)≠0 by omega)
  have h2:=Int.emod_lt_of_pos p hz;rw [Int.tmod_eq_emod_of_nonneg (by omega),Int.add_emod_right,Int.emod_emod_of_dvd _ (Int.dvd_refl _)]
 ·have h1:=Int.emod_nonneg (-p) (show (n:Int)≠0 by omega)
  have h2:=Int.emod_lt_of_pos (-p) hz;rw [Int.tmod_eq_emod_of_nonneg (by omega),Int.add_emod_right]
  have:(-((-p) % (n:Int))) % n=p % n:=by
   have e1:=Int.emod_add_mul_ediv p n;have e2:=Int.emod_add_mul_ediv (-p) n;have e3 : -((-p) % (n:Int))=p + n * ((-p) / n):=by omega
   rw [e3,Int.add_mul_emod_self_left]
  exact this
section
variable {Post:Value→World→Prop} {C:Ctx} {x:World} {c:Frame} {cs:List Frame} {pb pv rb g gp n pn pc cap m:Nat} {p:Int} {tbj:Nat}
theorem Xfa (hp:x.cell? (th pb 0)=some (.slice (some ⟨gp,0,none⟩) pn pc)) (hm:m < pn) (hpm:x.cell? (th gp m)=some (.int .i64 p)) (hn:0 < n) (hn2:n < 100) (hg:x.cell? (th g (p % n).toNat)=some (P0 tbj))
 (h:JG Try.prog Post C (G (c.finish (P0 tbj)) cs) x) :
 JG Try.prog Post C (G (Frame.enter Try.prog 83 #[.int .i64 m,.slice (some ⟨g,0,none⟩) n cap,P0 pb,P0 pv] .normal) (c::cs)) x:=by
 have h1:decide ((m:Int) < pn)=true:=by simp;omega
 have h2:decide (m < pn)=true:=by simp;omega
 refine Xu Try.func83 (by rfl) (by rfl) ?_;simp only [Try.f83,Option.getD_some];walk_nrm;have hz:(0:Int) < n:=by omega
 have b1:=Int.emod_nonneg p (show (n:Int)≠0 by omega);have b2:=Int.emod_lt_of_pos p hz;obtain ⟨k,hk⟩:∃ k:Nat,p % n=k:=⟨(p % n).toNat,by omega⟩
 have hq:(p.tmod n + n).tmod n=(k:Int):=(Xct p n hn hn2).trans hk;have hw:IntKind.i64.wrap (p.tmod n + n)=p.tmod n + n:=by
  have : -(n:Int) < p.tmod n∧p.tmod n < n:=by
   rw [tmod_eq_if p n];have h1:=Int.emod_nonneg (-p) (show (n:Int)≠0 by omega);have h2:=Int.emod_lt_of_pos (-p) hz
   split<;>constructor<;>omega
  rw [IntKind.wrap_i64];omega
 rw [hk] at hg;have hg':x.cell? (th g k)=some (P0 tbj):=hg;have hn0:¬ n=0:=by omega
 have hkn:k < n:=by omega
 have hki:(k:Int) < n:=by omega
 clear hg b1 b2 hk hz
 repeat refine kx ?_
 refine JG.ret ?_;exact JG.leave rfl rfl Try.func83 (fun τ d=>results_tmp (t:=6) rfl _ _ _) h
def Y9 (last:Int) (l:List (Nat × Nat)):Nat × Nat:=(l.find? fun q=>decide (last < q.1)).getD (l.headD (0,0))
theorem Xcv {tn last:Int} (l:List (Nat × Nat)) (hl0:0 < l.length) (hl:l.length < 100) (hg:∀ (j:Nat) (q:Nat × Nat),l[j]? = some q→x.cell? (th g j)=some (P0 q.2)) (hnum:∀ (j:Nat) (q:Nat × Nat),l[j]? = some q→x.cell? (th q.2 1)=some (.int .i64 q.1))
 (h:JG Try.prog Post C (G (c.finish (P0 (Y9 last l).2)) cs) x):∀ (k i:Nat),i + k=l.length→∀ (u4 u5 u6 u8 u9 B0 B1 B2 B3 B4 B5 B6 B7 B8 B9 D0 D1 D2 D3 D4 D5 D6 D7 D8 D9 E0 E1 E2 E3 E4 E5 E6 E7 E8 E9 G3 G4 G5 G6 G7 G8 G9 H0 H4 H5 H6 H7 H8 H9:Value),(l.find? fun q=>decide (last < q.1))=((l.drop i).find? fun q=>decide (last < q.1)) →
 JG Try.prog Post C (G ((base 83).at ⟨#[.int .i64 tn,.slice (some ⟨g,0,none⟩) l.length cap,P0 pb,P0 pv,u4,u5,u6,.int .i64 last,u8,u9,B0,B1,B2,B3,B4,B5,B6,B7,B8,B9,D0,D1,D2,D3,D4,D5,D6,D7,D8,D9,E0,E1,E2,E3,E4,E5,E6,E7,E8,E9,.slice (some ⟨g,0,none⟩) l.length cap,.int .i64 l.length,.int .i64 i,G3,G4,G5,G6,G7,G8,G9,H0,H4,H5,H6,H7,H8,H9],[]⟩ [.code (Code.nav (Try.f83.body.getD .skip) [1,1,1,1,0,1,0,0]),.inLoop (Code.nav (Try.f83.body.getD .skip) [1,1,1,1,0,1,0,0]),.inBlock 0,.code (Code.nav (Try.f83.body.getD .skip) [1,1,1,1,1])]) (c::cs)) x:=by
 intro k
 induction k with
 | zero =>
  intro i hik u4 u5 u6 u8 u9 B0 B1 B2 B3 B4 B5 B6 B7 B8 B9 D0 D1 D2 D3 D4 D5 D6 D7 D8 D9 E0 E1 E2 E3 E4 E5 E6 E7 E8 E9 G3 G4 G5 G6 G7 G8 G9 H0 H4 H5 H6 H7 H8 H9 hf;simp only [Try.f83,Option.getD_some,Code.nav];have hx:decide ((i:Int) < l.length)=false:=by simp;omega
  have hxN:decide (i < l.length)=false:=by simp;omega
  obtain ⟨q,hq⟩:∃ q,l[0]? = some q:=⟨_,List.getElem?_eq_getElem hl0⟩
  have hres:Y9 last l=q:=by
   unfold Y9;rw [hf,List.drop_of_length_le (by omega)];cases l with
   | nil=>simp at hq
   | cons a l=>simp at hq;simp [hq]
  rw [hres] at h;have g0:x.cell? (th g 0)=some (P0 q.2):=hg 0 q hq;replace hf:=HD hf;clear hg hnum hf
  repeat refine kx ?_
  refine JG.exit (by rfl) ?_
  repeat refine kx ?_
  refine JG.ret ?_;exact JG.leave rfl rfl Try.func83 (fun τ d=>results_tmp (t:=6) rfl _ _ _) h
 | succ k ih =>
  intro i hik u4 u5 u6 u8 u9 B0 B1 B2 B3 B4 B5 B6 B7 B8 B9 D0 D1 D2 D3 D4 D5 D6 D7 D8 D9 E0 E1 E2 E3 E4 E5 E6 E7 E8 E9 G3 G4 G5 G6 G7 G8 G9 H0 H4 H5 H6 H7 H8 H9 hf;simp only [Try.f83,Option.getD_some,Code.nav] at ih ⊢;have hx:decide ((i:Int) < l.length)=true:=by simp;omega
  have hxN:decide (i < l.length)=true:=by simp;omega
  have hlt:i < l.length:=by omega
  obtain ⟨q,hq⟩:∃ q,l[i]? = some q:=⟨_,List.getElem?_eq_getElem hlt⟩
  have gi:=hg i q hq;have ni:=hnum i q hq;have hd:l.drop i=q::l.drop (i + 1):=by
   rw [List.drop_eq_getElem_cons hlt];rw [List.getElem?_eq_getElem hlt] at hq;rw [OI hq]
  have hw:IntKind.i64.wrap ((i:Int) + 1)=((i + 1:Nat):Int):=by rw [IntKind.wrap_i64];omega
  have hlt':(i:Int) < l.length:=by omega
  replace ih:=HD ih;replace hg:=HD hg;replace hnum:=HD hnum;cases hc:decide (last < (q.1:Int)) with
  | true =>
   have hres:Y9 last l=q:=by
    unfold Y9;rw [hf,hd];simp only [List.find?_cons,hc];rfl
   rw [hres] at h;replace hf:=HD hf;replace hd:=HD hd
   repeat refine kx ?_
   refine JG.ret ?_;exact JG.leave rfl rfl Try.func83 (fun τ d=>results_tmp (t:=6) rfl _ _ _) h
  | false =>
   have hf':(l.find? fun q=>decide (last < q.1))=((l.drop (i + 1)).find? fun q=>decide (last < q.1)):=by rw [hf,hd];simp only [List.find?_cons,hc]
   replace hf:=HD hf;replace hf':=HD hf';replace hd:=HD hd;replace h:=HD h
   repeat refine kx ?_
   refine JG.inLoop ?_;exact ih.out (i + 1) (by omega) _ _ _ _ _ _ _ _ _ _ _ _ _ _ _ _ _ _ _ _ _ _ _ _ _ _ _ _ _ _ _ _ _ _ _ _ _ _ _ _ _ _ _ _ _ _ _ _ _ hf'.out
theorem Xe9 {gw:Nat} {po:Option Addr} {wc:Nat} (l:List (Nat × Nat)) (went:List Nat) (hp:x.cell? (th pb 0)=some (.slice po pn pc)) (hm:pn≤went.length) (hpv:x.cell? (th pv 0)=some (P0 rb)) (hrb:x.cell? (th rb 3)=some (.slice (some ⟨gw,0,none⟩) went.length wc)∨went = [])
 (hw0:∀ (j q:Nat),went[j]? = some q→x.cell? (th gw j)=some (.int .i64 q)) (hwl:went.length < 100000) (hl0:0 < l.length) (hl:l.length < 100) (hg:∀ (j:Nat) (q:Nat × Nat),l[j]? = some q→x.cell? (th g j)=some (P0 q.2)) (hnum:∀ (j:Nat) (q:Nat × Nat),l[j]? = some q→x.cell? (th q.2 1)=some (.int .i64 q.1))
 (h:JG Try.prog Post C (G (c.finish (P0 (Y9 (match went.getLast? with|some q=>(q:Int)|none=>-1) l).2)) cs) x) :
 JG Try.prog Post C (G (Frame.enter Try.prog 83 #[.int .i64 went.length,.slice (some ⟨g,0,none⟩) l.length cap,P0 pb,P0 pv] .normal) (c::cs)) x:=by
 have hlp:=fun tn last h=>@Xcv Post C x c cs pb pv g cap tn last l hl0 hl hg hnum h l.length 0 (by omega);simp only [Try.f83,Option.getD_some,Code.nav] at hlp;replace hlp:=HD hlp;replace hg:=HD hg;replace hnum:=HD hnum;rcases Nat.eq_zero_or_pos went.length with h0|hpos
 ·obtain rfl:went = []:=List.length_eq_zero_iff.1 h0
  obtain rfl:pn=0:=by simpa using hm
  replace h:=HD h;clear hw0 hrb h0 hm hwl;refine Xu Try.func83 (by rfl) (by rfl) ?_;simp only [Try.f83,Option.getD_some,List.length_nil];walk_nrm
  repeat refine kx ?_
  refine JG.loop ?_;refine hlp.out 0 (-1) h.out _ _ _ _ _ _ _ _ _ _ _ _ _ _ _ _ _ _ _ _ _ _ _ _ _ _ _ _ _ _ _ _ _ _ _ _ _ _ _ _ _ _ _ _ _ _ _ _ _ ?_
  rfl
 ·have h1:decide ((went.length:Int) < pn)=false:=by simp;omega
  have h2:decide (went.length < pn)=false:=by simp;omega
  have h3:decide (0 < went.length)=true:=by simp;omega
  have h4:decide ((0:Int) < went.length)=true:=by simp;omega
  obtain ⟨q,hq⟩:∃ q,went[went.length - 1]? = some q:=⟨_,List.getElem?_eq_getElem (by omega)⟩
  have hlast:went.getLast? = some q:=by rw [List.getLast?_eq_getElem?];exact hq
  rw [hlast] at h;have gq:=hw0 _ q hq;have hrb':x.cell? (th rb 3)=some (.slice (some ⟨gw,0,none⟩) went.length wc):=by
   rcases hrb with h|h
   ·exact h
   ·rw [h] at hpos;simp at hpos
  obtain ⟨n,hn⟩:∃ n,went.length=n + 1:=⟨went.length - 1,by omega⟩
  have hw:IntKind.i64.wrap ((went.length:Int) - 1)=(n:Int):=by rw [IntKind.wrap_i64];omega
  have e0:went.length - 1=n:=by omega
  rw [e0] at gq;have h5:n < went.length:=by omega
  have h6:(n:Int) < went.length:=by omega
  replace h:=HD h;replace hn:=HD hn;clear hw0 hrb hm hwl hq hlast e0;generalize went.length=tn at h1 h2 h3 h4 hrb' hw h5 h6 hpos ⊢;refine Xu Try.func83 (by rfl) (by rfl) ?_;simp only [Try.f83,Option.getD_some];walk_nrm
  repeat refine kx ?_
  refine JG.loop ?_;refine hlp.out tn q h.out _ _ _ _ _ _ _ _ _ _ _ _ _ _ _ _ _ _ _ _ _ _ _ _ _ _ _ _ _ _ _ _ _ _ _ _ _ _ _ _ _ _ _ _ _ _ _ _ _ ?_
  rfl
theorem Xay (went:List Nat) (l:List (Nat × Nat)) (hl:0 < l.length) :
 Y9 (match went.getLast? with|some q=>(q:Int)|none=>-1) l∈l ∧
  (Y9 (match went.getLast? with|some q=>(q:Int)|none=>-1) l).1=(((l.map (·.1)).find? fun t=>match went.getLast? with|some q=>decide (q < t)|none=>true)).getD ((l.map (·.1)).headD 0):=by
 have hfun:(fun q:Nat × Nat=>decide ((match went.getLast? with|some q=>(q:Int)|none=>-1) < (q.1:Int)))=(fun t:Nat=>match went.getLast? with|some q=>decide (q < t)|none=>true) ∘ (·.1):=by
  funext q
  cases went.getLast? with
  | none=>simp;omega
  | some w=>simp
 unfold Y9;rw [hfun,List.find?_map];cases hf:l.find? ((fun t:Nat=>match went.getLast? with|some q=>decide (q < t)|none=>true) ∘ (·.1)) with
 | none =>
  cases l with
  | nil=>simp at hl
  | cons a l=>simp
 | some q=>exact ⟨List.mem_of_find?_eq_some hf,rfl⟩
theorem XfS {gw:Nat} {po:Option Addr} {wc:Nat} (picks:List Int) (l:List (Nat × Nat)) (went:List Nat) (hp:x.cell? (th pb 0)=some (.slice po picks.length pc)) (hpo:picks≠[]→∃ gp,po=some ⟨gp,0,none⟩∧∀ (j:Nat) (q:Int),picks[j]? = some q→x.cell? (th gp j)=some (.int .i64 q))
 (hpv:x.cell? (th pv 0)=some (P0 rb)) (hrb:x.cell? (th rb 3)=some (.slice (some ⟨gw,0,none⟩) went.length wc)∨went = [])
 (hw0:∀ (j q:Nat),went[j]? = some q→x.cell? (th gw j)=some (.int .i64 q)) (hwl:went.length < 100000) (hl0:0 < l.length) (hl:l.length < 100) (hg:∀ (j:Nat) (q:Nat × Nat),l[j]? = some q→x.cell? (th g j)=some (P0 q.2)) (hnum:∀ (j:Nat) (q:Nat × Nat),l[j]? = some q→x.cell? (th q.2 1)=some (.int .i64 q.1))
 (h:∀ q,q∈l→q.1=picked picks went (l.map (·.1))→JG Try.prog Post C (G (c.finish (P0 q.2)) cs) x) :
 JG Try.prog Post C (G (Frame.enter Try.prog 83 #[.int .i64 went.length,.slice (some ⟨g,0,none⟩) l.length cap,P0 pb,P0 pv] .normal) (c::cs)) x:=by
 rcases Nat.lt_or_ge went.length picks.length with hm|hm
 ·obtain ⟨gp,rfl,hgp⟩:=hpo (by rintro rfl;simp at hm)
  obtain ⟨p,hp1⟩:∃ p,picks[went.length]? = some p:=⟨_,List.getElem?_eq_getElem hm⟩
  have hz:(0:Int) < l.length:=by omega
  have b1:=Int.emod_nonneg p (show (l.length:Int)≠0 by omega);have b2:=Int.emod_lt_of_pos p hz;have hk:(p % (l.length:Int)).toNat < l.length:=by omega
  obtain ⟨q,hq⟩:∃ q,l[(p % (l.length:Int)).toNat]? = some q:=⟨_,List.getElem?_eq_getElem hk⟩
  refine Xfa hp hm (hgp _ _ hp1) hl0 hl (hg _ _ hq) (h q (List.mem_of_getElem? hq) ?_);unfold picked;rw [hp1];simp only [List.length_map,List.getD_eq_getElem?_getD,List.getElem?_map,hq]
  rfl
 ·obtain ⟨e1,e2⟩:=Xay went l hl0
  refine Xe9 l went hp hm hpv hrb hw0 hwl hl0 hl hg hnum (h _ e1 ?_);unfold picked;rw [List.getElem?_eq_none hm];exact e2
