/- A turn is written down: the two appends of gate's until. -/
import Derived.Test.YtdgfekplfipekaaVRnL
import Derived.Laws.Small
import Derived.BigRegion
import Derived.BigQuiet
import Derived.Deep.RegionLaw
import Derived.Deep.RegionWith
import Derived.Deep.AppendLies
import Derived.Laws.EntriesVeiled
set_option linter.all false
set_option maxRecDepth 100000
set_option maxHeartbeats 16000000
namespace Go.Proofs.Ytdgfekplfipekaa
open Go.Conc Go.RowKit
open Go.ConcN (upd upd_same upd_ne)
set_option maxRecDepth 100000
theorem Xct (p:Int) (n:Nat) (hn:0 < n) (h:n < 100):(((p.tmod n) + n).tmod n)=p % n:=by
 have hz:(0:Int) < n:=by omega
 rw [tmod_eq_if p n]
 split
 ·have h1:=Int.emod_nonneg p (show (n:Int)≠0 by omega)
  have h2:=Int.emod_lt_of_pos p hz;rw [Int.tmod_eq_emod_of_nonneg (by omega),Int.add_emod_right,Int.emod_emod_of_dvd _ (Int.dvd_refl _)]
 ·have h1:=Int.emod_nonneg (-p) (show (n:Int)≠0 by omega)
  have h2:=Int.emod_lt_of_pos (-p) hz;rw [Int.tmod_eq_emod_of_nonneg (by omega),Int.add_emod_right]
  have:(-((-p) % (n:Int))) % n=p % n:=by
   have e1:=Int.emod_add_mul_ediv p n;have e2:=Int.emod_add_mul_ediv (-p) n;have e3 : -((-p) % (n:Int))=p + n * ((-p) / n):=by omega
   rw [e3,Int.add_mul_emod_self_left]
  exact this
section
variable {Post:Value→World→Prop} {C:Ctx} {x:World} {c:Frame} {cs:List Frame} {pb pv rb g gp n pn pc cap m:Nat} {p:Int} {tbj:Nat}
theorem Xfa {og:Nat} (hp:x.cell? (th pb 0)=some (.slice (some ⟨gp,og,none⟩) pn pc)) (hm:m < pn) (hpm:x.cell? ⟨gp,og + m,none⟩=some (.int .i64 p)) (hn:0 < n) (hn2:n < 100) (hg:x.cell? (th g (p % n).toNat)=some (P0 tbj))
 (h:JG Try.prog Post C (G (c.finish (P0 tbj)) cs) x) :
 JG Try.prog Post C (G (Frame.enter Try.prog 37 #[.int .i64 m,.slice (some ⟨g,0,none⟩) n cap,P0 pb,P0 pv] .normal) (c::cs)) x:=by
 have h1:decide ((m:Int) < pn)=true:=by simp;omega
 have h2:decide (m < pn)=true:=by simp;omega
 refine Xu Try.func37 (by rfl) (by rfl) ?_;simp only [Try.f37,Option.getD_some];walk_nrm;have hz:(0:Int) < n:=by omega
 have b1:=Int.emod_nonneg p (show (n:Int)≠0 by omega);have b2:=Int.emod_lt_of_pos p hz;obtain ⟨k,hk⟩:∃ k:Nat,p % n=k:=⟨(p % n).toNat,by omega⟩
 have hq:(p.tmod n + n).tmod n=(k:Int):=(Xct p n hn hn2).trans hk;have hw:IntKind.i64.wrap (p.tmod n + n)=p.tmod n + n:=by
  have : -(n:Int) < p.tmod n∧p.tmod n < n:=by
   rw [tmod_eq_if p n];have h1:=Int.emod_nonneg (-p) (show (n:Int)≠0 by omega);have h2:=Int.emod_lt_of_pos (-p) hz
   split<;>constructor<;>omega
  rw [IntKind.wrap_i64];omega
 rw [hk] at hg;have hg':x.cell? (th g k)=some (P0 tbj):=hg;have hn0:¬ n=0:=by omega
 have hkn:k < n:=by omega
 have hki:(k:Int) < n:=by omega
 clear hg b1 b2 hk hz
 repeat refine kx ?_
 refine JG.ret ?_;exact JG.leave rfl rfl Try.func37 (fun τ d=>results_tmp (t:=6) rfl _ _ _) h
def Y9 (last:Int) (l:List (Nat × Nat)):Nat × Nat:=(l.find? fun q=>decide (last < q.1)).getD (l.headD (0,0))
theorem Xcv {tn last:Int} (l:List (Nat × Nat)) (hl0:0 < l.length) (hl:l.length < 100) (hg:∀ (j:Nat) (q:Nat × Nat),l[j]? = some q→x.cell? (th g j)=some (P0 q.2)) (hnum:∀ (j:Nat) (q:Nat × Nat),l[j]? = some q→x.cell? (th q.2 1)=some (.int .i64 q.1))
 (h:JG Try.prog Post C (G (c.finish (P0 (Y9 last l).2)) cs) x):∀ (k i:Nat),i + k=l.length→∀ (u4 u5 u6 u8 u9 B0 B1 B2 B3 B4 B5 B6 B7 B8 B9 D0 D1 D2 D3 D4 D5 D6 D7 D8 D9 E0 E1 E2 E3 E4 E5 E6 E7 E8 E9 G3 G4 G5 G6 G7 G8 G9 H0 H4 H5 H6 H7 H8 H9:Value),(l.find? fun q=>decide (last < q.1))=((l.drop i).find? fun q=>decide (last < q.1)) →
 JG Try.prog Post C (G ((base 37).at ⟨#[.int .i64 tn,.slice (some ⟨g,0,none⟩) l.length cap,P0 pb,P0 pv,u4,u5,u6,.int .i64 last,u8,u9,B0,B1,B2,B3,B4,B5,B6,B7,B8,B9,D0,D1,D2,D3,D4,D5,D6,D7,D8,D9,E0,E1,E2,E3,E4,E5,E6,E7,E8,E9,.slice (some ⟨g,0,none⟩) l.length cap,.int .i64 l.length,.int .i64 i,G3,G4,G5,G6,G7,G8,G9,H0,H4,H5,H6,H7,H8,H9],[]⟩ [.code (Code.nav (Try.f37.body.getD .skip) [1,1,1,1,0,1,0,0]),.inLoop (Code.nav (Try.f37.body.getD .skip) [1,1,1,1,0,1,0,0]),.inBlock 0,.code (Code.nav (Try.f37.body.getD .skip) [1,1,1,1,1])]) (c::cs)) x:=by
 intro k
 induction k with
 | zero =>
  intro i hik u4 u5 u6 u8 u9 B0 B1 B2 B3 B4 B5 B6 B7 B8 B9 D0 D1 D2 D3 D4 D5 D6 D7 D8 D9 E0 E1 E2 E3 E4 E5 E6 E7 E8 E9 G3 G4 G5 G6 G7 G8 G9 H0 H4 H5 H6 H7 H8 H9 hf;simp only [Try.f37,Option.getD_some,Code.nav];have hx:decide ((i:Int) < l.length)=false:=by simp;omega
  have hxN:decide (i < l.length)=false:=by simp;omega
  obtain ⟨q,hq⟩:∃ q,l[0]? = some q:=⟨_,List.getElem?_eq_getElem hl0⟩
  have hres:Y9 last l=q:=by
   unfold Y9;rw [hf,List.drop_of_length_le (by omega)];cases l with
   | nil=>simp at hq
   | cons a l=>simp at hq;simp [hq]
  rw [hres] at h;have g0:x.cell? (th g 0)=some (P0 q.2):=hg 0 q hq;replace hf:=HD hf;clear hg hnum hf
  repeat refine kx ?_
  refine JG.exit (by rfl) ?_
  repeat refine kx ?_
  refine JG.ret ?_;exact JG.leave rfl rfl Try.func37 (fun τ d=>results_tmp (t:=6) rfl _ _ _) h
 | succ k ih =>
  intro i hik u4 u5 u6 u8 u9 B0 B1 B2 B3 B4 B5 B6 B7 B8 B9 D0 D1 D2 D3 D4 D5 D6 D7 D8 D9 E0 E1 E2 E3 E4 E5 E6 E7 E8 E9 G3 G4 G5 G6 G7 G8 G9 H0 H4 H5 H6 H7 H8 H9 hf;simp only [Try.f37,Option.getD_some,Code.nav] at ih ⊢;have hx:decide ((i:Int) < l.length)=true:=by simp;omega
  have hxN:decide (i < l.length)=true:=by simp;omega
  have hlt:i < l.length:=by omega
  obtain ⟨q,hq⟩:∃ q,l[i]? = some q:=⟨_,List.getElem?_eq_getElem hlt⟩
  have gi:=hg i q hq;have ni:=hnum i q hq;have hd:l.drop i=q::l.drop (i + 1):=by
   rw [List.drop_eq_getElem_cons hlt];rw [List.getElem?_eq_getElem hlt] at hq;rw [OI hq]
  have hw:IntKind.i64.wrap ((i:Int) + 1)=((i + 1:Nat):Int):=by rw [IntKind.wrap_i64];omega
  have hlt':(i:Int) < l.length:=by omega
  replace ih:=HD ih;replace hg:=HD hg;replace hnum:=HD hnum;cases hc:decide (last < (q.1:Int)) with
  | true =>
   have hres:Y9 last l=q:=by
    unfold Y9;rw [hf,hd];simp only [List.find?_cons,hc];rfl
   rw [hres] at h;replace hf:=HD hf;replace hd:=HD hd
   repeat refine kx ?_
   refine JG.ret ?_;exact JG.leave rfl rfl Try.func37 (fun τ d=>results_tmp (t:=6) rfl _ _ _) h
  | false =>
   have hf':(l.find? fun q=>decide (last < q.1))=((l.drop (i + 1)).find? fun q=>decide (last < q.1)):=by rw [hf,hd];simp only [List.find?_cons,hc]
   replace hf:=HD hf;replace hf':=HD hf';replace hd:=HD hd;replace h:=HD h
   repeat refine kx ?_
   refine JG.inLoop ?_;exact ih.out (i + 1) (by omega) _ _ _ _ _ _ _ _ _ _ _ _ _ _ _ _ _ _ _ _ _ _ _ _ _ _ _ _ _ _ _ _ _ _ _ _ _ _ _ _ _ _ _ _ _ _ _ _ _ hf'.out
theorem Xe9 {gw:Nat} {po:Option Addr} {wc:Nat} (l:List (Nat × Nat)) (went:List Nat) (hp:x.cell? (th pb 0)=some (.slice po pn pc)) (hm:pn≤went.length) (hpv:x.cell? (th pv 0)=some (P0 rb)) (hrb:x.cell? (th rb 3)=some (.slice (some ⟨gw,0,none⟩) went.length wc)∨went = [])
 (hw0:∀ (j q:Nat),went[j]? = some q→x.cell? (th gw j)=some (.int .i64 q)) (hwl:went.length < 100000) (hl0:0 < l.length) (hl:l.length < 100) (hg:∀ (j:Nat) (q:Nat × Nat),l[j]? = some q→x.cell? (th g j)=some (P0 q.2)) (hnum:∀ (j:Nat) (q:Nat × Nat),l[j]? = some q→x.cell? (th q.2 1)=some (.int .i64 q.1))
 (h:JG Try.prog Post C (G (c.finish (P0 (Y9 (match went.getLast? with|some q=>(q:Int)|none=>-1) l).2)) cs) x) :
 JG Try.prog Post C (G (Frame.enter Try.prog 37 #[.int .i64 went.length,.slice (some ⟨g,0,none⟩) l.length cap,P0 pb,P0 pv] .normal) (c::cs)) x:=by
 have hlp:=fun tn last h=>@Xcv Post C x c cs pb pv g cap tn last l hl0 hl hg hnum h l.length 0 (by omega);simp only [Try.f37,Option.getD_some,Code.nav] at hlp;replace hlp:=HD hlp;replace hg:=HD hg;replace hnum:=HD hnum;rcases Nat.eq_zero_or_pos went.length with h0|hpos
 ·obtain rfl:went = []:=List.length_eq_zero_iff.1 h0
  obtain rfl:pn=0:=by simpa using hm
  replace h:=HD h;clear hw0 hrb h0 hm hwl;refine Xu Try.func37 (by rfl) (by rfl) ?_;simp only [Try.f37,Option.getD_some,List.length_nil];walk_nrm
  repeat refine kx ?_
  refine JG.loop ?_;refine hlp.out 0 (-1) h.out _ _ _ _ _ _ _ _ _ _ _ _ _ _ _ _ _ _ _ _ _ _ _ _ _ _ _ _ _ _ _ _ _ _ _ _ _ _ _ _ _ _ _ _ _ _ _ _ _ ?_
  rfl
 ·have h1:decide ((went.length:Int) < pn)=false:=by simp;omega
  have h2:decide (went.length < pn)=false:=by simp;omega
  have h3:decide (0 < went.length)=true:=by simp;omega
  have h4:decide ((0:Int) < went.length)=true:=by simp;omega
  obtain ⟨q,hq⟩:∃ q,went[went.length - 1]? = some q:=⟨_,List.getElem?_eq_getElem (by omega)⟩
  have hlast:went.getLast? = some q:=by rw [List.getLast?_eq_getElem?];exact hq
  rw [hlast] at h;have gq:=hw0 _ q hq;have hrb':x.cell? (th rb 3)=some (.slice (some ⟨gw,0,none⟩) went.length wc):=by
   rcases hrb with h|h
   ·exact h
   ·rw [h] at hpos;simp at hpos
  obtain ⟨n,hn⟩:∃ n,went.length=n + 1:=⟨went.length - 1,by omega⟩
  have hw:IntKind.i64.wrap ((went.length:Int) - 1)=(n:Int):=by rw [IntKind.wrap_i64];omega
  have e0:went.length - 1=n:=by omega
  rw [e0] at gq;have h5:n < went.length:=by omega
  have h6:(n:Int) < went.length:=by omega
  replace h:=HD h;replace hn:=HD hn;clear hw0 hrb hm hwl hq hlast e0;generalize went.length=tn at h1 h2 h3 h4 hrb' hw h5 h6 hpos ⊢;refine Xu Try.func37 (by rfl) (by rfl) ?_;simp only [Try.f37,Option.getD_some];walk_nrm
  repeat refine kx ?_
  refine JG.loop ?_;refine hlp.out tn q h.out _ _ _ _ _ _ _ _ _ _ _ _ _ _ _ _ _ _ _ _ _ _ _ _ _ _ _ _ _ _ _ _ _ _ _ _ _ _ _ _ _ _ _ _ _ _ _ _ _ ?_
  rfl
theorem Xay (went:List Nat) (l:List (Nat × Nat)) (hl:0 < l.length) :
 Y9 (match went.getLast? with|some q=>(q:Int)|none=>-1) l∈l ∧
  (Y9 (match went.getLast? with|some q=>(q:Int)|none=>-1) l).1=(((l.map (·.1)).find? fun t=>match went.getLast? with|some q=>decide (q < t)|none=>true)).getD ((l.map (·.1)).headD 0):=by
 have hfun:(fun q:Nat × Nat=>decide ((match went.getLast? with|some q=>(q:Int)|none=>-1) < (q.1:Int)))=(fun t:Nat=>match went.getLast? with|some q=>decide (q < t)|none=>true) ∘ (·.1):=by
  funext q
  cases went.getLast? with
  | none=>simp;omega
  | some w=>simp
 unfold Y9;rw [hfun,List.find?_map];cases hf:l.find? ((fun t:Nat=>match went.getLast? with|some q=>decide (q < t)|none=>true) ∘ (·.1)) with
 | none =>
  cases l with
  | nil=>simp at hl
  | cons a l=>simp
 | some q=>exact ⟨List.mem_of_find?_eq_some hf,rfl⟩
theorem XfS {gw:Nat} {po:Option Addr} {wc:Nat} (picks:List Int) (l:List (Nat × Nat)) (went:List Nat) (hp:x.cell? (th pb 0)=some (.slice po picks.length pc)) (hpo:picks≠[]→∃ gp og,po=some ⟨gp,og,none⟩∧∀ (j:Nat) (q:Int),picks[j]? = some q→x.cell? ⟨gp,og + j,none⟩=some (.int .i64 q))
 (hpv:x.cell? (th pv 0)=some (P0 rb)) (hrb:x.cell? (th rb 3)=some (.slice (some ⟨gw,0,none⟩) went.length wc)∨went = [])
 (hw0:∀ (j q:Nat),went[j]? = some q→x.cell? (th gw j)=some (.int .i64 q)) (hwl:went.length < 100000) (hl0:0 < l.length) (hl:l.length < 100) (hg:∀ (j:Nat) (q:Nat × Nat),l[j]? = some q→x.cell? (th g j)=some (P0 q.2)) (hnum:∀ (j:Nat) (q:Nat × Nat),l[j]? = some q→x.cell? (th q.2 1)=some (.int .i64 q.1))
 (h:∀ q,q∈l→q.1=picked picks went (l.map (·.1))→JG Try.prog Post C (G (c.finish (P0 q.2)) cs) x) :
 JG Try.prog Post C (G (Frame.enter Try.prog 37 #[.int .i64 went.length,.slice (some ⟨g,0,none⟩) l.length cap,P0 pb,P0 pv] .normal) (c::cs)) x:=by
 rcases Nat.lt_or_ge went.length picks.length with hm|hm
 ·obtain ⟨gp,og,rfl,hgp⟩:=hpo (by rintro rfl;simp at hm)
  obtain ⟨p,hp1⟩:∃ p,picks[went.length]? = some p:=⟨_,List.getElem?_eq_getElem hm⟩
  have hz:(0:Int) < l.length:=by omega
  have b1:=Int.emod_nonneg p (show (l.length:Int)≠0 by omega);have b2:=Int.emod_lt_of_pos p hz;have hk:(p % (l.length:Int)).toNat < l.length:=by omega
  obtain ⟨q,hq⟩:∃ q,l[(p % (l.length:Int)).toNat]? = some q:=⟨_,List.getElem?_eq_getElem hk⟩
  refine Xfa hp hm (hgp _ _ hp1) hl0 hl (hg _ _ hq) (h q (List.mem_of_getElem? hq) ?_);unfold picked;rw [hp1];simp only [List.length_map,List.getD_eq_getElem?_getD,List.getElem?_map,hq]
  rfl
 ·obtain ⟨e1,e2⟩:=Xay went l hl0
  refine Xe9 l went hp hm hpv hrb hw0 hwl hl0 hl hg hnum (h _ e1 ?_);unfold picked;rw [List.getElem?_eq_none hm];exact e2
end
section
variable {Post:Value→World→Prop} {C:Ctx} {x:World} {c:Frame} {cs:List Frame} {tb rb N num n:Nat} {vT vM vL vW vR vF:Value} {stops:Bool} {went ready:List Value} {ao:Option Addr} {lc:Nat} {kk:List Item}
theorem XfJ {u1 u2 u3 u4 u5 u6 u7 u8 u9 B0 B1 B3 B5 B6 B7 B8 B9 D0 D1 D2 D3 D4 D5 D6 D7 D8 D9 E0 E1 E2 E3 E4 E5 E6 E7 E8 E9 G0 G1 G2 G3 G4 G5 G6 G7 G8 G9 H0 H4 H5 H6 H7 H8 H9 I1 I2 I3 I4 I5 I6 I7 I8 I9 J0 J1 J2 J3 J4 J5 J6 J7 J8 J9 K0 K1 K2 K3:Value} (h1:x.cell? (th tb 1)=some (.int .i64 num)) (hr:x.heap[rb]? = some (.cells (XH vT vM vL vW vR vF stops) 85 (0,0))) (hW:x.ownsRow N 3 1 vW went.length went) (hN:N≤x.heap.size) (hWr:vW.ownBlock≠some rb) (hWt:vW.ownBlock≠some tb) (hlen:went.length < 70000) (hne:tb≠rb)
 (h:∀ (y:World) (vW':Value) (u4 u5 u6 u7 u8 u9 B0 B1 B3 B5 B6 B7 B8 B9 D0 D1 D2 D3 D4 D5 D6 D7 D8 D9 E0 E1 E2 E3 E4 E5 E6 E7 E8 E9 G0 G1 G2 G3 G4 G5 G6 G7 G8 G9 H0 H4 H5 H6 H7 H8 H9 I1 I2 I3 I4 I5 I6 I7 I8 I9 J0 J1 J2 J3 J4 J5 J6 J7 J8 J9 K0 K1 K2 K3:Value),y.heap[rb]? = some (.cells (XH vT vM vL vW' vR vF stops) 85 (0,0))→y.ownsRow N 3 1 vW' (went.length + 1) (went ++ [.int .i64 num])→(vW'.ownBlock=vW.ownBlock∨∃ g,vW'.ownBlock=some g∧x.heap.size≤g)→x.heap.size≤y.heap.size→(∀ r,r < x.heap.size→r≠rb→some r≠vW.ownBlock→y.heap[r]? = x.heap[r]?) →
   JG Try.prog Post C (G ((base 36).at ⟨List.toArray ((P0 rb)::u1::u2::u3::u4::u5::u6::u7::u8::u9::B0::B1::(.slice ao n lc)::B3::(P0 tb)::B5::B6::B7::B8::B9::D0::D1::D2::D3::D4::D5::D6::D7::D8::D9::E0::E1::E2::E3::E4::E5::E6::E7::E8::E9::G0::G1::G2::G3::G4::G5::G6::G7::G8::G9::H0::H4::H5::H6::H7::H8::H9::I1::I2::I3::I4::I5::I6::I7::I8::I9::J0::J1::J2::J3::J4::J5::J6::J7::J8::J9::K0::K1::K2::K3::[]),[]⟩ (.code (Code.nav (Try.f36.body.getD .skip) [1,1,0,0,0,1,1,1,1,1])::kk)) (c::cs)) y) :
 JG Try.prog Post C (G ((base 36).at ⟨List.toArray ((P0 rb)::u1::u2::u3::u4::u5::u6::u7::u8::u9::B0::B1::(.slice ao n lc)::B3::(P0 tb)::B5::B6::B7::B8::B9::D0::D1::D2::D3::D4::D5::D6::D7::D8::D9::E0::E1::E2::E3::E4::E5::E6::E7::E8::E9::G0::G1::G2::G3::G4::G5::G6::G7::G8::G9::H0::H4::H5::H6::H7::H8::H9::I1::I2::I3::I4::I5::I6::I7::I8::I9::J0::J1::J2::J3::J4::J5::J6::J7::J8::J9::K0::K1::K2::K3::[]),[]⟩ (.code (Code.nav (Try.f36.body.getD .skip) [1,1,0,0,0,1,1,1,1,0])::.code (Code.nav (Try.f36.body.getD .skip) [1,1,0,0,0,1,1,1,1,1])::kk)) (c::cs)) x:=by
 simp only [Try.f36,Option.getD_some,Code.nav] at h ⊢;obtain ⟨i0,hi0,hz0,hz1,hz2⟩:=XM UI;refine JG.code (XO _) (by kernel_rfl) rfl (.inr (by kernel_rfl)) rfl (fun K R hK hR τ=>?_);replace hK:=HD hK;clear hR;replace h:=HD h;obtain ⟨y,hy⟩:∃ y,y=under x τ 0:=⟨_,rfl⟩
 have hyh:y.heap=x.heap:=by rw [hy];rfl
 rw [← hy];have zr:=hr;rw [← hyh] at zr;have k0:y.cell? (th rb 3)=some vW:=Xa zr 3;have f0:y.frozen? (th rb 3)=false:=Xe zr 3;have k1:y.cell? (th tb 1)=some (.int .i64 num):=by rw [hy];exact h1
 have HOT:Hid (((y.alloc (.cells #[.int .i64 num] 3)).drew).ownsRow N 3 1 vW went.length went):=HD (((by rw [hy];exact hW:y.ownsRow N 3 1 vW went.length went).alloc _).drew);have hN':N≤y.heap.size:=by rw [hyh];exact hN
 have e0:rb < y.heap.size:=Xt k0;have e1:rb < y.heap.size + 1:=by omega
 have e2:tb < y.heap.size:=Xt k1;have e3:tb < y.heap.size + 1:=by omega
 have HY:=HD hyh;have HR:=HD zr;clear hy hyh hr h1 hW hN zr;have m1:Hid (went.length + 1≤maxLen):=HD (by unfold maxLen;omega);have m2:Hid ((went.length + 1) * 8≤140737488355328):=HD (by omega)
 go_region_law (first
  | (refine step_append_lies _ (by rfl) _ _ _ (by rfl) N 3 i0 _ 1 8 Try.underlying22 hi0 hz0 hz1 hz2 rfl (by omega) vW went.length went (by rfl) HOT.out ⟨y.heap.size,0,none⟩ 1 1 [.int .i64 num] (by rfl) (by rfl) (World.news_of_block (cs:=#[.int .i64 num]) (t:=3) (fr:=(0,0)) (heap_alloc_new y _)) (by simp [Value.oneCell']) (by omega) m1.out m2.out (by first | (simp;done) | (simp;omega)) (y.heap.size + 1) (by simp) ?_
     intro g cap w' HG1 HG2 HG3 HG4;have HB:=HD HG2;have HO:=HD HG1;have HG:=HD HG3;clear HG1 HG2 HG3 HG4;have g0:w'.heap[rb]? = some (.cells (XH vT vM vL vW vR vF stops) 85 (0,0)):=by
      rw [HB.out.block rb (by simp;omega) (fun e=>hWr e.symm),XI,Xl,Array.getElem?_push,if_neg (by omega)];exact HR.out
     have HQ:=HD g0;have q0:w'.cell? (th rb 3)=some vW:=Xa g0 3;have q1:w'.frozen? (th rb 3)=false:=Xe g0 3;have q2:w'.cell? (th tb 1)=some (.int .i64 num):=HB.out.cell (XU k1) (fun e=>hWt e.symm);clear g0))
 all_goals (
  show K _ _;refine hK.out _ _ ?_;refine h.out _ (.slice (some ⟨g,0,none⟩) (went.length + 1) cap) _ _ _ _ _ _ _ _ _ _ _ _ _ _ _ _ _ _ _ _ _ _ _ _ _ _ _ _ _ _ _ _ _ _ _ _ _ _ _ _ _ _ _ _ _ _ _ _ _ _ _ _ _ _ _ _ _ _ _ _ _ _ _ _ _ _ _ _ _ _ _ _ _ _ ?_ ?_ ?_ ?_ ?_
  ·rw [Xd HQ.out];rfl
  ·refine Xj HO.out fun g' hg'=>Xb ?_
   obtain rfl:g=g':=by simpa [Value.ownBlock] using hg'
   rintro rfl;rcases HG.out with h|h
   ·exact hWr h
   ·omega
  ·rcases HG.out with h|h
   ·exact .inl h.symm
   ·exact .inr ⟨g,rfl,by rw [← HY.out];omega⟩
  ·rw [Xh,← HY.out];have:=HB.out.size;simp at this;omega
  ·intro r h1 h2 h3
   rw [← HY.out] at h1;rw [Xb h2,HB.out.block r (by simp;omega) h3,XI,Xl,Array.getElem?_push,if_neg (by omega),HY.out])
theorem Xe1 {u1 u2 u3 u4 u5 u6 u7 u8 u9 B0 B1 B3 B5 B6 B7 B8 B9 D0 D1 D2 D3 D4 D5 D6 D7 D8 D9 E0 E1 E2 E3 E4 E5 E6 E7 E8 E9 G0 G1 G2 G3 G4 G5 G6 G7 G8 G9 H0 H4 H5 H6 H7 H8 H9 I1 I2 I3 I4 I5 I6 I7 I8 I9 J0 J1 J2 J3 J4 J5 J6 J7 J8 J9 K0 K1 K2 K3:Value} (hr:x.heap[rb]? = some (.cells (XH vT vM vL vW vR vF stops) 85 (0,0))) (hW:x.ownsRow N 3 1 vR ready.length ready) (hN:N≤x.heap.size) (hWr:vR.ownBlock≠some rb) (hlen:ready.length < 70000)
 (h:∀ (y:World) (vR':Value) (u4 u5 u6 u7 u8 u9 B0 B1 B3 B5 B6 B7 B8 B9 D0 D1 D2 D3 D4 D5 D6 D7 D8 D9 E0 E1 E2 E3 E4 E5 E6 E7 E8 E9 G0 G1 G2 G3 G4 G5 G6 G7 G8 G9 H0 H4 H5 H6 H7 H8 H9 I1 I2 I3 I4 I5 I6 I7 I8 I9 J0 J1 J2 J3 J4 J5 J6 J7 J8 J9 K0 K1 K2 K3:Value),y.heap[rb]? = some (.cells (XH vT vM vL vW vR' vF stops) 85 (0,0))→y.ownsRow N 3 1 vR' (ready.length + 1) (ready ++ [.int .i64 n])→(vR'.ownBlock=vR.ownBlock∨∃ g,vR'.ownBlock=some g∧x.heap.size≤g)→x.heap.size≤y.heap.size→(∀ r,r < x.heap.size→r≠rb→some r≠vR.ownBlock→y.heap[r]? = x.heap[r]?) →
   JG Try.prog Post C (G ((base 36).at ⟨List.toArray ((P0 rb)::u1::u2::u3::u4::u5::u6::u7::u8::u9::B0::B1::(.slice ao n lc)::B3::(P0 tb)::B5::B6::B7::B8::B9::D0::D1::D2::D3::D4::D5::D6::D7::D8::D9::E0::E1::E2::E3::E4::E5::E6::E7::E8::E9::G0::G1::G2::G3::G4::G5::G6::G7::G8::G9::H0::H4::H5::H6::H7::H8::H9::I1::I2::I3::I4::I5::I6::I7::I8::I9::J0::J1::J2::J3::J4::J5::J6::J7::J8::J9::K0::K1::K2::K3::[]),[]⟩ (.code (Code.nav (Try.f36.body.getD .skip) [1,1,0,0,0,1,1,1,1,1,1])::kk)) (c::cs)) y) :
 JG Try.prog Post C (G ((base 36).at ⟨List.toArray ((P0 rb)::u1::u2::u3::u4::u5::u6::u7::u8::u9::B0::B1::(.slice ao n lc)::B3::(P0 tb)::B5::B6::B7::B8::B9::D0::D1::D2::D3::D4::D5::D6::D7::D8::D9::E0::E1::E2::E3::E4::E5::E6::E7::E8::E9::G0::G1::G2::G3::G4::G5::G6::G7::G8::G9::H0::H4::H5::H6::H7::H8::H9::I1::I2::I3::I4::I5::I6::I7::I8::I9::J0::J1::J2::J3::J4::J5::J6::J7::J8::J9::K0::K1::K2::K3::[]),[]⟩ (.code (Code.nav (Try.f36.body.getD .skip) [1,1,0,0,0,1,1,1,1,1])::kk)) (c::cs)) x:=by
 simp only [Try.f36,Option.getD_some,Code.nav] at h ⊢;obtain ⟨i0,hi0,hz0,hz1,hz2⟩:=XM UI;refine JG.seq ?_;refine JG.code (XO _) (by kernel_rfl) rfl (.inr (by kernel_rfl)) rfl (fun K R hK hR τ=>?_);replace hK:=HD hK;clear hR;replace h:=HD h;obtain ⟨y,hy⟩:∃ y,y=under x τ 0:=⟨_,rfl⟩
 have hyh:y.heap=x.heap:=by rw [hy];rfl
 rw [← hy];have zr:=hr;rw [← hyh] at zr;have k0:y.cell? (th rb 4)=some vR:=Xa zr 4;have f0:y.frozen? (th rb 4)=false:=Xe zr 4;have HOT:Hid ((y.alloc (.cells #[.int .i64 n] 3)).ownsRow N 3 1 vR ready.length ready):=HD ((by rw [hy];exact hW:y.ownsRow N 3 1 vR ready.length ready).alloc _);have N4:Hid (N≤(y.alloc (.cells #[.int .i64 n] 3)).heap.size):=HD (by simp [hyh];omega);have e0:rb < y.heap.size:=Xt k0;have HY:=HD hyh;have HR:=HD zr;clear hy hyh hr hW hN zr;have m1:Hid (ready.length + 1≤maxLen):=HD (by unfold maxLen;omega);have m2:Hid ((ready.length + 1) * 8≤140737488355328):=HD (by omega)
 go_wp2_with (first
  | (at_builtin
     refine wpList_append_lies _ rfl _ _ 22 rfl N 3 i0 _ 1 8 Try.underlying22 hi0 hz0 hz1 hz2 rfl (by decide) _ ready.length ready rfl HOT.out ⟨y.heap.size,0,none⟩ 1 1 [.int .i64 n] rfl rfl (World.news_of_block (cs:=#[.int .i64 n]) (t:=3) (fr:=(0,0)) (heap_alloc_new y _)) (by simp [Value.oneCell']) (by omega) m1.out m2.out N4.out _ rfl ?_;intro g cap w' HG1 HG2 HG3 HG4;have HB:=HD HG2;have HO:=HD HG1;have HG:=HD HG3;clear HG1 HG2 HG3 HG4;have g0:w'.heap[rb]? = some (.cells (XH vT vM vL vW vR vF stops) 85 (0,0)):=by
      rw [HB.out.block rb (by simp;omega) (fun e=>hWr e.symm),Xl,Array.getElem?_push,if_neg (by omega)];exact HR.out
     have HQ:=HD g0;have q0:w'.cell? (th rb 4)=some vR:=Xa g0 4;have q1:w'.frozen? (th rb 4)=false:=Xe g0 4;clear g0))
 all_goals (
  show K _ _;refine hK.out _ _ ?_;refine h.out _ (.slice (some ⟨g,0,none⟩) (ready.length + 1) cap) _ _ _ _ _ _ _ _ _ _ _ _ _ _ _ _ _ _ _ _ _ _ _ _ _ _ _ _ _ _ _ _ _ _ _ _ _ _ _ _ _ _ _ _ _ _ _ _ _ _ _ _ _ _ _ _ _ _ _ _ _ _ _ _ _ _ _ _ _ _ _ _ _ _ ?_ ?_ ?_ ?_ ?_
  ·rw [Xd HQ.out];rfl
  ·refine Xj HO.out fun g' hg'=>Xb ?_
   obtain rfl:g=g':=by simpa [Value.ownBlock] using hg'
   rintro rfl;rcases HG.out with h|h
   ·exact hWr h
   ·simp at h;omega
  ·rcases HG.out with h|h
   ·exact .inl h.symm
   ·exact .inr ⟨g,rfl,by rw [← HY.out];simp at h;omega⟩
  ·rw [Xh,← HY.out];have:=HB.out.size;simp at this;omega
  ·intro r h1 h2 h3
   rw [← HY.out] at h1;rw [Xb h2,HB.out.block r (by simp;omega) h3,Xl,Array.getElem?_push,if_neg (by omega),HY.out])
