/- What stands in a run under way: the gate's own memory. -/
import Derived.Test.YtdhnggjmegilkaaSRnL
import Derived.Laws.Small
import Derived.BigRegion
import Derived.BigQuiet
import Derived.Deep.RegionLaw
import Derived.Deep.RegionWith
import Derived.Deep.AppendLies
import Derived.Laws.EntriesVeiled
set_option linter.all false
set_option maxRecDepth 100000
set_option maxHeartbeats 16000000
namespace Go.Proofs.Ytdhnggjmegilkaa
open Go.Conc Go.RowKit
open Go.ConcN (upd upd_same upd_ne)
set_option maxRecDepth 100000
theorem Xct (p:Int) (n:Nat) (hn:0 < n) (h:n < 100):(((p.tmod n) + n).tmod n)=p % n:=by
 have hz:(0:Int) < n:=by omega
 rw [tmod_eq_if p n]
 split
 ·have h1:=Int.emod_nonneg p (show (n:Int)≠0 by omega)
  have h2:=Int.emod_lt_of_pos p hz;rw [Int.tmod_eq_emod_of_nonneg (by omega),Int.add_emod_right,Int.emod_emod_of_dvd _ (Int.dvd_refl _)]
 ·have h1:=Int.emod_nonneg (-p) (show (n:Int)≠0 by omega)
  have h2:=Int.emod_lt_of_pos (-p) hz;rw [Int.tmod_eq_emod_of_nonneg (by omega),Int.add_emod_right]
  have:(-((-p) % (n:Int))) % n=p % n:=by
   have e1:=Int.emod_add_mul_ediv p n;have e2:=Int.emod_add_mul_ediv (-p) n;have e3 : -((-p) % (n:Int))=p + n * ((-p) / n):=by omega
   rw [e3,Int.add_mul_emod_self_left]
  exact this
section
variable {Post:Value→World→Prop} {C:Ctx} {x:World} {c:Frame} {cs:List Frame} {pb pv rb g gp n pn pc cap m:Nat} {p:Int} {tbj:Nat}
theorem Xfa (hp:x.cell? (th pb 0)=some (.slice (some ⟨gp,0,none⟩) pn pc)) (hm:m < pn) (hpm:x.cell? (th gp m)=some (.int .i64 p)) (hn:0 < n) (hn2:n < 100) (hg:x.cell? (th g (p % n).toNat)=some (P0 tbj))
 (h:JG Try.prog Post C (G (c.finish (P0 tbj)) cs) x) :
 JG Try.prog Post C (G (Frame.enter Try.prog 83 #[.int .i64 m,.slice (some ⟨g,0,none⟩) n cap,P0 pb,P0 pv] .normal) (c::cs)) x:=by
 have h1:decide ((m:Int) < pn)=true:=by simp;omega
 have h2:decide (m < pn)=true:=by simp;omega
 refine Xu Try.func83 (by rfl) (by rfl) ?_;simp only [Try.f83,Option.getD_some];walk_nrm;have hz:(0:Int) < n:=by omega
 have b1:=Int.emod_nonneg p (show (n:Int)≠0 by omega);have b2:=Int.emod_lt_of_pos p hz;obtain ⟨k,hk⟩:∃ k:Nat,p % n=k:=⟨(p % n).toNat,by omega⟩
 have hq:(p.tmod n + n).tmod n=(k:Int):=(Xct p n hn hn2).trans hk;have hw:IntKind.i64.wrap (p.tmod n + n)=p.tmod n + n:=by
  have : -(n:Int) < p.tmod n∧p.tmod n < n:=by
   rw [tmod_eq_if p n];have h1:=Int.emod_nonneg (-p) (show (n:Int)≠0 by omega);have h2:=Int.emod_lt_of_pos (-p) hz
   split<;>constructor<;>omega
  rw [IntKind.wrap_i64];omega
 rw [hk] at hg;have hg':x.cell? (th g k)=some (P0 tbj):=hg;have hn0:¬ n=0:=by omega
 have hkn:k < n:=by omega
 have hki:(k:Int) < n:=by omega
 clear hg b1 b2 hk hz
 repeat refine kx ?_
 refine JG.ret ?_;exact JG.leave rfl rfl Try.func83 (fun τ d=>results_tmp (t:=6) rfl _ _ _) h
def Y9 (last:Int) (l:List (Nat × Nat)):Nat × Nat:=(l.find? fun q=>decide (last < q.1)).getD (l.headD (0,0))
theorem Xcv {tn last:Int} (l:List (Nat × Nat)) (hl0:0 < l.length) (hl:l.length < 100) (hg:∀ (j:Nat) (q:Nat × Nat),l[j]? = some q→x.cell? (th g j)=some (P0 q.2)) (hnum:∀ (j:Nat) (q:Nat × Nat),l[j]? = some q→x.cell? (th q.2 1)=some (.int .i64 q.1))
 (h:JG Try.prog Post C (G (c.finish (P0 (Y9 last l).2)) cs) x):∀ (k i:Nat),i + k=l.length→∀ (u4 u5 u6 u8 u9 B0 B1 B2 B3 B4 B5 B6 B7 B8 B9 D0 D1 D2 D3 D4 D5 D6 D7 D8 D9 E0 E1 E2 E3 E4 E5 E6 E7 E8 E9 G3 G4 G5 G6 G7 G8 G9 H4 H5 H6 H7 H8 H9 I0:Value),(l.find? fun q=>decide (last < q.1))=((l.drop i).find? fun q=>decide (last < q.1)) →
 JG Try.prog Post C (G ((base 83).at ⟨#[.int .i64 tn,.slice (some ⟨g,0,none⟩) l.length cap,P0 pb,P0 pv,u4,u5,u6,.int .i64 last,u8,u9,B0,B1,B2,B3,B4,B5,B6,B7,B8,B9,D0,D1,D2,D3,D4,D5,D6,D7,D8,D9,E0,E1,E2,E3,E4,E5,E6,E7,E8,E9,.slice (some ⟨g,0,none⟩) l.length cap,.int .i64 l.length,.int .i64 i,G3,G4,G5,G6,G7,G8,G9,H4,H5,H6,H7,H8,H9,I0],[]⟩ [.code (Code.nav (Try.f83.body.getD .skip) [1,1,1,1,0,1,0,0]),.inLoop (Code.nav (Try.f83.body.getD .skip) [1,1,1,1,0,1,0,0]),.inBlock 0,.code (Code.nav (Try.f83.body.getD .skip) [1,1,1,1,1])]) (c::cs)) x:=by
 intro k
 induction k with
 | zero =>
  intro i hik u4 u5 u6 u8 u9 B0 B1 B2 B3 B4 B5 B6 B7 B8 B9 D0 D1 D2 D3 D4 D5 D6 D7 D8 D9 E0 E1 E2 E3 E4 E5 E6 E7 E8 E9 G3 G4 G5 G6 G7 G8 G9 H4 H5 H6 H7 H8 H9 I0 hf;simp only [Try.f83,Option.getD_some,Code.nav];have hx:decide ((i:Int) < l.length)=false:=by simp;omega
  have hxN:decide (i < l.length)=false:=by simp;omega
  obtain ⟨q,hq⟩:∃ q,l[0]? = some q:=⟨_,List.getElem?_eq_getElem hl0⟩
  have hres:Y9 last l=q:=by
   unfold Y9;rw [hf,List.drop_of_length_le (by omega)];cases l with
   | nil=>simp at hq
   | cons a l=>simp at hq;simp [hq]
  rw [hres] at h;have g0:x.cell? (th g 0)=some (P0 q.2):=hg 0 q hq;replace hf:=HD hf;clear hg hnum hf
  repeat refine kx ?_
  refine JG.exit (by rfl) ?_
  repeat refine kx ?_
  refine JG.ret ?_;exact JG.leave rfl rfl Try.func83 (fun τ d=>results_tmp (t:=6) rfl _ _ _) h
 | succ k ih =>
  intro i hik u4 u5 u6 u8 u9 B0 B1 B2 B3 B4 B5 B6 B7 B8 B9 D0 D1 D2 D3 D4 D5 D6 D7 D8 D9 E0 E1 E2 E3 E4 E5 E6 E7 E8 E9 G3 G4 G5 G6 G7 G8 G9 H4 H5 H6 H7 H8 H9 I0 hf;simp only [Try.f83,Option.getD_some,Code.nav] at ih ⊢;have hx:decide ((i:Int) < l.length)=true:=by simp;omega
  have hxN:decide (i < l.length)=true:=by simp;omega
  have hlt:i < l.length:=by omega
  obtain ⟨q,hq⟩:∃ q,l[i]? = some q:=⟨_,List.getElem?_eq_getElem hlt⟩
  have gi:=hg i q hq;have ni:=hnum i q hq;have hd:l.drop i=q::l.drop (i + 1):=by
   rw [List.drop_eq_getElem_cons hlt];rw [List.getElem?_eq_getElem hlt] at hq;rw [OI hq]
  have hw:IntKind.i64.wrap ((i:Int) + 1)=((i + 1:Nat):Int):=by rw [IntKind.wrap_i64];omega
  have hlt':(i:Int) < l.length:=by omega
  replace ih:=HD ih;replace hg:=HD hg;replace hnum:=HD hnum;cases hc:decide (last < (q.1:Int)) with
  | true =>
   have hres:Y9 last l=q:=by
    unfold Y9;rw [hf,hd];simp only [List.find?_cons,hc];rfl
   rw [hres] at h;replace hf:=HD hf;replace hd:=HD hd
   repeat refine kx ?_
   refine JG.ret ?_;exact JG.leave rfl rfl Try.func83 (fun τ d=>results_tmp (t:=6) rfl _ _ _) h
  | false =>
   have hf':(l.find? fun q=>decide (last < q.1))=((l.drop (i + 1)).find? fun q=>decide (last < q.1)):=by rw [hf,hd];simp only [List.find?_cons,hc]
   replace hf:=HD hf;replace hf':=HD hf';replace hd:=HD hd;replace h:=HD h
   repeat refine kx ?_
   refine JG.inLoop ?_;exact ih.out (i + 1) (by omega) _ _ _ _ _ _ _ _ _ _ _ _ _ _ _ _ _ _ _ _ _ _ _ _ _ _ _ _ _ _ _ _ _ _ _ _ _ _ _ _ _ _ _ _ _ _ _ _ _ hf'.out
theorem Xe9 {gw:Nat} {po:Option Addr} {wc:Nat} (l:List (Nat × Nat)) (went:List Nat) (hp:x.cell? (th pb 0)=some (.slice po pn pc)) (hm:pn≤went.length) (hpv:x.cell? (th pv 0)=some (P0 rb)) (hrb:x.cell? (th rb 3)=some (.slice (some ⟨gw,0,none⟩) went.length wc)∨went = [])
 (hw0:∀ (j q:Nat),went[j]? = some q→x.cell? (th gw j)=some (.int .i64 q)) (hwl:went.length < 100000) (hl0:0 < l.length) (hl:l.length < 100) (hg:∀ (j:Nat) (q:Nat × Nat),l[j]? = some q→x.cell? (th g j)=some (P0 q.2)) (hnum:∀ (j:Nat) (q:Nat × Nat),l[j]? = some q→x.cell? (th q.2 1)=some (.int .i64 q.1))
 (h:JG Try.prog Post C (G (c.finish (P0 (Y9 (match went.getLast? with|some q=>(q:Int)|none=>-1) l).2)) cs) x) :
 JG Try.prog Post C (G (Frame.enter Try.prog 83 #[.int .i64 went.length,.slice (some ⟨g,0,none⟩) l.length cap,P0 pb,P0 pv] .normal) (c::cs)) x:=by
 have hlp:=fun tn last h=>@Xcv Post C x c cs pb pv g cap tn last l hl0 hl hg hnum h l.length 0 (by omega);simp only [Try.f83,Option.getD_some,Code.nav] at hlp;replace hlp:=HD hlp;replace hg:=HD hg;replace hnum:=HD hnum;rcases Nat.eq_zero_or_pos went.length with h0|hpos
 ·obtain rfl:went = []:=List.length_eq_zero_iff.1 h0
  obtain rfl:pn=0:=by simpa using hm
  replace h:=HD h;clear hw0 hrb h0 hm hwl;refine Xu Try.func83 (by rfl) (by rfl) ?_;simp only [Try.f83,Option.getD_some,List.length_nil];walk_nrm
  repeat refine kx ?_
  refine JG.loop ?_;refine hlp.out 0 (-1) h.out _ _ _ _ _ _ _ _ _ _ _ _ _ _ _ _ _ _ _ _ _ _ _ _ _ _ _ _ _ _ _ _ _ _ _ _ _ _ _ _ _ _ _ _ _ _ _ _ _ ?_
  rfl
 ·have h1:decide ((went.length:Int) < pn)=false:=by simp;omega
  have h2:decide (went.length < pn)=false:=by simp;omega
  have h3:decide (0 < went.length)=true:=by simp;omega
  have h4:decide ((0:Int) < went.length)=true:=by simp;omega
  obtain ⟨q,hq⟩:∃ q,went[went.length - 1]? = some q:=⟨_,List.getElem?_eq_getElem (by omega)⟩
  have hlast:went.getLast? = some q:=by rw [List.getLast?_eq_getElem?];exact hq
  rw [hlast] at h;have gq:=hw0 _ q hq;have hrb':x.cell? (th rb 3)=some (.slice (some ⟨gw,0,none⟩) went.length wc):=by
   rcases hrb with h|h
   ·exact h
   ·rw [h] at hpos;simp at hpos
  obtain ⟨n,hn⟩:∃ n,went.length=n + 1:=⟨went.length - 1,by omega⟩
  have hw:IntKind.i64.wrap ((went.length:Int) - 1)=(n:Int):=by rw [IntKind.wrap_i64];omega
  have e0:went.length - 1=n:=by omega
  rw [e0] at gq;have h5:n < went.length:=by omega
  have h6:(n:Int) < went.length:=by omega
  replace h:=HD h;replace hn:=HD hn;clear hw0 hrb hm hwl hq hlast e0;generalize went.length=tn at h1 h2 h3 h4 hrb' hw h5 h6 hpos ⊢;refine Xu Try.func83 (by rfl) (by rfl) ?_;simp only [Try.f83,Option.getD_some];walk_nrm
  repeat refine kx ?_
  refine JG.loop ?_;refine hlp.out tn q h.out _ _ _ _ _ _ _ _ _ _ _ _ _ _ _ _ _ _ _ _ _ _ _ _ _ _ _ _ _ _ _ _ _ _ _ _ _ _ _ _ _ _ _ _ _ _ _ _ _ ?_
  rfl
theorem Xay (went:List Nat) (l:List (Nat × Nat)) (hl:0 < l.length) :
 Y9 (match went.getLast? with|some q=>(q:Int)|none=>-1) l∈l ∧
  (Y9 (match went.getLast? with|some q=>(q:Int)|none=>-1) l).1=(((l.map (·.1)).find? fun t=>match went.getLast? with|some q=>decide (q < t)|none=>true)).getD ((l.map (·.1)).headD 0):=by
 have hfun:(fun q:Nat × Nat=>decide ((match went.getLast? with|some q=>(q:Int)|none=>-1) < (q.1:Int)))=(fun t:Nat=>match went.getLast? with|some q=>decide (q < t)|none=>true) ∘ (·.1):=by
  funext q
  cases went.getLast? with
  | none=>simp;omega
  | some w=>simp
 unfold Y9;rw [hfun,List.find?_map];cases hf:l.find? ((fun t:Nat=>match went.getLast? with|some q=>decide (q < t)|none=>true) ∘ (·.1)) with
 | none =>
  cases l with
  | nil=>simp at hl
  | cons a l=>simp
 | some q=>exact ⟨List.mem_of_find?_eq_some hf,rfl⟩
theorem XfS {gw:Nat} {po:Option Addr} {wc:Nat} (picks:List Int) (l:List (Nat × Nat)) (went:List Nat) (hp:x.cell? (th pb 0)=some (.slice po picks.length pc)) (hpo:picks≠[]→∃ gp,po=some ⟨gp,0,none⟩∧∀ (j:Nat) (q:Int),picks[j]? = some q→x.cell? (th gp j)=some (.int .i64 q))
 (hpv:x.cell? (th pv 0)=some (P0 rb)) (hrb:x.cell? (th rb 3)=some (.slice (some ⟨gw,0,none⟩) went.length wc)∨went = [])
 (hw0:∀ (j q:Nat),went[j]? = some q→x.cell? (th gw j)=some (.int .i64 q)) (hwl:went.length < 100000) (hl0:0 < l.length) (hl:l.length < 100) (hg:∀ (j:Nat) (q:Nat × Nat),l[j]? = some q→x.cell? (th g j)=some (P0 q.2)) (hnum:∀ (j:Nat) (q:Nat × Nat),l[j]? = some q→x.cell? (th q.2 1)=some (.int .i64 q.1))
 (h:∀ q,q∈l→q.1=picked picks went (l.map (·.1))→JG Try.prog Post C (G (c.finish (P0 q.2)) cs) x) :
 JG Try.prog Post C (G (Frame.enter Try.prog 83 #[.int .i64 went.length,.slice (some ⟨g,0,none⟩) l.length cap,P0 pb,P0 pv] .normal) (c::cs)) x:=by
 rcases Nat.lt_or_ge went.length picks.length with hm|hm
 ·obtain ⟨gp,rfl,hgp⟩:=hpo (by rintro rfl;simp at hm)
  obtain ⟨p,hp1⟩:∃ p,picks[went.length]? = some p:=⟨_,List.getElem?_eq_getElem hm⟩
  have hz:(0:Int) < l.length:=by omega
  have b1:=Int.emod_nonneg p (show (l.length:Int)≠0 by omega);have b2:=Int.emod_lt_of_pos p hz;have hk:(p % (l.length:Int)).toNat < l.length:=by omega
  obtain ⟨q,hq⟩:∃ q,l[(p % (l.length:Int)).toNat]? = some q:=⟨_,List.getElem?_eq_getElem hk⟩
  refine Xfa hp hm (hgp _ _ hp1) hl0 hl (hg _ _ hq) (h q (List.mem_of_getElem? hq) ?_);unfold picked;rw [hp1];simp only [List.length_map,List.getD_eq_getElem?_getD,List.getElem?_map,hq]
  rfl
 ·obtain ⟨e1,e2⟩:=Xay went l hl0
  refine Xe9 l went hp hm hpv hrb hw0 hwl hl0 hl hg hnum (h _ e1 ?_);unfold picked;rw [List.getElem?_eq_none hm];exact e2
end
section
variable {Post:Value→World→Prop} {C:Ctx} {x:World} {c:Frame} {cs:List Frame} {tb rb N num n:Nat} {vT vM vL vW vR vF:Value} {stops:Bool} {went ready:List Value} {ao:Option Addr} {lc:Nat} {kk:List Item}
theorem XfJ {u1 u2 u3 u4 u5 u6 u7 u8 u9 B0 B1 B3 B5 B6 B7 B8 B9 D0 D1 D2 D3 D4 D5 D6 D7 D8 D9 E0 E1 E2 E3 E4 E5 E6 E7 E8 E9 G0 G1 G2 G3 G4 G5 G6 G7 G8 G9 H4 H5 H6 H7 H8 H9 I0 I1 I2 I3 I4 I5 I6 I7 I8 I9 J0 J1 J2 J3 J4 J5 J6 J7 J8 J9 K0 K1 K4 K5:Value} (h1:x.cell? (th tb 1)=some (.int .i64 num)) (hr:x.heap[rb]? = some (.cells (XH vT vM vL vW vR vF stops) 179 (0,0))) (hW:x.ownsRow N 3 1 vW went.length went) (hN:N≤x.heap.size) (hWr:vW.ownBlock≠some rb) (hWt:vW.ownBlock≠some tb) (hlen:went.length < 70000) (hne:tb≠rb)
 (h:∀ (y:World) (vW':Value) (u4 u5 u6 u7 u8 u9 B0 B1 B3 B5 B6 B7 B8 B9 D0 D1 D2 D3 D4 D5 D6 D7 D8 D9 E0 E1 E2 E3 E4 E5 E6 E7 E8 E9 G0 G1 G2 G3 G4 G5 G6 G7 G8 G9 H4 H5 H6 H7 H8 H9 I0 I1 I2 I3 I4 I5 I6 I7 I8 I9 J0 J1 J2 J3 J4 J5 J6 J7 J8 J9 K0 K1 K4 K5:Value),y.heap[rb]? = some (.cells (XH vT vM vL vW' vR vF stops) 179 (0,0))→y.ownsRow N 3 1 vW' (went.length + 1) (went ++ [.int .i64 num])→(vW'.ownBlock=vW.ownBlock∨∃ g,vW'.ownBlock=some g∧x.heap.size≤g)→x.heap.size≤y.heap.size→(∀ r,r < x.heap.size→r≠rb→some r≠vW.ownBlock→y.heap[r]? = x.heap[r]?) →
   JG Try.prog Post C (G ((base 82).at ⟨List.toArray ((P0 rb)::u1::u2::u3::u4::u5::u6::u7::u8::u9::B0::B1::(.slice ao n lc)::B3::(P0 tb)::B5::B6::B7::B8::B9::D0::D1::D2::D3::D4::D5::D6::D7::D8::D9::E0::E1::E2::E3::E4::E5::E6::E7::E8::E9::G0::G1::G2::G3::G4::G5::G6::G7::G8::G9::H4::H5::H6::H7::H8::H9::I0::I1::I2::I3::I4::I5::I6::I7::I8::I9::J0::J1::J2::J3::J4::J5::J6::J7::J8::J9::K0::K1::K4::K5::[]),[]⟩ (.code (Code.nav (Try.f82.body.getD .skip) [1,1,0,0,0,1,1,1,1,1])::kk)) (c::cs)) y) :
 JG Try.prog Post C (G ((base 82).at ⟨List.toArray ((P0 rb)::u1::u2::u3::u4::u5::u6::u7::u8::u9::B0::B1::(.slice ao n lc)::B3::(P0 tb)::B5::B6::B7::B8::B9::D0::D1::D2::D3::D4::D5::D6::D7::D8::D9::E0::E1::E2::E3::E4::E5::E6::E7::E8::E9::G0::G1::G2::G3::G4::G5::G6::G7::G8::G9::H4::H5::H6::H7::H8::H9::I0::I1::I2::I3::I4::I5::I6::I7::I8::I9::J0::J1::J2::J3::J4::J5::J6::J7::J8::J9::K0::K1::K4::K5::[]),[]⟩ (.code (Code.nav (Try.f82.body.getD .skip) [1,1,0,0,0,1,1,1,1,0])::.code (Code.nav (Try.f82.body.getD .skip) [1,1,0,0,0,1,1,1,1,1])::kk)) (c::cs)) x:=by
 simp only [Try.f82,Option.getD_some,Code.nav] at h ⊢;obtain ⟨i0,hi0,hz0,hz1,hz2⟩:=XM UI;refine JG.code (XO _) (by kernel_rfl) rfl (.inr (by kernel_rfl)) rfl (fun K R hK hR τ=>?_);replace hK:=HD hK;clear hR;replace h:=HD h;obtain ⟨y,hy⟩:∃ y,y=under x τ 0:=⟨_,rfl⟩
 have hyh:y.heap=x.heap:=by rw [hy];rfl
 rw [← hy];have zr:=hr;rw [← hyh] at zr;have k0:y.cell? (th rb 3)=some vW:=Xa zr 3;have f0:y.frozen? (th rb 3)=false:=Xe zr 3;have k1:y.cell? (th tb 1)=some (.int .i64 num):=by rw [hy];exact h1
 have HOT:Hid (((y.alloc (.cells #[.int .i64 num] 3)).drew).ownsRow N 3 1 vW went.length went):=HD (((by rw [hy];exact hW:y.ownsRow N 3 1 vW went.length went).alloc _).drew);have hN':N≤y.heap.size:=by rw [hyh];exact hN
 have e0:rb < y.heap.size:=Xt k0;have e1:rb < y.heap.size + 1:=by omega
 have e2:tb < y.heap.size:=Xt k1;have e3:tb < y.heap.size + 1:=by omega
 have HY:=HD hyh;have HR:=HD zr;clear hy hyh hr h1 hW hN zr;have m1:Hid (went.length + 1≤maxLen):=HD (by unfold maxLen;omega);have m2:Hid ((went.length + 1) * 8≤140737488355328):=HD (by omega)
 go_region_law (first
  | (refine step_append_lies _ (by rfl) _ _ _ (by rfl) N 3 i0 _ 1 8 Try.underlying24 hi0 hz0 hz1 hz2 rfl (by omega) vW went.length went (by rfl) HOT.out ⟨y.heap.size,0,none⟩ 1 1 [.int .i64 num] (by rfl) (by rfl) (World.news_of_block (cs:=#[.int .i64 num]) (t:=3) (fr:=(0,0)) (heap_alloc_new y _)) (by simp [Value.oneCell']) (by omega) m1.out m2.out (by first | (simp;done) | (simp;omega)) (y.heap.size + 1) (by simp) ?_
     intro g cap w' HG1 HG2 HG3 HG4;have HB:=HD HG2;have HO:=HD HG1;have HG:=HD HG3;clear HG1 HG2 HG3 HG4;have g0:w'.heap[rb]? = some (.cells (XH vT vM vL vW vR vF stops) 179 (0,0)):=by
      rw [HB.out.block rb (by simp;omega) (fun e=>hWr e.symm),XI,Xl,Array.getElem?_push,if_neg (by omega)];exact HR.out
     have HQ:=HD g0;have q0:w'.cell? (th rb 3)=some vW:=Xa g0 3;have q1:w'.frozen? (th rb 3)=false:=Xe g0 3;have q2:w'.cell? (th tb 1)=some (.int .i64 num):=HB.out.cell (XU k1) (fun e=>hWt e.symm);clear g0))
 all_goals (
  show K _ _;refine hK.out _ _ ?_;refine h.out _ (.slice (some ⟨g,0,none⟩) (went.length + 1) cap) _ _ _ _ _ _ _ _ _ _ _ _ _ _ _ _ _ _ _ _ _ _ _ _ _ _ _ _ _ _ _ _ _ _ _ _ _ _ _ _ _ _ _ _ _ _ _ _ _ _ _ _ _ _ _ _ _ _ _ _ _ _ _ _ _ _ _ _ _ _ _ _ _ _ ?_ ?_ ?_ ?_ ?_
  ·rw [Xd HQ.out];rfl
  ·refine Xj HO.out fun g' hg'=>Xb ?_
   obtain rfl:g=g':=by simpa [Value.ownBlock] using hg'
   rintro rfl;rcases HG.out with h|h
   ·exact hWr h
   ·omega
  ·rcases HG.out with h|h
   ·exact .inl h.symm
   ·exact .inr ⟨g,rfl,by rw [← HY.out];omega⟩
  ·rw [Xh,← HY.out];have:=HB.out.size;simp at this;omega
  ·intro r h1 h2 h3
   rw [← HY.out] at h1;rw [Xb h2,HB.out.block r (by simp;omega) h3,XI,Xl,Array.getElem?_push,if_neg (by omega),HY.out])
theorem Xe1 {u1 u2 u3 u4 u5 u6 u7 u8 u9 B0 B1 B3 B5 B6 B7 B8 B9 D0 D1 D2 D3 D4 D5 D6 D7 D8 D9 E0 E1 E2 E3 E4 E5 E6 E7 E8 E9 G0 G1 G2 G3 G4 G5 G6 G7 G8 G9 H4 H5 H6 H7 H8 H9 I0 I1 I2 I3 I4 I5 I6 I7 I8 I9 J0 J1 J2 J3 J4 J5 J6 J7 J8 J9 K0 K1 K4 K5:Value} (hr:x.heap[rb]? = some (.cells (XH vT vM vL vW vR vF stops) 179 (0,0))) (hW:x.ownsRow N 3 1 vR ready.length ready) (hN:N≤x.heap.size) (hWr:vR.ownBlock≠some rb) (hlen:ready.length < 70000)
 (h:∀ (y:World) (vR':Value) (u4 u5 u6 u7 u8 u9 B0 B1 B3 B5 B6 B7 B8 B9 D0 D1 D2 D3 D4 D5 D6 D7 D8 D9 E0 E1 E2 E3 E4 E5 E6 E7 E8 E9 G0 G1 G2 G3 G4 G5 G6 G7 G8 G9 H4 H5 H6 H7 H8 H9 I0 I1 I2 I3 I4 I5 I6 I7 I8 I9 J0 J1 J2 J3 J4 J5 J6 J7 J8 J9 K0 K1 K4 K5:Value),y.heap[rb]? = some (.cells (XH vT vM vL vW vR' vF stops) 179 (0,0))→y.ownsRow N 3 1 vR' (ready.length + 1) (ready ++ [.int .i64 n])→(vR'.ownBlock=vR.ownBlock∨∃ g,vR'.ownBlock=some g∧x.heap.size≤g)→x.heap.size≤y.heap.size→(∀ r,r < x.heap.size→r≠rb→some r≠vR.ownBlock→y.heap[r]? = x.heap[r]?) →
   JG Try.prog Post C (G ((base 82).at ⟨List.toArray ((P0 rb)::u1::u2::u3::u4::u5::u6::u7::u8::u9::B0::B1::(.slice ao n lc)::B3::(P0 tb)::B5::B6::B7::B8::B9::D0::D1::D2::D3::D4::D5::D6::D7::D8::D9::E0::E1::E2::E3::E4::E5::E6::E7::E8::E9::G0::G1::G2::G3::G4::G5::G6::G7::G8::G9::H4::H5::H6::H7::H8::H9::I0::I1::I2::I3::I4::I5::I6::I7::I8::I9::J0::J1::J2::J3::J4::J5::J6::J7::J8::J9::K0::K1::K4::K5::[]),[]⟩ (.code (Code.nav (Try.f82.body.getD .skip) [1,1,0,0,0,1,1,1,1,1,1])::kk)) (c::cs)) y) :
 JG Try.prog Post C (G ((base 82).at ⟨List.toArray ((P0 rb)::u1::u2::u3::u4::u5::u6::u7::u8::u9::B0::B1::(.slice ao n lc)::B3::(P0 tb)::B5::B6::B7::B8::B9::D0::D1::D2::D3::D4::D5::D6::D7::D8::D9::E0::E1::E2::E3::E4::E5::E6::E7::E8::E9::G0::G1::G2::G3::G4::G5::G6::G7::G8::G9::H4::H5::H6::H7::H8::H9::I0::I1::I2::I3::I4::I5::I6::I7::I8::I9::J0::J1::J2::J3::J4::J5::J6::J7::J8::J9::K0::K1::K4::K5::[]),[]⟩ (.code (Code.nav (Try.f82.body.getD .skip) [1,1,0,0,0,1,1,1,1,1])::kk)) (c::cs)) x:=by
 simp only [Try.f82,Option.getD_some,Code.nav] at h ⊢;obtain ⟨i0,hi0,hz0,hz1,hz2⟩:=XM UI;refine JG.seq ?_;refine JG.code (XO _) (by kernel_rfl) rfl (.inr (by kernel_rfl)) rfl (fun K R hK hR τ=>?_);replace hK:=HD hK;clear hR;replace h:=HD h;obtain ⟨y,hy⟩:∃ y,y=under x τ 0:=⟨_,rfl⟩
 have hyh:y.heap=x.heap:=by rw [hy];rfl
 rw [← hy];have zr:=hr;rw [← hyh] at zr;have k0:y.cell? (th rb 4)=some vR:=Xa zr 4;have f0:y.frozen? (th rb 4)=false:=Xe zr 4;have HOT:Hid ((y.alloc (.cells #[.int .i64 n] 3)).ownsRow N 3 1 vR ready.length ready):=HD ((by rw [hy];exact hW:y.ownsRow N 3 1 vR ready.length ready).alloc _);have N4:Hid (N≤(y.alloc (.cells #[.int .i64 n] 3)).heap.size):=HD (by simp [hyh];omega);have e0:rb < y.heap.size:=Xt k0;have HY:=HD hyh;have HR:=HD zr;clear hy hyh hr hW hN zr;have m1:Hid (ready.length + 1≤maxLen):=HD (by unfold maxLen;omega);have m2:Hid ((ready.length + 1) * 8≤140737488355328):=HD (by omega)
 go_wp2_with (first
  | (at_builtin
     refine wpList_append_lies _ rfl _ _ 24 rfl N 3 i0 _ 1 8 Try.underlying24 hi0 hz0 hz1 hz2 rfl (by decide) _ ready.length ready rfl HOT.out ⟨y.heap.size,0,none⟩ 1 1 [.int .i64 n] rfl rfl (World.news_of_block (cs:=#[.int .i64 n]) (t:=3) (fr:=(0,0)) (heap_alloc_new y _)) (by simp [Value.oneCell']) (by omega) m1.out m2.out N4.out _ rfl ?_;intro g cap w' HG1 HG2 HG3 HG4;have HB:=HD HG2;have HO:=HD HG1;have HG:=HD HG3;clear HG1 HG2 HG3 HG4;have g0:w'.heap[rb]? = some (.cells (XH vT vM vL vW vR vF stops) 179 (0,0)):=by
      rw [HB.out.block rb (by simp;omega) (fun e=>hWr e.symm),Xl,Array.getElem?_push,if_neg (by omega)];exact HR.out
     have HQ:=HD g0;have q0:w'.cell? (th rb 4)=some vR:=Xa g0 4;have q1:w'.frozen? (th rb 4)=false:=Xe g0 4;clear g0))
 all_goals (
  show K _ _;refine hK.out _ _ ?_;refine h.out _ (.slice (some ⟨g,0,none⟩) (ready.length + 1) cap) _ _ _ _ _ _ _ _ _ _ _ _ _ _ _ _ _ _ _ _ _ _ _ _ _ _ _ _ _ _ _ _ _ _ _ _ _ _ _ _ _ _ _ _ _ _ _ _ _ _ _ _ _ _ _ _ _ _ _ _ _ _ _ _ _ _ _ _ _ _ _ _ _ _ ?_ ?_ ?_ ?_ ?_
  ·rw [Xd HQ.out];rfl
  ·refine Xj HO.out fun g' hg'=>Xb ?_
   obtain rfl:g=g':=by simpa [Value.ownBlock] using hg'
   rintro rfl;rcases HG.out with h|h
   ·exact hWr h
   ·simp at h;omega
  ·rcases HG.out with h|h
   ·exact .inl h.symm
   ·exact .inr ⟨g,rfl,by rw [← HY.out];simp at h;omega⟩
  ·rw [Xh,← HY.out];have:=HB.out.size;simp at this;omega
  ·intro r h1 h2 h3
   rw [← HY.out] at h1;rw [Xb h2,HB.out.block r (by simp;omega) h3,Xl,Array.getElem?_push,if_neg (by omega),HY.out])
end
structure Th where
 tv:Nat
 tb:Nat
 rv:Nat
 wk:Nat
 st:Nat
 ab:Nat
structure Gs where
 rb:Nat
 mb:Nat
 N:Nat
 vT:Value
 vL:Value
 vW:Value
 vR:Value
 vF:Value
 thr:List Th
 kept:Nat→Prop
 x0:World
 A:Nat→Nat
 pv:Nat→Nat→Prop
def Gs.col (g:Gs) (r:Nat):Prop :=
 g.kept r∨r=g.rb∨r=g.mb∨some r=g.vT.ownBlock∨some r=g.vL.ownBlock∨some r=g.vW.ownBlock∨some r=g.vR.ownBlock∨some r=g.vF.ownBlock∨∃ t∈g.thr,r=t.tv∨r=t.tb∨r=t.rv∨r=t.wk∨r=t.st∨r=t.ab
def Ask.at' (r:Ask) (i:Nat):Xo:=⟨i,r.op,-1,r.arg,r.new,0,0,false⟩
section
variable {Sh:Type}
structure Xgk (g:Gs) (p:Xx Sh Unit) (hold:Bool) (x:World) (i:Nat) (t:Th):Prop where
 tvo:x.heap[t.tv]? = some (.cells #[P0 t.tb] 33 (0,1))
 rvo:x.heap[t.rv]? = some (.cells #[P0 g.rb] 175 (0,0))
 wko:∃ k,x.heap[t.wk]? = some (.chan 0 #[] false k k false)
 sto:∃ k,x.heap[t.st]? = some (.chan 0 #[] false k k false)
 tbo:∃ vv a,x.heap[t.tb]? = some (.cells (Yk g.rb i t.wk t.st vv a (!hold && p.ended)) 184 (2,4))∧(hold=false→∀ r k,p=.acc r k→vv=P0 (g.A r.cell)∧a=r.at' i)
 abo:hold=false→∀ r k,p=.acc r k→x.heap[t.ab]? = some (.cells (Yj (r.at' i)).toArray 172 (0,0))
structure Xy (g:Gs) (P:Xp Sh) (h:Option Nat) (stops:Bool) (x:World):Prop where
 obj:x.heap[g.rb]? = some (.cells (XH g.vT (.map (some g.mb)) g.vL g.vW g.vR g.vF stops) 179 (0,0))
 ths:x.ownsRow g.N 33 1 g.vT g.thr.length (g.thr.map fun t=>P0 t.tb)
 fls:x.ownsRow g.N 4 1 g.vF g.thr.length (List.replicate g.thr.length (.bool false))
 lg:x.ownsRow g.N 172 8 g.vL P.st.log.length (P.st.log.flatMap Yj)
 wn:x.ownsRow g.N 3 1 g.vW P.st.went.length (P.st.went.map fun i=>.int .i64 (i:Nat))
 rd:x.ownsRow g.N 3 1 g.vR P.st.ready.length (P.st.ready.map fun i=>.int .i64 (i:Nat))
 map:MapAt x g.mb g.A P.st.names
 num:g.thr.length=P.n
 thr:∀ (i:Nat) (t:Th),g.thr[i]? = some t→Xgk g (P.progs i) (h == some i) x i t
 kept:∀ r,g.kept r→r < x.heap.size∧x.heap[r]? = g.x0.heap[r]?
 low:g.N≤x.heap.size
 abl:∀ t∈g.thr,t.ab < x.heap.size
structure Gs.Apart (g:Gs):Prop where
 wr:∀ b,g.vW.ownBlock=some b→g.vR.ownBlock≠some b
 tt:∀ t∈g.thr,g.vT.ownBlock≠some t.tv
 la:∀ t∈g.thr,g.vL.ownBlock≠some t.ab
 tb:∀ (i j:Nat) (t u:Th),g.thr[i]? = some t→g.thr[j]? = some u→t.tb=u.tb→i=j
 ab:∀ (i j:Nat) (t u:Th),g.thr[i]? = some t→g.thr[j]? = some u→t.ab=u.ab→i=j
 wk:∀ (i j:Nat) (t u:Th),g.thr[i]? = some t→g.thr[j]? = some u→t.wk=u.wk→i=j
 ws:∀ (i j:Nat) (t u:Th),g.thr[i]? = some t→g.thr[j]? = some u→t.wk≠u.st
 kept:∀ r,g.kept r→r≠g.rb∧r≠g.mb∧some r≠g.vT.ownBlock∧some r≠g.vL.ownBlock∧some r≠g.vW.ownBlock∧some r≠g.vR.ownBlock∧some r≠g.vF.ownBlock∧∀ t∈g.thr,r≠t.tb∧r≠t.wk∧r≠t.st∧r≠t.ab
variable {g:Gs} {P:Xp Sh} {h:Option Nat} {stops:Bool} {x y:World}
theorem Xgk.frame {p:Xx Sh Unit} {hold:Bool} {i:Nat} {t:Th} (H:Xgk g p hold x i t) (hy:∀ r,r=t.tv∨r=t.tb∨r=t.rv∨r=t.wk∨r=t.st∨r=t.ab→y.heap[r]? = x.heap[r]?):Xgk g p hold y i t:=by
 obtain ⟨h1,h2,⟨k3,h3⟩,⟨k4,h4⟩,⟨vv,a,h5,h6⟩,h7⟩:=H;exact ⟨(hy _ (by simp)).trans h1,(hy _ (by simp)).trans h2,⟨k3,(hy _ (by simp)).trans h3⟩,⟨k4,(hy _ (by simp)).trans h4⟩,⟨vv,a,(hy _ (by simp)).trans h5,h6⟩,fun e r k e2=>(hy _ (by simp)).trans (h7 e r k e2)⟩
theorem Xy.frame (H:Xy g P h stops x) (hy:∀ r,g.col r→y.heap[r]? = x.heap[r]?) (hs:x.heap.size≤y.heap.size):Xy g P h stops y:=by
 obtain ⟨h1,h2,h3,h4,h5,h6,h7,h8,h9,h10,h11,h12⟩:=H;have ht:∀ (i:Nat) (t:Th),g.thr[i]? = some t→∀ r,r=t.tv∨r=t.tb∨r=t.rv∨r=t.wk∨r=t.st∨r=t.ab→y.heap[r]? = x.heap[r]?:=fun i t e r hr=>hy r (by unfold Gs.col;exact .inr (.inr (.inr (.inr (.inr (.inr (.inr (.inr ⟨t,List.mem_of_getElem? e,hr⟩))))))));exact ⟨(hy _ (by simp [Gs.col])).trans h1,Xj h2 fun b e=>hy b (by simp [Gs.col,e]),Xj h3 fun b e=>hy b (by simp [Gs.col,e]),Xj h4 fun b e=>hy b (by simp [Gs.col,e]),Xj h5 fun b e=>hy b (by simp [Gs.col,e]),Xj h6 fun b e=>hy b (by simp [Gs.col,e]),
  h7.heap (hy _ (by simp [Gs.col])),h8,fun i t e=>(h9 i t e).frame (ht i t e),fun r hr=>⟨Nat.lt_of_lt_of_le (h10 r hr).1 hs,(hy r (.inl hr)).trans (h10 r hr).2⟩,Nat.le_trans h11 hs,fun t ht=>Nat.lt_of_lt_of_le (h12 t ht) hs⟩
theorem Yf {a b:Nat} {o o':Obj} (h:x.heap[a]? = some o) (h':x.heap[b]? = some o') (hn:o≠o'):a≠b:=fun e=>hn (by rw [e,h'] at h;exact (OI h).symm)
theorem Zp {N:Nat} {e:TypeId} {size:Nat} {v:Value} {n:Nat} {xs:List Value} {b:Nat} (hv:x.ownsRow N e size v n xs) (h:∀ cur,x.heap[b]?≠some (.cells cur e (0,0))):v.ownBlock≠some b:=by
 rcases hv.2 with ⟨rfl,_⟩|⟨g,cap,cur,rfl,_,hg,_⟩
 ·simp [Value.ownBlock]
 ·intro e2
  have:g=b:=by simpa [Value.ownBlock] using e2
  subst this;exact h cur hg
theorem X9 {N:Nat} {e:TypeId} {size:Nat} {v:Value} {n:Nat} {xs:List Value} {b:Nat} (hv:x.ownsRow N e size v n xs) (h:v.ownBlock=some b):∃ cur,x.heap[b]? = some (.cells cur e (0,0)):=by
 rcases hv.2 with ⟨rfl,_⟩|⟨g,cap,cur,rfl,_,hg,_⟩
 ·simp [Value.ownBlock] at h
 ·have:g=b:=by simpa [Value.ownBlock] using h
  subst this;exact ⟨cur,hg⟩
theorem Xy.access {i:Nat} {t:Th} {r:Ask} {vL':Value} (H:Xy g P (some i) false x) (hap:g.Apart) (hi:g.thr[i]? = some t) (hab:∃ cur,x.heap[t.ab]? = some (.cells cur 172 (0,0))) (hnc:¬ g.col (g.A r.cell))
 (hacc:YT x y g.rb t.ab g.mb g.N g.vT g.vL vL' g.vW g.vR g.vF false g.A P.st.names r.cell P.st.log (r.done i (P.st.cells r.cell))) :
 Xy { g with vL:=vL' } { P with st:=P.st.access i r } (some i) false y∧({ g with vL:=vL' }:Gs).Apart:=by
 obtain ⟨acur,hab⟩:=hab;obtain ⟨es,cl,hmb,_⟩:=id H.map;have hcell:∀ b,g.col b→b≠g.A r.cell:=fun b hb e=>hnc (e ▸ hb);have keepO:∀ b o,g.col b→x.heap[b]? = some o→(∀ cur,o≠.cells cur 172 (0,0))→(∀ cur,o≠.cells cur 179 (0,0))→(∀ es cl,o≠.map es cl)→y.heap[b]? = x.heap[b]?:=fun b o hb ho h1 h2 h3=>by
  refine hacc.old b (GE ho).1 (Yf ho H.obj (h2 _)) (Yf ho hab (h1 _)) (Yf ho hmb (h3 _ _)) (hcell b hb) fun e=>?_;obtain ⟨cur,hc⟩:=X9 H.lg e.symm;exact h1 cur (by rw [hc] at ho;exact (OI ho).symm)
 have hth:∀ (j:Nat) (u:Th),g.thr[j]? = some u→∀ b,b=u.tv∨b=u.tb∨b=u.rv∨b=u.wk∨b=u.st∨b=u.ab→g.col b:=fun j u e b hb=>.inr (.inr (.inr (.inr (.inr (.inr (.inr (.inr ⟨u,List.mem_of_getElem? e,hb⟩)))))));refine ⟨⟨hacc.obj,Xj H.ths fun b e=>?_,Xj H.fls fun b e=>?_,?_,Xj H.wn fun b e=>?_,Xj H.rd fun b e=>?_,hacc.map,H.num,fun j u hu=>?_,fun b hb=>?_,Nat.le_trans H.low hacc.size,fun u hu=>Nat.lt_of_lt_of_le (H.abl u hu) hacc.size⟩,?_⟩
 ·obtain ⟨cur,hc⟩:=X9 H.ths e
  exact keepO b _ (by simp [Gs.col,e]) hc (by simp) (by simp) (by simp)
 ·obtain ⟨cur,hc⟩:=X9 H.fls e
  exact keepO b _ (by simp [Gs.col,e]) hc (by simp) (by simp) (by simp)
 ·have:=hacc.log
  simp only [Rst.access,List.length_append,List.length_singleton];exact this
 ·obtain ⟨cur,hc⟩:=X9 H.wn e
  exact keepO b _ (by simp [Gs.col,e]) hc (by simp) (by simp) (by simp)
 ·obtain ⟨cur,hc⟩:=X9 H.rd e
  exact keepO b _ (by simp [Gs.col,e]) hc (by simp) (by simp) (by simp)
 ·obtain ⟨h1,h2,⟨k3,h3⟩,⟨k4,h4⟩,⟨vv,a,h5,h6⟩,h7⟩:=H.thr j u hu
  have hc:=hth j u hu;refine ⟨(keepO _ _ (hc _ (by simp)) h1 (by simp) (by simp) (by simp)).trans h1,(keepO _ _ (hc _ (by simp)) h2 (by simp) (by simp) (by simp)).trans h2,⟨k3,(keepO _ _ (hc _ (by simp)) h3 (by simp) (by simp) (by simp)).trans h3⟩,⟨k4,(keepO _ _ (hc _ (by simp)) h4 (by simp) (by simp) (by simp)).trans h4⟩,
   ⟨vv,a,(keepO _ _ (hc _ (by simp)) h5 (by simp) (by simp) (by simp)).trans h5,h6⟩,fun e q k eq=>?_⟩
  have h8:=h7 e q k eq;have hji:j≠i:=by rintro rfl;simp at e
  rw [← h8];refine hacc.old _ (GE h8).1 (Yf h8 H.obj (by simp)) (fun e2=>hji (hap.ab j i u t hu hi e2)) (Yf h8 hmb (by simp)) (hcell _ (hc _ (by simp))) fun e2=>hap.la u (List.mem_of_getElem? hu) e2.symm
 ·obtain ⟨b1,b2⟩:=H.kept b hb
  obtain ⟨k1,k2,k3,k4,k5,k6,k7,k8⟩:=hap.kept b hb;refine ⟨Nat.lt_of_lt_of_le b1 hacc.size,(hacc.old b b1 k1 (k8 t (List.mem_of_getElem? hi)).2.2.2 k2 (hcell b (.inl hb)) k4).trans b2⟩
 ·obtain ⟨p1,p2,p3,p4,p5,p6,p7,p8⟩:=hap
  have hnew:∀ b,vL'.ownBlock=some b→g.vL.ownBlock=some b∨x.heap.size≤b:=fun b e=>by
   rcases hacc.lnew with h|⟨b',h,h'⟩
   ·exact .inl (h ▸ e)
   ·rw [h] at e;obtain rfl:=OI e;exact .inr h'
  refine ⟨p1,p2,fun u hu e=>?_,p4,p5,p6,p7,fun b hb=>?_⟩
  ·rcases hnew _ e with h|h
   ·exact p3 u hu h
   ·have:=H.abl u hu;omega
  ·obtain ⟨k1,k2,k3,k4,k5,k6,k7,k8⟩:=p8 b hb
   refine ⟨k1,k2,k3,fun e=>?_,k5,k6,k7,k8⟩;rcases hnew b e.symm with h|h
   ·exact k4 h.symm
   ·have:=(H.kept b hb).1;omega
theorem Xy.stand {z:World} {i ab kk:Nat} {t:Th} {r:Ask} {k:Told→Xx Sh Unit} (H:Xy g P (some i) stops x) (hap:g.Apart) (hi:g.thr[i]? = some t) (hp:P.progs i=.acc r k) (h1:x.heap.size≤ab) (h2:ab < y.heap.size)
 (h3:y.heap[ab]? = some (.cells (Yj (r.at' i)).toArray 172 (0,0))) (h4:y.heap[t.tb]? = some (.cells (Yk g.rb i t.wk t.st (P0 (g.A r.cell)) (r.at' i) false) 184 (2,4)))
 (h5:∀ q,q≠t.tb→q < x.heap.size→y.heap[q]? = x.heap[q]?) (h6:∀ q,q≠t.st→z.heap[q]? = y.heap[q]?) (h7:z.heap[t.st]? = some (.chan 0 #[] false kk kk false)) (h8:z.heap.size=y.heap.size) :
 Xy { g with thr:=g.thr.set i { t with ab:=ab } } P none stops z∧({ g with thr:=g.thr.set i { t with ab:=ab } }:Gs).Apart:=by
 have hT:=H.thr i t hi;obtain ⟨k0,hst⟩:=hT.sto;obtain ⟨v0,a0,htb,_⟩:=hT.tbo;have hlen:i < g.thr.length:=(LE' hi).1;have hmem:t∈g.thr:=List.mem_of_getElem? hi;have keep:∀ b o,x.heap[b]? = some o→(∀ kk,o≠.chan 0 #[] false kk kk false)→b≠t.tb→z.heap[b]? = some o:=fun b o hb hc hne=>by
  rw [h6 b (Yf hb hst (hc _)),h5 b hne (GE hb).1];exact hb
 have hbt:∀ b o,x.heap[b]? = some o→(∀ cur f,o≠.cells cur 184 f)→b≠t.tb:=fun b o hb hn=>Yf hb htb (hn _ _);have hget:∀ (j:Nat) (u:Th),(g.thr.set i { t with ab:=ab })[j]? = some u→(j=i∧u = { t with ab:=ab })∨(j≠i∧g.thr[j]? = some u):=fun j u hu=>by
  rw [List.getElem?_set] at hu
  by_cases e:i=j
  ·subst e
   simp [hlen] at hu;exact .inl ⟨rfl,hu.symm⟩
  ·rw [if_neg e] at hu
   exact .inr ⟨fun e2=>e e2.symm,hu⟩
 have hmap:(g.thr.set i { t with ab:=ab }).map (fun t=>P0 t.tb)=g.thr.map fun t=>P0 t.tb:=by
  apply List.ext_getElem?;intro j;rw [List.getElem?_map,List.getElem?_map,List.getElem?_set]
  by_cases e:i=j
  ·subst e;rw [if_pos rfl,if_pos hlen,hi];rfl
  ·rw [if_neg e]
 have hown:∀ {e:TypeId} {size:Nat} {v:Value} {n:Nat} {xs:List Value},x.ownsRow g.N e size v n xs→e≠184→z.ownsRow g.N e size v n xs:=fun hv he=>Xj hv fun b hb=>by
  obtain ⟨cur,hc⟩:=X9 hv hb;rw [keep b _ hc (by simp) (hbt b _ hc (fun c f e=>by injection e with _ e2;exact he e2)),hc]
 refine ⟨⟨keep _ _ H.obj (by simp) (hbt _ _ H.obj (by simp)),?_,?_,hown H.lg (by decide),hown H.wn (by decide),hown H.rd (by decide),?_,by rw [List.length_set];exact H.num,fun j u hu=>?_,fun b hb=>?_,by rw [h8];have:=H.low;show g.N≤_;omega,fun u hu=>?_⟩,?_⟩
 ·rw [List.length_set,hmap];exact hown H.ths (by decide)
 ·rw [List.length_set];exact hown H.fls (by decide)
 ·obtain ⟨es,cl,hmb,hx⟩:=H.map
  exact ⟨es,cl,keep _ _ hmb (by simp) (hbt _ _ hmb (by simp)),hx⟩
 ·rcases hget j u hu with ⟨rfl,rfl⟩|⟨hj,hu'⟩
  ·obtain ⟨e1,e2,e3,⟨k4,e4⟩,_,_⟩:=hT
   obtain ⟨k3,e3⟩:=e3;have hws:t.wk≠t.st:=hap.ws j j t t hi hi;have hts:t.tb≠t.st:=fun e=>by rw [e,hst] at htb;cases htb
   have has:ab≠t.st:=fun e=>by rw [e] at h3;have:=h5 t.st (by intro e2;rw [e2] at hst;rw [htb] at hst;cases hst) (GE hst).1;rw [this,hst] at h3;cases h3
   refine ⟨keep _ _ e1 (by simp) (hbt _ _ e1 (by simp)),keep _ _ e2 (by simp) (hbt _ _ e2 (by simp)),⟨k3,?_⟩,⟨kk,h7⟩,⟨_,_,by rw [h6 _ hts,h4,hp];rfl,fun _ q k' e=>?_⟩,fun _ q k' e=>?_⟩
   ·show z.heap[t.wk]? = _
    rw [h6 _ hws,h5 _ (Yf e3 htb (by simp)) (GE e3).1];exact e3
   ·rw [hp] at e;injection e with e _;subst e;exact ⟨rfl,rfl⟩
   ·rw [hp] at e;injection e with e _;subst e
    show z.heap[ab]? = _;rw [h6 _ has];exact h3
  ·have hji:(some i == some j)=false:=by simp;exact fun e=>hj e.symm
   have hu2:=H.thr j u hu';rw [hji] at hu2;obtain ⟨e1,e2,⟨k3,e3⟩,⟨k4,e4⟩,⟨vv,a,e5,e6⟩,e7⟩:=hu2;have hch:∀ (b kq:Nat),x.heap[b]? = some (Obj.chan 0 #[] false kq kq false)→∃ kq,z.heap[b]? = some (Obj.chan 0 #[] false kq kq false):=fun b kq hb=>by
    by_cases e:b=t.st
    ·exact ⟨kk,by rw [e];exact h7⟩
    ·exact ⟨kq,by rw [h6 _ e,h5 _ (Yf hb htb (by simp)) (GE hb).1];exact hb⟩
   exact ⟨keep _ _ e1 (by simp) (hbt _ _ e1 (by simp)),keep _ _ e2 (by simp) (hbt _ _ e2 (by simp)),hch _ _ e3,hch _ _ e4,⟨vv,a,keep _ _ e5 (by simp) (fun e=>hj (hap.tb j i u t hu' hi e)),e6⟩,fun q r' k' e=>by
    have e8:=e7 q r' k' e;exact keep _ _ e8 (by simp) (hbt _ _ e8 (by simp))⟩
 ·obtain ⟨b1,b2⟩:=H.kept b hb
  obtain ⟨_,_,_,_,_,_,_,k8⟩:=hap.kept b hb;obtain ⟨k9,_,k10,_⟩:=k8 t hmem;exact ⟨by rw [h8];omega,by rw [h6 b k10,h5 b k9 b1];exact b2⟩
 ·obtain ⟨j,hj⟩:=List.getElem?_of_mem hu
  rw [h8];rcases hget j u hj with ⟨rfl,rfl⟩|⟨_,hu'⟩
  ·exact h2
  ·have:=H.abl u (List.mem_of_getElem? hu');omega
 ·obtain ⟨p1,p2,p3,p4,p5,p6,p7,p8⟩:=hap
  have hsub:∀ u∈g.thr.set i { t with ab:=ab },u = { t with ab:=ab }∨u∈g.thr:=fun u hu=>by
   obtain ⟨j,hj⟩:=List.getElem?_of_mem hu;rcases hget j u hj with ⟨_,rfl⟩|⟨_,hu'⟩
   ·exact .inl rfl
   ·exact .inr (List.mem_of_getElem? hu')
  have pair:∀ (f:Th→Nat),f { t with ab:=ab } = f t→(∀ (i j:Nat) (t u:Th),g.thr[i]? = some t→g.thr[j]? = some u→f t=f u→i=j)→∀ (a b:Nat) (u v:Th),(g.thr.set i { t with ab:=ab })[a]? = some u→(g.thr.set i { t with ab:=ab })[b]? = some v→f u=f v→a=b:=fun f hf hpp a b u v hu hv e=>by
   rcases hget a u hu with ⟨rfl,rfl⟩|⟨_,hu'⟩<;>rcases hget b v hv with ⟨rfl,rfl⟩|⟨_,hv'⟩
   ·rfl
   ·exact hpp _ _ t v hi hv' (by rw [← hf];exact e)
   ·exact hpp _ _ u t hu' hi (by rw [← hf];exact e)
   ·exact hpp _ _ u v hu' hv' e
  refine ⟨p1,fun u hu=>?_,fun u hu=>?_,pair (·.tb) rfl p4,?_,pair (·.wk) rfl p6,fun a b u v hu hv=>?_,fun b hb=>?_⟩
  ·rcases hsub u hu with rfl|hu'
   ·exact p2 t hmem
   ·exact p2 u hu'
  ·rcases hsub u hu with rfl|hu'
   ·intro e
    have:=own_lt H.lg e
    have e2:ab < x.heap.size:=this
    omega
   ·exact p3 u hu'
  ·intro a b u v hu hv e
   rcases hget a u hu with ⟨rfl,rfl⟩|⟨_,hu'⟩<;>rcases hget b v hv with ⟨rfl,rfl⟩|⟨_,hv'⟩
   ·rfl
   ·have:=H.abl v (List.mem_of_getElem? hv');have e:ab=v.ab:=e;omega
   ·have:=H.abl u (List.mem_of_getElem? hu');have e:u.ab=ab:=e;omega
   ·exact p5 _ _ u v hu' hv' e
  ·rcases hget a u hu with ⟨rfl,rfl⟩|⟨_,hu'⟩<;>rcases hget b v hv with ⟨rfl,rfl⟩|⟨_,hv'⟩
   ·exact p7 _ _ t t hi hi
   ·exact p7 _ _ t v hi hv'
   ·exact p7 _ _ u t hu' hi
   ·exact p7 _ _ u v hu' hv'
  ·obtain ⟨k1,k2,k3,k4,k5,k6,k7,k8⟩:=p8 b hb
   refine ⟨k1,k2,k3,k4,k5,k6,k7,fun u hu=>?_⟩;rcases hsub u hu with rfl|hu'
   ·obtain ⟨q1,q2,q3,q4⟩:=k8 t hmem
    refine ⟨q1,q2,q3,?_⟩
    have:=(H.kept b hb).1
    show b≠ab
    omega
   ·exact k8 u hu'
theorem Xy.begun {z:World} {h0:Option Nat} {vT' vF':Value} {tv tb wk st:Nat} {p:Xx Sh Unit} (H:Xy g P h0 false x) (hap:g.Apart) (hh:∀ i,h0=some i→P.n≤i)
 (B:XeD x z g.N g.rb g.vT g.vF vT' vF' (.map (some g.mb)) g.vL g.vW g.vR false (g.thr.map fun t=>P0 t.tb) (List.replicate g.thr.length (.bool false)) tv tb wk st) :
 Xy { g with vT:=vT',vF:=vF',thr:=g.thr ++ [⟨tv,tb,x.heap.size,wk,st,tb⟩] } { P with n:=P.n + 1,progs:=upd P.progs P.n p } (some P.n) false z∧({ g with vT:=vT',vF:=vF',thr:=g.thr ++ [⟨tv,tb,x.heap.size,wk,st,tb⟩] }:Gs).Apart:=by
 have hlenT:(g.thr.map fun t=>P0 t.tb).length=g.thr.length:=List.length_map _;have hlenF:(List.replicate g.thr.length (Value.bool false)).length=g.thr.length:=List.length_replicate;have keep:∀ (b:Nat) (o:Obj),x.heap[b]? = some o→(∀ cur,o≠.cells cur 179 (0,0))→(∀ cur,o≠.cells cur 33 (0,0))→(∀ cur,o≠.cells cur 4 (0,0))→z.heap[b]? = some o:=fun b o hb h1 h2 h3=>by
  rw [B.old b (GE hb).1 (Yf hb H.obj (h1 _)) (fun e=>?_) fun e=>?_]
  ·exact hb
  ·obtain ⟨cur,hc⟩:=X9 H.ths e.symm
   exact h2 cur (by rw [hc] at hb;exact (OI hb).symm)
  ·obtain ⟨cur,hc⟩:=X9 H.fls e.symm
   exact h3 cur (by rw [hc] at hb;exact (OI hb).symm)
 have hown:∀ {e:TypeId} {size:Nat} {v:Value} {n:Nat} {xs:List Value},x.ownsRow g.N e size v n xs→e≠179→e≠33→e≠4→z.ownsRow g.N e size v n xs:=fun hv e1 e2 e3=>Xj hv fun b hb=>by
  obtain ⟨cur,hc⟩:=X9 hv hb;rw [keep b _ hc (fun c e=>by injection e with _ e;exact e1 e) (fun c e=>by injection e with _ e;exact e2 e) (fun c e=>by injection e with _ e;exact e3 e),hc]
 have hget:∀ (j:Nat) (u:Th),(g.thr ++ [⟨tv,tb,x.heap.size,wk,st,tb⟩])[j]? = some u→(j < g.thr.length∧g.thr[j]? = some u)∨(j=g.thr.length∧u=⟨tv,tb,x.heap.size,wk,st,tb⟩):=fun j u hu=>by
  rcases Nat.lt_or_ge j g.thr.length with h|h
  ·rw [List.getElem?_append_left h] at hu;exact .inl ⟨h,hu⟩
  ·rw [List.getElem?_append_right h] at hu
   have hj:j - g.thr.length=0:=by
    rcases Nat.eq_zero_or_pos (j - g.thr.length) with h0|h0
    ·exact h0
    ·rw [List.getElem?_eq_none (by simp;omega)] at hu;cases hu
   rw [hj] at hu;exact .inr ⟨by omega,(OI hu).symm⟩
 refine ⟨⟨B.obj,?_,?_,hown H.lg (by decide) (by decide) (by decide),hown H.wn (by decide) (by decide) (by decide),hown H.rd (by decide) (by decide) (by decide),?_,by simp [H.num],fun j u hu=>?_,fun b hb=>?_,?_,fun u hu=>?_⟩,?_⟩
 ·have:=B.rths
  rw [hlenT] at this;simpa using this
 ·have:=B.rfls
  rw [hlenF] at this;simpa [List.replicate_succ'] using this
 ·obtain ⟨es,cl,hmb,hx⟩:=H.map
  exact ⟨es,cl,keep _ _ hmb (by simp) (by simp) (by simp),hx⟩
 ·rcases hget j u hu with ⟨hj,hu'⟩|⟨rfl,rfl⟩
  ·have hjn:j≠P.n:=by rw [← H.num];omega
   have e0:(some P.n == some j)=false:=by simp;exact fun e=>hjn e.symm
   have e1:(h0 == some j)=false:=by
    cases h0 with
    | none=>rfl
    | some q=>simp;have:=hh q rfl;rw [← H.num] at this;omega
   have hT:=H.thr j u hu';rw [e1] at hT;rw [e0,show ({ n:=P.n + 1,progs:=upd P.progs P.n p,st:=P.st }:Xp Sh).progs j=P.progs j from upd_ne _ _ hjn];obtain ⟨h1,h2,⟨k3,h3⟩,⟨k4,h4⟩,⟨vv,a,h5,h6⟩,h7⟩:=hT;exact ⟨keep _ _ h1 (by simp) (by simp) (by simp),keep _ _ h2 (by simp) (by simp) (by simp),⟨k3,keep _ _ h3 (by simp) (by simp) (by simp)⟩,⟨k4,keep _ _ h4 (by simp) (by simp) (by simp)⟩,⟨vv,a,keep _ _ h5 (by simp) (by simp) (by simp),h6⟩,fun e r k e2=>keep _ _ (h7 e r k e2) (by simp) (by simp) (by simp)⟩
  ·have e0:(some P.n == some g.thr.length)=true:=by rw [H.num];simp
   rw [e0];have ht:=B.tbo;rw [hlenT] at ht;exact ⟨B.tvo,B.rvo,B.wko,B.sto,⟨.pointer none,⟨0,0,0,0,0,0,0,false⟩,by simpa [Yo,Yk] using ht,fun e=>by cases e⟩,fun e=>by cases e⟩
 ·obtain ⟨b1,b2⟩:=H.kept b hb
  obtain ⟨k1,k2,k3,k4,k5,k6,k7,k8⟩:=hap.kept b hb;exact ⟨Nat.lt_of_lt_of_le b1 B.size,(B.old b b1 k1 k3 k7).trans b2⟩
 ·exact Nat.le_trans H.low B.size
 ·rcases List.mem_append.1 hu with h|h
  ·exact Nat.lt_of_lt_of_le (H.abl u h) B.size
  ·obtain rfl:=List.mem_singleton.1 h;exact B.tbn.2
 ·obtain ⟨p1,p2,p3,p4,p5,p6,p7,p8⟩:=hap
  have hsub:∀ u∈g.thr ++ [⟨tv,tb,x.heap.size,wk,st,tb⟩],u∈g.thr∨u=⟨tv,tb,x.heap.size,wk,st,tb⟩:=fun u hu=>(List.mem_append.1 hu).imp id fun h=>List.mem_singleton.1 h;have hlt:∀ u∈g.thr,u.tb < x.heap.size∧u.wk < x.heap.size∧u.st < x.heap.size∧u.ab < x.heap.size∧u.tv < x.heap.size:=fun u hu=>by
   obtain ⟨j,hj⟩:=List.getElem?_of_mem hu;obtain ⟨h1,h2,⟨k3,h3⟩,⟨k4,h4⟩,⟨vv,a,h5,h6⟩,h7⟩:=H.thr j u hj;exact ⟨(GE h5).1,(GE h3).1,(GE h4).1,H.abl u hu,(GE h1).1⟩
  have pair:∀ (f:Th→Nat),x.heap.size≤f ⟨tv,tb,x.heap.size,wk,st,tb⟩→(∀ u∈g.thr,f u < x.heap.size)→(∀ (i j:Nat) (t u:Th),g.thr[i]? = some t→g.thr[j]? = some u→f t=f u→i=j)→∀ (a b:Nat) (u v:Th),(g.thr ++ [⟨tv,tb,x.heap.size,wk,st,tb⟩])[a]? = some u→(g.thr ++ [⟨tv,tb,x.heap.size,wk,st,tb⟩])[b]? = some v→f u=f v→a=b:=fun f hf hl hpp a b u v hu hv e=>by
   rcases hget a u hu with ⟨_,hu'⟩|⟨rfl,rfl⟩<;>rcases hget b v hv with ⟨_,hv'⟩|⟨rfl,rfl⟩
   ·exact hpp _ _ u v hu' hv' e
   ·have:=hl u (List.mem_of_getElem? hu');omega
   ·have:=hl v (List.mem_of_getElem? hv');omega
   ·rfl
  have tn:=B.tbn.1;have wn:=B.wkn.1;have sn:=B.stn.1;refine ⟨p1,fun u hu e=>?_,fun u hu e=>?_,pair (·.tb) tn (fun u h=>(hlt u h).1) p4,pair (·.ab) tn (fun u h=>(hlt u h).2.2.2.1) p5,pair (·.wk) wn (fun u h=>(hlt u h).2.1) p6,fun a b u v hu hv=>?_,fun b hb=>?_⟩
  ·obtain ⟨cur,hc⟩:=X9 B.rths e
   rcases hsub u hu with hu'|rfl
   ·rcases B.tnew with h|⟨b',h,h'⟩
    ·exact p2 u hu' (h ▸ e)
    ·rw [h] at e
     have:b'=u.tv:=OI e
     have:=(hlt u hu').2.2.2.2
     omega
   ·have:=B.tvo
    have hc':z.heap[tv]? = _:=hc;rw [this] at hc';simp at hc'
  ·rcases hsub u hu with hu'|rfl
   ·exact p3 u hu' e
   ·have h1:=own_lt H.lg e
    have h2:tb < x.heap.size:=h1
    omega
  ·rcases hget a u hu with ⟨_,hu'⟩|⟨rfl,rfl⟩<;>rcases hget b v hv with ⟨_,hv'⟩|⟨rfl,rfl⟩
   ·exact p7 _ _ u v hu' hv'
   ·have:=(hlt u (List.mem_of_getElem? hu')).2.1
    show u.wk≠st
    omega
   ·have:=(hlt v (List.mem_of_getElem? hv')).2.2.1
    show wk≠v.st
    omega
   ·exact B.ne
  ·obtain ⟨k1,k2,k3,k4,k5,k6,k7,k8⟩:=p8 b hb
   have hb1:=(H.kept b hb).1;refine ⟨k1,k2,fun e=>?_,k4,k5,k6,fun e=>?_,fun u hu=>?_⟩
   ·rcases B.tnew with h|⟨b',h,h'⟩
    ·exact k3 (e.trans h)
    ·have e:some b=vT'.ownBlock:=e
     rw [h] at e;have:=OI e;omega
   ·rcases B.fnew with h|⟨b',h,h'⟩
    ·exact k7 (e.trans h)
    ·have e:some b=vF'.ownBlock:=e
     rw [h] at e;have:=OI e;omega
   ·rcases hsub u hu with hu'|rfl
    ·exact k8 u hu'
    ·refine ⟨?_,?_,?_,?_⟩
     ·show b≠tb;omega
     ·show b≠wk;omega
     ·show b≠st;omega
     ·show b≠tb;omega
theorem Xy.wentOn {v':Value} {q:Nat} (H:Xy g P h stops x) (hap:g.Apart) (h1:y.heap[g.rb]? = some (.cells (XH g.vT (.map (some g.mb)) g.vL v' g.vR g.vF stops) 179 (0,0)))
 (h2:y.ownsRow g.N 3 1 v' (P.st.went.length + 1) ((P.st.went.map fun i=>.int .i64 (i:Nat)) ++ [.int .i64 q])) (h3:v'.ownBlock=g.vW.ownBlock∨∃ b,v'.ownBlock=some b∧x.heap.size≤b) (h4:x.heap.size≤y.heap.size) (h5:∀ r,r < x.heap.size→r≠g.rb→some r≠g.vW.ownBlock→y.heap[r]? = x.heap[r]?) :
 Xy { g with vW:=v' } { P with st:={ P.st with went:=P.st.went ++ [q] } } h stops y∧({ g with vW:=v' }:Gs).Apart:=by
 have keep:∀ (b:Nat) (o:Obj),x.heap[b]? = some o→(∀ cur,o≠.cells cur 179 (0,0))→(∀ cur,o≠.cells cur 3 (0,0))→y.heap[b]? = some o:=fun b o hb e1 e2=>by
  rw [h5 b (GE hb).1 (Yf hb H.obj (e1 _)) fun e=>?_]
  ·exact hb
  ·obtain ⟨cur,hc⟩:=X9 H.wn e.symm
   exact e2 cur (by rw [hc] at hb;exact (OI hb).symm)
 have hown:∀ {e:TypeId} {size:Nat} {v:Value} {n:Nat} {xs:List Value},x.ownsRow g.N e size v n xs→e≠179→e≠3→y.ownsRow g.N e size v n xs:=fun hv e1 e2=>Xj hv fun b hb=>by
  obtain ⟨cur,hc⟩:=X9 hv hb;rw [keep b _ hc (fun c e=>by injection e with _ e;exact e1 e) (fun c e=>by injection e with _ e;exact e2 e),hc]
 have hoth:y.ownsRow g.N 3 1 g.vR P.st.ready.length (P.st.ready.map fun i=>.int .i64 (i:Nat)):=Xj H.rd fun b hb=>by
  obtain ⟨cur,hc⟩:=X9 H.rd hb;exact h5 b (GE hc).1 (Yf hc H.obj (by simp)) fun e=>hap.wr b e.symm hb
 have hnew:∀ b,v'.ownBlock=some b→g.vW.ownBlock=some b∨x.heap.size≤b:=fun b e=>by
  rcases h3 with h|⟨b',h,h'⟩
  ·exact .inl (h ▸ e)
  ·rw [h] at e;obtain rfl:=OI e;exact .inr h'
 refine ⟨⟨h1,hown H.ths (by decide) (by decide),hown H.fls (by decide) (by decide),hown H.lg (by decide) (by decide),by simpa using h2,hoth,?_,H.num,fun j u hu=>?_,fun b hb=>?_,Nat.le_trans H.low h4,fun u hu=>Nat.lt_of_lt_of_le (H.abl u hu) h4⟩,?_⟩
 ·obtain ⟨es,cl,hmb,hx⟩:=H.map
  exact ⟨es,cl,keep _ _ hmb (by simp) (by simp),hx⟩
 ·obtain ⟨h1,h2,⟨k3,h3⟩,⟨k4,h4⟩,⟨vv,a,h5,h6⟩,h7⟩:=H.thr j u hu
  exact ⟨keep _ _ h1 (by simp) (by simp),keep _ _ h2 (by simp) (by simp),⟨k3,keep _ _ h3 (by simp) (by simp)⟩,⟨k4,keep _ _ h4 (by simp) (by simp)⟩,⟨vv,a,keep _ _ h5 (by simp) (by simp),h6⟩,fun e r k e2=>keep _ _ (h7 e r k e2) (by simp) (by simp)⟩
 ·obtain ⟨b1,b2⟩:=H.kept b hb
  obtain ⟨k1,k2,k3,k4,k5,k6,k7,k8⟩:=hap.kept b hb;exact ⟨Nat.lt_of_lt_of_le b1 h4,(h5 b b1 k1 k5).trans b2⟩
 ·obtain ⟨p1,p2,p3,p4,p5,p6,p7,p8⟩:=hap
  refine ⟨fun b e e2=>?_,p2,p3,p4,p5,p6,p7,fun b hb=>?_⟩
  ·rcases hnew b e with h|h
   ·exact p1 b h e2
   ·have:=own_lt H.rd e2;omega
  ·obtain ⟨k1,k2,k3,k4,k5,k6,k7,k8⟩:=p8 b hb
   have hb1:=(H.kept b hb).1;refine ⟨k1,k2,k3,k4,fun e=>?_,k6,k7,k8⟩
   all_goals (
    rcases hnew b e.symm with h|h
    ·exact k5 h.symm
    ·omega)
theorem Xy.readyOn {v':Value} {q:Nat} (H:Xy g P h stops x) (hap:g.Apart) (h1:y.heap[g.rb]? = some (.cells (XH g.vT (.map (some g.mb)) g.vL g.vW v' g.vF stops) 179 (0,0)))
 (h2:y.ownsRow g.N 3 1 v' (P.st.ready.length + 1) ((P.st.ready.map fun i=>.int .i64 (i:Nat)) ++ [.int .i64 q])) (h3:v'.ownBlock=g.vR.ownBlock∨∃ b,v'.ownBlock=some b∧x.heap.size≤b) (h4:x.heap.size≤y.heap.size) (h5:∀ r,r < x.heap.size→r≠g.rb→some r≠g.vR.ownBlock→y.heap[r]? = x.heap[r]?) :
 Xy { g with vR:=v' } { P with st:={ P.st with ready:=P.st.ready ++ [q] } } h stops y∧({ g with vR:=v' }:Gs).Apart:=by
 have keep:∀ (b:Nat) (o:Obj),x.heap[b]? = some o→(∀ cur,o≠.cells cur 179 (0,0))→(∀ cur,o≠.cells cur 3 (0,0))→y.heap[b]? = some o:=fun b o hb e1 e2=>by
  rw [h5 b (GE hb).1 (Yf hb H.obj (e1 _)) fun e=>?_]
  ·exact hb
  ·obtain ⟨cur,hc⟩:=X9 H.rd e.symm
   exact e2 cur (by rw [hc] at hb;exact (OI hb).symm)
 have hown:∀ {e:TypeId} {size:Nat} {v:Value} {n:Nat} {xs:List Value},x.ownsRow g.N e size v n xs→e≠179→e≠3→y.ownsRow g.N e size v n xs:=fun hv e1 e2=>Xj hv fun b hb=>by
  obtain ⟨cur,hc⟩:=X9 hv hb;rw [keep b _ hc (fun c e=>by injection e with _ e;exact e1 e) (fun c e=>by injection e with _ e;exact e2 e),hc]
 have hoth:y.ownsRow g.N 3 1 g.vW P.st.went.length (P.st.went.map fun i=>.int .i64 (i:Nat)):=Xj H.wn fun b hb=>by
  obtain ⟨cur,hc⟩:=X9 H.wn hb;exact h5 b (GE hc).1 (Yf hc H.obj (by simp)) fun e=>hap.wr b hb e.symm
 have hnew:∀ b,v'.ownBlock=some b→g.vR.ownBlock=some b∨x.heap.size≤b:=fun b e=>by
  rcases h3 with h|⟨b',h,h'⟩
  ·exact .inl (h ▸ e)
  ·rw [h] at e;obtain rfl:=OI e;exact .inr h'
 refine ⟨⟨h1,hown H.ths (by decide) (by decide),hown H.fls (by decide) (by decide),hown H.lg (by decide) (by decide),hoth,by simpa using h2,?_,H.num,fun j u hu=>?_,fun b hb=>?_,Nat.le_trans H.low h4,fun u hu=>Nat.lt_of_lt_of_le (H.abl u hu) h4⟩,?_⟩
 ·obtain ⟨es,cl,hmb,hx⟩:=H.map
  exact ⟨es,cl,keep _ _ hmb (by simp) (by simp),hx⟩
 ·obtain ⟨h1,h2,⟨k3,h3⟩,⟨k4,h4⟩,⟨vv,a,h5,h6⟩,h7⟩:=H.thr j u hu
  exact ⟨keep _ _ h1 (by simp) (by simp),keep _ _ h2 (by simp) (by simp),⟨k3,keep _ _ h3 (by simp) (by simp)⟩,⟨k4,keep _ _ h4 (by simp) (by simp)⟩,⟨vv,a,keep _ _ h5 (by simp) (by simp),h6⟩,fun e r k e2=>keep _ _ (h7 e r k e2) (by simp) (by simp)⟩
 ·obtain ⟨b1,b2⟩:=H.kept b hb
  obtain ⟨k1,k2,k3,k4,k5,k6,k7,k8⟩:=hap.kept b hb;exact ⟨Nat.lt_of_lt_of_le b1 h4,(h5 b b1 k1 k6).trans b2⟩
 ·obtain ⟨p1,p2,p3,p4,p5,p6,p7,p8⟩:=hap
  refine ⟨fun b e e2=>?_,p2,p3,p4,p5,p6,p7,fun b hb=>?_⟩
  ·rcases hnew b e2 with h|h
   ·exact p1 b e h
   ·have:=own_lt H.wn e;omega
  ·obtain ⟨k1,k2,k3,k4,k5,k6,k7,k8⟩:=p8 b hb
   have hb1:=(H.kept b hb).1;refine ⟨k1,k2,k3,k4,k5,fun e=>?_,k7,k8⟩
   all_goals (
    rcases hnew b e.symm with h|h
    ·exact k6 h.symm
    ·omega)
theorem Xy.ended {z:World} {i kk:Nat} {t:Th} {vv:Value} {a:Xo} (H:Xy g P (some i) stops x) (hap:g.Apart) (hi:g.thr[i]? = some t) (hp:(P.progs i).ended=true) (h4:z.heap[t.tb]? = some (.cells (Yk g.rb i t.wk t.st vv a true) 184 (2,4)))
 (h6:∀ q,q≠t.tb→q≠t.st→z.heap[q]? = x.heap[q]?) (h7:z.heap[t.st]? = some (.chan 0 #[] false kk kk false)) (h8:z.heap.size=x.heap.size):Xy g P none stops z:=by
 have hT:=H.thr i t hi;obtain ⟨k0,hst⟩:=hT.sto;obtain ⟨v0,a0,htb,_⟩:=hT.tbo;have hmem:t∈g.thr:=List.mem_of_getElem? hi;have keep:∀ (b:Nat) (o:Obj),x.heap[b]? = some o→(∀ kk,o≠.chan 0 #[] false kk kk false)→b≠t.tb→z.heap[b]? = some o:=fun b o hb hc hne=>by
  rw [h6 b hne (Yf hb hst (hc _))];exact hb
 have hbt:∀ (b:Nat) (o:Obj),x.heap[b]? = some o→(∀ cur f,o≠.cells cur 184 f)→b≠t.tb:=fun b o hb hn=>Yf hb htb (hn _ _);have hown:∀ {e:TypeId} {size:Nat} {v:Value} {n:Nat} {xs:List Value},x.ownsRow g.N e size v n xs→e≠184→z.ownsRow g.N e size v n xs:=fun hv he=>Xj hv fun b hb=>by
  obtain ⟨cur,hc⟩:=X9 hv hb;rw [keep b _ hc (by simp) (hbt b _ hc (fun c f e=>by injection e with _ e2;exact he e2)),hc]
 refine ⟨keep _ _ H.obj (by simp) (hbt _ _ H.obj (by simp)),hown H.ths (by decide),hown H.fls (by decide),hown H.lg (by decide),hown H.wn (by decide),hown H.rd (by decide),?_,H.num,fun j u hu=>?_,fun b hb=>?_,by rw [h8];exact H.low,fun u hu=>by rw [h8];exact H.abl u hu⟩
 ·obtain ⟨es,cl,hmb,hx⟩:=H.map
  exact ⟨es,cl,keep _ _ hmb (by simp) (hbt _ _ hmb (by simp)),hx⟩
 ·have hch:∀ (b kq:Nat),x.heap[b]? = some (Obj.chan 0 #[] false kq kq false)→∃ kq,z.heap[b]? = some (Obj.chan 0 #[] false kq kq false):=fun b kq hb=>by
   by_cases e:b=t.st
   ·exact ⟨kk,by rw [e];exact h7⟩
   ·exact ⟨kq,by rw [h6 _ (Yf hb htb (by simp)) e];exact hb⟩
  by_cases hji:j=i
  ·subst hji
   obtain rfl:t=u:=OI (hi.symm.trans hu);obtain ⟨e1,e2,⟨k3,e3⟩,⟨k4,e4⟩,_,_⟩:=hT;refine ⟨keep _ _ e1 (by simp) (hbt _ _ e1 (by simp)),keep _ _ e2 (by simp) (hbt _ _ e2 (by simp)),hch _ _ e3,hch _ _ e4,⟨vv,a,by rw [hp];exact h4,fun _ q k' e=>?_⟩,fun _ q k' e=>?_⟩
   ·rw [e] at hp;cases hp
   ·rw [e] at hp;cases hp
  ·have e0:(some i == some j)=false:=by simp;exact fun e=>hji e.symm
   have hu2:=H.thr j u hu;rw [e0] at hu2;obtain ⟨e1,e2,⟨k3,e3⟩,⟨k4,e4⟩,⟨vv,a,e5,e6⟩,e7⟩:=hu2;exact ⟨keep _ _ e1 (by simp) (hbt _ _ e1 (by simp)),keep _ _ e2 (by simp) (hbt _ _ e2 (by simp)),hch _ _ e3,hch _ _ e4,⟨vv,a,keep _ _ e5 (by simp) (fun e=>hji (hap.tb j i u t hu hi e)),e6⟩,fun q r' k' e=>by
    have e8:=e7 q r' k' e;exact keep _ _ e8 (by simp) (hbt _ _ e8 (by simp))⟩
 ·obtain ⟨b1,b2⟩:=H.kept b hb
  obtain ⟨_,_,_,_,_,_,_,k8⟩:=hap.kept b hb;obtain ⟨k9,_,k10,_⟩:=k8 t hmem;exact ⟨by rw [h8];omega,by rw [h6 b k9 k10];exact b2⟩
