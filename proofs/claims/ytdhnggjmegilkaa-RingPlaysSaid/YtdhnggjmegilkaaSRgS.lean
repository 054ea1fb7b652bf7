/- The ring law behind its run: what stands there; the record is looked at, its walk is made and told what the cells held. -/
import Derived.Test.YtdhnggjmegilkaaSRgN
import Derived.Test.YtdhnggjmegilkaaSGtX
import Derived.Test.YtdhnggjmegilkaaSRwA
import Derived.Test.YtdhnggjmegilkaaSRgI
set_option linter.all false
set_option maxRecDepth 100000
set_option maxHeartbeats 16000000
namespace Go.Proofs.Ytdhnggjmegilkaa
open Go.Conc Go.RowKit
set_option maxRecDepth 100000
def jjR (n:Nat) (fr:Int) (k:Nat):Nat:=((k - fr) % n).toNat
theorem XaT {n:Nat} (fr:Int) (k:Nat) (hn:2≤n):jjR n fr k < n:=by
 unfold jjR;have b1:=Int.emod_nonneg ((k:Int) - fr) (show (n:Int)≠0 by omega);have b2:=Int.emod_lt_of_pos ((k:Int) - fr) (show (0:Int) < n by omega)
 omega
theorem XaU {n:Nat} (fr:Int) (k:Nat) (hn:2≤n) (hk:k < n):(fr + jjR n fr k) % n=k:=by
 unfold jjR;have b1:=Int.emod_nonneg ((k:Int) - fr) (show (n:Int)≠0 by omega);rw [Int.toNat_of_nonneg b1,Int.add_emod,Int.emod_emod,← Int.add_emod,show fr + ((k:Int) - fr)=(k:Int) by omega];exact Int.emod_eq_of_lt (by omega) (by omega)
theorem Xeu {n:Nat} (fr:Int) (j:Nat) (hn:2≤n) (hj:j < n):jjR n fr ((fr + j) % n).toNat=j:=by
 unfold jjR;have b1:=Int.emod_nonneg (fr + j) (show (n:Int)≠0 by omega);rw [Int.toNat_of_nonneg b1,Int.sub_emod,Int.emod_emod,← Int.sub_emod,show fr + (j:Int) - fr=(j:Int) by omega,Int.emod_eq_of_lt (by omega) (by omega)]
 omega
theorem Xfi {n:Nat} (fr:Int) {a b:Nat} (hn:2≤n) (ha:a < n) (hb:b < n) (h:jjR n fr a=jjR n fr b):a=b:=by
 have h1:=XaU fr a hn ha;have h2:=XaU fr b hn hb;rw [h] at h1
 omega
def AR (ci co B n:Nat) (fr:Int) (c:Nat):Nat:=if c=0 then ci else if c=1 then co else if c % 2=0 then B + 2 * jjR n fr ((c - 2) / 2) else B + 2 * jjR n fr ((c - 3) / 2) + 1
theorem VZ (ci co B n:Nat) (fr:Int) (k:Nat):AR ci co B n fr (2 + 2 * k)=B + 2 * jjR n fr k:=by
 unfold AR;rw [if_neg (by omega),if_neg (by omega),if_pos (by omega),show (2 + 2 * k - 2) / 2=k by omega]
theorem V0 (ci co B n:Nat) (fr:Int) (k:Nat):AR ci co B n fr (3 + 2 * k)=B + 2 * jjR n fr k + 1:=by
 unfold AR;rw [if_neg (by omega),if_neg (by omega),if_neg (by omega),show (3 + 2 * k - 3) / 2=k by omega]
theorem QW {n:Nat} (c:Nat) (h:c < 2 + 2 * n):c=0∨c=1∨(∃ k,k < n∧c=2 + 2 * k)∨∃ k,k < n∧c=3 + 2 * k:=by
 rcases Nat.lt_or_ge c 2 with h1|h1
 ·omega
 ·by_cases h2:c % 2=0
  ·exact .inr (.inr (.inl ⟨(c - 2) / 2,by omega,by omega⟩))
  ·exact .inr (.inr (.inr ⟨(c - 3) / 2,by omega,by omega⟩))
def vR (n:Nat) (fr:Int) (c:Nat):Int:=Y2 (hsR n fr n) (nmR c)
theorem find_range (f:Nat→Nm × Int) (m:Nm):∀ n:Nat,(∀ i j,i < n→j < n→(f i).1=(f j).1→i=j)→∀ j,j < n→(f j).1=m→((List.range n).map f).find? (fun h=>h.1 == m)=some (f j):=by
 intro n
 induction n with
 | zero=>intro _ j h;omega
 | succ n ih =>
  intro hinj j hj hm;rw [List.range_succ,List.map_append,List.find?_append];rcases Nat.lt_or_ge j n with h|h
  ·rw [ih (fun a b ha hb=>hinj a b (by omega) (by omega)) j h hm];rfl
  ·obtain rfl:j=n:=by omega
   have:((List.range j).map f).find? (fun h=>h.1 == m)=none:=by
    rw [List.find?_eq_none];intro p hp;obtain ⟨i,hi,rfl⟩:=List.mem_map.1 hp
    have:=List.mem_range.1 hi
    simp only [beq_iff_eq];exact fun e=>by have:=hinj i j (by omega) (by omega) (e.trans hm.symm);omega
   rw [this];simp [hm]
theorem Up {n:Nat} (hn:∃ k,k≤12∧n=2 ^ k) (z:Int):IntKind.i64.wrap z % n=z % n:=by
 obtain ⟨k,hk,rfl⟩:=hn;have h3:((2 ^ k:Nat):Int) ∣ ((2 ^ 64:Nat):Int):=Int.natCast_dvd_natCast.2 (Nat.pow_dvd_pow 2 (by omega));have h2:((2 ^ 64:Nat):Int)=18446744073709551616:=by decide
 rw [h2] at h3;obtain ⟨q,hq⟩:=h3;have hw:∃ t:Int,IntKind.i64.wrap z=z + 18446744073709551616 * t:=⟨(IntKind.i64.wrap z - z) / 18446744073709551616,by rw [IntKind.wrap_i64];omega⟩
 obtain ⟨t,ht⟩:=hw;rw [ht,hq,Int.mul_assoc,Int.add_mul_emod_self_left]
theorem XgV (n:Nat) (fr:Int):vR n fr 0=fr:=rfl
theorem XgU (n:Nat) (fr:Int):vR n fr 1=fr:=rfl
theorem XaV (n:Nat) (fr:Int) (m:Nm) (h0:m≠(60,0)) (h1:m≠(61,0)):(hsR n fr n).find? (fun h=>h.1 == m)=((List.range n).map fun (i:Nat)=>(((62,IntKind.i64.wrap (fr + i) % n):Nm),IntKind.i64.wrap (fr + i))).find? (fun h=>h.1 == m):=by
 unfold hsR;rw [List.find?_append];simp [Ne.symm h0,Ne.symm h1]
theorem XeH {n:Nat} (fr:Int) (hn:2≤n) (hp:∃ k,k≤12∧n=2 ^ k) {k:Nat} (hk:k < n):vR n fr (2 + 2 * k)=IntKind.i64.wrap (fr + jjR n fr k):=by
 unfold vR Y2;rw [XaP,XaV n fr _ (by simp) (by simp),find_range (fun (i:Nat)=>(((62,IntKind.i64.wrap (fr + i) % n):Nm),IntKind.i64.wrap (fr + i))) (62,(k:Int)) n (fun i j hi hj e=>?_) (jjR n fr k) (XaT fr k hn) (by show ((62:Int),_)=_;rw [Up hp,XaU fr k hn hk])];have e2:IntKind.i64.wrap (fr + i) % n=IntKind.i64.wrap (fr + j) % n:=(Prod.mk.injEq _ _ _ _).mp e |>.2
 rw [Up hp,Up hp] at e2
 have:=Xeu fr i hn hi
 rw [e2,Xeu fr j hn hj] at this;exact this.symm
theorem XeI (n:Nat) (fr:Int) (k:Nat):vR n fr (3 + 2 * k)=0:=by
 unfold vR Y2;rw [XaQ,XaV n fr _ (by simp) (by simp)]
 have:((List.range n).map fun (i:Nat)=>(((62,IntKind.i64.wrap (fr + i) % n):Nm),IntKind.i64.wrap (fr + i))).find? (fun h=>h.1 == ((63,(k:Int)):Nm))=none:=by
  rw [List.find?_eq_none];intro p hp;obtain ⟨i,hi,rfl⟩:=List.mem_map.1 hp;simp
 rw [this]
section
variable {w0 w:World} {r ci co pb B n:Nat} {fr:Int}
theorem RingAt.isC (h:RingAt w0 w r ci co pb B n fr n) (hn:2≤n) (hp:∃ k,k≤12∧n=2 ^ k) (c:Nat) (hc:c < 2 + 2 * n):XN w (AR ci co B n fr c) (vR n fr c)∧w0.heap.size≤AR ci co B n fr c:=by
 obtain ⟨l1,l2,l3,l4⟩:=h.lows;obtain ⟨k1,k2,k3,k4⟩:=h.highs;rcases QW c hc with rfl|rfl|⟨k,hk,rfl⟩|⟨k,hk,rfl⟩
 ·exact ⟨by rw [XgV];exact h.cin,l2⟩
 ·exact ⟨by rw [XgU];exact h.cout,l3⟩
 ·rw [VZ,XeH fr hn hp hk]
  refine ⟨?_,by omega⟩
  have:=(h.places.cell _ (XaT fr k hn)).1
  rwa [show IntKind.i64.wrap (fr + jjR n fr k)=wrap64 (fr + jjR n fr k) by unfold wrap64;exact IntKind.wrap_i64 _]
 ·rw [V0,XeI]
  exact ⟨(h.places.cell _ (XaT fr k hn)).2,by omega⟩
theorem RingAt.inj (h:RingAt w0 w r ci co pb B n fr n) (hn:2≤n):∀ a b,a < 2 + 2 * n→b < 2 + 2 * n→AR ci co B n fr a=AR ci co B n fr b→a=b:=by
 obtain ⟨k1,k2,k3,k4⟩:=h.highs;have hd:=h.diff;intro a b ha hb e;rcases QW a ha with rfl|rfl|⟨k,hk,rfl⟩|⟨k,hk,rfl⟩<;>rcases QW b hb with rfl|rfl|⟨m,hm,rfl⟩|⟨m,hm,rfl⟩<;>(try rw [VZ] at e)<;>(try rw [VZ] at e)<;>(try rw [V0] at e)<;>(try rw [V0] at e)<;>(try rw [show AR ci co B n fr 0=ci from rfl] at e)<;>(try rw [show AR ci co B n fr 1=co from rfl] at e)<;>first
  | omega
  | (have:=Xfi fr hn hk hm (by omega);omega)
theorem RingAt.rowC (h:RingAt w0 w r ci co pb B n fr n) (hn:2≤n) (hix:∀ p,ixZ n p=p % n) (k:Nat) (hk:k < n):w.cell? (th pb (k * 2))=some (P0 (AR ci co B n fr (2 + 2 * k)))∧w.cell? (th pb (k * 2 + 1))=some (P0 (AR ci co B n fr (3 + 2 * k))):=by
 obtain ⟨cs,hb,_,hrow⟩:=h.places.row;obtain ⟨h1,h2⟩:=hrow _ (XaT fr k hn);rw [hix,XaU fr k hn hk,Int.toNat_natCast] at h1 h2;rw [VZ,V0];exact ⟨(Blk.cell hb _).trans h1,(Blk.cell hb _).trans h2⟩
end
theorem XcG (n:Int) (w:World):Calls Try.prog 103 #[.int .i64 n] w (fun e w'=>∃ b,e=.returned (.bool b)∧w'=w∧(b=true→∃ k:Nat,1≤k∧k≤12∧n=((2 ^ k:Nat):Int))):=by
 go_enter Try.func103,Try.ntmps103
 go_upto_region 2 with (fail)
 go_loopw [3] (fun v wr=>wr=w∧∃ k:Nat,1≤k∧k≤13∧v=.int .i64 ((2 ^ k:Nat):Int)) (fun v _=>8192 - (intOf v).toNat)
 case atStart=>exact ⟨rfl,1,Nat.le_refl _,by omega,rfl⟩
 case round =>
  obtain ⟨rfl,k,hk1,hk2,rfl⟩:=hrel
  by_cases h13:k=13
  ·subst h13
   go_wp2
   go_ret;exact ⟨false,rfl,rfl,fun h=>by cases h⟩
  ·have hz:2 ^ k≤4096:=Nat.pow_le_pow_right (n:=2) (by decide) (show k≤12 by omega)
   have h1:1≤2 ^ k:=Nat.one_le_two_pow;have hs:2 ^ (k + 1)=2 * 2 ^ k:=by rw [Nat.pow_succ];omega
   by_cases he:((2 ^ k:Nat):Int)=n
   ·obtain ⟨z,hzz⟩:∃ z,z=2 ^ k:=⟨_,rfl⟩
    rw [← hzz] at hz h1 hs he ⊢;have d1:decide ((z:Int)≤4096)=true:=by simp;omega
    have d1N:decide (z≤4096)=true:=by simp;omega
    have d2:((z:Int) == n)=true:=by simpa using he
    replace hzz:=HD hzz;replace he:=HD he;clear hs
    go_wp2
    go_ret;exact ⟨true,rfl,rfl,fun _=>⟨k,hk1,by omega,by rw [← hzz.out];exact he.out.symm⟩⟩
   ·obtain ⟨z,hzz⟩:∃ z,z=2 ^ k:=⟨_,rfl⟩
    rw [← hzz] at hz h1 hs he ⊢;have d1:decide ((z:Int)≤4096)=true:=by simp;omega
    have d1N:decide (z≤4096)=true:=by simp;omega
    have d2:((z:Int) == n)=false:=by simpa using he
    have hw:IntKind.i64.wrap (2 * (z:Int))=((2 * z:Nat):Int):=by rw [IntKind.wrap_i64];omega
    replace hzz:=HD hzz;replace hs:=HD hs;clear he
    go_wp2
    exact ⟨⟨by first|rfl|trivial,k + 1,by omega,by omega,by rw [hs.out];first|rfl|simp⟩,by first|(simp [intOf];omega)|(simp [intOf];done)⟩
def UF (n fr:Int) (vS vP:Value):Value:=.agg #[.int .i64 n,.int .i64 fr,vS,vP]
def Xgd (lens:Nat→Nat) (nS:Nat) (pb:Nat) (ps:Array Value) (w:World) (n i:Value) (wr:World):Prop :=
 ∃ k:Nat,k≤nS∧i=.int .i64 k∧n=.int .i64 (XbZ lens k)∧XbZ lens k≤1125899906844000∧(∀ m,m < k→XbZ lens m≤400)∧Kept (fun _=>False) w wr∧Blk wr pb 87 ps
def VX (lens:Nat→Nat) (nS nP:Nat) (n:Int) (b:Bool):Prop:=b=false→nS≤8∧nP≤2000∧XbZ lens nS≤400∧∃ k:Nat,1≤k∧k≤8∧n=((2 ^ k:Nat):Int)
theorem Xbt {aS aP:Option Addr} {nS nP cS cP:Nat} {n fr:Int} {lens:Nat→Nat} {w:World} (hL:XeB w aS nS lens) (hl:∀ i,i < nS→lens i≤1125899906842624) (hS:nS≤1125899906842624) :
 Calls Try.prog 32 #[UF n fr (.slice aS nS cS) (.slice aP nP cP)] w (fun e w'=>∃ b,e=.returned (.bool b)∧Kept (fun _=>False) w w'∧VX lens nS nP n b):=by
 unfold UF;replace hL:=HD hL;replace hl:=HD hl
 go_enter Try.func32,Try.ntmps32
 go_upto_region 1 with (fail)
 have hp:Blk (w.alloc (.cells #[.int .i64 n,.int .i64 fr,.slice aS nS cS,.slice aP nP cP] 87)) w.heap.size 87 #[.int .i64 n,.int .i64 fr,.slice aS nS cS,.slice aP nP cP]:=Blk.new w _ _;have hk:=(Kept.refl (fun _=>False) w).alloc (.cells #[.int .i64 n,.int .i64 fr,.slice aS nS cS,.slice aP nP cP] 87);generalize w.alloc (.cells #[.int .i64 n,.int .i64 fr,.slice aS nS cS,.slice aP nP cP] 87)=w1 at hp hk ⊢;generalize hpb:w.heap.size=pb at hp ⊢;replace hpb:=HD hpb
 go_upto_region 3 with (fail)
 go_loopw [3,4] (fun n' i wr=>Xgd lens nS pb #[.int .i64 n,.int .i64 fr,.slice aS nS cS,.slice aP nP cP] w n' i wr) (fun _ i _=>nS - (intOf i).toNat)
 case atStart=>exact ⟨0,Nat.zero_le _,rfl,rfl,by unfold XbZ;omega,fun m h=>by omega,hk,hp⟩
 case round =>
  clear hp hk w1;obtain ⟨k,hk,rfl,rfl,hs,hm,hkp,hp⟩:=hrel;have p0:wr.cell? ⟨pb,0,none⟩=some (.int .i64 n):=Blk.cell hp 0;have p1:wr.cell? ⟨pb,1,none⟩=some (.int .i64 fr):=Blk.cell hp 1;have p2:wr.cell? ⟨pb,2,none⟩=some (.slice aS nS cS):=Blk.cell hp 2;have p3:wr.cell? ⟨pb,3,none⟩=some (.slice aP nP cP):=Blk.cell hp 3;have hpl:=Blk.lt hp;replace hkp:=HD hkp;replace hp:=HD hp;replace hm:=HD hm;generalize hsum:XbZ lens k=s at hs ⊢;replace hsum:=HD hsum
  by_cases h1:k < nS
  ·by_cases h2:s≤400
   ·obtain ⟨g,o,b,c,rfl,hg,hc⟩:=hL.out k h1
    have hc':wr.cell? ⟨g,o + k,none⟩=some (.slice b (lens k) c):=(hkp.out.cell (p:=⟨g,o + k,none⟩) hg id).trans hc;have hlk:=hl.out k h1;have hw1:IntKind.i64.wrap ((s:Int) + 1)=(s:Int) + 1:=by rw [IntKind.wrap_i64];omega
    have hw2:IntKind.i64.wrap ((s:Int) + 1 + (lens k:Nat))=((s + 1 + lens k:Nat):Int):=by rw [IntKind.wrap_i64];omega
    have hw3:IntKind.i64.wrap ((k:Int) + 1)=((k + 1:Nat):Int):=by rw [IntKind.wrap_i64];omega
    have x0:decide ((k:Int) < nS)=true:=by simp;omega
    have x1:decide (k < nS)=true:=by simpa using h1
    have x2:decide ((s:Int)≤400)=true:=by simp;omega
    have x3:decide (s≤400)=true:=by simpa using h2
    have x4:(k:Int) < nS:=by omega
    have x5:(0:Int)≤k:=by omega
    clear hc;replace h2:=HD h2
    go_wp2_with fail
    refine ⟨⟨k + 1,by omega,by first|rfl|simp,?_,?_,fun m hmk=>?_,hkp.out,hp.out⟩,by first|(simp [intOf];done)|(simp [intOf];omega)⟩
    ·rw [XbZ,hsum.out];first|rfl|(simp;done)
    ·rw [XbZ,hsum.out];have:=h2.out;omega
    ·rcases Nat.lt_or_ge m k with h|h
     ·exact hm.out m h
     ·obtain rfl:m=k:=by omega
      rw [hsum.out];exact h2.out
   ·have x0:decide ((k:Int) < nS)=true:=by simp;omega
    have x1:decide (k < nS)=true:=by simpa using h1
    have x2:decide ((s:Int)≤400)=false:=by simp;omega
    have x3:decide (s≤400)=false:=by simp;omega
    have x4:decide ((s:Int) > 400)=true:=by simp;omega
    have x5:decide (400 < s)=true:=by simp;omega
    clear h2
    go_wp2_with fail
    go_ret;exact ⟨true,rfl,hkp.out,fun h=>by cases h⟩
  ·obtain rfl:k=nS:=by omega
   have x0:decide ((k:Int) < k)=false:=by simp
   have x1:decide (k < k)=false:=by simp
   by_cases t0:400 < s
   ·have y0a:decide ((s:Int) > 400)=true:=by simp;omega
    have y0b:decide (400 < s)=true:=by simp;omega
    have y0c:decide ((400:Int) < s)=true:=by simp;omega
    clear t0
    go_wp2_with fail
    go_ret;exact ⟨true,rfl,hkp.out,fun h=>by cases h⟩
   have y0a:decide ((s:Int) > 400)=false:=by simp;omega
   have y0b:decide (400 < s)=false:=by simp;omega
   have y0c:decide ((400:Int) < s)=false:=by simp;omega
   by_cases t1:8 < k
   ·have y1a:decide ((k:Int) > 8)=true:=by simp;omega
    have y1b:decide (8 < k)=true:=by simp;omega
    have y1c:decide ((8:Int) < k)=true:=by simp;omega
    clear t0 t1
    go_wp2_with fail
    go_ret;exact ⟨true,rfl,hkp.out,fun h=>by cases h⟩
   have y1a:decide ((k:Int) > 8)=false:=by simp;omega
   have y1b:decide (8 < k)=false:=by simp;omega
   have y1c:decide ((8:Int) < k)=false:=by simp;omega
   by_cases t2:2000 < nP
   ·have y2a:decide ((nP:Int) > 2000)=true:=by simp;omega
    have y2b:decide (2000 < nP)=true:=by simp;omega
    have y2c:decide ((2000:Int) < nP)=true:=by simp;omega
    clear t0 t1 t2
    go_wp2_with fail
    go_ret;exact ⟨true,rfl,hkp.out,fun h=>by cases h⟩
   have y2a:decide ((nP:Int) > 2000)=false:=by simp;omega
   have y2b:decide (2000 < nP)=false:=by simp;omega
   have y2c:decide ((2000:Int) < nP)=false:=by simp;omega
   have HT:=HD (And.intro t0 (And.intro t1 t2));clear t0 t1 t2
   by_cases t4:256 < n
   ·have y4a:decide (n > 256)=true:=by simpa using t4
    have y4b:decide (256 < n)=true:=by simpa using t4
    clear t4
    go_wp2_with (go_at_call 103;go_must (refine (XcG n _).mono ?_);rintro e1 w1 ⟨b,rfl,rfl,hb⟩;replace hb:=HD hb;cases b)
    all_goals
     go_ret;exact ⟨true,rfl,hkp.out,fun h=>by cases h⟩
   have y4a:decide (n > 256)=false:=by simpa using t4
   have y4b:decide (256 < n)=false:=by simpa using t4
   replace t4:=HD t4
   go_wp2_with (go_at_call 103;go_must (refine (XcG n _).mono ?_);rintro e1 w1 ⟨b,rfl,rfl,hb⟩;replace hb:=HD hb;cases b)
   ·go_ret
    exact ⟨true,rfl,hkp.out,fun h=>by cases h⟩
   ·go_ret
    refine ⟨false,rfl,hkp.out,fun _=>?_⟩;obtain ⟨k',q1,q2,q3⟩:=hb.out (by simp);have u1:=HT.out;have u2:=hsum.out;have u3:=t4.out;refine ⟨by omega,by omega,by omega,k',q1,Nat.le_of_not_lt fun h9=>?_,q3⟩
    have:2 ^ 9≤2 ^ k':=Nat.pow_le_pow_right (by decide) h9
    have e9:(2:Nat) ^ 9=512:=by decide
    omega
section
variable {Post:Value→World→Prop} {C:Ctx} {x:World} {c:Frame} {cs:List Frame}
noncomputable def Xet:List FuncId:=[32,103]
theorem Xdf (S:YK):Closed Try.prog S (FX Xet):=Xat S (by kernel_rfl)
theorem XdW {aS aP:Option Addr} {nS nP cS cP:Nat} {n fr:Int} {lens:Nat→Nat} (hL:XeB x aS nS lens) (hl:∀ i,i < nS→lens i≤1125899906842624) (hS:nS≤1125899906842624) (h:∀ b y,Xg x y→VX lens nS nP n b→JG Try.prog Post C (G (c.finish (.bool b)) cs) y) :
 JG Try.prog Post C (G (Frame.enter Try.prog 32 #[UF n fr (.slice aS nS cS) (.slice aP nP cP)] .normal) (c::cs)) x:=by
 refine JG.calls (F:=FX Xet) (Q:=fun u y=>∃ b,u=.bool b∧Xg x y∧VX lens nS nP n b) (Xdf _) (by kernel_rfl) (fun τ=>?_) (fun u y hq=>?_)
 ·refine (Xbt (w:=under x τ 0) hL hl hS).mono ?_
  rintro e y ⟨b,rfl,h1,h2⟩;exact ⟨_,rfl,b,rfl,⟨h1.size,fun r hr=>h1.block r hr id⟩,h2⟩
 ·obtain ⟨b,rfl,h1,h2⟩:=hq
  exact h b y h1 h2
end
theorem Xfk:(Try.prog.info? 97).map (fun i=>(i.zero,i.size,i.bytes))=some (some (.slice none 0 0),1,24):=by kernel_rfl
structure XfC (x y:World) (n:Nat) (fr:Int) (nS sb r ci co pb B gt:Nat):Prop where
 old:Xg x y
 ring:∃ w0 w1,RingAt w0 w1 r ci co pb B n fr n∧Xg w1 y∧x.heap.size≤w0.heap.size
 gtO:y.heap[gt]? = some (.cells (List.replicate nS (Value.slice none 0 0)).toArray 97 (0,0))
 gtN:x.heap.size≤gt
 sbO:y.heap[sb]? = some (.cells #[P0 r,.slice (some ⟨gt,0,none⟩) nS nS] 101 (0,0))
 sbN:x.heap.size≤sb
section
variable {Post:Value→World→Prop} {C:Ctx} {x:World} {c:Frame} {cs:List Frame}
theorem Wp {k n nS nP cS cP:Nat} {fr:Int} {aS aP:Option Addr} (hk1:1≤k) (hk:k≤12) (hn:n=2 ^ k) (hS:nS≤8) (h:∀ y sb r ci co pb B gt,XfC x y n fr nS sb r ci co pb B gt→JG Try.prog Post C (G (c.finish (P0 sb)) cs) y) :
 JG Try.prog Post C (G (Frame.enter Try.prog 33 #[UF n fr (.slice aS nS cS) (.slice aP nP cP)] .normal) (c::cs)) x:=by
 unfold UF;replace h:=HD h;replace hn:=HD hn;refine Xu Try.func33 (by rfl) (by rfl) ?_;simp only [Try.f33,Option.getD_some];walk_nrm
 repeat refine kx ?_
 refine ko fun K E hK hE τ d=>?_;go_simp;refine hK _ _ (jal fun y0 o0 b0 _=>?_);simp only [Xs];clear hK hE K E τ d
 try walk_nrm
 obtain ⟨bp,hbp⟩:∃ bp,bp=x.heap.size:=⟨_,rfl⟩
 rw [← hbp] at b0 ⊢;have l0:=(GE b0).1;have p0:y0.cell? (th bp 0)=some (.int .i64 n):=Xa b0 0;have p1:y0.cell? (th bp 1)=some (.int .i64 fr):=Xa b0 1;replace hbp:=HD hbp;replace o0:=HD o0
 repeat refine kx ?_
 clear p0 p1;refine kf (args:=#[.int .i64 n,.int .i64 fr]) Try.func42 ?_;rw [hn.out];refine Wl hk1 hk fun y1 r ci co pb B τ hR=>?_;rw [← hn.out] at hR ⊢;rw [Frame.finish_at];walk_nrm;have o1:Xg y0 y1:=⟨hR.below.size,fun q hq=>hR.below.block q hq⟩
 have b1:=(o1.2 bp l0).trans b0;have p2:y1.cell? (th bp 2)=some (.slice aS nS cS):=Xa b1 2;clear b0;replace hR:=HD hR;replace o1:=HD o1;replace b1:=HD b1
 repeat refine kx ?_
 have x0:(0:Int)≤nS:=by omega
 have x1:(nS:Int)≤8:=by omega
 obtain ⟨i0,hi0,hz0,hz1,hz2⟩:=XM Xfk;have hmk:∀ W:World,(Instr.makeSlice 99 (.int .i64 nS) (.int .i64 nS)).run Try.prog W=.ok (.slice (some ⟨W.heap.size,0,none⟩) nS nS) (W.alloc (.cells (List.replicate nS (Value.slice none 0 0)).toArray 97)):=fun W=>by
  have h:=run_makeSlice (P:=Try.prog) W 99 97 i0 _ Try.underlying99 hi0 hz0 .i64 .i64 nS nS x0 (Int.le_refl _) (by rw [hz1];omega) (by rw [hz2];omega) (by omega);rw [hz1,Int.toNat_natCast,Nat.mul_one,XdV nS hS] at h;exact h
 refine ko fun K E hK hE τ d=>?_;go_simp;refine hK _ _ (jt (x:=y1.alloc (.cells (List.replicate nS (Value.slice none 0 0)).toArray 97)) ?_);simp only [Xs];clear hK hE K E τ d hmk
 try walk_nrm
 have g1:(y1.alloc (.cells (List.replicate nS (Value.slice none 0 0)).toArray 97)).heap[y1.heap.size]? = some (.cells (List.replicate nS (Value.slice none 0 0)).toArray 97 (0,0)):=heap_alloc_new _ _;have o2:=(Xg.refl y1).alloc (.cells (List.replicate nS (Value.slice none 0 0)).toArray 97);generalize y1.alloc (.cells (List.replicate nS (Value.slice none 0 0)).toArray 97)=y2 at g1 o2 ⊢;obtain ⟨gt,hgt⟩:∃ gt,gt=y1.heap.size:=⟨_,rfl⟩
 rw [← hgt] at g1 ⊢;replace hgt:=HD hgt;replace g1:=HD g1;replace o2:=HD o2;clear p2
 repeat refine kx ?_
 refine ko fun K E hK hE τ d=>?_;go_simp;refine hK _ _ (jal fun y3 o3 s1 _=>?_);simp only [Xs];clear hK hE K E τ d
 try walk_nrm
 obtain ⟨sb,hsb⟩:∃ sb,sb=y2.heap.size:=⟨_,rfl⟩
 rw [← hsb] at s1 ⊢;replace hsb:=HD hsb;replace s1:=HD s1;replace o3:=HD o3
 repeat refine kx ?_
 refine JG.ret ?_;refine JG.leave rfl rfl Try.func33 (fun τ d=>results_tmp (t:=2) rfl _ _ _) (h.out y3 sb r ci co pb B gt ⟨o0.out.trans (o1.out.trans (o2.out.trans o3.out)),⟨_,_,hR.out,o2.out.trans o3.out,o0.out.1⟩,(o3.out.2 gt (GE g1.out).1).trans g1.out,?_,s1.out,?_⟩)
 ·have:=hgt.out;have:=(o0.out.trans o1.out).1;omega
 ·have:=hsb.out;have:=(o0.out.trans (o1.out.trans o2.out)).1;omega
end
theorem Xfl:(Try.prog.info? 40).map (fun i=>(i.zero,i.size,i.bytes))=some (some .nilFunc,1,8):=by kernel_rfl
def UO (bp bs b:Nat):Value:=.func (.func 34) #[] #[P0 bp,P0 b,P0 bs]
structure BdR (x0:World) (bp bs k:Nat) (Bs:List Nat) (vB:Value) (x:World):Prop where
 len:Bs.length=k
 size:x0.heap.size≤x.heap.size
 old:∀ r,r < x0.heap.size→x.heap[r]? = x0.heap[r]?
 box:∀ (i b:Nat),Bs[i]? = some b→x0.heap.size≤b∧x.heap[b]? = some (.cells #[.int .i64 i] 3 (0,0))
 row:x.ownsRow x0.heap.size 40 1 vB k (Bs.map fun b=>UO bp bs b)
theorem BdR.old_ {x0 x y:World} {bp bs k:Nat} {Bs:List Nat} {vB:Value} (h:BdR x0 bp bs k Bs vB x) (ho:Xg x y):BdR x0 bp bs k Bs vB y :=
 ⟨h.len,Nat.le_trans h.size ho.1,fun r h1=>(ho.2 r (Nat.lt_of_lt_of_le h1 h.size)).trans (h.old r h1),fun i b hi=>⟨(h.box i b hi).1,(ho.2 b (GE (h.box i b hi).2).1).trans (h.box i b hi).2⟩,Xj h.row fun g hg=>ho.2 g (own_lt h.row hg)⟩
theorem BdR.more {x0 y:World} {bp bs k:Nat} {Bs:List Nat} {vB:Value} (h:BdR x0 bp bs k Bs vB y) (hk:k < 100000) {cur B:Nat} (hb:x0.heap.size≤cur) (hc:y.heap[cur]? = some (.cells #[.int .i64 k] 3 (0,0))) (hB:y.heap[B]? = some (.cells #[UO bp bs cur] 40 (0,0))) (τ:Nat→Question→Nat) (d:Nat) :
 ∃ g cap y',(Builtin.append_ #[32,32] 32 #[vB,.slice (some ⟨B,0,none⟩) 1 1]).run Try.prog (under y τ d)=.ok (.slice (some ⟨g,0,none⟩) (k + 1) cap) y'∧y'.heap[cur]? = some (.cells #[.int .i64 k] 3 (0,0))∧BdR x0 bp bs (k + 1) (Bs ++ [cur]) (.slice (some ⟨g,0,none⟩) (k + 1) cap) y':=by
 obtain ⟨i0,hi0,hz0,hz1,hz2⟩:=XM Xfl;obtain ⟨g,cap,y',e1,e2,e3,e4,e5⟩:=run_append_lies (P:=Try.prog) (under y τ d) 32 32 x0.heap.size 40 i0 _ 1 8 Try.underlying32 hi0 hz0 hz1 hz2 rfl (by omega) vB _ _ h.row ⟨B,0,none⟩ 1 1 [UO bp bs cur] rfl (World.news_of_block (cs:=#[UO bp bs cur]) (t:=40) (fr:=(0,0)) hB) (by simp [Value.oneCell',UO]) (by omega) (by unfold maxLen;omega) (by omega) h.size _ rfl;have hlow:∀ r,r < x0.heap.size→y'.heap[r]? = y.heap[r]?:=fun r h1=>e3.block r (Nat.lt_of_lt_of_le h1 h.size) fun e=>by have:=Za h.row e.symm;omega
 have hbox:∀ (b:Nat) (u:Value),y.heap[b]? = some (.cells #[u] 3 (0,0))→y'.heap[b]? = some (.cells #[u] 3 (0,0)):=fun b u h2=>by
  refine (e3.block b (GE h2).1 fun e=>?_).trans h2;rcases h.row.2 with ⟨e0,_⟩|⟨g',cap',cur',e0,_,hg,_⟩
  ·rw [e0] at e;cases e
  ·rw [e0] at e
   obtain rfl:b=g':=by simpa [Value.ownBlock] using e
   have:=hg.symm.trans h2
   injection this with this
   injection this with _ this
   exact absurd this (by decide)
 refine ⟨g,cap,y',e1,hbox _ _ hc,⟨by simp [h.len],Nat.le_trans h.size e3.size,fun r h1=>(hlow r h1).trans (h.old r h1),fun i b hi=>?_,by rw [List.map_append];exact e2⟩⟩;rcases Nat.lt_or_ge i Bs.length with hi'|hi'
 ·rw [List.getElem?_append_left hi'] at hi
  exact ⟨(h.box i b hi).1,hbox _ _ (h.box i b hi).2⟩
 ·rw [List.getElem?_append_right hi'] at hi
  have:=(LE' hi).1
  have e:i=k:=by simp at this;have:=h.len;omega
  subst e;rw [h.len,Nat.sub_self] at hi;obtain rfl:cur=b:=by simpa using hi
  exact ⟨hb,hbox _ _ hc⟩
section
variable {Post:Value→World→Prop} {C:Ctx} {cs:List Frame} {x0:World} {bp bs nS cS:Nat} {aS:Option Addr} {kk:List Item}
theorem WK {u0 u2 u3 u7 u8 u9 B0 B1 B2 B3 B4 B5 B6 B7 B8 B9 D0 D1 D2 D3 D4 D5 E8 E9 G0 G1 G2 G3 G4 G5 G6 G7 G8 G9 H4 H5 H6 H7 H8 H9 I0 I1 I2 I3 I4 I5 I6 I7 I8 I9 J0 J1 J2 J3 J4 J5 J6 J7 J8 J9 K0 K1 K4 K5 K6 K7 K8 K9 L0 L1 L2 L3 L4 L5 L6 L7 L8 L9 M0 M1 M4 M5 M6 M7 M8 M9 N1 N5 N6 N7 N8 N9 O0 O1 O2 O3 O4 O5 O6 O7 O8 O9 R0 R1 R2 R3 R4 R5 R6 R7 R8 R9 S0 S1 S2 S3 S4 S5 S6 S7:Value} (hp:x0.cell? (th bp 2)=some (.slice aS nS cS)) (hn:nS < 100000):∀ (q k:Nat),k + q=nS→∀ (x:World) (Bs:List Nat) (cur:Nat) (vB:Value) (D6 D7 D8 D9 E0 E1 E2 E3 E4 E5 E6 E7:Value),BdR x0 bp bs k Bs vB x→x0.heap.size≤cur→x.heap[cur]? = some (.cells #[.int .i64 k] 3 (0,0)) →
 (∀ (y:World) (Bs:List Nat) (cur:Nat) (vB:Value) (D6 D7 D8 D9 E0 E1 E2 E3 E4 E5 E6 E7:Value),BdR x0 bp bs nS Bs vB y→JG Try.prog Post C (G ((base 6).at ⟨List.toArray (u0::P0 bp::u2::u3::P0 bs::vB::P0 cur::u7::u8::u9::B0::B1::B2::B3::B4::B5::B6::B7::B8::B9::D0::D1::D2::D3::D4::D5::D6::D7::D8::D9::E0::E1::E2::E3::E4::E5::E6::E7::E8::E9::G0::G1::G2::G3::G4::G5::G6::G7::G8::G9::H4::H5::H6::H7::H8::H9::I0::I1::I2::I3::I4::I5::I6::I7::I8::I9::J0::J1::J2::J3::J4::J5::J6::J7::J8::J9::K0::K1::K4::K5::K6::K7::K8::K9::L0::L1::L2::L3::L4::L5::L6::L7::L8::L9::M0::M1::M4::M5::M6::M7::M8::M9::N1::N5::N6::N7::N8::N9::O0::O1::O2::O3::O4::O5::O6::O7::O8::O9::R0::R1::R2::R3::R4::R5::R6::R7::R8::R9::S0::S1::S2::S3::S4::S5::S6::S7::[]),[]⟩ kk) cs) y) →
 JG Try.prog Post C (G ((base 6).at ⟨List.toArray (u0::P0 bp::u2::u3::P0 bs::vB::P0 cur::u7::u8::u9::B0::B1::B2::B3::B4::B5::B6::B7::B8::B9::D0::D1::D2::D3::D4::D5::D6::D7::D8::D9::E0::E1::E2::E3::E4::E5::E6::E7::E8::E9::G0::G1::G2::G3::G4::G5::G6::G7::G8::G9::H4::H5::H6::H7::H8::H9::I0::I1::I2::I3::I4::I5::I6::I7::I8::I9::J0::J1::J2::J3::J4::J5::J6::J7::J8::J9::K0::K1::K4::K5::K6::K7::K8::K9::L0::L1::L2::L3::L4::L5::L6::L7::L8::L9::M0::M1::M4::M5::M6::M7::M8::M9::N1::N5::N6::N7::N8::N9::O0::O1::O2::O3::O4::O5::O6::O7::O8::O9::R0::R1::R2::R3::R4::R5::R6::R7::R8::R9::S0::S1::S2::S3::S4::S5::S6::S7::[]),[]⟩ (.code (Code.nav (Try.f6.body.getD .skip) [1,1,1,1,1,1,0,1,0,0])::.inLoop (Code.nav (Try.f6.body.getD .skip) [1,1,1,1,1,1,0,1,0,0])::.inBlock 0::kk)) cs) x:=by
 intro q
 induction q with
 | zero =>
  intro k hkq x Bs cur vB D6 D7 D8 D9 E0 E1 E2 E3 E4 E5 E6 E7 hI hcx hcur h;obtain rfl:k=nS:=by omega
  have y1:x.cell? (th bp 2)=some (.slice aS k cS):=(World.cell?_of_block (hI.old _ (Xt hp))).trans hp;have y2:x.cell? (th cur 0)=some (.int .i64 k):=Xa hcur 0;replace h:=HD (h x Bs cur vB);replace hI:=HD hI;clear hcur;simp only [Try.f6,Option.getD_some,Code.nav];have hx:decide ((k:Int) < k)=false:=by simp
  have hxN:decide (k < k)=false:=by simp
  repeat refine kx ?_
  refine JG.exit (by rfl) ?_
  try walk_nrm
  exact h.out _ _ _ _ _ _ _ _ _ _ _ _ hI.out
 | succ q ih =>
  intro k hkq x Bs cur vB D6 D7 D8 D9 E0 E1 E2 E3 E4 E5 E6 E7 hI hcx hcur h;have hkn:k < nS:=by omega
  have y1:x.cell? (th bp 2)=some (.slice aS nS cS):=(World.cell?_of_block (hI.old _ (Xt hp))).trans hp;have y2:x.cell? (th cur 0)=some (.int .i64 k):=Xa hcur 0;have IH:=HD ih;have HI:=HD hI;have HC:=HD hcur;have Hh:=HD h;clear ih hI hcur h;simp only [Try.f6,Option.getD_some,Code.nav];have hx:decide ((k:Int) < nS)=true:=by simp;omega
  have hxN:decide (k < nS)=true:=by simp;omega
  repeat refine kx ?_
  refine ko fun K E hK hE τ d=>?_;go_simp;refine hK _ _ (jt (x:=x.alloc (.cells #[UO bp bs cur] 40)) ?_);simp only [Xs];clear hK hE K E τ d;have ho:=(Xg.refl x).alloc (.cells #[UO bp bs cur] 40);have HI1:=HI.out.old_ ho;have HC1:=(ho.2 cur (GE HC.out).1).trans HC.out;have hB:(x.alloc (.cells #[UO bp bs cur] 40)).heap[x.heap.size]? = some (.cells #[UO bp bs cur] 40 (0,0)):=heap_alloc_new _ _;generalize x.alloc (.cells #[UO bp bs cur] 40)=x1 at HI1 HC1 hB ⊢;generalize x.heap.size=B at hB ⊢;clear ho y1 y2 HI HC;refine ko (fun K E hK hE τ d=>?_);obtain ⟨g,cap,y',r1,r2,r3⟩:=HI1.more (by omega) hcx HC1 hB τ d;rw [Qy (s:=.tmp 33) (x:=.tmp 35) rfl rfl rfl r1,uponE_value];refine hK _ _ ?_;clear hK hE K E r1 HI1 HC1 hB;have y3:y'.cell? (th cur 0)=some (.int .i64 k):=Xa r2 0;replace r2:=HD r2;replace r3:=HD r3
  try walk_nrm
  repeat refine kx ?_
  refine ko fun K E hK hE τ d=>?_;go_simp;refine hK _ _ (jal fun w1 o1 b1 _=>?_);simp only [Xs];clear hK hE K E τ d;obtain ⟨nb,hnb⟩:∃ nb,nb=y'.heap.size:=⟨_,rfl⟩
  rw [← hnb] at b1 ⊢;replace hnb:=HD hnb;refine kst (And.intro (Xa b1 0) (Xe b1 0)) ?_;have b2:(w1.setCell (th nb 0) (.int .i64 k)).heap[nb]? = some (.cells #[.int .i64 k] 3 (0,0)):=by rw [Xd b1];rfl
  have o2:Xg y' (w1.setCell (th nb 0) (.int .i64 k)):=o1.setNew (by show y'.heap.size≤nb;have:=hnb.out;omega);generalize w1.setCell (th nb 0) (.int .i64 k)=w2 at b2 o2 ⊢;clear b1 o1;have y4:w2.cell? (th nb 0)=some (.int .i64 k):=Xa b2 0;have hw:IntKind.i64.wrap ((k:Int) + 1)=((k + 1:Nat):Int):=by
   rw [IntKind.wrap_i64];omega
  repeat refine kx ?_
  refine kst (And.intro y4 (Xe b2 0)) ?_;have b3:(w2.setCell (th nb 0) (.int .i64 ((k:Int) + 1))).heap[nb]? = some (.cells #[.int .i64 ((k + 1:Nat):Int)] 3 (0,0)):=by rw [Xd b2];rfl
  have o3:Xg y' (w2.setCell (th nb 0) (.int .i64 ((k:Int) + 1))):=o2.setNew (by show y'.heap.size≤nb;have:=hnb.out;omega);generalize w2.setCell (th nb 0) (.int .i64 ((k:Int) + 1))=w3 at b3 o3 ⊢;have IH':=IH.out (k + 1) (by omega) w3 (Bs ++ [cur]) nb (.slice (some ⟨g,0,none⟩) (k + 1) cap);simp only [Try.f6,Option.getD_some,Code.nav] at IH';replace IH':=HD IH';clear y4 b2 o2 y3;replace b3:=HD b3
  repeat refine kx ?_
  refine JG.inLoop ?_;exact IH'.out _ _ _ _ _ _ _ _ _ _ _ _ (r3.out.old_ o3) (by have:=r3.out.size;have:=hnb.out;omega) b3.out Hh.out
end
end Go.Proofs.Ytdhnggjmegilkaa
namespace Go.Proofs.Ytdhnggjmegilkaa
open Go.Conc Go.RowKit
open Go.ConcN (upd upd_same upd_ne)
set_option maxRecDepth 100000
structure TR where
 bp:Nat
 bs:Nat
 sb:Nat
 ib:Nat
 pb:Nat
 gt:Nat
 n:Nat
 fr:Int
 nS:Nat
 cS:Nat
 cP:Nat
 N0:Nat
 aS:Option Addr
 aP:Option Addr
 picks:List Int
 Ss:List (List X4)
 A:Nat→Nat
def TR.nc (t:TR):Nat:=2 + 2 * t.n
def TR.v (t:TR):Nat→Int:=vR t.n t.fr
def TR.css (t:TR):List (List (Xm Ym)):=t.Ss.map fun L=>L.map (X4.d t.n 8193)
structure TlR (t:TR) (Q:Xp (Nat→List Ym)) (x:World):Prop where
 c0:x.cell? (th t.bp 0)=some (.int .i64 t.n)
 c1:x.cell? (th t.bp 1)=some (.int .i64 t.fr)
 c2:x.cell? (th t.bp 2)=some (.slice t.aS t.nS t.cS)
 c3:x.cell? (th t.bp 3)=some (.slice t.aP t.picks.length t.cP)
 c4:x.cell? (th t.bs 0)=some (P0 t.sb)
 c5:x.cell? (th t.sb 1)=some (.slice (some ⟨t.gt,0,none⟩) t.nS t.nS)
 pk:X0 x t.aP t.picks
 num:t.Ss.length=t.nS
 sc:∀ (j:Nat) (L:List X4),t.Ss[j]? = some L→∃ gS oS aC cC,t.aS=some ⟨gS,oS,none⟩∧x.cell? ⟨gS,oS + j,none⟩=some (.slice aC L.length cC)∧Yl x x.heap.size aC L∧L.length≤1000000
 rows:∃ hd N0,ZK XS t.gt t.nS N0 (fun _=>False) Q.st.sh hd x
 small:2≤t.n∧t.n≤256∧t.nS≤8∧t.picks.length≤2000
 ix:∀ p,ixZ t.n p=p % t.n
 lt:∀ c∈Q.st.names,c < t.nc
theorem Yl.old {x y:World} {a:Option Addr} {L:List X4} (h:Yl x x.heap.size a L) (ho:Xg x y):Yl y y.heap.size a L:=fun i c hi=>by
 obtain ⟨g,off,e,hg,q0,q1⟩:=h i c hi;exact ⟨g,off,e,Nat.lt_of_lt_of_le hg ho.1,ho.cell q0,ho.cell q1⟩
theorem ZK.old {α:Type} {E:Enc α} {gt n N0:Nat} {sh:Nat→List α} {hd:Nat→Value} {x y:World} (h:ZK E gt n N0 (fun _=>False) sh hd x) (ho:Xg x y):ZK E gt n N0 (fun _=>False) sh hd y :=
 ⟨(ho.2 gt h.lt).trans h.head,fun j hj=>Xj (h.row j hj) fun g hg=>ho.2 g (own_lt (h.row j hj) hg),h.free,h.apart⟩
theorem TlR.old {t:TR} {Q:Xp (Nat→List Ym)} {x y:World} (h:TlR t Q x) (ho:Xg x y):TlR t Q y :=
 ⟨ho.cell h.c0,ho.cell h.c1,ho.cell h.c2,ho.cell h.c3,ho.cell h.c4,ho.cell h.c5,h.pk.old ho,h.num,fun j L hL=>by
  obtain ⟨gS,oS,aC,cC,e1,e2,e3,e4⟩:=h.sc j L hL;exact ⟨gS,oS,aC,cC,e1,ho.cell e2,e3.old ho,e4⟩,h.rows.imp fun _=>Exists.imp fun _ h=>h.old ho,h.small,h.ix,h.lt⟩
structure Xf7 {α:Type} (x:World) (q:Nat) (e:Int) (Q:Xp (Nat→List α)) (aL aW aR al:Option Addr) (cL cW cR cl:Nat):Prop where
 blk:x.heap[q]? = some (.cells #[.int .i8 e,.int .i64 Q.st.went.length,.slice aL Q.st.log.length cL,.slice aW Q.st.went.length cW,.slice aR Q.st.ready.length cR,.slice al Q.left.length cl,.slice none 0 0] 43 (0,0))
 lg:XW x x.heap.size aL Q.st.log
 lf:XW x x.heap.size al Q.left
 wn:X0 x aW (Q.st.went.map fun (i:Nat)=>(i:Int))
 rd:X0 x aR (Q.st.ready.map fun (i:Nat)=>(i:Int))
theorem Xf7.old {α:Type} {x y:World} {q:Nat} {e:Int} {Q:Xp (Nat→List α)} {aL aW aR al:Option Addr} {cL cW cR cl:Nat} (h:Xf7 x q e Q aL aW aR al cL cW cR cl) (ho:Xg x y):Xf7 y q e Q aL aW aR al cL cW cR cl :=
 ⟨(ho.2 q (GE h.blk).1).trans h.blk,h.lg.old ho,h.lf.old ho,h.wn.old ho,h.rd.old ho⟩
section
variable {Post:Value→World→Prop} {C:Ctx} {cs:List Frame} {x:World} {t:TR} {Q:Xp (Nat→List Ym)} {e:Int} {q:Nat} {aL aW aR al:Option Addr} {cL cW cR cl:Nat} {kk:List Item}
theorem Xfh {u0 u2 u3 u5 u6 u8 u9 B0 B1 B2 B3 B4 B5 B6 B7 B8 B9 D0 D1 D2 D3 D4 D5 D6 D7 D8 D9 E0 E1 E2 E3 E4 E5 E6 E7 E8 E9 G0 G1 G2 G3 G4 G5 G6 G7 G8 G9 H4 H5 H6 H7 H8 H9 I0 I1 I2 I3 I4 I5 I6 I7 I8 I9 J0 J1 J2 J3 J4 J5 J6 J7 J8 J9 K0 K1 K4 K5 K6 K7 K8 K9 L0 L1 L2 L3 L4 L5 L6 L7 L8 L9 M0 M1 M4 M5 M6 M7 M8 M9 N1 N5 N6 N7 N8 N9 O0 O1 O2 O3 O4 O5 O6 O7 O8 O9 R0 R1 R2 R3 R4 R5 R6 R7 R8 R9 S0 S1 S2 S3 S4 S5 S6 S7:Value} (F:Xp.RunFacts t.css t.v t.picks 16384 e Q) (H:TlR t Q x) (hr:Xf7 x q e Q aL aW aR al cL cW cR cl)
 (h:∀ (y:World) (K:Wk) (G3 G4 G5 G6 G7 G8 G9 H4 H5 H6 H7 H8 H9 I0:Value) (x1:World),Xg x x1→Qo x1 K (List.replicate Q.st.names.length false) Q nmR t.v (hsR t.n t.fr t.n) y→JG Try.prog Post C (G ((base 6).at ⟨List.toArray (u0::P0 t.bp::u2::u3::P0 t.bs::u5::u6::P0 q::P0 K.wb::.int .i64 0::B0::B1::B2::B3::B4::B5::B6::B7::B8::B9::D0::D1::D2::D3::D4::D5::D6::D7::D8::D9::E0::E1::E2::E3::E4::E5::E6::E7::E8::E9::G0::G1::G2::G3::G4::G5::G6::G7::G8::G9::H4::H5::H6::H7::H8::H9::I0::I1::I2::I3::I4::I5::I6::I7::I8::I9::J0::J1::J2::J3::J4::J5::J6::J7::J8::J9::K0::K1::K4::K5::K6::K7::K8::K9::L0::L1::L2::L3::L4::L5::L6::L7::L8::L9::M0::M1::M4::M5::M6::M7::M8::M9::N1::N5::N6::N7::N8::N9::O0::O1::O2::O3::O4::O5::O6::O7::O8::O9::R0::R1::R2::R3::R4::R5::R6::R7::R8::R9::S0::S1::S2::S3::S4::S5::S6::S7::[]),[]⟩ (.code (Code.nav (Try.f6.body.getD .skip) [1,1,1,1,1,1,1,1,1,1,1,0,1,0])::.inBlock 2::.code (Code.nav (Try.f6.body.getD .skip) [1,1,1,1,1,1,1,1,1,1,1,1])::kk)) cs) y) :
 JG Try.prog Post C (G ((base 6).at ⟨List.toArray (u0::P0 t.bp::u2::u3::P0 t.bs::u5::u6::P0 q::u8::u9::B0::B1::B2::B3::B4::B5::B6::B7::B8::B9::D0::D1::D2::D3::D4::D5::D6::D7::D8::D9::E0::E1::E2::E3::E4::E5::E6::E7::E8::E9::G0::G1::G2::G3::G4::G5::G6::G7::G8::G9::H4::H5::H6::H7::H8::H9::I0::I1::I2::I3::I4::I5::I6::I7::I8::I9::J0::J1::J2::J3::J4::J5::J6::J7::J8::J9::K0::K1::K4::K5::K6::K7::K8::K9::L0::L1::L2::L3::L4::L5::L6::L7::L8::L9::M0::M1::M4::M5::M6::M7::M8::M9::N1::N5::N6::N7::N8::N9::O0::O1::O2::O3::O4::O5::O6::O7::O8::O9::R0::R1::R2::R3::R4::R5::R6::R7::R8::R9::S0::S1::S2::S3::S4::S5::S6::S7::[]),[]⟩ (.code (Code.nav (Try.f6.body.getD .skip) [1,1,1,1,1,1,1,1])::kk)) cs) x:=by
 have hnS:t.css.length=t.nS:=by unfold TR.css;rw [List.length_map];exact H.num
 obtain ⟨n2,n256,s8,s2⟩:=H.small;have y2:=H.c2;have y3:=H.c3;simp only [Try.f6,Option.getD_some,Code.nav] at h;have hh:=HD h;have HF:=HD F;have HH:=HD H;have hr0:=HD hr;replace hnS:=HD hnS;clear h F H;simp only [Try.f6,Option.getD_some,Code.nav];refine JG.seq ?_;refine JG.seq ?_;refine kc ?_;refine ko fun K E hK hE τ d=>?_;have m0:=uc τ d (Xa hr.blk 0);have m1:=uc τ d (Xa hr.blk 1);have m2:=uc τ d (Xa hr.blk 2);have m3:=uc τ d (Xa hr.blk 3);have m4:=uc τ d (Xa hr.blk 4);have m5:=uc τ d (Xa hr.blk 5);have m6:=uc τ d (Xa hr.blk 6);go_simp;refine hK _ _ (jt ?_);clear m0 m1 m2 m3 m4 m5 m6 hK hE K E τ d
 try walk_nrm
 replace hr:=HD hr
 repeat refine kx ?_
 refine kf (args:=#[.agg #[.int .i8 e,.int .i64 Q.st.went.length,.slice aL Q.st.log.length cL,.slice aW Q.st.went.length cW,.slice aR Q.st.ready.length cR,.slice al Q.left.length cl,.slice none 0 0],.int .i64 t.nS,.slice t.aP t.picks.length t.cP,.int .i64 16384]) Try.func20 ?_;refine Xdi (m:=16384) HF.out (by omega) (by rw [hnS.out];omega) hnS.out.symm hr0.out.lg hr0.out.lf hr0.out.wn hr0.out.rd HH.out.pk (by omega) fun y ho=>?_;rw [Frame.finish_at];walk_nrm;clear y2 y3 hr;have hr:=hr0.out.old ho
 repeat refine kx ?_
 refine ko fun K E hK hE τ d=>?_;have m0:=uc τ d (Xa hr.blk 0);have m1:=uc τ d (Xa hr.blk 1);have m2:=uc τ d (Xa hr.blk 2);have m3:=uc τ d (Xa hr.blk 3);have m4:=uc τ d (Xa hr.blk 4);have m5:=uc τ d (Xa hr.blk 5);have m6:=uc τ d (Xa hr.blk 6);go_simp;refine hK _ _ (jt ?_);clear m0 m1 m2 m3 m4 m5 m6 hK hE K E τ d
 try walk_nrm
 replace hr:=HD hr;replace ho:=HD ho
 repeat refine kx ?_
 refine kf (args:=#[.agg #[.int .i8 e,.int .i64 Q.st.went.length,.slice aL Q.st.log.length cL,.slice aW Q.st.went.length cW,.slice aR Q.st.ready.length cR,.slice al Q.left.length cl,.slice none 0 0]]) Try.func21 ?_;refine XcF HF.out (by omega) nmR hr.out.lg hr.out.lf fun z K hk=>?_;rw [Frame.finish_at];walk_nrm;have hTz:=HH.out.old (ho.out.trans hk.old);have z0:=hTz.c0;have z1:=hTz.c1;replace hk:=HD hk;replace hTz:=HD hTz
 repeat refine kx ?_
 clear z0 z1;refine kf (args:=#[P0 K.wb,.agg #[.int .i64 t.n,.int .i64 t.fr]]) Try.func36 ?_;refine Xdn hk.out n2 (by omega) fun z2 K2 hw2 hk2=>?_;rw [Frame.finish_at];walk_nrm;rw [← hw2];clear hw2;replace hk2:=HD hk2
 repeat refine kx ?_
 exact hh.out z2 K2 _ _ _ _ _ _ _ _ _ _ _ _ _ _ y ho.out hk2.out
