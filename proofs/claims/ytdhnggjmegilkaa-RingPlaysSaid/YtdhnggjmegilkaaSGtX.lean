/- The ring's works under J; rings that are none. -/
import Derived.Test.YtdhnggjmegilkaaSGtS
import Derived.Test.YtdhnggjmegilkaaSGtO
import Derived.Test.YtdhnggjmegilkaaSCell
import Derived.Deep.RegionWith
import Derived.Laws.MakeOwn
import Derived.IntWalk
import Derived.Deep.DeepCutAuto
import Derived.Test.YtdhnggjmegilkaaSGtC
import Derived.Test.YtdhnggjmegilkaaSGtT
set_option linter.all false
set_option maxRecDepth 100000
set_option maxHeartbeats 16000000
namespace Go.Proofs.Ytdhnggjmegilkaa
open Go.RowKit Go.MuLone
set_option maxRecDepth 100000
theorem VI {P:Program} (t e:TypeId) (i:TypeInfo) (z:Value) (ht:P.underlying t=some (.slice e)) (hi:P.info? e=some i) (hz:i.zero=some z)
 (kl kc:IntKind) (n c:Nat) (hnc:n≤c) (hbytes:i.bytes * c≤281474976710656) (h63:c≤9223372036854775807) (w:World) :
 (Instr.makeSlice t (.int kl (n:Int)) (.int kc (c:Int))).run P w=.ok (.slice (some ⟨w.heap.size,0,none⟩) n c) (w.alloc (.cells (madeCells z.cells (c * i.size)) e)):=by
 have hb:(i.bytes:Int) * (c:Int)≤281474976710656:=by
  have h:((i.bytes * c:Nat):Int)≤281474976710656:=by omega
  rwa [Int.natCast_mul] at h
 have hr:=run_make (P:=P) w t e i z ht hi hz kl kc n c (by omega) (by omega) hb (by omega);simp only [Int.toNat_natCast] at hr;exact hr
theorem Xbz:(Try.prog.info? 208).map (fun i=>(i.zero,i.size,i.bytes))=some (some (.agg #[.pointer none,.pointer none]),2,16):=by kernel_rfl
abbrev PP (b:Nat):Value:=.pointer (some ⟨b,0,none⟩)
structure Xf8 (w:World) (pb B n:Nat) (p:Int) (m:Nat):Prop where
 row:∃ cs,Blk w pb 208 cs∧cs.size=n * 2∧∀ j:Nat,j < m→cs[(ixZ n (p + j)).toNat * 2]? = some (PP (B + 2 * j))∧cs[(ixZ n (p + j)).toNat * 2 + 1]? = some (PP (B + 2 * j + 1))
 cell:∀ j:Nat,j < m→XN w (B + 2 * j) (wrap64 (p + j))∧XN w (B + 2 * j + 1) 0
 size:w.heap.size=B + 2 * m
structure RingAt (w0 w:World) (r i o pb B n:Nat) (p:Int) (m:Nat):Prop where
 blk:Blk w r 115 #[PP i,PP o,.slice (some ⟨pb,0,none⟩) n n]
 cin:XN w i p
 cout:XN w o p
 places:Xf8 w pb B n p m
 below:Below w0.heap.size w0 w
 lows:w0.heap.size≤r∧w0.heap.size≤i∧w0.heap.size≤o∧w0.heap.size≤pb
 highs:r < B∧i < B∧o < B∧pb < B
 diff:i≠o
theorem XeW (w:World) (r pb n c:Nat) (vi vo:Value) (p:Int) (h:Blk w r 115 #[vi,vo,.slice (some ⟨pb,0,none⟩) n c]) (hi0:0≤ixZ n p) (hi1:ixZ n p < n) :
 Calls Try.prog 111 #[PP r,.int .i64 p] w fun e w'=>e=.returned (.pointer (some ⟨pb,(ixZ n p).toNat * 2,none⟩))∧w'=w.drew:=by
 have k2:=h.cell 2;have hlt:=h.lt;simp at k2;clear h;unfold ixZ at hi0 hi1 ⊢
 go_enter Try.func111,Try.ntmps111
 go_wp2_with fail
 go_region
 go_wp2
 go_ret;exact ⟨rfl,rfl⟩
def XfD (w:World) (n:Nat) (p:Int) (e:Ending) (w':World):Prop:=∃ r i o pb B,e=.returned (.tuple #[PP r,.int .i64 0])∧RingAt w w' r i o pb B n p n
def Xf9 (w:World) (n:Nat) (p:Int) (v:Value) (w':World):Prop:=∃ r i o pb B,v=PP r∧RingAt w w' r i o pb B n p 0
theorem XdU (w:World) (n:Nat) (p:Int) (w0:World) (r c1 c2 q:Nat) (hl:r=w0.heap.size) (hb:Below w.heap.size w w0) (h1:w.heap.size≤c1) (h2:w.heap.size≤c2) (h3:w.heap.size≤q) (i1:XN w0 c1 p) (i2:XN w0 c2 p)
 (ip:Blk w0 q 208 (madeCells #[.pointer none,.pointer none] (n * 2))) (hne:c1≠c2):Xf9 w n p (PP r) (w0.alloc (.cells #[PP c1,PP c2,.slice (some ⟨q,0,none⟩) n n] 115)).drew:=by
 subst hl;have l1:=Blk.lt i1;have l2:=Blk.lt i2;have l3:=ip.lt;exact ⟨w0.heap.size,c1,c2,q,w0.heap.size + 1,rfl,Blk.new _ _ _,Blk.alloc i1 _,Blk.alloc i2 _,⟨⟨_,Blk.alloc ip _,by simp [madeCells],fun j h=>by omega⟩,fun j h=>by omega,by simp [World.drew]⟩,(hb.alloc hb.size _).drew,⟨hb.size,h1,h2,h3⟩,by omega,hne⟩
theorem ring_step {w wr:World} {r ic oc pb B z i g:Nat} {p:Int} (hr:RingAt w wr r ic oc pb B z p i) (hlt:i < z) (hbnd:∀ q:Int,0≤ixZ z q∧ixZ z q < z) (hinj:∀ i j:Nat,i < z→j < z→ixZ z (p + i)=ixZ z (p + j)→i=j) (hg:g=(ixZ z (p + i)).toNat * 2) :
 RingAt w (((((wr.setCell ⟨pb,g,none⟩ (.pointer (some ⟨wr.heap.size,0,none⟩))).setCell ⟨pb,g + 1,none⟩ (.pointer (some ⟨wr.heap.size + 1,0,none⟩))).alloc (ZF (wrap64 (p + i)))).alloc (ZF 0)).drew) r ic oc pb B z p (i + 1):=by
 obtain ⟨cs,hcs,hsz,hrow⟩:=hr.places.row;have hs:=hr.places.size;have nr:r≠pb:=Blk.ne_ hr.blk hcs (by decide);have ni:ic≠pb:=Blk.ne_ (show Blk wr ic _ _ from hr.cin) hcs (by decide);have no:oc≠pb:=Blk.ne_ (show Blk wr oc _ _ from hr.cout) hcs (by decide);have far:∀ {q:Nat} {t:TypeId} {c:Array Value},Blk wr q t c→q≠pb→Blk (((((wr.setCell ⟨pb,g,none⟩ (.pointer (some ⟨wr.heap.size,0,none⟩))).setCell ⟨pb,g + 1,none⟩ (.pointer (some ⟨wr.heap.size + 1,0,none⟩))).alloc (ZF (wrap64 (p + i)))).alloc (ZF 0)).drew) q t c:=fun h hq =>
  (((h.far (p:=⟨pb,g,none⟩) hq _).far (p:=⟨pb,g + 1,none⟩) hq _).alloc _).alloc _
 have hb1:=hbnd (p + i);refine ⟨far hr.blk nr,far (show Blk wr ic _ _ from hr.cin) ni,far (show Blk wr oc _ _ from hr.cout) no,⟨⟨(cs.setIfInBounds g (.pointer (some ⟨wr.heap.size,0,none⟩))).setIfInBounds (g + 1) (.pointer (some ⟨wr.heap.size + 1,0,none⟩)),?_,by simp [hsz],fun j hj=>?_⟩,fun j hj=>?_,?_⟩,?_,hr.lows,hr.highs,hr.diff⟩
 ·exact (((hcs.set_ g _).set_ (g + 1) _).alloc _).alloc _
 ·by_cases e:j=i
  ·subst e
   rw [← hg]
   constructor
   ·rw [Array.getElem?_setIfInBounds_ne (by omega),Array.getElem?_setIfInBounds_self_of_lt (by omega),hs]
   ·rw [Array.getElem?_setIfInBounds_self_of_lt (by simp;omega),hs]
  ·have hj':j < i:=by omega
   obtain ⟨h1,h2⟩:=hrow j hj';have hne:(ixZ z (p + j)).toNat≠(ixZ z (p + i)).toNat:=fun h=>by
    have:=hbnd (p + j)
    exact e (hinj j i (by omega) hlt (by omega))
   constructor
   ·rw [Array.getElem?_setIfInBounds_ne (by omega),Array.getElem?_setIfInBounds_ne (by omega),h1]
   ·rw [Array.getElem?_setIfInBounds_ne (by omega),Array.getElem?_setIfInBounds_ne (by omega),h2]
 ·by_cases e:j=i
  ·subst e
   constructor
   ·refine Blk.alloc (Blk.new' _ _ _ _ ?_) _
    simp [hs]
   ·refine Blk.new' _ _ _ _ ?_
    simp [hs]
  ·obtain ⟨h1,h2⟩:=hr.places.cell j (by omega)
   exact ⟨far (show Blk wr _ _ _ from h1) (Blk.ne_ (show Blk wr _ _ _ from h1) hcs (by decide)),far (show Blk wr _ _ _ from h2) (Blk.ne_ (show Blk wr _ _ _ from h2) hcs (by decide))⟩
 ·simp [World.drew,hs];omega
 ·have hl:=hr.lows
  exact ((((hr.below.setCell (by simpa using hl.2.2.2) _).setCell (by simpa using hl.2.2.2) _).alloc (by simpa using hr.below.size) _).alloc (by simp;have:=hr.below.size;omega) _).drew
theorem XdL (k:Nat) (hk1:1≤k) (hk:k≤12) (p:Int) (w:World) :
 Calls Try.prog 42 #[.int .i64 ((2 ^ k:Nat):Int),.int .i64 p] w (XfD w (2 ^ k) p):=by
 have hbits:=Xdl k hk1 hk;have hz4:2 ^ k≤4096:=Nat.pow_le_pow_right (by decide) hk;have hz2:2≤2 ^ k:=by simpa using Nat.pow_le_pow_right (n:=2) (by decide) hk1
 have hbnd:=Xbw k hk;have hinj:=Xfj k hk p;have hwr:=XdX k hk;generalize hz:2 ^ k=z at *;have hb2:bits .and .i64 (z:Int) ((z:Int) - 1)=0:=by rw [show wrap64 ((z:Int) - 1)=(z:Int) - 1 by unfold wrap64;omega] at hbits;exact hbits
 have hb3:(bits .and .i64 (z:Int) ((z:Int) - 1) != 0)=false:=by rw [hb2];rfl
 have h1:decide ((z:Int) < 2)=false:=by simp;omega
 have h2:decide ((4096:Int) < z)=false:=by simp;omega
 obtain ⟨i0,hi0,hq0,hq1,hq2⟩:=info_parts Xbz;have hmk:=fun W=>VI (P:=Try.prog) 113 208 i0 _ Try.underlying113 hi0 hq0 .i64 .i64 z z (Nat.le_refl _) (by rw [hq2];omega) (by omega) W;rw [hq1] at hmk
 go_enter Try.func42,Try.ntmps42
 go_upto_region 3 with (fail)
 go_cut [6] (fun v6 wx=>Xf9 w z p v6 wx)
 case first =>
  go_region_with (go_at_call 14;refine (Xa4 _ _).mono ?_;rintro e w' ⟨rfl,rfl⟩)
  all_goals (go_wp2_with fail;go_meet)
  all_goals
   refine XdU w z p _ _ _ _ _ ?_ ?_ ?_ ?_ ?_ ?_ ?_ ?_ ?_
   ·simp
   ·exact (((Below.refl _ _).alloc (Nat.le_refl _) _).alloc (by simp) _).alloc (by simp;omega) _
   ·omega
   ·omega
   ·omega
   ·first|(refine Blk.new' _ _ _ _ ?_;simp;done)|(refine Blk.alloc (Blk.new' _ _ _ _ ?_) _;simp;done)|(refine Blk.alloc (Blk.alloc (Blk.new' _ _ _ _ ?_) _) _;simp;done)
   ·first|(refine Blk.new' _ _ _ _ ?_;simp;done)|(refine Blk.alloc (Blk.new' _ _ _ _ ?_) _;simp;done)|(refine Blk.alloc (Blk.alloc (Blk.new' _ _ _ _ ?_) _) _;simp;done)
   ·first|(refine Blk.new' _ _ _ _ ?_;simp;done)|(refine Blk.alloc (Blk.new' _ _ _ _ ?_) _;simp;done)|(refine Blk.alloc (Blk.alloc (Blk.new' _ _ _ _ ?_) _) _;simp;done)
   ·omega
 case rest =>
  obtain ⟨r,ic,oc,pb,B,rfl,hR⟩:=hcut;replace hR:=HD hR
  go_wp2_with fail
  go_loopw [30] (fun v wr=>∃ i:Nat,i≤z∧v=.int .i64 (i:Int)∧RingAt w wr r ic oc pb B z p i) (fun v _=>z - (intOf v).toNat)
  case atStart=>exact ⟨0,Nat.zero_le _,rfl,hR.out⟩
  case round =>
   obtain ⟨i,hi,rfl,hr⟩:=hrel
   by_cases hlt:i < z
   ·have hx:decide (i < z)=true:=by simpa using hlt
    have hxi:decide ((i:Int) < (z:Int))=true:=by simp;omega
    obtain ⟨g,hg⟩:∃ g,g=(ixZ z (p + i)).toNat * 2:=⟨_,rfl⟩
    have hb:=hbnd (p + i);have hat:Calls Try.prog 111 #[PP r,.int .i64 (wrap64 (p + i))] wr fun e w'=>e=.returned (.pointer (some ⟨pb,g,none⟩))∧w'=wr.drew:=by
     rw [hg,← hwr (p + i)];exact XeW wr r pb z z _ _ _ hr.blk (by rw [hwr];exact hb.1) (by rw [hwr];exact hb.2)
    obtain ⟨cs,hcs,hsz,hrow⟩:=hr.places.row;have hgl:g + 1 < cs.size:=by rw [hsz,hg];omega
    have c0:wr.cell? ⟨pb,g,none⟩=some cs[g]:=by rw [hcs.cell];simp [show g < cs.size by omega]
    have c1:wr.cell? ⟨pb,g + 1,none⟩=some cs[g + 1]:=by rw [hcs.cell];simp [hgl]
    have f0:=hcs.frozen g;have f1:=hcs.frozen (g + 1);have hpb:=hcs.lt;have HR:=HD hr;generalize cs[g] = y0 at c0;generalize cs[g + 1] = y1 at c1;clear hgl;replace hg:=HD hg;replace hcs:=HD hcs;clear hrow;replace hsz:=HD hsz;have HB:=HD hbnd;clear hb hr hbnd
    go_wp2_with (first|(go_at_call 111;refine hat.mono ?_;rintro e w' ⟨rfl,rfl⟩)|(go_at_call 14;refine (Xa4 _ _).mono ?_;rintro e w' ⟨rfl,rfl⟩))
    exact ⟨⟨i + 1,hlt,by simp,ring_step HR.out hlt HB.out hinj hg.out⟩,by simp [intOf];omega⟩
   ·have hx:decide (i < z)=false:=by simpa using hlt
    have hxi:decide ((i:Int) < (z:Int))=false:=by simp;omega
    have he:i=z:=by omega
    subst he;replace hr:=HD hr
    go_wp2_with fail
    go_ret2;exact ⟨r,ic,oc,pb,B,rfl,hr.out⟩
theorem XN.freeU {w:World} {b:Nat} {x:Int} (h:XN w b x):Xr w b x:=⟨h.c0,h.c1,h.c2,h.c4,h.fz⟩
end Go.Proofs.Ytdhnggjmegilkaa
namespace Go.Proofs.Ytdhnggjmegilkaa
open Go.Conc Go.RowKit
open Go.ConcN (upd upd_same upd_ne)
set_option maxRecDepth 100000
noncomputable def FL (ms:List FuncId):Fns:={ fn:=fun f=>ms.contains f,maps:=false,top:=fun f=>decide (f < Try.prog.funcs.size),ext:=fun f=>exts.contains f }
noncomputable def XbW (F:Fns) (f:FuncId):Bool:=match Try.prog.funcs[f]? with
 | some fn => !(fn.name == "runtime.NumGoroutine") && (match fn.body with | some c => YY F c | none => false)
 | none=>false
theorem XbV {F:Fns} {f:FuncId} (h:XbW F f=true):Xds F f:=by
 unfold XbW at h
 split at h
 ·rename_i fn hfn
  simp only [Bool.and_eq_true,Bool.not_eq_true'] at h;obtain ⟨h1,h2⟩:=h
  split at h2
  ·rename_i c hc
   exact ⟨fn,c,hfn,h1,hc,h2⟩
  ·cases h2
 ·cases h
theorem Xft {ms:List FuncId} (S:YK) (h:(ms.all (XbW (FL ms)))=true):Closed Try.prog S (FL ms) where
 maps:=fun h=>by cases h
 text:=fun f hf=>XbV (List.all_eq_true.1 h f (List.contains_iff_mem.1 hf))
 exts:=Xap
 tops:=fun f h=>by
  have h:f < Try.prog.funcs.size:=by simpa [FL] using h
  exact ⟨_,Array.getElem?_eq_getElem h⟩
 early:=Ug
noncomputable def Xes:List FuncId:=[14,80,42,111]
theorem Xfs (S:YK):Closed Try.prog S (FL Xes):=Xft S (by kernel_rfl)
section
variable {Post:Value→World→Prop} {C:Ctx} {x:World} {c:Frame} {cs:List Frame}
theorem Wl {k:Nat} {p:Int} (hk1:1≤k) (hk:k≤12) (h:∀ y r i o pb B τ,RingAt (under x τ 0) y r i o pb B (2 ^ k) p (2 ^ k)→JG Try.prog Post C (G (c.finish (.tuple #[P0 r,.int .i64 0])) cs) y) :
 JG Try.prog Post C (G (Frame.enter Try.prog 42 #[.int .i64 ((2 ^ k:Nat):Int),.int .i64 p] .normal) (c::cs)) x:=by
 refine JG.calls (F:=FL Xes) (Q:=fun u y=>∃ r i o pb B τ,u=.tuple #[P0 r,.int .i64 0]∧RingAt (under x τ 0) y r i o pb B (2 ^ k) p (2 ^ k)) (Xfs _) (by kernel_rfl) (fun τ=>?_) (fun u y hq=>?_)
 ·refine (XdL k hk1 hk p _).mono ?_
  rintro e y ⟨r,i,o,pb,B,rfl,hR⟩;exact ⟨_,rfl,r,i,o,pb,B,τ,rfl,hR⟩
 ·obtain ⟨r,i,o,pb,B,τ,rfl,hR⟩:=hq
  exact h y r i o pb B τ hR
end
structure Yc (lo:Nat) (y:World) (r ic oc pb B n:Nat) (p0 pin pout:Int) (turn slot:Nat→Int):Prop where
 blk:y.heap[r]? = some (.cells #[P0 ic,P0 oc,.slice (some ⟨pb,0,none⟩) n n] 115 (0,0))
 cin:Xr y ic pin
 cout:Xr y oc pout
 row:∀ j:Nat,j < n→y.cell? (th pb ((ixZ n (p0 + j)).toNat * 2))=some (P0 (B + 2 * j))∧y.cell? (th pb ((ixZ n (p0 + j)).toNat * 2 + 1))=some (P0 (B + 2 * j + 1))
 turns:∀ j:Nat,j < n→Xr y (B + 2 * j) (turn j)
 slots:∀ j:Nat,j < n→Xr y (B + 2 * j + 1) (slot j)
 ne:ic≠oc∧r≠ic∧r≠oc∧pb≠ic∧pb≠oc
 hi:r < B∧ic < B∧oc < B∧pb < B
 lo:lo≤r∧lo≤ic∧lo≤oc∧lo≤pb
theorem RingAt.st {w y:World} {r i o pb B n:Nat} {p:Int} (h:RingAt w y r i o pb B n p n):Yc w.heap.size y r i o pb B n p p p (fun j=>wrap64 (p + j)) (fun _=>0):=by
 obtain ⟨cs,hcs,hsz,hrow⟩:=h.places.row;refine ⟨h.blk,h.cin.freeU,h.cout.freeU,fun j hj=>?_,fun j hj=>(h.places.cell j hj).1.freeU,fun j hj=>(h.places.cell j hj).2.freeU,⟨h.diff,?_,?_,?_,?_⟩,h.highs,h.lows⟩
 ·obtain ⟨h1,h2⟩:=hrow j hj
  exact ⟨by rw [hcs.cell,h1],by rw [hcs.cell,h2]⟩
 ·exact Blk.ne_ h.blk (show Blk y i _ _ from h.cin) (by decide)
 ·exact Blk.ne_ h.blk (show Blk y o _ _ from h.cout) (by decide)
 ·exact Blk.ne_ hcs (show Blk y i _ _ from h.cin) (by decide)
 ·exact Blk.ne_ hcs (show Blk y o _ _ from h.cout) (by decide)
section
variable {Post:Value→World→Prop} {C:Ctx} {x:World} {c:Frame} {cs:List Frame} {lo r ic oc pb B n:Nat} {p0 pin pout:Int} {turn slot:Nat→Int}
theorem Yc.frame (h:Yc lo x r ic oc pb B n p0 pin pout turn slot) {q:Nat} {u:Value} (h1:r≠q) (h2:pb≠q) :
 (x.setCell (th q 0) u).heap[r]? = some (.cells #[P0 ic,P0 oc,.slice (some ⟨pb,0,none⟩) n n] 115 (0,0)) ∧
 ∀ j:Nat,j < n→(x.setCell (th q 0) u).cell? (th pb ((ixZ n (p0 + j)).toNat * 2))=some (P0 (B + 2 * j))∧(x.setCell (th q 0) u).cell? (th pb ((ixZ n (p0 + j)).toNat * 2 + 1))=some (P0 (B + 2 * j + 1)) :=
 ⟨(Xb h1).trans h.blk,fun j hj=>⟨Xi (by simp [th,h2]) (h.row j hj).1,Xi (by simp [th,h2]) (h.row j hj).2⟩⟩
theorem Yc.setIn (h:Yc lo x r ic oc pb B n p0 pin pout turn slot) (v:Int):Yc lo (x.setCell (th ic 0) (.int .i64 v)) r ic oc pb B n p0 v pout turn slot:=by
 obtain ⟨f1,f2⟩:=h.frame (q:=ic) (u:=.int .i64 v) h.ne.2.1 h.ne.2.2.2.1;exact ⟨f1,h.cin.set,h.cout.set_ne (fun e=>h.ne.1 e.symm),f2,fun j hj=>(h.turns j hj).set_ne (by have:=h.hi;omega),fun j hj=>(h.slots j hj).set_ne (by have:=h.hi;omega),h.ne,h.hi,h.lo⟩
theorem Yc.setOut (h:Yc lo x r ic oc pb B n p0 pin pout turn slot) (v:Int):Yc lo (x.setCell (th oc 0) (.int .i64 v)) r ic oc pb B n p0 pin v turn slot:=by
 obtain ⟨f1,f2⟩:=h.frame (q:=oc) (u:=.int .i64 v) h.ne.2.2.1 h.ne.2.2.2.2;exact ⟨f1,h.cin.set_ne h.ne.1,h.cout.set,f2,fun j hj=>(h.turns j hj).set_ne (by have:=h.hi;omega),fun j hj=>(h.slots j hj).set_ne (by have:=h.hi;omega),h.ne,h.hi,h.lo⟩
theorem Yc.setTurn (h:Yc lo x r ic oc pb B n p0 pin pout turn slot) {j:Nat} (hj:j < n) (v:Int):Yc lo (x.setCell (th (B + 2 * j) 0) (.int .i64 v)) r ic oc pb B n p0 pin pout (upd turn j v) slot:=by
 have hh:=h.hi;obtain ⟨f1,f2⟩:=h.frame (q:=B + 2 * j) (u:=.int .i64 v) (by omega) (by omega);refine ⟨f1,h.cin.set_ne (by omega),h.cout.set_ne (by omega),f2,fun i hi=>?_,fun i hi=>(h.slots i hi).set_ne (by omega),h.ne,h.hi,h.lo⟩
 by_cases e:i=j
 ·subst e;rw [upd_same];exact (h.turns i hi).set
 ·rw [upd_ne turn v e];exact (h.turns i hi).set_ne (by omega)
theorem Yc.setSlot (h:Yc lo x r ic oc pb B n p0 pin pout turn slot) {j:Nat} (hj:j < n) (v:Int):Yc lo (x.setCell (th (B + 2 * j + 1) 0) (.int .i64 v)) r ic oc pb B n p0 pin pout turn (upd slot j v):=by
 have hh:=h.hi;obtain ⟨f1,f2⟩:=h.frame (q:=B + 2 * j + 1) (u:=.int .i64 v) (by omega) (by omega);refine ⟨f1,h.cin.set_ne (by omega),h.cout.set_ne (by omega),f2,fun i hi=>(h.turns i hi).set_ne (by omega),fun i hi=>?_,h.ne,h.hi,h.lo⟩
 by_cases e:i=j
 ·subst e;rw [upd_same];exact (h.slots i hi).set
 ·rw [upd_ne slot v e];exact (h.slots i hi).set_ne (by omega)
def Qd (lo:Nat) (x y:World):Prop:=y.heap.size=x.heap.size∧∀ q,q < lo→y.heap[q]? = x.heap[q]?
theorem Qd.set {y:World} (h:Qd lo x y) {q:Nat} (hq:lo≤q) (u:Value):Qd lo x (y.setCell (th q 0) u):=⟨(Xh _ _ _).trans h.1,fun i hi=>(Xb (by omega)).trans (h.2 i hi)⟩
theorem Qd.refl:Qd lo x x:=⟨rfl,fun _ _=>rfl⟩
theorem Xeq {v:Int} {j:Nat} (h:Yc lo x r ic oc pb B n p0 pin pout turn slot) (hj:j < n) (hix:ixZ n pin=ixZ n (p0 + j)) (hi:0≤ixZ n pin∧ixZ n pin < n) (hd:IntKind.i64.wrap (turn j - IntKind.i64.wrap (pin + 0))=0)
 (hn:∀ y,Yc lo y r ic oc pb B n p0 (IntKind.i64.wrap (pin + 1)) pout (upd turn j (IntKind.i64.wrap (pin + 1))) (upd slot j v)→Qd lo x y→JG Try.prog Post C (G (c.finish (.int .i64 0)) cs) y) :
 JG Try.prog Post C (G (Frame.enter Try.prog 39 #[P0 r,.pointer none,.int .i64 v] .normal) (c::cs)) x:=by
 have hh:=h.hi;have hl:=h.lo;have hB:lo≤B:=by omega
 refine Xgs (tb:=B + 2 * j) (sb:=B + 2 * j + 1) h.blk hi.1 hi.2 h.cin (by rw [hix];exact (h.row j hj).1) (by rw [hix];exact (h.row j hj).2) (h.turns j hj) (h.slots j hj) hd h.ne.2.1 h.ne.2.2.2.1 (by omega) (by omega) (by omega) (by omega) ?_;exact hn _ (((h.setIn _).setSlot hj _).setTurn hj _) (((Qd.refl.set hl.2.1 _).set (by omega) _).set (by omega) _)
theorem Xe6 {v:Int} {j:Nat} (h:Yc lo x r ic oc pb B n p0 pin pout turn slot) (hj:j < n) (hix:ixZ n pin=ixZ n (p0 + j)) (hi:0≤ixZ n pin∧ixZ n pin < n) (hd:IntKind.i64.wrap (turn j - IntKind.i64.wrap (pin + 0)) < 0)
 (hn:JG Try.prog Post C (G (c.finish (.int .i64 12)) cs) x) :
 JG Try.prog Post C (G (Frame.enter Try.prog 39 #[P0 r,.pointer none,.int .i64 v] .normal) (c::cs)) x :=
 XfQ (tb:=B + 2 * j) h.blk hi.1 hi.2 h.cin (by rw [hix];exact (h.row j hj).1) (h.turns j hj) rfl (by rw [beq_eq_false_iff_ne];omega) (decide_eq_true hd) hn
theorem XeN {j:Nat} (h:Yc lo x r ic oc pb B n p0 pin pout turn slot) (hj:j < n) (hix:ixZ n pout=ixZ n (p0 + j)) (hi:0≤ixZ n pout∧ixZ n pout < n) (hd:IntKind.i64.wrap (turn j - IntKind.i64.wrap (pout + 1))=0)
 (hn:∀ y,Yc lo y r ic oc pb B n p0 pin (IntKind.i64.wrap (pout + 1)) (upd turn j (IntKind.i64.wrap (pout + n))) slot→Qd lo x y→JG Try.prog Post C (G (c.finish (.tuple #[.int .i64 (slot j),.bool true])) cs) y) :
 JG Try.prog Post C (G (Frame.enter Try.prog 40 #[P0 r,.pointer none] .normal) (c::cs)) x:=by
 have hh:=h.hi;have hl:=h.lo;have hB:lo≤B:=by omega
 refine XfM (tb:=B + 2 * j) (sb:=B + 2 * j + 1) h.blk hi.1 hi.2 h.cout (by rw [hix];exact (h.row j hj).1) (by rw [hix];exact (h.row j hj).2) (h.turns j hj) (h.slots j hj) hd h.ne.2.2.1 h.ne.2.2.2.2 (by omega) (by omega) ?_;exact hn _ ((h.setOut _).setTurn hj _) ((Qd.refl.set hl.2.2.1 _).set (by omega) _)
theorem XdE {j:Nat} (h:Yc lo x r ic oc pb B n p0 pin pout turn slot) (hj:j < n) (hix:ixZ n pout=ixZ n (p0 + j)) (hi:0≤ixZ n pout∧ixZ n pout < n) (hd:IntKind.i64.wrap (turn j - IntKind.i64.wrap (pout + 1)) < 0)
 (hn:JG Try.prog Post C (G (c.finish (.tuple #[.int .i64 0,.bool false])) cs) x) :
 JG Try.prog Post C (G (Frame.enter Try.prog 40 #[P0 r,.pointer none] .normal) (c::cs)) x :=
 XeO (tb:=B + 2 * j) h.blk hi.1 hi.2 h.cout (by rw [hix];exact (h.row j hj).1) (h.turns j hj) rfl (by rw [beq_eq_false_iff_ne];omega) (decide_eq_true hd) hn
theorem XfX (h:Yc lo x r ic oc pb B n p0 pin pout turn slot) (hn:JG Try.prog Post C (G (c.finish (.int .i64 (IntKind.i64.wrap (pin - pout)))) cs) x) :
 JG Try.prog Post C (G (Frame.enter Try.prog 43 #[P0 r,.pointer none] .normal) (c::cs)) x:=Xgu h.blk h.cin h.cout hn
end
section
variable {Post:Value→World→Prop} {C:Ctx} {x:World} {c:Frame} {cs:List Frame} {lo r ic oc pb B n:Nat} {p0 pin pout:Int} {turn slot:Nat→Int}
theorem XbX {j:Nat} {u:Int} (h:Yc lo x r ic oc pb B n p0 pin pout turn slot) (hv:slot j=u) (hj:j < n) (hix:ixZ n pout=ixZ n (p0 + j)) (hi:0≤ixZ n pout∧ixZ n pout < n) (hd:IntKind.i64.wrap (turn j - IntKind.i64.wrap (pout + 1))=0)
 (hn:∀ y,Yc lo y r ic oc pb B n p0 pin (IntKind.i64.wrap (pout + 1)) (upd turn j (IntKind.i64.wrap (pout + n))) slot→Qd lo x y→JG Try.prog Post C (G (c.finish (.tuple #[.int .i64 u,.bool true])) cs) y) :
 JG Try.prog Post C (G (Frame.enter Try.prog 40 #[P0 r,.pointer none] .normal) (c::cs)) x:=by
 subst hv;exact XeN h hj hix hi hd hn
theorem XfW {u:Int} (h:Yc lo x r ic oc pb B n p0 pin pout turn slot) (hv:IntKind.i64.wrap (pin - pout)=u) (hn:JG Try.prog Post C (G (c.finish (.int .i64 u)) cs) x) :
 JG Try.prog Post C (G (Frame.enter Try.prog 43 #[P0 r,.pointer none] .normal) (c::cs)) x:=by
 subst hv;exact XfX h hn
theorem XeX {p:Int} (h:∀ y r i o pb B,Yc x.heap.size y r i o pb B 2 p p p (fun j=>wrap64 (p + j)) (fun _=>0)→x.heap.size≤y.heap.size→(∀ q,q < x.heap.size→y.heap[q]? = x.heap[q]?)→JG Try.prog Post C (G (c.finish (.tuple #[P0 r,.int .i64 0])) cs) y) :
 JG Try.prog Post C (G (Frame.enter Try.prog 42 #[.int .i64 2,.int .i64 p] .normal) (c::cs)) x:=by
 have e:((2 ^ 1:Nat):Int)=2:=rfl
 have:=Wl (Post:=Post) (C:=C) (x:=x) (c:=c) (cs:=cs) (k:=1) (p:=p) (by decide) (by decide) fun y r i o pb B τ hR=>h y r i o pb B hR.st hR.below.size hR.below.block
 rw [e] at this;exact this
theorem XeE (h:∀ y,x.heap.size≤y.heap.size→(∀ q,q < x.heap.size→y.heap[q]? = x.heap[q]?)→JG Try.prog Post C (G (c.finish (.bool true)) cs) y) :
 JG Try.prog Post C (G (Frame.enter Try.prog 31 #[] .normal) (c::cs)) x:=by
 refine Xu Try.func31 (by rfl) (by rfl) ?_;simp only [Try.f31,Option.getD_some];walk_nrm
 repeat refine kx ?_
 refine kf (args:=#[.int .i64 2,.int .i64 9223372036854775807]) Try.func42 ?_;refine XeX fun y r i o pb B hs ys yo=>?_;rw [Frame.finish_at];walk_nrm
 repeat refine kx ?_
 refine kf (args:=#[P0 r,.pointer none,.int .i64 7]) Try.func39 ?_;refine Xeq (j:=0) hs (by decide) (by decide +kernel) (by decide +kernel) (by decide +kernel) fun y1 s1 k1=>?_;rw [Frame.finish_at];walk_nrm
 repeat refine kx ?_
 refine kf (args:=#[P0 r,.pointer none,.int .i64 8]) Try.func39 ?_;refine Xeq (j:=1) s1 (by decide) (by decide +kernel) (by decide +kernel) (by decide +kernel) fun y2 s2 k2=>?_;rw [Frame.finish_at];walk_nrm
 repeat refine kx ?_
 refine kf (args:=#[P0 r,.pointer none,.int .i64 9]) Try.func39 ?_;refine Xe6 (j:=0) s2 (by decide) (by decide +kernel) (by decide +kernel) (by decide +kernel) ?_;rw [Frame.finish_at];walk_nrm
 repeat refine kx ?_
 refine kf (args:=#[P0 r,.pointer none]) Try.func43 ?_;refine XfW (u:=2) s2 (by decide +kernel) ?_;rw [Frame.finish_at];walk_nrm
 repeat refine kx ?_
 refine kf (args:=#[P0 r,.pointer none]) Try.func40 ?_;refine XbX (j:=0) (u:=7) s2 (by decide +kernel) (by decide) (by decide +kernel) (by decide +kernel) (by decide +kernel) fun y3 s3 k3=>?_;rw [Frame.finish_at];walk_nrm
 repeat refine kx ?_
 refine kf (args:=#[P0 r,.pointer none]) Try.func40 ?_;refine XbX (j:=1) (u:=8) s3 (by decide +kernel) (by decide) (by decide +kernel) (by decide +kernel) (by decide +kernel) fun y4 s4 k4=>?_;rw [Frame.finish_at];walk_nrm
 repeat refine kx ?_
 refine kf (args:=#[P0 r,.pointer none]) Try.func40 ?_;refine XdE (j:=0) s4 (by decide) (by decide +kernel) (by decide +kernel) (by decide +kernel) ?_;rw [Frame.finish_at];walk_nrm
 repeat refine kx ?_
 refine JG.ret ?_;exact JG.leave rfl rfl Try.func31 (fun τ d=>results_tmp (t:=0) rfl _ _ _) (h y4 (by rw [k4.1,k3.1,k2.1,k1.1];exact ys) fun q hq=>by rw [k4.2 q hq,k3.2 q hq,k2.2 q hq,k1.2 q hq,yo q hq])
