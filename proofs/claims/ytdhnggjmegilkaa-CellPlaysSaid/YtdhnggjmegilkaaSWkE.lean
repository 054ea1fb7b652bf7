/- The record's check: the turns, one behind the other. Conditions: what the check's cells hold; the record is a run's. -/
import Derived.Test.YtdhnggjmegilkaaSCpJ
import Derived.Test.YtdhnggjmegilkaaSQu
import Derived.Deep.RegionWith
import Derived.Deep.RegionLaw
set_option linter.unusedSimpArgs false
set_option linter.unusedVariables false
set_option maxRecDepth 100000
set_option maxHeartbeats 16000000
namespace Go.Proofs.Ytdhnggjmegilkaa
open Go.Conc Go.RowKit
open Go.ConcN (upd upd_same upd_ne)
set_option maxRecDepth 100000
section
variable {w0:World} {Kp:Nat→Prop} {gt n:Nat} {A:Nat→Nat} {nc j:Nat} {L:List Op4} {bp bi bt bl gS oS gl cS cT cl cC:Nat} {aC:Option Addr}
abbrev Zp (w0:World) (Kp:Nat→Prop) (gt n:Nat) (A:Nat→Nat) (nc:Nat) (inj:∀ a b,a < nc→b < nc→A a=A b→a=b) (hgt:gt < w0.heap.size) (hA:∀ i,i < nc→A i < w0.heap.size∧gt≠A i):ZT (Nat→List Int) :=
 Xa0 A nc inj (XaE w0 Kp gt n A nc hgt hA) (YJ.no _) (XbS w0 Kp gt n A nc hgt hA)
theorem XeS {w w':World} {N N':Nat} {e e':TypeId} {size size':Nat} {v:Value} {n n':Nat} {xs xs':List Value} (h:w.ownsRow N e size v n xs) (h':w'.ownsRow N' e' size' v n' xs'):n=n':=by
 rcases h.2 with ⟨rfl,h0⟩|⟨g,cap,cur,rfl,_⟩
 ·rcases h'.2 with ⟨_,h1⟩|⟨g,cap,cur,h1,_⟩
  ·omega
  ·cases h1
 ·rcases h'.2 with ⟨h1,_⟩|⟨g',cap',cur',h1,_⟩
  ·cases h1
  ·injection h1
structure BSt (Post:Value→World→Prop) (S:ZT (Nat→List Int)) (gt n j tb rb:Nat) (cb:Frame) (m k:Nat) (C:Ctx) (x0 x:World) (col:Nat→Prop) (sh:Nat→List Int) (cells:Nat→Int) (q:(Nat→List Int) × XB (Nat→List Int) Unit):Prop where
 d:C.d=0
 lives:Ql x tb rb
 mine:col tb
 lt:∀ r,col r→r < x.heap.size
 I:S.I sh cells col x
 own:Ze gt n j col x0 x
 num:(sh j).length=k
 reach:Reach Post S j tb cb (fun Pv y=>Xz Post S j tb rb cb m Pv y ZK) C col cells x0 q.1 q.2
theorem BSt.old {Post:Value→World→Prop} {S:ZT (Nat→List Int)} {tb rb:Nat} {cb:Frame} {m k:Nat} {C:Ctx} {x0 x y:World} {col:Nat→Prop} {sh:Nat→List Int} {cells:Nat→Int} {q:(Nat→List Int) × XB (Nat→List Int) Unit} (h:BSt Post S gt n j tb rb cb m k C x0 x col sh cells q) (ho:Xf x y) (hg:gt < x.heap.size):BSt Post S gt n j tb rb cb m k C x0 y col sh cells q :=
 ⟨h.d,h.lives.old ho,h.mine,fun r hr=>Nat.lt_of_lt_of_le (h.lt r hr) ho.1,S.frame h.I col y ho.1 (fun r h1 _=>ho.2 r h1) (fun _ _ h=>h),h.own.old ho h.lt hg,h.num,h.reach⟩
def Xa6 (Post:Value→World→Prop) (S:ZT (Nat→List Int)) (gt n j tb rb:Nat) (cb:Frame) (k:Nat) (rest:List (Xr Int)) (C:Ctx) (y:World) (v:Int):Prop :=
 ∃ m x0 col sh cells,BSt Post S gt n j tb rb cb m k C x0 y col sh cells ((Yj j rest).pass (Qs j v sh))
def cpW (Post:Value→World→Prop) (S:ZT (Nat→List Int)) (gt n j tb rb:Nat) (cb:Frame) (k:Nat) (rest:List (Xr Int)) (Sees:World→Prop) (op arg new:Int) (i:Nat) (C:Ctx) (x:World):Nat→(Nat→Value)→Ctx→World→Prop
 | 0,_,C',y=>C'=C∧y=x
 | 1,cv,C',y=>C'=C∧Xf x y∧cv 0=ZR op i arg new
 | 2,cv,C',y=>Sees y∧∃ v,cv 1=.int .i64 v∧Xa6 Post S gt n j tb rb cb k rest C' y v
 | 3,cv,C',y=>Sees y∧∃ v B,cv 2=.slice (some ⟨B,0,none⟩) 1 1∧y.heap[B]? = some (.cells #[.int .i64 v] 2 (0,0))∧Xa6 Post S gt n j tb rb cb k rest C' y v
 | _,cv,C',y=>Sees y∧y.frozen? (th gt j)=false∧(∃ a l c,cv 3=.slice a l c)∧∃ m x0 col sh cells,BSt Post S gt n j tb rb cb m (k + 1) C' x0 (y.setCell (th gt j) (cv 3)) col sh cells ((Yj j rest).pass sh)
variable {Post:Value→World→Prop} {tb rb:Nat} {cb:Frame} {m k:Nat} {C:Ctx} {x0 x:World} {col:Nat→Prop} {sh:Nat→List Int} {cells:Nat→Int} {inj:∀ a b,a < nc→b < nc→A a=A b→a=b} {hgt:gt < w0.heap.size} {hA:∀ i,i < nc→A i < w0.heap.size∧gt≠A i} {rest:List (Xr Int)} {c:Op4} {i:Nat} {kk:List Item}
theorem XfG {sh:Nat→List Int} {cells:Nat→Int} {col:Nat→Prop} {x:World} (h:(Zp w0 Kp gt n A nc inj hgt hA).I sh cells col x):gt < x.heap.size:=Nat.lt_of_lt_of_le hgt h.2.1
theorem Xa9 (hj:j < n) (hm:k < 1000000) {y:World} {v:Int} {B:Nat} {hv:Value} (h8:y.cell? (th gt j)=some hv) (hBk:y.heap[B]? = some (.cells #[.int .i64 v] 2 (0,0))) (hB:Xa6 Post (Zp w0 Kp gt n A nc inj hgt hA) gt n j tb rb cb k rest C y v) (τ:Nat→Question→Nat) (d:Nat) :
 ∃ u y',(Builtin.append_ #[22,22] 22 #[hv,.slice (some ⟨B,0,none⟩) 1 1]).run Try.prog (under y τ d)=.ok u y'∧y.heap.size≤y'.heap.size∧(∀ r,r < w0.heap.size→y'.heap[r]? = y.heap[r]?)∧(∀ r,r < y.heap.size→(¬ ∃ g,hv.ownBlock=some g∧r=g)→y'.heap[r]? = y.heap[r]?)∧y'.frozen? (th gt j)=false∧(∃ a l c,u=.slice a l c) ∧
  ∃ m x0 col sh cells,BSt Post (Zp w0 Kp gt n A nc inj hgt hA) gt n j tb rb cb m (k + 1) C x0 (y'.setCell (th gt j) u) col sh cells ((Yj j rest).pass sh):=by
 obtain ⟨m,x0,col,sh,cells,hb⟩:=hB
 obtain ⟨hIc,hI1,hI2,hI3,hd,hr⟩:=hb.I
 have hdj:hd j=hv:=OI ((hr.cell hj).symm.trans h8)
 have hrow:=hr.row j hj
 rw [hdj] at hrow
 obtain ⟨i0,hi0,hz0,hz1,hz2⟩:=XI XdM
 obtain ⟨g,cap,y',e1,e2,e3,e4,e5⟩:=run_append_lies (P:=Try.prog) (under y τ d) 22 22 w0.heap.size 2 i0 _ 1 8 Try.underlying22 hi0 hz0 hz1 hz2 rfl (by omega) hv _ _ hrow ⟨B,0,none⟩ 1 1 [.int .i64 v] rfl (World.news_of_block (cs:=#[.int .i64 v]) (t:=2) (fr:=(0,0)) hBk) (by simp [Value.oneCell']) (by omega) (by rw [hb.num];unfold maxLen;omega) (by rw [hb.num];omega) hI1 _ rfl
 have hgb:∀ r,r < y.heap.size→(¬ ∃ g,hv.ownBlock=some g∧r=g)→y'.heap[r]? = y.heap[r]?:=fun r h1 h2=>e3.block r h1 fun e=>h2 ⟨r,e.symm,rfl⟩
 have hlow:∀ r,r < w0.heap.size→y'.heap[r]? = y.heap[r]?:=fun r h1=>hgb r (Nat.lt_of_lt_of_le h1 hI1) fun ⟨g,h2,h3⟩=>by have:=Yx hrow h2;omega
 have hfree:∀ r,col r→¬ ∃ g,hv.ownBlock=some g∧r=g:=fun r h1 ⟨g,h2,h3⟩=>by subst h3;exact hr.free j hj r (hdj ▸ h2) h1
 have hsz:y.heap.size≤y'.heap.size:=e3.size
 have hne:tb≠gt:=fun e=>hI3 (e ▸ hb.mine)
 have hne2:∀ r,col r→r≠gt:=fun r h e=>hI3 (e ▸ h)
 refine ⟨_,y',e1,hsz,hlow,hgb,?_,⟨_,_,_,rfl⟩,m,x0,col,Qs j v sh,cells,⟨hb.d,?_,hb.mine,fun r h=>by rw [Xg];exact Nat.lt_of_lt_of_le (hb.lt r h) hsz,⟨fun i hi=>?_,?_⟩,⟨?_,?_,?_⟩,?_,hb.reach⟩⟩
 ·rw [show y'.frozen? (th gt j)=y.frozen? (th gt j) from World.frozen?_of_block (hlow gt hgt)]
  exact Xe hr.head j
 ·have hblk:(y'.setCell (th gt j) (.slice (some ⟨g,0,none⟩) ((sh j).length + 1) cap)).heap[tb]? = y.heap[tb]?:=(Xb hne).trans (hgb tb (hb.lt tb hb.mine) (hfree tb hb.mine))
  exact ⟨(World.cell?_of_block hblk).trans hb.lives.1,(World.cell?_of_block hblk).trans hb.lives.2.1,hb.lives.2.2⟩
 ·obtain ⟨q1,q2⟩:=hIc i hi
  exact ⟨((Xb (fun e=>(hA i hi).2 e.symm)).trans (hlow _ (hA i hi).1)).trans q1,q2⟩
 ·refine ⟨by rw [Xg];exact Nat.le_trans hI1 hsz,fun r q1 q2 q3 q4=>?_,hI3,_,hr.tell hgt hI1 hb.lt hj (a:=v) (g:=g) (cap:=cap) (y:=y') ?_ ?_ ?_⟩
  ·obtain ⟨p1,p2⟩:=hI2 r q1 q2 q3 q4
   exact ⟨p1,((Xb q3).trans (hlow r q1)).trans p2⟩
  ·exact e2
  ·rw [hdj];exact e3.block
  ·rw [hdj];exact e4
 ·rw [Xg];exact Nat.le_trans hb.own.size hsz
 ·exact fun r h=>((Xb (hne2 r h)).trans (hgb r (hb.lt r h) (hfree r h))).trans (hb.own.col r h)
 ·intro i h1 h2
  rw [← hb.own.keep i h1 h2]
  have hx:(y'.setCell (th gt j) (.slice (some ⟨g,0,none⟩) ((sh j).length + 1) cap)).cell? (th gt i)=y'.cell? (th gt i):=by
   rw [World.cell?_setCell_other]
   exact fun e=>h1 (by simpa [th] using (congrArg Addr.off e).symm)
  rw [hx]
  exact World.cell?_of_block (hlow gt hgt)
 ·unfold Qs;rw [upd_same,List.length_append,hb.num];rfl
end
section
variable {Post:Value→World→Prop} {tb rb:Nat} {cb:Frame} {m k:Nat} {C:Ctx} {x0 x:World} {col:Nat→Prop} {sh:Nat→List Int} {cells:Nat→Int} {w0:World} {Kp:Nat→Prop} {gt n:Nat} {A:Nat→Nat} {nc j:Nat} {L:List Op4} {bp bi bt bl gS oS gl cS cT cl cC:Nat} {aC:Option Addr} {inj:∀ a b,a < nc→b < nc→A a=A b→a=b} {hgt:gt < w0.heap.size} {hA:∀ i,i < nc→A i < w0.heap.size∧gt≠A i} {rest:List (Xr Int)} {c:Op4} {i:Nat} {kk:List Item}
theorem Zw {P:Program} {a:Act} {o:Oper} {s x:Operand} {t:TypeId} {v v2 u:Value} {w w':World} (ho:o.op=.call { callee:=.builtin .append,args:=#[s,x],argTypes:=#[t,t] }) (hs:a.eval s=v) (hx:a.eval x=v2) (hr:(Builtin.append_ #[t,t] o.type #[v,v2]).run P w=.ok u w'):(execOp a.eval o).run P w=.ok (.value u) w':=by
 unfold execOp
 simp only [ho,resolve,invoke,builtin,Sem.run_bind,Sem.run_pure,Result.andThen_ok,List.map_toArray,List.map_cons,List.map_nil,hs,hx,hr]
theorem Sees.low (H:Scr w0 Kp gt n A nc j L bp bi bt bl gS oS gl cS cT cl cC aC) {y y':World} {hv:Value} (h:Sees y gt n A nc j L bp bi bt bl gS oS gl cS cT cl cC aC hv) (hsz:y.heap.size≤y'.heap.size) (hl:∀ r,r < w0.heap.size→y'.heap[r]? = y.heap[r]?):Sees y' gt n A nc j L bp bi bt bl gS oS gl cS cT cl cC aC hv:=by
 have t:∀ {a:Addr} {v:Value},a.block < w0.heap.size→y.cell? a=some v→y'.cell? a=some v:=fun ha hc=>(World.cell?_of_block (hl _ ha)).trans hc
 refine ⟨t (Xs H.c1) h.c1,t (Xs H.c2) h.c2,t (Xs H.c3) h.c3,t (Xs H.c4) h.c4,t (Xs H.c5) h.c5,fun i c hi=>?_,fun i hi=>t (Xs (H.c7 i hi)) (h.c7 i hi),t H.gt0 h.c8⟩
 obtain ⟨g,off,e,hg,q0,q1,q2,q3⟩:=h.c6 i c hi
 obtain ⟨g',off',e',hg',_⟩:=H.c6 i c hi
 obtain ⟨e1,e2⟩:g=g'∧off=off':=by have:=e.symm.trans e';simpa using this
 rw [← e1] at hg'
 exact ⟨g,off,e,Nat.lt_of_lt_of_le hg hsz,t hg' q0,t hg' q1,t hg' q2,t hg' q3⟩
theorem cpW.sees {S:ZT (Nat→List Int)} {Sees:World→Prop} {op arg new:Int} (h0:∀ y,Xf x y→Sees y) {q:Nat} {cv:Nat→Value} {C':Ctx} {y:World} (h:cpW Post S gt n j tb rb cb k rest Sees op arg new i C x q cv C' y):Sees y:=by
 match q,h with
 | 0,h=>rw [h.2];exact h0 x (Xf.refl x)
 | 1,h=>exact h0 y h.2.1
 | 2,h=>exact h.1
 | 3,h=>exact h.1
 | _ + 4,h=>exact h.1
theorem Xcf {u5 u7 u8 u9 B0 B1 B2 B3 B4 B5 B6 B7 B8 B9 D0 D1 D2 D3 D4 D5 D6 D7 D8 D9 E0 E1 E2 E3 E4 E5 E6 E7 E8 E9:Value} (H:Scr w0 Kp gt n A nc j L bp bi bt bl gS oS gl cS cT cl cC aC) (hk:L[k]? = some c) (hi:c.ce % nc=(i:Int)) (hin:i < nc) (hB:BSt Post (Zp w0 Kp gt n A nc inj hgt hA) gt n j tb rb cb m k C x0 x col sh cells ((Yj j (YG c.op i c.arg c.new::rest)).pass sh))
 (h:∀ (m':Nat) (C':Ctx) (x0' y:World) (col':Nat→Prop) (sh':Nat→List Int) (cells':Nat→Int) (u7 u8 u9 B0 B1 B2 B3 B4 B5 B6 B7 B8 B9 D0 D1 D2 D3 D4 D5 D6 D7 D8 D9 E0 E1 E2 E3 E4 E5 E6 E7 E8 E9:Value),BSt Post (Zp w0 Kp gt n A nc inj hgt hA) gt n j tb rb cb m' (k + 1) C' x0' y col' sh' cells' ((Yj j rest).pass sh') →
   JG Try.prog Post C' (G ((base 15).at ⟨List.toArray (P0 tb::P0 bp::P0 bi::P0 bt::P0 bl::u5::.int .i64 k::u7::u8::u9::B0::B1::B2::B3::B4::B5::B6::B7::B8::B9::D0::D1::D2::D3::D4::D5::D6::D7::D8::D9::E0::E1::E2::E3::E4::E5::E6::E7::E8::E9::[]),[]⟩ kk) [cb,Y0 Try.prog]) y) :
 JG Try.prog Post C (G ((base 15).at ⟨List.toArray (P0 tb::P0 bp::P0 bi::P0 bt::P0 bl::u5::.int .i64 k::u7::u8::u9::B0::B1::B2::B3::B4::B5::B6::B7::B8::B9::D0::D1::D2::D3::D4::D5::D6::D7::D8::D9::E0::E1::E2::E3::E4::E5::E6::E7::E8::E9::[]),[]⟩ (.code (Code.nav (Try.f15.body.getD .skip) [1,0,0,1,0,0])::kk)) [cb,Y0 Try.prog]) x:=by
 simp only [Try.f15,Option.getD_some,Code.nav]
 obtain ⟨hv,hs⟩:=H.sees hB.I.2
 obtain ⟨gC,oC,hac,_⟩:=hs.c6 k c hk
 have hjn:=H.jn
 have hkl:=(LE' hk).1
 have hkm:k < 1000000:=by have:=H.len;omega
 have hkl':(k:Int) < L.length:=by omega
 have hj':(j:Int) < n:=by omega
 have HS:=HD hs
 have HH:=HD H
 have HB:=HD hB
 have HK:=HD h
 clear hs H hB h
 refine JG.drawChain 22 (fun i=>if i=18 then some 0 else if i=19 then some 1 else if i=20 then some 2 else if i=21 then some 3 else none) (cpW Post (Zp w0 Kp gt n A nc inj hgt hA) gt n j tb rb cb k rest (fun y=>Sees y gt n A nc j L bp bi bt bl gS oS gl cS cT cl cC aC hv) c.op c.arg c.new i C x) 4 [some 35,some 36,some 37,some 38] (fun _=>undef) (by kernel_rfl) (by kernel_rfl) (by kernel_rfl) (by decide) (by decide) ⟨rfl,rfl⟩ ?_
 apply Exists.intro
 apply And.intro
 ·intro q hq cv C' y hW
  have hsy:Sees y gt n A nc j L bp bi bt bl gS oS gl cS cT cl cC aC hv:=cpW.sees (fun y ho=>HS.out.old ho) hW
  have y1:=hsy.c1
  have y2:=hsy.c2
  have y3:=hsy.c3
  have y4:=hsy.c4
  have y5:=hsy.c5
  have y8:=hsy.c8
  obtain ⟨gC',oC',hac',_,z0,z1,z2,z3⟩:=hsy.c6 k c hk
  obtain ⟨e1,e2⟩:gC'=gC∧oC'=oC:=by have:=hac'.symm.trans hac;simpa using this
  rw [e1,e2] at z0 z1 z2 z3
  rw [hac] at y5
  replace hW:=HD hW
  replace hsy:=HD hsy
  clear hac' e1 e2
  simp only [List.take]
  repeat first|(refine XO.rd (by rfl) (fun K hK τ d=>?_);go_simp;refine hK _ ?_;clear hK K τ d)|(refine XO.rd (by rfl) (fun K hK τ d=>?_);have hfact:=uc τ d (y1);go_simp;refine hK _ ?_;clear hfact hK K τ d)|(refine XO.rd (by rfl) (fun K hK τ d=>?_);have hfact:=uc τ d (y2);go_simp;refine hK _ ?_;clear hfact hK K τ d)|(refine XO.rd (by rfl) (fun K hK τ d=>?_);have hfact:=uc τ d (y3);go_simp;refine hK _ ?_;clear hfact hK K τ d)|(refine XO.rd (by rfl) (fun K hK τ d=>?_);have hfact:=uc τ d (y4);go_simp;refine hK _ ?_;clear hfact hK K τ d)|(refine XO.rd (by rfl) (fun K hK τ d=>?_);have hfact:=uc τ d (y5);go_simp;refine hK _ ?_;clear hfact hK K τ d)|(refine XO.rd (by rfl) (fun K hK τ d=>?_);have hfact:=uc τ d (y8);go_simp;refine hK _ ?_;clear hfact hK K τ d)
  refine XO.rd (by rfl) (fun K hK τ d=>?_)
  have q0:=uc τ d z0
  have q1:=uc τ d z1
  have q2:=uc τ d z2
  have q3:=uc τ d z3
  go_simp
  refine hK _ ?_
  clear q0 q1 q2 q3 hK K τ d
  repeat first|(refine XO.rd (by rfl) (fun K hK τ d=>?_);go_simp;refine hK _ ?_;clear hK K τ d)|(refine XO.rd (by rfl) (fun K hK τ d=>?_);have hfact:=uc τ d (y4);go_simp;refine hK _ ?_;clear hfact hK K τ d)
  refine XO.ch (by rfl) (fun hq0=>?_) ?_
  ·subst hq0
   refine YA.call 17 #[ZR c.op c.ce c.arg c.new,.int .i64 nc] rfl rfl (by decide) (fun w=>?_) (fun w=>?_) (fun a' L hda hc=>?_)
   iterate 2 (focus obtain ⟨fn, h1, h2, h3⟩ : Yk 17 := ⟨_, Try.func17, by kernel_rfl, by kernel_rfl⟩; have h4 : ¬ fn.name = "runtime.NumGoroutine" := (by simpa using h2); have h5 : ¬ fn.body = none := (by intro e; rw [e] at h3; cases h3); simp [ZR, go_sem, execOp, Act.eval, resolve, Deferred.ofValue, invoke, callFunc, h1, h4, h5])
   ·obtain ⟨rfl,rfl⟩:=hW.out
    refine XaF HH.out.nc0 HH.out.ncs fun y' ho=>?_
    rw [hi]
    exact hc _ _ _ ⟨rfl,ho,X8⟩
  try walk_nrm
  refine XO.ch (by rfl) (fun hq0=>?_) ?_
  ·subst hq0
   refine YA.call 16 #[.slice (some ⟨gl,0,none⟩) nc cl,P0 tb,cv 0] rfl rfl (by decide) (fun w=>?_) (fun w=>?_) (fun a' L hda hc=>?_)
   iterate 2 (focus obtain ⟨fn, h1, h2, h3⟩ : Yk 16 := ⟨_, Try.func16, by kernel_rfl, by kernel_rfl⟩; have h4 : ¬ fn.name = "runtime.NumGoroutine" := (by simpa using h2); have h5 : ¬ fn.body = none := (by intro e; rw [e] at h3; cases h3); simp [go_sem, execOp, Act.eval, resolve, Deferred.ofValue, invoke, callFunc, h1, h4, h5])
   ·obtain ⟨rfl,ho,hcv⟩:=hW.out
    rw [hcv]
    have hB:=HB.out
    have H:=HH.out
    have hgx:=XfG hB.I
    have hby:=hB.old ho hgx
    have hcell:=(hby.I.1 i hin).1
    refine Xd3 (S:=Zp w0 Kp gt n A nc inj hgt hA) (i:=i) (g:=gl) (Pv:=none_) (num:=j) (m:=m) (cb:=cb) (rb:=rb) (k:=fun t=>Xr.into (fun a=>.act (Qs j a) fun _=>Yj j rest) (.ret (Z4 c.op t))) hin (hsy.out.c7 i hin) hcell.c1 hby.lives hin (fun h1 h2 z ho2=>?_) (fun h0 z ho2=>?_)
    ·have hz:=hby.old ho2 (Nat.lt_of_lt_of_le hgx ho.1)
     have hR:=hz.reach
     unfold YG at hR
     rw [if_pos ⟨h1,h2⟩] at hR
     refine ⟨Reach.step (x0:=x0) hR hz.own.size hz.own.col (fun _ h=>h.elim) (by rw [VF];exact hz.I) (fun i a hia hka=>?_),Xz.body (fun C x h=>JG.raise hda Try.func15 h) (fun m' _ C2 z3 col' sh' cells' t hd' hL' hct' hcb' _ hkp hI' R'=>?_)⟩
     ·obtain ⟨h3,rfl⟩:=hka
      exact hz.own.keep i hia h3
     ·obtain ⟨hv',hs'⟩:=H.sees hI'.2
      obtain rfl:hv'=hv:=OI (hs'.c8.symm.trans ((hkp (th gt j) ⟨hjn,rfl⟩).trans (hsy.out.old ho2).c8))
      obtain ⟨hd1,hr1⟩:=hz.I.2.2.2.2
      obtain ⟨hd2,hr2⟩:=hI'.2.2.2.2
      have hl:=XeS (hr2.row j hjn) (by rw [show hd2 j=hd1 j from OI ((hr2.cell hjn).symm.trans ((hkp (th gt j) ⟨hjn,rfl⟩).trans (hr1.cell hjn)))];exact hr1.row j hjn)
      exact hc _ _ _ ⟨hs',_,X8,m',z3,col',sh',cells',hd',hL',hct',hcb',hI',Ze.refl,hl.trans hz.num,R'⟩
    ·have hz:=hby.old ho2 (Nat.lt_of_lt_of_le hgx ho.1)
     unfold YG at hz
     rw [if_neg h0] at hz
     exact hc _ _ _ ⟨hsy.out.old ho2,_,X8,m,x0,col,sh,cells,hz⟩
  try walk_nrm
  refine XO.ch (by rfl) (fun hq0=>?_) ?_
  ·subst hq0
   obtain ⟨_,v,hcv,hBh⟩:=hW.out
   refine YA.op (F:=F0) Ul (fun h=>by cases h) rfl rfl rfl (by decide) (fun K hK τ d=>?_)
   replace hK:=HD hK
   rw [hcv]
   go_simp
   show K _ (under (y.alloc (.cells #[.int .i64 v] 2)) τ d)
   obtain ⟨m',x0',col',sh',cells',hb⟩:=hBh
   exact hK.out _ _ _ _ ⟨hsy.out.old ((Xf.refl y).alloc _),v,y.heap.size,X8,heap_alloc_new _ _,m',x0',col',sh',cells',hb.old ((Xf.refl y).alloc _) (XfG hb.I)⟩
  try walk_nrm
  refine XO.ch (by rfl) (fun hq0=>?_) ?_
  ·subst hq0
   obtain ⟨_,v,B,hcv,hBk,hBh⟩:=hW.out
   refine YA.op (F:=F0) Ul (fun h=>by cases h) rfl rfl rfl (by decide) (fun K hK τ d=>?_)
   obtain ⟨u,y',r1,r2,r3,r4,r5,r6⟩:=Xa9 hjn hkm y8 hBk hBh τ d
   rw [hcv,Zw (s:=.tmp 22) (x:=.tmp 37) rfl rfl rfl r1]
   exact hK u y' y'.tape y'.drawn ⟨hsy.out.low HH.out r2 r3,r5,by rw [X8];exact r6⟩
  try walk_nrm
  exact XO.nil rfl
 ·apply And.intro
  ·intro cv
   rfl
  ·intro cv C' y hW
   obtain ⟨hs4,hf,⟨a3,l3,c3,hc3⟩,m',x0',col',sh',cells',hb⟩:=hW
   have y8:=hs4.c8
   rw [hc3] at hb ⊢
   have hb':=HD hb
   clear hb
   show JG _ _ _ (G ((base _).at _ (.inRegion _ [22,23]::_)) _) _
   repeat first|refine jc rfl ?_|(first|refine ju rfl rfl ?_|(refine jv rfl rfl rfl fun K E f τ d=>?_;go_simp;refine f _ _ _ _ ?_;clear f K E τ d);try walk_nrm)
   refine jo rfl rfl rfl (by decide) fun K E hK hE τ d=>?_
   have hf:=ust (And.intro y8 hf) τ d
   obtain ⟨hf,hg⟩:=hf
   go_simp
   refine hK _ _ ?_
   rw [Xd]
   refine jt ?_
   clear hf hg hK hE K E τ d
   try walk_nrm
   repeat first|refine jc rfl ?_|(first|refine ju rfl rfl ?_|(refine jv rfl rfl rfl fun K E f τ d=>?_;go_simp;refine f _ _ _ _ ?_;clear f K E τ d);try walk_nrm)
   exact HK.out _ _ _ _ _ _ _ _ _ _ _ _ _ _ _ _ _ _ _ _ _ _ _ _ _ _ _ _ _ _ _ _ _ _ _ _ _ _ _ _ hb'.out
end
end Go.Proofs.Ytdhnggjmegilkaa
namespace Go.Proofs.Ytdhnggjmegilkaa
open Go.RowKit
set_option maxRecDepth 100000
def XfX (w:World) (aC:Option Addr) (cC:Nat) (cs:List Int):Prop:=(cs = []∧aC=none)∨∃ cg,aC=some ⟨cg,0,none⟩∧Yo w 2 cg cC cs
structure Xd8 (L left:List Xn) (went ready picks:List Int) (n nc:Nat) (e most:Int) (csAt:Nat→List Int) (lastAt:Nat→Int):Prop where
 len:∀ i,i≤L.length→(csAt i).length=nc
 thr:∀ (i:Nat) (a:Xn),L[i]? = some a→a.thread < n∧a.op≠7∧a.op≠8
 able:∀ (i:Nat) (a:Xn),L[i]? = some a→0 < (XN L left (csAt i) i n).length∧ready[i]? = some ((XN L left (csAt i) i n).length:Int)∧went[i]? = some (a.thread:Int)∧VE picks ((XN L left (csAt i) i n).map fun (j:Nat)=>(j:Int)) (lastAt i) i=a.thread
 next:∀ (i:Nat) (a:Xn),L[i]? = some a→lastAt (i + 1)=a.thread∧0≤a.cell∧a.cell.toNat < nc∧csAt (i + 1)=(csAt i).set a.cell.toNat a.now
 cell:∀ (i j:Nat) (a:Xn),i≤L.length→Xp.nextF L left j i=some a→0≤a.cell→a.cell.toNat < nc
 lives:livesL L left L.length n=left.length
 how:e=(if left.length=0 then 1 else if (XN L left (csAt L.length) L.length n).length=0 then 3 else 2)
 cut:e=2→(L.length:Int)=most
def Vo (cb tg:Nat) (aC:Option Addr) (q:Nat):Prop:=q=tg∨q=cb∨∃ cg,aC=some ⟨cg,0,none⟩∧q=cg
def Xf6 (L left:List Xn) (n:Nat) (A:Int→Array Value) (csAt:Nat→List Int) (lastAt:Nat→Int) (cb tg cT cC:Nat) (aC:Option Addr) (w:World) (tu i:Value) (wr:World):Prop :=
 ∃ (k:Nat) (ts:List Int),k≤L.length∧tu=.int .i64 k∧i=.int .i64 k∧Blk wr cb 190 (A (lastAt k))∧X1 wr tg cT ts∧ts.length=n∧YW L k ts∧XfX wr aC cC (csAt k)∧Kept (Vo cb tg aC) w wr
theorem YW.up {L:List Xn} {i j:Nat} {ts:List Int} (h:YW L i ts) (hij:i≤j):YW L j ts:=fun q x hx=>by
 obtain ⟨k,h1,h2,h3⟩:=h q x hx
 exact ⟨k,h1,h2,fun a b e1 e2 e3=>h3 a b (by omega) e2 e3⟩
theorem VU {e:Int} {n nc:Nat} {aL aW aR al aP aC:Option Addr} {vF:Value} {cL cW cR cl cP cT cC tg cb B:Nat} {most:Int} {L left:List Xn} {went ready picks ts:List Int} {csAt:Nat→List Int} {lastAt:Nat→Int} {w:World}
 (hb:Blk w cb 190 (ckA e L.length (.slice aL L.length cL) (.slice aW went.length cW) (.slice aR ready.length cR) (.slice al left.length cl) vF (.slice aP picks.length cP) most (.slice (some ⟨tg,0,none⟩) n cT) (.slice aC nc cC) (lastAt 0)))
 (hL:XT w B aL L) (hl:XT w B al left) (hW:XS w aW went) (hR:XS w aR ready) (hP:XS w aP picks) (hlow:∀ (a:Option Addr) (ls:List Int),(a=aW∧ls=went∨a=aR∧ls=ready∨a=aP∧ls=picks)→ls≠[]→∀ g off,a=some ⟨g,off,none⟩→g < B) (hT:X1 w tg cT ts) (hn:ts.length=n) (hn64:n≤1000) (htg:B≤tg) (hcbB:B≤cb) (hBw:B≤w.heap.size) (hc:YW L 0 ts) (hC:XfX w aC cC (csAt 0)) (hCB:∀ cg,aC=some ⟨cg,0,none⟩→B≤cg)
 (hlenL:L.length≤100000) (hlw:went.length=L.length) (hlr:ready.length=L.length) (hlp:picks.length < 9000000000) (hok:Xd8 L left went ready picks n nc e most csAt lastAt) :
 Calls Try.prog 88 #[.pointer (some ⟨cb,0,none⟩)] w (fun e w'=>e=.returned (.bool true)∧Kept (Vo cb tg aC) w w'):=by
 have hct:cb≠tg:=by obtain ⟨cs,h1,_⟩:=hT.blk;exact Blk.ne_ hb h1 (by decide)
 have hcc:∀ cg,aC=some ⟨cg,0,none⟩→cg≠cb∧cg≠tg:=fun cg e=>by
  rcases hC with ⟨_,h⟩|⟨cg',h,h2⟩
  ·rw [h] at e;cases e
  ·rw [h] at e
   obtain rfl:cg'=cg:=by simpa using e
   obtain ⟨q,q1,_⟩:=h2.blk
   obtain ⟨p,p1,_⟩:=hT.blk
   exact ⟨Blk.ne_ q1 hb (by decide),Blk.ne_ q1 p1 (by decide)⟩
 have HB:=HD hb
 have HL:=HD hL
 have Hl:=HD hl
 have HW:=HD hW
 have HR:=HD hR
 have HP:=HD hP
 have HLO:=HD hlow
 have HC:=HD hc
 have HCS:=HD hC
 have HCB:=HD hCB
 have HOK:=HD hok
 have HT:=HD hT
 have HCC:=HD hcc
 clear hb hL hl hW hR hP hlow hc hC hCB hok hT hcc
 go_enter Try.func88,Try.ntmps88
 go_upto_region 3 with (fail)
 go_loopw [3,4] (fun tu i wr=>Xf6 L left n (fun l=>ckA e L.length (.slice aL L.length cL) (.slice aW went.length cW) (.slice aR ready.length cR) (.slice al left.length cl) vF (.slice aP picks.length cP) most (.slice (some ⟨tg,0,none⟩) n cT) (.slice aC nc cC) l) csAt lastAt cb tg cT cC aC w tu i wr) (fun _ i _=>L.length - (intOf i).toNat)
 case atStart=>exact ⟨0,ts,Nat.zero_le _,rfl,rfl,HB.out,HT.out,hn,HC.out,HCS.out,Kept.refl _ w⟩
 case round =>
  obtain ⟨k,ts',hk,rfl,rfl,hB',hT',hlen,hCa,hCs,hKp⟩:=hrel
  have c2:wr.cell? ⟨cb,2,none⟩=some (.slice aL L.length cL):=Blk.cell hB' 2
  have c9:wr.cell? ⟨cb,9,none⟩=some (.slice (some ⟨tg,0,none⟩) n cT):=Blk.cell hB' 9
  have hcbr:=Blk.lt hB'
  have hlow':∀ q,q < B→wr.heap[q]? = w.heap[q]?:=fun q hq=>hKp.block q (by omega) (fun h=>by
   rcases h with h|h|⟨cg,h1,h2⟩
   ·omega
   ·omega
   ·have:=HCB.out cg h1;omega)
  have HL':=HD (HL.out.of hlow')
  have Hl':=HD (Hl.out.of hlow')
  replace hB':=HD hB'
  replace hT':=HD hT'
  replace hCa:=HD hCa
  replace hCs:=HD hCs
  replace hKp:=HD hKp
  replace hlow':=HD hlow'
  by_cases hkn:k < L.length
  ·obtain ⟨a,ha⟩:∃ a,L[k]? = some a:=⟨_,List.getElem?_eq_getElem hkn⟩
   obtain ⟨g,off,rfl,hgB,hA⟩:=HL'.out.at_ k a ha
   obtain ⟨q0,q1,q2,q3,q4,q5,q6,q7⟩:=Yn hA
   clear hA
   obtain ⟨th1,th2,th3⟩:=HOK.out.thr k a ha
   obtain ⟨ab1,ab2,ab3,ab4⟩:=HOK.out.able k a ha
   obtain ⟨nx1,nx2,nx3,nx4⟩:=HOK.out.next k a ha
   have hlc:=HOK.out.len k hk
   have x0:decide (k < L.length)=true:=by simpa using hkn
   have x1:decide ((k:Int) < L.length)=true:=by simp;omega
   have x2:(k:Int) < L.length:=by omega
   have x3:(0:Int)≤k:=by omega
   have t1:decide ((a.thread:Int) < 0)=false:=by simp
   have t2:decide ((n:Int)≤a.thread)=false:=by simp;omega
   have t3:decide (n≤a.thread)=false:=by simp;omega
   have p8:decide (a.op=8)=false:=by simpa using th3
   have p8':(a.op == 8)=false:=by simpa using th3
   replace ab1:=HD ab1
   replace ab2:=HD ab2
   replace ab3:=HD ab3
   replace ab4:=HD ab4
   replace nx1:=HD nx1
   replace nx4:=HD nx4
   replace hlc:=HD hlc
   replace ha:=HD ha
   go_upto_region 6 with (fail)
   have hb9:Blk (wr.alloc (.cells #[.int .i64 a.thread,.int .i8 a.op,.int .i64 a.cell,.int .i64 a.arg,.int .i64 a.new,.int .i64 a.was,.int .i64 a.now,.bool a.ok] 172)) wr.heap.size 172 #[.int .i64 a.thread,.int .i8 a.op,.int .i64 a.cell,.int .i64 a.arg,.int .i64 a.new,.int .i64 a.was,.int .i64 a.now,.bool a.ok]:=Blk.new wr _ _
   have ho9:∀ q,q < wr.heap.size→(wr.alloc (.cells #[.int .i64 a.thread,.int .i8 a.op,.int .i64 a.cell,.int .i64 a.arg,.int .i64 a.new,.int .i64 a.was,.int .i64 a.now,.bool a.ok] 172)).heap[q]? = wr.heap[q]?:=fun q hq=>Below.heap_alloc _ _ q hq
   have hk9:=hKp.out.alloc (.cells #[.int .i64 a.thread,.int .i8 a.op,.int .i64 a.cell,.int .i64 a.arg,.int .i64 a.new,.int .i64 a.was,.int .i64 a.now,.bool a.ok] 172)
   generalize wr.alloc (.cells #[.int .i64 a.thread,.int .i8 a.op,.int .i64 a.cell,.int .i64 a.arg,.int .i64 a.new,.int .i64 a.was,.int .i64 a.now,.bool a.ok] 172)=w1 at hb9 ho9 hk9 ⊢
   generalize hg9:wr.heap.size=g9 at hb9 ho9 hcbr ⊢
   clear q0 q1 q2 q3 q4 q5 q6 q7 c2 c9
   have z0:w1.cell? ⟨g9,0,none⟩=some (.int .i64 a.thread):=Blk.cell hb9 0
   have z1:w1.cell? ⟨g9,1,none⟩=some (.int .i8 a.op):=Blk.cell hb9 1
   have hB1:Blk w1 cb 190 (ckA e L.length (.slice (some ⟨g,off,none⟩) L.length cL) (.slice aW went.length cW) (.slice aR ready.length cR) (.slice al left.length cl) vF (.slice aP picks.length cP) most (.slice (some ⟨tg,0,none⟩) n cT) (.slice aC nc cC) (lastAt k)):=(ho9 cb hcbr).trans hB'.out
   have c9:w1.cell? ⟨cb,9,none⟩=some (.slice (some ⟨tg,0,none⟩) n cT):=Blk.cell hB1 9
   have hcb1:=Blk.lt hB1
   have hg91:=Blk.lt hb9
   replace hB1:=HD hB1
   go_upto_region 6 with (fail)
   go_region
   go_upto_region 9 with (fail)
   have hcsl:∀ (i:Nat) (v:Int),(csAt k)[i]? = some v→∃ g,aC=some ⟨g,0,none⟩∧g≠tg∧g < w1.heap.size∧w1.cell? ⟨g,i,none⟩=some (.int .i64 v):=fun i v hv=>by
    rcases hCs.out with ⟨h1,h2⟩|⟨cg,h1,h2⟩
    ·rw [h1] at hv;simp at hv
    ·have hl1:=Yo.lt h2
     refine ⟨cg,h1,(HCC.out cg h1).2,by have:=hg91;omega,?_⟩
     have:=Yo.cell h2 hv
     simp only [World.cell?] at this ⊢
     rw [ho9 cg (by omega)];exact this
   have hT1:X1 w1 tg cT ts':=hT'.out.of (ho9 tg (by rw [← hg9];exact Yo.lt hT'.out))
   have hL1:=HL'.out.of (w':=w1) fun q hq=>ho9 q (by have:=hKp.out.size;omega)
   have hl1:=Hl'.out.of (w':=w1) fun q hq=>ho9 q (by have:=hKp.out.size;omega)
   have hlx:=hlc.out
   replace hcsl:=HD hcsl
   replace hT1:=HD hT1
   replace hL1:=HD hL1
   replace hl1:=HD hl1
   replace hk9:=HD hk9
   replace ho9:=HD ho9
   have HAB:∀ (Q:Ending→World→Prop),(∀ (vl:Option Addr) (vc:Nat) (ts2:List Int) (w2:World),w2.ownsRow w1.heap.size 3 1 (.slice vl (XN L left (csAt k) k n).length vc) (XN L left (csAt k) k n).length ((XN L left (csAt k) k n).map fun (j:Nat)=>.int .i64 (j:Nat))→ts2.length=n→X1 w2 tg cT ts2→YW L k ts2→Kept (fun q=>q=tg) w1.drew w2→Q (.returned (.tuple #[.slice vl (XN L left (csAt k) k n).length vc,.int .i64 (livesL L left k n)])) w2) →
    Calls Try.prog 134 #[.pointer (some ⟨cb,0,none⟩),.int .i64 k] w1.drew Q:=fun Q hQ=>by
    refine (Xa3 (e:=e) (n:=n) (nr:=L.length) (al:=al) (aC:=aC) (cL:=cL) (cl:=cl) (cT:=cT) (cC:=cC) (tg:=tg) (cb:=cb) (B:=B) (most:=most) (last:=lastAt k) (L:=L) (left:=left) (cs:=csAt k) (ts:=ts') (w:=w1.drew) (by rw [hlx];exact hB1.out) (hL1.out.of (w':=w1.drew) fun q _=>rfl) (hl1.out.of (w':=w1.drew) fun q _=>rfl) (hT1.out.of rfl) hlen hn64 htg (by have:=hk9.out.size;show B≤w1.heap.size;omega) k hk hCa.out (fun a ha=>by
     obtain ⟨j,hj⟩:=List.getElem?_of_mem ha
     exact (HOK.out.thr j a hj).2.2) hcsl.out (fun j a h1 h2=>by rw [hlx];exact HOK.out.cell k j a hk h1 h2)).mono ?_
    rintro e1 w2 ⟨vl,ts2,rfl,how,hl2,hT2,hCa2,hK2⟩
    obtain ⟨av,vc,rfl⟩:=Xo how
    exact hQ av vc ts2 w2 how hl2 hT2 hCa2 hK2
   replace HAB:=HD HAB
   go_upto_region 10 with (go_at_call 134;refine HAB.out _ (fun vl vc ts2 w2 how hl2 hT2 hCa2 hK2=>?_))
   have hkt:Kept (Vo cb tg aC) w w2:=hk9.out.drew.trans (hK2.mono fun q h=>.inl h)
   have hB2:Blk w2 cb 190 (ckA e L.length (.slice (some ⟨g,off,none⟩) L.length cL) (.slice aW went.length cW) (.slice aR ready.length cR) (.slice al left.length cl) vF (.slice aP picks.length cP) most (.slice (some ⟨tg,0,none⟩) n cT) (.slice aC nc cC) (lastAt k)):=hK2.blk (a:=w1.drew) hB1.out hct
   have y0:w2.cell? ⟨g9,0,none⟩=some (.int .i64 a.thread):=Blk.cell (hK2.blk (a:=w1.drew) hb9 (by have:=Yo.lt hT'.out;omega)) 0
   have y1:w2.cell? ⟨g9,1,none⟩=some (.int .i8 a.op):=Blk.cell (hK2.blk (a:=w1.drew) hb9 (by have:=Yo.lt hT'.out;omega)) 1
   have y2:w2.cell? ⟨g9,2,none⟩=some (.int .i64 a.cell):=Blk.cell (hK2.blk (a:=w1.drew) hb9 (by have:=Yo.lt hT'.out;omega)) 2
   have y6:w2.cell? ⟨g9,6,none⟩=some (.int .i64 a.now):=Blk.cell (hK2.blk (a:=w1.drew) hb9 (by have:=Yo.lt hT'.out;omega)) 6
   have u1:w2.cell? ⟨cb,1,none⟩=some (.int .i64 L.length):=Blk.cell hB2 1
   have u3:w2.cell? ⟨cb,3,none⟩=some (.slice aW went.length cW):=Blk.cell hB2 3
   have u4:w2.cell? ⟨cb,4,none⟩=some (.slice aR ready.length cR):=Blk.cell hB2 4
   have hcb2:=Blk.lt hB2
   have hlow2:∀ q,q < B→w2.heap[q]? = w.heap[q]?:=fun q hq=>hkt.block q (by omega) (fun h=>by
    rcases h with h|h|⟨cg,h1,h2⟩
    ·omega
    ·omega
    ·have:=HCB.out cg h1;omega)
   have hnum:∀ {b:Option Addr} {ls:List Int},(b=aW∧ls=went∨b=aR∧ls=ready∨b=aP∧ls=picks)→XS w b ls→XS w2 b ls:=fun hb h i x hx=>by
    obtain ⟨g,off,e1,e2⟩:=h i x hx
    refine ⟨g,off,e1,?_⟩
    simp only [World.cell?] at e2 ⊢
    rw [hlow2 g (HLO.out _ _ hb (by rintro rfl;simp at hx) _ _ e1)];exact e2
   obtain ⟨gw,ow,rfl,vw⟩:=hnum (.inl ⟨rfl,rfl⟩) HW.out k _ ab3.out
   obtain ⟨gr,orr,rfl,vr⟩:=hnum (.inr (.inl ⟨rfl,rfl⟩)) HR.out k _ ab2.out
   have hPick:∀ w':World,w'.heap=w2.heap→Calls Try.prog 135 #[.pointer (some ⟨cb,0,none⟩),.slice vl (XN L left (csAt k) k n).length vc,.int .i64 k] w' (fun e w''=>e=.returned (.int .i64 a.thread)∧w''=w'):=fun w' hw'=>by
    have hmap:((XN L left (csAt k) k n).map fun (j:Nat)=>(j:Int)).length=(XN L left (csAt k) k n).length:=List.length_map _
    have hp:=Xbo (e:=e) (nr:=L.length) (cb:=cb) (cP:=cP) (cap:=vc) (turn:=k) (aP:=aP) (b:=vl) (picks:=picks) (ls:=(XN L left (csAt k) k n).map fun (j:Nat)=>(j:Int)) (w:=w') (by unfold Blk;rw [hw'];exact hB2) (fun i x hx=>by
     obtain ⟨g,off,e1,e2⟩:=hnum (.inr (.inr ⟨rfl,rfl⟩)) HP.out i x hx
     exact ⟨g,off,e1,by simp only [World.cell?] at e2 ⊢;rw [hw'];exact e2⟩) (fun i x hx=>by
     obtain ⟨gg,cc,q1,q2⟩:=Qg how (by have:=ab1.out;omega)
     injection q1 with q1 _ _
     refine ⟨gg,0,q1,?_⟩
     rw [List.getElem?_map] at hx
     cases hj:(XN L left (csAt k) k n)[i]? with
     | none=>rw [hj] at hx;cases hx
     | some j =>
      rw [hj] at hx
      have:=q2 i (.int .i64 (j:Nat)) (by rw [List.getElem?_map,hj];rfl)
      rw [Nat.zero_add,← OI hx]
      simp only [World.cell?] at this ⊢
      rw [hw'];exact this) (by rw [hmap];exact ab1.out) (by rw [hmap];have:=UC L left (csAt k) k n;omega) (by omega) (by omega)
    rw [hmap,ab4.out] at hp
    exact hp
   replace hPick:=HD hPick
   have e1:decide ((L.length:Int)≤k)=false:=by simp;omega
   have e2:decide (L.length≤k)=false:=by simp;omega
   have e3:((XN L left (csAt k) k n).length == 0)=false:=beq_eq_false_iff_ne.2 (by have:=ab1.out;omega)
   have e4:(((XN L left (csAt k) k n).length:Int) == 0)=false:=beq_eq_false_iff_ne.2 (by have:=ab1.out;omega)
   have e5:decide ((XN L left (csAt k) k n).length=0)=false:=decide_eq_false (by have:=ab1.out;omega)
   have i1:k < went.length:=by omega
   have i2:(k:Int) < went.length:=by omega
   have i3:k < ready.length:=by omega
   have i4:(k:Int) < ready.length:=by omega
   replace hkt:=HD hkt
   replace hB2:=HD hB2
   replace how:=HD how
   replace hlow2:=HD hlow2
   clear hnum
   clear z0 z1 c9 hb9
   generalize hAl:(XN L left (csAt k) k n).length=al0 at u1 e3 e4 e5 vr ⊢
   have hPick2:=hPick.out
   rw [hAl] at hPick2
   replace hPick2:=HD hPick2
   clear hPick
   refine wp_region_quiet_lit (by kernel_rfl) (by kernel_rfl) ?_
   refine Xx 12 _ _ (fun K hK=>?_)
   simp only [List.take_succ_cons,List.take_zero]
   iterate 12 go_big_quiet_step (fail)
   refine wpQuiet_nil ?_
   refine hK _ ?_
   clear hK K
   simp only [List.drop_succ_cons,List.drop_zero]
   refine Xx 12 _ _ (fun K hK=>?_)
   simp only [List.take_succ_cons,List.take_zero]
   iterate 12 go_big_quiet_step (fail)
   refine wpQuiet_nil ?_
   refine hK _ ?_
   clear hK K
   simp only [List.drop_succ_cons,List.drop_zero]
   refine Xx 12 _ _ (fun K hK=>?_)
   simp only [List.take_succ_cons,List.take_zero]
   iterate 12 go_big_quiet_step (fail)
   refine wpQuiet_nil ?_
   refine hK _ ?_
   clear hK K
   simp only [List.drop_succ_cons,List.drop_zero]
   iterate 8 go_big_quiet_step (fail)
   go_big_quiet_step (exact (hPick2.out (w2.drewN _) rfl).mono fun e w' h=>⟨h.1,_,h.2⟩)
   iterate 2 go_big_quiet_step (fail)
   refine wpQuiet_nil ?_
   rintro _ ⟨nd,rfl⟩
   have f11:w2.frozen? ⟨cb,11,none⟩=false:=Blk.frozen hB2.out 11
   have l11:w2.cell? ⟨cb,11,none⟩=some (.int .i64 (lastAt k)):=Blk.cell hB2.out 11
   have hcbg:g9≠cb:=by omega
   have hcbg':cb≠g9:=by omega
   have p7:decide (a.op=7)=false:=by simpa using th2
   have p7':(a.op == 7)=false:=by simpa using th2
   have c0:decide ((0:Int)≤a.cell)=true:=by simpa using nx2
   have hw0:IntKind.i64.wrap ((k:Int) + 1)=((k + 1:Nat):Int):=by rw [IntKind.wrap_i64];omega
   go_upto_region 17 with (fail)
   obtain ⟨m,hm⟩:∃ m:Nat,a.cell=m:=⟨a.cell.toNat,by omega⟩
   have hmn:m < nc:=by omega
   obtain ⟨cg,hcg,hNum⟩:∃ cg,aC=some ⟨cg,0,none⟩∧Yo wr 2 cg cC (csAt k):=by
    rcases hCs.out with ⟨h1,_⟩|h
    ·have:=hlc.out;rw [h1] at this;simp at this;omega
    ·exact h
   subst hcg
   obtain ⟨hgb,hgt⟩:=HCC.out cg rfl
   have hNl:=Yo.lt hNum
   have hN2:Yo w2 2 cg cC (csAt k):=hNum.of ((hK2.block cg (by show cg < w1.heap.size;omega) hgt).trans (ho9.out cg (by omega)))
   rw [hm] at y2 c0
   have v10:w2.cell? ⟨cb,10,none⟩=some (.slice (some ⟨cg,0,none⟩) nc cC):=Blk.cell hB2.out 10
   have vfz:w2.frozen? ⟨cg,m,none⟩=false:=Yo.frz hN2 m
   obtain ⟨vm,hvm⟩:∃ vm,(csAt k)[m]? = some vm:=⟨_,List.getElem?_eq_getElem (by rw [hlx];exact hmn)⟩
   have vcm:w2.cell? ⟨cg,m,none⟩=some (.int .i64 vm):=Yo.cell hN2 hvm
   have j1:(m:Int) < nc:=by omega
   have j2:(0:Int)≤m:=by omega
   have j3:cg≠cb:=hgb
   have j4:cb≠cg:=hgb.symm
   have j5:g9≠cg:=by omega
   have j6:cg≠g9:=by omega
   have hgl2:=Yo.lt hN2
   replace hN2:=HD hN2
   replace hvm:=HD hvm
   go_region
   have r1:Blk ((((w2.drewN nd).setCell ⟨cb,11,none⟩ (.int .i64 a.thread)).setCell ⟨cg,m,none⟩ (.int .i64 a.now)).drew) cb 190 (ckA e L.length (.slice (some ⟨g,off,none⟩) L.length cL) (.slice (some ⟨gw,ow,none⟩) went.length cW) (.slice (some ⟨gr,orr,none⟩) ready.length cR) (.slice al left.length cl) vF (.slice aP picks.length cP) most (.slice (some ⟨tg,0,none⟩) n cT) (.slice (some ⟨cg,0,none⟩) nc cC) (lastAt (k + 1))):=by
    rw [nx1.out]
    exact Blk.far (w:=(w2.drewN nd).setCell ⟨cb,11,none⟩ (.int .i64 a.thread)) (p:=⟨cg,m,none⟩) (Blk.set_ (w:=w2.drewN nd) hB2.out 11 (.int .i64 a.thread)) j4 _
   have r2:∀ q,q≠cb→q≠cg→(((((w2.drewN nd).setCell ⟨cb,11,none⟩ (.int .i64 a.thread)).setCell ⟨cg,m,none⟩ (.int .i64 a.now)).drew)).heap[q]? = w2.heap[q]?:=fun q h1 h2=>(Below.heap_setCell _ _ _ q h2).trans (Below.heap_setCell _ _ _ q h1)
   have r3:X1 ((((w2.drewN nd).setCell ⟨cb,11,none⟩ (.int .i64 a.thread)).setCell ⟨cg,m,none⟩ (.int .i64 a.now)).drew) tg cT ts2:=hT2.of (r2 tg (fun h=>hct h.symm) (fun h=>hgt h.symm))
   have r4:XfX ((((w2.drewN nd).setCell ⟨cb,11,none⟩ (.int .i64 a.thread)).setCell ⟨cg,m,none⟩ (.int .i64 a.now)).drew) (some ⟨cg,0,none⟩) cC (csAt (k + 1)):=.inr ⟨cg,rfl,by
    rw [nx4.out,hm,Int.toNat_natCast]
    exact Yo.set (w:=(w2.drewN nd).setCell ⟨cb,11,none⟩ (.int .i64 a.thread)) (hN2.out.of (Below.heap_setCell _ _ _ cg j3)) m a.now (by rw [hlx];exact hmn) |>.of rfl⟩
   have r5:Kept (Vo cb tg (some ⟨cg,0,none⟩)) w ((((w2.drewN nd).setCell ⟨cb,11,none⟩ (.int .i64 a.thread)).setCell ⟨cg,m,none⟩ (.int .i64 a.now)).drew):=(((hkt.out.drewN nd).set (p:=⟨cb,11,none⟩) (.inr (.inl rfl)) _).set (p:=⟨cg,m,none⟩) (.inr (.inr ⟨cg,rfl,rfl⟩)) _).drew
   generalize ((((w2.drewN nd).setCell ⟨cb,11,none⟩ (.int .i64 a.thread)).setCell ⟨cg,m,none⟩ (.int .i64 a.now)).drew)=w5 at r1 r2 r3 r4 r5 ⊢
   replace r1:=HD r1
   replace r3:=HD r3
   replace r4:=HD r4
   replace r5:=HD r5
   clear r2
   go_wp2_with fail
   exact ⟨⟨k + 1,ts2,by omega,by first|rfl|simp,by first|rfl|simp,r1.out,r3.out,hl2,hCa2.up (by omega),r4.out,r5.out⟩,by simp [intOf];omega⟩
  ·obtain rfl:k=L.length:=by omega
   have x0:decide (L.length < L.length)=false:=by simp
   have x1:decide ((L.length:Int) < L.length)=false:=by simp
   have hlc:=HOK.out.len L.length (Nat.le_refl _)
   have hnl:L[L.length]? = none:=List.getElem?_eq_none (Nat.le_refl _)
   have hcsl:∀ (i:Nat) (v:Int),(csAt L.length)[i]? = some v→∃ g,aC=some ⟨g,0,none⟩∧g≠tg∧g < wr.heap.size∧wr.cell? ⟨g,i,none⟩=some (.int .i64 v):=fun i v hv=>by
    rcases hCs.out with ⟨h1,h2⟩|⟨cg,h1,h2⟩
    ·rw [h1] at hv;simp at hv
    ·exact ⟨cg,h1,(HCC.out cg h1).2,Yo.lt h2,Yo.cell h2 hv⟩
   have HAB:∀ (Q:Ending→World→Prop),(∀ (vl:Option Addr) (vc:Nat) (w2:World),Kept (fun q=>q=tg) wr w2→Q (.returned (.tuple #[.slice vl (XN L left (csAt L.length) L.length n).length vc,.int .i64 left.length])) w2) →
    Calls Try.prog 134 #[.pointer (some ⟨cb,0,none⟩),.int .i64 L.length] wr Q:=fun Q hQ=>by
    refine (Xa3 (e:=e) (n:=n) (nr:=L.length) (al:=al) (aC:=aC) (cL:=cL) (cl:=cl) (cT:=cT) (cC:=cC) (tg:=tg) (cb:=cb) (B:=B) (most:=most) (last:=lastAt L.length) (L:=L) (left:=left) (cs:=csAt L.length) (ts:=ts') (w:=wr) (by rw [hlc];exact hB'.out) HL'.out Hl'.out hT'.out hlen hn64 htg (by have:=hKp.out.size;omega) L.length (Nat.le_refl _) hCa.out (fun a ha=>by
     obtain ⟨j,hj⟩:=List.getElem?_of_mem ha
     exact (HOK.out.thr j a hj).2.2) hcsl (fun j a h1 h2=>by rw [hlc];exact HOK.out.cell L.length j a (Nat.le_refl _) h1 h2)).mono ?_
    rintro e1 w2 ⟨vl,ts2,rfl,how,hl2,hT2,hCa2,hK2⟩
    obtain ⟨av,vc,rfl⟩:=Xo how
    have:=hQ av vc w2 hK2
    rw [HOK.out.lives]
    exact this
   replace HAB:=HD HAB
   go_upto_region 20 with (go_at_call 134;refine HAB.out _ (fun vl vc w2 hK2=>?_))
   have hkt:Kept (Vo cb tg aC) w w2:=hKp.out.trans (hK2.mono fun q h=>.inl h)
   have hB2:=hK2.blk hB'.out hct
   have u0:w2.cell? ⟨cb,0,none⟩=some (.int .i8 e):=Blk.cell hB2 0
   have u1:w2.cell? ⟨cb,1,none⟩=some (.int .i64 L.length):=Blk.cell hB2 1
   have u5:w2.cell? ⟨cb,5,none⟩=some (.slice al left.length cl):=Blk.cell hB2 5
   have u8:w2.cell? ⟨cb,8,none⟩=some (.int .i64 most):=Blk.cell hB2 8
   have hcb2:=Blk.lt hB2
   have hhow:=HOK.out.how
   have hcut:=HOK.out.cut
   replace hkt:=HD hkt
   clear hB2 hcsl c2 c9
   generalize (XN L left (csAt L.length) L.length n).length=al0 at hhow ⊢
   by_cases g1:left.length=0
   ·rw [if_pos g1] at hhow
    subst hhow
    have g2:(left.length == 0)=true:=by simp [g1]
    have g3:((left.length:Int) == 0)=true:=by simp [g1]
    have g4:decide (left.length=0)=true:=by simp [g1]
    clear hcut g1
    go_wp2_with fail
    go_ret
    exact ⟨rfl,hkt.out⟩
   ·rw [if_neg g1] at hhow
    have g2:(left.length == 0)=false:=by simpa using g1
    have g3:((left.length:Int) == 0)=false:=beq_eq_false_iff_ne.2 (by omega)
    have g4:decide (left.length=0)=false:=by simpa using g1
    by_cases g5:al0=0
    ·rw [if_pos g5] at hhow
     subst hhow
     have g6:(al0 == 0)=true:=by simp [g5]
     have g7:((al0:Int) == 0)=true:=by simp [g5]
     have g8:decide (al0=0)=true:=by simp [g5]
     clear hcut g1 g5
     go_wp2_with fail
     go_ret
     exact ⟨rfl,hkt.out⟩
    ·rw [if_neg g5] at hhow
     subst hhow
     have hc2:=hcut rfl
     subst hc2
     have g6:(al0 == 0)=false:=by simpa using g5
     have g7:((al0:Int) == 0)=false:=beq_eq_false_iff_ne.2 (by omega)
     have g8:decide (al0=0)=false:=by simpa using g5
     clear hcut g1 g5
     go_wp2_with fail
     go_ret
     exact ⟨rfl,hkt.out⟩
end Go.Proofs.Ytdhnggjmegilkaa
