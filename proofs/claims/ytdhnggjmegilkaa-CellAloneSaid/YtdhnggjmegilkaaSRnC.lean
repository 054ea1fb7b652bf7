/- The run's map of cells: pointers to numbers, in the order in which they were met. -/
import Derived.Test.YtdhnggjmegilkaaSRnJ
import Derived.Carry
import Derived.Test.YtdhnggjmegilkaaSRnH
import Derived.Test.YtdhnggjmegilkaaSTkK
import Derived.LaidEqlPtr
import Derived.MapKept
set_option linter.all false
set_option maxRecDepth 100000
set_option maxHeartbeats 16000000
namespace Go.Proofs.Ytdhnggjmegilkaa
open Go.Conc Go.RowKit
open Go.ConcN (upd upd_same upd_ne)
set_option maxRecDepth 100000
theorem own1 {w:World} {N:Nat} {e:TypeId} {v a:Value} (h:w.ownsRow N e 1 v 1 [a]):∃ g cap,v=.slice (some ⟨g,0,none⟩) 1 cap∧w.cell? (th g 0)=some a∧N≤g:=by
 rcases h.2 with ⟨_,hn⟩|⟨g,cap,cur,rfl,hb,hg,h1,_,hs,ht⟩
 ·cases hn
 ·refine ⟨g,cap,rfl,?_,hb⟩
  rw [Xa hg,← Array.getElem?_toList];cases hl:cur.toList with
  | nil=>rw [hl] at ht;cases ht
  | cons b l=>rw [hl] at ht;simp at ht;simp [ht]
theorem own_nil {w:World} {N:Nat} {e:TypeId} {size:Nat}:w.ownsRow N e size (.slice none 0 0) 0 []:=⟨by simp,.inl ⟨rfl,rfl⟩⟩
abbrev nilS:Value:=.slice none 0 0
theorem until1 {Post:Value→World→Prop} {C:Ctx} {x:World} {c:Frame} {cs:List Frame} {N rb fb bb bc:Nat} {most:Int} {cap:Array Value} {vf vM vS:Value} {R:Nat→World→World→Prop} {x0:World}
 (hd:C.d=0) (hh:C.h < C.n) (hlo:C.lo≤N) (hM:Mild1 Post N x0 fb cap R) (hag:∀ r,r < N→x.heap[r]? = x0.heap[r]?) (hvf:vf=.func (.func fb) #[] cap)
 (hr:x.heap[rb]? = some (.cells (XH nilS vM nilS nilS nilS nilS false) 179 (0,0))) (hN:N≤rb) (hb:x.cell? (th bb 0)=some vf)
 (hlow:∀ i s,i≠C.h→C.Ch i=some s→s.c < x.heap.size) (hnone:C.Ch C.n=none)
 (hend:∀ Ch' z0 z1 z2 vT' vF' tb st wk,(∀ i,i≠C.h→Ch' i=C.Ch i)→R tb z0 z1→BegunJ x z0 z1 z2 N rb nilS nilS vT' vF' vM nilS nilS nilS false [] [] tb st wk→JG Try.prog Post { Ch:=Ch',h:=C.h,d:=0,n:=C.n + 1,lo:=C.lo,io:=C.io } (G (c.finish (.tuple #[.int .i8 1,.bool true])) cs) z2) :
 JG Try.prog Post C (G (Frame.enter Try.prog 82 #[P0 rb,.int .i64 most,.slice (some ⟨bb,0,none⟩) 1 bc,vS] .normal) (c::cs)) x:=by
 refine Xu Try.func82 (by rfl) (by rfl) ?_;simp only [Try.f82,Option.getD_some];replace hvf:=HD hvf;replace hag:=HD hag;walk_nrm
 repeat refine kx ?_
 refine JG.loop ?_
 repeat refine kx ?_
 refine kf (args:=#[P0 rb,vf]) Try.func130 ?_;refine begin_J (ths:=[]) (fls:=[]) hd hh hlo hM hag.out hvf.out hr own_nil own_nil hN (by simp [Value.ownBlock]) (by simp [Value.ownBlock]) (fun g e=>by simp [Value.ownBlock] at e) (by decide) (by decide) hlow hnone fun Ch' z0 z1 z2 vT' vF' tb st wk hCh hR hB=>?_;rw [Frame.finish_at];walk_nrm
 repeat refine kx ?_
 refine JG.inLoop ?_
 repeat refine kx ?_
 refine JG.exit (by rfl) ?_
 repeat refine kx ?_
 refine JG.loop ?_
 repeat refine kx ?_
 refine kf (args:=#[P0 rb]) Try.func131 ?_;obtain ⟨g,cap',e1,hg,_⟩:=own1 hB.rths;refine able1 (g:=g) (cap:=cap') (tb:=tb) (by rw [Xa hB.obj,← e1];rfl) hg (by rw [Xa hB.thr];rfl) ?_;rw [Frame.finish_at];walk_nrm
 repeat refine kx ?_
 refine JG.ret ?_;exact JG.leave rfl rfl Try.func82 (fun τ d=>results_tmp2 (t:=8) (u:=9) rfl _ _ _) (hend Ch' z0 z1 z2 vT' vF' tb st wk hCh hR hB)
theorem run_J {Post:Value→World→Prop} {C:Ctx} {x:World} {c:Frame} {cs:List Frame} {fb bb bc:Nat} {most:Int} {cap:Array Value} {vf:Value} {po:Option Addr} {pn pc:Nat} {R:Nat→World→World→Prop}
 (hd:C.d=0) (hh:C.h < C.n) (hlo:C.lo≤x.heap.size) (hM:Mild1 Post x.heap.size x fb cap R) (hvf:vf=.func (.func fb) #[] cap) (hb:x.cell? (th bb 0)=some vf)
 (hlow:∀ i s,i≠C.h→C.Ch i=some s→s.c < x.heap.size) (hnone:C.Ch C.n=none)
 (hend:∀ Ch' tb z0 z1 y,(∀ i,i≠C.h→Ch' i=C.Ch i)→(∀ r,r < x.heap.size→z0.heap[r]? = x.heap[r]?)→x.heap.size≤z0.heap.size→R tb z0 z1→(∀ r,r < x.heap.size→y.heap[r]? = z1.heap[r]?)→z1.heap.size≤y.heap.size→(∃ rb n wk st,x.heap.size≤tb∧y.heap[tb]? = some (.cells ((Yo rb n wk st).setIfInBounds 13 (.bool true)) 184 (2,4)))→JG Try.prog Post { Ch:=Ch',h:=C.h,d:=0,n:=C.n + 1,lo:=C.lo,io:=C.io } (G (c.finish (.agg #[.int .i8 1,.int .i64 0,nilS,nilS,nilS,nilS,nilS])) cs) y) :
 JG Try.prog Post C (G (Frame.enter Try.prog 18 #[.slice po pn pc,.int .i64 most,.slice (some ⟨bb,0,none⟩) 1 bc] .normal) (c::cs)) x:=by
 refine Xu Try.func18 (by rfl) (by rfl) ?_;simp only [Try.f18,Option.getD_some];replace hvf:=HD hvf;walk_nrm;refine JG.seq ?_;refine JG.code (XO _) (by kernel_rfl) rfl (.inr (by kernel_rfl)) rfl (fun K R hK hR τ=>?_);replace hK:=HD hK;clear hR
 go_wp2
 refine hK.out _ _ (jt (x:=(x.alloc (.cells #[.slice po pn pc] 24)).alloc (.cells #[.int .i8 0,.int .i64 0,nilS,nilS,nilS,nilS,nilS] 43)) ?_);simp only [Xs];clear hK K R τ;obtain ⟨w,hw⟩:∃ w,w=(x.alloc (.cells #[.slice po pn pc] 24)).alloc (.cells #[.int .i8 0,.int .i64 0,nilS,nilS,nilS,nilS,nilS] 43):=⟨_,rfl⟩
 rw [← hw];have ws:w.heap.size=x.heap.size + 2:=by rw [hw];simp
 have wn:w.heap[x.heap.size + 1]? = some (.cells #[.int .i8 0,.int .i64 0,nilS,nilS,nilS,nilS,nilS] 43 (0,0)):=by
  rw [hw,Xl,Xl,Array.getElem?_push,Array.size_push,if_pos rfl]
 have wo:∀ r,r < x.heap.size→w.heap[r]? = x.heap[r]?:=fun r h=>by
  rw [hw,Xl,Xl,Array.getElem?_push,Array.size_push,if_neg (by omega),Array.getElem?_push,if_neg (by omega)]
 have wb:w.cell? (th bb 0)=some vf:=by rw [hw];exact XU (XU hb)
 clear hw;generalize hrp:x.heap.size + 1=rp at wn ⊢;refine JG.seq ?_;refine JG.seq ?_;refine JG.code (XO _) (by kernel_rfl) rfl (.inr (by kernel_rfl)) rfl (fun K R hK hR τ=>?_);replace hK:=HD hK;clear hR
 go_wp2
 refine hK.out _ _ (jt (x:=w) (τ:=τ) (d:=0) ?_);clear hK K R τ;refine JG.condF rfl ?_;refine JG.skip ?_;refine JG.seq ?_;refine JG.code (XO _) (by kernel_rfl) rfl (.inr (by kernel_rfl)) rfl (fun K R hK hR τ=>?_);replace hK:=HD hK;clear hR;have hmm:=fun w=>run_makeMap (P:=Try.prog) 176 w
 go_wp2
 refine hK.out _ _ (jt (x:=((w.alloc (.map #[] 0)).alloc (.cells (XH nilS (.map (some w.heap.size)) nilS nilS nilS nilS false) 179)).alloc (.cells #[P0 (w.heap.size + 1)] 175)) ?_);simp only [Xs];clear hK K R τ hmm;obtain ⟨y,hy⟩:∃ y,y=((w.alloc (.map #[] 0)).alloc (.cells (XH nilS (.map (some w.heap.size)) nilS nilS nilS nilS false) 179)).alloc (.cells #[P0 (w.heap.size + 1)] 175):=⟨_,rfl⟩
 rw [← hy];have ys:y.heap.size=w.heap.size + 3:=by rw [hy];simp
 have yr:y.heap[w.heap.size + 1]? = some (.cells (XH nilS (.map (some w.heap.size)) nilS nilS nilS nilS false) 179 (0,0)):=by
  rw [hy,Xl,Xl,Xl,Array.getElem?_push,Array.size_push,Array.size_push,if_neg (by omega),Array.getElem?_push,Array.size_push,if_pos rfl]
 have yp':y.heap[w.heap.size + 1 + 1]? = some (.cells #[P0 (w.heap.size + 1)] 175 (0,0)):=by
  rw [hy,Xl,Xl,Xl,Array.getElem?_push,Array.size_push,Array.size_push,if_pos rfl]
 have yo:∀ r,r < w.heap.size→y.heap[r]? = w.heap[r]?:=fun r h=>by
  rw [hy,Xl,Xl,Xl,Array.getElem?_push,Array.size_push,Array.size_push,if_neg (by omega),Array.getElem?_push,Array.size_push,if_neg (by omega),Array.getElem?_push,if_neg (by omega)]
 have yb:y.cell? (th bb 0)=some vf:=by rw [hy];exact XU (XU (XU wb))
 have yp:y.cell? (th (w.heap.size + 1 + 1) 0)=some (P0 (w.heap.size + 1)):=by rw [Xa yp'];rfl
 clear hy;generalize hpv:w.heap.size + 1 + 1=pv at yp yp' ⊢;generalize hrb:w.heap.size + 1=rb at yr yp yp' ⊢
 repeat refine kx ?_
 refine kf (args:=#[P0 rb,.int .i64 (if 65536 < if most < 0 then 0 else most then 65536 else if most < 0 then 0 else most),.slice (some ⟨bb,0,none⟩) 1 bc,.func (.func 83) #[] #[P0 x.heap.size,P0 pv]]) Try.func82 ?_;refine until1 (N:=x.heap.size) hd hh hlo hM (fun r h=>by rw [yo r (by omega),wo r h]) hvf.out yr (by omega) yb (fun i s hi hs=>by have:=hlow i s hi hs;omega) hnone fun Ch' z0 z1 z2 vT' vF' tb st wk hCh hR hB=>?_;rw [Frame.finish_at];walk_nrm;obtain ⟨hR1,hR2⟩:=hM.keeps _ _ _ hR;have e0:=hB.size0;have e1:=hB.tbn;have e2:=hB.stn;have zk:∀ r,x.heap.size≤r→r < y.heap.size→r≠rb→z2.heap[r]? = y.heap[r]?:=fun r h1 h2 h3=>by
  rw [hB.same r (by omega) (by omega),hR2 r h1 (by omega),hB.old r h2 h3 (by simp [Value.ownBlock]) (by simp [Value.ownBlock])]
 have zp:z2.cell? (th pv 0)=some (P0 rb):=by rw [Xa ((zk pv (by omega) (by omega) (by omega)).trans yp')];rfl
 have zn:=(zk rp (by omega) (by omega) (by omega)).trans ((yo rp (by omega)).trans wn)
 repeat refine kx ?_
 refine kf (args:=#[P0 rb,.int .i8 1]) Try.func84 ?_;obtain ⟨g,cap1,q1,hg,_⟩:=own1 hB.rths;obtain ⟨gf,cap2,q2,hgf,_⟩:=own1 hB.rfls;have zo:=hB.obj;rw [q1,q2] at zo;refine report1 (vL:=nilS) (vW:=nilS) (vR:=nilS) (tb:=tb) zo hg (by rw [Xa hB.thr];rfl) hgf (by rintro rfl;rw [Xa zo] at hg;simp [XH] at hg) (by omega) (by rintro rfl;rw [Xa zo] at hgf;simp [XH] at hgf) fun u ho hu=>?_;rw [Frame.finish_at];walk_nrm;have hl2:∀ r o,z2.heap[r]? = some o→r < z2.heap.size:=fun r o h=>(GE h).1;have un:=(ho rp (hl2 _ _ zn) (by omega)).trans zn;have m0:u.cell? (th rp 0)=some (.int .i8 0):=Xa un 0;have n0:u.frozen? (th rp 0)=false:=Xe un 0;have m1:u.cell? (th rp 1)=some (.int .i64 0):=Xa un 1;have n1:u.frozen? (th rp 1)=false:=Xe un 1;have m2:u.cell? (th rp 2)=some (nilS):=Xa un 2;have n2:u.frozen? (th rp 2)=false:=Xe un 2;have m3:u.cell? (th rp 3)=some (nilS):=Xa un 3;have n3:u.frozen? (th rp 3)=false:=Xe un 3;have m4:u.cell? (th rp 4)=some (nilS):=Xa un 4;have n4:u.frozen? (th rp 4)=false:=Xe un 4;have m5:u.cell? (th rp 5)=some (nilS):=Xa un 5;have n5:u.frozen? (th rp 5)=false:=Xe un 5;have m6:u.cell? (th rp 6)=some (nilS):=Xa un 6;have n6:u.frozen? (th rp 6)=false:=Xe un 6;refine ko fun K E hK hE τ d=>?_;have m0':=(Xk u τ d _).trans m0;have n0':=(Xf u τ d _).trans n0;have m1':=(Xk u τ d _).trans m1;have n1':=(Xf u τ d _).trans n1;have m2':=(Xk u τ d _).trans m2;have n2':=(Xf u τ d _).trans n2;have m3':=(Xk u τ d _).trans m3;have n3':=(Xf u τ d _).trans n3;have m4':=(Xk u τ d _).trans m4;have n4':=(Xf u τ d _).trans n4;have m5':=(Xk u τ d _).trans m5;have n5':=(Xf u τ d _).trans n5;have m6':=(Xk u τ d _).trans m6;have n6':=(Xf u τ d _).trans n6;go_simp;refine hK _ _ ?_;rw [Xc,Xc,Xc,Xc,Xc,Xc,Xc];refine jt ?_;clear m0 n0 m0' n0' m1 n1 m1' n1' m2 n2 m2' n2' m3 n3 m3' n3' m4 n4 m4' n4' m5 n5 m5' n5' m6 n6 m6' n6' hK hE K E τ d;obtain ⟨v,hv⟩:∃ v,v=((((((u.setCell (th rp 0) (.int .i8 1)).setCell (th rp 1) (.int .i64 0)).setCell (th rp 2) nilS).setCell (th rp 3) nilS).setCell (th rp 4) nilS).setCell (th rp 5) nilS).setCell (th rp 6) nilS:=⟨_,rfl⟩
 rw [← hv]
 try walk_nrm
 have hsv:v.heap.size=u.heap.size:=by rw [hv,Xh,Xh,Xh,Xh,Xh,Xh,Xh]
 have hvo:∀ r,r≠rp→v.heap[r]? = u.heap[r]?:=fun r h=>by
  rw [hv,Xb h,Xb h,Xb h,Xb h,Xb h,Xb h,Xb h]
 have hvn:v.heap[rp]? = some (.cells #[.int .i8 1,.int .i64 0,nilS,nilS,nilS,nilS,nilS] 43 (0,0)):=by
  rw [hv];exact Xd (Xd (Xd (Xd (Xd (Xd (Xd un))))))
 clear hv;have e3:=hB.size2
 repeat refine kx ?_
 refine JG.ret ?_;refine JG.leave rfl rfl Try.func18 (fun τ d=>results_cell_row (p:=6) rfl _ _ rp _ _ _ _ rfl hvn Try.underlying43 rfl (by kernel_rfl)) (hend Ch' tb z0 z1 v hCh (fun r h=>?_) (by omega) hR (fun r h=>?_) (by omega) ⟨_,_,_,_,by omega,((hvo tb (by omega)).trans (ho tb (hl2 _ _ hB.thr) (by omega))).trans hB.thr⟩)
 ·rw [hB.old r (by omega) (by omega) (by simp [Value.ownBlock]) (by simp [Value.ownBlock]),yo r (by omega),wo r h]
 ·rw [hvo r (by omega),ho r (by omega) (by omega),hB.same r (by omega) (by omega)]
def XZ (w:World) (b:Nat):Prop:=∃ ca ta,w.heap[b]? = some (.cells ca ta (0,0))
def YN (A:Nat→Nat):List Nat→Nat→List (Value × Value)
 | [],_=>[]
 | c::l,n=>(P0 (A c),.int .i64 n)::YN A l (n + 1)
theorem U6 (A:Nat→Nat) (l:List Nat) (c:Nat):∀ n,YN A (l ++ [c]) n=YN A l n ++ [(P0 (A c),.int .i64 ((n + l.length:Nat):Int))]:=by
 induction l with
 | nil=>intro n;rfl
 | cons d l ih=>intro n;simp only [List.cons_append,YN,ih,List.length_cons,show n + 1 + l.length=n + (l.length + 1) by omega]
def MapAt (w:World) (mb:Nat) (A:Nat→Nat) (names:List Nat):Prop:=∃ es cl,w.heap[mb]? = some (.map es cl)∧es.toList.map (fun e=>(e.key,e.val))=YN A names 0
theorem MapAt.heap {w w':World} {mb:Nat} {A:Nat→Nat} {names:List Nat} (h:MapAt w mb A names) (he:w'.heap[mb]? = w.heap[mb]?):MapAt w' mb A names:=by
 obtain ⟨es,cl,h1,h2⟩:=h;exact ⟨es,cl,he.trans h1,h2⟩
theorem Ww:(Try.prog.info? 72).map (fun i=>(i.zero,i.size,i.bytes))=some (some (.agg #[.int .i64 0]),1,8):=by kernel_rfl
theorem XbA (w:World) (a:Addr):(Op.equal 182 (.pointer (some a)) (.pointer (some a))).run Try.prog w=.ok true w:=by
 obtain ⟨j,hj,hz0,hz1,hz2⟩:=XM Ww;have h:∀ d:Nat,(Op.equalIn (d + 1) 182 (.pointer (some a)) (.pointer (some a))).run Try.prog w=.ok true w:=fun d=>by
  simp [Op.equalIn,run_underlying Try.underlying182,sizeOf,typeInfo,hj,run_sameAddr_same]
 simp [Op.equal,Op.maxDepth,h 9999]
theorem Xaq {w:World} {a b:Nat} (ha:XZ w a) (hb:XZ w b) (hne:a≠b):(Op.equal 182 (P0 a) (P0 b)).run Try.prog w=.ok false w:=by
 obtain ⟨j,hj,hz0,hz1,hz2⟩:=XM Ww;obtain ⟨ca,ta,ea⟩:=ha;obtain ⟨cb,tb,eb⟩:=hb;have hn:(⟨a,0,none⟩:Addr)≠⟨b,0,none⟩:=fun e=>by cases e;exact hne rfl
 have h:∀ d:Nat,(Op.equalIn (d + 1) 182 (P0 a) (P0 b)).run Try.prog w=.ok false w:=fun d=>by
  simp [Op.equalIn,run_underlying Try.underlying182,sizeOf,typeInfo,hj,hz1,run_sameAddr_other w hn ea eb]
 simp [Op.equal,Op.maxDepth,h 9999]
theorem Xc1 {w:World} {A:Nat→Nat} {id:Nat} (hid:XZ w (A id)):∀ (l:List MapEntry) (names:List Nat) (n:Nat),l.map (fun e=>(e.key,e.val))=YN A names n→(∀ c∈names,XZ w (A c)∧(A c=A id→c=id)) →
 (Instr.findAsking 182 (P0 (A id)) l n).run Try.prog w=.ok (if id∈names then some (n + names.idxOf id,.int .i64 ((n + names.idxOf id:Nat):Int)) else none) w:=by
 intro l
 induction l with
 | nil =>
  intro names n h _;cases names with
  | nil=>simp [Instr.findAsking]
  | cons c l=>simp [YN] at h
 | cons e l ih =>
  intro names n h hr;cases names with
  | nil=>simp [YN] at h
  | cons c names =>
   simp only [List.map_cons,YN,List.cons.injEq,Prod.mk.injEq] at h;obtain ⟨⟨hk,hv⟩,hl⟩:=h
   by_cases e1:c=id
   ·subst e1
    simp [Instr.findAsking,hk,hv,XbA]
   ·have h2:=hr c (by simp)
    have:=ih names (n + 1) hl fun d hd=>hr d (by simp [hd])
    have hne:A id≠A c:=fun z=>e1 (h2.2 z.symm);have h3:¬ id=c:=fun z=>e1 z.symm;have hi:(c::names).idxOf id=names.idxOf id + 1:=by rw [List.idxOf_cons,beq_eq_false_iff_ne.2 e1];rfl
    rw [show n + 1 + names.idxOf id=n + (names.idxOf id + 1) by omega] at this;simp only [Instr.findAsking,hk,Sem.run_bind,Xaq hid h2.1 hne,Result.andThen_ok,Bool.false_eq_true,if_false,this,List.mem_cons,h3,false_or,hi]
section
variable {w:World} {mb:Nat} {A:Nat→Nat} {names:List Nat} {id:Nat}
theorem WF (e:Bool) (n b:Nat) (w:World):(Instr.checkKey e (n + 1) 182 (P0 b)).run Try.prog w=.ok () w:=by
 simp [Instr.checkKey,run_underlying Try.underlying182]
theorem Q4 {es:Array MapEntry} (h2:es.toList.map (fun e=>(e.key,e.val))=YN A names 0) (hid:XZ w (A id)) (hr:∀ c∈names,XZ w (A c)∧(A c=A id→c=id)) :
 (Instr.findKey 182 (P0 (A id)) es.toList).run Try.prog w=.ok (if id∈names then some (names.idxOf id,.int .i64 (names.idxOf id:Nat)) else none) w:=by
 have hf:=Xc1 hid es.toList names 0 h2 hr;simp only [Nat.zero_add] at hf;unfold Instr.findKey;rw [Sem.run_bind,run_underlying Try.underlying182,Result.andThen_ok];cases he:es.toList with
 | nil =>
  rw [he] at h2;cases names with
  | nil=>simp [Instr.findNow]
  | cons c l=>simp [YN] at h2
 | cons e l =>
  rw [he] at hf;simp only [Instr.findNow,Instr.sameNow];exact hf
theorem Xdz (w:World):(zeroValue 3).run Try.prog w=.ok (.int .i64 0) w:=by
 have h:(Try.prog.info? 3).bind (fun i=>i.zero)=some (.int .i64 0):=by kernel_rfl
 obtain ⟨i,hi,hz⟩:=Option.bind_eq_some_iff.1 h;simp [zeroValue,typeInfo,hi,hz]
theorem Wq (hM:MapAt w mb A names) (hid:XZ w (A id)) (hr:∀ c∈names,XZ w (A c)∧(A c=A id→c=id)) :
 (Instr.lookup 176 (.map (some mb)) (P0 (A id)) true).run Try.prog w=.ok (.tuple #[.int .i64 (if id∈names then (names.idxOf id:Nat) else (0:Nat):Nat),.bool (decide (id∈names))]) w:=by
 obtain ⟨es,cl,h1,h2⟩:=hM;have hn:=Q4 (w:=w) h2 hid hr;unfold Instr.lookup;rw [Sem.run_bind,run_underlying Try.underlying176,Result.andThen_ok];simp only [bind_assoc,pure_bind];rw [Sem.run_bind,MapKept.run_getObj_map h1,Result.andThen_ok];simp only [bind_assoc,pure_bind];rw [Sem.run_bind,WF _ 9999,Result.andThen_ok];rw [Sem.run_bind,hn,Result.andThen_ok]
 by_cases e:id∈names
 ·simp [e]
 ·simp [e,Xdz]
theorem XdR (hM:MapAt w mb A names) (hid:XZ w (A id)) (hr:∀ c∈names,XZ w (A c)∧(A c=A id→c=id)) (hnew:id ∉ names) :
 ∃ o,(Instr.mapUpdate 176 (.map (some mb)) (P0 (A id)) (.int .i64 (names.length:Nat))).run Try.prog w=.ok () { w with heap:=w.heap.setIfInBounds mb o }∧(∀ w',w'.heap[mb]? = some o→MapAt w' mb A (names ++ [id]))∧mb < w.heap.size∧∃ es cl,o=.map es cl:=by
 obtain ⟨es,cl,h1,h2⟩:=hM;have hn:=Q4 (w:=w) h2 hid hr;refine ⟨.map (es.push { key:=P0 (A id),val:=.int .i64 (names.length:Nat),born:=cl }) (cl + 1),?_,fun w' h=>⟨_,_,h,?_⟩,(GE h1).1,_,_,rfl⟩
 ·unfold Instr.mapUpdate
  rw [Sem.run_bind,run_underlying Try.underlying176,Result.andThen_ok];simp only;rw [Sem.run_bind,MapKept.run_getObj_map h1,Result.andThen_ok];simp only;rw [Sem.run_bind,WF _ 9999,Result.andThen_ok];rw [Sem.run_bind,hn,Result.andThen_ok,if_neg hnew];exact MapKept.run_setObj_map _ h1
 ·rw [Array.toList_push,List.map_append,h2,U6,Nat.zero_add]
  rfl
theorem XcK (hM:MapAt w mb A names):∃ es cl,w.heap[mb]? = some (.map es cl)∧es.size=names.length:=by
 obtain ⟨es,cl,h1,h2⟩:=hM;refine ⟨es,cl,h1,?_⟩
 have:=congrArg List.length h2
 have hp:∀ (l:List Nat) n,(YN A l n).length=l.length:=fun l=>by
  induction l with
  | nil=>intro n;rfl
  | cons c l ih=>intro n;simp [YN,ih]
 rw [List.length_map,hp] at this;simpa using this
