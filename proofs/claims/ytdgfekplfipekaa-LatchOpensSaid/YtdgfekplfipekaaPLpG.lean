/- LatchOpens makes its bodies: two a thread. -/
import Derived.Test.YtdgfekplfipekaaPLpB
import Derived.Test.YtdgfekplfipekaaPRnL
import Derived.Test.YtdgfekplfipekaaPLbA
import Derived.Deep.AppendLies
set_option linter.all false
set_option maxRecDepth 100000
set_option maxHeartbeats 16000000
namespace Go.Proofs.Ytdgfekplfipekaa
open Go.Conc Go.RowKit
open Go.ConcN (upd upd_same upd_ne)
set_option maxRecDepth 100000
section
variable {Sh:Type} {Post:Value→World→Prop} {S:Zv Sh} {num tb rb m:Nat} {cb:Frame} {C:Ctx} {x0 x y:World} {col Pv:Nat→Prop} {sh:Sh} {cells:Nat→Int}
theorem TSt.begin {p:Xx Sh Unit} (hd:C.d=0) (hL:Qn x tb rb) (hct:col tb) (hcb:∀ r,col r→r < x.heap.size) (hI:S.I sh cells col x) (R:Reach Post S num tb cb (fun Pv y=>XR Post S num tb rb cb m Pv y QG) C col cells x (p.pass sh).1 (p.pass sh).2):TSt Post S num tb rb cb m C x x col none_ sh cells p :=
 ⟨hd,hL,hct,hcb,fun r hr=>hr.elim,by rw [VN];exact hI,Nat.le_refl _,fun _ _=>rfl,fun _ _ _ _=>rfl,fun i a h=>(S.keepI hI i a h).1,R⟩
theorem TSt.did {f:Sh→Sh} {k:Sh→Xx Sh Unit} (h:TSt Post S num tb rb cb m C x0 x col none_ sh cells (.act f k)) (hs:y.heap.size=x.heap.size) (hy:∀ r,col r→y.heap[r]? = x.heap[r]?) (hI:S.I (f sh) cells col y) (hk:∀ i a,¬ S.keep i a):TSt Post S num tb rb cb m C x0 y col none_ (f sh) cells (k sh) :=
 ⟨h.d,⟨(World.cell?_of_block (hy tb h.mine)).trans h.lives.1,(World.cell?_of_block (hy tb h.mine)).trans h.lives.2.1,h.lives.2.2⟩,h.mine,fun r hr=>by rw [hs];exact h.lt r hr,fun r hr=>hr.elim,by rw [VN];exact hI,by rw [hs];exact h.size,fun r hr=>(hy r hr).trans (h.old r hr),fun i a _ h2=>(hk i a h2).elim,fun i a h1=>(hk i a h1).elim,h.reach⟩
theorem TSt.I0 {p:Xx Sh Unit} (h:TSt Post S num tb rb cb m C x0 x col none_ sh cells p):S.I sh cells col x:=by have:=h.I;rw [VN] at this;exact this
theorem TSt.fin (h:TSt Post S num tb rb cb m C x0 x col Pv sh cells (.ret ())):∀ v,JG Try.prog Post C (G (cb.finish v) [YX Try.prog]) x:=h.reach x Pv h.size h.old h.pv h.I h.keep
theorem Yq.body {c:Frame} (h1:∀ (C:Ctx) (x:World),JG Try.prog Post C (G (cb.raise [{ v:=YI,recovered:=false }]) [YX Try.prog]) x→JG Try.prog Post C (G (c.raise [{ v:=YI,recovered:=false }]) [cb,YX Try.prog]) x):Yq Post cb c [cb,YX Try.prog]:=fun C x hb=>h1 C x (hb x (Nat.le_refl _) fun _ _=>rfl)
end
structure Lq where
 bm:Nat
 ba:Nat
 bo:Nat
 cb:Nat
 lb:Nat
 bl:Nat
 bd:Nat
 be:Nat
 bw:Nat
 m:Nat
 all:Nat
 more:Nat
 o:bm < ba∧ba < bo∧bo < cb∧cb < lb∧lb < bl∧bl < bd∧bd < be∧be < bw
namespace Lq
variable (q:Lq)
def rows (sh:OSh):List (Nat × Obj):=[(q.bm,.cells #[.int .i64 (q.m:Nat)] 3 (0,0)),(q.ba,.cells #[.int .i64 (q.all:Nat)] 2 (0,0)),(q.bo,.cells #[.int .i64 (q.more:Nat)] 2 (0,0)),(q.lb,.cells #[P0 q.cb] 98 (0,0)),
 (q.bl,.cells #[P0 q.lb] 52 (0,0)),(q.bd,.cells #[.int .i64 sh.down] 2 (0,0)),(q.be,.cells #[.bool sh.early] 4 (0,0)),(q.bw,.cells #[.int .i64 sh.waits] 3 (0,0))]
theorem ne_cb {sh:OSh}:∀ p∈q.rows sh,p.1≠q.cb:=fun p hp=>by
 have:=q.o
 simp only [rows,List.mem_cons,List.not_mem_nil,or_false] at hp;rcases hp with rfl|rfl|rfl|rfl|rfl|rfl|rfl|rfl<;>simp only<;>omega
def M (sh:OSh) (col:Nat→Prop) (x:World):Prop:=∀ p∈q.rows sh,x.heap[p.1]? = some p.2∧¬ col p.1
def more_:Xgc OSh (fun _=>q.cb) 1 where
 M:=q.M
 frame:=fun {sh col x} h col' y hs ho hc p hp=>by
  obtain ⟨h1,h2⟩:=h p hp;have hl:=(GE h1).1;exact ⟨(ho _ hl h2 fun _ _=>q.ne_cb p hp).trans h1,fun e=>h2 (hc _ hl e)⟩
abbrev side:Zv OSh:=Xed (fun _=>q.cb) 1 (fun a b ha hb _=>by omega) q.more_ (XV.fuel OSh)
variable {q}
section
variable {sh:OSh} {col:Nat→Prop} {x:World}
theorem M.m (h:q.M sh col x):x.heap[q.bm]? = some (.cells #[.int .i64 (q.m:Nat)] 3 (0,0)):=(h (q.bm,_) (by simp [rows])).1
theorem M.a (h:q.M sh col x):x.heap[q.ba]? = some (.cells #[.int .i64 (q.all:Nat)] 2 (0,0)):=(h (q.ba,_) (by simp [rows])).1
theorem M.o (h:q.M sh col x):x.heap[q.bo]? = some (.cells #[.int .i64 (q.more:Nat)] 2 (0,0)):=(h (q.bo,_) (by simp [rows])).1
theorem M.lb (h:q.M sh col x):x.heap[q.lb]? = some (.cells #[P0 q.cb] 98 (0,0)):=(h (q.lb,_) (by simp [rows])).1
theorem M.l (h:q.M sh col x):x.heap[q.bl]? = some (.cells #[P0 q.lb] 52 (0,0)):=(h (q.bl,_) (by simp [rows])).1
theorem M.d (h:q.M sh col x):x.heap[q.bd]? = some (.cells #[.int .i64 sh.down] 2 (0,0))∧¬ col q.bd:=h (q.bd,_) (by simp [rows])
theorem M.e (h:q.M sh col x):x.heap[q.be]? = some (.cells #[.bool sh.early] 4 (0,0))∧¬ col q.be:=h (q.be,_) (by simp [rows])
theorem M.w (h:q.M sh col x):x.heap[q.bw]? = some (.cells #[.int .i64 sh.waits] 3 (0,0))∧¬ col q.bw:=h (q.bw,_) (by simp [rows])
theorem M.mk (hm:x.heap[q.bm]? = some (.cells #[.int .i64 (q.m:Nat)] 3 (0,0))) (ha:x.heap[q.ba]? = some (.cells #[.int .i64 (q.all:Nat)] 2 (0,0))) (ho:x.heap[q.bo]? = some (.cells #[.int .i64 (q.more:Nat)] 2 (0,0))) (hlb:x.heap[q.lb]? = some (.cells #[P0 q.cb] 98 (0,0))) (hl:x.heap[q.bl]? = some (.cells #[P0 q.lb] 52 (0,0)))
 (hd:x.heap[q.bd]? = some (.cells #[.int .i64 sh.down] 2 (0,0))) (he:x.heap[q.be]? = some (.cells #[.bool sh.early] 4 (0,0))) (hw:x.heap[q.bw]? = some (.cells #[.int .i64 sh.waits] 3 (0,0))) (hc:∀ p∈q.rows sh,¬ col p.1):q.M sh col x:=fun p hp=>by
 refine ⟨?_,hc p hp⟩;simp only [rows,List.mem_cons,List.not_mem_nil,or_false] at hp;rcases hp with rfl|rfl|rfl|rfl|rfl|rfl|rfl|rfl<;>assumption
theorem free_of {sh sh':OSh} (h:∀ p∈q.rows sh,¬ col p.1):∀ p∈q.rows sh',¬ col p.1:=fun p hp=>by
 have h1:p.1∈(q.rows sh').map Prod.fst:=List.mem_map_of_mem hp;rw [show (q.rows sh').map Prod.fst=(q.rows sh).map Prod.fst from rfl] at h1;obtain ⟨p',hp',e⟩:=List.mem_map.1 h1;rw [← e];exact h p' hp'
theorem M.setE (h:q.M sh col x) (e:Bool):q.M ⟨e,sh.down,sh.waits⟩ col (x.setCell (th q.be 0) (.bool e)):=by
 have:=q.o
 exact .mk ((Xb (by omega)).trans h.m) ((Xb (by omega)).trans h.a) ((Xb (by omega)).trans h.o) ((Xb (by omega)).trans h.lb) ((Xb (by omega)).trans h.l) ((Xb (by omega)).trans h.d.1) (by rw [Xd h.e.1];rfl) ((Xb (by omega)).trans h.w.1) (free_of fun p hp=>(h p hp).2)
theorem M.setD (h:q.M sh col x) (d:Int):q.M ⟨sh.early,d,sh.waits⟩ col (x.setCell (th q.bd 0) (.int .i64 d)):=by
 have:=q.o
 exact .mk ((Xb (by omega)).trans h.m) ((Xb (by omega)).trans h.a) ((Xb (by omega)).trans h.o) ((Xb (by omega)).trans h.lb) ((Xb (by omega)).trans h.l) (by rw [Xd h.d.1];rfl) ((Xb (by omega)).trans h.e.1) ((Xb (by omega)).trans h.w.1) (free_of fun p hp=>(h p hp).2)
theorem M.setW (h:q.M sh col x) (w:Int):q.M ⟨sh.early,sh.down,w⟩ col (x.setCell (th q.bw 0) (.int .i64 w)):=by
 have:=q.o
 exact .mk ((Xb (by omega)).trans h.m) ((Xb (by omega)).trans h.a) ((Xb (by omega)).trans h.o) ((Xb (by omega)).trans h.lb) ((Xb (by omega)).trans h.l) ((Xb (by omega)).trans h.d.1) ((Xb (by omega)).trans h.e.1) (by rw [Xd h.w.1];rfl) (free_of fun p hp=>(h p hp).2)
end
theorem latchS:LatchS q.side q.lb:=⟨Nat.zero_lt_one,fun h=>⟨Xa (M.lb h.2) 0,(h.1 0 Nat.zero_lt_one).1.c1⟩⟩
theorem keep_no:∀ i a,¬ q.side.keep i a:=fun _ _ h=>h
theorem I_set {sh sh':OSh} {cells:Nat→Int} {col:Nat→Prop} {x:World} {b:Nat} {v:Value} (h:q.side.I sh cells col x) (hb:b≠q.cb) (hM:q.M sh' col (x.setCell (th b 0) v)):q.side.I sh' cells col (x.setCell (th b 0) v) :=
 ⟨fun i hi=>⟨(Xb (show q.cb≠b from fun e=>hb e.symm)).trans (h.1 i hi).1,(h.1 i hi).2⟩,hM⟩
end Lq
section
variable {Post:Value→World→Prop} {q:Lq} {num tb rb:Nat} {cb:Frame} {F:Nat}
theorem downs_loop (hm:q.m < 1000):∀ (k i:Nat),i + k=q.m→∀ (m:Nat) (C:Ctx) (x0 x:World) (col:Nat→Prop) (sh:OSh) (cells:Nat→Int) (u5 u7 u8 u9 B0 B1 B2 B3 B4 B5 B6 B7 B8 B9 D0:Value),TSt Post q.side num tb rb cb m C x0 x col none_ sh cells (downs F k) →
 JG Try.prog Post C (G ((base 21).at ⟨#[P0 tb,P0 q.bm,P0 q.be,P0 q.bl,P0 q.bd,u5,.int .i64 i,u7,u8,u9,B0,B1,B2,B3,B4,B5,B6,B7,B8,B9,D0],[]⟩ [.code (Code.nav (Try.f21.body.getD .skip) [1,0,0]),.inLoop (Code.nav (Try.f21.body.getD .skip) [1,0,0]),.inBlock 0]) [cb,YX Try.prog]) x:=by
 intro k
 induction k with
 | zero =>
  intro i hik m C x0 x col sh cells u5 u7 u8 u9 B0 B1 B2 B3 B4 B5 B6 B7 B8 B9 D0 h;have hM:q.M sh col x:=h.I0.2;have hx:decide ((i:Int) < (q.m:Nat))=false:=by simp;omega
  have hxN:decide (i < q.m)=false:=by simp;omega
  have lm:x.cell? (th q.bm 0)=some (.int .i64 (q.m:Nat)):=Xa hM.m 0;simp only [Try.f21,Option.getD_some,Code.nav];replace h:=HD h;clear hM
  repeat refine kx ?_
  refine JG.exit (by rfl) ?_
  try walk_nrm
  first|refine JG.fin ?_|refine JG.done (JG.fin ?_)
  exact JG.leave0 rfl rfl Try.func21 (by rfl) (h.out.fin _)
 | succ k ih =>
  intro i hik m C x0 x col sh cells u5 u7 u8 u9 B0 B1 B2 B3 B4 B5 B6 B7 B8 B9 D0 h;have IH:=HD (ih (i + 1) (by omega));clear ih;have hM:q.M sh col x:=h.I0.2;have hx:decide ((i:Int) < (q.m:Nat))=true:=by simp;omega
  have hxN:decide (i < q.m)=true:=by simp;omega
  have hw:IntKind.i64.wrap ((i:Int) + 1)=((i + 1:Nat):Int):=by rw [IntKind.wrap_i64];omega
  have lm:x.cell? (th q.bm 0)=some (.int .i64 (q.m:Nat)):=Xa hM.m 0;have ll:x.cell? (th q.bl 0)=some (P0 q.lb):=Xa hM.l 0;simp only [Try.f21,Option.getD_some,Code.nav] at IH ⊢;replace hw:=HD hw;obtain ⟨early,down,waits⟩:=sh;have ho:=q.o;have nbd:q.bd≠q.cb:=by omega
  have nbe:q.be≠q.cb:=by omega
  replace ho:=HD ho;cases early with
  | true =>
   have h1:TSt Post q.side num tb rb cb m C x0 x col none_ ⟨true,down,waits⟩ cells (.act (fun s=>⟨s.early,wrap64 (s.down + 1),s.waits⟩) fun _=>downs F k):=h.did (y:=x) rfl (fun _ _=>rfl) h.I0 Lq.keep_no;have h2:=h1.did (y:=x.setCell (th q.bd 0) (.int .i64 (wrap64 (down + 1)))) (Xh ..) (fun r hr=>Xb fun e=>hM.d.2 (e ▸ hr)) (Lq.I_set h.I0 nbd (hM.setD _)) Lq.keep_no;have le:x.cell? (th q.be 0)=some (.bool true):=Xa hM.e.1 0;have ld:x.cell? (th q.bd 0)=some (.int .i64 down):=Xa hM.d.1 0;have fe:x.frozen? (th q.be 0)=false:=Xe hM.e.1 0;have fd:x.frozen? (th q.bd 0)=false:=Xe hM.d.1 0;clear hM h h1 ll;replace h2:=HD h2
   repeat refine kx ?_
   refine kst (And.intro le fe) ?_;rw [setCell_self le]
   repeat refine kx ?_
   refine kst (And.intro ld fd) ?_;rw [wrap_eq64];generalize x.setCell (th q.bd 0) (.int .i64 (wrap64 (down + 1)))=y at h2 ⊢;clear lm le ld fe fd
   repeat refine kx ?_
   refine JG.inLoop ?_;rw [hw.out];exact IH.out _ _ _ _ _ _ _ _ _ _ _ _ _ _ _ _ _ _ _ _ _ _ h2.out
  | false =>
   have le:x.cell? (th q.be 0)=some (.bool false):=Xa hM.e.1 0;have h1:TSt Post q.side num tb rb cb m C x0 x col none_ ⟨false,down,waits⟩ cells ((dnP F).bind (gD (downs F k))):=h.did (y:=x) rfl (fun _ _=>rfl) h.I0 Lq.keep_no;clear hM h;replace h1:=HD h1
   repeat refine kx ?_
   refine kf (args:=#[P0 q.lb,P0 tb,.int .i64 1]) Try.func22 ?_;refine down_T Lq.latchS ?_ h1.out fun m' C' y col' sh' cells' e hT _ _=>?_
   ·exact Yq.body fun C x h=>JG.raise rfl Try.func21 h
   rw [Frame.finish_at];clear lm le ll h1;have hM:q.M sh' col' y:=hT.I0.2;have fe:y.frozen? (th q.be 0)=false:=Xe hM.e.1 0;have le:y.cell? (th q.be 0)=some (.bool sh'.early):=Xa hM.e.1 0;have M1:=fun b=>hM.setE b;have T2:=hT.did (f:=fun s=>⟨!e,wrap64 (s.down + 1),s.waits⟩) (k:=fun _=>downs F k) (y:=(y.setCell (th q.be 0) (.bool !e)).setCell (th q.bd 0) (.int .i64 (wrap64 (sh'.down + 1)))) (by rw [Xh,Xh]) (fun r hr=>(Xb (show r≠q.bd from fun e'=>hM.d.2 (e' ▸ hr))).trans (Xb (show r≠q.be from fun e'=>hM.e.2 (e' ▸ hr)))) (Lq.I_set (Lq.I_set hT.I0 nbe (hM.setE !e)) nbd ((hM.setE !e).setD _)) Lq.keep_no;clear hM hT;replace T2:=HD T2;cases e with
   | false =>
    have M2:=M1 true;have ld:(y.setCell (th q.be 0) (.bool true)).cell? (th q.bd 0)=some (.int .i64 sh'.down):=Xa M2.d.1 0;have fd:(y.setCell (th q.be 0) (.bool true)).frozen? (th q.bd 0)=false:=Xe M2.d.1 0;clear M1 M2;simp only [okV,Bool.not_true,Bool.not_false] at T2 ⊢
    try walk_nrm
    repeat refine kx ?_
    refine kst (And.intro le fe) ?_;clear le fe;generalize y.setCell (th q.be 0) (.bool true)=y1 at T2 ld fd ⊢
    repeat refine kx ?_
    refine kst (And.intro ld fd) ?_;rw [wrap_eq64];generalize y1.setCell (th q.bd 0) (.int .i64 (wrap64 (sh'.down + 1)))=y2 at T2 ⊢;clear ld fd
    repeat refine kx ?_
    refine JG.inLoop ?_;rw [hw.out];exact IH.out _ _ _ _ _ _ _ _ _ _ _ _ _ _ _ _ _ _ _ _ _ _ T2.out
   | true =>
    have M2:=M1 false;have ld:(y.setCell (th q.be 0) (.bool false)).cell? (th q.bd 0)=some (.int .i64 sh'.down):=Xa M2.d.1 0;have fd:(y.setCell (th q.be 0) (.bool false)).frozen? (th q.bd 0)=false:=Xe M2.d.1 0;clear M1 M2;simp only [okV,Bool.not_true,Bool.not_false] at T2 ⊢
    try walk_nrm
    repeat refine kx ?_
    refine kst (And.intro le fe) ?_;clear le fe;generalize y.setCell (th q.be 0) (.bool false)=y1 at T2 ld fd ⊢
    repeat refine kx ?_
    refine kst (And.intro ld fd) ?_;rw [wrap_eq64];generalize y1.setCell (th q.bd 0) (.int .i64 (wrap64 (sh'.down + 1)))=y2 at T2 ⊢;clear ld fd
    repeat refine kx ?_
    refine JG.inLoop ?_;rw [hw.out];exact IH.out _ _ _ _ _ _ _ _ _ _ _ _ _ _ _ _ _ _ _ _ _ _ T2.out
theorem downs_b {m:Nat} (hm:q.m < 1000):Vu Post q.side num m 21 #[P0 q.bm,P0 q.be,P0 q.bl,P0 q.bd] (downs F q.m):=by
 refine ⟨⟨_,Try.func21,by kernel_rfl,by kernel_rfl⟩,fun C x col sh cells tb rb cbf hd hL hct hcb hI R=>?_⟩;have h:TSt Post q.side num tb rb cbf m C x x col none_ sh cells (downs F q.m):=.begin hd hL hct hcb hI R;have HL:=HD (fun u5 u7 u8 u9 B0 B1 B2 B3 B4 B5 B6 B7 B8 B9 D0=>downs_loop hm q.m 0 (by omega) m C x x col sh cells u5 u7 u8 u9 B0 B1 B2 B3 B4 B5 B6 B7 B8 B9 D0 h);clear h hI R;refine Xu Try.func21 (by rfl) (by rfl) ?_;simp only [Try.f21,Option.getD_some];simp only [Try.f21,Option.getD_some,Code.nav] at HL;walk_nrm
 repeat refine kx ?_
 refine JG.loop ?_;exact HL.out _ _ _ _ _ _ _ _ _ _ _ _ _ _ _
theorem waiter_b {m:Nat} (hs:q.all + q.more < 1000):Vu Post q.side num m 23 #[P0 q.bl,P0 q.bd,P0 q.ba,P0 q.bo,P0 q.be,P0 q.bw] (waiter F (q.all + q.more:Nat)):=by
 refine ⟨⟨_,Try.func23,by kernel_rfl,by kernel_rfl⟩,fun C x col sh cells tb rb cbf hd hL hct hcb hI R=>?_⟩;have h:TSt Post q.side num tb rb cbf m C x x col none_ sh cells (waiter F (q.all + q.more:Nat)):=.begin hd hL hct hcb hI R;have hM:q.M sh col x:=hI.2;have ll:x.cell? (th q.bl 0)=some (P0 q.lb):=Xa hM.l 0;clear hI R hM;replace h:=HD h;refine Xu Try.func23 (by rfl) (by rfl) ?_;simp only [Try.f23,Option.getD_some];walk_nrm
 repeat refine kx ?_
 refine kf (args:=#[P0 q.lb,P0 tb]) Try.func24 ?_;refine wait_T (g:=gW (q.all + q.more:Nat)) Lq.latchS ?_ h.out fun m' C' y col' sh' cells' e hT _ _=>?_
 ·exact Yq.body fun C x h=>JG.raise rfl Try.func23 h
 rw [Frame.finish_at]
 try walk_nrm
 clear ll h;have hM:q.M sh' col' y:=hT.I0.2;have ho:=q.o;have nbw:q.bw≠q.cb:=by omega
 have nbe:q.be≠q.cb:=by omega
 obtain ⟨A,hA⟩:∃ A,A=q.all + q.more:=⟨_,rfl⟩
 have hwr:IntKind.i64.wrap ((q.all:Int) + (q.more:Int))=(A:Int):=by rw [IntKind.wrap_i64];omega
 have le:y.cell? (th q.be 0)=some (.bool sh'.early):=Xa hM.e.1 0;have fe:y.frozen? (th q.be 0)=false:=Xe hM.e.1 0;have ld:y.cell? (th q.bd 0)=some (.int .i64 sh'.down):=Xa hM.d.1 0;have la:y.cell? (th q.ba 0)=some (.int .i64 (q.all:Nat)):=Xa hM.a 0;have lo:y.cell? (th q.bo 0)=some (.int .i64 (q.more:Nat)):=Xa hM.o 0;have T2:=hT.did (f:=fun s=>⟨decide (s.down≠((q.all + q.more:Nat):Int)) || s.early,s.down,wrap64 (s.waits + 1)⟩) (k:=fun _=>.ret ()) (y:=(y.setCell (th q.be 0) (.bool (decide (sh'.down≠((q.all + q.more:Nat):Int)) || sh'.early))).setCell (th q.bw 0) (.int .i64 (wrap64 (sh'.waits + 1)))) (by rw [Xh,Xh]) (fun r hr=>(Xb (show r≠q.bw from fun e'=>hM.w.2 (e' ▸ hr))).trans (Xb (show r≠q.be from fun e'=>hM.e.2 (e' ▸ hr)))) (Lq.I_set (Lq.I_set hT.I0 nbe (hM.setE _)) nbw ((hM.setE _).setW _)) Lq.keep_no;have M1:=fun b=>hM.setE b;clear hM hT ho;rw [← hA] at T2;clear hA;replace M1:=HD M1
 by_cases hdn:sh'.down=(A:Int)
 ·have hx:(sh'.down != (A:Int))=false:=by simp [hdn]
  rw [show decide (sh'.down≠(A:Int))=false from by simp [hdn]] at T2;simp only [Bool.false_or,Bool.true_or] at T2;have lw:(y.setCell (th q.be 0) (.bool sh'.early)).cell? (th q.bw 0)=some (.int .i64 sh'.waits):=Xa (M1.out sh'.early).w.1 0;have fw:(y.setCell (th q.be 0) (.bool sh'.early)).frozen? (th q.bw 0)=false:=Xe (M1.out sh'.early).w.1 0;clear M1 hdn;replace T2:=HD T2;replace lw:=HD lw;replace fw:=HD fw
  repeat refine kx ?_
  refine kst (And.intro le fe) ?_;generalize y.setCell (th q.be 0) (.bool sh'.early)=y1 at T2 lw fw ⊢;clear le fe ld la lo hx hwr;replace lw:=lw.out;replace fw:=fw.out
  repeat refine kx ?_
  refine kst (And.intro lw fw) ?_;rw [wrap_eq64];generalize y1.setCell (th q.bw 0) (.int .i64 (wrap64 (sh'.waits + 1)))=y2 at T2 ⊢;clear lw fw
  repeat refine kx ?_
  first|refine JG.fin ?_|refine JG.done (JG.fin ?_)
  exact JG.leave0 rfl rfl Try.func23 (by rfl) (T2.out.fin _)
 ·have hx:(sh'.down != (A:Int))=true:=by simp [hdn]
  rw [show decide (sh'.down≠(A:Int))=true from by simp [hdn]] at T2;simp only [Bool.false_or,Bool.true_or] at T2;have lw:(y.setCell (th q.be 0) (.bool true)).cell? (th q.bw 0)=some (.int .i64 sh'.waits):=Xa (M1.out true).w.1 0;have fw:(y.setCell (th q.be 0) (.bool true)).frozen? (th q.bw 0)=false:=Xe (M1.out true).w.1 0;clear M1 hdn;replace T2:=HD T2;replace lw:=HD lw;replace fw:=HD fw
  repeat refine kx ?_
  refine kst (And.intro le fe) ?_;generalize y.setCell (th q.be 0) (.bool true)=y1 at T2 lw fw ⊢;clear le fe ld la lo hx hwr;replace lw:=lw.out;replace fw:=fw.out
  repeat refine kx ?_
  refine kst (And.intro lw fw) ?_;rw [wrap_eq64];generalize y1.setCell (th q.bw 0) (.int .i64 (wrap64 (sh'.waits + 1)))=y2 at T2 ⊢;clear lw fw
  repeat refine kx ?_
  first|refine JG.fin ?_|refine JG.done (JG.fin ?_)
  exact JG.leave0 rfl rfl Try.func23 (by rfl) (T2.out.fin _)
end
theorem infoFL:(Try.prog.info? 39).map (fun i=>(i.zero,i.size,i.bytes))=some (some .nilFunc,1,8):=by kernel_rfl
theorem run_append_opL {P:Program} {a:Act} {o:Oper} {s x:Operand} {t:TypeId} {v v2 u:Value} {w w':World} (ho:o.op=.call { callee:=.builtin .append,args:=#[s,x],argTypes:=#[t,t] }) (hs:a.eval s=v) (hx:a.eval x=v2) (hr:(Builtin.append_ #[t,t] o.type #[v,v2]).run P w=.ok u w'):(execOp a.eval o).run P w=.ok (.value u) w':=by
 unfold execOp;simp only [ho,resolve,invoke,builtin,Sem.run_bind,Sem.run_pure,Result.andThen_ok,List.map_toArray,List.map_cons,List.map_nil,hs,hx,hr]
def fl {α:Type} (F1 F2:α):Nat→List α
 | 0=>[]
 | k + 1=>fl F1 F2 k ++ [F1,F2]
theorem fl_len {α:Type} {F1 F2:α}:∀ k,(fl F1 F2 k).length=2 * k
 | 0=>rfl
 | k + 1=>by simp only [fl,List.length_append,fl_len k,List.length_cons,List.length_nil];omega
theorem fl_map {α β:Type} {F1 F2:α} (f:α→β):∀ k,(fl F1 F2 k).map f=fl (f F1) (f F2) k
 | 0=>rfl
 | k + 1=>by simp only [fl,List.map_append,fl_map f k,List.map_cons,List.map_nil]
theorem fl_get {α:Type} {F1 F2:α}:∀ (k j:Nat),j < 2 * k→(fl F1 F2 k)[j]? = some (if j % 2=0 then F1 else F2)
 | 0,j,h=>absurd h (by omega)
 | k + 1,j,h=>by
  simp only [fl];rcases Nat.lt_or_ge j (2 * k) with h'|h'
  ·rw [List.getElem?_append_left (by rw [fl_len];exact h')];exact fl_get k j h'
  ·rw [List.getElem?_append_right (by rw [fl_len];exact h'),fl_len]
   rcases (show j=2 * k∨j=2 * k + 1 by omega) with rfl|rfl
   ·rw [Nat.sub_self,if_pos (by omega)];rfl
   ·rw [show 2 * k + 1 - 2 * k=1 by omega,if_neg (by omega)];rfl
structure LB (x0:World) (F1 F2:Value) (k:Nat) (vB:Value) (x:World):Prop where
 old:Xg x0 x
 row:x.ownsRow x0.heap.size 39 1 vB (2 * k) (fl F1 F2 k)
theorem LB.up {x0 x y:World} {F1 F2:Value} {k:Nat} {vB:Value} (h:LB x0 F1 F2 k vB x) (ho:Xg x y):LB x0 F1 F2 k vB y:=⟨h.old.trans ho,Xj h.row fun g hg=>ho.2 g (own_lt h.row hg)⟩
theorem LB.more {x0 y:World} {f1 f2:FuncId} {c1 c2:Array Value} {k:Nat} {vB:Value} (h:LB x0 (.func (.func f1) #[] c1) (.func (.func f2) #[] c2) k vB y) (hk:k < 1000) {B:Nat} (hB:y.heap[B]? = some (.cells #[.func (.func f1) #[] c1,.func (.func f2) #[] c2] 39 (0,0))) (τ:Nat→Question→Nat) (d:Nat) :
 ∃ g cap y',(Builtin.append_ #[32,32] 32 #[vB,.slice (some ⟨B,0,none⟩) 2 2]).run Try.prog (under y τ d)=.ok (.slice (some ⟨g,0,none⟩) (2 * k + 2) cap) y'∧LB x0 (.func (.func f1) #[] c1) (.func (.func f2) #[] c2) (k + 1) (.slice (some ⟨g,0,none⟩) (2 * k + 2) cap) y':=by
 obtain ⟨i0,hi0,hz0,hz1,hz2⟩:=XM infoFL;obtain ⟨g,cap,y',e1,e2,e3,e4,e5⟩:=run_append_lies (P:=Try.prog) (under y τ d) 32 32 x0.heap.size 39 i0 _ 1 8 Try.underlying32 hi0 hz0 hz1 hz2 rfl (by omega) vB _ _ h.row ⟨B,0,none⟩ 2 2 [.func (.func f1) #[] c1,.func (.func f2) #[] c2] rfl (World.news_of_block (cs:=#[.func (.func f1) #[] c1,.func (.func f2) #[] c2]) (t:=39) (fr:=(0,0)) hB) (by simp [Value.oneCell']) (by omega) (by unfold maxLen;omega) (by omega) h.old.1 _ rfl;have hlow:∀ r,r < x0.heap.size→y'.heap[r]? = y.heap[r]?:=fun r h1=>e3.block r (Nat.lt_of_lt_of_le h1 h.old.1) fun e=>by have:=XE h.row e.symm;omega
 exact ⟨g,cap,y',e1,⟨Nat.le_trans h.old.1 e3.size,fun r h1=>(hlow r h1).trans (h.old.2 r h1)⟩,e2⟩
abbrev lF1 (bm be bl bd:Nat):Value:=.func (.func 21) #[] #[P0 bm,P0 be,P0 bl,P0 bd]
abbrev lF2 (bl bd ba bo be bw:Nat):Value:=.func (.func 23) #[] #[P0 bl,P0 bd,P0 ba,P0 bo,P0 be,P0 bw]
section
variable {Post:Value→World→Prop} {C:Ctx} {cs:List Frame} {x0:World} {bm ba bo bl bd be bw:Nat}
theorem lb_loop {n:Nat} (hn:n < 100) {u0 u1 u2 u3 u4 u5 u8 B2 B8 B9 D0 D1 D2 D3 D4 D5 D6 D7 D8 D9 E0 E1 E2 E3 E4 E5 E6 E7 E8 E9 G0 G1 G2 G3 G4 G5 G6 G7 G8 G9 I4 I5 I6 I7 I8 I9 J0 J1 J2 J3 J4 J5 J6 J7 J8 J9 K0 K1 K2 K3 K4 K5 K6 K7 K8 K9 L0 L1 L2 L3 L4 L5 L6 L7 L8 L9 M0 M3 M4:Value}:∀ (q k:Nat),k + q=n→∀ (x:World) (vB:Value) (H0 H4 H5 H6 H7 H8 H9 I1 I2 I3:Value),LB x0 (lF1 bm be bl bd) (lF2 bl bd ba bo be bw) k vB x →
 (∀ (y:World) (vB:Value) (H0 H4 H5 H6 H7 H8 H9 I1 I2 I3:Value),LB x0 (lF1 bm be bl bd) (lF2 bl bd ba bo be bw) n vB y→JG Try.prog Post C (G ((base 5).at ⟨List.toArray (u0::u1::u2::u3::u4::u5::(.int .i64 n)::(P0 bm)::u8::(P0 ba)::(P0 bo)::(P0 bl)::B2::(P0 bd)::(P0 be)::(P0 bw)::vB::(.int .i64 n)::B8::B9::D0::D1::D2::D3::D4::D5::D6::D7::D8::D9::E0::E1::E2::E3::E4::E5::E6::E7::E8::E9::G0::G1::G2::G3::G4::G5::G6::G7::G8::G9::H0::H4::H5::H6::H7::H8::H9::I1::I2::I3::I4::I5::I6::I7::I8::I9::J0::J1::J2::J3::J4::J5::J6::J7::J8::J9::K0::K1::K2::K3::K4::K5::K6::K7::K8::K9::L0::L1::L2::L3::L4::L5::L6::L7::L8::L9::M0::M3::M4::[]),[]⟩ [.code (Code.nav (Try.f5.body.getD .skip) [1,1,1,1,1,1,1,1,1,1,1,1,1,1])]) cs) y) →
 JG Try.prog Post C (G ((base 5).at ⟨List.toArray (u0::u1::u2::u3::u4::u5::(.int .i64 n)::(P0 bm)::u8::(P0 ba)::(P0 bo)::(P0 bl)::B2::(P0 bd)::(P0 be)::(P0 bw)::vB::(.int .i64 k)::B8::B9::D0::D1::D2::D3::D4::D5::D6::D7::D8::D9::E0::E1::E2::E3::E4::E5::E6::E7::E8::E9::G0::G1::G2::G3::G4::G5::G6::G7::G8::G9::H0::H4::H5::H6::H7::H8::H9::I1::I2::I3::I4::I5::I6::I7::I8::I9::J0::J1::J2::J3::J4::J5::J6::J7::J8::J9::K0::K1::K2::K3::K4::K5::K6::K7::K8::K9::L0::L1::L2::L3::L4::L5::L6::L7::L8::L9::M0::M3::M4::[]),[]⟩ [.code (Code.nav (Try.f5.body.getD .skip) [1,1,1,1,1,1,1,1,1,1,1,1,1,0,1,0,0]),.inLoop (Code.nav (Try.f5.body.getD .skip) [1,1,1,1,1,1,1,1,1,1,1,1,1,0,1,0,0]),.inBlock 0,.code (Code.nav (Try.f5.body.getD .skip) [1,1,1,1,1,1,1,1,1,1,1,1,1,1])]) cs) x:=by
 intro q
 induction q with
 | zero =>
  intro k hk x vB H0 H4 H5 H6 H7 H8 H9 I1 I2 I3 hI h;obtain rfl:k=n:=by omega
  have hx:decide ((k:Int) < k)=false:=by simp
  have hxN:decide (k < k)=false:=by simp
  simp only [Try.f5,Option.getD_some,Code.nav] at h ⊢;replace h:=HD (h x vB);replace hI:=HD hI
  repeat refine kx ?_
  refine JG.exit (by rfl) ?_;exact h.out _ _ _ _ _ _ _ _ _ _ hI.out
 | succ q ih =>
  intro k hk x vB H0 H4 H5 H6 H7 H8 H9 I1 I2 I3 hI h;have hkn:k < n:=by omega
  have hx:decide ((k:Int) < n)=true:=by simp;omega
  have hxN:decide (k < n)=true:=by simp;omega
  have hw:IntKind.i64.wrap ((k:Int) + 1)=((k + 1:Nat):Int):=by rw [IntKind.wrap_i64];omega
  have IH:=HD (ih (k + 1) (by omega));have Hh:=HD h;have HI:=HD hI;clear ih h hI;replace hw:=HD hw;simp only [Try.f5,Option.getD_some,Code.nav]
  repeat refine kx ?_
  refine ko fun K E hK hE τ d=>?_;go_simp;refine hK _ _ (jt (x:=x.alloc (.cells #[lF1 bm be bl bd,lF2 bl bd ba bo be bw] 39)) ?_);simp only [Xs];clear hK hE K E τ d;have ho:=(Xg.refl x).alloc (.cells #[lF1 bm be bl bd,lF2 bl bd ba bo be bw] 39);have HI1:=HI.out.up ho;have hB:(x.alloc (.cells #[lF1 bm be bl bd,lF2 bl bd ba bo be bw] 39)).heap[x.heap.size]? = some (.cells #[lF1 bm be bl bd,lF2 bl bd ba bo be bw] 39 (0,0)):=heap_alloc_new _ _;generalize x.alloc (.cells #[lF1 bm be bl bd,lF2 bl bd ba bo be bw] 39)=x1 at HI1 hB ⊢;generalize x.heap.size=B at hB ⊢;clear ho HI;refine ko (fun K E hK hE τ d=>?_);obtain ⟨g,cap,y',r1,r2⟩:=HI1.more (by omega) hB τ d;rw [run_append_opL (s:=.tmp 55) (x:=.tmp 58) rfl rfl rfl r1,uponE_value];refine hK _ _ ?_;clear hK hE K E r1 HI1 hB;replace r2:=HD r2
  try walk_nrm
  have IH':=IH.out y' (.slice (some ⟨g,0,none⟩) (2 * k + 2) cap);simp only [Try.f5,Option.getD_some,Code.nav] at IH';replace IH':=HD IH'
  repeat refine kx ?_
  refine JG.inLoop ?_;rw [hw.out];exact IH'.out _ _ _ _ _ _ _ _ _ _ r2.out Hh.out
