/- LatchAlone makes its bodies: a closure each, with a box of its own for its number. -/
import Derived.Test.YtdgfekplfipekaaULuF
import Derived.Test.YtdgfekplfipekaaULuD
set_option linter.all false
set_option maxRecDepth 100000
set_option maxHeartbeats 16000000
namespace Go.Proofs.Ytdgfekplfipekaa
open Go.Conc Go.RowKit
open Go.ConcN (upd upd_same upd_ne)
set_option maxRecDepth 100000
def trF (tries:Int) (j:Nat):Bool:=bits .and .u8 (tries / 2 ^ min j 8) 1 == 1
section
variable {Post:Value→World→Prop} {q:Aq} {num tb rb:Nat} {cb:Frame} {F:Nat}
theorem alone_loop {j:Nat} (hj:j < q.n) (hn:q.n < 100) (hm:q.m < 1000) {tr:Bool} (htr:trF q.tries j=tr):∀ (k i:Nat),i + k=q.m→∀ (m:Nat) (C:Ctx) (x0 x:World) (col:Nat→Prop) (sh:ASh) (cells:Nat→Int) (u9 B1 B2 B3 B4 B5 B6 B7 B8 B9 D0 D1 D2 D3 D4 D5 D6 D7 D8 D9 E0 E1 E2 E3 E4 E5 E6 E7 E8 E9 G0 G1 G2 G3 G4 G5 G6 G7 G8 G9 H0 H4 H5 H6 H7 H8 H9 I1 I2 I3 I4 I5 I6 I7:Value),TSt Post q.side num tb rb cb m C x0 x col none_ sh cells (rounds F tr k) →
 JG Try.prog Post C (G ((base 10).at ⟨List.toArray (P0 tb::P0 q.bm::P0 q.bt::P0 (q.bi j)::P0 q.bk::P0 q.be::P0 q.bs::P0 q.bc::P0 q.bh::u9::.int .i64 i::B1::B2::B3::B4::B5::B6::B7::B8::B9::D0::D1::D2::D3::D4::D5::D6::D7::D8::D9::E0::E1::E2::E3::E4::E5::E6::E7::E8::E9::G0::G1::G2::G3::G4::G5::G6::G7::G8::G9::H0::H4::H5::H6::H7::H8::H9::I1::I2::I3::I4::I5::I6::I7::[]),[]⟩ [.code (Code.nav (Try.f10.body.getD .skip) [1,0,0]),.inLoop (Code.nav (Try.f10.body.getD .skip) [1,0,0]),.inBlock 0]) [cb,YX Try.prog]) x:=by
 intro k
 induction k with
 | zero =>
  intro i hik m C x0 x col sh cells u9 B1 B2 B3 B4 B5 B6 B7 B8 B9 D0 D1 D2 D3 D4 D5 D6 D7 D8 D9 E0 E1 E2 E3 E4 E5 E6 E7 E8 E9 G0 G1 G2 G3 G4 G5 G6 G7 G8 G9 H0 H4 H5 H6 H7 H8 H9 I1 I2 I3 I4 I5 I6 I7 h;have hM:q.M sh col x:=h.I0.2;have hx:decide ((i:Int) < (q.m:Nat))=false:=by simp;omega
  have hxN:decide (i < q.m)=false:=by simp;omega
  have lm:x.cell? (th q.bm 0)=some (.int .i64 (q.m:Nat)):=Xa hM.m 0;simp only [Try.f10,Option.getD_some,Code.nav];replace h:=HD h;clear hM
  repeat refine kx ?_
  refine JG.exit (by rfl) ?_
  try walk_nrm
  first|refine JG.fin ?_|refine JG.done (JG.fin ?_)
  exact JG.leave0 rfl rfl Try.func10 (by rfl) (h.out.fin _)
 | succ k ih =>
  intro i hik m C x0 x col sh cells u9 B1 B2 B3 B4 B5 B6 B7 B8 B9 D0 D1 D2 D3 D4 D5 D6 D7 D8 D9 E0 E1 E2 E3 E4 E5 E6 E7 E8 E9 G0 G1 G2 G3 G4 G5 G6 G7 G8 G9 H0 H4 H5 H6 H7 H8 H9 I1 I2 I3 I4 I5 I6 I7 h;have IH:=ih (i + 1) (by omega);clear ih;have hw:IntKind.i64.wrap ((i:Int) + 1)=((i + 1:Nat):Int):=by rw [IntKind.wrap_i64];omega
  replace hw:=HD hw;have hN:NX Post q num tb rb cb i j (rounds F tr k):=by
   unfold NX;intro m C x0 x col sh cells u9 B1 B2 B3 B4 B5 B6 B7 B8 B9 D0 D1 D2 D3 D4 D5 D6 D7 D8 D9 E0 E1 E2 E3 E4 E5 E6 E7 E8 E9 G0 G1 G2 G3 G4 G5 G6 G7 G8 G9 H0 H4 H5 H6 H7 H8 H9 I1 I2 I3 I4 I5 I6 I7 h;have HZ:=HD (fun u9 B1 B2 B3 B4 B5 B6 B7 B8 B9 D0 D1 D2 D3 D4 D5 D6 D7 D8 D9 E0 E1 E2 E3 E4 E5 E6 E7 E8 E9 G0 G1 G2 G3 G4 G5 G6 G7 G8 G9 H0 H4 H5 H6 H7 H8 H9 I1 I2 I3 I4 I5 I6 I7=>IH m C x0 x col sh cells u9 B1 B2 B3 B4 B5 B6 B7 B8 B9 D0 D1 D2 D3 D4 D5 D6 D7 D8 D9 E0 E1 E2 E3 E4 E5 E6 E7 E8 E9 G0 G1 G2 G3 G4 G5 G6 G7 G8 G9 H0 H4 H5 H6 H7 H8 H9 I1 I2 I3 I4 I5 I6 I7 h);simp only [Try.f10,Option.getD_some,Code.nav] at HZ ⊢;clear IH h
   repeat refine kx ?_
   refine JG.inLoop ?_;rw [hw.out];exact HZ.out _ _ _ _ _ _ _ _ _ _ _ _ _ _ _ _ _ _ _ _ _ _ _ _ _ _ _ _ _ _ _ _ _ _ _ _ _ _ _ _ _ _ _ _ _ _ _ _ _ _ _ _ _ _
  clear IH hw;have hM:q.M sh col x:=h.I0.2;have hx:decide ((i:Int) < (q.m:Nat))=true:=by simp;omega
  have hxN:decide (i < q.m)=true:=by simp;omega
  have lm:x.cell? (th q.bm 0)=some (.int .i64 (q.m:Nat)):=Xa hM.m 0;have lt:x.cell? (th q.bt 0)=some (.int .u8 q.tries):=Xa hM.t 0;have li:x.cell? (th (q.bi j) 0)=some (.int .i64 (j:Nat)):=Xa (hM.2 j hj).1 0;have lk:x.cell? (th q.bk 0)=some (P0 q.lb):=Xa hM.k 0;unfold trF at htr;cases tr with
  | true =>
   have h1:TSt Post q.side num tb rb cb m C x0 x col none_ sh cells (tryP.bind (gT (rounds F true k))):=h;clear h hM;replace hN:=HD hN;replace h1:=HD h1;simp only [Try.f10,Option.getD_some,Code.nav]
   repeat refine kx ?_
   refine kf (args:=#[P0 q.lb,P0 tb]) Try.func11 ?_;refine try_T Aq.lockS ?_ h1.out fun m' C' y col' sh' cells' e hT _ _=>?_
   ·exact Yq.body fun C x h=>JG.raise rfl Try.func10 h
   rw [Frame.finish_at]
   try walk_nrm
   clear h1 lm lt li lk;cases e with
   | true =>
    have HZ:=HD (fun u9 B1 B2 B3 B4 B5 B6 B7 B8 B9 D0 D1 D2 D3 D4 D5 D6 D7 D8 D9 E0 E1 E2 E3 E4 E5 E6 E7 E8 E9 G0 G1 G2 G3 G4 G5 G6 G7 G8 G9 H0 H4 H5 H6 H7 H8 H9 I1 I2 I3 I4 I5 I6 I7=>crit_J hN.out m' C' y y col' sh' cells' u9 B1 B2 B3 B4 B5 B6 B7 B8 B9 D0 D1 D2 D3 D4 D5 D6 D7 D8 D9 E0 E1 E2 E3 E4 E5 E6 E7 E8 E9 G0 G1 G2 G3 G4 G5 G6 G7 G8 G9 H0 H4 H5 H6 H7 H8 H9 I1 I2 I3 I4 I5 I6 I7 hT);simp only [Try.f10,Option.getD_some,Code.nav] at HZ;clear hT hN
    iterate 4 refine kx ?_
    exact HZ.out _ _ _ _ _ _ _ _ _ _ _ _ _ _ _ _ _ _ _ _ _ _ _ _ _ _ _ _ _ _ _ _ _ _ _ _ _ _ _ _ _ _ _ _ _ _ _ _ _ _ _ _ _ _
   | false =>
    have HZ:=HD (fun u9 B1 B2 B3 B4 B5 B6 B7 B8 B9 D0 D1 D2 D3 D4 D5 D6 D7 D8 D9 E0 E1 E2 E3 E4 E5 E6 E7 E8 E9 G0 G1 G2 G3 G4 G5 G6 G7 G8 G9 H0 H4 H5 H6 H7 H8 H9 I1 I2 I3 I4 I5 I6 I7=>hN.out.out m' C' y y col' sh' cells' u9 B1 B2 B3 B4 B5 B6 B7 B8 B9 D0 D1 D2 D3 D4 D5 D6 D7 D8 D9 E0 E1 E2 E3 E4 E5 E6 E7 E8 E9 G0 G1 G2 G3 G4 G5 G6 G7 G8 G9 H0 H4 H5 H6 H7 H8 H9 I1 I2 I3 I4 I5 I6 I7 hT);simp only [Try.f10,Option.getD_some,Code.nav] at HZ;clear hT hN
    repeat refine kx ?_
    refine JG.exit (by rfl) ?_
    try walk_nrm
    exact HZ.out _ _ _ _ _ _ _ _ _ _ _ _ _ _ _ _ _ _ _ _ _ _ _ _ _ _ _ _ _ _ _ _ _ _ _ _ _ _ _ _ _ _ _ _ _ _ _ _ _ _ _ _ _ _
  | false =>
   obtain ⟨inside,wrong,held⟩:=sh;have h1:=h.did (f:=id) (k:=fun s=>if s.wrong then crit (rounds F false k) else (lockP F).bind (gL (rounds F false k))) (y:=x) rfl (fun _ _=>rfl) h.I0 Aq.keep_no;have le:x.cell? (th q.be 0)=some (.bool wrong):=Xa hM.e.1 0;have fe:x.frozen? (th q.be 0)=false:=Xe hM.e.1 0;clear h hM;cases wrong with
   | true =>
    have HZ:=HD (fun u9 B1 B2 B3 B4 B5 B6 B7 B8 B9 D0 D1 D2 D3 D4 D5 D6 D7 D8 D9 E0 E1 E2 E3 E4 E5 E6 E7 E8 E9 G0 G1 G2 G3 G4 G5 G6 G7 G8 G9 H0 H4 H5 H6 H7 H8 H9 I1 I2 I3 I4 I5 I6 I7=>crit_J hN m C x0 x col _ cells u9 B1 B2 B3 B4 B5 B6 B7 B8 B9 D0 D1 D2 D3 D4 D5 D6 D7 D8 D9 E0 E1 E2 E3 E4 E5 E6 E7 E8 E9 G0 G1 G2 G3 G4 G5 G6 G7 G8 G9 H0 H4 H5 H6 H7 H8 H9 I1 I2 I3 I4 I5 I6 I7 h1);clear h1 hN;simp only [Try.f10,Option.getD_some,Code.nav] at HZ ⊢;replace lk:=HD lk
    repeat refine kx ?_
    refine kst (And.intro le fe) ?_;rw [setCell_self le]
    iterate 1 refine kc ?_
    exact HZ.out _ _ _ _ _ _ _ _ _ _ _ _ _ _ _ _ _ _ _ _ _ _ _ _ _ _ _ _ _ _ _ _ _ _ _ _ _ _ _ _ _ _ _ _ _ _ _ _ _ _ _ _ _ _
   | false =>
    have h2:TSt Post q.side num tb rb cb m C x0 x col none_ ⟨inside,false,held⟩ cells ((lockP F).bind (gL (rounds F false k))):=h1;clear h1;replace h2:=HD h2;replace hN:=HD hN;simp only [Try.f10,Option.getD_some,Code.nav]
    repeat refine kx ?_
    refine kf (args:=#[P0 q.lb,P0 tb]) Try.func12 ?_;refine lock_T Aq.lockS ?_ h2.out fun m' C' y col' sh' cells' e hT _ _=>?_
    ·exact Yq.body fun C x h=>JG.raise rfl Try.func10 h
    rw [Frame.finish_at]
    try walk_nrm
    clear h2 lm lt li lk le fe;have hM:q.M sh' col' y:=hT.I0.2;have fe:y.frozen? (th q.be 0)=false:=Xe hM.e.1 0;have le:y.cell? (th q.be 0)=some (.bool sh'.wrong):=Xa hM.e.1 0;have T3:=hT.did (f:=fun s=>⟨s.inside,false,s.held⟩) (k:=fun _=>crit (rounds F false k)) (y:=y.setCell (th q.be 0) (.bool false)) (by rw [Xh]) (fun r hr=>Xb (show r≠q.be from fun e'=>hM.e.2 (e' ▸ hr))) (Aq.I_set hT.I0 ne_be (hM.setE false)) Aq.keep_no;have HZ:=HD (fun u9 B1 B2 B3 B4 B5 B6 B7 B8 B9 D0 D1 D2 D3 D4 D5 D6 D7 D8 D9 E0 E1 E2 E3 E4 E5 E6 E7 E8 E9 G0 G1 G2 G3 G4 G5 G6 G7 G8 G9 H0 H4 H5 H6 H7 H8 H9 I1 I2 I3 I4 I5 I6 I7=>crit_J hN.out m' C' _ _ col' _ cells' u9 B1 B2 B3 B4 B5 B6 B7 B8 B9 D0 D1 D2 D3 D4 D5 D6 D7 D8 D9 E0 E1 E2 E3 E4 E5 E6 E7 E8 E9 G0 G1 G2 G3 G4 G5 G6 G7 G8 G9 H0 H4 H5 H6 H7 H8 H9 I1 I2 I3 I4 I5 I6 I7 T3);simp only [Try.f10,Option.getD_some,Code.nav] at HZ;clear hM hT T3 hN
    repeat refine kx ?_
    refine kst (And.intro le fe) ?_
    iterate 1 refine kc ?_
    exact HZ.out _ _ _ _ _ _ _ _ _ _ _ _ _ _ _ _ _ _ _ _ _ _ _ _ _ _ _ _ _ _ _ _ _ _ _ _ _ _ _ _ _ _ _ _ _ _ _ _ _ _ _ _ _ _
theorem alone_b {m j:Nat} (hj:j < q.n) (hn:q.n < 100) (hm:q.m < 1000):Vu Post q.side num m 10 #[P0 q.bm,P0 q.bt,P0 (q.bi j),P0 q.bk,P0 q.be,P0 q.bs,P0 q.bc,P0 q.bh] (rounds F (trF q.tries j) q.m):=by
 refine ⟨⟨_,Try.func10,by kernel_rfl,by kernel_rfl⟩,fun C x col sh cells tb rb cbf hd hL hct hcb hI R=>?_⟩;have h:TSt Post q.side num tb rb cbf m C x x col none_ sh cells (rounds F (trF q.tries j) q.m):=.begin hd hL hct hcb hI R;have HL:=HD (fun u9 B1 B2 B3 B4 B5 B6 B7 B8 B9 D0 D1 D2 D3 D4 D5 D6 D7 D8 D9 E0 E1 E2 E3 E4 E5 E6 E7 E8 E9 G0 G1 G2 G3 G4 G5 G6 G7 G8 G9 H0 H4 H5 H6 H7 H8 H9 I1 I2 I3 I4 I5 I6 I7=>alone_loop hj hn hm rfl q.m 0 (by omega) m C x x col sh cells u9 B1 B2 B3 B4 B5 B6 B7 B8 B9 D0 D1 D2 D3 D4 D5 D6 D7 D8 D9 E0 E1 E2 E3 E4 E5 E6 E7 E8 E9 G0 G1 G2 G3 G4 G5 G6 G7 G8 G9 H0 H4 H5 H6 H7 H8 H9 I1 I2 I3 I4 I5 I6 I7 h);clear h hI R;refine Xu Try.func10 (by rfl) (by rfl) ?_;simp only [Try.f10,Option.getD_some];simp only [Try.f10,Option.getD_some,Code.nav] at HL;walk_nrm
 repeat refine kx ?_
 refine JG.loop ?_;exact HL.out _ _ _ _ _ _ _ _ _ _ _ _ _ _ _ _ _ _ _ _ _ _ _ _ _ _ _ _ _ _ _ _ _ _ _ _ _ _ _ _ _ _ _ _ _ _ _ _ _ _ _ _ _ _
end
end Go.Proofs.Ytdgfekplfipekaa
namespace Go.Proofs.Ytdgfekplfipekaa
open Go.Conc Go.RowKit
set_option maxRecDepth 100000
def luV (bm bt bk be bs bc bh b:Nat):Value:=.func (.func 10) #[] #[P0 bm,P0 bt,P0 b,P0 bk,P0 be,P0 bs,P0 bc,P0 bh]
structure LuBd (x0:World) (bm bt bk be bs bc bh k:Nat) (Bs:List Nat) (vB:Value) (x:World):Prop where
 len:Bs.length=k
 size:x0.heap.size≤x.heap.size
 old:∀ r,r < x0.heap.size→x.heap[r]? = x0.heap[r]?
 box:∀ (i b:Nat),Bs[i]? = some b→x0.heap.size≤b + 1∧b < x.heap.size∧x.heap[b]? = some (.cells #[.int .i64 i] 3 (0,0))
 row:x.ownsRow x0.heap.size 39 1 vB k (Bs.map fun b=>luV bm bt bk be bs bc bh b)
theorem LuBd.old_ {x0 x y:World} {bm bt bk be bs bc bh k:Nat} {Bs:List Nat} {vB:Value} (h:LuBd x0 bm bt bk be bs bc bh k Bs vB x) (ho:Xg x y):LuBd x0 bm bt bk be bs bc bh k Bs vB y :=
 ⟨h.len,Nat.le_trans h.size ho.1,fun r h1=>(ho.2 r (Nat.lt_of_lt_of_le h1 h.size)).trans (h.old r h1),fun i b hi=>⟨(h.box i b hi).1,Nat.lt_of_lt_of_le (GE (h.box i b hi).2.2).1 ho.1,(ho.2 b (GE (h.box i b hi).2.2).1).trans (h.box i b hi).2.2⟩,Xj h.row fun g hg=>ho.2 g (own_lt h.row hg)⟩
theorem LuBd.more {x0 y:World} {bm bt bk be bs bc bh k:Nat} {Bs:List Nat} {vB:Value} (h:LuBd x0 bm bt bk be bs bc bh k Bs vB y) (hk:k < 100000) {cur B:Nat} (hb:x0.heap.size≤cur + 1) (hc:y.heap[cur]? = some (.cells #[.int .i64 k] 3 (0,0))) (hB:y.heap[B]? = some (.cells #[luV bm bt bk be bs bc bh cur] 39 (0,0))) (τ:Nat→Question→Nat) (d:Nat) :
 ∃ g cap y',(Builtin.append_ #[32,32] 32 #[vB,.slice (some ⟨B,0,none⟩) 1 1]).run Try.prog (under y τ d)=.ok (.slice (some ⟨g,0,none⟩) (k + 1) cap) y'∧y'.heap[cur]? = some (.cells #[.int .i64 k] 3 (0,0))∧LuBd x0 bm bt bk be bs bc bh (k + 1) (Bs ++ [cur]) (.slice (some ⟨g,0,none⟩) (k + 1) cap) y':=by
 obtain ⟨i0,hi0,hz0,hz1,hz2⟩:=XM infoFL;obtain ⟨g,cap,y',e1,e2,e3,e4,e5⟩:=run_append_lies (P:=Try.prog) (under y τ d) 32 32 x0.heap.size 39 i0 _ 1 8 Try.underlying32 hi0 hz0 hz1 hz2 rfl (by omega) vB _ _ h.row ⟨B,0,none⟩ 1 1 [luV bm bt bk be bs bc bh cur] rfl (World.news_of_block (cs:=#[luV bm bt bk be bs bc bh cur]) (t:=39) (fr:=(0,0)) hB) (by simp [Value.oneCell',luV]) (by omega) (by unfold maxLen;omega) (by omega) h.size _ rfl;have hlow:∀ r,r < x0.heap.size→y'.heap[r]? = y.heap[r]?:=fun r h1=>e3.block r (Nat.lt_of_lt_of_le h1 h.size) fun e=>by have:=XE h.row e.symm;omega
 have hbox:∀ (b:Nat) (u:Value),y.heap[b]? = some (.cells #[u] 3 (0,0))→y'.heap[b]? = some (.cells #[u] 3 (0,0)):=fun b u h2=>by
  refine (e3.block b (GE h2).1 fun e=>?_).trans h2;rcases h.row.2 with ⟨e0,_⟩|⟨g',cap',cur',e0,_,hg,_⟩
  ·rw [e0] at e;cases e
  ·rw [e0] at e
   obtain rfl:b=g':=by simpa [Value.ownBlock] using e
   have:=hg.symm.trans h2
   injection this with this
   injection this with _ this
   exact absurd this (by decide)
 refine ⟨g,cap,y',e1,hbox _ _ hc,⟨by simp [h.len],Nat.le_trans h.size e3.size,fun r h1=>(hlow r h1).trans (h.old r h1),fun i b hi=>?_,by rw [List.map_append];exact e2⟩⟩;rcases Nat.lt_or_ge i Bs.length with hi'|hi'
 ·rw [List.getElem?_append_left hi'] at hi
  have:=hbox _ _ (h.box i b hi).2.2
  exact ⟨(h.box i b hi).1,(GE this).1,this⟩
 ·rw [List.getElem?_append_right hi'] at hi
  have:=(LE' hi).1
  have e:i=k:=by simp at this;have:=h.len;omega
  subst e;rw [h.len,Nat.sub_self] at hi;obtain rfl:cur=b:=by simpa using hi
  exact ⟨hb,(GE (hbox _ _ hc)).1,hbox _ _ hc⟩
section
variable {Post:Value→World→Prop} {C:Ctx} {cs:List Frame} {x0:World} {bm bt bk be bs bc bh n:Nat}
theorem lu_bodies (hn:n < 100000) {u0 u1 u2 u4 u5 u8 B6 B7 B8 B9 D0 D1 D2 D3 D4 D5 D6 D7 D8 D9 E0 E1 E2 G3 G4 G5 G6 G7 G8 G9 H0 H4 H5 H6 H7 H8 H9 I1 I2 I3 I4 I5 I6 I7 I8 I9 J0 J1 J2 J3 J4 J5 J6 J7 J8 J9 K0 K1 K2:Value}:∀ (q k:Nat),k + q=n→∀ (x:World) (Bs:List Nat) (cur:Nat) (vB:Value) (E3 E4 E5 E6 E7 E8 E9 G0 G1 G2:Value),LuBd x0 bm bt bk be bs bc bh k Bs vB x→x0.heap.size≤cur + 1→x.heap[cur]? = some (.cells #[.int .i64 k] 3 (0,0)) →
 (∀ (y:World) (Bs:List Nat) (cur:Nat) (vB:Value) (E3 E4 E5 E6 E7 E8 E9 G0 G1 G2:Value),LuBd x0 bm bt bk be bs bc bh n Bs vB y→JG Try.prog Post C (G ((base 3).at ⟨List.toArray (u0::u1::u2::P0 bt::u4::u5::.int .i64 n::P0 bm::u8::P0 bk::P0 bc::P0 bs::P0 be::P0 bh::vB::P0 cur::B6::B7::B8::B9::D0::D1::D2::D3::D4::D5::D6::D7::D8::D9::E0::E1::E2::E3::E4::E5::E6::E7::E8::E9::G0::G1::G2::G3::G4::G5::G6::G7::G8::G9::H0::H4::H5::H6::H7::H8::H9::I1::I2::I3::I4::I5::I6::I7::I8::I9::J0::J1::J2::J3::J4::J5::J6::J7::J8::J9::K0::K1::K2::[]),[]⟩ [.code (Code.nav (Try.f3.body.getD .skip) [1,1,1,1,1,1,1,1,1,1,1])]) cs) y) →
 JG Try.prog Post C (G ((base 3).at ⟨List.toArray (u0::u1::u2::P0 bt::u4::u5::.int .i64 n::P0 bm::u8::P0 bk::P0 bc::P0 bs::P0 be::P0 bh::vB::P0 cur::B6::B7::B8::B9::D0::D1::D2::D3::D4::D5::D6::D7::D8::D9::E0::E1::E2::E3::E4::E5::E6::E7::E8::E9::G0::G1::G2::G3::G4::G5::G6::G7::G8::G9::H0::H4::H5::H6::H7::H8::H9::I1::I2::I3::I4::I5::I6::I7::I8::I9::J0::J1::J2::J3::J4::J5::J6::J7::J8::J9::K0::K1::K2::[]),[]⟩ [.code (Code.nav (Try.f3.body.getD .skip) [1,1,1,1,1,1,1,1,1,1,0,1,0,0]),.inLoop (Code.nav (Try.f3.body.getD .skip) [1,1,1,1,1,1,1,1,1,1,0,1,0,0]),.inBlock 0,.code (Code.nav (Try.f3.body.getD .skip) [1,1,1,1,1,1,1,1,1,1,1])]) cs) x:=by
 intro q
 induction q with
 | zero =>
  intro k hkq x Bs cur vB E3 E4 E5 E6 E7 E8 E9 G0 G1 G2 hI hcx hcur h;obtain rfl:k=n:=by omega
  have y2:x.cell? (th cur 0)=some (.int .i64 k):=Xa hcur 0;simp only [Try.f3,Option.getD_some,Code.nav] at h ⊢;replace h:=HD (h x Bs cur vB);replace hI:=HD hI;clear hcur;have hx:decide ((k:Int) < k)=false:=by simp
  have hxN:decide (k < k)=false:=by simp
  repeat refine kx ?_
  refine JG.exit (by rfl) ?_
  try walk_nrm
  exact h.out _ _ _ _ _ _ _ _ _ _ hI.out
 | succ q ih =>
  intro k hkq x Bs cur vB E3 E4 E5 E6 E7 E8 E9 G0 G1 G2 hI hcx hcur h;have hkn:k < n:=by omega
  have y2:x.cell? (th cur 0)=some (.int .i64 k):=Xa hcur 0;have IH:=HD ih;have HI:=HD hI;have HC:=HD hcur;have Hh:=HD h;clear ih hI hcur h;simp only [Try.f3,Option.getD_some,Code.nav];have hx:decide ((k:Int) < n)=true:=by simp;omega
  have hxN:decide (k < n)=true:=by simp;omega
  repeat refine kx ?_
  refine ko fun K E hK hE τ d=>?_;go_simp;refine hK _ _ (jt (x:=x.alloc (.cells #[luV bm bt bk be bs bc bh cur] 39)) ?_);simp only [Xs];clear hK hE K E τ d;have ho:=(Xg.refl x).alloc (.cells #[luV bm bt bk be bs bc bh cur] 39);have HI1:=HI.out.old_ ho;have HC1:=(ho.2 cur (GE HC.out).1).trans HC.out;have hB:(x.alloc (.cells #[luV bm bt bk be bs bc bh cur] 39)).heap[x.heap.size]? = some (.cells #[luV bm bt bk be bs bc bh cur] 39 (0,0)):=heap_alloc_new _ _;generalize x.alloc (.cells #[luV bm bt bk be bs bc bh cur] 39)=x1 at HI1 HC1 hB ⊢;generalize x.heap.size=B at hB ⊢;clear ho y2 HI HC;refine ko (fun K E hK hE τ d=>?_);obtain ⟨g,cap,y',r1,r2,r3⟩:=HI1.more (by omega) hcx HC1 hB τ d;rw [run_append_opL (s:=.tmp 38) (x:=.tmp 40) rfl rfl rfl r1,uponE_value];refine hK _ _ ?_;clear hK hE K E r1 HI1 HC1 hB;have y3:y'.cell? (th cur 0)=some (.int .i64 k):=Xa r2 0;replace r2:=HD r2;replace r3:=HD r3
  try walk_nrm
  repeat refine kx ?_
  refine ko fun K E hK hE τ d=>?_;go_simp;refine hK _ _ (jal fun w1 o1 b1 _=>?_);simp only [Xs];clear hK hE K E τ d;obtain ⟨nb,hnb⟩:∃ nb,nb=y'.heap.size:=⟨_,rfl⟩
  rw [← hnb] at b1 ⊢;replace hnb:=HD hnb;replace o1:=HD o1
  try walk_nrm
  repeat refine kx ?_
  refine kst (And.intro (Xa b1 0) (Xe b1 0)) ?_;have b2:(w1.setCell (th nb 0) (.int .i64 k)).heap[nb]? = some (.cells #[.int .i64 k] 3 (0,0)):=by rw [Xd b1];rfl
  have o2:Xg y' (w1.setCell (th nb 0) (.int .i64 k)):=⟨by rw [Xh];exact o1.out.1,fun r hr=>by rw [Xb (by have:=hnb.out;omega)];exact o1.out.2 r hr⟩
  generalize w1.setCell (th nb 0) (.int .i64 k)=w2 at b2 o2 ⊢;clear b1 o1;have y4:w2.cell? (th nb 0)=some (.int .i64 k):=Xa b2 0;have hw:IntKind.i64.wrap ((k:Int) + 1)=((k + 1:Nat):Int):=by
   rw [IntKind.wrap_i64];omega
  replace hw:=HD hw;replace o2:=HD o2
  repeat refine kx ?_
  rw [hw.out];refine kst (And.intro y4 (Xe b2 0)) ?_;have b3:(w2.setCell (th nb 0) (.int .i64 ((k:Int) + 1))).heap[nb]? = some (.cells #[.int .i64 ((k + 1:Nat):Int)] 3 (0,0)):=by rw [Xd b2];rfl
  have o3:Xg y' (w2.setCell (th nb 0) (.int .i64 ((k:Int) + 1))):=⟨by rw [Xh];exact o2.out.1,fun r hr=>by rw [Xb (by have:=hnb.out;omega)];exact o2.out.2 r hr⟩
  generalize w2.setCell (th nb 0) (.int .i64 ((k:Int) + 1))=w3 at b3 o3 ⊢;have IH':=IH.out (k + 1) (by omega) w3 (Bs ++ [cur]) nb (.slice (some ⟨g,0,none⟩) (k + 1) cap);simp only [Try.f3,Option.getD_some,Code.nav] at IH';replace IH':=HD IH';clear y4 b2 o2 y3;replace b3:=HD b3
  repeat refine kx ?_
  refine JG.inLoop ?_;exact IH'.out _ _ _ _ _ _ _ _ _ _ (r3.out.old_ o3) (by have:=r3.out.size;have:=hnb.out;omega) b3.out Hh.out
