/- Joined of the texts JudgeR, JudgeS; what each proves, and its conditions, stand ahead of it. -/
import Derived.Test.YtonnlgpjobfnmaaDoorRJudgePc
/- judge.Linear's inner function: the loop over the calls. Conditions: what the boxes hold. -/
namespace Go.Proofs.YtonnlgpjobfnmaaDoor
open Go.RowKit
set_option maxRecDepth 100000

def sub : Nat → Nat
  | 0 => 0
  | r + 1 => nodes r
theorem nodes_sub (r : Nat) : nodes r = 1 + 12 * sub r := by cases r <;> simp [nodes, sub]
theorem FromAt.own {w w' : World} {base : Nat} {E : Env} {k : Int} {H : List Cal} {must n n' : Nat} {seen seen' : List (List UInt8)} {ord : List Nat} (h : FromAt w base E k H must n seen ord) (hg : w.grownBy w' (some E.M)) (hs : SeenIn w' E.M n' seen') : FromAt w' base E k H must n' seen' ord := by
  have kk : Kept (fun q => q = E.M) w w' := ⟨hg.os, hg.tape, hg.output, hg.size, fun q hq hne => hg.block q hq (by intro e; injection e with e; exact hne e)⟩
  obtain ⟨n1, n2, n3, n4, n5, n6, n7, n8, n9, n10, n11⟩ := h.ne
  obtain ⟨l1, l2, l3, l4, l5, l6, l7⟩ := h.low
  refine ⟨kk.blk h.m n6, kk.blk h.b n7, ?_, kk.blk h.k n9, kk.blk h.f n10, ?_, hs, h.tens.of fun q hq hn => kk.block q hq (h.far q hn).2.2, h.far, h.low, h.ne, Nat.le_trans h.size hg.size⟩
  · obtain ⟨a, cap, h1, h2, h3⟩ := h.h
    refine ⟨a, cap, kk.blk h1 n8, ⟨h2.wf, fun i c hc => ?_⟩, h3⟩
    obtain ⟨g, off, e, hgb, hA⟩ := h2.at_ i c hc
    refine ⟨g, off, e, hgb, ?_⟩
    have hb := kk.block g (Nat.lt_of_lt_of_le hgb h.size) (h3 g off e).2
    obtain ⟨h0, h1, h2, h3, h4, h5, h6⟩ := hA
    exact ⟨(World.cell?_of_block hb).trans h0, (World.cell?_of_block hb).trans h1, (World.cell?_of_block hb).trans h2, (World.cell?_of_block hb).trans h3, (World.cell?_of_block hb).trans h4, (World.cell?_of_block hb).trans h5, (World.cell?_of_block hb).trans h6⟩
  · obtain ⟨v, h1, h2⟩ := h.o
    exact ⟨v, kk.blk h1 n11, h2.kept hg (by
      by_cases hv : v.ownBlock = some E.M
      · have := (h2.lt _ hv).1
        omega
      · exact .inr hv)⟩
theorem Frm.own {w w' : World} {base : Nat} {E : Env} (hg : w.grownBy w' (some E.M)) : Frm base E w w' :=
  ⟨hg.os, hg.tape, hg.output, hg.size, fun q hq hne => hg.block q hq (by intro e; injection e with e; exact hne (.inr (.inl e)))⟩
theorem NumsAt.frm {w w' : World} {base : Nat} {E : Env} {b : Option Addr} {hs : List Int} {v : Value} (h : NumsAt w w.heap.size b hs) (hf : Frm base E w w') (ho : Blk w E.bo 27 #[v]) {n : Nat} {seen : List (List UInt8)} (hm : SeenIn w E.M n seen) : NumsAt w' w'.heap.size b hs := by
  refine ⟨h.wf, fun i x hx => ?_⟩
  obtain ⟨g, off, e, hg, ⟨cs, fr, ht⟩, hc⟩ := h.at_ i x hx
  have hb := hf.block g hg fun hh => by
    rcases hh with hh | hh | ⟨_, cs', fr', hc'⟩
    · subst hh
      have := ht.symm.trans ho
      injection this with this
      injection this with _ this
      exact absurd this (by decide)
    · subst hh
      obtain ⟨D, ⟨es, clock, hmb, _⟩, _⟩ := hm
      rw [ht] at hmb
      cases hmb
    · have := ht.symm.trans hc'
      injection this with this
      injection this with _ this
      exact absurd this (by decide)
  exact ⟨g, off, e, Nat.lt_of_lt_of_le hg hf.size, ⟨cs, fr, hb.trans ht⟩, (World.cell?_of_block hb).trans hc⟩
theorem CallsAt.frm {w w' : World} {base : Nat} {E : Env} {a : Option Addr} {H : List Cal} (h : CallsAt w base a H) (hf : Frm base E w w') (hz : base ≤ w.heap.size) (hs : ∀ g off, a = some ⟨g, off, none⟩ → g ≠ E.bo ∧ g ≠ E.M) : CallsAt w' base a H := by
  refine ⟨h.wf, fun i c hc => ?_⟩
  obtain ⟨g, off, e, hgb, hA⟩ := h.at_ i c hc
  refine ⟨g, off, e, hgb, ?_⟩
  have hb := hf.block g (Nat.lt_of_lt_of_le hgb hz) fun hh => by
    rcases hh with hh | hh | ⟨hh, _⟩
    · exact (hs g off e).1 hh
    · exact (hs g off e).2 hh
    · omega
  obtain ⟨h0, h1, h2, h3, h4, h5, h6⟩ := hA
  exact ⟨(World.cell?_of_block hb).trans h0, (World.cell?_of_block hb).trans h1, (World.cell?_of_block hb).trans h2, (World.cell?_of_block hb).trans h3, (World.cell?_of_block hb).trans h4, (World.cell?_of_block hb).trans h5, (World.cell?_of_block hb).trans h6⟩
theorem Below.mono_size {a b c : World} (h : Below a.heap.size a b) (k : Below b.heap.size b c) : Below a.heap.size a c :=
  ⟨k.os.trans h.os, k.tape.trans h.tape, k.output.trans h.output, Nat.le_trans h.size k.size, fun q hq => (k.block q (Nat.lt_of_lt_of_le hq h.size)).trans (h.block q hq)⟩
theorem one_below' {w : World} (o1 : Obj) : Below w.heap.size w (w.alloc o1) := (Below.refl _ w).alloc (Nat.le_refl _) o1
/-- Calls ahead of j give no order. -/
def FRel (base : Nat) (E : Env) (k : Int) (H : List Cal) (must r d n : Nat) (a : Option Addr) (hs : List Int) (seen : List (List UInt8)) (ord : List Nat) (w0 : World) (i : Value) (wr : World) : Prop :=
  ∃ j : Nat, j ≤ H.length ∧ i = .int .i64 j ∧ ∃ n' seen', FromAt wr base E k H must n' seen' ord ∧ n' ≤ n + 1 + j * sub r ∧ Frm base E w0 wr ∧ NumsAt wr wr.heap.size a hs ∧ (∀ i, i < j → linAt k H must d hs i = none) ∧ ∀ s, s ∈ seen' → s ∈ seen ∨ s = keyB (d : Nat) hs ∨ Dead k H must s
theorem FRel.more {base : Nat} {E : Env} {k : Int} {H : List Cal} {must r d n j n' : Nat} {a : Option Addr} {hs : List Int} {seen seen' : List (List UInt8)} {ord : List Nat} {w0 wr : World} {i : Int} (hi : i = (j : Int) + 1) (hj : j < H.length) (hF : FromAt wr base E k H must n' seen' ord) (hn : n' ≤ n + 1 + (j + 1) * sub r) (hf : Frm base E w0 wr) (hN : NumsAt wr wr.heap.size a hs)
    (ho : ∀ i, i < j → linAt k H must d hs i = none) (hz : linAt k H must d hs j = none) (hs' : ∀ s, s ∈ seen' → s ∈ seen ∨ s = keyB (d : Nat) hs ∨ Dead k H must s) : FRel base E k H must r d n a hs seen ord w0 (.int .i64 i) wr :=
  ⟨j + 1, hj, by rw [hi, Int.natCast_add]; rfl, n', seen', hF, hn, hf, hN, fun i hi => by
    by_cases e : i = j
    · rw [e]; exact hz
    · exact ho i (by omega), hs'⟩
theorem linAt_no {k : Int} {H : List Cal} {must d j : Nat} {hs : List Int} {c : Cal} (hc : H[j]? = some c) (h : okStep k H d hs j c = false) : linAt k H must d hs j = none := by
  unfold linAt
  rw [hc]
  simp [h]
theorem infoInt : (Tryd.prog.info? 3).map (fun i => (i.zero, i.size, i.bytes)) = some (some (.int .i64 0), 1, 8) := by kernel_rfl
theorem grown2 {w w' : World} {A B : Obj} {row : Option Nat} (h : ((w.alloc A).alloc B).grownBy w' row) {g : Nat} {t : TypeId} {cs : Array Value} (hb : Blk w g t cs) (hr : some g ≠ row) : Blk w' g t cs :=
  (h.block g (by have := hb.lt; simp; omega) hr).trans ((hb.alloc A).alloc B)
theorem step_no {k : Int} {H : List Cal} {d j : Nat} {hs : List Int} {c : Cal} (h1 : ¬ c.fin = -1) (h2 : (doesF k hs c).2 ≠ c) : okStep k H d hs j c = false := by
  simp [okStep, h1, h2]
theorem skip_le {n n' j r : Nat} (h : n' ≤ n + 1 + j * sub r) : n' ≤ n + 1 + (j + 1) * sub r := by
  rw [Nat.succ_mul]
  omega
set_option maxHeartbeats 8000000 in
theorem from_walk (base : Nat) (E : Env) (k : Int) (hk : 1 ≤ k ∧ k ≤ 4) (H : List Cal) (hH : H.length ≤ 12) (hwf : ∀ c, c ∈ H → c.wf) (must r d n : Nat) (hd : d < 4096) (hm : must < 4096) (v : Value) (hs : List Int) (hl : hs.length + r ≤ 1000) (h1 : 2 < k → hs.length = 1) (hr : 12 ≤ r + cnt d) (hn : n + nodes r ≤ 100000000000000) (seen : List (List UInt8)) (ord : List Nat) (hol : ord.length + r ≤ 1000) (w : World) (h : FromAt w base E k H must n seen ord) (hdone : d &&& must ≠ must)
    (hv : ThingAt w v hs) (hkey : ¬ keyB (d : Nat) hs ∈ seen) (hg : ∀ s, s ∈ seen → Good k H must d s)
    (ih : ∀ r', r = r' + 1 → ∀ (d' n' : Nat) (v' : Value) (hs' : List Int) (seen' : List (List UInt8)) (ord' : List Nat) (w' : World), d' < 4096 → 12 ≤ r' + cnt d' → hs'.length + r' ≤ 1000 → (2 < k → hs'.length = 1) → n' + nodes r' ≤ 100000000000000 → ord'.length + r' ≤ 1000 → FromAt w' base E k H must n' seen' ord' → ThingAt w' v' hs' → (∀ s, s ∈ seen' → Good k H must d' s) →
      Calls Tryd.prog 42 (#[.int .i64 d', v'] ++ E.args) w' (FromPost base E k H must r' n' seen' ord' (Lin k H must d' hs') w')) :
    Calls Tryd.prog 42 (#[.int .i64 d, v] ++ E.args) w (FromPost base E k H must r n seen ord (Lin k H must d hs) w) := by
  have c0 := h.m.cell 0
  have hb := and_i64 d must hd hm
  have hb2 := and_ne hdone
  obtain ⟨a, cap, rfl, hcap, hnone, hN⟩ := hv
  have HN := Lib.hid hN
  have HF := Lib.hid h
  have HI : Hid (i64of (d : Nat)) := Lib.hid ⟨by omega, by omega⟩
  have HK := Lib.hid hkey
  have HG := Lib.hid hg
  have HIH := Lib.hid ih
  have HNB := Lib.hid hn
  clear h hN hg hkey ih hn
  unfold Env.args
  go_enter Tryd.func42, Tryd.ntmps42
  go_wp2_with (first
    | (go_at_call 43; refine (key_any d HI.out a cap hs (by omega) _ HN.out HF.out.tens).mono ?_; rintro e w1 ⟨rfl, hk1⟩; have HF1 : Hid (FromAt w1 base E k H must n seen ord) := Lib.hid (HF.out.below hk1); have HB1 := Lib.hid hk1; clear hk1; have c1 := HF1.out.b.cell 0; have HKL : Hid ((keyB (d : Nat) hs).length ≤ maxLen) := Lib.hid (by have := keyB_len (d : Nat) HI.out hs HN.out.wf; unfold maxLen; omega); have hlook := HF1.out.seen.look (keyB (d : Nat) hs) HKL.out; rw [decide_eq_false HK.out] at hlook; obtain ⟨D, hD1, hD2, hD3⟩ := HF1.out.seen; have HD1 := Lib.hid hD1; have HD2 := Lib.hid hD2; have HD3 := Lib.hid hD3; clear hD1 hD2 hD3)
    | (at_mapUpdate; refine wpList_mapUpdate_own _ rfl _ _ _ 91 rfl 9 4 (Maps.string_keyed Tryd.underlying9) Tryd.underlying91 boolR E.M n D rfl HD1.out (by have := HNB.out; unfold maxLen; omega) _ _ (.string (keyB (d : Nat) hs)) rfl rfl (keyOf_str HKL.out) (.lit (.bool true)) [] rfl ?_; intro w2 hown2 hgrow2; have HF2 : Hid (FromAt w2 base E k H must (n + 1) (keyB (d : Nat) hs :: seen) ord) := Lib.hid (HF1.out.own hgrow2 (SeenIn.put HD2.out HD3.out hown2)); have HG2 := Lib.hid hgrow2; clear hown2 hgrow2; obtain ⟨a2, cap2, hh2, hcalls, hsep⟩ := HF2.out.h; have c2 := hh2.cell 0; have HC2 := Lib.hid hcalls; have HS2 := Lib.hid hsep; clear hh2 hcalls hsep))
  have hN2 : NumsAt w2 w2.heap.size a hs := by
    obtain ⟨v1, ho1, _⟩ := HF1.out.o
    exact NumsAt.frm ((HN.out.of HB1.out).mono HB1.out.size) (Frm.own (base := base) (E := E) HG2.out) ho1 HF1.out.seen
  have hsm : H.length ≤ 9223372036854775807 := by omega
  go_loopw [31] (fun i wr => FRel base E k H must r d n a hs seen ord w2 i wr) (fun i _ => H.length - (intOf i).toNat)
  case atStart => exact ⟨0, Nat.zero_le _, rfl, n + 1, _, HF2.out, by omega, Frm.refl _ _ _, hN2, by intro i hi; omega, fun s hs => by rcases List.mem_cons.1 hs with h | h; exact .inr (.inl h); exact .inl h⟩
  case round =>
    obtain ⟨j, hj, rfl, n', seen', hFr, hn', hFm, hNr, hnone', hseen'⟩ := hrel
    have HFr := Lib.hid hFr
    have HFm := Lib.hid hFm
    have HNr := Lib.hid hNr
    have HNO := Lib.hid hnone'
    have HSE := Lib.hid hseen'
    clear hFr hFm hNr hnone' hseen'
    by_cases hlt : j < H.length
    · have hx : decide (j < H.length) = true := by simpa using hlt
      obtain ⟨c, hcj⟩ : ∃ c, H[j]? = some c := ⟨H[j], List.getElem?_eq_getElem hlt⟩
      have hcw := hwf c (List.mem_of_getElem? hcj)
      obtain ⟨g, off, hga, hg, hA⟩ := (HC2.out.frm HFm.out HF2.out.size HS2.out).at_ j c hcj
      subst hga
      obtain ⟨g0, g1, g2, g3, g4, g5, g6⟩ := hA
      have HCJ := Lib.hid hcj
      have HCW := Lib.hid hcw
      clear hcj hcw
      have hbit := bit_i64 d j hd
      have HFr1 : Hid (FromAt (wr.alloc (.cells (calA c) 58)) base E k H must n' seen' ord) := Lib.hid (HFr.out.below (one_below' _))
      obtain ⟨a3, cap3, hh3, hcalls3, _⟩ := HFr.out.h
      have c3 := hh3.cell 0
      have c4 := HFr.out.k.cell 0
      have HC3 : Hid (CallsAt (wr.alloc (.cells (calA c) 58)) (wr.alloc (.cells (calA c) 58)).heap.size a3 H) := Lib.hid (((hcalls3.mono HFr.out.size).of (one_below' _)).mono (one_below' _).size)
      have hz0 : E.bh < wr.heap.size := hh3.lt
      clear hh3 hcalls3
      by_cases hbt : d.testBit j = true
      · rw [if_pos hbt] at hbit
        go_wp2_with (fail)
        refine ⟨FRel.more rfl hlt HFr1.out (skip_le hn') (HFm.out.trans (Frm.of_below (one_below' _))) ((HNr.out.of (one_below' _)).mono (one_below' _).size) HNO.out (linAt_no HCJ.out (by simp [okStep, hbt])) HSE.out, by simp [intOf]; omega⟩
      · rw [if_neg hbt] at hbit
        by_cases hlate : lateB H d c = true
        · go_wp2_with (go_at_call 44; refine (late_any a3 cap3 H d hd hH c _ HC3.out).mono ?_; rintro e w3 ⟨he, hk3⟩; rw [hlate] at he; subst he; have HK3 := Lib.hid (Below.mono_size (one_below' (w := wr) (.cells (calA c) 58)) hk3); clear hk3)
          refine ⟨FRel.more rfl hlt (HFr.out.below HK3.out) (skip_le hn') (HFm.out.trans (Frm.of_below HK3.out)) ((HNr.out.of HK3.out).mono HK3.out.size) HNO.out (linAt_no HCJ.out (by simp [okStep, hlate])) HSE.out, by simp [intOf]; omega⟩
        · go_upto_region 13 with (first
            | (go_at_call 44
               refine (late_any a3 cap3 H d hd hH c _ HC3.out).mono ?_; rintro e w3 ⟨he, hk3⟩; rw [Bool.eq_false_iff.2 hlate] at he; subst he
               have HK3 := Lib.hid (Below.mono_size (one_below' (w := wr) (.cells (calA c) 58)) hk3)
               have HF3 : Hid (FromAt w3 base E k H must n' seen' ord) := Lib.hid (HFr.out.below HK3.out)
               have HBC : Hid (Blk w3 wr.heap.size 58 (calA c)) := Lib.hid ((Blk.new wr _ _).below hk3 (by simp))
               have HN3 : Hid (NumsAt w3 w3.heap.size a hs) := Lib.hid ((HNr.out.of HK3.out).mono HK3.out.size)
               clear hk3
               have p0 : w3.cell? ⟨wr.heap.size, 0, none⟩ = some (.int .i8 c.op) := HBC.out.cell 0
               have p1 : w3.cell? ⟨wr.heap.size, 1, none⟩ = some (.int .i64 c.arg) := HBC.out.cell 1
               have p2 : w3.cell? ⟨wr.heap.size, 2, none⟩ = some (.int .i64 c.new) := HBC.out.cell 2
               have p3 : w3.cell? ⟨wr.heap.size, 3, none⟩ = some (.int .i64 c.ans) := HBC.out.cell 3
               have p4 : w3.cell? ⟨wr.heap.size, 4, none⟩ = some (.bool c.ok) := HBC.out.cell 4
               have p5 : w3.cell? ⟨wr.heap.size, 5, none⟩ = some (.int .i64 c.beg) := HBC.out.cell 5
               have p6 : w3.cell? ⟨wr.heap.size, 6, none⟩ = some (.int .i64 c.fin) := HBC.out.cell 6
               have c5 := HF3.out.k.cell 0)
            | (go_at_call 45
               refine (does_any k hk _ hs c HCW.out w3 ⟨a, cap, rfl, hcap, hnone, HN3.out⟩ (by omega) h1).mono ?_; rintro e w4 ⟨v4, he, hv4, hk4⟩; subst he
               obtain ⟨told, htold⟩ : ∃ x, x = (doesF k hs c).2 := ⟨_, rfl⟩
               rw [← htold]
               unfold calA
               have HTO := Lib.hid htold
               have HV4 := Lib.hid hv4
               have HK4 := Lib.hid hk4
               clear htold hv4 hk4
               have hlt4 : wr.heap.size < w4.heap.size := Nat.lt_of_lt_of_le HBC.out.lt HK4.out.size
               have HF4 : Hid (FromAt w4 base E k H must n' seen' ord) := Lib.hid (HF3.out.below HK4.out)
               obtain ⟨vo, ho4, hown4⟩ := HF4.out.o
               have HO4 := Lib.hid ho4
               have HW4 := Lib.hid hown4
               have c6 := HO4.out.cell 0
               have hlo : E.bo < w4.heap.size := HO4.out.lt
               clear ho4 hown4
               have r0 : w4.cell? ⟨wr.heap.size, 0, none⟩ = some (.int .i8 c.op) := (HK4.out.cell (p := ⟨wr.heap.size, 0, none⟩) HBC.out.lt).trans p0
               have r1 : w4.cell? ⟨wr.heap.size, 1, none⟩ = some (.int .i64 c.arg) := (HK4.out.cell (p := ⟨wr.heap.size, 1, none⟩) HBC.out.lt).trans p1
               have r2 : w4.cell? ⟨wr.heap.size, 2, none⟩ = some (.int .i64 c.new) := (HK4.out.cell (p := ⟨wr.heap.size, 2, none⟩) HBC.out.lt).trans p2
               have r3 : w4.cell? ⟨wr.heap.size, 3, none⟩ = some (.int .i64 c.ans) := (HK4.out.cell (p := ⟨wr.heap.size, 3, none⟩) HBC.out.lt).trans p3
               have r4 : w4.cell? ⟨wr.heap.size, 4, none⟩ = some (.bool c.ok) := (HK4.out.cell (p := ⟨wr.heap.size, 4, none⟩) HBC.out.lt).trans p4
               have r5 : w4.cell? ⟨wr.heap.size, 5, none⟩ = some (.int .i64 c.beg) := (HK4.out.cell (p := ⟨wr.heap.size, 5, none⟩) HBC.out.lt).trans p5
               have r6 : w4.cell? ⟨wr.heap.size, 6, none⟩ = some (.int .i64 c.fin) := (HK4.out.cell (p := ⟨wr.heap.size, 6, none⟩) HBC.out.lt).trans p6))
          all_goals first
            | (refine ⟨FRel.more rfl hlt (HF4.out.below (one_below' _)) (skip_le hn') (HFm.out.trans (Frm.of_below (Below.mono_size HK3.out (Below.mono_size HK4.out (one_below' _))))) ((HN3.out.of (Below.mono_size HK4.out (one_below' _))).mono (Below.mono_size HK4.out (one_below' _)).size) HNO.out (linAt_no HCJ.out (step_no ?_ ?_)) HSE.out, by simp [intOf]; omega⟩
               · assumption
               · rw [← HTO.out]
                 intro e
                 first
                   | exact absurd (congrArg Cal.op e) (by assumption)
                   | exact absurd (congrArg Cal.arg e) (by assumption)
                   | exact absurd (congrArg Cal.new e) (by assumption)
                   | exact absurd (congrArg Cal.ans e) (by assumption)
                   | exact absurd (congrArg Cal.ok e) (by assumption)
                   | exact absurd (congrArg Cal.beg e) (by assumption)
                   | exact absurd (congrArg Cal.fin e) (by assumption))
            | skip
          all_goals
            obtain ⟨i0, hi, hz0, hz1, hz2⟩ := info_parts infoInt
            go_upto_region 14 with (at_builtin; refine wpList_append_own _ rfl _ _ 27 rfl base 3 i0 (.int .i64 0) 1 8 Tryd.underlying27 hi hz0 hz1 hz2 rfl (by decide) _ _ _ rfl ((HW4.out.alloc _).alloc _) ⟨w4.heap.size + 1, 0, none⟩ 1 1 [.int .i64 (j : Nat)] rfl rfl (World.news_of_block (heap_alloc2_new _ _ _)) (by simp [Value.oneCell']) (by unfold maxLen; omega) (by omega) (by have := HF4.out.size; simp; omega) ?_; intro v5 w5 hown5 hgrow5 _; obtain ⟨g5, cap5, hv5, hb5⟩ := hown5.form (by omega); subst hv5; have HO5 : Hid (Blk w5 E.bo 27 #[vo]) := Lib.hid (grown2 hgrow5 HO4.out (by intro e; have h1 := HF4.out.low; have h2 := (HW4.out.lt _ e.symm).1; omega)); have c7 := HO5.out.cell 0; have f7 := HO5.out.frozen 0; have HW5 := Lib.hid hown5; have HG5 := Lib.hid hgrow5; clear hown5 hgrow5)
            have HF6 : Hid (FromAt (w5.setCell ⟨E.bo, 0, none⟩ (.slice (some ⟨g5, 0, none⟩) (ord.length + 1) cap5)) base E k H must n' seen' (ord ++ [j])) :=
              Lib.hid (HF4.out.push HG5.out (fun q hq => (HW4.out.lt _ hq).1) HO5.out (by have h := HW5.out; simpa using h))
            have c8 := HF6.out.f.cell 0
            have hok : okStep k H d hs j c = true := by
              have h2 : c.fin = -1 ∨ (doesF k hs c).2 = c := by
                first
                  | exact .inl (by assumption)
                  | exact .inr (by rw [← HTO.out]; exact cal_eq (by assumption) (by assumption) (by assumption) (by assumption) (by assumption) (by assumption) (by assumption))
              simp only [Bool.not_eq_true] at hbt hlate
              rcases h2 with h2 | h2 <;> simp [okStep, hbt, hlate, h2]
            have hgt := bitSet_gt (okStep_bit hok)
            have hcn := cnt_bitSet (show j < 12 by omega) (okStep_bit hok)
            have hc12 := cnt_le (bitSet d j)
            obtain ⟨r', rfl⟩ : ∃ r', r = r' + 1 := ⟨r - 1, by omega⟩
            have hdl : (doesF k hs c).1.length + r' ≤ 1000 := by have := doesF_len k hs c; omega
            have hnn : n' + nodes r' ≤ 100000000000000 := by
              have := HNB.out
              have h3 : (j + 1) * nodes r' ≤ 12 * nodes r' := Nat.mul_le_mul_right _ (by omega)
              rw [Nat.succ_mul] at h3
              simp only [nodes] at this
              simp only [sub] at hn'
              omega
            have HCH := Lib.hid (HIH.out r' rfl (bitSet d j) n' v4 (doesF k hs c).1 seen' (ord ++ [j]) (w5.setCell ⟨E.bo, 0, none⟩ (.slice (some ⟨g5, 0, none⟩) (ord.length + 1) cap5)).drew (bitSet_lt hd (by omega)) (by omega) hdl (fun hk2 => (doesF_one hk2 (h1 hk2))) hnn (by simp; omega) (HF6.out.below (Below.refl _ _).drew) (by obtain ⟨b4, cp4, e4, hc4, hn4, hN4⟩ := HV4.out; exact ⟨b4, cp4, e4, hc4, hn4, hN4.frm (Kept.drew (Frm.push (E := E) HW4.out HG5.out _)) HO4.out HF4.out.seen⟩) (good_child hgt HG.out HSE.out))
            clear hgt hcn hc12 hdl hnn
            obtain ⟨ans, hans⟩ : ∃ x, x = Lin k H must (bitSet d j) (doesF k hs c).1 := ⟨_, rfl⟩
            rw [← hans] at HCH
            have HAN := Lib.hid hans
            clear hans
            have HPU : Hid (Frm base E wr (w5.setCell ⟨E.bo, 0, none⟩ (.slice (some ⟨g5, 0, none⟩) (ord.length + 1) cap5)).drew) := Lib.hid ((Frm.of_below (Below.mono_size HK3.out HK4.out)).trans (Kept.drew (Frm.push (E := E) HW4.out HG5.out _)))
            cases ans with
            | none =>
              go_region_with (go_at_call 42; rw [from_args _ _ hd (by omega)]; refine HCH.out.mono ?_; rintro e w7 ⟨rfl, hleft⟩)
              obtain ⟨n7, seen7, ord7, hF7, hn7, hf7, ho7, hs7⟩ := hleft
              subst ho7
              obtain ⟨g7, cap7, hb7, hc7, hm7, hr7⟩ := hF7.row
              have HF7 := Lib.hid hF7
              have HN7 := Lib.hid hn7
              have Hf7 := Lib.hid hf7
              have HS7 := Lib.hid hs7
              have HB7 := Lib.hid hb7
              have HR7 := Lib.hid hr7
              clear hF7 hn7 hf7 hs7 hb7 hr7
              have d0 := HB7.out.cell 0
              have d1 := HB7.out.frozen 0
              go_wp2_with fail
              have HE7 : Hid (Frm base E wr (w7.setCell ⟨E.bo, 0, none⟩ (.slice (some ⟨g7, 0, none⟩) ord.length cap7))) := Lib.hid (HPU.out.trans (Hf7.out.trans ((Kept.refl _ w7).set (p := ⟨E.bo, 0, none⟩) (.inl rfl) _)))
              obtain ⟨vr, hor, _⟩ := HFr.out.o
              refine ⟨FRel.more rfl hlt (HF7.out.pop HB7.out HR7.out) ?_ (HFm.out.trans HE7.out) (NumsAt.frm HNr.out HE7.out hor HFr.out.seen) HNO.out (by unfold linAt; rw [HCJ.out]; simp only []; rw [if_pos hok, ← HAN.out]; rfl) (fun s hs7 => ?_), by simp [intOf]; omega⟩
              · have h7 := HN7.out
                rw [Nat.succ_mul]
                simp only [sub] at hn' ⊢
                omega
              · rcases HS7.out s hs7 with h | h
                · exact HSE.out s h
                · exact .inr (.inr h)
            | some l =>
              go_region_with (go_at_call 42; rw [from_args _ _ hd (by omega)]; refine HCH.out.mono ?_; rintro e w7 ⟨rfl, hleft⟩)
              obtain ⟨n7, seen7, ord7, hF7, hn7, hf7, ho7⟩ := hleft
              simp only [] at ho7
              have HF7 := Lib.hid hF7
              have HN7 := Lib.hid hn7
              have Hf7 := Lib.hid hf7
              have HO7 := Lib.hid ho7
              clear hF7 hn7 hf7 ho7
              go_wp2_with fail
              go_ret
              have hL : Lin k H must d hs = some (j :: l) := Lin_some hH hd hdone hlt HNO.out (by unfold linAt; rw [HCJ.out]; simp only []; rw [if_pos hok, ← HAN.out]; rfl)
              rw [hL]
              refine ⟨rfl, n7, seen7, ord7, HF7.out, ?_, (Frm.of_below HB1.out).trans ((Frm.own HG2.out).trans (HFm.out.trans (HPU.out.trans Hf7.out))), by rw [HO7.out]; simp⟩
              have h7 := HN7.out
              simp only [nodes]
              simp only [sub] at hn'
              have h3 : (j + 1) * nodes r' ≤ 12 * nodes r' := Nat.mul_le_mul_right _ (by omega)
              rw [Nat.succ_mul] at h3
              omega
    · have hx : decide (j < H.length) = false := by simpa using hlt
      go_wp2_with fail
      go_ret
      have hj' : j = H.length := by omega
      subst hj'
      have hL : Lin k H must d hs = none := Lin_none hH hd hdone HNO.out
      rw [hL]
      refine ⟨rfl, n', seen', ord, HFr.out, ?_, (Frm.of_below HB1.out).trans ((Frm.own HG2.out).trans HFm.out), rfl, fun s hs => ?_⟩
      · have := nodes_sub r
        have : H.length * sub r ≤ 12 * sub r := Nat.mul_le_mul_right _ hH
        omega
      · rcases HSE.out s hs with h | h | h
        · exact .inl h
        · exact .inr ⟨d, _, h, hL⟩
        · exact .inr h
end Go.Proofs.YtonnlgpjobfnmaaDoor
/- judge.Linear's inner function: the whole search. Conditions: what the boxes hold. -/
namespace Go.Proofs.YtonnlgpjobfnmaaDoor
open Go.RowKit
theorem from_any (base : Nat) (E : Env) (k : Int) (hk : 1 ≤ k ∧ k ≤ 4) (H : List Cal) (hH : H.length ≤ 12) (hwf : ∀ c, c ∈ H → c.wf) (must : Nat) (hm : must < 4096) : ∀ (r d n : Nat) (v : Value) (hs : List Int) (seen : List (List UInt8)) (ord : List Nat) (w : World),
    d < 4096 → 12 ≤ r + cnt d → hs.length + r ≤ 1000 → (2 < k → hs.length = 1) → n + nodes r ≤ 100000000000000 → ord.length + r ≤ 1000 → FromAt w base E k H must n seen ord → ThingAt w v hs → (∀ s, s ∈ seen → Good k H must d s) →
    Calls Tryd.prog 42 (#[.int .i64 d, v] ++ E.args) w (FromPost base E k H must r n seen ord (Lin k H must d hs) w) := by
  intro r
  induction r with
  | zero =>
    intro d n v hs seen ord w hd hr hl h1 hn hol h hv hg
    by_cases hdone : d &&& must = must
    · exact from_done base E k H must 0 d n hd hm v hs seen ord w h hdone
    · by_cases hkey : keyB (d : Nat) hs ∈ seen
      · exact from_seen base E k H must 0 d n hd hm v hs (by omega) seen ord w h hdone hv hkey hg
      · exact from_walk base E k hk H hH hwf must 0 d n hd hm v hs hl h1 hr hn seen ord hol w h hdone hv hkey hg (fun r' hr' => by omega)
  | succ r ih =>
    intro d n v hs seen ord w hd hr hl h1 hn hol h hv hg
    by_cases hdone : d &&& must = must
    · exact from_done base E k H must (r + 1) d n hd hm v hs seen ord w h hdone
    · by_cases hkey : keyB (d : Nat) hs ∈ seen
      · exact from_seen base E k H must (r + 1) d n hd hm v hs (by omega) seen ord w h hdone hv hkey hg
      · exact from_walk base E k hk H hH hwf must (r + 1) d n hd hm v hs hl h1 hr hn seen ord hol w h hdone hv hkey hg (fun r' hr' => by
          have e : r' = r := by omega
          subst e
          exact fun d' n' v' hs' seen' ord' w' a b c d e f g h i => ih d' n' v' hs' seen' ord' w' a b c d e f g h i)
end Go.Proofs.YtonnlgpjobfnmaaDoor
