/- look, free, over cases that receive from pipes of 64 places. Conditions: what the blocks hold. -/
import Derived.Test.YtdbllffkpkkggaaFairB
namespace Go.Proofs.Ytdbllffkpkkggaa
open Go.RowKit Go.MuLone
set_option maxRecDepth 100000

theorem Kept.far {S : Nat → Prop} {a b : World} (h : Kept S a b) {p : Addr} (hg : a.heap.size ≤ p.block) (v : Value) : Kept S a (b.setCell p v) :=
  ⟨h.os, h.tape, h.output, by simpa using h.size, fun q hq hq2 => (cheap_set_ne b p v q (by omega)).trans (h.block q hq hq2)⟩
theorem Kept.alloc {S : Nat → Prop} {a b : World} (h : Kept S a b) (o : Obj) : Kept S a (b.alloc o) :=
  ⟨h.os, h.tape, h.output, Nat.le_trans h.size (by simp), fun q hq hq2 => (Below.heap_alloc b o q (Nat.lt_of_lt_of_le hq h.size)).trans (h.block q hq hq2)⟩
theorem Kept.put {S : Nat → Prop} {a b : World} (h : Kept S a b) {p : Addr} (hs : S p.block) (v : Value) : Kept S a (b.setCell p v) :=
  ⟨h.os, h.tape, h.output, by simpa using h.size, fun q hq hq2 => (cheap_set_ne b p v q (fun hh => hq2 (hh ▸ hs))).trans (h.block q hq hq2)⟩
/-- A row of m cases that receive: the q-th of the pipe p q. -/
def CaseRow (w : World) (gs m : Nat) (p : Nat → Nat) : Prop := ∃ cs, Blk w gs 36 cs ∧ ∀ q, q < m → cs[q * 3]? = some (.pointer (some ⟨p q, 0, none⟩)) ∧ cs[q * 3 + 1]? = some (.bool false) ∧ cs[q * 3 + 2]? = some (.int .i64 0)
/-- Pipes of one bell b, their cases in block gs. -/
structure Fair (w : World) (b gs m : Nat) (lo hi p s r : Nat → Nat) (val : Nat → Nat → Int) : Prop where
  bell : ∃ y, IsCell w b y
  row : CaseRow w gs m p
  pipe : ∀ q, q < m → PipeS w (lo q) (hi q) b (p q) (s q) (r q) (val q)
structure FairOK (b gs m : Nat) (lo hi : Nat → Nat) : Prop where
  hb : ∀ q, q < m → b < lo q
  hg : ∀ q, q < m → gs < lo q ∨ hi q ≤ gs
  hd : ∀ q q', q < m → q' < m → q ≠ q' → hi q ≤ lo q' ∨ hi q' ≤ lo q
def updN (f : Nat → Nat) (a z : Nat) : Nat → Nat := fun b => if b = a then z else f b
section
variable {w w' : World} {b gs m : Nat} {lo hi p s r : Nat → Nat} {val : Nat → Nat → Int}
theorem Fair.keep {S : Nat → Prop} (h : Fair w b gs m lo hi p s r val) (k : Kept S w w') (hb : ¬ S b) (hg : ¬ S gs) (hs : ∀ q, q < m → ∀ a, lo q ≤ a → a < hi q → ¬ S a) : Fair w' b gs m lo hi p s r val := by
  obtain ⟨⟨y, hy⟩, ⟨cs, h1, h2⟩, h3⟩ := h
  exact ⟨⟨y, k.cell hy hb⟩, ⟨cs, k.blk h1 hg, h2⟩, fun q hq => (h3 q hq).keep k (hs q hq)⟩
theorem Fair.below (h : Fair w b gs m lo hi p s r val) (k : Below w.heap.size w w') : Fair w' b gs m lo hi p s r val :=
  h.keep (S := fun _ => False) (Kept.of_below k) (fun h => h) (fun h => h) (fun _ _ _ _ _ h => h)
theorem Fair.blt (h : Fair w b gs m lo hi p s r val) : b < w.heap.size := by
  obtain ⟨y, hy⟩ := h.bell
  exact Blk.lt hy
theorem Fair.glt (h : Fair w b gs m lo hi p s r val) : gs < w.heap.size := by
  obtain ⟨cs, h1, _⟩ := h.row
  exact h1.lt
theorem Fair.bg (h : Fair w b gs m lo hi p s r val) : gs ≠ b := by
  obtain ⟨cs, h1, _⟩ := h.row
  obtain ⟨y, hy⟩ := h.bell
  exact Blk.ne_ h1 hy (by decide)
/-- What a receive does to the rest. -/
theorem Fair.recv (ok : FairOK b gs m lo hi) (h : Fair w b gs m lo hi p s r val) {i : Nat} (hi' : i < m) (hs : s i < 64) (hr : r i < s i) :
    Calls Try.prog 31 #[.pointer (some ⟨p i, 0, none⟩), .pointer none] w fun e w' => e = .returned (.tuple #[.int .i64 (val i (r i)), .int .i8 1]) ∧ Fair w' b gs m lo hi p s (updN r i (r i + 1)) val ∧ Kept (Touched (lo i) (hi i) b) w w' := by
  have hbg := h.bg
  obtain ⟨⟨y, hy⟩, ⟨cs, h1, h2⟩, h3⟩ := h
  refine ((h3 i hi').recv hs hr hy (ok.hb i hi')).mono ?_
  rintro e w' ⟨rfl, hp, hb', k⟩
  refine ⟨rfl, ⟨⟨_, hb'⟩, ⟨cs, k.blk h1 ?_, h2⟩, fun q hq => ?_⟩, k⟩
  · rintro (hh | hh)
    · exact hbg hh
    · have := ok.hg i hi'; omega
  · by_cases hqi : q = i
    · subst hqi
      rw [show updN r q (r q + 1) q = r q + 1 by simp [updN]]
      exact hp
    · rw [show updN r i (r i + 1) q = r q by simp [updN, hqi]]
      refine (h3 q hq).keep k fun a ha1 ha2 => ?_
      rintro (hh | hh)
      · have := ok.hb q hq; omega
      · have := ok.hd q i hq hi' hqi; omega
end

/-- What look answers: the first that is ready from K on, or none. -/
def LookPost (w : World) (b gs m : Nat) (lo hi p s r : Nat → Nat) (val : Nat → Nat → Int) (K : Nat) (i v : Int) (ok : Bool) (w' : World) : Prop :=
  (∃ j, j < m ∧ (∀ k, k < j → r ((K + k) % m) = s ((K + k) % m)) ∧ r ((K + j) % m) < s ((K + j) % m) ∧ i = ((K + j) % m : Nat) ∧ v = val ((K + j) % m) (r ((K + j) % m)) ∧ ok = true ∧
    Fair w' b gs m lo hi p s (updN r ((K + j) % m) (r ((K + j) % m) + 1)) val ∧ Kept (Touched (lo ((K + j) % m)) (hi ((K + j) % m)) b) w w') ∨
  ((∀ k, k < m → r ((K + k) % m) = s ((K + k) % m)) ∧ i = -1 ∧ v = 0 ∧ ok = false ∧ Below w.heap.size w w')
set_option maxHeartbeats 4000000 in
theorem look_any (b gs m cap K : Nat) (lo hi p s r : Nat → Nat) (val : Nat → Nat → Int) (kk : Int) (hkk : kk = K + 1) (hK : K < 1000000) (hm : 0 < m) (hm6 : m ≤ 1000) (ok : FairOK b gs m lo hi) (hs : ∀ q, q < m → s q < 64 ∧ r q ≤ s q) (w : World) (h : Fair w b gs m lo hi p s r val)
    (hh : ∀ q, q < m → hi q ≤ w.heap.size) :
    Calls Try.prog 20 #[.pointer none, .slice (some ⟨gs, 0, none⟩) m cap, .int .i64 kk] w fun e w' => ∃ (i v : Int) (ok : Bool), e = .returned (.tuple #[.agg #[.int .i64 i, .int .i64 v, .bool ok, .int .i64 0], .bool ok]) ∧ LookPost w b gs m lo hi p s r val K i v ok w' := by
  subst hkk
  have OK := Lib.hid ok
  have HS := Lib.hid hs
  have HF := Lib.hid h
  have HH := Lib.hid hh
  have hz : ((m : Int) == 0) = false := by rw [beq_eq_false_iff_ne]; omega
  have f1 : wrap64 ((K : Int) + 1 - 1) = K := by unfold wrap64; omega
  have hz1 : 0 ≤ (K : Int) % (m : Int) := Int.emod_nonneg _ (by omega)
  have hz2 : (K : Int) % (m : Int) < m := Int.emod_lt_of_pos _ (by omega)
  clear ok hs h hh
  go_enter Try.func20, Try.ntmps20
  go_wp2_with fail
  go_step3
  go_wp2_with fail
  go_step3
  go_wp2_with fail
  generalize hF : ((K : Int) % (m : Int) + (m : Int)) % (m : Int) = F
  rw [Int.add_emod_right, Int.emod_emod] at hF
  have b1 : 0 ≤ F := by omega
  have b2 : F < m := by omega
  have HFQ := Lib.hid hF
  clear hF
  go_loopw [26] (fun k wr => ∃ j : Nat, j ≤ m ∧ k = .int .i64 j ∧ Hid (∀ k, k < j → r ((K + k) % m) = s ((K + k) % m)) ∧ Hid (Below w.heap.size w wr) ∧ Hid (Blk wr w.heap.size 74 #[.int .i64 0, .int .i64 0, .bool false, .int .i64 0]) ∧
    Hid (∃ x0 x1 x2 x3, Blk wr (w.heap.size + 1) 74 #[x0, x1, x2, x3])) (fun k _ => m + 1 - (intOf k).toNat)
  case atStart => exact ⟨0, by omega, rfl, Lib.hid (fun k hk => by omega), Lib.hid ((((Below.refl _ _).alloc (Nat.le_refl _) _)).alloc (by simp) _), Lib.hid ((Blk.new w _ _).alloc _), Lib.hid ⟨_, _, _, _, Blk.new' _ _ _ _ (by simp)⟩⟩
  case round =>
    obtain ⟨j, hj, rfl, HJ, HB, HR, HX⟩ := hrel
    by_cases hjm : j < m
    · have hx : decide ((j : Int) < m) = true := by simp; omega
      have hq0 : (K + j) % m < m := Nat.mod_lt _ hm
      obtain ⟨Q, hQ⟩ : ∃ Q, (K + j) % m = Q := ⟨_, rfl⟩
      have hI : (F + (j : Int)) % (m : Int) = (Q : Int) := by rw [← hQ, ← HFQ.out]; simp
      rw [hQ] at hq0
      have HQ := Lib.hid hq0
      have HQQ := Lib.hid hQ
      obtain ⟨cs, hcs, hel⟩ := (HF.out.below HB.out).row
      obtain ⟨e0, e1, e2⟩ := hel _ hq0
      have q0 := (hcs.cell (Q * 3)).trans e0
      have q1 := (hcs.cell (Q * 3 + 1)).trans e1
      have q2 := (hcs.cell (Q * 3 + 2)).trans e2
      have hb1 : (Q : Int) < m := by omega
      obtain ⟨x0, x1, x2, x3, hX⟩ := HX.out
      have HX0 := Lib.hid hX
      have z0 := hX.cell 0
      have z1 := hX.cell 1
      have z2 := hX.cell 2
      have z3 := hX.cell 3
      have fx := fun i => hX.frozen i
      simp at z0 z1 z2 z3
      have hgn : gs ≠ w.heap.size + 1 := by have := HF.out.glt; omega
      have hp1 : 0 ≤ F + (j : Int) := by omega
      clear hcs hel e0 e1 e2 hX HX hQ
      go_wp2_with fail
      generalize hW1 : World.alloc (World.setCell _ _ _) _ = W1
      have hsz := HB.out.size
      have hX1 := HX0.out.lt
      have HB1 : Hid (Below w.heap.size w W1) := Lib.hid (by rw [← hW1]; exact ((((HB.out.setCell (by simp) _).setCell (by simp) _).setCell (by simp) _).setCell (by simp) _).alloc (by simpa using HB.out.size) _)
      have BX1 : Hid (Blk W1 (w.heap.size + 1) 74 #[.int .i64 Q, .int .i64 0, .bool true, .int .i64 0]) := Lib.hid (by rw [← hW1]; exact ((((HX0.out.set_ 0 _).set_ 1 _).set_ 2 _).set_ 3 _).alloc _)
      have BR1 : Hid (Blk W1 w.heap.size 74 #[.int .i64 0, .int .i64 0, .bool false, .int .i64 0]) := Lib.hid (by rw [← hW1]; exact ((((HR.out.far (p := ⟨w.heap.size + 1, 0, none⟩) (by simp) _).far (p := ⟨w.heap.size + 1, 1, none⟩) (by simp) _).far (p := ⟨w.heap.size + 1, 2, none⟩) (by simp) _).far (p := ⟨w.heap.size + 1, 3, none⟩) (by simp) _).alloc _)
      have BC1 : Hid (Blk W1 wr.heap.size 36 #[.pointer (some ⟨p Q, 0, none⟩), .bool false, .int .i64 0]) := Lib.hid (by rw [← hW1]; exact Blk.new' _ _ _ _ (by simp))
      have HF1 := Lib.hid (HF.out.below HB1.out)
      have HWR : Hid (w.heap.size + 1 < wr.heap.size ∧ w.heap.size ≤ W1.heap.size ∧ wr.heap.size < W1.heap.size) := Lib.hid ⟨hX1, HB1.out.size, BC1.out.lt⟩
      clear hW1 hsz hX1 q0 q1 q2 z0 z1 z2 z3 fx HX0
      by_cases hrs : r Q < s Q
      · have HRS := Lib.hid hrs
        clear hrs
        refine (Fair.recv OK.out HF1.out HQ.out (HS.out Q HQ.out).1 HRS.out).mono ?_
        rintro e w2 ⟨rfl, hF2, hK2⟩
        have HF2 := Lib.hid hF2
        have HK2 := Lib.hid hK2
        have nt : ∀ q, w.heap.size ≤ q → ¬ Touched (lo Q) (hi Q) b q := fun q hq => by
          rintro (hh | hh)
          · have := HF.out.blt; omega
          · have := HH.out Q HQ.out; omega
        have BX2 := Lib.hid (HK2.out.blk BX1.out (nt _ (by omega)))
        have BR2 := Lib.hid (HK2.out.blk BR1.out (nt _ (by omega)))
        have BC2 := Lib.hid (HK2.out.blk BC1.out (nt _ (by have := HWR.out; omega)))
        have KW : Hid (Kept (Touched (lo Q) (hi Q) b) w w2) := Lib.hid (((Kept.of_below (HB1.out.mono (Nat.le_refl _))).mono (fun _ h => False.elim h)).trans HK2.out)
        clear hF2 hK2 nt
        have x0 := BX2.out.cell 0
        have x1 := BX2.out.cell 1
        have x2 := BX2.out.cell 2
        have x3 := BX2.out.cell 3
        have r0 := BR2.out.cell 0
        have r1 := BR2.out.cell 1
        have r2 := BR2.out.cell 2
        have r3 := BR2.out.cell 3
        have c1 := BC2.out.cell 1
        have fx := fun i => BX2.out.frozen i
        have fr := fun i => BR2.out.frozen i
        simp at x0 x1 x2 x3 c1 r0 r1 r2 r3
        go_wp2_with fail
        try rw [Exit.noGoto_ret]
        refine bodyPost_ret (v := .tuple #[.agg #[.int .i64 Q, .int .i64 (val Q (r Q)), .bool true, .int .i64 0], .bool true]) (by simp [results, Try.results20, go_sem, r0, r1, r2, r3]) rfl ⟨Q, _, true, rfl, .inl ⟨j, hjm, HJ.out, ?_⟩⟩
        have hQQ := HQQ.out
        rw [hQQ]
        refine ⟨HRS.out, rfl, rfl, rfl, ?_, ?_⟩
        · refine HF2.out.keep (S := fun q => w.heap.size ≤ q) (((((Kept.refl _ _).put (by simp) _).put (by simp) _).put (by simp) _).put (by simp) _ |>.put (by simp) _) (by have := HF.out.blt; omega) (by have := HF.out.glt; omega) (fun q hq a h1 h2 => by have := HH.out q hq; omega)
        · exact (((((KW.out.far (by simp) _).far (by simp) _).far (by simp) _).far (by simp) _).far (by simp) _)
      · have HRS : Hid (r Q = s Q) := Lib.hid (by have := (HS.out Q HQ.out).2; omega)
        clear hrs
        refine ((HF1.out.pipe Q HQ.out).none (HS.out Q HQ.out).1 HRS.out).mono ?_
        rintro e w2 ⟨rfl, hS2⟩
        have HS2 := Lib.hid hS2
        clear hS2
        have BX2 := Lib.hid (HS2.out.blk BX1.out)
        have BR2 := Lib.hid (HS2.out.blk BR1.out)
        have BC2 := Lib.hid (HS2.out.blk BC1.out)
        have HB2 : Hid (Below w.heap.size w w2) := Lib.hid (HB1.out.trans (HS2.out.below.mono HWR.out.2.1))
        have x0 := BX2.out.cell 0
        have x1 := BX2.out.cell 1
        have x2 := BX2.out.cell 2
        have x3 := BX2.out.cell 3
        have c1 := BC2.out.cell 1
        have fx := fun i => BX2.out.frozen i
        simp at x0 x1 x2 x3 c1
        go_wp2_with fail
        go_roundw
        case rel =>
          refine ⟨j + 1, by omega, by go_num, Lib.hid (fun k hk => ?_), Lib.hid (HB2.out.setCell (by simp) _), Lib.hid (BR2.out.far (p := ⟨w.heap.size + 1, 1, none⟩) (by simp) _), Lib.hid ⟨_, _, _, _, BX2.out.set_ 1 _⟩⟩
          by_cases hkj : k < j
          · exact HJ.out k hkj
          · have : k = j := by omega
            subst this
            have hQQ := HQQ.out
            rw [hQQ]
            exact HRS.out
        case measure => simp [intOf]; omega
    · have hx : decide ((j : Int) < m) = false := by simp; omega
      have r0 := HR.out.cell 0
      have r1 := HR.out.cell 1
      have r2 := HR.out.cell 2
      have r3 := HR.out.cell 3
      have fr := fun i => HR.out.frozen i
      simp at r0 r1 r2 r3
      go_wp2_with fail
      try rw [Exit.noGoto_ret]
      refine bodyPost_ret (v := .tuple #[.agg #[.int .i64 (-1), .int .i64 0, .bool false, .int .i64 0], .bool false]) (by simp [results, Try.results20, go_sem, r0, r1, r2, r3]) rfl ⟨-1, 0, false, rfl, .inr ⟨fun k hk => HJ.out k (by omega), rfl, rfl, rfl, ?_⟩⟩
      exact (((HB.out.setCell (by simp) _).setCell (by simp) _).setCell (by simp) _).setCell (by simp) _
end Go.Proofs.Ytdbllffkpkkggaa
