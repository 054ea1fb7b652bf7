/- A pipe of two places with its blocks within a range; sent to and received from. Conditions: what the blocks hold. -/
import Derived.Test.YtdbllffkpkkggaaChoiceE
namespace Go.Proofs.Ytdbllffkpkkggaa
open Go.RowKit Go.MuLone
set_option maxRecDepth 100000

/-- All but the blocks of S is as it was. -/
structure Kept (S : Nat → Prop) (w w' : World) : Prop where
  os : w'.os = w.os
  tape : w'.tape = w.tape
  output : w'.output = w.output
  size : w.heap.size ≤ w'.heap.size
  block : ∀ q, q < w.heap.size → ¬ S q → w'.heap[q]? = w.heap[q]?
theorem Kept.refl (S : Nat → Prop) (w : World) : Kept S w w := ⟨rfl, rfl, rfl, Nat.le_refl _, fun _ _ _ => rfl⟩
theorem Kept.trans {S : Nat → Prop} {a b c : World} (h : Kept S a b) (k : Kept S b c) : Kept S a c := ⟨k.os.trans h.os, k.tape.trans h.tape, k.output.trans h.output, Nat.le_trans h.size k.size, fun q hq hs => (k.block q (Nat.lt_of_lt_of_le hq h.size) hs).trans (h.block q hq hs)⟩
theorem Kept.mono {S T : Nat → Prop} {a b : World} (h : Kept S a b) (hs : ∀ q, S q → T q) : Kept T a b := ⟨h.os, h.tape, h.output, h.size, fun q hq ht => h.block q hq fun hh => ht (hs q hh)⟩
theorem Kept.of_below {S : Nat → Prop} {a b : World} (h : Below a.heap.size a b) : Kept S a b := ⟨h.os, h.tape, h.output, h.size, fun q hq _ => h.block q hq⟩
theorem Kept.below {S : Nat → Prop} {B : Nat} {a b : World} (h : Kept S a b) (hB : B ≤ a.heap.size) (hs : ∀ q, S q → B ≤ q) : Below B a b := ⟨h.os, h.tape, h.output, h.size, fun q hq => h.block q (Nat.lt_of_lt_of_le hq hB) fun hh => absurd (hs q hh) (by omega)⟩
theorem Kept.blk {S : Nat → Prop} {a b : World} (h : Kept S a b) {g : Nat} {t : TypeId} {cs : Array Value} (hb : Blk a g t cs) (hs : ¬ S g) : Blk b g t cs := (h.block g hb.lt hs).trans hb
theorem Kept.cell {S : Nat → Prop} {a b : World} (h : Kept S a b) {g : Nat} {x : Int} (hb : IsCell a g x) (hs : ¬ S g) : IsCell b g x := h.blk hb hs
theorem Kept.set {S : Nat → Prop} {a b : World} (h : Kept S a b) {g : Nat} (hs : S g) (v : Value) : Kept S a (b.setCell ⟨g, 0, none⟩ v) :=
  ⟨h.os, h.tape, h.output, by simpa using h.size, fun q hq hq2 => (cheap_set_ne b ⟨g, 0, none⟩ v q (fun hh => hq2 ((show g = q from hh) ▸ hs))).trans (h.block q hq hq2)⟩
theorem Kept.same {S : Nat → Prop} {a b : World} (h : SameHeap a b) : Kept S a b := ⟨h.2.1, h.2.2.1, h.2.2.2, by rw [h.1]; exact Nat.le_refl _, fun q _ _ => by rw [h.1]⟩

/-- A pipe of two places, its blocks from lo to hi, its bell in block bl. -/
def PipeIn (w : World) (lo hi bl p : Nat) (ci co ct0 cs0 ct1 : Int) : Prop := ∃ i o g c t0 s0 t1 s1, PipeAt w p i o bl g c t0 s0 t1 s1 ∧ IsCell w i ci ∧ IsCell w o co ∧ IsCell w t0 ct0 ∧ IsCell w s0 cs0 ∧ IsCell w t1 ct1 ∧
  [i, o, t0, s0, t1].Nodup ∧ lo ≤ p ∧ p < hi ∧ lo ≤ g ∧ g < hi ∧ (∀ q ∈ [i, o, t0, s0, t1], lo ≤ q ∧ q < hi)
theorem PipeIn.keep {S : Nat → Prop} {w w' : World} {lo hi bl p : Nat} {ci co ct0 cs0 ct1 : Int} (h : PipeIn w lo hi bl p ci co ct0 cs0 ct1) (k : Kept S w w') (hs : ∀ q, lo ≤ q → q < hi → ¬ S q) : PipeIn w' lo hi bl p ci co ct0 cs0 ct1 := by
  obtain ⟨i, o, g, c, t0, s0, t1, s1, ⟨h1, cs, h2, h3⟩, a1, a2, a3, a4, a5, hn, hp, hp2, hg, hg2, hq⟩ := h
  have hm := fun q (hqm : q ∈ [i, o, t0, s0, t1]) => hs q (hq q hqm).1 (hq q hqm).2
  exact ⟨i, o, g, c, t0, s0, t1, s1, ⟨k.blk h1 (hs _ hp hp2), cs, k.blk h2 (hs _ hg hg2), h3⟩, k.cell a1 (hm _ (by simp)), k.cell a2 (hm _ (by simp)), k.cell a3 (hm _ (by simp)), k.cell a4 (hm _ (by simp)), k.cell a5 (hm _ (by simp)), hn, hp, hp2, hg, hg2, hq⟩
theorem PipeIn.of_making {w0 w : World} {p i o bl : Nat} {bs : List (Nat × Nat)} {v : Value} (h : Making w0 w p i o (.pointer (some ⟨bl, 0, none⟩)) bs v) (hb : bs.length = 2) : PipeIn w w0.heap.size w.heap.size bl p 0 0 0 0 1 := by
  obtain ⟨h1, h2, h3, h4, h5, h6, h7, h8, h9⟩ := h
  match bs, hb with
  | [(t0, s0), (t1, s1)], _ =>
    obtain ⟨_, ⟨_, hh⟩ | ⟨g, cap, cs, rfl, hx1, hx2, hx3, hx4, hx5⟩⟩ := h6
    · simp at hh
    · have b0 := h7 0 t0 s0 rfl
      have b1 := h7 1 t1 s1 rfl
      have hcs : ∀ j, j < 4 → cs[j]? = (placeVals [(t0, s0), (t1, s1)])[j]? := fun j hj => by
        rw [← hx5.2, List.getElem?_take, if_pos (by simpa using hj), Array.getElem?_toList]
      refine ⟨i, o, g, cap, t0, s0, t1, s1, ⟨h2, cs, hx2, (hcs 0 (by omega)).trans rfl, (hcs 1 (by omega)).trans rfl, (hcs 2 (by omega)).trans rfl, (hcs 3 (by omega)).trans rfl⟩, h4, h5, b0.1, b0.2, b1.1, ?_, h3, h2.lt, hx1, Blk.lt hx2, ?_⟩
      · exact List.Nodup.sublist (List.sublist_append_left [i, o, t0, s0, t1] [s1]) h8
      · intro q hq
        refine h9 q ?_
        simp [placeBlocks] at hq ⊢
        omega

/-- What the works touch: the bell and one pipe's blocks. -/
def Touched (lo hi bl : Nat) (q : Nat) : Prop := q = bl ∨ (lo ≤ q ∧ q < hi)
theorem pipeIn_send {w : World} {lo hi bl p : Nat} {s x : Int} (v : Int) (h : PipeIn w lo hi bl p 0 0 0 s 1) (hb : IsCell w bl x) (hlo : bl < lo) :
    Calls Try.prog 8 #[.pointer (some ⟨p, 0, none⟩), .pointer none, .int .i64 v] w fun e w' => e = .returned (.int .i8 1) ∧ PipeIn w' lo hi bl p 2 0 1 v 1 ∧ IsCell w' bl (wrap64 (x + 1)) ∧ Kept (Touched lo hi bl) w w' := by
  obtain ⟨i, o, g, c, t0, s0, t1, s1, h0, a1, a2, a3, a4, a5, hn, hp, hp2, hg, hg2, hq⟩ := h
  simp at hn hq
  refine (send_first p i o bl g c t0 s0 t1 s1 v s x w h0 a1 a3 a4 hb (by omega) (by omega) (by omega) (by omega) (by omega) (by omega)).mono ?_
  rintro e w' ⟨rfl, hs⟩
  have k : Kept (Touched lo hi bl) w (sentWorld w i bl t0 s0 v x) := by
    unfold sentWorld
    exact ((((Kept.refl _ _).set (.inr (by omega)) _).set (.inr (by omega)) _).set (.inr (by omega)) _).set (.inl rfl) _
  have e1 := IsCell.set a1 2
  have f1 : IsCell (sentWorld w i bl t0 s0 v x) i 2 := ((e1.far (by omega) _).far (by omega) _).far (by omega) _
  have f2 : IsCell (sentWorld w i bl t0 s0 v x) o 0 := (((a2.far (by omega) _).far (by omega) _).far (by omega) _).far (by omega) _
  have f3 : IsCell (sentWorld w i bl t0 s0 v x) t0 1 := (IsCell.set ((a3.far (by omega) _).far (by omega) _) 1).far (by omega) _
  have f4 : IsCell (sentWorld w i bl t0 s0 v x) s0 v := ((IsCell.set (a4.far (by omega) _) v).far (by omega) _).far (by omega) _
  have f5 : IsCell (sentWorld w i bl t0 s0 v x) t1 1 := (((a5.far (by omega) _).far (by omega) _).far (by omega) _).far (by omega) _
  have f6 : IsCell (sentWorld w i bl t0 s0 v x) bl (wrap64 (x + 1)) := IsCell.set (((hb.far (by omega) _).far (by omega) _).far (by omega) _) _
  have f0 : PipeAt (sentWorld w i bl t0 s0 v x) p i o bl g c t0 s0 t1 s1 := (((h0.set a1 _).set (IsCell.far a4 (by omega) _) _).set ((a3.far (by omega) _).far (by omega) _) _).set (((hb.far (by omega) _).far (by omega) _).far (by omega) _) _
  exact ⟨rfl, ⟨i, o, g, c, t0, s0, t1, s1, f0.same hs, hs.cell f1, hs.cell f2, hs.cell f3, hs.cell f4, hs.cell f5, by simp; omega, hp, hp2, hg, hg2, by simp; omega⟩, hs.cell f6, k.trans (Kept.same hs)⟩

def HasBell (w : World) (p b : Nat) : Prop := ∃ i, w.cell? ⟨p, 0, none⟩ = some (.pointer (some ⟨i, 0, none⟩)) ∧ w.cell? ⟨p, 2, none⟩ = some (.pointer (some ⟨b, 0, none⟩))
theorem PipeIn.bell {w : World} {lo hi bl p : Nat} {ci co ct0 cs0 ct1 : Int} (h : PipeIn w lo hi bl p ci co ct0 cs0 ct1) : HasBell w p bl := by
  obtain ⟨i, o, g, c, t0, s0, t1, s1, ⟨h1, _⟩, _⟩ := h
  exact ⟨i, (h1.cell 0).trans rfl, (h1.cell 2).trans rfl⟩
theorem PipeIn.quiet {w : World} {lo hi bl p : Nat} {ct0 cs0 : Int} (h : PipeIn w lo hi bl p 2 1 ct0 cs0 1) : Quiet w p := by
  obtain ⟨i, o, g, c, t0, s0, t1, s1, h1, a1, a2, _, _, a5, _⟩ := h
  exact ⟨i, o, bl, g, c, t0, s0, t1, s1, h1, a2, a5, a1, by obtain ⟨_, cs, hg, _⟩ := h1; exact hg.lt⟩
def pairCells (pa pb : Nat) : Array Value := #[.pointer (some ⟨pa, 0, none⟩), .bool false, .int .i64 0, .pointer (some ⟨pb, 0, none⟩), .bool false, .int .i64 0]
theorem refused_pair {w : World} {c b tk gs cap pa pb : Nat} {y : Int} (hc : ChoiceAt w c b tk) (hb : IsCell w b y) (hg : Blk w gs 36 (pairCells pa pb)) (ha : HasBell w pa b) (hpb : HasBell w pb b) :
    Calls Try.prog 19 #[.pointer (some ⟨c, 0, none⟩), .slice (some ⟨gs, 0, none⟩) 2 cap] w (Refused w 0) := by
  refine refused_bells c b gs 2 cap 2 (fun j => if j = 0 then some ⟨pa, 0, none⟩ else some ⟨pb, 0, none⟩) (fun _ => b) y w ((hc.cell 0).trans rfl) ⟨_, hg, ?_⟩ ?_ (by omega) (by omega) (by omega) hb (fun _ _ => rfl) (by omega)
  · intro j hj
    rcases (show j = 0 ∨ j = 1 by omega) with rfl | rfl
    · exact ⟨false, 0, rfl, rfl, rfl⟩
    · exact ⟨false, 0, rfl, rfl, rfl⟩
  · intro j hj
    rcases (show j = 0 ∨ j = 1 by omega) with rfl | rfl
    · obtain ⟨i, h1, h2⟩ := ha
      exact .inr (.inr ⟨pa, i, b, rfl, h1, h2, rfl⟩)
    · obtain ⟨i, h1, h2⟩ := hpb
      exact .inr (.inr ⟨pb, i, b, rfl, h1, h2, rfl⟩)
theorem select_hit (f : Nat) (x y v : Int) (hk : (x = 0 ∧ f = 0) ∨ (x = 1 ∧ f = 1)) (c b tk gs cap pa pb p lo hi : Nat) (w : World) (hc : ChoiceAt w c b tk) (ht : IsCell w tk x) (hb : IsCell w b y) (hg : Blk w gs 36 (pairCells pa pb))
    (ha : HasBell w pa b) (hpb : HasBell w pb b) (h : PipeIn w lo hi b p 2 0 1 v 1) (hpf : (f = 0 ∧ p = pa) ∨ (f = 1 ∧ p = pb)) (n1 : b ≠ tk) (n2 : c ≠ tk) (n3 : b < lo) (n4 : ¬ (lo ≤ tk ∧ tk < hi)) (n5 : gs ≠ tk) :
    Calls Try.prog 9 #[.pointer (some ⟨c, 0, none⟩), .pointer none, .slice (some ⟨gs, 0, none⟩) 2 cap] w fun e w' => e = .returned (.tuple #[.int .i64 f, .int .i64 v, .bool true, .int .i64 0]) ∧
      PipeIn w' lo hi b p 2 1 2 v 1 ∧ IsCell w' b (wrap64 (y + 1)) ∧ IsCell w' tk (wrap64 (x + 1)) ∧ Kept (fun q => q = tk ∨ Touched lo hi b q) w w' := by
  obtain ⟨i, o, g, cp, t0, s0, t1, s1, h0, a1, a2, a3, a4, a5, hn, hp, hp2, hg1, hg2, hq⟩ := h
  simp at hn hq
  have b0 : PipeAt (w.setCell ⟨tk, 0, none⟩ (.int .i64 (wrap64 (x + 1)))) p i o b g cp t0 s0 t1 s1 := h0.set ht _
  have b1 := a1.far (b := tk) (by omega) (.int .i64 (wrap64 (x + 1)))
  have b2 := a2.far (b := tk) (by omega) (.int .i64 (wrap64 (x + 1)))
  have b3 := a3.far (b := tk) (by omega) (.int .i64 (wrap64 (x + 1)))
  have b4 := a4.far (b := tk) (by omega) (.int .i64 (wrap64 (x + 1)))
  have b5 := a5.far (b := tk) (by omega) (.int .i64 (wrap64 (x + 1)))
  have b6 := hb.far (b := tk) n1 (.int .i64 (wrap64 (x + 1)))
  have b7 := ht.set (wrap64 (x + 1))
  have bg : Blk (w.setCell ⟨tk, 0, none⟩ (.int .i64 (wrap64 (x + 1)))) gs 36 (pairCells pa pb) := Blk.far hg (p := ⟨tk, 0, none⟩) n5 _
  have k0 : Kept (fun q => q = tk ∨ Touched lo hi b q) w (w.setCell ⟨tk, 0, none⟩ (.int .i64 (wrap64 (x + 1)))) := (Kept.refl _ _).set (.inl rfl) _
  generalize hW0 : w.setCell ⟨tk, 0, none⟩ (.int .i64 (wrap64 (x + 1))) = W0 at b0 b1 b2 b3 b4 b5 b6 b7 bg k0
  have hsz : W0.heap.size = w.heap.size := by rw [← hW0]; simp
  have kW : Kept (fun q => q = tk ∨ Touched lo hi b q) W0 (recvWorld W0 o b t0 y) := by
    unfold recvWorld
    exact (((Kept.refl _ _).set (.inr (.inr (by omega))) _).set (.inr (.inr (by omega))) _).set (.inr (.inl rfl)) _
  refine (select_finds c b tk _ x y f v w (recvWorld W0 o b t0 y) hc ht hb n1 n2 (refused_pair hc hb hg ha hpb) (by rw [recvWorld_size]; omega) ?_).mono ?_
  · intro w1 hw1
    rw [hW0] at hw1
    have hlt : ∀ q ∈ [i, o, t0, s0, t1], q < w.heap.size := by
      simp
      exact ⟨Blk.lt a1, Blk.lt a2, Blk.lt a3, Blk.lt a4, Blk.lt a5⟩
    simp at hlt
    have hgw := bg.below hw1 hg.lt
    have hwr : (wrap64 (x + 1) = 1 ∧ f = 0) ∨ (wrap64 (x + 1) = 2 ∧ f = 1) := by
      rcases hk with ⟨rfl, rfl⟩ | ⟨rfl, rfl⟩
      · exact .inl ⟨by decide +kernel, rfl⟩
      · exact .inr ⟨by decide +kernel, rfl⟩
    have hgl : g < w.heap.size := by obtain ⟨_, cs, hgg, _⟩ := h0; exact hgg.lt
    refine (look_hit f (wrap64 (x + 1)) hwr gs cap p i o b g cp t0 s0 t1 s1 0 v y w1 (b0.below hw1 h0.1.lt hgl) (Blk.below b2 hw1 (by omega)) (Blk.below b3 hw1 (by omega)) (Blk.below b4 hw1 (by omega)) (Blk.below b6 hw1 (Blk.lt hb)) (by omega) (by omega) (by omega) (by omega) ?_ ?_ ?_).mono ?_
    · rw [hgw.cell]
      rcases hpf with ⟨rfl, rfl⟩ | ⟨rfl, rfl⟩ <;> rfl
    · rw [hgw.cell]
      rcases hpf with ⟨rfl, rfl⟩ | ⟨rfl, rfl⟩ <;> rfl
    · rw [hgw.cell]
      rcases hpf with ⟨rfl, rfl⟩ | ⟨rfl, rfl⟩ <;> rfl
    · rintro e w' ⟨rfl, hbw⟩
      exact ⟨rfl, (below_recv hw1 b2 b3 b6 (by omega) (by omega) (by omega) (by omega) (by omega) (Blk.lt hb) y).trans (hbw.mono (by have := hw1.size; omega))⟩
  · rintro e w' ⟨rfl, hbw⟩
    have f0 : PipeAt (recvWorld W0 o b t0 y) p i o b g cp t0 s0 t1 s1 := ((b0.set b2 _).set (b3.far (by omega) _) _).set ((b6.far (by omega) _).far (by omega) _) _
    have f1 : IsCell (recvWorld W0 o b t0 y) i 2 := ((b1.far (by omega) _).far (by omega) _).far (by omega) _
    have f2 : IsCell (recvWorld W0 o b t0 y) o 1 := ((b2.set 1).far (by omega) _).far (by omega) _
    have f3 : IsCell (recvWorld W0 o b t0 y) t0 2 := (IsCell.set (b3.far (by omega) _) 2).far (by omega) _
    have f4 : IsCell (recvWorld W0 o b t0 y) s0 v := ((b4.far (by omega) _).far (by omega) _).far (by omega) _
    have f5 : IsCell (recvWorld W0 o b t0 y) t1 1 := ((b5.far (by omega) _).far (by omega) _).far (by omega) _
    have f6 : IsCell (recvWorld W0 o b t0 y) b (wrap64 (y + 1)) := IsCell.set ((b6.far (by omega) _).far (by omega) _) _
    have f7 : IsCell (recvWorld W0 o b t0 y) tk (wrap64 (x + 1)) := ((b7.far (by omega) _).far (by omega) _).far (by omega) _
    have kk : Kept (fun q => q = tk ∨ Touched lo hi b q) (recvWorld W0 o b t0 y) w' := Kept.of_below (hbw.mono (by rw [recvWorld_size]; omega))
    have hB := hbw.mono (B' := (recvWorld W0 o b t0 y).heap.size) (by rw [recvWorld_size]; omega)
    have hgl : g < (recvWorld W0 o b t0 y).heap.size := by obtain ⟨_, cs, hgg, _⟩ := f0; exact hgg.lt
    exact ⟨rfl, ⟨i, o, g, cp, t0, s0, t1, s1, f0.below hB f0.1.lt hgl, Blk.below f1 hB (Blk.lt f1), Blk.below f2 hB (Blk.lt f2), Blk.below f3 hB (Blk.lt f3), Blk.below f4 hB (Blk.lt f4), Blk.below f5 hB (Blk.lt f5), by simp; omega, hp, hp2, hg1, hg2, by simp; omega⟩,
      Blk.below f6 hB (Blk.lt f6), Blk.below f7 hB (Blk.lt f7), (k0.trans kW).trans kk⟩
theorem try_miss (x y : Int) (hx : x = 2) (c b tk gs cap pa pb : Nat) (w : World) (hc : ChoiceAt w c b tk) (ht : IsCell w tk x) (hb : IsCell w b y) (hg : Blk w gs 36 (pairCells pa pb))
    (ha : HasBell w pa b) (hpb : HasBell w pb b) (qa : ∀ w1, Below w.heap.size (w.setCell ⟨tk, 0, none⟩ (.int .i64 3)) w1 → Quiet w1 pa) (qb : ∀ w1, Below w.heap.size (w.setCell ⟨tk, 0, none⟩ (.int .i64 3)) w1 → Quiet w1 pb) (n5 : gs ≠ tk) :
    Calls Try.prog 10 #[.pointer (some ⟨c, 0, none⟩), .pointer none, .slice (some ⟨gs, 0, none⟩) 2 cap] w fun e w' => e = .returned (.tuple #[.int .i64 (-1), .int .i64 0, .bool false, .int .i64 0]) ∧ Kept (fun q => q = tk) w w' := by
  subst hx
  have hwr : wrap64 (2 + 1) = 3 := by decide +kernel
  refine (try_finds c b tk _ 2 (-1) 0 false false w (w.setCell ⟨tk, 0, none⟩ (.int .i64 3)) hc ht (refused_pair hc hb hg ha hpb) (by simp) ?_).mono ?_
  · rw [hwr]
    intro w1 hw1
    have hgw : Blk w1 gs 36 (pairCells pa pb) := (Blk.far hg (p := ⟨tk, 0, none⟩) n5 _).below hw1 hg.lt
    refine (look_miss gs cap pa pb 0 0 w1 (qa w1 hw1) (qb w1 hw1) ?_ ?_ ?_ ?_ ?_ ?_).mono ?_
    all_goals first | (rw [hgw.cell]; rfl) | skip
    rintro e w' ⟨rfl, hbw⟩
    exact ⟨rfl, hw1.trans (hbw.mono (by have := hw1.size; simp at this; omega))⟩
  · rintro e w' ⟨rfl, hbw⟩
    exact ⟨rfl, (Kept.set (S := fun q => q = tk) (Kept.refl _ _) (g := tk) rfl _).trans (Kept.of_below (hbw.mono (by simp)))⟩
end Go.Proofs.Ytdbllffkpkkggaa
