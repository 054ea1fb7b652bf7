/- Words for ChoiceNone's walk: at, a row of cases. No condition but the sizes. -/
import Derived.Test.YtdbllffkpkkggaaChoiceG
namespace Go.Proofs.Ytdbllffkpkkggaa
open Go.RowKit Go.MuLone
set_option maxRecDepth 100000

theorem at_in (i : Int) (n : Nat) (hn : 0 < n) (hn2 : n ≤ 1000) (w : World) :
    Calls Try.prog 4 #[.int .i64 i, .int .i64 n] w fun e w' => (∃ k : Nat, k < n ∧ e = .returned (.int .i64 k)) ∧ w = w' := by
  have hz : ((n : Int) == 0) = false := by rw [beq_eq_false_iff_ne]; omega
  go_enter Try.func4, Try.ntmps4
  go_wp2_with fail
  · go_ret
    have h1 := Int.lt_tmod_of_pos i (show (0 : Int) < n by omega)
    obtain ⟨k, hk⟩ := Int.eq_ofNat_of_zero_le (show 0 ≤ i.tmod n + n by omega)
    refine ⟨⟨k, by omega, ?_⟩, rfl⟩
    have : wrap64 (i.tmod n + n) = k := by rw [hk]; unfold wrap64; omega
    rw [← this]
    rfl
  · go_ret
    obtain ⟨k, hk⟩ := Int.eq_ofNat_of_zero_le (show 0 ≤ i.tmod n by assumption)
    exact ⟨⟨k, by have := Int.tmod_lt_of_pos i (show (0 : Int) < n by omega); omega, by rw [← hk]; rfl⟩, rfl⟩

theorem infoCase : (Try.prog.info? 36).map (fun i => (i.zero, i.size, i.bytes)) = some (some (.agg #[.pointer none, .bool false, .int .i64 0]), 3, 24) := by kernel_rfl
/-- A pipe that has the bell b. -/
def BellAt (w : World) (p b : Nat) : Prop := ∃ (i : Nat) (o s : Value), Blk w p 62 #[.pointer (some ⟨i, 0, none⟩), o, .pointer (some ⟨b, 0, none⟩), s]
theorem BellAt.below {w w' : World} {p b : Nat} (h : BellAt w p b) (hb : Below w.heap.size w w') : BellAt w' p b := by
  obtain ⟨i, o, s, h⟩ := h
  exact ⟨i, o, s, h.below hb h.lt⟩
theorem BellAt.is {w : World} {p b : Nat} (h : BellAt w p b) : BellIs w (.pointer (some ⟨p, 0, none⟩)) (some ⟨b, 0, none⟩) := by
  obtain ⟨i, o, s, h⟩ := h
  exact .inr (.inr ⟨p, i, b, rfl, (h.cell 0).trans rfl, (h.cell 2).trans rfl, rfl⟩)
theorem Making.bell {w0 w : World} {p i o b : Nat} {bs : List (Nat × Nat)} {v : Value} (h : Making w0 w p i o (.pointer (some ⟨b, 0, none⟩)) bs v) : BellAt w p b := ⟨i, _, _, h.2.1⟩
/-- The cells of j cases, every pipe with the bell b. -/
def CasesIn (w : World) (b j : Nat) (xs : List Value) : Prop := ∀ t, t < j → ∃ (p : Nat) (s : Bool) (u : Int), xs[t * 3]? = some (.pointer (some ⟨p, 0, none⟩)) ∧ xs[t * 3 + 1]? = some (.bool s) ∧ xs[t * 3 + 2]? = some (.int .i64 u) ∧ BellAt w p b
/-- A row of cases in the making: w0 is the world ahead of it. -/
def Rowed (w0 w : World) (b j : Nat) (v : Value) : Prop := Below w0.heap.size w0 w ∧ ∃ xs, w.ownsRow w0.heap.size 36 3 v j xs ∧ CasesIn w b j xs
theorem BellAt.grown {w w' : World} {p b base n : Nat} {v : Value} {xs : List Value} (h : BellAt w p b) (ho : w.ownsRow base 36 3 v n xs) (hg : w.grownBy w' v.ownBlock) : BellAt w' p b := by
  obtain ⟨i, o, s, h⟩ := h
  refine ⟨i, o, s, (hg.block p h.lt fun he => ?_).trans h⟩
  rcases ho.2 with ⟨rfl, _⟩ | ⟨g', cap', cur, rfl, _, hh, _⟩
  · simp [Value.ownBlock] at he
  · have : p = g' := by simpa [Value.ownBlock] using he
    subst this
    exact (Blk.ne_ (t := 36) (g := p) (g' := p) hh h (by decide)) rfl
theorem grown_of_below {w w' : World} (h : Below w.heap.size w w') : w.grownBy w' none := ⟨h.os, h.tape, h.output, h.size, fun k hk _ => h.block k hk⟩
theorem ownsRow_below {w w' : World} {base n size : Nat} {e : TypeId} {v : Value} {xs : List Value} (h : w.ownsRow base e size v n xs) (hb : Below w.heap.size w w') : w'.ownsRow base e size v n xs :=
  h.kept (grown_of_below hb) (by cases hv : v.ownBlock <;> simp)
theorem CasesIn.map {w w' : World} {b j : Nat} {xs : List Value} (h : CasesIn w b j xs) (hm : ∀ p, BellAt w p b → BellAt w' p b) : CasesIn w' b j xs := fun t ht => by
  obtain ⟨p, s, u, h1, h2, h3, h4⟩ := h t ht
  exact ⟨p, s, u, h1, h2, h3, hm p h4⟩
theorem Rowed.below {w0 w w' : World} {b j : Nat} {v : Value} (h : Rowed w0 w b j v) (hb : Below w.heap.size w w') : Rowed w0 w' b j v := by
  obtain ⟨h1, xs, h2, h3⟩ := h
  exact ⟨h1.trans (hb.mono h1.size), xs, ownsRow_below h2 hb, h3.map fun p hp => hp.below hb⟩
/-- One case more. -/
theorem Rowed.more {w0 w w1 : World} {b j p g cap : Nat} {s : Bool} {u : Int} {v : Value} {xs : List Value} (h0 : Below w0.heap.size w0 w) (ho : w.ownsRow w0.heap.size 36 3 v j xs) (hc : CasesIn w b j xs) (hp : BellAt w p b)
    (hown : w1.ownsRow w0.heap.size 36 3 (.slice (some ⟨g, 0, none⟩) (j + 1) cap) (j + 1) (xs ++ [.pointer (some ⟨p, 0, none⟩), .bool s, .int .i64 u])) (hg : w.grownBy w1 v.ownBlock) : Rowed w0 w1 b (j + 1) (.slice (some ⟨g, 0, none⟩) (j + 1) cap) := by
  refine ⟨h0.grown hg h0.size (fun k hk => (ho.lt k hk).1), _, hown, fun t ht => ?_⟩
  have hlen := ho.1
  by_cases htj : t < j
  · obtain ⟨q, s', u', h1, h2, h3, h4⟩ := hc t htj
    exact ⟨q, s', u', by rw [List.getElem?_append_left (by omega)]; exact h1, by rw [List.getElem?_append_left (by omega)]; exact h2, by rw [List.getElem?_append_left (by omega)]; exact h3, h4.grown ho hg⟩
  · have : t = j := by omega
    subst this
    refine ⟨p, s, u, ?_, ?_, ?_, hp.grown ho hg⟩
    · rw [List.getElem?_append_right (by omega), show t * 3 - xs.length = 0 by omega]; rfl
    · rw [List.getElem?_append_right (by omega), show t * 3 + 1 - xs.length = 1 by omega]; rfl
    · rw [List.getElem?_append_right (by omega), show t * 3 + 2 - xs.length = 2 by omega]; rfl

def psOf (xs : List Value) (j : Nat) : Option Addr := match xs[j * 3]? with | some (.pointer a) => a | _ => none
/-- A row of m cases in block g, its cells cs. -/
theorem Rowed.row {w0 w : World} {b m : Nat} {v : Value} (h : Rowed w0 w b m v) (hm : 0 < m) : ∃ g cap cs xs, v = .slice (some ⟨g, 0, none⟩) m cap ∧ w0.heap.size ≤ g ∧ m ≤ cap ∧ Blk w g 36 cs ∧ cs.size = cap * 3 ∧ cs.toList.take (m * 3) = xs ∧ CasesIn w b m xs := by
  obtain ⟨h1, xs, ⟨_, ⟨_, h2⟩ | ⟨g, cap, cs, rfl, hx1, hx2, hx3, hx4, hx5, hx6⟩⟩, h3⟩ := h
  · omega
  · exact ⟨g, cap, cs, xs, rfl, hx1, hx3, hx2, hx5, hx6, h3⟩
theorem Rowed.slice {w0 w : World} {b m : Nat} {v : Value} (h : Rowed w0 w b m v) : ∃ a cap, v = .slice a m cap := by
  obtain ⟨h1, xs, ⟨_, ⟨rfl, rfl⟩ | ⟨g, cap, cs, rfl, _⟩⟩, h3⟩ := h
  · exact ⟨_, _, rfl⟩
  · exact ⟨_, _, rfl⟩
theorem blk_some {w2 : World} {m g cap f : Nat} {cs : Array Value} (hg : Blk w2 g 36 cs) (hmc : m ≤ cap) (hs : cs.size = cap * 3) (hf : f < m) : ∃ u, w2.cell? ⟨g, f * 3, none⟩ = some u := by
  rw [hg.cell]
  exact ⟨cs[f * 3]'(by omega), Array.getElem?_eq_getElem (by omega)⟩
theorem kept_store (g i : Nat) (v : Value) (w : World) : Kept (fun q => q = g) w (w.setCell ⟨g, i, none⟩ v) := ⟨rfl, rfl, rfl, by simp, fun q _ hq => cheap_set_ne w ⟨g, i, none⟩ v q (fun h => hq h.symm)⟩
theorem BellAt.store {w : World} {p b g : Nat} {cs : Array Value} (h : BellAt w p b) (hg : Blk w g 36 cs) (i : Nat) (v : Value) : BellAt (w.setCell ⟨g, i, none⟩ v) p b := by
  obtain ⟨a, o, s, h⟩ := h
  exact ⟨a, o, s, h.far (p := ⟨g, i, none⟩) (Blk.ne_ h hg (by decide)) v⟩
theorem cases_set {w w2 : World} {b m g cap f : Nat} {cs : Array Value} {xs : List Value} (a : Option Addr) (hg : Blk w2 g 36 cs) (hs : cs.size = cap * 3) (hmc : m ≤ cap) (ht : cs.toList.take (m * 3) = xs) (hc : CasesIn w b m xs) (hf : f < m) :
    CasesAt (w2.setCell ⟨g, f * 3, none⟩ (.pointer a)) g m (fun j => if j = f then a else psOf xs j) := by
  have hxs : ∀ j, j < m * 3 → cs[j]? = xs[j]? := fun j hj => by
    rw [← ht, List.getElem?_take, if_pos hj, Array.getElem?_toList]
  refine ⟨_, hg.set_ (f * 3) (.pointer a), fun j hj => ?_⟩
  obtain ⟨p, s, u, h1, h2, h3, _⟩ := hc j hj
  refine ⟨s, u, ?_, ?_, ?_⟩
  · by_cases hjf : j = f
    · subst hjf
      simp [Array.getElem?_setIfInBounds]
      omega
    · simp only [if_neg hjf]
      rw [Array.getElem?_setIfInBounds_ne (by omega), hxs _ (by omega)]
      unfold psOf
      rw [h1]
  · rw [Array.getElem?_setIfInBounds_ne (by omega), hxs _ (by omega), h2]
  · rw [Array.getElem?_setIfInBounds_ne (by omega), hxs _ (by omega), h3]

def Refuses (wz : World) (c l : Value) (k : Int) : Prop := ∀ w1, Below wz.heap.size wz w1 → Calls Try.prog 19 #[c, l] w1 (Refused w1 k)
theorem refuses_of_same {wz : World} {c l : Value} {k : Int} (h : ∀ w1, Below wz.heap.size wz w1 → Calls Try.prog 19 #[c, l] w1 fun e w' => e = .returned (.int .i64 k) ∧ w1 = w') : Refuses wz c l k := fun w1 hw => (h w1 hw).mono fun _ _ ⟨he, hw'⟩ => ⟨he, hw' ▸ Below.refl _ _⟩
theorem ChoiceAt.first {w : World} {c b tk : Nat} (h : ChoiceAt w c b tk) : w.cell? ⟨c, 0, none⟩ = some (.pointer (some ⟨b, 0, none⟩)) := (h.cell 0).trans rfl
theorem refuses_empty {wz : World} {c b tk : Nat} (h : ChoiceAt wz c b tk) (a : Option Addr) (cap : Nat) : Refuses wz (.pointer (some ⟨c, 0, none⟩)) (.slice a 0 cap) 25 :=
  refuses_of_same fun w1 hw => refused_empty c b a cap w1 (ChoiceAt.first (h.below hw h.lt))
theorem refuses_nil (wz : World) (a : Option Addr) (m cap : Nat) : Refuses wz (.pointer none) (.slice a m cap) 2 := refuses_of_same fun w1 _ => refused_nil a m cap w1
theorem refuses_bare {wz : World} {c : Nat} (h : wz.cell? ⟨c, 0, none⟩ = some (.pointer none)) (a : Option Addr) (m cap : Nat) : Refuses wz (.pointer (some ⟨c, 0, none⟩)) (.slice a m cap) 2 :=
  refuses_of_same fun w1 hw => refused_bare c a m cap w1 ((hw.cell (World.block_lt_of_cell? wz _ h)).trans h)
theorem psOf_of {xs : List Value} {j p : Nat} (h : xs[j * 3]? = some (.pointer (some ⟨p, 0, none⟩))) : psOf xs j = some ⟨p, 0, none⟩ := by unfold psOf; rw [h]
theorem refuses_none {w wz : World} {c b tk g m f : Nat} {xs : List Value} (cap : Nat) (a : Option Addr) (h : ChoiceAt wz c b tk) (hm : m ≤ 1000) (hf : f < m) (hc : CasesAt wz g m (fun j => if j = f then a else psOf xs j)) (hx : CasesIn w b m xs) (hb : ∀ p, BellAt w p b → BellAt wz p b) (ha : BellIs wz (.pointer a) none) :
    Refuses wz (.pointer (some ⟨c, 0, none⟩)) (.slice (some ⟨g, 0, none⟩) m cap) 2 := fun w1 hw => by
  refine refused_none c b g m cap f (fun j => if j = f then a else psOf xs j) (fun j => if j = f then none else some ⟨b, 0, none⟩) w1 (ChoiceAt.first (h.below hw h.lt)) (hc.below hw hc.lt) ?_ hm hf (by simp) (fun j hj => by simp [Nat.ne_of_lt hj])
  intro j hj
  by_cases hjf : j = f
  · simp only [if_pos hjf]
    exact ha.below hw ha.lt
  · simp only [if_neg hjf]
    obtain ⟨p, s, u, h1, _, _, h4⟩ := hx j hj
    rw [psOf_of h1]
    exact ((hb p h4).below hw).is
theorem refuses_other {w wz : World} {c b tk g m f q b2 : Nat} {x y : Int} {xs : List Value} (cap : Nat) (h : ChoiceAt wz c b tk) (hm : m ≤ 1000) (hf : f < m) (hc : CasesAt wz g m (fun j => if j = f then some ⟨q, 0, none⟩ else psOf xs j)) (hx : CasesIn w b m xs) (hb : ∀ p, BellAt w p b → BellAt wz p b) (ha : BellAt wz q b2)
    (hbb : IsCell wz b x) (hb2 : IsCell wz b2 y) (hne : b2 ≠ b) : Refuses wz (.pointer (some ⟨c, 0, none⟩)) (.slice (some ⟨g, 0, none⟩) m cap) 1 := fun w1 hw => by
  have hno : apartNo f m = 1 := by unfold apartNo; rw [if_pos hf]
  rw [← hno]
  refine refused_bells c b g m cap f (fun j => if j = f then some ⟨q, 0, none⟩ else psOf xs j) (fun j => if j = f then b2 else b) x w1 (ChoiceAt.first (h.below hw h.lt)) (hc.below hw hc.lt) ?_ hm (by omega) (by omega) (Blk.below hbb hw (Blk.lt hbb)) (fun j hj => by simp [Nat.ne_of_lt hj]) (fun _ => ⟨by simpa using hne, y, by rw [if_pos rfl]; exact Blk.below hb2 hw (Blk.lt hb2)⟩)
  intro j hj
  by_cases hjf : j = f
  · simp only [if_pos hjf]
    exact (ha.below hw).is
  · simp only [if_neg hjf]
    obtain ⟨p, s, u, h1, _, _, h4⟩ := hx j hj
    rw [psOf_of h1]
    exact ((hb p h4).below hw).is
end Go.Proofs.Ytdbllffkpkkggaa
