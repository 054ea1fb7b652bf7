/- The bag over lists of races: they are added, compared, tested. Conditions: what the bag's and the lists' cells hold. -/
import Derived.Test.YtonnlgpjobfnmaaDoorRBagC
import Derived.Test.YtonnlgpjobfnmaaDoorRBagO
namespace Go.Proofs.YtonnlgpjobfnmaaDoor
open Go.RowKit
set_option maxRecDepth 100000
theorem flatR_at {l : List (Nat × Nat)} {i : Nat} {p : Nat × Nat} (h : l[i]? = some p) : (flatR l)[i * 2]? = some (.int .i64 (p.1 : Nat)) ∧ (flatR l)[i * 2 + 1]? = some (.int .i64 (p.2 : Nat)) := by
  induction l generalizing i with
  | nil => simp at h
  | cons q l ih =>
    have e : flatR (q :: l) = .int .i64 (q.1 : Nat) :: .int .i64 (q.2 : Nat) :: flatR l := rfl
    rw [e]
    rcases i with _ | i
    · obtain rfl : q = p := by simpa using h
      exact ⟨rfl, rfl⟩
    · have h' : l[i]? = some p := by simpa using h
      obtain ⟨h1, h2⟩ := ih h'
      rw [show (i + 1) * 2 = i * 2 + 1 + 1 by omega]
      exact ⟨by simpa using h1, by simpa using h2⟩
/-- A slice reads as a list of races. -/
def RacesAt (w : World) (a : Option Addr) (l : List (Nat × Nat)) : Prop :=
  ∀ (i : Nat) p, l[i]? = some p → ∃ g, a = some ⟨g, 0, none⟩ ∧ w.cell? ⟨g, i * 2, none⟩ = some (.int .i64 (p.1 : Nat)) ∧ w.cell? ⟨g, i * 2 + 1, none⟩ = some (.int .i64 (p.2 : Nat))
theorem own_races {w : World} {base n cap : Nat} {a : Option Addr} {l : List (Nat × Nat)} (h : w.ownsRow base 87 2 (.slice a n cap) n (flatR l)) (hn : l.length = n) : RacesAt w a l := fun i p hp => by
  have hi : i < n := by have := (List.getElem?_eq_some_iff.1 hp).1; omega
  obtain ⟨g, _, e, _, _⟩ := h.form (by omega)
  injection e with e _ _
  subst e
  obtain ⟨h1, h2⟩ := flatR_at hp
  exact ⟨g, rfl, (h.cellAt (i * 2) (by omega)).trans h1, (h.cellAt (i * 2 + 1) (by omega)).trans h2⟩
theorem RacesAt.of {w w' : World} {a : Option Addr} {l : List (Nat × Nat)} (h : RacesAt w a l) (hb : Below w.heap.size w w') : RacesAt w' a l := fun i p hp => by
  obtain ⟨g, e, c1, c2⟩ := h i p hp
  exact ⟨g, e, (hb.cell (p := ⟨g, i * 2, none⟩) (World.block_lt_of_cell? w _ c1)).trans c1, (hb.cell (p := ⟨g, i * 2 + 1, none⟩) (World.block_lt_of_cell? w _ c2)).trans c2⟩
set_option maxHeartbeats 4000000 in
theorem eqRaces_same (a b : Option Addr) (ca cb n : Nat) (X : List (Nat × Nat)) (hn : X.length = n) (hl : n ≤ 9223372036854775807) (w : World) (ha : RacesAt w a X) (hb : RacesAt w b X) :
    Calls Tryd.prog 38 #[.slice a n ca, .slice b n cb] w (EqPost w) := by
  have HA := Lib.hid ha
  have HB := Lib.hid hb
  clear ha hb
  go_enter Tryd.func38, Tryd.ntmps38
  go_wp2_with fail
  go_loopw [5] (fun i wr => EqRel n w i wr) (fun i _ => n - (intOf i).toNat)
  case atStart => exact ⟨0, 0, Nat.zero_le _, rfl, rfl⟩
  case round =>
    obtain ⟨j, nd, hj, rfl, rfl⟩ := hrel
    by_cases hlt : j < n
    · have hx : decide (j < n) = true := by simpa using hlt
      have hxi : decide ((j : Int) < (n : Int)) = true := by simp; omega
      obtain ⟨x, hx0⟩ : ∃ x, X[j]? = some x := ⟨X[j], List.getElem?_eq_getElem (by omega)⟩
      obtain ⟨g, rfl, p0, p1⟩ := HA.out j x hx0
      obtain ⟨g2, rfl, q0, q1⟩ := HB.out j x hx0
      clear hx0
      go_upto_region 6 with (fail)
      go_quiet (fail)
      go_wp2_with fail
      exact ⟨⟨j + 1, _, hlt, by rw [Int.natCast_add]; rfl, rfl⟩, by simp [intOf]; omega⟩
    · have hx : decide (j < n) = false := by simpa using hlt
      have hxi : decide ((j : Int) < (n : Int)) = false := by simp; omega
      go_wp2_with fail
      go_ret
      exact ⟨rfl, _, rfl⟩
/-- The bag holds lists of races alone. -/
structure BagR (w : World) (bg b2 : Nat) (cs : Array Value) (v8 : Value) (xs8 : List Value) : Prop where
  blk : Blk w bg 50 cs
  size : cs.size = 14
  c8 : cs[8]? = some v8
  r8 : w.ownsRow b2 79 1 v8 xs8.length xs8
  low : bg < b2 ∧ b2 ≤ w.heap.size
  rest : ∀ k, k < 14 → k ≠ 8 → cs[k]? = some (.slice none 0 0)
def AddRPost (bg b2 : Nat) (xs : List Value) (w : World) (e : Ending) (w' : World) : Prop := e = .returned (.tuple #[]) ∧ Below bg w w' ∧ ∃ cs v8, BagR w' bg b2 cs v8 xs
set_option maxHeartbeats 1600000 in
theorem addRaces_any (bg b2 : Nat) (cs : Array Value) (v0 : Value) (xs : List Value) (a : Option Addr) (len cap : Nat) (w : World) (h : BagR w bg b2 cs v0 xs) (hn : xs.length < 400) :
    Calls Tryd.prog 39 #[.pointer (some ⟨bg, 0, none⟩), .slice a len cap] w (AddRPost bg b2 (xs ++ [Value.slice a len cap]) w) := by
  obtain ⟨js, hjs, hjsz, hjss, hjsb⟩ := info_parts infoRs
  obtain ⟨a0, c0, rfl⟩ := row_shp h.r8
  have c1 : w.cell? ⟨bg, 8, none⟩ = some (.slice a0 xs.length c0) := by rw [h.blk.cell]; exact h.c8
  have f1 := h.blk.frozen 8
  have hx : decide (xs.length < 400) = true := by simpa using hn
  have hxi : decide ((xs.length : Int) < 400) = true := by simp; omega
  have H := Lib.hid h
  have HR := Lib.hid (h.r8.alloc (.cells #[.slice a len cap] 79))
  have hbl := h.blk.lt
  have hlo := h.low.2
  clear h
  go_enter Tryd.func39, Tryd.ntmps39
  go_wp2_with (at_builtin; refine wpList_append_keep rfl _ _ 43 rfl b2 79 js _ 1 24 Tryd.underlying43 hjs hjsz hjss hjsb rfl (by decide) _ xs.length xs rfl HR.out ⟨w.heap.size, 0, none⟩ 1 1 [.slice a len cap] rfl rfl (World.news_of_block (heap_alloc_new _ _)) (by simp [Value.oneCell']) (by unfold maxLen; omega) (by omega) (by simp; omega) ?_; intro v9 w9 r1 r2 r3 r4 r5; obtain ⟨g9, cap9, rfl, _, _⟩ := r1.form (by omega); have S1 := Lib.hid r1; have S2 := Lib.hid r2; have hB9 : Blk w9 bg 50 cs := ((r2.block bg (by simp; omega) fun e => by obtain ⟨_, cs', hB'⟩ := row_ty H.out.r8 bg e.symm; exact Blk.ne_ H.out.blk hB' (by decide) rfl).trans (Below.heap_alloc w _ bg hbl)).trans H.out.blk; have HB9 := Lib.hid hB9; have c9 : w9.cell? ⟨bg, 8, none⟩ = some (.slice a0 xs.length c0) := (by rw [hB9.cell]; exact H.out.c8); have f9 := hB9.frozen 8; clear r1 r2 r3 r4 r5 hB9)
  have hk9 : Kept (fun q => (Value.slice a0 xs.length c0).ownBlock = some q) w w9 := ((Kept.refl _ w).alloc _).trans ⟨S2.out.os, S2.out.tape, S2.out.output, S2.out.size, fun q hq hs => S2.out.block q hq fun e => hs e.symm⟩
  have hk10 : Kept (fun q => q = bg ∨ (Value.slice a0 xs.length c0).ownBlock = some q) w (w9.setCell ⟨bg, 8, none⟩ (.slice (some ⟨g9, 0, none⟩) (xs.length + 1) cap9)) := (hk9.mono fun q hq => .inr hq).set (p := ⟨bg, 8, none⟩) (.inl rfl) _
  refine bodyPost_end (results_none rfl _ _ _) rfl ⟨rfl, hk10.below (Nat.le_of_lt hbl) fun q hq => ?_, cs.setIfInBounds 8 (.slice (some ⟨g9, 0, none⟩) (xs.length + 1) cap9), .slice (some ⟨g9, 0, none⟩) (xs.length + 1) cap9, HB9.out.set_ 8 _, by simpa using H.out.size, Array.getElem?_setIfInBounds_self_of_lt (by rw [H.out.size]; omega), ?_, ⟨H.out.low.1, Nat.le_trans H.out.low.2 hk10.size⟩, fun k h1 h2 => by rw [Array.getElem?_setIfInBounds_ne (fun e => h2 e.symm)]; exact H.out.rest k h1 h2⟩
  · rcases hq with hq | hq
    · omega
    · have := (row_ty H.out.r8 q hq).1
      have := H.out.low.1
      omega
  · rw [List.length_append]
    exact row_same S1.out fun q c hq hB => Below.heap_setCell _ _ _ q fun e => by
      have e : q = bg := e
      subst e
      exact Blk.ne_ hB HB9.out (by decide) rfl
theorem bagR_new (w : World) : BagR (w.alloc (.cells nil14 50)) w.heap.size (w.heap.size + 1) nil14 (.slice none 0 0) [] :=
  ⟨Blk.new _ _ _, rfl, nil14_at 8 (by omega), World.ownsRow_nil _ _ _ _, ⟨by omega, by simp⟩, fun k hk _ => nil14_at k hk⟩
set_option maxHeartbeats 1600000 in
theorem apart_races (bg b2 base : Nat) (cs : Array Value) (v8 : Value) (xs8 : List Value) (w : World) (h : BagR w bg b2 cs v8 xs8) (ho : Owned w base 87 2 xs8) (hx : xs8.length ≤ 400) (h0 : 0 < xs8.length) (hbase : base ≤ w.heap.size) :
    Calls Tryd.prog 18 #[.pointer (some ⟨bg, 0, none⟩)] w fun e w' => e = .returned (.bool true) ∧ Below base w w' := by
  obtain ⟨bi, P, hP, hK⟩ := kbag_of (K := kRaces) h.blk h.c8 h.r8 h0 ho
  have HI := Lib.hid (apartRacesK bg bi P (xs8.map lstOf) base (by rw [List.length_map]; omega) (owned_len ho) w hbase (KPh1.start hK (kls_of (K := kRaces) ho)))
  have HLB : Hid (∀ q, LB (xs8.map lstOf) q → base ≤ q) := Lib.hid fun q hq => owned_lb (K := kRaces) ho hq
  have HNI := Lib.hid h.rest
  have HPE := Lib.hid hP
  have HBK := Lib.hid h.blk
  clear h ho hP hK
  go_enter Tryd.func18, Tryd.ntmps18
  go_wp2_with (first
    | (go_at_call 49; refine (nilBytes bg _ (by rw [HBK.out.cell]; exact HNI.out 0 (by omega) (by omega))).mono ?_; rintro e w3 ⟨rfl, rfl⟩)
    | (go_at_call 50; refine (nilInts bg _ (by rw [HBK.out.cell]; exact HNI.out 1 (by omega) (by omega))).mono ?_; rintro e w3 ⟨rfl, rfl⟩)
    | (go_at_call 51; refine (nilLongs bg _ (by rw [HBK.out.cell]; exact HNI.out 2 (by omega) (by omega))).mono ?_; rintro e w3 ⟨rfl, rfl⟩)
    | (go_at_call 52; refine (nilSmalls bg _ (by rw [HBK.out.cell]; exact HNI.out 3 (by omega) (by omega))).mono ?_; rintro e w3 ⟨rfl, rfl⟩)
    | (go_at_call 53; refine (nilBools bg _ (by rw [HBK.out.cell]; exact HNI.out 4 (by omega) (by omega))).mono ?_; rintro e w3 ⟨rfl, rfl⟩)
    | (go_at_call 54; refine (nilTexts bg _ (by rw [HBK.out.cell]; exact HNI.out 5 (by omega) (by omega))).mono ?_; rintro e w3 ⟨rfl, rfl⟩)
    | (go_at_call 55; refine (nilAccesses bg _ (by rw [HBK.out.cell]; exact HNI.out 6 (by omega) (by omega))).mono ?_; rintro e w3 ⟨rfl, rfl⟩)
    | (go_at_call 56; refine (nilCalls bg _ (by rw [HBK.out.cell]; exact HNI.out 7 (by omega) (by omega))).mono ?_; rintro e w3 ⟨rfl, rfl⟩)
    | (go_at_call 57; refine HI.out.mono ?_; rintro e w4 ⟨rfl, hk4, hb4⟩; have HK4 := Lib.hid hk4; have HBH : Hid (Blk w4 bg 50 cs) := Lib.hid (HPE.out ▸ hb4.bag.1); clear hk4 hb4)
    | (go_at_call 58; refine (nilFlowNodes bg _ (by rw [HBH.out.cell]; exact HNI.out 9 (by omega) (by omega))).mono ?_; rintro e w5 ⟨rfl, rfl⟩)
    | (go_at_call 59; refine (nilEnds bg _ (by rw [HBH.out.cell]; exact HNI.out 10 (by omega) (by omega))).mono ?_; rintro e w5 ⟨rfl, rfl⟩)
    | (go_at_call 60; refine (nilRows bg _ (by rw [HBH.out.cell]; exact HNI.out 11 (by omega) (by omega))).mono ?_; rintro e w5 ⟨rfl, rfl⟩)
    | (go_at_call 61; refine (nilLongRows bg _ (by rw [HBH.out.cell]; exact HNI.out 12 (by omega) (by omega))).mono ?_; rintro e w5 ⟨rfl, rfl⟩)
    | (go_at_call 62; refine (nilLets bg _ (by rw [HBH.out.cell]; exact HNI.out 13 (by omega) (by omega))).mono ?_; rintro e w5 ⟨rfl, rfl⟩))
  go_ret
  exact ⟨rfl, HK4.out.below hbase HLB.out⟩
end Go.Proofs.YtonnlgpjobfnmaaDoor
