/- Joined of the texts BagE, BagF, LawN; what each proves, and its conditions, stand ahead of it. -/
import Derived.Test.YtonnlgpjobfnmaaDoorKBagD
import Derived.Test.YtonnlgpjobfnmaaDoorKRefG
/- The bag over lists of lists of ints: they are added, compared, tested. Conditions: what the bag's and the lists' cells hold. -/
namespace Go.Proofs.YtonnlgpjobfnmaaDoor
open Go.RowKit
set_option maxRecDepth 100000
theorem quiet_add {P : Program} {f : FuncId} {args : Array Value} {w : World} {a n : Nat} {v : Value}
    (h : Calls P f args (w.drewN (a + n)) fun e w' => e = .returned v ∧ ∃ m, w' = (w.drewN (a + n)).drewN m) : Calls P f args (w.drewN (a + n)) fun e w'' => e = .returned v ∧ ∃ m, w'' = w.drewN (a + m) :=
  h.mono fun _ _ ⟨he, m, hm⟩ => ⟨he, n + m, by rw [hm, World.drewN_drewN, Nat.add_assoc]⟩
theorem ints_drewN {w : World} {b : Option Addr} {X : List Int} (h : IntsAt w b X) (n : Nat) : IntsAt (w.drewN n) b X := h.of (below_drewN (Below.refl _ _) n)
set_option maxHeartbeats 4000000 in
theorem eqRows_same (a b : Option Addr) (ca cb n : Nat) (Xs : List (List Int)) (hn : Xs.length = n) (hl : n ≤ 1000000) (hX : ∀ X, X ∈ Xs → X.length ≤ 1000000) (w : World) (ha : RowsAt w a Xs) (hb : RowsAt w b Xs) :
    Calls Tryd.prog 30 #[.slice a n ca, .slice b n cb] w (EqPost w) := by
  have HA := Lib.hid ha
  have HB := Lib.hid hb
  have HX := Lib.hid hX
  clear ha hb hX
  go_enter Tryd.func30, Tryd.ntmps30
  go_wp2_with fail
  go_loopw [5] (fun i wr => EqRel n w i wr) (fun i _ => n - (intOf i).toNat)
  case atStart => exact ⟨0, 0, Nat.zero_le _, rfl, rfl⟩
  case round =>
    obtain ⟨j, nd, hj, rfl, rfl⟩ := hrel
    by_cases hlt : j < n
    · have hx : decide (j < n) = true := by simpa using hlt
      have hxi : decide ((j : Int) < (n : Int)) = true := by simp; omega
      obtain ⟨X, hx0⟩ : ∃ X, Xs[j]? = some X := ⟨Xs[j], List.getElem?_eq_getElem (by omega)⟩
      obtain ⟨g, ax, cx, rfl, c1, i1⟩ := HA.out j X hx0
      obtain ⟨g2, ax2, cx2, rfl, c2, i2⟩ := HB.out j X hx0
      have hXl := HX.out X (List.mem_of_getElem? hx0)
      have HE := Lib.hid fun m => eqInts_same ax ax2 cx cx2 X.length X rfl (by omega) (w.drewN m) (ints_drewN i1 m) (ints_drewN i2 m)
      obtain ⟨l, hl⟩ : ∃ l, l = X.length := ⟨_, rfl⟩
      rw [← hl] at c1 c2 HE hXl
      clear hx0 i1 i2 hl
      go_upto_region 6 with (fail)
      go_quiet ((go_at_call 14; exact quiet_add (HE.out _)))
      go_wp2_with fail
      exact ⟨⟨j + 1, _, hlt, by rw [Int.natCast_add]; rfl, rfl⟩, by simp [intOf]; omega⟩
    · have hx : decide (j < n) = false := by simpa using hlt
      have hxi : decide ((j : Int) < (n : Int)) = false := by simp; omega
      go_wp2_with fail
      go_ret
      exact ⟨rfl, _, rfl⟩
/-- The bag holds lists of ints and lists of lists of ints alone. -/
structure BagS (w : World) (bg b2 : Nat) (cs : Array Value) (v1 v11 : Value) (xs1 xs11 : List Value) : Prop where
  blk : Blk w bg 50 cs
  size : cs.size = 14
  c1 : cs[1]? = some v1
  c11 : cs[11]? = some v11
  r1 : w.ownsRow b2 27 1 v1 xs1.length xs1
  r11 : w.ownsRow b2 36 1 v11 xs11.length xs11
  low : bg < b2 ∧ b2 ≤ w.heap.size
  none : ∀ k, k < 14 → k ≠ 1 → k ≠ 11 → cs[k]? = some (.slice none 0 0)
  nil1 : xs1 = [] → v1 = .slice Option.none 0 0
theorem BagS.same {S : Nat → Prop} {w w' : World} {bg b2 : Nat} {cs : Array Value} {v1 v11 : Value} {xs1 xs11 : List Value} (h : BagS w bg b2 cs v1 v11 xs1 xs11) (k : Kept S w w') (hS : ∀ q, S q → q ≠ bg ∧ q < b2) : BagS w' bg b2 cs v1 v11 xs1 xs11 :=
  ⟨k.blk h.blk fun e => (hS _ e).1 rfl, h.size, h.c1, h.c11, row_same h.r1 fun q c hq hB => k.block q hB.lt fun e => by have := (hS q e).2; have := (h.r1.lt q hq).1; omega, row_same h.r11 fun q c hq hB => k.block q hB.lt fun e => by have := (hS q e).2; have := (h.r11.lt q hq).1; omega, ⟨h.low.1, Nat.le_trans h.low.2 k.size⟩, h.none, h.nil1⟩
def AddPostI (bg b2 : Nat) (v11 : Value) (xs1 xs11 : List Value) (w : World) (e : Ending) (w' : World) : Prop :=
  e = .returned (.tuple #[]) ∧ Below bg w w' ∧ ∃ cs v1, BagS w' bg b2 cs v1 v11 xs1 xs11
set_option maxHeartbeats 1600000 in
theorem addInts_full (bg : Nat) (cs : Array Value) (a : Option Addr) (len cap : Nat) (a0 : Option Addr) (n c0 : Nat) (w : World) (hb : Blk w bg 50 cs) (h1 : cs[1]? = some (.slice a0 n c0)) (hn : 400 ≤ n) :
    Calls Tryd.prog 17 #[.pointer (some ⟨bg, 0, none⟩), .slice a len cap] w fun e w' => e = .returned (.tuple #[]) ∧ w' = w := by
  have c1 : w.cell? ⟨bg, 1, none⟩ = some (.slice a0 n c0) := by rw [hb.cell]; exact h1
  have hx : decide (n < 400) = false := by simp; omega
  have hxi : decide ((n : Int) < 400) = false := by simp; omega
  clear hb h1
  go_enter Tryd.func17, Tryd.ntmps17
  go_wp2_with fail
  exact bodyPost_end (results_none rfl _ _ _) rfl ⟨rfl, rfl⟩
theorem addInts_s (bg b2 : Nat) (cs : Array Value) (v1 v11 : Value) (xs1 xs11 : List Value) (hx : xs1.length ≤ 400) (a : Option Addr) (len cap : Nat) (w : World) (h : BagS w bg b2 cs v1 v11 xs1 xs11) :
    Calls Tryd.prog 17 #[.pointer (some ⟨bg, 0, none⟩), .slice a len cap] w (AddPostI bg b2 v11 ((xs1 ++ [Value.slice a len cap]).take 400) xs11 w) := by
  by_cases hn : xs1.length < 400
  · refine (addInts_any bg b2 xs1.length cs v1 xs1 a len cap w h.blk h.c1 h.r1 hn h.low.2).mono fun e w' ⟨he, v', hb, hr, hk⟩ => ?_
    have hS : ∀ q, (q = bg ∨ (∃ v0, cs[1]? = some v0 ∧ v0.ownBlock = some q)) → q = bg ∨ (b2 ≤ q ∧ ∃ c, Blk w q 27 c) := fun q hq => by
      rcases hq with hq | ⟨v, hv, hq⟩
      · exact .inl hq
      · rw [h.c1] at hv
        injection hv with hv
        subst hv
        exact .inr (row_ty h.r1 q hq)
    have h11 : w'.ownsRow b2 36 1 v11 xs11.length xs11 := row_same h.r11 fun q c hq hB => hk.block q hB.lt fun hh => by
      rcases hS q hh with e | ⟨_, c', hc'⟩
      · subst e
        exact Blk.ne_ hB h.blk (by decide) rfl
      · exact Blk.ne_ hB hc' (by decide) rfl
    refine ⟨he, hk.below (by have := h.low; omega) fun q hq => ?_, _, v', hb, by simpa using h.size, Array.getElem?_setIfInBounds_self_of_lt (by rw [h.size]; omega), by rw [Array.getElem?_setIfInBounds_ne (by omega)]; exact h.c11, ?_, h11, ⟨h.low.1, Nat.le_trans h.low.2 hk.size⟩, fun k hk1 hk2 hk3 => by rw [Array.getElem?_setIfInBounds_ne (fun e => hk2 e.symm)]; exact h.none k hk1 hk2 hk3, fun e => ?_⟩
    · rcases hS q hq with e | ⟨e, _⟩
      · omega
      · have := h.low.1; omega
    · rw [List.take_of_length_le (by simp; omega), List.length_append]
      exact hr
    · have := congrArg List.length e
      simp at this
  · have e : xs1.length = 400 := by omega
    obtain ⟨a0, c0, hv⟩ := row_shp h.r1
    have h1 := h.c1
    rw [hv] at h1
    refine (addInts_full bg cs a len cap a0 _ c0 w h.blk h1 (by omega)).mono fun e2 w' ⟨he, hw⟩ => ⟨he, by rw [hw]; exact Below.refl _ _, cs, v1, ?_⟩
    rw [hw, List.take_append_of_le_length (by omega), List.take_of_length_le (by omega)]
    exact h
/-- The slices in a list's cells. -/
def SlcAt (w : World) (a : Option Addr) (vs : List Value) : Prop := ∀ (i : Nat) v, vs[i]? = some v → ∃ g ax lx cx, a = some ⟨g, 0, none⟩ ∧ v = .slice ax lx cx ∧ w.cell? ⟨g, i, none⟩ = some v ∧ g < w.heap.size
def AddRel (bg b2 : Nat) (v11 : Value) (vs xs1 xs11 : List Value) (w0 : World) (i : Value) (wr : World) : Prop :=
  ∃ k : Nat, k ≤ vs.length ∧ k ≤ 400 ∧ i = .int .i64 k ∧ Below bg w0 wr ∧ ∃ cs v1, BagS wr bg b2 cs v1 v11 ((xs1 ++ vs.take k).take 400) xs11
theorem take_more {xs1 vs : List Value} {v : Value} {k : Nat} (h : vs[k]? = some v) : ((((xs1 ++ vs.take k).take 400) ++ [v]).take 400) = (xs1 ++ vs.take (k + 1)).take 400 := by
  rw [List.take_add_one (l := vs), h, Option.toList_some, ← List.append_assoc]
  rcases Nat.lt_or_ge (xs1 ++ vs.take k).length 400 with h1 | h1
  · rw [List.take_of_length_le (l := xs1 ++ vs.take k) (by omega)]
  · rw [List.take_append_of_le_length (l₁ := (xs1 ++ vs.take k).take 400) (by simp at h1 ⊢; omega), List.take_append_of_le_length h1, List.take_take, Nat.min_self]
def AddRowsPost (bg b2 : Nat) (v : Value) (vs xs1 xs11 : List Value) (w : World) (e : Ending) (w' : World) : Prop :=
  e = .returned (.tuple #[]) ∧ Below bg w w' ∧ ∃ cs v1 v11, BagS w' bg b2 cs v1 v11 ((xs1 ++ vs.take 400).take 400) (xs11 ++ [v])
set_option maxHeartbeats 4000000 in
theorem addRows_any (bg b2 : Nat) (cs : Array Value) (v1 v11 : Value) (xs1 xs11 vs : List Value) (hx : xs1.length ≤ 400) (hx11 : xs11.length < 400) (a : Option Addr) (n cap : Nat) (hn : vs.length = n) (hn6 : n ≤ 1000000) (w : World) (h : BagS w bg b2 cs v1 v11 xs1 xs11) (hv : SlcAt w a vs) (hlt : ∀ g off, a = some ⟨g, off, none⟩ → g < bg) :
    Calls Tryd.prog 33 #[.pointer (some ⟨bg, 0, none⟩), .slice a n cap] w (AddRowsPost bg b2 (.slice a n cap) vs xs1 xs11 w) := by
  obtain ⟨js, hjs, hjsz, hjss, hjsb⟩ := info_parts infoMss
  obtain ⟨a0, c0, rfl⟩ := row_shp h.r11
  have c11 : w.cell? ⟨bg, 11, none⟩ = some (.slice a0 xs11.length c0) := by rw [h.blk.cell]; exact h.c11
  have f11 := h.blk.frozen 11
  have hx0 : decide (xs11.length < 400) = true := by simpa using hx11
  have hxi : decide ((xs11.length : Int) < 400) = true := by simp; omega
  have H := Lib.hid h
  have HV := Lib.hid hv
  have HLT := Lib.hid hlt
  have HR := Lib.hid (h.r11.alloc (.cells #[.slice a n cap] 36))
  have hbl := h.blk.lt
  have hlo := h.low.2
  clear h hv hlt
  go_enter Tryd.func33, Tryd.ntmps33
  go_upto_region 2 with (at_builtin; refine wpList_append_keep rfl _ _ 46 rfl b2 36 js _ 1 24 Tryd.underlying46 hjs hjsz hjss hjsb rfl (by decide) _ xs11.length xs11 rfl HR.out ⟨w.heap.size, 0, none⟩ 1 1 [.slice a n cap] rfl rfl (World.news_of_block (heap_alloc_new _ _)) (by simp [Value.oneCell']) (by unfold maxLen; omega) (by omega) (by simp; omega) ?_; intro v9 w9 r1 r2 r3 r4 r5; obtain ⟨g9, cap9, rfl, _, _⟩ := r1.form (by omega); have S1 := Lib.hid r1; have S2 := Lib.hid r2; have hB9 : Blk w9 bg 50 cs := ((r2.block bg (by simp; omega) fun e => by obtain ⟨_, cs', hB'⟩ := row_ty H.out.r11 bg e.symm; exact Blk.ne_ H.out.blk hB' (by decide) rfl).trans (Below.heap_alloc w _ bg hbl)).trans H.out.blk; have HB9 := Lib.hid hB9; have c9 : w9.cell? ⟨bg, 11, none⟩ = some (.slice a0 xs11.length c0) := (by rw [hB9.cell]; exact H.out.c11); have f9 := hB9.frozen 11; clear r1 r2 r3 r4 r5 hB9)
  obtain ⟨w10, hw10⟩ : ∃ w10, w10 = w9.setCell ⟨bg, 11, none⟩ (.slice (some ⟨g9, 0, none⟩) (xs11.length + 1) cap9) := ⟨_, rfl⟩
  have hk9 : Kept (fun q => (Value.slice a0 xs11.length c0).ownBlock = some q) w w9 := ((Kept.refl _ w).alloc _).trans ⟨S2.out.os, S2.out.tape, S2.out.output, S2.out.size, fun q hq hs => S2.out.block q hq fun e => hs e.symm⟩
  have hk10 : Kept (fun q => q = bg ∨ (Value.slice a0 xs11.length c0).ownBlock = some q) w w10 := by rw [hw10]; exact (hk9.mono fun q hq => .inr hq).set (p := ⟨bg, 11, none⟩) (.inl rfl) _
  have hB10 : Blk w10 bg 50 (cs.setIfInBounds 11 (.slice (some ⟨g9, 0, none⟩) (xs11.length + 1) cap9)) := by rw [hw10]; exact HB9.out.set_ 11 _
  have HS0 : Hid (BagS w10 bg b2 (cs.setIfInBounds 11 (.slice (some ⟨g9, 0, none⟩) (xs11.length + 1) cap9)) v1 (.slice (some ⟨g9, 0, none⟩) (xs11.length + 1) cap9) xs1 (xs11 ++ [.slice a n cap])) := Lib.hid ⟨hB10, by simpa using H.out.size, by rw [Array.getElem?_setIfInBounds_ne (by omega)]; exact H.out.c1, Array.getElem?_setIfInBounds_self_of_lt (by rw [H.out.size]; omega), row_same H.out.r1 fun q c hq hB => hk10.block q hB.lt (fun hh => by
      rcases hh with hh | hh
      · subst hh
        exact Blk.ne_ hB H.out.blk (by decide) rfl
      · obtain ⟨_, c', hc'⟩ := row_ty H.out.r11 q hh
        exact Blk.ne_ hB hc' (by decide) rfl), by
      rw [hw10, List.length_append]
      exact row_same S1.out fun q c hq hB => Below.heap_setCell _ _ _ q fun e => by
        have e : q = bg := e
        subst e
        exact Blk.ne_ hB HB9.out (by decide) rfl, ⟨H.out.low.1, Nat.le_trans H.out.low.2 hk10.size⟩, fun k h1 h2 h3 => by rw [Array.getElem?_setIfInBounds_ne (fun e => h3 e.symm)]; exact H.out.none k h1 h2 h3, H.out.nil1⟩
  have HB0 : Hid (Below bg w w10) := Lib.hid (hk10.below (Nat.le_of_lt hbl) fun q hq => by
    rcases hq with hq | hq
    · omega
    · have := (row_ty H.out.r11 q hq).1
      have := H.out.low.1
      omega)
  rw [← hw10]
  clear hw10 hk9 hk10 hB10 S1 S2 HB9 c9 f9 c11 f11 hx0 hxi HR
  go_wp2_with fail
  go_loopw [4] (fun i wr => AddRel bg b2 (.slice (some ⟨g9, 0, none⟩) (xs11.length + 1) cap9) vs xs1 (xs11 ++ [Value.slice a n cap]) w i wr) (fun i _ => n - (intOf i).toNat)
  case atStart => exact ⟨0, Nat.zero_le _, by omega, rfl, HB0.out, _, v1, by have h := HS0.out; rw [List.take_zero, List.append_nil, List.take_of_length_le hx]; exact h⟩
  case round =>
    clear HS0 HB0
    obtain ⟨k, hk, hk4, rfl, hb, cs', v1', hS⟩ := hrel
    have HB := Lib.hid hb
    have HS := Lib.hid hS
    clear hb hS
    by_cases hlt : k < n
    · have hx : decide (k < n) = true := by simpa using hlt
      have hxi : decide ((k : Int) < (n : Int)) = true := by simp; omega
      by_cases hl4 : k < 400
      · have hy : decide (k < 400) = true := by simpa using hl4
        have hyi : decide ((k : Int) < 400) = true := by simp; omega
        obtain ⟨v, hv⟩ : ∃ v, vs[k]? = some v := ⟨vs[k]'(by omega), List.getElem?_eq_getElem (by omega)⟩
        obtain ⟨g, ax, lx, cx, rfl, rfl, c1, hg⟩ := HV.out k v hv
        have c2 : wr.cell? ⟨g, k, none⟩ = some (.slice ax lx cx) := (HB.out.cell (p := ⟨g, k, none⟩) (HLT.out g 0 rfl)).trans c1
        have HT := Lib.hid (take_more (xs1 := xs1) hv)
        have HAD := Lib.hid (addInts_s bg b2 cs' v1' _ _ _ (by rw [List.length_take]; omega) ax lx cx wr HS.out)
        clear hv c1
        go_wp2_with (go_at_call 17; refine HAD.out.mono ?_; rintro e w12 ⟨rfl, hb12, cs12, v12, hS12⟩; rw [HT.out] at hS12; have HB12 := Lib.hid hb12; have HS12 := Lib.hid hS12; clear hb12 hS12 HAD)
        exact ⟨⟨k + 1, by omega, by omega, by rw [Int.natCast_add]; rfl, HB.out.trans HB12.out, cs12, v12, HS12.out⟩, by simp [intOf]; omega⟩
      · have hy : decide (k < 400) = false := by simpa using hl4
        have hyi : decide ((k : Int) < 400) = false := by simp; omega
        go_wp2_with fail
        refine bodyPost_end (results_none rfl _ _ _) rfl ⟨rfl, HB.out, cs', v1', .slice (some ⟨g9, 0, none⟩) (xs11.length + 1) cap9, ?_⟩
        obtain rfl : k = 400 := by omega
        exact HS.out
    · obtain rfl : k = n := by omega
      have hx : decide (k < k) = false := by simp
      have hxi : decide ((k : Int) < (k : Int)) = false := by simp
      go_wp2_with fail
      refine bodyPost_end (results_none rfl _ _ _) rfl ⟨rfl, HB.out, cs', v1', .slice (some ⟨g9, 0, none⟩) (xs11.length + 1) cap9, ?_⟩
      have h := HS.out
      rw [List.take_of_length_le (l := vs) (by omega)] at h
      rw [List.take_of_length_le (l := vs) (by omega)]
      exact h
end Go.Proofs.YtonnlgpjobfnmaaDoor
/- The bag's whole test over lists of ints and lists of lists of ints. Conditions: what the bag's cells hold; the lists lie apart. -/
namespace Go.Proofs.YtonnlgpjobfnmaaDoor
open Go.RowKit
set_option maxRecDepth 100000
def lstOf : Value → Lst
  | .slice a n c => ⟨a.map (·.block), n, c⟩
  | _ => ⟨none, 0, 0⟩
/-- Lists of one's own, of elements of one type, apart from each other. -/
structure Owned (w : World) (base : Nat) (e : TypeId) (sz : Nat) (vs : List Value) : Prop where
  own : ∀ (i : Nat) x, vs[i]? = some x → ∃ n ys, w.ownsRow base e sz x n ys ∧ n ≤ 1000000
  apart : ∀ (i j : Nat) x y q, vs[i]? = some x → vs[j]? = some y → x.ownBlock = some q → y.ownBlock = some q → i = j
theorem Owned.same {w w' : World} {base sz : Nat} {e : TypeId} {vs : List Value} (h : Owned w base e sz vs) (hk : ∀ q cs, base ≤ q → Blk w q e cs → w'.heap[q]? = w.heap[q]?) : Owned w' base e sz vs :=
  ⟨fun i x hx => by obtain ⟨n, ys, h1, h2⟩ := h.own i x hx; exact ⟨n, ys, row_sameN h1 fun q cs hq hB => hk q cs (h1.lt q hq).1 hB, h2⟩, h.apart⟩
theorem Owned.take {w : World} {base sz : Nat} {e : TypeId} {vs : List Value} (h : Owned w base e sz vs) (k : Nat) : Owned w base e sz (vs.take k) := by
  have hx : ∀ {i : Nat} {x : Value}, (vs.take k)[i]? = some x → vs[i]? = some x := fun {i x} h => by
    have hi : i < k := by have := (List.getElem?_eq_some_iff.1 h).1; simp at this; omega
    rwa [List.getElem?_take_of_lt hi] at h
  exact ⟨fun i x h1 => h.own i x (hx h1), fun i j x y q h1 h2 => h.apart i j x y q (hx h1) (hx h2)⟩
theorem Owned.app {w : World} {base mid sz : Nat} {e : TypeId} {xs ys : List Value} (h1 : Owned w base e sz xs) (h2 : Owned w base e sz ys) (hx : ∀ x q, x ∈ xs → x.ownBlock = some q → q < mid) (hy : ∀ y q, y ∈ ys → y.ownBlock = some q → mid ≤ q) : Owned w base e sz (xs ++ ys) := by
  have cases : ∀ {i : Nat} {x : Value}, (xs ++ ys)[i]? = some x → (i < xs.length ∧ xs[i]? = some x) ∨ (xs.length ≤ i ∧ ys[i - xs.length]? = some x) := fun {i x} h => by
    rcases Nat.lt_or_ge i xs.length with hi | hi
    · rw [List.getElem?_append_left hi] at h
      exact .inl ⟨hi, h⟩
    · rw [List.getElem?_append_right hi] at h
      exact .inr ⟨hi, h⟩
  refine ⟨fun i x h => ?_, fun i j x y q hi hj hq hq' => ?_⟩
  · rcases cases h with ⟨_, h⟩ | ⟨_, h⟩
    · exact h1.own _ x h
    · exact h2.own _ x h
  · rcases cases hi with ⟨a, hi⟩ | ⟨a, hi⟩ <;> rcases cases hj with ⟨b, hj⟩ | ⟨b, hj⟩
    · exact h1.apart i j x y q hi hj hq hq'
    · have := hx x q (List.mem_of_getElem? hi) hq
      have := hy y q (List.mem_of_getElem? hj) hq'
      omega
    · have := hy x q (List.mem_of_getElem? hi) hq
      have := hx y q (List.mem_of_getElem? hj) hq'
      omega
    · have := h2.apart _ _ x y q hi hj hq hq'
      omega
theorem lst_val {w : World} {base n sz : Nat} {e : TypeId} {x : Value} {ys : List Value} (h : w.ownsRow base e sz x n ys) : (lstOf x).val = x ∧ (lstOf x).len = n ∧ (lstOf x).b = x.ownBlock := by
  rcases h.2 with ⟨rfl, hl⟩ | ⟨g, cap, cur, rfl, _⟩
  · exact ⟨rfl, hl.symm, rfl⟩
  · exact ⟨rfl, rfl, rfl⟩
theorem kls_of {K : Kind} {w : World} {base : Nat} {vs : List Value} (h : Owned w base K.E K.sz vs) : KLs K w base (vs.map lstOf) := by
  refine ⟨fun m L hm => ?_, fun m m' L L' g hm hm' hg hg' => ?_⟩
  · rw [List.getElem?_map] at hm
    obtain ⟨x, hx, rfl⟩ := Option.map_eq_some_iff.1 hm
    obtain ⟨n, ys, ho, _⟩ := h.own m x hx
    rcases ho.2 with ⟨rfl, hl⟩ | ⟨g, cap, cur, rfl, h4, h5, h6, h7, h8, _⟩
    · exact .inl ⟨rfl, rfl, rfl⟩
    · exact .inr ⟨g, cur, rfl, h4, h5, h8, h6, h7⟩
  · rw [List.getElem?_map] at hm hm'
    obtain ⟨x, hx, rfl⟩ := Option.map_eq_some_iff.1 hm
    obtain ⟨y, hy, rfl⟩ := Option.map_eq_some_iff.1 hm'
    obtain ⟨_, _, ho, _⟩ := h.own m x hx
    obtain ⟨_, _, ho', _⟩ := h.own m' y hy
    rw [(lst_val ho).2.2] at hg
    rw [(lst_val ho').2.2] at hg'
    exact h.apart m m' x y g hx hy hg hg'
theorem kbag_of {K : Kind} {w : World} {bg base b2 : Nat} {cs : Array Value} {v : Value} {vs : List Value} (hb : Blk w bg K.G cs) (hc : cs[K.idx]? = some v) (hr : w.ownsRow b2 K.S 1 v vs.length vs) (h0 : 0 < vs.length) (h : Owned w base K.E K.sz vs) : ∃ bi P, P.cs = cs ∧ KBag K w bg bi P (vs.map lstOf) := by
  obtain ⟨h1, ⟨_, h3⟩ | ⟨g, cap', cur, h3, h4, h5, h6, h7, h8, h9⟩⟩ := hr
  · omega
  · subst h3
    refine ⟨g, ⟨cap', cs⟩, rfl, ⟨hb, by rw [List.length_map]; exact hc⟩, cur, h5, fun m L hm => ?_⟩
    rw [List.getElem?_map] at hm
    obtain ⟨x, hx, rfl⟩ := Option.map_eq_some_iff.1 hm
    obtain ⟨n, ys, ho, _⟩ := h.own m x hx
    rw [(lst_val ho).1, ← hx, ← h9, List.getElem?_take_of_lt, Array.getElem?_toList]
    have := (List.getElem?_eq_some_iff.1 hx).1
    omega
theorem owned_len {w : World} {base sz : Nat} {e : TypeId} {vs : List Value} (h : Owned w base e sz vs) : ∀ (m : Nat) (L : Lst), (vs.map lstOf)[m]? = some L → L.len ≤ 1000000 := fun m L hm => by
  rw [List.getElem?_map] at hm
  obtain ⟨x, hx, rfl⟩ := Option.map_eq_some_iff.1 hm
  obtain ⟨n, ys, ho, hn⟩ := h.own m x hx
  rw [(lst_val ho).2.1]
  exact hn
theorem owned_lb {K : Kind} {w : World} {base q : Nat} {vs : List Value} (h : Owned w base K.E K.sz vs) (hq : LB (vs.map lstOf) q) : base ≤ q := ((kls_of (K := K) h).blk hq).1
/-- One kind's test, be there lists or none. -/
theorem ints_part (bg b2 base : Nat) (cs : Array Value) (v1 v11 : Value) (xs1 xs11 : List Value) (w : World) (h : BagS w bg b2 cs v1 v11 xs1 xs11) (ho : Owned w base 3 1 xs1) (hx : xs1.length ≤ 400) (hbase : base ≤ w.heap.size) :
    Calls Tryd.prog 50 #[.pointer (some ⟨bg, 0, none⟩)] w fun e w' => e = .returned (.bool true) ∧ Kept (LB (xs1.map lstOf)) w w' := by
  by_cases h0 : 0 < xs1.length
  · obtain ⟨bi, P, hP, hK⟩ := kbag_of (K := kInts) h.blk h.c1 h.r1 h0 ho
    exact (apartIntsK bg bi P (xs1.map lstOf) base (by rw [List.length_map]; omega) (owned_len ho) w hbase (KPh1.start hK (kls_of (K := kInts) ho))).mono fun e w' ⟨he, hk, _⟩ => ⟨he, hk⟩
  · have e : xs1 = [] := List.eq_nil_of_length_eq_zero (by omega)
    subst e
    have hv := h.nil1 rfl
    exact (nilInts bg w (by rw [h.blk.cell, h.c1, hv])).mono fun e w' ⟨he, hw⟩ => ⟨he, by rw [hw]; exact Kept.refl _ _⟩
set_option maxHeartbeats 1600000 in
theorem apart_rows (bg b2 base : Nat) (cs : Array Value) (v1 v11 : Value) (xs1 xs11 : List Value) (w : World) (h : BagS w bg b2 cs v1 v11 xs1 xs11) (ho : Owned w base 3 1 xs1) (ho2 : Owned w base 27 1 xs11) (hx : xs1.length ≤ 400) (hx2 : xs11.length ≤ 400) (h0 : 0 < xs11.length) (hbase : base ≤ w.heap.size) :
    Calls Tryd.prog 18 #[.pointer (some ⟨bg, 0, none⟩)] w fun e w' => e = .returned (.bool true) ∧ Below base w w' := by
  have HI := Lib.hid (ints_part bg b2 base cs v1 v11 xs1 xs11 w h ho hx hbase)
  obtain ⟨bi, P, hP, hK⟩ := kbag_of (K := kRows) h.blk h.c11 h.r11 h0 ho2
  have HLB : Hid (∀ q, LB (xs1.map lstOf) q → base ≤ q ∧ ∃ cs, Blk w q 3 cs) := Lib.hid fun q hq => (kls_of (K := kInts) ho).blk hq
  have HR : Hid (∀ w2, Kept (LB (xs1.map lstOf)) w w2 → Blk w2 bg 50 cs ∧ Calls Tryd.prog 60 #[.pointer (some ⟨bg, 0, none⟩)] w2 fun e w' => e = .returned (.bool true) ∧ Kept (LB (xs11.map lstOf)) w2 w' ∧ Blk w' bg 50 cs) := Lib.hid fun w2 k => by
    have hK2 : KBag kRows w2 bg bi P (xs11.map lstOf) := hK.same (k.block bg h.blk.lt fun hh => by
      obtain ⟨_, c, hc⟩ := HLB.out _ hh
      exact Blk.ne_ h.blk hc (by decide) rfl) (by
      obtain ⟨c', h3, _⟩ := hK.row
      exact k.block bi h3.lt fun hh => by
        obtain ⟨_, c, hc⟩ := HLB.out _ hh
        exact Blk.ne_ h3 hc (by decide) rfl)
    have hL2 : KLs kRows w2 base (xs11.map lstOf) := (kls_of (K := kRows) ho2).kept fun g c _ hB => ⟨c, k.blk hB fun hh => by
      obtain ⟨_, c', hc'⟩ := HLB.out _ hh
      exact Blk.ne_ hB hc' (by decide) rfl, rfl⟩
    refine ⟨hP ▸ hK2.bag.1, (apartRowsK bg bi P (xs11.map lstOf) base (by rw [List.length_map]; omega) (owned_len ho2) w2 (Nat.le_trans hbase k.size) (KPh1.start hK2 hL2)).mono fun e w' ⟨he, hk, hb⟩ => ⟨he, hk, hP ▸ hb.bag.1⟩⟩
  have HLB2 : Hid (∀ q, LB (xs11.map lstOf) q → base ≤ q) := Lib.hid fun q hq => owned_lb (K := kRows) ho2 hq
  have HNI := Lib.hid h.none
  have c0 : w.cell? ⟨bg, 0, none⟩ = some (.slice none 0 0) := by rw [h.blk.cell]; exact h.none 0 (by omega) (by omega) (by omega)
  have HC0 := Lib.hid c0
  clear h ho ho2 hP hK c0
  go_enter Tryd.func18, Tryd.ntmps18
  go_wp2_with (first
    | (go_at_call 49; refine (nilBytes bg _ HC0.out).mono ?_; rintro e w1 ⟨rfl, rfl⟩)
    | (go_at_call 50; refine HI.out.mono ?_; rintro e w2 ⟨rfl, hk2⟩; have HK2 := Lib.hid hk2; have HBG := Lib.hid (HR.out w2 hk2); clear hk2)
    | (go_at_call 51; refine (nilLongs bg _ (by rw [HBG.out.1.cell]; exact HNI.out 2 (by omega) (by omega) (by omega))).mono ?_; rintro e w3 ⟨rfl, rfl⟩)
    | (go_at_call 52; refine (nilSmalls bg _ (by rw [HBG.out.1.cell]; exact HNI.out 3 (by omega) (by omega) (by omega))).mono ?_; rintro e w3 ⟨rfl, rfl⟩)
    | (go_at_call 53; refine (nilBools bg _ (by rw [HBG.out.1.cell]; exact HNI.out 4 (by omega) (by omega) (by omega))).mono ?_; rintro e w3 ⟨rfl, rfl⟩)
    | (go_at_call 54; refine (nilTexts bg _ (by rw [HBG.out.1.cell]; exact HNI.out 5 (by omega) (by omega) (by omega))).mono ?_; rintro e w3 ⟨rfl, rfl⟩)
    | (go_at_call 55; refine (nilAccesses bg _ (by rw [HBG.out.1.cell]; exact HNI.out 6 (by omega) (by omega) (by omega))).mono ?_; rintro e w3 ⟨rfl, rfl⟩)
    | (go_at_call 56; refine (nilCalls bg _ (by rw [HBG.out.1.cell]; exact HNI.out 7 (by omega) (by omega) (by omega))).mono ?_; rintro e w3 ⟨rfl, rfl⟩)
    | (go_at_call 57; refine (nilRaces bg _ (by rw [HBG.out.1.cell]; exact HNI.out 8 (by omega) (by omega) (by omega))).mono ?_; rintro e w3 ⟨rfl, rfl⟩)
    | (go_at_call 58; refine (nilFlowNodes bg _ (by rw [HBG.out.1.cell]; exact HNI.out 9 (by omega) (by omega) (by omega))).mono ?_; rintro e w3 ⟨rfl, rfl⟩)
    | (go_at_call 59; refine (nilEnds bg _ (by rw [HBG.out.1.cell]; exact HNI.out 10 (by omega) (by omega) (by omega))).mono ?_; rintro e w3 ⟨rfl, rfl⟩)
    | (go_at_call 60; refine HBG.out.2.mono ?_; rintro e w4 ⟨rfl, hk4, hb4⟩; have HK4 := Lib.hid hk4; have HBH := Lib.hid hb4; clear hk4 hb4)
    | (go_at_call 61; refine (nilLongRows bg _ (by rw [HBH.out.cell]; exact HNI.out 12 (by omega) (by omega) (by omega))).mono ?_; rintro e w5 ⟨rfl, rfl⟩)
    | (go_at_call 62; refine (nilLets bg _ (by rw [HBH.out.cell]; exact HNI.out 13 (by omega) (by omega) (by omega))).mono ?_; rintro e w5 ⟨rfl, rfl⟩))
  go_ret
  exact ⟨rfl, (HK2.out.below hbase fun q hq => (HLB.out q hq).1).trans (HK4.out.below (Nat.le_trans hbase HK2.out.size) HLB2.out)⟩
end Go.Proofs.YtonnlgpjobfnmaaDoor
/- What a law of this layer leaves; the cells of a bag that is empty. (Taken out of LinP and LinQ, so that a claim need not bear those.) No conditions. -/
namespace Go.Proofs.YtonnlgpjobfnmaaDoor
open Go.RowKit
def LawPost (w : World) (e : Ending) (w' : World) : Prop := e = .returned (.bool true) ∧ Below w.heap.size w w'
/-- The cells of a bag that is empty. -/
def nil14 : Array Value := #[.slice none 0 0, .slice none 0 0, .slice none 0 0, .slice none 0 0, .slice none 0 0, .slice none 0 0, .slice none 0 0, .slice none 0 0, .slice none 0 0, .slice none 0 0, .slice none 0 0, .slice none 0 0, .slice none 0 0, .slice none 0 0]
theorem nil14_at : ∀ k, k < 14 → nil14[k]? = some (.slice none 0 0) := by
  intro k hk
  rcases (show k = 0 ∨ k = 1 ∨ k = 2 ∨ k = 3 ∨ k = 4 ∨ k = 5 ∨ k = 6 ∨ k = 7 ∨ k = 8 ∨ k = 9 ∨ k = 10 ∨ k = 11 ∨ k = 12 ∨ k = 13 by omega) with rfl | rfl | rfl | rfl | rfl | rfl | rfl | rfl | rfl | rfl | rfl | rfl | rfl | rfl <;> rfl
end Go.Proofs.YtonnlgpjobfnmaaDoor
