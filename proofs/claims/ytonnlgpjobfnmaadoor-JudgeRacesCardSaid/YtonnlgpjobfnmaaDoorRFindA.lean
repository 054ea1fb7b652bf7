/- Joined of the texts JudgeT, FindA; what each proves, and its conditions, stand ahead of it. -/
import Derived.Test.YtonnlgpjobfnmaaDoorRJudgeS
import Derived.Test.YtonnlgpjobfnmaaDoorRJudgeL
import Derived.Laws.EntriesVeiled
/- judge.Linear. Conditions: what the slice's cells hold. -/
namespace Go.Proofs.YtonnlgpjobfnmaaDoor
open Go.RowKit
set_option maxRecDepth 100000
/-- The calls that must be done, of the first j, as bits. -/
def mustTo (H : List Cal) : Nat → Nat
  | 0 => 0
  | j + 1 => match H[j]? with
    | some c => if c.fin = -1 then mustTo H j else mustTo H j ||| 2 ^ j
    | none => mustTo H j
def mustOf (H : List Cal) : Nat := mustTo H H.length
theorem mustTo_lt (H : List Cal) : ∀ j, mustTo H j < 2 ^ j
  | 0 => by simp [mustTo]
  | j + 1 => by
    have h := mustTo_lt H j
    have h2 : 2 ^ (j + 1) = 2 ^ j * 2 := Nat.pow_succ 2 j
    unfold mustTo
    split
    · split
      · omega
      · exact Nat.or_lt_two_pow (by omega) (by omega)
    · omega
theorem mustTo_small (H : List Cal) (j : Nat) (hj : j ≤ 12) : mustTo H j < 4096 := by
  have h := mustTo_lt H j
  have h2 : 2 ^ j ≤ 2 ^ 12 := Nat.pow_le_pow_right (by decide) hj
  have h3 : (2 : Nat) ^ 12 = 4096 := rfl
  omega
theorem own_mono {w : World} {base base' : Nat} {e : TypeId} {size : Nat} {v : Value} {n : Nat} {xs : List Value} (h : w.ownsRow base e size v n xs) (hb : base' ≤ base) : w.ownsRow base' e size v n xs := by
  obtain ⟨h1, h2 | ⟨g, cap, cur, h3, h4, h5⟩⟩ := h
  · exact ⟨h1, .inl h2⟩
  · exact ⟨h1, .inr ⟨g, cap, cur, h3, Nat.le_trans hb h4, h5⟩⟩
def begins (k : Int) : List Int := if k ≤ 2 then [] else [0]
/-- What judge.Linear answers, but for the list. -/
def linOf (k : Int) (H : List Cal) : Option (List Nat) × Int :=
  if ¬ (1 ≤ k ∧ k ≤ 4) then (none, 1) else if 12 < H.length then (none, 33) else if H.all (rightF k) then (Lin k H (mustOf H) 0 (begins k), 0) else (none, 32)
def LinPost (k : Int) (H : List Cal) (w : World) (e : Ending) (w' : World) : Prop :=
  Below w.heap.size w w' ∧ ∃ v, e = .returned (.tuple #[v, .bool (linOf k H).1.isSome, .int .i64 (linOf k H).2]) ∧ w'.ownsRow w.heap.size 3 1 v ((linOf k H).1.getD []).length (((linOf k H).1.getD []).map fun i => .int .i64 (i : Nat))
theorem clone_own {base n : Nat} {v : Value} {l : List Nat} {w : World} (h : w.ownsRow base 3 1 v n (l.map fun i => .int .i64 (i : Nat))) (hn : n ≤ 100000) :
    Calls Tryd.prog 46 #[v] w fun e w' => ∃ v', e = .returned v' ∧ w'.ownsRow w.heap.size 3 1 v' n (l.map fun i => .int .i64 (i : Nat)) ∧ Below w.heap.size w w' := by
  have hl : l.length = n := by simpa using h.1
  have h0 := h
  obtain ⟨_, ⟨rfl, h2⟩ | ⟨g, cap, cur, rfl, hb, hc, hk, hm, hz, ht⟩⟩ := h
  · refine (Tryd.slices_Clone_int_nil 0 0 w).mono ?_
    rintro e w' ⟨rfl, rfl⟩
    refine ⟨_, rfl, ?_, Below.refl _ _⟩
    obtain rfl : l = [] := by cases l; rfl; simp at hl; omega
    subst h2
    exact World.ownsRow_nil _ _ _ _
  · refine (Tryd.slices_Clone_int g 0 n cap (l.map (fun i : Nat => (i : Int))) w (by simp [hl]) (by omega) ?_).mono ?_
    · intro j hj
      simp only [List.length_map] at hj
      rw [Nat.zero_add, h0.cellAt j (by omega)]
      simp [List.getD, hj]
    · rintro e w' ⟨v', rfl, h1, _, h2⟩
      refine ⟨v', rfl, ?_, h2⟩
      have e : ((l.map (fun i : Nat => (i : Int))).take n).map (Value.int .i64) = l.map fun i => (.int .i64 (i : Nat) : Value) := by
        rw [List.take_of_length_le (by simp [hl]), List.map_map]; rfl
      rw [e] at h1
      exact h1
def LRel (k : Int) (H : List Cal) (b : Option Addr) (cap : Nat) (w0 : World) (i : Value) (wr : World) : Prop :=
  ∃ j : Nat, j ≤ H.length ∧ i = .int .i64 j ∧ (∀ c, c ∈ H.take j → rightF k c = true) ∧ Below w0.heap.size w0 wr ∧ Blk wr w0.heap.size 22 #[.slice b H.length cap] ∧ Blk wr (w0.heap.size + 1) 89 #[.int .i64 k] ∧ Blk wr (w0.heap.size + 1 + 1) 3 #[.int .i64 (mustTo H j)]
theorem LRel.more {k : Int} {H : List Cal} {b : Option Addr} {cap j m : Nat} {w0 wr : World} {c : Cal} (hc : H[j]? = some c) (hm : m = mustTo H (j + 1)) (hr : rightF k c = true) (ho : ∀ c, c ∈ H.take j → rightF k c = true) (hb : Below w0.heap.size w0 wr) (h1 : Blk wr w0.heap.size 22 #[.slice b H.length cap]) (h2 : Blk wr (w0.heap.size + 1) 89 #[.int .i64 k]) (h3 : Blk wr (w0.heap.size + 1 + 1) 3 #[.int .i64 m]) :
    LRel k H b cap w0 (.int .i64 ((j : Int) + 1)) wr := by
  have hj : j < H.length := by
    rcases Nat.lt_or_ge j H.length with h | h
    · exact h
    · rw [List.getElem?_eq_none h] at hc
      cases hc
  refine ⟨j + 1, hj, by rw [Int.natCast_add]; rfl, fun x hx => ?_, hb, h1, h2, by rw [← hm]; exact h3⟩
  rw [getElem_take hc, List.mem_append] at hx
  rcases hx with hx | hx
  · exact ho x hx
  · rw [List.mem_singleton.1 hx]
    exact hr
theorem linOf_bad {k : Int} {H : List Cal} {j : Nat} {c : Cal} (hk : 1 ≤ k ∧ k ≤ 4) (h12 : ¬ 12 < H.length) (hc : H[j]? = some c) (hr : rightF k c = false) : linOf k H = (none, 32) := by
  unfold linOf
  rw [if_neg (by simp [hk]), if_neg h12, if_neg]
  intro h
  rw [List.all_eq_true] at h
  have := h c (List.mem_of_getElem? hc)
  rw [hr] at this
  cases this
theorem mustTo_add {H : List Cal} {j : Nat} {c : Cal} (hc : H[j]? = some c) (hf : ¬ c.fin = -1) : mustTo H j ||| 2 ^ j = mustTo H (j + 1) := by
  rw [mustTo, hc]; simp only []; rw [if_neg hf]
theorem mustTo_same {H : List Cal} {j : Nat} {c : Cal} (hc : H[j]? = some c) (hf : c.fin = -1) : mustTo H j = mustTo H (j + 1) := by
  rw [mustTo, hc]; simp only []; rw [if_pos hf]
theorem or_shift {m j : Nat} (hm : m < 4096) (hj : j < 12) : bits .or .i64 (m : Int) (wrap64 (2 ^ j)) = ((m ||| 2 ^ j : Nat) : Int) := by
  have h2 : 2 ^ j < 2 ^ 12 := Nat.pow_lt_pow_right (by decide) hj
  have h3 : 2 ^ j < 4096 := h2
  have e : (2 : Int) ^ j = ((2 ^ j : Nat) : Int) := by simp
  rw [e]
  generalize 2 ^ j = z at h3
  rw [show wrap64 (z : Int) = z by unfold wrap64; omega, or_i64 m z hm (by omega)]
theorem LinPost.no {k : Int} {H : List Cal} {w w' : World} {x : Int} (h : linOf k H = (none, x)) (hb : Below w.heap.size w w') : LinPost k H w (.returned (.tuple #[.slice none 0 0, .bool false, .int .i64 x])) w' :=
  ⟨hb, .slice none 0 0, by rw [h]; rfl, by rw [h]; exact World.ownsRow_nil _ _ _ _⟩
/-- The world in which the search begins. -/
def linW (wr : World) (bm bh bk : Nat) : World :=
  ((((wr.alloc (.map #[] 0)).alloc (.cells #[.map (some wr.heap.size)] 91)).alloc (.cells #[.slice none 0 0] 27)).alloc
    (.cells #[.func (.func 42) #[] #[.pointer (some ⟨bm, 0, none⟩), .pointer (some ⟨wr.heap.size + 1, 0, none⟩), .pointer (some ⟨bh, 0, none⟩), .pointer (some ⟨bk, 0, none⟩), .pointer (some ⟨wr.heap.size + 1 + 1, 0, none⟩), .pointer (some ⟨wr.heap.size + 1 + 1 + 1, 0, none⟩)]] 92)).alloc
    (.cells #[.int .i64 0] 2)
def linE (wr : World) (bm bh bk : Nat) : Env := ⟨bm, wr.heap.size + 1, bh, bk, wr.heap.size + 1 + 1, wr.heap.size + 1 + 1 + 1, wr.heap.size⟩
theorem linW_size (wr : World) (bm bh bk : Nat) : (linW wr bm bh bk).heap.size = wr.heap.size + 1 + 1 + 1 + 1 + 1 := by simp [linW]
theorem linW_below (wr : World) (bm bh bk : Nat) : Below wr.heap.size wr (linW wr bm bh bk) :=
  ((((((Below.refl _ _).alloc (Nat.le_refl _) _).alloc (by simp) _).alloc (by simp; omega) _).alloc (by simp; omega) _).alloc (by simp; omega) _)
theorem linW_from {wr w : World} {k : Int} {H : List Cal} {b : Option Addr} {cap must : Nat} (hC : CallsAt w w.heap.size b H) (hbel : Below w.heap.size w wr) (hb : ∀ g off, b = some ⟨g, off, none⟩ → g < w.heap.size) (hT : Tens w)
    (h1 : Blk wr w.heap.size 22 #[.slice b H.length cap]) (h2 : Blk wr (w.heap.size + 1) 89 #[.int .i64 k]) (h3 : Blk wr (w.heap.size + 1 + 1) 3 #[.int .i64 must]) :
    FromAt (linW wr (w.heap.size + 1 + 1) w.heap.size (w.heap.size + 1)) (wr.heap.size + 1 + 1 + 1 + 1) (linE wr (w.heap.size + 1 + 1) w.heap.size (w.heap.size + 1)) k H must 0 [] [] := by
  have B := linW_below wr (w.heap.size + 1 + 1) w.heap.size (w.heap.size + 1)
  have l1 := h1.lt
  have l2 := h2.lt
  have l3 := h3.lt
  have hT2 : Tens wr := hT.of fun q hq _ => hbel.block q hq
  refine ⟨h3.below B l3, ?_, ?_, h2.below B l2, ?_, ?_, ?_, hT2.below B, ?_, ?_, ?_, ?_⟩
  · exact (((Blk.new' (wr.alloc _) _ _ _ (by simp [linE])).alloc _).alloc _).alloc _
  · refine ⟨b, cap, h1.below B l1, ((((hC.of hbel).mono hbel.size).of B).mono (by omega)), fun g off e => ?_⟩
    have := hb g off e
    simp only [linE]
    omega
  · exact (Blk.new' (((wr.alloc _).alloc _).alloc _) _ _ _ (by simp [linE])).alloc _
  · exact ⟨.slice none 0 0, ((Blk.new' ((wr.alloc _).alloc _) _ _ _ (by simp [linE])).alloc _).alloc _, World.ownsRow_nil _ _ _ _⟩
  · refine (SeenIn.made wr).kept (S := fun _ => False) (Kept.of_below ?_) id
    exact (((((Below.refl _ _).alloc (Nat.le_refl _) _).alloc (by simp) _).alloc (by simp <;> omega) _).alloc (by simp <;> omega) _)
  · intro q hq
    have hlt : q < w.heap.size := by
      unfold Tens Lib.TabIs World.var? at hT
      rw [hq] at hT
      simp only [Option.bind_some] at hT
      rcases Nat.lt_or_ge q w.heap.size with h' | h'
      · exact h'
      · simp [Array.getElem?_eq_none h'] at hT
    simp only [linE]
    omega
  · simp only [linE]
    omega
  · simp only [linE]
    omega
  · rw [linW_size]
    omega
theorem lin_len (k : Int) (H : List Cal) (must : Nat) : ∀ (n d : Nat) (hs : List Int) (l : List Nat), lin k H must n d hs = some l → l.length ≤ n := by
  intro n
  induction n with
  | zero =>
    intro d hs l h
    rw [lin] at h
    split at h
    · injection h with h
      subst h
      simp
    · cases h
  | succ n ih =>
    intro d hs l h
    rw [lin] at h
    split at h
    · injection h with h
      subst h
      simp
    · obtain ⟨i, _, hi⟩ := List.exists_of_findSome?_eq_some h
      split at hi
      · cases hi
      · split at hi
        · simp only [Option.map_eq_some_iff] at hi
          obtain ⟨l', h1, rfl⟩ := hi
          have := ih _ _ _ h1
          simp only [List.length_cons]
          omega
        · cases hi
theorem Lin_len {k : Int} {H : List Cal} {must d : Nat} {hs : List Int} {l : List Nat} (h : Lin k H must d hs = some l) : l.length ≤ 4096 := Nat.le_trans (lin_len k H must _ d hs l h) (by omega)
theorem linOf_good {k : Int} {H : List Cal} {x : Option (List Nat)} (hk : 1 ≤ k ∧ k ≤ 4) (h12 : ¬ 12 < H.length) (hr : ∀ c, c ∈ H → rightF k c = true) (hx : x = Lin k H (mustOf H) 0 (begins k)) : linOf k H = (x, 0) := by
  unfold linOf
  rw [if_neg (by simp [hk]), if_neg h12, if_pos (by rw [List.all_eq_true]; exact hr), hx]
theorem lin_below {w wr W w7 : World} {bm bh bk : Nat} (h1 : Below w.heap.size w wr) (h2 : Below wr.heap.size wr W) (h3 : Frm (wr.heap.size + 1 + 1 + 1 + 1) (linE wr bm bh bk) W w7) : Below w.heap.size w w7 := by
  have h4 : Below wr.heap.size W w7 := Kept.below h3 h2.size fun q hq => by
    rcases hq with hq | hq | ⟨hq, _⟩
    · simp only [linE] at hq
      omega
    · simp only [linE] at hq
      omega
    · omega
  exact h1.trans ((h2.trans h4).mono h1.size)
theorem thing_nil (w : World) : ThingAt w (.slice none 0 0) [] := ⟨none, 0, rfl, Nat.le_refl _, fun _ => rfl, ⟨fun _ h => (by cases h), fun _ _ h => (by cases h)⟩⟩
theorem thing_zero {wr W : World} {bm bh bk : Nat} (h : W = linW wr bm bh bk) : ThingAt W (.slice (some ⟨wr.heap.size + 1 + 1 + 1 + 1, 0, none⟩) 1 1) [0] := by
  have hb : Blk W (wr.heap.size + 1 + 1 + 1 + 1) 2 #[.int .i64 0] := by
    rw [h]
    exact Blk.new' ((((wr.alloc _).alloc _).alloc _).alloc _) _ _ _ (by simp)
  refine ⟨_, _, rfl, Nat.le_refl _, fun h => (by cases h), ⟨fun x hx => ?_, fun i x hx => ?_⟩⟩
  · rw [List.mem_singleton.1 hx]
    unfold i64of
    omega
  · cases i with
    | zero =>
      simp only [List.getElem?_cons_zero, Option.some.injEq] at hx
      subst hx
      exact ⟨_, _, rfl, hb.lt, ⟨_, _, hb⟩, hb.cell 0⟩
    | succ i => simp at hx
set_option maxHeartbeats 600000 in
theorem linear_any (k : Int) (hk : i64of k) (b : Option Addr) (cap : Nat) (H : List Cal) (hcap : H.length ≤ 9223372036854775807) (w : World) (hC : CallsAt w w.heap.size b H) (hb : ∀ g off, b = some ⟨g, off, none⟩ → g < w.heap.size) (hT : Tens w) :
    Calls Tryd.prog 12 #[.int .i64 k, .slice b H.length cap] w (LinPost k H w) := by
  have HC := Lib.hid hC
  have HB := Lib.hid hb
  have HT := Lib.hid hT
  obtain ⟨hk0, hk1⟩ := hk
  clear hC hb hT
  go_enter Tryd.func12, Tryd.ntmps12
  by_cases h1 : 1 ≤ k
  · by_cases h4 : k ≤ 4
    · by_cases h12 : 12 < H.length
      · have hx : decide (12 < H.length) = true := by simpa using h12
        go_wp2_with fail
        refine bodyPost_ret (v := .tuple #[.slice none 0 0, .bool false, .int .i64 33]) (by simp [results, Tryd.results12, go_sem]) rfl (LinPost.no (by unfold linOf; rw [if_neg (by simp [h1, h4]), if_pos h12]) (two_below' _ _))
      · have hx : decide (12 < H.length) = false := by simpa using h12
        go_wp2_with fail
        clear hx
        go_loopw [27] (fun i wr => LRel k H b cap w i wr) (fun i _ => H.length - (intOf i).toNat)
        case atStart => exact ⟨0, Nat.zero_le _, rfl, by intro c hc; simp at hc, (two_below' _ _).alloc (Nat.le_trans (by omega) (two_below' (w := w) _ _).size) _, ((Blk.new w _ _).alloc _).alloc _, (Blk.new' (w.alloc _) _ _ _ (by simp)).alloc _, Blk.new' ((w.alloc _).alloc _) _ _ _ (by simp)⟩
        case round =>
          obtain ⟨j, hj, rfl, hri, hbel, hb0, hb1, hb2⟩ := hrel
          have HRI := Lib.hid hri
          have HBE := Lib.hid hbel
          have HB0 := Lib.hid hb0
          have HB1 := Lib.hid hb1
          have HB2 := Lib.hid hb2
          clear hri hbel hb0 hb1 hb2
          by_cases hlt : j < H.length
          · have hx : decide (j < H.length) = true := by simpa using hlt
            obtain ⟨c, hcj⟩ : ∃ c, H[j]? = some c := ⟨H[j], List.getElem?_eq_getElem hlt⟩
            obtain ⟨g, off, hga, hg, hA⟩ := (HC.out.of HBE.out).at_ j c hcj
            subst hga
            obtain ⟨g0, g1, g2, g3, g4, g5, g6⟩ := hA
            have HCJ := Lib.hid hcj
            clear hcj
            have c1 := HB1.out.cell 0
            have hl1 := HB1.out.lt
            have hl2 := HB2.out.lt
            by_cases hr : rightF k c = true
            · by_cases hfin : c.fin = -1
              · have HFI := Lib.hid hfin
                clear hfin
                go_wp2_with (go_at_call 41; refine (right_any k c _).mono ?_; rintro e w1 ⟨he, hb1⟩; rw [hr] at he; subst he; have HK1 := Lib.hid (Below.mono_size (one_below' (w := wr) (.cells (calA c) 58)) hb1); have HC1 := Lib.hid ((Blk.new wr 58 (calA c)).below hb1 (by simp)); clear hb1; have p6 : w1.cell? ⟨wr.heap.size, 6, none⟩ = some (.int .i64 c.fin) := HC1.out.cell 6; have hfin := HFI.out)
                exact ⟨LRel.more HCJ.out (mustTo_same HCJ.out HFI.out) hr HRI.out (HBE.out.trans (HK1.out.mono HBE.out.size)) (HB0.out.below HK1.out HB0.out.lt) (HB1.out.below HK1.out HB1.out.lt) (HB2.out.below HK1.out HB2.out.lt), by simp [intOf]; omega⟩
              · have HFI := Lib.hid hfin
                clear hfin
                go_wp2_with (go_at_call 41; refine (right_any k c _).mono ?_; rintro e w1 ⟨he, hb1⟩; rw [hr] at he; subst he; have HK1 := Lib.hid (Below.mono_size (one_below' (w := wr) (.cells (calA c) 58)) hb1); have HC1 := Lib.hid ((Blk.new wr 58 (calA c)).below hb1 (by simp)); clear hb1; have p6 : w1.cell? ⟨wr.heap.size, 6, none⟩ = some (.int .i64 c.fin) := HC1.out.cell 6; have hfin := HFI.out; have HM1 := Lib.hid (HB2.out.below HK1.out HB2.out.lt); have q0 := HM1.out.cell 0; have q1 := HM1.out.frozen 0)
                go_region
                go_wp2_with fail
                rw [or_shift (mustTo_small H j (by omega)) (by omega)]
                exact ⟨LRel.more HCJ.out (mustTo_add HCJ.out HFI.out) hr HRI.out (((HBE.out.trans (HK1.out.mono HBE.out.size)).setCell (by simp; omega) _).drew) ((HB0.out.below HK1.out HB0.out.lt).far (by simp; omega) _) ((HB1.out.below HK1.out HB1.out.lt).far (by simp) _) (HM1.out.set_ 0 _), by simp [intOf]; omega⟩
            · have hr : rightF k c = false := by simpa using hr
              go_wp2_with (go_at_call 41; refine (right_any k c _).mono ?_; rintro e w1 ⟨he, hb1⟩; rw [hr] at he; subst he; have HK1 := Lib.hid (Below.mono_size (one_below' (w := wr) (.cells (calA c) 58)) hb1); clear hb1)
              exact bodyPost_ret (v := .tuple #[.slice none 0 0, .bool false, .int .i64 32]) (by simp [results, Tryd.results12, go_sem]) rfl (LinPost.no (linOf_bad ⟨h1, h4⟩ h12 HCJ.out hr) (HBE.out.trans (HK1.out.mono HBE.out.size)))
          · have hx : decide (j < H.length) = false := by simpa using hlt
            have hmm := @run_makeMap Tryd.prog
            have c1 := HB1.out.cell 0
            have hl1 := HB1.out.lt
            have hl2 := HB2.out.lt
            go_upto_region 20 with (fail)
            have hj' : j = H.length := by omega
            subst hj'
            obtain ⟨W, hW⟩ : ∃ W, W = linW wr (w.heap.size + 1 + 1) w.heap.size (w.heap.size + 1) := ⟨_, rfl⟩
            have hFW := linW_from (k := k) HC.out HBE.out HB.out HT.out HB0.out HB1.out HB2.out
            rw [← hW] at hFW
            have HFW := Lib.hid hFW
            have hBW := linW_below wr (w.heap.size + 1 + 1) w.heap.size (w.heap.size + 1)
            rw [← hW] at hBW
            have HBW := Lib.hid hBW
            have hSW := linW_size wr (w.heap.size + 1 + 1) w.heap.size (w.heap.size + 1)
            rw [← hW] at hSW
            have HSW := Lib.hid hSW
            have HZW := Lib.hid (thing_zero hW)
            unfold linW at hW
            rw [← hW]
            clear hW hFW hBW hSW c1 hl1 hl2 hmm
            have q0 : W.cell? ⟨w.heap.size + 1, 0, none⟩ = some (.int .i64 k) := HFW.out.k.cell 0
            have q1 : W.cell? ⟨wr.heap.size + 1 + 1 + 1, 0, none⟩ = some (.func (.func 42) #[] (linE wr (w.heap.size + 1 + 1) w.heap.size (w.heap.size + 1)).args) := HFW.out.f.cell 0
            have HRR : Hid (∀ c, c ∈ H → rightF k c = true) := Lib.hid (by have h := HRI.out; rwa [List.take_of_length_le (Nat.le_refl _)] at h)
            obtain ⟨ans, hans⟩ : ∃ x, x = Lin k H (mustOf H) 0 (begins k) := ⟨_, rfl⟩
            have HLO := Lib.hid (linOf_good ⟨h1, h4⟩ h12 HRR.out hans)
            have hfrom := fun v hv => from_any (wr.heap.size + 1 + 1 + 1 + 1) (linE wr (w.heap.size + 1 + 1) w.heap.size (w.heap.size + 1)) k ⟨h1, h4⟩ H (by omega) HC.out.wf (mustOf H) (mustTo_small H H.length (by omega)) 12 0 0 v (begins k) [] [] W (by omega) (by omega) (by unfold begins; split <;> simp) (by intro h; unfold begins; rw [if_neg (by omega)]; rfl) (by have := nodes_12; omega) (by simp) HFW.out hv (fun s hs => by cases hs)
            rw [← hans] at hfrom
            have HFR := Lib.hid hfrom
            have HAN := Lib.hid hans
            clear hans hfrom
            by_cases hk2 : k ≤ 2
            · have HV : Hid (ThingAt W (.slice none 0 0) (begins k)) := Lib.hid (by unfold begins; rw [if_pos hk2]; exact thing_nil W)
              cases ans with
              | none =>
                go_wp2_with (go_at_call 42; refine (HFR.out _ HV.out).mono ?_; rintro e w7 ⟨rfl, hleft⟩)
                obtain ⟨n7, seen7, ord7, hF7, hn7, hf7, ho7⟩ := hleft
                exact bodyPost_ret (v := .tuple #[.slice none 0 0, .bool false, .int .i64 0]) (by simp [results, Tryd.results12, go_sem]) rfl (LinPost.no HLO.out (lin_below HBE.out HBW.out hf7))
              | some l =>
                go_wp2_with (first
                  | (go_at_call 42; refine (HFR.out _ HV.out).mono ?_; rintro e w7 ⟨rfl, hleft⟩; obtain ⟨n7, seen7, ord7, hF7, hn7, hf7, ho7⟩ := hleft; simp only [List.nil_append] at ho7; subst ho7; obtain ⟨vo, hb7, hown7⟩ := hF7.o; have HF7 := Lib.hid hf7; have HO7 := Lib.hid hown7; have d0 : w7.cell? ⟨wr.heap.size + 1 + 1, 0, none⟩ = some vo := hb7.cell 0; clear hF7 hn7 hf7 hb7 hown7)
                  | (go_at_call 46; refine (clone_own HO7.out (by have := Lin_len HAN.out.symm; omega)).mono ?_; rintro e w8 ⟨v8, rfl, hown8, hb8⟩; have HO8 := Lib.hid hown8; have HB8 := Lib.hid hb8; clear hown8 hb8))
                refine bodyPost_ret (v := .tuple #[v8, .bool true, .int .i64 0]) (by simp [results, Tryd.results12, go_sem]) rfl ?_
                have hb := lin_below HBE.out HBW.out HF7.out
                refine ⟨hb.trans (HB8.out.mono hb.size), v8, by rw [HLO.out]; rfl, ?_⟩
                rw [HLO.out]
                exact own_mono HO8.out hb.size
            · have HV : Hid (ThingAt W (.slice (some ⟨wr.heap.size + 1 + 1 + 1 + 1, 0, none⟩) 1 1) (begins k)) := Lib.hid (by unfold begins; rw [if_neg hk2]; exact HZW.out)
              cases ans with
              | none =>
                go_wp2_with (go_at_call 42; refine (HFR.out _ HV.out).mono ?_; rintro e w7 ⟨rfl, hleft⟩)
                obtain ⟨n7, seen7, ord7, hF7, hn7, hf7, ho7⟩ := hleft
                exact bodyPost_ret (v := .tuple #[.slice none 0 0, .bool false, .int .i64 0]) (by simp [results, Tryd.results12, go_sem]) rfl (LinPost.no HLO.out (lin_below HBE.out HBW.out hf7))
              | some l =>
                go_wp2_with (first
                  | (go_at_call 42; refine (HFR.out _ HV.out).mono ?_; rintro e w7 ⟨rfl, hleft⟩; obtain ⟨n7, seen7, ord7, hF7, hn7, hf7, ho7⟩ := hleft; simp only [List.nil_append] at ho7; subst ho7; obtain ⟨vo, hb7, hown7⟩ := hF7.o; have HF7 := Lib.hid hf7; have HO7 := Lib.hid hown7; have d0 : w7.cell? ⟨wr.heap.size + 1 + 1, 0, none⟩ = some vo := hb7.cell 0; clear hF7 hn7 hf7 hb7 hown7)
                  | (go_at_call 46; refine (clone_own HO7.out (by have := Lin_len HAN.out.symm; omega)).mono ?_; rintro e w8 ⟨v8, rfl, hown8, hb8⟩; have HO8 := Lib.hid hown8; have HB8 := Lib.hid hb8; clear hown8 hb8))
                refine bodyPost_ret (v := .tuple #[v8, .bool true, .int .i64 0]) (by simp [results, Tryd.results12, go_sem]) rfl ?_
                have hb := lin_below HBE.out HBW.out HF7.out
                refine ⟨hb.trans (HB8.out.mono hb.size), v8, by rw [HLO.out]; rfl, ?_⟩
                rw [HLO.out]
                exact own_mono HO8.out hb.size
    · go_wp2_with fail
      refine bodyPost_ret (v := .tuple #[.slice none 0 0, .bool false, .int .i64 1]) (by simp [results, Tryd.results12, go_sem]) rfl (LinPost.no (by unfold linOf; rw [if_pos (by omega)]) (two_below' _ _))
  · go_wp2_with fail
    refine bodyPost_ret (v := .tuple #[.slice none 0 0, .bool false, .int .i64 1]) (by simp [results, Tryd.results12, go_sem]) rfl (LinPost.no (by unfold linOf; rw [if_pos (by omega)]) (two_below' _ _))
end Go.Proofs.YtonnlgpjobfnmaaDoor
/- The search for an order finds one where there is one, and what it finds is one: plain law. No conditions. -/
namespace Go.Proofs.YtonnlgpjobfnmaaDoor
open Go.RowKit
/-- An order of calls, each of which may be done next, behind which all is done. -/
def Way (k : Int) (H : List Cal) (must : Nat) : Nat → List Int → List Nat → Prop
  | d, _, [] => d &&& must = must
  | d, hs, i :: l => d &&& must ≠ must ∧ ∃ c, H[i]? = some c ∧ okStep k H d hs i c = true ∧ Way k H must (bitSet d i) (doesF k hs c).1 l
/-- What is found is such an order. -/
theorem Way.of_lin {k : Int} {H : List Cal} {must : Nat} : ∀ (n d : Nat) (hs : List Int) (l : List Nat), lin k H must n d hs = some l → Way k H must d hs l := by
  intro n
  induction n with
  | zero =>
    intro d hs l h
    rw [lin] at h
    split at h
    · rename_i hd
      injection h with h
      subst h
      exact hd
    · cases h
  | succ n ih =>
    intro d hs l h
    rw [lin] at h
    split at h
    · rename_i hd
      injection h with h
      subst h
      exact hd
    · rename_i hd
      obtain ⟨i, _, hi⟩ := List.exists_of_findSome?_eq_some h
      split at hi
      · cases hi
      · rename_i c hc
        split at hi
        · rename_i ho
          simp only [Option.map_eq_some_iff] at hi
          obtain ⟨l', h1, rfl⟩ := hi
          exact ⟨hd, c, hc, ho, ih _ _ _ h1⟩
        · cases hi
/-- Where there is such an order one is found. -/
theorem Way.lin_some {k : Int} {H : List Cal} {must : Nat} : ∀ (l : List Nat) (n d : Nat) (hs : List Int), l.length ≤ n → Way k H must d hs l → ∃ r, lin k H must n d hs = some r := by
  intro l
  induction l with
  | nil =>
    intro n d hs _ h
    refine ⟨[], ?_⟩
    rw [lin.eq_def]
    have h' : d &&& must = must := h
    simp [h']
  | cons i l ih =>
    intro n d hs hn h
    obtain ⟨hd, c, hc, ho, hw⟩ := h
    obtain ⟨n, rfl⟩ : ∃ m, n = m + 1 := ⟨n - 1, by simp at hn; omega⟩
    rw [lin, if_neg hd]
    obtain ⟨r, hr⟩ := ih n _ _ (by simpa using hn) hw
    have hi : i < H.length := (List.getElem?_eq_some_iff.1 hc).1
    cases hf : (List.range H.length).findSome? (fun i => match H[i]? with
      | none => none
      | some c => if okStep k H d hs i c then (lin k H must n (bitSet d i) (doesF k hs c).1).map (i :: ·) else none) with
    | some r' => exact ⟨r', rfl⟩
    | none =>
      rw [List.findSome?_eq_none_iff] at hf
      have := hf i (by simpa using hi)
      rw [hc] at this
      simp only [ho, if_true, hr, Option.map_some] at this
      cases this
/-- Where it stands behind i calls. -/
def stAt (k : Int) (H : List Cal) : Nat → List Int
  | 0 => begins k
  | i + 1 => match H[i]? with
    | some c => (doesF k (stAt k H i) c).1
    | none => stAt k H i
theorem pow_bits (i j : Nat) : (2 ^ i - 1).testBit j = decide (j < i) := by rw [Nat.testBit_two_pow_sub_one]
theorem bitSet_pow (i : Nat) : bitSet (2 ^ i - 1) i = 2 ^ (i + 1) - 1 := by
  apply Nat.eq_of_testBit_eq
  intro j
  unfold bitSet
  rw [Nat.testBit_or, pow_bits, pow_bits, Nat.testBit_two_pow, ← Bool.decide_or]
  apply decide_eq_decide.2
  omega
/-- The bits of the calls that must be done. -/
theorem mustTo_bit (H : List Cal) : ∀ n j, (mustTo H n).testBit j = true ↔ j < n ∧ ∃ c, H[j]? = some c ∧ ¬ c.fin = -1
  | 0, j => by simp [mustTo]
  | n + 1, j => by
    have ih := mustTo_bit H n j
    unfold mustTo
    split
    · rename_i c hc
      split
      · rename_i hf
        rw [ih]
        constructor
        · rintro ⟨h1, h2⟩
          exact ⟨by omega, h2⟩
        · rintro ⟨h1, c', h2, h3⟩
          by_cases e : j = n
          · subst e
            rw [hc] at h2
            injection h2 with h2
            subst h2
            exact absurd hf h3
          · exact ⟨by omega, c', h2, h3⟩
      · rename_i hf
        rw [Nat.testBit_or, Nat.testBit_two_pow, Bool.or_eq_true, ih, decide_eq_true_eq]
        constructor
        · rintro (⟨h1, h2⟩ | e)
          · exact ⟨by omega, h2⟩
          · subst e
            exact ⟨by omega, c, hc, hf⟩
        · rintro ⟨h1, h2⟩
          by_cases e : n = j
          · exact .inr e
          · exact .inl ⟨by omega, h2⟩
    · rename_i hc
      rw [ih]
      constructor
      · rintro ⟨h1, h2⟩
        exact ⟨by omega, h2⟩
      · rintro ⟨h1, c', h2, h3⟩
        by_cases e : j = n
        · subst e
          rw [hc] at h2
          cases h2
        · exact ⟨by omega, c', h2, h3⟩
/-- All calls end: all must be done. -/
theorem must_all {H : List Cal} (hf : ∀ c, c ∈ H → ¬ c.fin = -1) (d : Nat) : d &&& mustOf H = mustOf H ↔ ∀ j, j < H.length → d.testBit j = true := by
  constructor
  · intro h j hj
    have hb : (mustOf H).testBit j = true := (mustTo_bit H H.length j).2 ⟨hj, H[j], List.getElem?_eq_getElem hj, hf _ (List.getElem_mem hj)⟩
    have := congrArg (fun x => x.testBit j) h
    simp only [Nat.testBit_and, hb, Bool.and_true] at this
    exact this
  · intro h
    apply Nat.eq_of_testBit_eq
    intro j
    rw [Nat.testBit_and]
    cases hb : (mustOf H).testBit j with
    | false => simp
    | true =>
      have := h j ((mustTo_bit H H.length j).1 hb).1
      simp [this]
/-- Calls that were done one behind the other, each at its turn. -/
structure Done1 (k : Int) (H : List Cal) : Prop where
  ends : ∀ c, c ∈ H → ¬ c.fin = -1
  ans : ∀ (i : Nat) (c : Cal), H[i]? = some c → (doesF k (stAt k H i) c).2 = c
  time : ∀ (i j : Nat) (c e : Cal), H[i]? = some c → H[j]? = some e → i ≤ j → ¬ e.fin < c.beg
theorem Done1.way {k : Int} {H : List Cal} (D : Done1 k H) : ∀ (n i : Nat), i + n = H.length → Way k H (mustOf H) (2 ^ i - 1) (stAt k H i) ((List.range n).map (i + ·)) := by
  intro n
  induction n with
  | zero =>
    intro i hi
    show (2 ^ i - 1) &&& mustOf H = mustOf H
    rw [must_all D.ends]
    intro j hj
    rw [pow_bits, decide_eq_true_eq]
    omega
  | succ n ih =>
    intro i hi
    obtain ⟨c, hc⟩ : ∃ c, H[i]? = some c := ⟨H[i]'(by omega), List.getElem?_eq_getElem (by omega)⟩
    have h1 := ih (i + 1) (by omega)
    have e : (List.range (n + 1)).map (i + ·) = i :: (List.range n).map (i + 1 + ·) := by
      rw [List.range_succ_eq_map, List.map_cons, List.map_map]
      congr 1
      apply List.map_congr_left
      intro x _
      simp only [Function.comp]
      omega
    rw [e]
    refine ⟨?_, c, hc, ?_, ?_⟩
    · intro h
      have := (must_all D.ends _).1 h i (by omega)
      rw [pow_bits] at this
      simp at this
    · have hl : lateB H (2 ^ i - 1) c = false := by
        unfold lateB
        rw [List.any_eq_false]
        intro j hj
        have hj : j < H.length := by simpa using hj
        rw [List.getElem?_eq_getElem hj]
        simp only [ahd, pow_bits, Bool.and_eq_true, Bool.not_eq_true', decide_eq_false_iff_not, decide_eq_true_eq, not_and]
        intro h2
        exact D.time i j c _ hc (List.getElem?_eq_getElem hj) (by omega)
      simp [okStep, hl, D.ans i c hc]
    · rw [bitSet_pow]
      have e2 : (doesF k (stAt k H i) c).1 = stAt k H (i + 1) := by
        rw [stAt, hc]
      rw [e2]
      exact h1
theorem Done1.lin {k : Int} {H : List Cal} (D : Done1 k H) (hH : H.length ≤ 12) : ∃ r, Lin k H (mustOf H) 0 (begins k) = some r := by
  have h := D.way H.length 0 (by omega)
  exact Way.lin_some _ 4096 0 (begins k) (by simp; omega) h
/-- What is told of an order that was found. -/
theorem Way.facts {k : Int} {H : List Cal} {must : Nat} : ∀ (l : List Nat) (d : Nat) (hs : List Int), Way k H must d hs l → (∀ i, i ∈ l → i < H.length ∧ d.testBit i = false) ∧ l.Nodup ∧ (l.foldl bitSet d) &&& must = must
  | [], d, hs, h => ⟨by simp, List.nodup_nil, h⟩
  | i :: l, d, hs, h => by
    obtain ⟨hd, c, hc, ho, hw⟩ := h
    obtain ⟨h1, h2, h3⟩ := Way.facts l _ _ hw
    have hi : i < H.length := (List.getElem?_eq_some_iff.1 hc).1
    have hb := okStep_bit ho
    have key : ∀ j, j ∈ l → j ≠ i ∧ d.testBit j = false := fun j hj => by
      have := (h1 j hj).2
      unfold bitSet at this
      rw [Nat.testBit_or, Nat.testBit_two_pow, Bool.or_eq_false_iff] at this
      exact ⟨fun e => by rw [e] at this; simp at this, this.1⟩
    refine ⟨fun j hj => ?_, List.nodup_cons.2 ⟨fun hj => (key i hj).1 rfl, h2⟩, h3⟩
    rcases List.mem_cons.1 hj with rfl | hj
    · exact ⟨hi, hb⟩
    · exact ⟨(h1 j hj).1, (key j hj).2⟩
theorem foldl_bit (l : List Nat) (d j : Nat) : (l.foldl bitSet d).testBit j = (d.testBit j || decide (j ∈ l)) := by
  induction l generalizing d with
  | nil => simp
  | cons i l ih =>
    rw [List.foldl_cons, ih]
    unfold bitSet
    rw [Nat.testBit_or, Nat.testBit_two_pow]
    by_cases e : i = j
    · subst e
      simp
    · have e2 : ¬ j = i := fun h => e h.symm
      simp [e, e2]
theorem nodup_len {n : Nat} {l : List Nat} (h1 : l.Nodup) (h2 : ∀ i, i ∈ l ↔ i < n) : l.length = n := by
  have hp : l.Perm (List.range n) := by
    rw [List.perm_ext_iff_of_nodup h1 List.nodup_range]
    intro a
    rw [h2]
    simp
  rw [hp.length_eq, List.length_range]
/-- All calls end: each stands once in an order that was found. -/
theorem Way.whole {k : Int} {H : List Cal} {hs : List Int} {l : List Nat} (hf : ∀ c, c ∈ H → ¬ c.fin = -1) (h : Way k H (mustOf H) 0 hs l) : l.length = H.length := by
  obtain ⟨h1, h2, h3⟩ := Way.facts l 0 hs h
  refine nodup_len h2 fun i => ⟨fun hi => (h1 i hi).1, fun hi => ?_⟩
  have := (must_all hf _).1 h3 i hi
  rw [foldl_bit] at this
  simpa using this
end Go.Proofs.YtonnlgpjobfnmaaDoor
