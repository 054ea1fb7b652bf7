/- judge.Clocks: lists of their own. Conditions: a log of 2048 entries at most. -/
import Derived.Test.YtonnlgpjobfnmaaDoorKRefF
namespace Go.Proofs.YtonnlgpjobfnmaaDoor
open Go.RowKit
set_option maxRecDepth 100000
/-- A list of lists of ints, all of their own. -/
structure ORows (w : World) (base : Nat) (v : Value) (Xs : List (List Int)) : Prop where
  rows : ∃ xs, w.ownsRow base 27 1 v Xs.length xs ∧ (∀ (i : Nat) X x, Xs[i]? = some X → xs[i]? = some x → w.ownsRow base 3 1 x X.length (X.map fun y => .int .i64 y)) ∧
    ∀ (i j : Nat) x y q, xs[i]? = some x → xs[j]? = some y → x.ownBlock = some q → y.ownBlock = some q → i = j
theorem ORows.nil (w : World) (base : Nat) : ORows w base (.slice none 0 0) [] := ⟨[], World.ownsRow_nil _ _ _ _, fun i X x h => by simp at h, fun i j x y q h => by simp at h⟩
theorem ORows.same {S : Nat → Prop} {w w' : World} {base : Nat} {v : Value} {Xs : List (List Int)} (h : ORows w base v Xs) (k : Kept S w w') (hS : ∀ q, S q → ∀ cs, ¬ Blk w q 3 cs ∧ ¬ Blk w q 27 cs) : ORows w' base v Xs := by
  obtain ⟨xs, h1, h2, h3⟩ := h
  exact ⟨xs, row_same h1 fun q cs _ hB => k.block q hB.lt fun e => (hS q e cs).2 hB, fun i X x hX hx => row_same (h2 i X x hX hx) fun q cs _ hB => k.block q hB.lt fun e => (hS q e cs).1 hB, h3⟩
theorem ORows.mono {w : World} {base b' : Nat} {v : Value} {Xs : List (List Int)} (h : ORows w base v Xs) (hb : b' ≤ base) : ORows w b' v Xs := by
  obtain ⟨xs, h1, h2, h3⟩ := h
  exact ⟨xs, own_mono h1 hb, fun i X x hX hx => own_mono (h2 i X x hX hx) hb, h3⟩
/-- A list more. -/
theorem ORows.app {w w1 w8 : World} {o : Obj} {base : Nat} {v v8 x : Value} {Xs : List (List Int)} {X : List Int} {xs : List Value} (h1 : w1.ownsRow base 27 1 v Xs.length xs) (h2 : ∀ (i : Nat) X x, Xs[i]? = some X → xs[i]? = some x → w.ownsRow base 3 1 x X.length (X.map fun y => .int .i64 y))
    (h3 : ∀ (i j : Nat) x y q, xs[i]? = some x → xs[j]? = some y → x.ownBlock = some q → y.ownBlock = some q → i = j) (hb : Below w.heap.size w w1) (hbase : base ≤ w.heap.size) (hx : w1.ownsRow w.heap.size 3 1 x X.length (X.map fun y => .int .i64 y))
    (r1 : w8.ownsRow base 27 1 v8 (Xs.length + 1) (xs ++ [x])) (r2 : (w1.alloc o).grownBy w8 v.ownBlock) : ORows w8 base v8 (Xs ++ [X]) := by
  have kk : Kept (fun q => v.ownBlock = some q) w1 w8 := ((Kept.refl _ w1).alloc o).trans ⟨r2.os, r2.tape, r2.output, r2.size, fun q hq hs => r2.block q hq fun e => hs e.symm⟩
  have hi : ∀ q cs, Blk w1 q 3 cs → w8.heap[q]? = w1.heap[q]? := fun q cs hB => kk.block q hB.lt fun e => by
    obtain ⟨_, cs', hB'⟩ := row_ty h1 q e
    exact Blk.ne_ hB hB' (by decide) rfl
  have hl : xs.length = Xs.length := by have := h1.1; omega
  refine ⟨xs ++ [x], by rw [List.length_append]; exact r1, fun i Y y hY hy => ?_, fun i j y z q hy hz hq hq' => ?_⟩
  · rcases getElem_snoc rfl hY with ⟨hj, hY⟩ | ⟨hj, rfl⟩
    · rw [List.getElem?_append_left (by omega)] at hy
      exact row_same (row_same (h2 i Y y hY hy) fun q cs _ hB => hb.block q hB.lt) fun q cs _ hB => hi q cs hB
    · rw [List.getElem?_append_right (by omega), hj, hl] at hy
      simp at hy
      subst hy
      exact row_same (own_mono hx hbase) fun q cs _ hB => hi q cs hB
  · have lo : ∀ (i : Nat) y, xs[i]? = some y → y.ownBlock = some q → q < w.heap.size := fun i y hy hq => by
      obtain ⟨Y, hY⟩ : ∃ Y, Xs[i]? = some Y := ⟨Xs[i]'(by have := (List.getElem?_eq_some_iff.1 hy).1; omega), List.getElem?_eq_getElem _⟩
      exact ((h2 i Y y hY hy).lt q hq).2
    rcases getElem_snoc rfl hy with ⟨hi', hy⟩ | ⟨hi', rfl⟩
    · rcases getElem_snoc rfl hz with ⟨hj', hz⟩ | ⟨hj', rfl⟩
      · exact h3 i j y z q hy hz hq hq'
      · have := lo i y hy hq
        have := (hx.lt q hq').1
        omega
    · rcases getElem_snoc rfl hz with ⟨hj', hz⟩ | ⟨hj', rfl⟩
      · have := lo j z hz hq'
        have := (hx.lt q hq).1
        omega
      · omega
def JClocksPost (L : List Acc) (w : World) (e : Ending) (w' : World) : Prop :=
  ∃ v, e = .returned (.tuple #[v, .int .i64 (if mayLog L then 0 else 31)]) ∧ ORows w' w.heap.size v (cksR L) ∧ Below w.heap.size w w'
/-- Where the loop stands. -/
def JClocksRel (L : List Acc) (n : Nat) (w2 : World) (v i : Value) (wr : World) : Prop :=
  ∃ k : Nat, k ≤ L.length ∧ i = .int .i64 k ∧ ORows wr w2.heap.size v (((clocksOf L).take k).map (clkN n)) ∧ Below w2.heap.size w2 wr
theorem there_new (w : World) (cs : Array Value) (t : TypeId) (n : Nat) (h : n = cs.size) : (w.alloc (.cells cs t)).there w.heap.size 0 n := fun j hj => by
  refine ⟨?_, (Blk.new w t cs).frozen _⟩
  rw [Nat.zero_add, (Blk.new w t cs).cell, Array.getElem?_eq_getElem (by omega)]
  rfl
def putL (cs : Array Value) : Nat → List Value → Array Value
  | _, [] => cs
  | o, v :: vs => putL (cs.setIfInBounds o v) (o + 1) vs
theorem setCells_new (w : World) (t : TypeId) : ∀ (vs : List Value) (o : Nat) (cs : Array Value), (w.alloc (.cells cs t)).setCells w.heap.size o vs = w.alloc (.cells (putL cs o vs) t)
  | [], _, _ => rfl
  | v :: vs, o, cs => by
    rw [World.setCells, World.setCell_alloc_at _ _ _ _ _ rfl, setCells_new w t vs (o + 1) _]
    rfl
theorem putL_all : ∀ (vs : List Value) (o : Nat) (cs : Array Value), o + vs.length = cs.size → putL cs o vs = (cs.toList.take o ++ vs).toArray
  | [], o, cs, h => by
    have e : cs.toList.take o = cs.toList := List.take_of_length_le (by simp at h ⊢; omega)
    rw [e]
    simp [putL]
  | v :: vs, o, cs, h => by
    unfold putL
    rw [putL_all vs (o + 1) _ (by simp at h ⊢; omega)]
    congr 1
    have ho : o < cs.toList.length := by simp at h ⊢; omega
    rw [Array.toList_setIfInBounds, List.take_set, List.take_add_one, List.getElem?_eq_getElem ho]
    rw [List.set_append_right _ _ (by simp; omega)]
    simp only [List.length_take, Nat.min_eq_left (Nat.le_of_lt ho), Nat.sub_self, Option.toList_some, List.set_cons_zero, List.append_assoc, List.singleton_append]
theorem store_new {P : Program} (w : World) (cs : Array Value) (t : TypeId) (vs : List Value) (h : vs.length = cs.size) (h1 : ∀ v ∈ vs, v.oneCell' = true) : (storeCells ⟨w.heap.size, 0, none⟩ vs).run P (w.alloc (.cells cs t)) = .ok () (w.alloc (.cells vs.toArray t)) := by
  have ht := there_new w cs t vs.length h
  have := run_storeCells_cells (P := P) w.heap.size 0 vs 0 (w.alloc (.cells cs t)) (fun j hj => by simpa using (ht j hj).1) (fun j hj => by have := (ht j hj).2; simp only [Nat.zero_add, Nat.add_zero] at this ⊢; exact this) h1
  simp only [Nat.add_zero] at this
  rw [this, setCells_new, putL_all _ _ _ (by omega)]
  rfl
theorem sizeClk (w : World) : (sizeOf (Tryd.prog.elem 109)).run Tryd.prog w = .ok 1 w := by kernel_rfl
theorem slice_clk (n p : Nat) (h : n ≤ 64) (w : World) : (Instr.sliceAt 109 (.pointer (some ⟨p, 0, none⟩)) none (some (.int .i64 n)) (some (.int .i64 n))).run Tryd.prog w = .ok (.slice (some ⟨p, 0, none⟩) n n) w := by
  have hl : (Tryd.prog.arrayLen 109 : Int) = 64 := by kernel_rfl
  rw [run_sliceAt_array_hm w 109 ⟨p, 0, none⟩ (by kernel_rfl) .i64 .i64 n n (by omega) (Int.le_refl _) (by rw [hl]; omega), sizeClk]
  simp only [Result.andThen_ok, slicedAt, Int.toNat_natCast, Nat.sub_zero, Nat.zero_mul]
  congr 4
  split
  · rfl
  · simp [Addr.add]
theorem clkN_take {n : Nat} (h : n ≤ 64) (c : Clk) : (clkN 64 c).take n = clkN n c := by
  unfold clkN
  rw [← List.map_take, List.take_range, Nat.min_eq_left h]
set_option maxHeartbeats 1600000 in
theorem jclocks_any (b : Option Addr) (cap : Nat) (L : List Acc) (w : World) (h : LogAt w w.heap.size b L) (hl : L.length ≤ 2048) :
    Calls Tryd.prog 27 #[.slice b L.length cap] w (JClocksPost L w) := by
  have H := Lib.hid h
  clear h
  cases hm : mayLog L with
  | false =>
    have HM := Lib.hid hm
    clear hm
    go_enter Tryd.func27, Tryd.ntmps27
    go_wp2_with (go_at_call 63; refine (may_any b cap L _ H.out).mono ?_; rintro e w1 ⟨he, hb1⟩; unfold mayAns at he; rw [if_neg (by rw [HM.out]; simp)] at he; subst he; have HB1 := Lib.hid hb1; clear hb1)
    refine bodyPost_ret (v := .tuple #[.slice none 0 0, .int .i64 31]) (by simp [results, Tryd.results27, go_sem]) rfl ⟨.slice none 0 0, ?_, ?_, HB1.out⟩
    · rw [if_neg (by rw [HM.out]; simp)]
    · unfold cksR; rw [if_neg (by rw [HM.out]; simp)]; exact ORows.nil _ _
  | true =>
    have HM := Lib.hid hm
    have hbd := threads_bd L hm
    obtain ⟨n, hn⟩ : ∃ n : Nat, threads L = n := ⟨(threads L).toNat, by omega⟩
    have hn64 : n ≤ 64 := by omega
    have HN := Lib.hid hn
    obtain ⟨js, hjs, hjsz, hjss, hjsb⟩ := info_parts infoMs
    clear hm hbd hn
    go_enter Tryd.func27, Tryd.ntmps27
    go_upto_region 6 with (first
      | (go_at_call 63; refine (may_any b cap L _ H.out).mono ?_; rintro e w1 ⟨he, hb1⟩; unfold mayAns at he; rw [if_pos HM.out, HN.out] at he; subst he; have HB1 := Lib.hid hb1; clear hb1)
      | (go_at_call 64; refine (clocks_any b cap L _ ((H.out.of HB1.out).mono HB1.out.size) HM.out hl).mono ?_; rintro e w2 ⟨v2, rfl, hb2, ho2⟩; obtain ⟨a2, c2, rfl⟩ := row_shp ho2; have HB2 := Lib.hid (HB1.out.trans (hb2.mono HB1.out.size)); have HO2 := Lib.hid ho2; clear hb2 ho2))
    have h02 := HB2.out.size
    go_loopw [6, 19] (fun v i wr => JClocksRel L n w2 v i wr) (fun _ i _ => L.length - (intOf i).toNat)
    case atStart => exact ⟨0, Nat.zero_le _, rfl, ORows.nil _ _, Below.refl _ _⟩
    case round =>
      obtain ⟨k, hk, rfl, ho, hb⟩ := hrel
      have HO := Lib.hid ho
      have HB := Lib.hid hb
      have hbs := hb.size
      clear ho hb
      by_cases hlt : k < L.length
      · have hx : decide (k < L.length) = true := by simpa using hlt
        have hxi : decide ((k : Int) < (L.length : Int)) = true := by simp; omega
        have hck := clkAt_of hlt
        obtain ⟨O, _, e, _, _⟩ := HO2.out.form (by omega)
        injection e with e1 _ e3
        subst e1 e3
        have ho2 : wr.ownsRow (w1.heap.size + 2) 109 64 (.slice (some ⟨O, 0, none⟩) L.length c2) L.length (flat (clocksOf L)) := own_kept HO2.out (kept_of_below HB.out) (fun _ _ => id)
        have R1 := Lib.hid (own_range ho2 (clocksOf_len L) hck)
        have hi1 : Hid ((Tryd.prog.info? 109).map (·.size) = some (clkL (clkAt L k)).length) := Lib.hid (by rw [clkL_len]; exact info109)
        have HCK := Lib.hid hck
        clear hck ho2
        obtain ⟨c0, hc0⟩ : ∃ c0, c0 = clkAt L k := ⟨_, rfl⟩
        rw [← hc0] at R1 hi1 HCK
        clear hc0
        have hst : ∀ cs : Array Value, cs.size = 64 → (storeCells ⟨wr.heap.size, 0, none⟩ (clkL c0)).run Tryd.prog (wr.alloc (.cells cs 109)) = .ok () (wr.alloc (.cells (clkL c0).toArray 109)) := fun cs hcs => store_new wr cs _ _ (by rw [clkL_len, hcs]) (clkL_one c0)
        go_upto_region 8 with (refine wpList_load_mid (op := ⟨some 22, .load 109 (.tmp 21), _, _, _, _⟩) rfl _ _ rfl O (k * 64) rfl (clkL c0) _ R1.out Tryd.underlying109 rfl hi1.out ?_)
        clear hst
        obtain ⟨w5, hw5⟩ : ∃ w5, w5 = wr.alloc (.cells (clkL c0).toArray 109) := ⟨_, rfl⟩
        have HB5 : Hid (Below wr.heap.size wr w5) := Lib.hid (by rw [hw5]; exact (Below.refl _ _).alloc (Nat.le_refl _) _)
        have HX5 : Hid (Blk w5 wr.heap.size 109 (clkL c0).toArray) := Lib.hid (by rw [hw5]; exact Blk.new _ _ _)
        obtain ⟨bx, hbx⟩ : ∃ bx, bx = wr.heap.size := ⟨_, rfl⟩
        rw [← hbx] at HX5
        rw [← hw5, ← hbx]
        have HBXE := Lib.hid hbx
        clear hw5 R1 hi1 hbx
        have hsl := fun W => slice_clk n bx hn64 W
        have HCL := Lib.hid (Tryd.slices_Clone_int bx 0 n n (clkN 64 c0) w5 (by rw [clkN_len]; exact hn64) (by omega) (fun j hj => by rw [clkN_len] at hj; rw [Nat.zero_add, HX5.out.cell, clkN_getD hj]; exact clkA_at c0 j hj))
        obtain ⟨xs, hx1, hx2, hx3⟩ := HO.out
        have hlen : (((clocksOf L).take k).map (clkN n)).length = k := by rw [List.length_map, List.length_take, clocksOf_len]; omega
        have HX2 := Lib.hid hx2
        have HX3 := Lib.hid hx3
        have HX1 := Lib.hid hx1
        have HLE := Lib.hid hlen
        have hxk := hx1
        rw [hlen] at hxk
        obtain ⟨au, cu, rfl⟩ := row_shp hxk
        have HXK := Lib.hid hxk
        clear hx1 hx2 hx3 hlen hxk
        go_upto_region 9 with (first
          | (go_at_call 46; refine HCL.out.mono ?_; rintro e w6 ⟨v6, rfl, ho6, _, hb6⟩; rw [clkN_take hn64] at ho6; obtain ⟨a6, c6, rfl⟩ := row_shp ho6; have HO6 := Lib.hid ho6; have HB6 : Hid (Below wr.heap.size wr w6) := Lib.hid (HB5.out.trans (hb6.mono HB5.out.size)); have hr6 := row_same HXK.out fun q cs _ hB => HB6.out.block q hB.lt; have HR6 := Lib.hid hr6; have HRA := Lib.hid (hr6.alloc (.cells #[.slice a6 n c6] 27)); have hz6 := HB6.out.size; have h5z := HB5.out.size; clear ho6 hb6 HCL hr6)
          | (at_builtin; refine wpList_append_keep rfl _ _ 36 rfl w2.heap.size 27 js _ 1 24 Tryd.underlying36 hjs hjsz hjss hjsb rfl (by decide) _ k _ rfl HRA.out ⟨w6.heap.size, 0, none⟩ 1 1 [.slice a6 n c6] rfl rfl (World.news_of_block (heap_alloc_new _ _)) (by simp [Value.oneCell']) (by unfold maxLen; omega) (by omega) (by simp; omega) ?_; intro v8 w8 r1 r2 r3 r4 r5; have S1 := Lib.hid r1; have S2 := Lib.hid r2; clear r1 r2 r3 r4 r5))
        have ht : ((clocksOf L).take (k + 1)).map (clkN n) = ((clocksOf L).take k).map (clkN n) ++ [clkN n c0] := by rw [List.take_add_one, HCK.out, List.map_append]; rfl
        have HT := Lib.hid ht
        clear ht
        go_wp2_with fail
        refine ⟨⟨k + 1, hlt, by rw [Int.natCast_add]; rfl, ?_, ?_⟩, by simp [intOf]; omega⟩
        · rw [HT.out]
          exact ORows.app (w := wr) (x := .slice a6 n c6) (by rw [HLE.out]; exact HR6.out) HX2.out HX3.out HB6.out hbs (by rw [clkN_len]; exact own_mono HO6.out h5z) (by rw [HLE.out]; exact S1.out) S2.out
        · have kk : Kept (fun q => (Value.slice au k cu).ownBlock = some q) w6 w8 := ((Kept.refl _ w6).alloc _).trans ⟨S2.out.os, S2.out.tape, S2.out.output, S2.out.size, fun q hq hs => S2.out.block q hq fun e => hs e.symm⟩
          exact HB.out.trans ((HB6.out.mono hbs).trans (kk.below (by omega) fun q hq => (HR6.out.lt q hq).1))
      · obtain rfl : k = L.length := by omega
        have hx : decide (L.length < L.length) = false := by simp
        have hxi : decide ((L.length : Int) < (L.length : Int)) = false := by simp
        go_wp2_with fail
        refine bodyPost_ret (v := .tuple #[u6, .int .i64 0]) (by simp [results, Tryd.results27, go_sem]) rfl ⟨u6, ?_, ?_, HB2.out.trans (HB.out.mono h02)⟩
        · rw [if_pos HM.out]
        · have h := HO.out
          rw [List.take_of_length_le (by rw [clocksOf_len]; exact Nat.le_refl _)] at h
          unfold cksR
          rw [if_pos HM.out, HN.out, Int.toNat_natCast]
          exact h.mono h02
end Go.Proofs.YtonnlgpjobfnmaaDoor
