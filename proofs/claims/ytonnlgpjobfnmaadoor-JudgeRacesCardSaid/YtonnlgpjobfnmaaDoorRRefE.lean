/- ref26.All: the clocks of all entries. Conditions: a log that may be judged, of 2048 entries at most. -/
import Derived.Test.YtonnlgpjobfnmaaDoorRRefD
namespace Go.Proofs.YtonnlgpjobfnmaaDoor
open Go.RowKit
set_option maxRecDepth 100000
/-- Where the loop stands that makes the threads' lists. -/
def InitRel (n Tb : Nat) (w0 : World) (i : Value) (wr : World) : Prop :=
  ∃ k : Nat, k ≤ n ∧ i = .int .i64 k ∧ Below w0.heap.size w0 wr ∧ ∃ ts, Blk wr Tb 27 ts ∧ ts.size = n ∧ (∀ j, j < k → ∃ x, ts[j]? = some x ∧ Gd wr none x (clkN n czero)) ∧ ∀ j, k ≤ j → j < n → ts[j]? = some (.slice none 0 0)
/-- Where the loop over the entries stands. -/
def AllRel (L : List Acc) (n Tb bk : Nat) (w0 : World) (vo i : Value) (wr : World) : Prop :=
  ∃ (k : Nat) (vc vk : Value) (M : List (Int × List Int)), k ≤ L.length ∧ i = .int .i64 k ∧ AllAt w0.heap.size w0 wr n Tb bk vc vk M (cksAt (L.take k)).th (clocksOf (L.take k)) vo ∧ M.length ≤ k ∧ ∀ y, BkRel n (bookF M y) ((cksAt (L.take k)).cell y)
def RAllPost (L : List Acc) (w : World) (e : Ending) (w' : World) : Prop :=
  ∃ v ex xs, e = .returned v ∧ Below w.heap.size w w' ∧ w'.ownsRow w.heap.size 27 1 v L.length xs ∧ ∀ (i : Nat) c x, (clocksOf L)[i]? = some c → xs[i]? = some x → Gd w' ex x (clkN (threads L).toNat c)
theorem made_at (v : Value) (n j : Nat) (h : j < n) : (madeCells #[v] n)[j]? = some v := by simp [madeCells, h, Nat.mod_one]
theorem InitRel.more {n Tb k : Nat} {w0 wr : World} {ts : Array Value} (hT : w0.heap.size ≤ Tb) (hlt : k < n) (hb : Below w0.heap.size w0 wr) (h1 : Blk wr Tb 27 ts) (h2 : ts.size = n) (h3 : ∀ j, j < k → ∃ x, ts[j]? = some x ∧ Gd wr none x (clkN n czero)) (h4 : ∀ j, k ≤ j → j < n → ts[j]? = some (.slice none 0 0)) :
    InitRel n Tb w0 (.int .i64 ((k : Int) + 1)) ((wr.setCell ⟨Tb, k, none⟩ (.slice (some ⟨wr.heap.size, 0, none⟩) n n)).alloc (.cells (madeCells #[.int .i64 0] n) 3)) := by
  have hz : (wr.setCell ⟨Tb, k, none⟩ (.slice (some ⟨wr.heap.size, 0, none⟩) n n)).heap.size = wr.heap.size := by simp
  have kk : Kept (fun q => q = Tb) wr ((wr.setCell ⟨Tb, k, none⟩ (.slice (some ⟨wr.heap.size, 0, none⟩) n n)).alloc (.cells (madeCells #[.int .i64 0] n) 3)) := (Kept.set (S := fun q => q = Tb) (p := ⟨Tb, k, none⟩) (Kept.refl _ wr) rfl _).alloc _
  have hbs := hb.size
  refine ⟨k + 1, by omega, by rw [Int.natCast_add]; rfl, (hb.setCell (p := ⟨Tb, k, none⟩) hT _).alloc (by rw [hz]; exact hbs) _, _, (h1.set_ k _).alloc _, by simpa using h2, fun j hj => ?_, fun j hj hjn => ?_⟩
  · by_cases e : j = k
    · subst e
      refine ⟨_, Array.getElem?_setIfInBounds_self_of_lt (by omega), _, n, by rw [clkN_len], fun i y hy => ⟨wr.heap.size, rfl, by simp, ⟨madeCells #[.int .i64 0] n, ?_⟩, ?_⟩⟩
      · exact Blk.new' _ _ _ _ hz.symm
      · have hi : i < n := by have := (List.getElem?_eq_some_iff.1 hy).1; rwa [clkN_len] at this
        rw [clkN_at hi] at hy
        injection hy with hy
        rw [(Blk.new' _ _ _ _ hz.symm).cell, made_at _ _ _ hi, ← hy]
        rfl
    · obtain ⟨x, hx, hg⟩ := h3 j (by omega)
      exact ⟨x, by rw [Array.getElem?_setIfInBounds_ne (fun h => e h.symm)]; exact hx, hg.kept kk (fun q cs e hB => by subst e; exact absurd rfl (Blk.ne_ hB h1 (by decide))) (fun q hq => .inl hq)⟩
  · rw [Array.getElem?_setIfInBounds_ne (by omega)]
    exact h4 j (by omega) hjn
theorem AllRel.start {L : List Acc} {n Tb : Nat} {w0 wr : World} {ts : Array Value} (hT : w0.heap.size ≤ Tb) (hb : Below w0.heap.size w0 wr) (h1 : Blk wr Tb 27 ts) (h2 : ts.size = n) (h3 : ∀ j, j < n → ∃ x, ts[j]? = some x ∧ Gd wr none x (clkN n czero)) :
    AllRel L n Tb wr.heap.size w0 (.slice none 0 0) (.int .i64 ((0 : Nat) : Int)) (wr.alloc (.cells #[.slice none 0 0, .slice none 0 0] 154)) := by
  have kk : Kept (fun _ => False) wr (wr.alloc (.cells #[.slice none 0 0, .slice none 0 0] 154)) := (Kept.refl _ wr).alloc _
  refine ⟨0, _, _, [], Nat.zero_le _, rfl, ⟨hb.alloc hb.size _, by have := hb.size; simp; omega, ⟨hT, hb.size⟩, ⟨Blk.new _ _ _, World.ownsRow_nil _ _ _ _, [], World.ownsRow_nil _ _ _ _, fun i p x h => by simp at h⟩, ⟨ts, kk.blk h1 id, h2, fun i hi => ?_⟩, ⟨[], World.ownsRow_nil _ _ _ _, fun i c x h => by simp [clocksOf, cksAll] at h⟩, by simp [Value.ownBlock], by simp [Value.ownBlock], fun q hq => by simp [Value.ownBlock] at hq⟩, Nat.le_refl _, fun y => .inr ⟨rfl, fun j _ => rfl⟩⟩
  obtain ⟨x, hx, hg⟩ := h3 i hi
  exact ⟨x, hx, hg.kept kk (fun _ _ h _ => h.elim) (fun q hq => by simp [Value.ownBlock] at hq)⟩
theorem thr_mono (a : Acc) (n : Int) : n ≤ a.thr n ∧ a.th + 1 ≤ a.thr n ∧ (a.op = 7 → a.now + 1 ≤ a.thr n) := by
  unfold Acc.thr
  split
  · omega
  · rename_i h
    exact ⟨by omega, by omega, fun h' => absurd h' h⟩
theorem threads_ge {L : List Acc} {a : Acc} (h : a ∈ L) : a.th + 1 ≤ threads L ∧ (a.op = 7 → a.now + 1 ≤ threads L) := by
  have mono : ∀ (L : List Acc) (n : Int), n ≤ L.foldl Acc.thr n := by
    intro L
    induction L with
    | nil => intro n; exact Int.le_refl _
    | cons b L ih =>
      intro n
      have := thr_mono b n
      have := ih (b.thr n)
      simp only [List.foldl_cons]
      omega
  have : ∀ (L : List Acc) (n : Int), a ∈ L → a.th + 1 ≤ L.foldl Acc.thr n ∧ (a.op = 7 → a.now + 1 ≤ L.foldl Acc.thr n) := by
    intro L
    induction L with
    | nil => intro n h; cases h
    | cons b L ih =>
      intro n h
      simp only [List.foldl_cons]
      rcases List.mem_cons.1 h with rfl | h
      · have h1 := thr_mono a n
        have h2 := mono L (a.thr n)
        exact ⟨by omega, fun h7 => by have := h1.2.2 h7; omega⟩
      · exact ih _ h
  exact this L 0 h
theorem own_done {w : World} {B go n co t : Nat} {s : Cks} {a : Acc} {y : Int} (ht : a.th = t) (hy : y = s.own0 a t) (h : w.ownsRow B 3 1 (.slice (some ⟨go, 0, none⟩) n co) n ((clkN n (s.own0 a)).map fun x => .int .i64 x)) :
    (w.setCell ⟨go, t, none⟩ (.int .i64 (y + 1))).ownsRow B 3 1 (.slice (some ⟨go, 0, none⟩) n co) n ((clkN n (s.own a)).map fun x => .int .i64 x) := by
  have h1 := (h.stored t (.int .i64 (y + 1))).1
  have e : (((clkN n (s.own0 a)).map fun x => Value.int .i64 x)).set t (.int .i64 (y + 1)) = (clkN n (s.own a)).map fun x => .int .i64 x := by
    rw [← List.map_set (f := fun x => Value.int .i64 x), clkN_set]
    congr 1
    refine clkN_congr fun j _ => ?_
    unfold Cks.own
    rw [ht, Int.toNat_natCast, hy]
    by_cases e : j = t
    · subst e; simp
    · simp [e]
  rw [e] at h1
  exact h1
theorem AllAt.exlt {B n Tb bk : Nat} {w0 wr : World} {vc vk vo : Value} {M : List (Int × List Int)} {f : Nat → Clk} {cs : List Clk} (h : AllAt B w0 wr n Tb bk vc vk M f cs vo) : ∀ q, vc.ownBlock = some q → q < wr.heap.size := fun q hq => (h.book.cells.lt q hq).2
theorem SetPost.box {B n Tb bk q : Nat} {w0 wr w' : World} {vc vk vo vc' vk' : Value} {M : List (Int × List Int)} {f : Nat → Clk} {cs : List Clk} {c : Int} {X : List Int} {bs : Array Value} (p : SetPost B bk vc vk M c X wr vc' vk' w') (h : AllAt B w0 wr n Tb bk vc vk M f cs vo) (hb : Blk wr q 71 bs) : Blk w' q 71 bs := by
  obtain ⟨b1, b2, ys, b3, b4⟩ := h.book
  refine p.kept.blk hb fun hq => ?_
  rcases hq with e | e | e
  · subst e; exact Blk.ne_ hb b1 (by decide) rfl
  · obtain ⟨_, cs', hB'⟩ := row_ty b2 q e
    exact Blk.ne_ hb hB' (by decide) rfl
  · obtain ⟨_, cs', hB'⟩ := row_ty b3 q e
    exact Blk.ne_ hb hB' (by decide) rfl
theorem AllRel.fin {L : List Acc} {n Tb bk k : Nat} {w0 wr : World} {vc vk vo : Value} {M : List (Int × List Int)} {f : Nat → Clk} {a : Acc} (ha : L[k]? = some a) (h : AllAt w0.heap.size w0 wr n Tb bk vc vk M f (clocksOf (L.take (k + 1))) vo) (hf : ((cksAt (L.take k)).next a).th = f) (hM : M.length ≤ k + 1) (hr : ∀ y, BkRel n (bookF M y) (((cksAt (L.take k)).next a).cell y)) :
    AllRel L n Tb bk w0 vo (.int .i64 ((k : Int) + 1)) wr := by
  refine ⟨k + 1, vc, vk, M, (List.getElem?_eq_some_iff.1 ha).1, by rw [Int.natCast_add]; rfl, ?_, hM, ?_⟩
  · rw [cksAt_take ha, hf]; exact h
  · rw [cksAt_take ha]; exact hr
theorem AllRel.none {L : List Acc} {n Tb bk k t : Nat} {w0 wr : World} {vc vk vo : Value} {M : List (Int × List Int)} {a : Acc} (ha : L[k]? = some a) (h : AllAt w0.heap.size w0 wr n Tb bk vc vk M (updc (cksAt (L.take k)).th t ((cksAt (L.take k)).own a)) (clocksOf (L.take (k + 1))) vo) (ht : a.th = t) (hg : a.gives = false) (h7 : ¬ (a.op = 7 ∧ 0 ≤ a.now)) (hM : M.length ≤ k) (hr : ∀ y, BkRel n (bookF M y) ((cksAt (L.take k)).cell y)) :
    AllRel L n Tb bk w0 vo (.int .i64 ((k : Int) + 1)) wr :=
  AllRel.fin ha h (next_th ht h7) (by omega) (by rw [next_cell hg]; exact hr)
theorem AllRel.set {L : List Acc} {n Tb bk k t : Nat} {w0 wr w' : World} {vc vk vc' vk' vo : Value} {M : List (Int × List Int)} {a : Acc} (ha : L[k]? = some a) (h : AllAt w0.heap.size w0 wr n Tb bk vc vk M (updc (cksAt (L.take k)).th t ((cksAt (L.take k)).own a)) (clocksOf (L.take (k + 1))) vo) (ht : a.th = t) (hg : a.gives = true) (h7 : ¬ (a.op = 7 ∧ 0 ≤ a.now)) (hM : M.length ≤ k) (hr : ∀ y, BkRel n (bookF M y) ((cksAt (L.take k)).cell y))
    (p : SetPost w0.heap.size bk vc vk M a.cell (clkN n ((cksAt (L.take k)).own a)) wr vc' vk' w') : AllRel L n Tb bk w0 vo (.int .i64 ((k : Int) + 1)) w' := by
  refine AllRel.fin ha (h.set p) (next_th ht h7) (by have := setF_len M a.cell (clkN n ((cksAt (L.take k)).own a)); omega) fun y => ?_
  rw [bookF_set, next_cell' hg]
  by_cases e : y = a.cell
  · subst e
    simp only [if_true]
    exact .inl rfl
  · simp only [e, if_false]
    exact hr y
theorem AllRel.go {L : List Acc} {n Tb bk k t m : Nat} {w0 wr : World} {vc vk vo x : Value} {M : List (Int × List Int)} {a : Acc} (ha : L[k]? = some a) (h : AllAt w0.heap.size w0 wr n Tb bk vc vk M (updc (cksAt (L.take k)).th t ((cksAt (L.take k)).own a)) (clocksOf (L.take (k + 1))) vo) (ht : a.th = t) (h7 : a.op = 7) (hm : a.now = m) (hmn : m < n) (hg : a.gives = false) (hM : M.length ≤ k) (hr : ∀ y, BkRel n (bookF M y) ((cksAt (L.take k)).cell y))
    (hx : Gd wr vc.ownBlock x (clkN n (cmax (updc (cksAt (L.take k)).th t ((cksAt (L.take k)).own a) m) ((cksAt (L.take k)).own a)))) : AllRel L n Tb bk w0 vo (.int .i64 ((k : Int) + 1)) (wr.setCell ⟨Tb, m, Option.none⟩ x) :=
  AllRel.fin ha (h.thread hmn hx) (next_go ht h7 hm) (by omega) (by rw [next_cell hg]; exact hr)
set_option maxHeartbeats 16000000 in
theorem rall_any (b : Option Addr) (cap : Nat) (L : List Acc) (w : World) (h : LogAt w w.heap.size b L) (hm : mayLog L = true) (hl : L.length ≤ 2048) :
    Calls Tryd.prog 67 #[.slice b L.length cap] w (RAllPost L w) := by
  have H := Lib.hid h
  have HM := Lib.hid hm
  have hbd := threads_bd L hm
  obtain ⟨n, hn⟩ : ∃ n : Nat, threads L = n := ⟨(threads L).toNat, by omega⟩
  have hn64 : n ≤ 64 := by omega
  have HN := Lib.hid hn
  obtain ⟨ji, hji, hjiz, hjis, hjib⟩ := info_parts infoMi
  obtain ⟨js, hjs, hjsz, hjss, hjsb⟩ := info_parts infoMs
  have hmk : ∀ W : World, (Instr.makeSlice 36 (.int .i64 (n : Int)) (.int .i64 (n : Int))).run Tryd.prog W = .ok (.slice (some ⟨W.heap.size, 0, none⟩) n n) (W.alloc (.cells (madeCells #[.slice none 0 0] n) 27)) := fun W => by
    have h := run_make_rowN (P := Tryd.prog) 36 27 js _ Tryd.underlying36 hjs hjsz .i64 .i64 n n (Nat.le_refl _) (by rw [hjsb]; omega) (by omega) W
    rw [hjss, Nat.mul_one] at h
    exact h
  have hmi : ∀ W : World, (Instr.makeSlice 27 (.int .i64 (n : Int)) (.int .i64 (n : Int))).run Tryd.prog W = .ok (.slice (some ⟨W.heap.size, 0, none⟩) n n) (W.alloc (.cells (madeCells #[.int .i64 0] n) 3)) := fun W => by
    have h := run_make_rowN (P := Tryd.prog) 27 3 ji _ Tryd.underlying27 hji hjiz .i64 .i64 n n (Nat.le_refl _) (by rw [hjib]; omega) (by omega) W
    rw [hjis, Nat.mul_one] at h
    exact h
  clear h hm hbd hn
  go_enter Tryd.func67, Tryd.ntmps67
  go_upto_region 3 with (go_at_call 81; refine (rthreads_any b cap L _ _ H.out HM.out).mono ?_; rintro e w1 ⟨he, nd, hw1⟩; rw [HN.out] at he; subst he; have HB1 : Hid (Below w.heap.size w w1) := Lib.hid (by rw [hw1]; exact below_drewN (Below.refl _ _) _); have hz1 : w.heap.size ≤ w1.heap.size := HB1.out.size; clear hw1)
  obtain ⟨Tb, hTb⟩ : ∃ Tb, Tb = w1.heap.size := ⟨_, rfl⟩
  obtain ⟨w2, hw2⟩ : ∃ w2, w2 = w1.alloc (.cells (madeCells #[.slice none 0 0] n) 27) := ⟨_, rfl⟩
  rw [← hw2, ← hTb]
  have HI2 : Hid (InitRel n Tb w (.int .i64 ((0 : Nat) : Int)) w2) := Lib.hid ⟨0, Nat.zero_le _, rfl, by rw [hw2]; exact HB1.out.alloc hz1 _, _, by rw [hw2, hTb]; exact Blk.new _ _ _, by simp [madeCells], fun j hj => by omega, fun j _ hj => made_at _ _ _ hj⟩
  have hTw : w.heap.size ≤ Tb := by omega
  clear hw2 hTb hmk
  go_wp2_with fail
  go_loopw [5] (fun i wr => InitRel n Tb w i wr) (fun i _ => n - (intOf i).toNat)
  case atStart => exact HI2.out
  case round =>
    clear HI2
    obtain ⟨k, hk, rfl, hb, ts, h1, h2, h3, h4⟩ := hrel
    have HB := Lib.hid hb
    have HBL := Lib.hid h1
    have H3 := Lib.hid h3
    have H4 := Lib.hid h4
    have hTl := h1.lt
    clear hb h3 h4
    by_cases hlt : k < n
    · have hx : decide (k < n) = true := by simpa using hlt
      have hxi : decide ((k : Int) < (n : Int)) = true := by simp; omega
      have c1 : wr.cell? ⟨Tb, k, none⟩ = some (.slice none 0 0) := (h1.cell k).trans (H4.out k (Nat.le_refl _) hlt)
      have f1 := h1.frozen k
      clear h1
      go_wp2_with fail
      exact ⟨InitRel.more hTw hlt HB.out HBL.out h2 H3.out H4.out, by simp [intOf]; omega⟩
    · obtain rfl : k = n := by omega
      have hx : decide (k < k) = false := by simp
      have hxi : decide ((k : Int) < (k : Int)) = false := by simp
      clear h1
      go_upto_region 9 with fail
      obtain ⟨bk, hbk⟩ : ∃ bk, bk = wr.heap.size := ⟨_, rfl⟩
      obtain ⟨w3, hw3⟩ : ∃ w3, w3 = wr.alloc (.cells #[.slice none 0 0, .slice none 0 0] 154) := ⟨_, rfl⟩
      have HS3 : Hid (AllRel L k Tb bk w (.slice none 0 0) (.int .i64 ((0 : Nat) : Int)) w3) := Lib.hid (by rw [hw3, hbk]; exact AllRel.start hTw HB.out HBL.out h2 H3.out)
      rw [← hw3, ← hbk]
      obtain ⟨n, hn⟩ : ∃ n, n = k := ⟨_, rfl⟩
      rw [← hn] at HS3 HN hn64 ⊢
      clear hw3 hbk HB HBL H3 H4 hTl hx hxi hmi hk h2 hn hlt
      go_wp2_with fail
      go_loopw [7, 8] (fun vo i wr => AllRel L n Tb bk w vo i wr) (fun _ i _ => L.length - (intOf i).toNat)
      case atStart => exact HS3.out
      case round =>
        clear HS3
        obtain ⟨k, vc, vk, M, hk, rfl, hA, hM, hrel⟩ := hrel
        have HA := Lib.hid hA
        have HREL := Lib.hid hrel
        clear hA hrel
        by_cases hlt : k < L.length
        · have hx : decide (k < L.length) = true := by simpa using hlt
          have hxi : decide ((k : Int) < (L.length : Int)) = true := by simp; omega
          obtain ⟨a, ha⟩ : ∃ a, L[k]? = some a := ⟨L[k], List.getElem?_eq_getElem hlt⟩
          have hge := threads_ge (List.mem_of_getElem? ha)
          rw [HN.out] at hge
          obtain ⟨t, ht, ht64, _⟩ := th_lt HM.out ha
          have htn : t < n := by omega
          have hnow := hge.2
          have hmc := may_cases (List.all_eq_true.1 HM.out a (List.mem_of_getElem? ha))
          obtain ⟨g, off, rfl, hg, hA⟩ := (H.out.of HA.out.low).at_ k a ha
          obtain ⟨h0, h1, h2, h3, h4, h5, h6, h7⟩ := hA
          rw [ht] at h0
          obtain ⟨ts, hBT, hTz, hTh⟩ := HA.out.ths
          obtain ⟨xt, hxt, hgt⟩ := hTh t htn
          have cT : wr.cell? ⟨Tb, t, none⟩ = some xt := (hBT.cell t).trans hxt
          have hTl := hBT.lt
          obtain ⟨at_, ct, rfl, _⟩ := id hgt
          rw [clkN_len] at cT
          have HGT := Lib.hid hgt
          have HAK := Lib.hid ha
          have HTH := Lib.hid ht
          have HMC := Lib.hid hmc
          have HNW := Lib.hid hnow
          clear hge hmc hBT hTh hxt hgt ha ht hTz ts hnow
          go_upto_region 13 with fail
          obtain ⟨qb, hqb⟩ : ∃ qb, qb = wr.heap.size := ⟨_, rfl⟩
          obtain ⟨w4, hw4⟩ : ∃ w4, w4 = wr.alloc (.cells #[.int .i64 t, .int .i8 a.op, .int .i64 a.cell, .int .i64 a.arg, .int .i64 a.new, .int .i64 a.was, .int .i64 a.now, .bool a.ok] 71) := ⟨_, rfl⟩
          have HX4 : Hid (BoxAt w4 qb a a.op t) := Lib.hid (by rw [hw4, hqb]; exact Blk.new _ _ _)
          have k4 : Kept (fun _ => False) wr w4 := by rw [hw4]; exact (Kept.refl _ _).alloc _
          have HA4 := Lib.hid (HA.out.same k4)
          have HGT4 := Lib.hid (HGT.out.kept k4 (fun _ _ h _ => h.elim) (fun q hq => .inl hq) (ex' := vc.ownBlock))
          have cT4 : w4.cell? ⟨Tb, t, none⟩ = some (.slice at_ n ct) := (k4.cell (p := ⟨Tb, t, none⟩) hTl id).trans cT
          have hTl4 : Tb < w4.heap.size := by have := k4.size; omega
          have hq4 : qb < w4.heap.size := HX4.out.lt
          rw [← hw4, ← hqb]
          clear hw4 hqb k4 cT hTl HA HGT h0 h1 h2 h3 h4 h5 h6 h7 hg
          obtain ⟨b0, b1, b2, b6, b7⟩ := HX4.out.cells
          have HTK := Lib.hid (rtake_any at_ none ct 0 n 0 (clkN n ((cksAt (L.take k)).th t)) [] (clkN_len _ _) rfl (by omega) w4 (Gd.ints HGT4.out).2 (fun i x h => by simp at h))
          go_upto_region 14 with (go_at_call 82; refine HTK.out.mono ?_; rintro e w5 ⟨v5, rfl, ho5, hb5⟩; rw [takeF_nil, clkN_len] at ho5; have HO5 := Lib.hid ho5; have HB5 := Lib.hid hb5; clear ho5 hb5 HTK)
          have hz5 := HB5.out.size
          have HA5 := Lib.hid (HA4.out.same (kept_of_below HB5.out))
          have HX5 : Hid (BoxAt w5 qb a a.op t) := Lib.hid (Blk.below HX4.out HB5.out hq4)
          have h04 := HA4.out.le
          clear b0 b1 b2 b6 b7 HGT4 cT4
          obtain ⟨b0, b1, b2, b6, b7⟩ := HX5.out.cells
          obtain ⟨g5, c5, rfl, _, _⟩ := HO5.out.form (by omega)
          have hop : (a.op = 1 ∨ a.op = 3 ∨ a.op = 4 ∨ a.op = 5 ∨ a.op = 6) ∨ (a.op = 2 ∨ a.op = 7 ∨ a.op = 8) := by have := HMC.out.1; omega
          have h0s : ∀ j, j < n → 0 ≤ (cksAt (L.take k)).th t j := fun j _ => ((cksAt_bd (L.take k)).1 t j).1
          have H0S := Lib.hid h0s
          clear h0s
          rcases hop with hop | hop
          · rcases hop with ho | ho | ho | ho | ho
            all_goals
              rw [ho] at b1
              have HOP := Lib.hid ho
              have HTA := Lib.hid (own0_take (s := cksAt (L.take k)) HTH.out (by rw [takes_of ho]; rfl))
              have HOF := Lib.hid (of_any w.heap.size bk vc vk M a.cell (by omega) w5 HA5.out.book)
              clear ho
              go_upto_region 21 with (first
                | (go_at_call 83; refine HOF.out.mono ?_; rintro e w6 ⟨x6, rfl, hg6, nd6, hw6⟩; have HB6 : Hid (Below w5.heap.size w5 w6) := Lib.hid (by rw [hw6]; exact below_drewN (Below.refl _ _) _); obtain ⟨a6, c6, rfl, _⟩ := id hg6; have HG6 := Lib.hid (hg6.kept (kept_of_below HB6.out) (fun _ _ h _ => h.elim) (fun q hq => .inl hq) (ex' := vc.ownBlock)); have HT6 := Lib.hid (rtake_any (some ⟨g5, 0, none⟩) a6 c5 c6 n (bookF M a.cell).length (clkN n ((cksAt (L.take k)).th t)) (bookF M a.cell) (clkN_len _ _) rfl (by omega) w6 ((Gd.ints (Gd.of_row (ex := none) HO5.out (fun q hq => by cases hq))).2.of HB6.out) (Gd.ints HG6.out).2); clear hg6 hw6 HOF)
                | (go_at_call 82; refine HT6.out.mono ?_; rintro e wo ⟨v7, rfl, ho7, hb7⟩; rw [takeF_rel (HREL.out a.cell) H0S.out, ← HTA.out, clkN_len] at ho7; obtain ⟨go, co, rfl, _, _⟩ := ho7.form (by omega); have h6s := HB6.out.size; have HOo := Lib.hid (own_mono ho7 (Nat.le_trans hz5 h6s)); have HBo : Hid (Below w4.heap.size w4 wo) := Lib.hid (HB5.out.trans ((HB6.out.trans (hb7.mono h6s)).mono hz5)); clear ho7 hb7 HT6 HG6 h6s HTA))
              clear HB6 HB5 HO5 HA5 HX5
              have hgo := HOo.out.lt go rfl
              have HXo := Lib.hid (Blk.below HX4.out HBo.out hq4)
              have hbd := Cks.bd_own0 (cksAt_bd (L.take k)) a t
              obtain ⟨y, hy⟩ : ∃ y, y = (cksAt (L.take k)).own0 a t := ⟨_, rfl⟩
              have d0 : wo.cell? ⟨go, t, none⟩ = some (.int .i64 y) := by rw [HOo.out.cellAt t (by omega), List.getElem?_map, clkN_at htn, hy]; rfl
              have d1 := HOo.out.frozenAt t
              have e0 : wo.cell? ⟨qb, 0, none⟩ = some (.int .i64 t) := (HXo.out.cell 0).trans rfl
              rw [← hy] at hbd
              have hby : 0 ≤ y ∧ y ≤ 2048 := by have := List.length_take_le k L; omega
              obtain ⟨hy0, hy1⟩ := hby
              have HY := Lib.hid hy
              clear hy hbd
              go_upto_region 22 with fail
              obtain ⟨w8, hw8⟩ : ∃ w8, w8 = wo.setCell ⟨go, t, none⟩ (.int .i64 (y + 1)) := ⟨_, rfl⟩
              have HB8 : Hid (Below w4.heap.size w4 w8) := Lib.hid (by rw [hw8]; exact HBo.out.setCell (p := ⟨go, t, none⟩) hgo.1 _)
              have HO8 : Hid (w8.ownsRow w4.heap.size 3 1 (.slice (some ⟨go, 0, none⟩) n co) n ((clkN n ((cksAt (L.take k)).own a)).map fun x => .int .i64 x)) := Lib.hid (by rw [hw8]; exact own_done HTH.out HY.out HOo.out)
              rw [← hw8]
              clear hw8 d0 d1 e0 HOo HBo HXo hgo HY hy0 hy1
              have HA8 := Lib.hid (HA4.out.same (kept_of_below HB8.out))
              have HX8 := Lib.hid (Blk.below HX4.out HB8.out hq4)
              have HG8 := Lib.hid (Gd.of_row (ex := vc.ownBlock) HO8.out (fun q hq => HA4.out.exlt q hq))
              obtain ⟨ts8, hBT8, hTz8, hTh8⟩ := HA8.out.ths
              obtain ⟨xt8, hxt8, hgt8⟩ := hTh8 t htn
              have cT8 : w8.cell? ⟨Tb, t, none⟩ = some xt8 := (hBT8.cell t).trans hxt8
              have fT8 := hBT8.frozen t
              obtain ⟨at8, ct8, rfl, _⟩ := id hgt8
              have HBT8 := Lib.hid hBT8
              have hqT : qb ≠ Tb := Blk.ne_ HX8.out hBT8 (by decide)
              have e0 : w8.cell? ⟨qb, 0, none⟩ = some (.int .i64 t) := (HX8.out.cell 0).trans rfl
              have hTl8 := hBT8.lt
              clear hBT8 hTz8 hTh8 hxt8 hgt8 HB8
              go_upto_region 23 with fail
              obtain ⟨w9, hw9⟩ : ∃ w9, w9 = w8.setCell ⟨Tb, t, none⟩ (.slice (some ⟨go, 0, none⟩) n co) := ⟨_, rfl⟩
              have k9 : Kept (fun q => q = Tb) w8 w9 := by rw [hw9]; exact Kept.set (S := fun q => q = Tb) (p := ⟨Tb, t, none⟩) (Kept.refl _ w8) rfl _
              have HA9 : Hid (AllAt w.heap.size w w9 n Tb bk vc vk M (updc (cksAt (L.take k)).th t ((cksAt (L.take k)).own a)) (clocksOf (L.take k)) u7) := Lib.hid (by rw [hw9]; exact HA8.out.thread htn HG8.out)
              have HG9 := Lib.hid (HG8.out.kept k9 (fun q cs e hB => by subst e; exact absurd rfl (Blk.ne_ hB HBT8.out (by decide))) (fun q hq => .inl hq) (ex' := vc.ownBlock))
              have HX9 := Lib.hid (k9.blk HX8.out hqT)
              rw [← hw9]
              clear hw9 k9 HA8 HX8 HG8 HBT8 cT8 fT8 hqT e0 hTl8 HO8
              obtain ⟨xs9, hxs9⟩ := HA9.out.out
              have hlen : (clocksOf (L.take k)).length = k := by rw [clocksOf_len, List.length_take]; omega
              have HL9 := Lib.hid hxs9
              have HLE := Lib.hid hlen
              have hxr := hxs9.1
              rw [hlen] at hxr
              obtain ⟨a9, c9, rfl⟩ := row_shp hxr
              have HXR := Lib.hid hxr
              have HRA := Lib.hid (hxr.alloc (.cells #[.slice (some ⟨go, 0, none⟩) n co] 27))
              have hz9 := HA9.out.le
              have e1 : w9.cell? ⟨qb, 1, none⟩ = some (.int .i8 a.op) := (HX9.out.cell 1).trans rfl
              rw [HOP.out] at e1
              clear hxs9 hxr hlen
              go_upto_region 24 with (at_builtin; refine wpList_append_keep rfl _ _ 36 rfl w.heap.size 27 js _ 1 24 Tryd.underlying36 hjs hjsz hjss hjsb rfl (by decide) _ k _ rfl HRA.out ⟨w9.heap.size, 0, none⟩ 1 1 [.slice (some ⟨go, 0, none⟩) n co] rfl rfl (World.news_of_block (heap_alloc_new _ _)) (by simp [Value.oneCell']) (by unfold maxLen; omega) (by omega) (by simp; omega) ?_; intro v9 w10 r1 r2 r3 r4 r5; have S1 := Lib.hid r1; have S2 := Lib.hid r2; have S4 := Lib.hid r4; clear r1 r2 r3 r4 r5)
              have HA10 : Hid (AllAt w.heap.size w w10 n Tb bk vc vk M (updc (cksAt (L.take k)).th t ((cksAt (L.take k)).own a)) (clocksOf (L.take k) ++ [(cksAt (L.take k)).own a]) v9) := Lib.hid (HA9.out.app HG9.out HL9.out (by rw [HLE.out]; exact S1.out) S2.out S4.out)
              have k10 : Kept (fun q => (Value.slice a9 k c9).ownBlock = some q) w9 w10 := ((Kept.refl _ w9).alloc _).trans ⟨S2.out.os, S2.out.tape, S2.out.output, S2.out.size, fun q hq hs => S2.out.block q hq fun e => hs e.symm⟩
              have HG10 := Lib.hid (HG9.out.kept k10 (fun q cs e hB => by obtain ⟨_, cs', hB'⟩ := row_ty HXR.out q e; exact absurd rfl (Blk.ne_ hB hB' (by decide))) (fun q hq => .inl hq) (ex' := vc.ownBlock))
              have HX10 : Hid (Blk w10 qb 71 _) := Lib.hid (grown_blk HX9.out HXR.out S2.out (by decide))
              rw [← clocksOf_take HAK.out] at HA10
              clear HA9 HG9 HX9 HL9 HLE HXR HRA S1 S2 S4 k10 e1
              have e0 : w10.cell? ⟨qb, 0, none⟩ = some (.int .i64 t) := (HX10.out.cell 0).trans rfl
              have e1 : w10.cell? ⟨qb, 1, none⟩ = some (.int .i8 a.op) := (HX10.out.cell 1).trans rfl
              have e2 : w10.cell? ⟨qb, 2, none⟩ = some (.int .i64 a.cell) := (HX10.out.cell 2).trans rfl
              have e6 : w10.cell? ⟨qb, 6, none⟩ = some (.int .i64 a.now) := (HX10.out.cell 6).trans rfl
              have e7 : w10.cell? ⟨qb, 7, none⟩ = some (.bool a.ok) := (HX10.out.cell 7).trans rfl
              rw [HOP.out] at e1
              first
                | (have h7 : ¬ (a.op = 7 ∧ 0 ≤ a.now) := (by rw [HOP.out]; omega)
                   have hgv : a.gives = false := (by rw [gives_of HOP.out]; rfl)
                   go_wp2_with fail
                   exact ⟨AllRel.none HAK.out HA10.out HTH.out hgv h7 hM HREL.out, by simp [intOf]; omega⟩)
                | (have h7 : ¬ (a.op = 7 ∧ 0 ≤ a.now) := (by rw [HOP.out]; omega)
                   have hgv : a.gives = true := (by rw [gives_of HOP.out]; rfl)
                   have HGV := Lib.hid hgv
                   have H7 := Lib.hid h7
                   clear hgv h7
                   have HST := Lib.hid (set_any w.heap.size bk vc vk (.slice (some ⟨go, 0, none⟩) n co) M a.cell (clkN n ((cksAt (L.take k)).own a)) (by omega) w10 HA10.out.le HA10.out.book HG10.out)
                   go_wp2_with (go_at_call 84; refine HST.out.mono ?_; rintro e w11 ⟨rfl, vc', vk', hp⟩; have HX11 := Lib.hid (hp.box HA10.out HX10.out); have i1 : w11.cell? ⟨qb, 1, none⟩ = some (.int .i8 a.op) := (HX11.out.cell 1).trans rfl; have i6 : w11.cell? ⟨qb, 6, none⟩ = some (.int .i64 a.now) := (HX11.out.cell 6).trans rfl; rw [HOP.out] at i1; have HP := Lib.hid hp; clear hp)
                   exact ⟨AllRel.set HAK.out HA10.out HTH.out HGV.out H7.out hM HREL.out HP.out, by simp [intOf]; omega⟩)
                | (have h3 : a.op = 3 := HOP.out
                   have h7 : ¬ (a.op = 7 ∧ 0 ≤ a.now) := (by rw [h3]; omega)
                   have H7 := Lib.hid h7
                   clear h7 h3
                   by_cases hok : a.ok = true
                   · have hgv : a.gives = true := (by rw [gives_of HOP.out, hok]; rfl)
                     have HGV := Lib.hid hgv
                     rw [hok] at e7
                     clear hgv hok
                     have HST := Lib.hid (set_any w.heap.size bk vc vk (.slice (some ⟨go, 0, none⟩) n co) M a.cell (clkN n ((cksAt (L.take k)).own a)) (by omega) w10 HA10.out.le HA10.out.book HG10.out)
                     go_wp2_with (go_at_call 84; refine HST.out.mono ?_; rintro e w11 ⟨rfl, vc', vk', hp⟩; have HX11 := Lib.hid (hp.box HA10.out HX10.out); have i1 : w11.cell? ⟨qb, 1, none⟩ = some (.int .i8 a.op) := (HX11.out.cell 1).trans rfl; have i6 : w11.cell? ⟨qb, 6, none⟩ = some (.int .i64 a.now) := (HX11.out.cell 6).trans rfl; rw [HOP.out] at i1; have HP := Lib.hid hp; clear hp)
                     exact ⟨AllRel.set HAK.out HA10.out HTH.out HGV.out H7.out hM HREL.out HP.out, by simp [intOf]; omega⟩
                   · have hok' : a.ok = false := Bool.eq_false_iff.2 hok
                     have hgv : a.gives = false := (by rw [gives_of HOP.out, hok']; rfl)
                     have HGV := Lib.hid hgv
                     rw [hok'] at e7
                     clear hgv hok hok'
                     go_wp2_with fail
                     exact ⟨AllRel.none HAK.out HA10.out HTH.out HGV.out H7.out hM HREL.out, by simp [intOf]; omega⟩)
                | (have h7 : a.op = 7 := HOP.out
                   have hgv : a.gives = false := (by rw [gives_of HOP.out]; rfl)
                   have HGV := Lib.hid hgv
                   have hnb := HNW.out h7
                   have hnl : -1 ≤ a.now := (by have := HMC.out.2; omega)
                   clear hgv h7
                   by_cases hpos : 0 ≤ a.now
                   · obtain ⟨m, hm⟩ := Int.eq_ofNat_of_zero_le hpos
                     rw [hm] at e6
                     have hmn : m < n := (by omega)
                     have HM7 := Lib.hid hm
                     clear hpos hm hnb hnl
                     obtain ⟨tsA, hBTA, hTzA, hThA⟩ := HA10.out.ths
                     obtain ⟨xtA, hxtA, hgtA⟩ := hThA m hmn
                     have cTA : w10.cell? ⟨Tb, m, none⟩ = some xtA := (hBTA.cell m).trans hxtA
                     obtain ⟨atA, ctA, rfl, _⟩ := id hgtA
                     rw [clkN_len] at cTA
                     have hTlA := hBTA.lt
                     have HBTA := Lib.hid hBTA
                     have kd : Kept (fun _ => False) w10 w10.drew := (Kept.refl _ _).drew
                     have HTA := Lib.hid (rtake_any atA (some ⟨go, 0, none⟩) ctA co n n (clkN n (updc (cksAt (L.take k)).th t ((cksAt (L.take k)).own a) m)) (clkN n ((cksAt (L.take k)).own a)) (clkN_len _ _) (clkN_len _ _) (by omega) w10.drew (Gd.ints (hgtA.kept kd (fun _ _ h _ => h.elim) (fun q hq => .inl hq) (ex' := vc.ownBlock))).2 (Gd.ints (HG10.out.kept kd (fun _ _ h _ => h.elim) (fun q hq => .inl hq) (ex' := vc.ownBlock))).2)
                     clear hBTA hTzA hThA hxtA hgtA kd
                     go_upto_region 27 with fail
                     go_region_with (go_at_call 82; refine HTA.out.mono ?_; rintro e w12 ⟨v12, rfl, ho12, hb12⟩; rw [takeF_two, clkN_len] at ho12; have HO12 := Lib.hid ho12; have HB12 : Hid (Below w10.heap.size w10 w12) := Lib.hid ((Below.refl _ w10).drew.trans hb12); have HBT12 := Lib.hid (Blk.below HBTA.out HB12.out hTlA); have HX12 := Lib.hid (Blk.below HX10.out HB12.out HX10.out.lt); have j6 : w12.cell? ⟨qb, 6, none⟩ = some (.int .i64 a.now) := (HX12.out.cell 6).trans rfl; rw [HM7.out] at j6; have jT : w12.cell? ⟨Tb, m, none⟩ = some (.slice atA n ctA) := (HBT12.out.cell m).trans ((HBTA.out.cell m).symm.trans cTA); have fT := HBT12.out.frozen m; obtain ⟨gC, cC, rfl, _, _⟩ := ho12.form (by omega); clear ho12 hb12)
                     all_goals
                       go_wp2_with fail
                       exact ⟨AllRel.go HAK.out (HA10.out.same (kept_of_below HB12.out)) HTH.out HOP.out HM7.out hmn HGV.out hM HREL.out (Gd.of_row HO12.out (fun q hq => HA10.out.exlt q hq)), by simp [intOf]; omega⟩
                   · have h7n : ¬ (a.op = 7 ∧ 0 ≤ a.now) := fun h => hpos h.2
                     have hpd : decide (0 ≤ a.now) = false := (by simpa using hpos)
                     have H7 := Lib.hid h7n
                     clear h7n
                     go_wp2_with fail
                     exact ⟨AllRel.none HAK.out HA10.out HTH.out HGV.out H7.out hM HREL.out, by simp [intOf]; omega⟩)
          · rcases hop with ho | ho | ho
            all_goals
              rw [ho] at b1
              have HOP := Lib.hid ho
              have HTA := Lib.hid (own0_not (s := cksAt (L.take k)) HTH.out (by rw [takes_of ho]; rfl))
              clear ho
              go_upto_region 21 with fail
              have ho5 := HO5.out
              rw [← HTA.out] at ho5
              have HOo := Lib.hid ho5
              have HBo := Lib.hid HB5.out
              obtain ⟨go, hgo⟩ : ∃ go, go = g5 := ⟨_, rfl⟩
              obtain ⟨co, hco⟩ : ∃ co, co = c5 := ⟨_, rfl⟩
              obtain ⟨wo, hwo⟩ : ∃ wo, wo = w5 := ⟨_, rfl⟩
              subst hgo hco hwo
              clear ho5 HTA HB5 HO5 HA5 HX5
              have hgo := HOo.out.lt go rfl
              have HXo := Lib.hid (Blk.below HX4.out HBo.out hq4)
              have hbd := Cks.bd_own0 (cksAt_bd (L.take k)) a t
              obtain ⟨y, hy⟩ : ∃ y, y = (cksAt (L.take k)).own0 a t := ⟨_, rfl⟩
              have d0 : wo.cell? ⟨go, t, none⟩ = some (.int .i64 y) := by rw [HOo.out.cellAt t (by omega), List.getElem?_map, clkN_at htn, hy]; rfl
              have d1 := HOo.out.frozenAt t
              have e0 : wo.cell? ⟨qb, 0, none⟩ = some (.int .i64 t) := (HXo.out.cell 0).trans rfl
              rw [← hy] at hbd
              have hby : 0 ≤ y ∧ y ≤ 2048 := by have := List.length_take_le k L; omega
              obtain ⟨hy0, hy1⟩ := hby
              have HY := Lib.hid hy
              clear hy hbd
              go_upto_region 22 with fail
              obtain ⟨w8, hw8⟩ : ∃ w8, w8 = wo.setCell ⟨go, t, none⟩ (.int .i64 (y + 1)) := ⟨_, rfl⟩
              have HB8 : Hid (Below w4.heap.size w4 w8) := Lib.hid (by rw [hw8]; exact HBo.out.setCell (p := ⟨go, t, none⟩) hgo.1 _)
              have HO8 : Hid (w8.ownsRow w4.heap.size 3 1 (.slice (some ⟨go, 0, none⟩) n co) n ((clkN n ((cksAt (L.take k)).own a)).map fun x => .int .i64 x)) := Lib.hid (by rw [hw8]; exact own_done HTH.out HY.out HOo.out)
              rw [← hw8]
              clear hw8 d0 d1 e0 HOo HBo HXo hgo HY hy0 hy1
              have HA8 := Lib.hid (HA4.out.same (kept_of_below HB8.out))
              have HX8 := Lib.hid (Blk.below HX4.out HB8.out hq4)
              have HG8 := Lib.hid (Gd.of_row (ex := vc.ownBlock) HO8.out (fun q hq => HA4.out.exlt q hq))
              obtain ⟨ts8, hBT8, hTz8, hTh8⟩ := HA8.out.ths
              obtain ⟨xt8, hxt8, hgt8⟩ := hTh8 t htn
              have cT8 : w8.cell? ⟨Tb, t, none⟩ = some xt8 := (hBT8.cell t).trans hxt8
              have fT8 := hBT8.frozen t
              obtain ⟨at8, ct8, rfl, _⟩ := id hgt8
              have HBT8 := Lib.hid hBT8
              have hqT : qb ≠ Tb := Blk.ne_ HX8.out hBT8 (by decide)
              have e0 : w8.cell? ⟨qb, 0, none⟩ = some (.int .i64 t) := (HX8.out.cell 0).trans rfl
              have hTl8 := hBT8.lt
              clear hBT8 hTz8 hTh8 hxt8 hgt8 HB8
              go_upto_region 23 with fail
              obtain ⟨w9, hw9⟩ : ∃ w9, w9 = w8.setCell ⟨Tb, t, none⟩ (.slice (some ⟨go, 0, none⟩) n co) := ⟨_, rfl⟩
              have k9 : Kept (fun q => q = Tb) w8 w9 := by rw [hw9]; exact Kept.set (S := fun q => q = Tb) (p := ⟨Tb, t, none⟩) (Kept.refl _ w8) rfl _
              have HA9 : Hid (AllAt w.heap.size w w9 n Tb bk vc vk M (updc (cksAt (L.take k)).th t ((cksAt (L.take k)).own a)) (clocksOf (L.take k)) u7) := Lib.hid (by rw [hw9]; exact HA8.out.thread htn HG8.out)
              have HG9 := Lib.hid (HG8.out.kept k9 (fun q cs e hB => by subst e; exact absurd rfl (Blk.ne_ hB HBT8.out (by decide))) (fun q hq => .inl hq) (ex' := vc.ownBlock))
              have HX9 := Lib.hid (k9.blk HX8.out hqT)
              rw [← hw9]
              clear hw9 k9 HA8 HX8 HG8 HBT8 cT8 fT8 hqT e0 hTl8 HO8
              obtain ⟨xs9, hxs9⟩ := HA9.out.out
              have hlen : (clocksOf (L.take k)).length = k := by rw [clocksOf_len, List.length_take]; omega
              have HL9 := Lib.hid hxs9
              have HLE := Lib.hid hlen
              have hxr := hxs9.1
              rw [hlen] at hxr
              obtain ⟨a9, c9, rfl⟩ := row_shp hxr
              have HXR := Lib.hid hxr
              have HRA := Lib.hid (hxr.alloc (.cells #[.slice (some ⟨go, 0, none⟩) n co] 27))
              have hz9 := HA9.out.le
              have e1 : w9.cell? ⟨qb, 1, none⟩ = some (.int .i8 a.op) := (HX9.out.cell 1).trans rfl
              rw [HOP.out] at e1
              clear hxs9 hxr hlen
              go_upto_region 24 with (at_builtin; refine wpList_append_keep rfl _ _ 36 rfl w.heap.size 27 js _ 1 24 Tryd.underlying36 hjs hjsz hjss hjsb rfl (by decide) _ k _ rfl HRA.out ⟨w9.heap.size, 0, none⟩ 1 1 [.slice (some ⟨go, 0, none⟩) n co] rfl rfl (World.news_of_block (heap_alloc_new _ _)) (by simp [Value.oneCell']) (by unfold maxLen; omega) (by omega) (by simp; omega) ?_; intro v9 w10 r1 r2 r3 r4 r5; have S1 := Lib.hid r1; have S2 := Lib.hid r2; have S4 := Lib.hid r4; clear r1 r2 r3 r4 r5)
              have HA10 : Hid (AllAt w.heap.size w w10 n Tb bk vc vk M (updc (cksAt (L.take k)).th t ((cksAt (L.take k)).own a)) (clocksOf (L.take k) ++ [(cksAt (L.take k)).own a]) v9) := Lib.hid (HA9.out.app HG9.out HL9.out (by rw [HLE.out]; exact S1.out) S2.out S4.out)
              have k10 : Kept (fun q => (Value.slice a9 k c9).ownBlock = some q) w9 w10 := ((Kept.refl _ w9).alloc _).trans ⟨S2.out.os, S2.out.tape, S2.out.output, S2.out.size, fun q hq hs => S2.out.block q hq fun e => hs e.symm⟩
              have HG10 := Lib.hid (HG9.out.kept k10 (fun q cs e hB => by obtain ⟨_, cs', hB'⟩ := row_ty HXR.out q e; exact absurd rfl (Blk.ne_ hB hB' (by decide))) (fun q hq => .inl hq) (ex' := vc.ownBlock))
              have HX10 : Hid (Blk w10 qb 71 _) := Lib.hid (grown_blk HX9.out HXR.out S2.out (by decide))
              rw [← clocksOf_take HAK.out] at HA10
              clear HA9 HG9 HX9 HL9 HLE HXR HRA S1 S2 S4 k10 e1
              have e0 : w10.cell? ⟨qb, 0, none⟩ = some (.int .i64 t) := (HX10.out.cell 0).trans rfl
              have e1 : w10.cell? ⟨qb, 1, none⟩ = some (.int .i8 a.op) := (HX10.out.cell 1).trans rfl
              have e2 : w10.cell? ⟨qb, 2, none⟩ = some (.int .i64 a.cell) := (HX10.out.cell 2).trans rfl
              have e6 : w10.cell? ⟨qb, 6, none⟩ = some (.int .i64 a.now) := (HX10.out.cell 6).trans rfl
              have e7 : w10.cell? ⟨qb, 7, none⟩ = some (.bool a.ok) := (HX10.out.cell 7).trans rfl
              rw [HOP.out] at e1
              first
                | (have h7 : ¬ (a.op = 7 ∧ 0 ≤ a.now) := (by rw [HOP.out]; omega)
                   have hgv : a.gives = false := (by rw [gives_of HOP.out]; rfl)
                   go_wp2_with fail
                   exact ⟨AllRel.none HAK.out HA10.out HTH.out hgv h7 hM HREL.out, by simp [intOf]; omega⟩)
                | (have h7 : ¬ (a.op = 7 ∧ 0 ≤ a.now) := (by rw [HOP.out]; omega)
                   have hgv : a.gives = true := (by rw [gives_of HOP.out]; rfl)
                   have HGV := Lib.hid hgv
                   have H7 := Lib.hid h7
                   clear hgv h7
                   have HST := Lib.hid (set_any w.heap.size bk vc vk (.slice (some ⟨go, 0, none⟩) n co) M a.cell (clkN n ((cksAt (L.take k)).own a)) (by omega) w10 HA10.out.le HA10.out.book HG10.out)
                   go_wp2_with (go_at_call 84; refine HST.out.mono ?_; rintro e w11 ⟨rfl, vc', vk', hp⟩; have HX11 := Lib.hid (hp.box HA10.out HX10.out); have i1 : w11.cell? ⟨qb, 1, none⟩ = some (.int .i8 a.op) := (HX11.out.cell 1).trans rfl; have i6 : w11.cell? ⟨qb, 6, none⟩ = some (.int .i64 a.now) := (HX11.out.cell 6).trans rfl; rw [HOP.out] at i1; have HP := Lib.hid hp; clear hp)
                   exact ⟨AllRel.set HAK.out HA10.out HTH.out HGV.out H7.out hM HREL.out HP.out, by simp [intOf]; omega⟩)
                | (have h3 : a.op = 3 := HOP.out
                   have h7 : ¬ (a.op = 7 ∧ 0 ≤ a.now) := (by rw [h3]; omega)
                   have H7 := Lib.hid h7
                   clear h7 h3
                   by_cases hok : a.ok = true
                   · have hgv : a.gives = true := (by rw [gives_of HOP.out, hok]; rfl)
                     have HGV := Lib.hid hgv
                     rw [hok] at e7
                     clear hgv hok
                     have HST := Lib.hid (set_any w.heap.size bk vc vk (.slice (some ⟨go, 0, none⟩) n co) M a.cell (clkN n ((cksAt (L.take k)).own a)) (by omega) w10 HA10.out.le HA10.out.book HG10.out)
                     go_wp2_with (go_at_call 84; refine HST.out.mono ?_; rintro e w11 ⟨rfl, vc', vk', hp⟩; have HX11 := Lib.hid (hp.box HA10.out HX10.out); have i1 : w11.cell? ⟨qb, 1, none⟩ = some (.int .i8 a.op) := (HX11.out.cell 1).trans rfl; have i6 : w11.cell? ⟨qb, 6, none⟩ = some (.int .i64 a.now) := (HX11.out.cell 6).trans rfl; rw [HOP.out] at i1; have HP := Lib.hid hp; clear hp)
                     exact ⟨AllRel.set HAK.out HA10.out HTH.out HGV.out H7.out hM HREL.out HP.out, by simp [intOf]; omega⟩
                   · have hok' : a.ok = false := Bool.eq_false_iff.2 hok
                     have hgv : a.gives = false := (by rw [gives_of HOP.out, hok']; rfl)
                     have HGV := Lib.hid hgv
                     rw [hok'] at e7
                     clear hgv hok hok'
                     go_wp2_with fail
                     exact ⟨AllRel.none HAK.out HA10.out HTH.out HGV.out H7.out hM HREL.out, by simp [intOf]; omega⟩)
                | (have h7 : a.op = 7 := HOP.out
                   have hgv : a.gives = false := (by rw [gives_of HOP.out]; rfl)
                   have HGV := Lib.hid hgv
                   have hnb := HNW.out h7
                   have hnl : -1 ≤ a.now := (by have := HMC.out.2; omega)
                   clear hgv h7
                   by_cases hpos : 0 ≤ a.now
                   · obtain ⟨m, hm⟩ := Int.eq_ofNat_of_zero_le hpos
                     rw [hm] at e6
                     have hmn : m < n := (by omega)
                     have HM7 := Lib.hid hm
                     clear hpos hm hnb hnl
                     obtain ⟨tsA, hBTA, hTzA, hThA⟩ := HA10.out.ths
                     obtain ⟨xtA, hxtA, hgtA⟩ := hThA m hmn
                     have cTA : w10.cell? ⟨Tb, m, none⟩ = some xtA := (hBTA.cell m).trans hxtA
                     obtain ⟨atA, ctA, rfl, _⟩ := id hgtA
                     rw [clkN_len] at cTA
                     have hTlA := hBTA.lt
                     have HBTA := Lib.hid hBTA
                     have kd : Kept (fun _ => False) w10 w10.drew := (Kept.refl _ _).drew
                     have HTA := Lib.hid (rtake_any atA (some ⟨go, 0, none⟩) ctA co n n (clkN n (updc (cksAt (L.take k)).th t ((cksAt (L.take k)).own a) m)) (clkN n ((cksAt (L.take k)).own a)) (clkN_len _ _) (clkN_len _ _) (by omega) w10.drew (Gd.ints (hgtA.kept kd (fun _ _ h _ => h.elim) (fun q hq => .inl hq) (ex' := vc.ownBlock))).2 (Gd.ints (HG10.out.kept kd (fun _ _ h _ => h.elim) (fun q hq => .inl hq) (ex' := vc.ownBlock))).2)
                     clear hBTA hTzA hThA hxtA hgtA kd
                     go_upto_region 27 with fail
                     go_region_with (go_at_call 82; refine HTA.out.mono ?_; rintro e w12 ⟨v12, rfl, ho12, hb12⟩; rw [takeF_two, clkN_len] at ho12; have HO12 := Lib.hid ho12; have HB12 : Hid (Below w10.heap.size w10 w12) := Lib.hid ((Below.refl _ w10).drew.trans hb12); have HBT12 := Lib.hid (Blk.below HBTA.out HB12.out hTlA); have HX12 := Lib.hid (Blk.below HX10.out HB12.out HX10.out.lt); have j6 : w12.cell? ⟨qb, 6, none⟩ = some (.int .i64 a.now) := (HX12.out.cell 6).trans rfl; rw [HM7.out] at j6; have jT : w12.cell? ⟨Tb, m, none⟩ = some (.slice atA n ctA) := (HBT12.out.cell m).trans ((HBTA.out.cell m).symm.trans cTA); have fT := HBT12.out.frozen m; obtain ⟨gC, cC, rfl, _, _⟩ := ho12.form (by omega); clear ho12 hb12)
                     all_goals
                       go_wp2_with fail
                       exact ⟨AllRel.go HAK.out (HA10.out.same (kept_of_below HB12.out)) HTH.out HOP.out HM7.out hmn HGV.out hM HREL.out (Gd.of_row HO12.out (fun q hq => HA10.out.exlt q hq)), by simp [intOf]; omega⟩
                   · have h7n : ¬ (a.op = 7 ∧ 0 ≤ a.now) := fun h => hpos h.2
                     have hpd : decide (0 ≤ a.now) = false := (by simpa using hpos)
                     have H7 := Lib.hid h7n
                     clear h7n
                     go_wp2_with fail
                     exact ⟨AllRel.none HAK.out HA10.out HTH.out HGV.out H7.out hM HREL.out, by simp [intOf]; omega⟩)
        · obtain rfl : k = L.length := by omega
          have hx : decide (L.length < L.length) = false := by simp
          have hxi : decide ((L.length : Int) < (L.length : Int)) = false := by simp
          go_wp2_with fail
          obtain ⟨xs, hxs, hxg⟩ := HA.out.out
          rw [List.take_length, clocksOf_len] at hxs
          rw [List.take_length] at hxg
          refine bodyPost_ret (v := u7) (by simp [results, Tryd.results67, go_sem]) rfl ⟨u7, vc.ownBlock, xs, rfl, HA.out.low, hxs, fun i c x hc hx => ?_⟩
          rw [HN.out, Int.toNat_natCast]
          exact hxg i c x hc hx
end Go.Proofs.YtonnlgpjobfnmaaDoor
