/- What judge.Linear's inner function finds, behind the order's last entry is struck. Conditions: none. -/
import Derived.Test.YtonnlgpjobfnmaaDoorJudgePb
import Derived.Test.YtonnlgpjobfnmaaDoorJudgeQ
namespace Go.Proofs.YtonnlgpjobfnmaaDoor
open Go.RowKit
set_option maxRecDepth 100000
theorem ownsRow_init {w : World} {base n g cap : Nat} {e : TypeId} {xs : List Value} {x : Value} (h : w.ownsRow base e 1 (.slice (some ⟨g, 0, none⟩) (n + 1) cap) (n + 1) (xs ++ [x])) : w.ownsRow base e 1 (.slice (some ⟨g, 0, none⟩) n cap) n xs := by
  obtain ⟨hl, h⟩ := h
  simp only [List.length_append, List.length_cons, List.length_nil, Nat.mul_one] at hl
  rcases h with ⟨h, _⟩ | ⟨g', cap', cur, hv, hb, hc, hn, hm, hz, ht⟩
  · cases h
  · injection hv with h1 h2 h3
    injection h1 with h1
    injection h1 with h1
    subst h1 h3
    refine ⟨by omega, .inr ⟨g, cap, cur, rfl, hb, hc, by omega, hm, hz, ?_⟩⟩
    simp only [Nat.mul_one] at ht ⊢
    have := congrArg (List.take n) ht
    rw [List.take_take, Nat.min_eq_left (by omega), List.take_append_of_le_length (by omega)] at this
    rw [this, List.take_of_length_le (by omega)]
/-- The order's box holds a row of its own. -/
theorem FromAt.row {w : World} {base : Nat} {E : Env} {k : Int} {H : List Cal} {must n : Nat} {seen : List (List UInt8)} {ord : List Nat} {j : Nat} (h : FromAt w base E k H must n seen (ord ++ [j])) :
    ∃ g cap, Blk w E.bo 27 #[.slice (some ⟨g, 0, none⟩) (ord.length + 1) cap] ∧ ord.length + 1 ≤ cap ∧ cap ≤ maxLen ∧ w.ownsRow base 3 1 (.slice (some ⟨g, 0, none⟩) (ord.length + 1) cap) (ord.length + 1) ((ord.map fun i => (.int .i64 (i : Nat) : Value)) ++ [.int .i64 (j : Nat)]) := by
  obtain ⟨v, h1, h2⟩ := h.o
  have h3 := h2
  obtain ⟨hl, h2⟩ := h2
  rcases h2 with ⟨_, h2⟩ | ⟨g, cap, cur, rfl, hb, hc, hn, hm, hz, ht⟩
  · simp at h2
  · simp only [List.length_append, List.length_cons, List.length_nil] at h1 h3 hn
    refine ⟨g, cap, h1, hn, hm, ?_⟩
    have e : (ord.map fun i => (.int .i64 (i : Nat) : Value)) ++ [.int .i64 (j : Nat)] = (ord ++ [j]).map fun i => (.int .i64 (i : Nat) : Value) := by simp
    rw [e]
    exact h3
/-- The last entry is struck. -/
theorem FromAt.pop {w : World} {base : Nat} {E : Env} {k : Int} {H : List Cal} {must n : Nat} {seen : List (List UInt8)} {ord : List Nat} {j g cap : Nat} (h : FromAt w base E k H must n seen (ord ++ [j])) (hb : Blk w E.bo 27 #[.slice (some ⟨g, 0, none⟩) (ord.length + 1) cap])
    (hr : w.ownsRow base 3 1 (.slice (some ⟨g, 0, none⟩) (ord.length + 1) cap) (ord.length + 1) ((ord.map fun i => (.int .i64 (i : Nat) : Value)) ++ [.int .i64 (j : Nat)])) :
    FromAt (w.setCell ⟨E.bo, 0, none⟩ (.slice (some ⟨g, 0, none⟩) ord.length cap)) base E k H must n seen ord := by
  have hown := ownsRow_init hr
  refine h.order (row := none) ((Kept.refl _ w).set (p := ⟨E.bo, 0, none⟩) (.inl rfl) _) (fun q hq => by cases hq) (hb.set_ 0 _) (hown.kept (row := some E.bo) ⟨rfl, rfl, rfl, by simp, fun q _ hq => Below.heap_setCell _ _ _ _ (fun e => hq (by rw [e]))⟩ (.inr fun e => ?_))
  have h1 := (hown.lt _ e).1
  have h2 := h.low.2.2.2.2.2.1
  omega
theorem cnt_le (d : Nat) : cnt d ≤ 12 := by
  unfold cnt
  have := List.length_filter_le d.testBit (List.range 12)
  simpa using this
theorem cal_eq {a b : Cal} (h0 : a.op = b.op) (h1 : a.arg = b.arg) (h2 : a.new = b.new) (h3 : a.ans = b.ans) (h4 : a.ok = b.ok) (h5 : a.beg = b.beg) (h6 : a.fin = b.fin) : a = b := by
  cases a
  cases b
  simp_all
theorem from_args {d j : Nat} (v : Value) (E : Env) (hd : d < 4096) (hj : j < 12) : #[Value.int .i64 (bits .or .i64 (d : Int) (IntKind.i64.wrap (2 ^ j))), v] ++ E.args = #[Value.int .i64 ((bitSet d j : Nat) : Int), v] ++ E.args := by
  have h2 : 2 ^ j < 2 ^ 12 := Nat.pow_lt_pow_right (by decide) hj
  have h3 : 2 ^ j < 4096 := h2
  have e : (2 : Int) ^ j = ((2 ^ j : Nat) : Int) := by simp
  rw [e]
  unfold bitSet
  generalize 2 ^ j = z at h3
  rw [wraps_i64 _ (by omega) (by omega), or_i64 d z hd (by omega)]
theorem good_child {k : Int} {H : List Cal} {must d e : Nat} {hs : List Int} {seen seen' : List (List UInt8)} (hde : d < e) (hg : ∀ s, s ∈ seen → Good k H must d s) (h : ∀ s, s ∈ seen' → s ∈ seen ∨ s = keyB (d : Nat) hs ∨ Dead k H must s) : ∀ s, s ∈ seen' → Good k H must e s := fun s hs' => by
  rcases h s hs' with h | h | ⟨d', hs'', h1, h2⟩
  · obtain ⟨d', hs'', h1, h2⟩ := hg s h
    exact ⟨d', hs'', h1, h2.imp id fun h => by omega⟩
  · exact ⟨d, hs, h, .inr hde⟩
  · exact ⟨d', hs'', h1, .inl h2⟩
theorem doesF_len (k : Int) (hs : List Int) (c : Cal) : (doesF k hs c).1.length ≤ hs.length + 1 := by
  unfold doesF
  repeat' split
  all_goals first
    | (simp; done)
    | (simp; omega)
    | (simp only []; split <;> simp)
theorem doesF_one {k : Int} {hs : List Int} {c : Cal} (hk : 2 < k) (_h : hs.length = 1) : (doesF k hs c).1.length = 1 := by
  unfold doesF
  rw [if_neg (by omega)]
  simp only []
  repeat' split
  all_goals simp
theorem Frm.push {w w' : World} {base : Nat} {E : Env} {A B : Obj} {v : Value} {n : Nat} {xs : List Value} (hown : w.ownsRow base 3 1 v n xs) (hg : ((w.alloc A).alloc B).grownBy w' v.ownBlock) (z : Value) : Frm base E w (w'.setCell ⟨E.bo, 0, none⟩ z) := by
  refine (grown2_kept E.bo hg z).mono fun q hq => ?_
  rcases hq with hq | hq
  · exact .inl hq
  · refine .inr (.inr ⟨(hown.lt q hq.symm).1, ?_⟩)
    obtain ⟨_, ⟨rfl, _⟩ | ⟨g, cap, cur, rfl, _, hc, _⟩⟩ := hown
    · cases hq
    · simp only [Value.ownBlock] at hq
      injection hq with hq
      subst hq
      exact ⟨_, _, hc⟩
end Go.Proofs.YtonnlgpjobfnmaaDoor
