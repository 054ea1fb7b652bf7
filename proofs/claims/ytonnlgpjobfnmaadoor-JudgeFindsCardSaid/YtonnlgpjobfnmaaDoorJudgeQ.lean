/- judge.Linear's inner function: the search with its memo. Conditions: what the boxes hold. -/
import Derived.Test.YtonnlgpjobfnmaaDoorJudgeP
namespace Go.Proofs.YtonnlgpjobfnmaaDoor
open Go.RowKit
set_option maxRecDepth 100000

/-- A text that has been: there is no order from it, or it is one that is under way. -/
def Good (k : Int) (H : List Cal) (must d : Nat) (s : List UInt8) : Prop := ∃ d' hs', s = keyB (d' : Nat) hs' ∧ (Lin k H must d' hs' = none ∨ d' < d)
def Dead (k : Int) (H : List Cal) (must : Nat) (s : List UInt8) : Prop := ∃ d' hs', s = keyB (d' : Nat) hs' ∧ Lin k H must d' hs' = none
/-- What it leaves. -/
def Left (base : Nat) (E : Env) (k : Int) (H : List Cal) (must r n : Nat) (seen : List (List UInt8)) (ord : List Nat) (ans : Option (List Nat)) (w w' : World) : Prop :=
  ∃ n' seen' ord', FromAt w' base E k H must n' seen' ord' ∧ n' ≤ n + nodes r ∧ Frm base E w w' ∧ (match ans with
    | some l => ord' = ord ++ l
    | none => ord' = ord ∧ ∀ s, s ∈ seen' → s ∈ seen ∨ Dead k H must s)
def FromPost (base : Nat) (E : Env) (k : Int) (H : List Cal) (must r n : Nat) (seen : List (List UInt8)) (ord : List Nat) (ans : Option (List Nat)) (w : World) (e : Ending) (w' : World) : Prop :=
  e = .returned (.bool ans.isSome) ∧ Left base E k H must r n seen ord ans w w'
theorem and_i64 (a b : Nat) (ha : a < 4096) (hb : b < 4096) : bits .and .i64 (a : Int) (b : Int) = ((a &&& b : Nat) : Int) := (bits_nat .i64 63 (by decide) wraps_i64 a b (by omega) (by omega)).1
theorem or_i64 (a b : Nat) (ha : a < 4096) (hb : b < 4096) : bits .or .i64 (a : Int) (b : Int) = ((a ||| b : Nat) : Int) := (bits_nat .i64 63 (by decide) wraps_i64 a b (by omega) (by omega)).2
set_option maxHeartbeats 4000000 in
theorem from_done (base : Nat) (E : Env) (k : Int) (H : List Cal) (must r d n : Nat) (hd : d < 4096) (hm : must < 4096) (v : Value) (hs : List Int) (seen : List (List UInt8)) (ord : List Nat) (w : World) (h : FromAt w base E k H must n seen ord) (hdone : d &&& must = must) :
    Calls Tryd.prog 42 (#[.int .i64 d, v] ++ E.args) w (FromPost base E k H must r n seen ord (Lin k H must d hs) w) := by
  have c0 := h.m.cell 0
  have hb := and_i64 d must hd hm
  rw [hdone] at hb
  have HF := Lib.hid h
  clear h
  rw [Lin_done hdone]
  unfold Env.args
  go_enter Tryd.func42, Tryd.ntmps42
  go_wp2_with fail
  go_ret
  exact ⟨rfl, n, seen, ord, HF.out, by omega, Frm.refl _ _ _, by simp⟩
theorem and_ne {d must : Nat} (h : d &&& must ≠ must) : decide (((d &&& must : Nat) : Int) = (must : Int)) = false := by
  simp only [decide_eq_false_iff_not]
  omega
theorem good_none {k : Int} {H : List Cal} {must d : Nat} {hs : List Int} (h : Good k H must d (keyB (d : Nat) hs)) : Lin k H must d hs = none := by
  obtain ⟨d', hs', e, h⟩ := h
  obtain ⟨e1, e2⟩ := key_inj _ _ _ _ e
  have e1 : d = d' := by omega
  subst e1 e2
  rcases h with h | h
  · exact h
  · omega
set_option maxHeartbeats 4000000 in
theorem from_seen (base : Nat) (E : Env) (k : Int) (H : List Cal) (must r d n : Nat) (hd : d < 4096) (hm : must < 4096) (v : Value) (hs : List Int) (hl : hs.length ≤ 1000) (seen : List (List UInt8)) (ord : List Nat) (w : World) (h : FromAt w base E k H must n seen ord) (hdone : d &&& must ≠ must)
    (hv : ThingAt w v hs) (hk : keyB (d : Nat) hs ∈ seen) (hg : ∀ s, s ∈ seen → Good k H must d s) :
    Calls Tryd.prog 42 (#[.int .i64 d, v] ++ E.args) w (FromPost base E k H must r n seen ord (Lin k H must d hs) w) := by
  have c0 := h.m.cell 0
  have hb := and_i64 d must hd hm
  have hb2 := and_ne hdone
  obtain ⟨a, cap, rfl, hcap, hnone, hN⟩ := hv
  rw [good_none (hg _ hk)]
  have HN := Lib.hid hN
  have HF := Lib.hid h
  have HI : Hid (i64of (d : Nat)) := Lib.hid ⟨by omega, by omega⟩
  have HK := Lib.hid hk
  clear h hN hg hk
  unfold Env.args
  go_enter Tryd.func42, Tryd.ntmps42
  go_wp2_with (go_at_call 43; refine (key_any d HI.out a cap hs (by omega) _ HN.out HF.out.tens).mono ?_; rintro e w1 ⟨rfl, hk1⟩; have HF1 : Hid (FromAt w1 base E k H must n seen ord) := Lib.hid (HF.out.below hk1); have HB1 := Lib.hid hk1; clear hk1; have c1 := HF1.out.b.cell 0; have hlook := HF1.out.seen.look (keyB (d : Nat) hs) (by have := keyB_len (d : Nat) HI.out hs HN.out.wf; unfold maxLen; omega); rw [decide_eq_true HK.out] at hlook)
  go_ret
  exact ⟨rfl, n, seen, ord, HF1.out, by omega, Frm.of_below HB1.out, rfl, fun s hs => .inl hs⟩
end Go.Proofs.YtonnlgpjobfnmaaDoor
