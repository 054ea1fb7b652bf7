/- Cancel of a live token, by what its entries do. Conditions: what the blocks hold; what each entry's call does. -/
import Derived.Test.YtkgdpcmbbelipaaTokH
namespace Go.Proofs.Ytkgdpcmbbelipaa
open Go.RowKit Go.MuLone
set_option maxRecDepth 100000

/-- An entry as this program lays it: a child, or TokenDeep's function. -/
def EntOk (e : Ent) : Prop := (∃ t, e = (some ⟨t, 0, none⟩, .nilFunc)) ∨ ∃ a b c, e = (none, .func (.func 15) #[] #[.pointer (some ⟨a, 0, none⟩), .pointer (some ⟨b, 0, none⟩), .pointer (some ⟨c, 0, none⟩)])
/-- What the entries' calls do: I i holds ahead of entry i. -/
structure Does (vs : List Ent) (y : Int) (B : Nat) (I : Nat → World → Prop) : Prop where
  stays : ∀ i w o, I i w → I i (w.alloc o)
  child : ∀ (i t : Nat), vs[i]? = some (some ⟨t, 0, none⟩, .nilFunc) → ∀ w1, I i w1 → Calls Try.prog 16 #[.pointer (some ⟨t, 0, none⟩), .pointer none, .int .i64 y] w1 fun e w' => (∃ b, e = .returned (.bool b)) ∧ I (i + 1) w' ∧ Kept (fun q => q < B) w1 w'
  fn : ∀ (i a b c : Nat), vs[i]? = some (none, .func (.func 15) #[] #[.pointer (some ⟨a, 0, none⟩), .pointer (some ⟨b, 0, none⟩), .pointer (some ⟨c, 0, none⟩)]) → ∀ w1, I i w1 →
    Calls Try.prog 15 #[.pointer none, .int .i64 y, .pointer (some ⟨a, 0, none⟩), .pointer (some ⟨b, 0, none⟩), .pointer (some ⟨c, 0, none⟩)] w1 fun e w' => e = .returned (.tuple #[]) ∧ I (i + 1) w' ∧ Kept (fun q => q < B) w1 w'

/-- The row that Close gave: cell 2 i is the child, the next the function. -/
def RowAt (w : World) (B : Nat) (v : Value) (es : List Ent) : Prop := ∃ a cap, v = .slice a es.length cap ∧ (es = [] ∨ ∃ g cs, a = some ⟨g, 0, none⟩ ∧ B ≤ g ∧ Blk w g 78 cs ∧ ∀ i e, es[i]? = some e → cs[i * 2]? = some (.pointer e.1) ∧ cs[i * 2 + 1]? = some e.2)
theorem entVals_at (es : List Ent) (i : Nat) (e : Ent) (h : es[i]? = some e) : (entVals es)[i * 2]? = some (.pointer e.1) ∧ (entVals es)[i * 2 + 1]? = some e.2 := by
  induction es generalizing i with
  | nil => simp at h
  | cons x xs ih =>
    cases i with
    | zero => simp at h; subst h; exact ⟨rfl, rfl⟩
    | succ i =>
      have h' : xs[i]? = some e := by simpa using h
      have := ih i h'
      have e1 : (i + 1) * 2 = i * 2 + 1 + 1 := by omega
      simpa [entVals, e1] using this
theorem RowAt.of_own {w : World} {B : Nat} {v : Value} {es : List Ent} (h : w.ownsRow B 78 2 v es.length (entVals es)) : RowAt w B v es := by
  rcases h.2 with ⟨rfl, h0⟩ | ⟨g, cap, cur, rfl, hB, hb, hnc, hcm, hcs, ht⟩
  · have : es = [] := by simpa using h0
    subst this
    exact ⟨none, 0, rfl, .inl rfl⟩
  · refine ⟨_, cap, rfl, .inr ⟨g, cur, rfl, hB, hb, fun i e he => ?_⟩⟩
    have hi : i < es.length := (List.getElem?_eq_some_iff.1 he).1
    obtain ⟨a1, a2⟩ := entVals_at es i e he
    rw [← ht, List.getElem?_take_of_lt (by omega), Array.getElem?_toList] at a1 a2
    exact ⟨a1, a2⟩
theorem RowAt.keep {w w' : World} {B : Nat} {v : Value} {es : List Ent} (h : RowAt w B v es) (k : Kept (fun q => q < B) w w') : RowAt w' B v es := by
  obtain ⟨a, cap, hv, h⟩ := h
  refine ⟨a, cap, hv, h.imp id ?_⟩
  rintro ⟨g, cs, ha, hB, hb, hh⟩
  exact ⟨g, cs, ha, hB, k.blk hb (by omega), hh⟩

set_option maxHeartbeats 4000000 in
theorem cancel_does {k : Tk} {w : World} {d last : Int} {hd : Nat} {cs : Array Value} {vs : List Ent} {y : Int} {I : Nat → World → Prop} (hy : 1 ≤ y) (h : k.At w d 0 last hd cs) (hc : ChainE cs hd vs) (hv : vs.length ≤ 2) (hok : ∀ e ∈ vs, EntOk e) (hdo : Does vs.reverse y w.heap.size I)
    (h0 : ∀ w1, k.At w1 d y last (-1) cs → Kept k.has w w1 → I 0 w1) :
    Calls Try.prog 16 #[.pointer (some ⟨k.T, 0, none⟩), .pointer none, .int .i64 y] w fun e w' => e = .returned (.bool true) ∧ I vs.length w' := by
  have H := Lib.hid h.made0
  have HA := Lib.hid h
  have m0 := h.made0
  have hx : decide (y < 1) = false := by simp; omega
  have HD := Lib.hid hdo
  have H0 := Lib.hid h0
  have HC := Lib.hid hc
  have HOK := Lib.hid hok
  clear h hdo h0 hc hok hy
  go_enter Try.func16, Try.ntmps16
  go_wp2_with (first | (go_at_call 34; refine (made_yesT _ _ _ H.out).mono ?_; rintro e w' ⟨rfl, rfl⟩))
  refine (cell_cas_hit k.R 0 y _ HA.out.2.1).mono ?_
  rintro e w1 ⟨rfl, hw1⟩
  have HA1 := Lib.hid (hw1 ▸ HA.out.reason y)
  have K1 : Hid (Kept k.has w w1) := Lib.hid (hw1 ▸ Kept.set (Kept.refl _ _) HA.out.2.2.2.2.2.2.1 _)
  have LS : Hid (w1.heap.size = w.heap.size) := Lib.hid (by rw [← hw1]; simp)
  clear hw1
  have m1 := HA1.out.made1
  go_wp2_with fail
  refine (close_okE k.L k.c1 k.c2 k.P last hd 65 cs vs _ HA1.out.2.2.1 HC.out hv).mono ?_
  rintro e w2 ⟨v, rfl, hown, hb2⟩
  have HA2 := Lib.hid ((HA1.out.close (-1)).keep (Kept.of_below (S := fun _ => False) (hb2.mono (by simp))) (fun _ _ h => h))
  have K2 : Hid (Kept k.has w w2) := Lib.hid ((K1.out.trans (Kept.set (Kept.refl _ _) HA.out.2.2.2.2.2.2.2.2.2.1 _)).trans (Kept.of_below (hb2.mono (by simp))))
  have RW : Hid (RowAt w2 w.heap.size v vs.reverse) := Lib.hid (RowAt.of_own (by have := hown; simp only [LS.out] at this; simpa using this))
  have HI : Hid (I 0 w2) := Lib.hid (H0.out w2 HA2.out K2.out)
  clear hown hb2
  obtain ⟨a, cap, hv2, _⟩ := RW.out
  subst hv2
  have hlen : vs.reverse.length = vs.length := by simp
  rw [hlen] at RW
  simp only [hlen]
  go_wp2_with fail
  go_loopw [39, 10] (fun iv _ wr => ∃ i : Nat, i ≤ vs.length ∧ iv = .int .i64 i ∧ Hid (I i wr ∧ RowAt wr w.heap.size (.slice a vs.length cap) vs.reverse ∧ w.heap.size ≤ wr.heap.size)) (fun iv _ _ => vs.length + 1 - (intOf iv).toNat)
  case atStart => exact ⟨0, by omega, rfl, Lib.hid ⟨HI.out, RW.out, K2.out.size⟩⟩
  case round =>
    obtain ⟨i, hi, rfl, HR⟩ := hrel
    by_cases hilt : i < vs.length
    · have hx2 : decide ((i : Int) < vs.length) = true := by simp; omega
      obtain ⟨e0, he0⟩ : ∃ e0, vs.reverse[i]? = some e0 := ⟨_, List.getElem?_eq_getElem (by simp; omega)⟩
      obtain ⟨a', cap', hva, hrow⟩ := HR.out.2.1
      rcases hrow with hnil | ⟨g, cs2, ha2, hB, hbg, hat⟩
      · have : vs.reverse.length = 0 := by rw [hnil]; rfl
        simp at this
        subst this
        simp at hilt
      · simp at hva
        obtain ⟨rfl, rfl⟩ := hva
        subst ha2
        obtain ⟨q0, q1⟩ := hat i e0 he0
        have x0 := (hbg.cell (i * 2)).trans q0
        have x1 := (hbg.cell (i * 2 + 1)).trans q1
        have hii : (i : Int) < vs.length := by omega
        have HE := Lib.hid he0
        have ok0 : EntOk e0 := HOK.out e0 (by have := List.mem_of_getElem? he0; simpa using this)
        clear hat q0 q1 hbg he0
        rcases ok0 with ⟨t, rfl⟩ | ⟨oo, cc, ii, rfl⟩
        · go_wp2_with fail
          refine (HD.out.child i t HE.out _ (HD.out.stays i wr _ HR.out.1)).mono ?_
          rintro e w4 ⟨⟨b4, rfl⟩, hI4, hK4⟩
          have HI4 := Lib.hid hI4
          have K4 : Hid (Kept (fun q => q < w.heap.size) wr w4) := Lib.hid ((Kept.of_below ((Below.refl _ _).alloc (Nat.le_refl _) _)).trans hK4)
          clear hI4 hK4
          go_wp2
          go_roundw
          case rel => exact ⟨i + 1, by omega, by go_num, Lib.hid ⟨HI4.out, HR.out.2.1.keep K4.out, Nat.le_trans HR.out.2.2 K4.out.size⟩⟩
          case measure => simp [intOf]; omega
        · go_wp2_with fail
          refine (HD.out.fn i oo cc ii HE.out _ (HD.out.stays i wr _ HR.out.1)).mono ?_
          rintro e w4 ⟨rfl, hI4, hK4⟩
          have HI4 := Lib.hid hI4
          have K4 : Hid (Kept (fun q => q < w.heap.size) wr w4) := Lib.hid ((Kept.of_below ((Below.refl _ _).alloc (Nat.le_refl _) _)).trans hK4)
          clear hI4 hK4
          go_wp2
          go_roundw
          case rel => exact ⟨i + 1, by omega, by go_num, Lib.hid ⟨HI4.out, HR.out.2.1.keep K4.out, Nat.le_trans HR.out.2.2 K4.out.size⟩⟩
          case measure => simp [intOf]; omega
    · have hx2 : decide ((i : Int) < vs.length) = false := by simp; omega
      have hie : i = vs.length := by omega
      subst hie
      go_wp2
      go_ret
      exact ⟨rfl, HR.out.1⟩
end Go.Proofs.Ytkgdpcmbbelipaa
