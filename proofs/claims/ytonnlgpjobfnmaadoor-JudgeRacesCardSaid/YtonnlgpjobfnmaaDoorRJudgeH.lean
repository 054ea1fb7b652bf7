/- judge.key: a number and what a thing holds, as a text. Conditions: what the slice's cells hold; Go's table of powers of ten; sizes. -/
import Derived.Test.YtonnlgpjobfnmaaDoorRBuilder
import Derived.Lib.ItoaLen
namespace Go.Proofs.YtonnlgpjobfnmaaDoor
open Go.RowKit
open Go.Sort (grow heap_grow_old size_grow)
set_option maxRecDepth 100000

def i64of (x : Int) : Prop := -9223372036854775808 ≤ x ∧ x ≤ 9223372036854775807
/-- The slice that starts at b reads as these numbers; its block lies below B. -/
structure NumsAt (w : World) (B : Nat) (b : Option Addr) (hs : List Int) : Prop where
  wf : ∀ x, x ∈ hs → i64of x
  at_ : ∀ (i : Nat) (x : Int), hs[i]? = some x → ∃ g off, b = some ⟨g, off, none⟩ ∧ g < B ∧ (∃ cs fr, w.heap[g]? = some (.cells cs 2 fr)) ∧ w.cell? ⟨g, off + i, none⟩ = some (.int .i64 x)
theorem NumsAt.of {w w' : World} {B : Nat} {b : Option Addr} {L : List Int} (h : NumsAt w B b L) (hb : Below B w w') : NumsAt w' B b L :=
  ⟨h.wf, fun i a ha => by obtain ⟨g, off, e, hg, ⟨cs, fr, ht⟩, hA⟩ := h.at_ i a ha; exact ⟨g, off, e, hg, ⟨cs, fr, (hb.block g hg).trans ht⟩, (hb.cell hg).trans hA⟩⟩
theorem NumsAt.mono {w : World} {B B' : Nat} {b : Option Addr} {L : List Int} (h : NumsAt w B b L) (hb : B ≤ B') : NumsAt w B' b L :=
  ⟨h.wf, fun i a ha => by obtain ⟨g, off, e, hg, hA⟩ := h.at_ i a ha; exact ⟨g, off, e, by omega, hA⟩⟩
/-- Go's table of the powers of ten. -/
def Tens (w : World) : Prop := Lib.TabIs Tryd.prog w "internal/strconv.uint64pow10" .u64 Lib.pow10Tab
theorem Tens.of {w w' : World} (h : Tens w) (hb : ∀ q, q < w.heap.size → Tryd.prog.globalNamed "internal/strconv.uint64pow10" = some q → w'.heap[q]? = w.heap[q]?) : Tens w' := by
  unfold Tens Lib.TabIs World.var? at *
  cases hg : Tryd.prog.globalNamed "internal/strconv.uint64pow10" with
  | none => rw [hg] at h; exact h
  | some g =>
    rw [hg] at h
    simp only [Option.bind_some] at h ⊢
    have hlt : g < w.heap.size := by
      rcases Nat.lt_or_ge g w.heap.size with h' | h'
      · exact h'
      · simp [Array.getElem?_eq_none h'] at h
    rw [hb g hlt hg]
    exact h
theorem Tens.below {w w' : World} (h : Tens w) (hb : Below w.heap.size w w') : Tens w' := h.of fun q hq _ => hb.block q hq
theorem grown_tail (w : World) (k : Nat) (os : Array Obj) (row : Option Nat) : w.grownBy (grow (w.drewN k) os) row :=
  ⟨rfl, rfl, rfl, by show w.heap.size ≤ (grow (w.drewN k) os).heap.size; rw [size_grow]; exact Nat.le_add_right _ _, fun q hq _ => heap_grow_old (w.drewN k) os hq⟩
theorem builder_kept {T e : TypeId} {B b : Nat} {p : Value} {bs : List Value} {w w' : World} (h : Lib.BuilderAt T e B b p bs w) (hg : w.grownBy w' none) : Lib.BuilderAt T e B b p bs w' := by
  have hlt := h.lt
  obtain ⟨hB, v, hb, hown, hne⟩ := h
  exact ⟨hB, v, (hg.block b hlt (by simp)).trans hb, hown.kept hg (by cases hv : v.ownBlock <;> simp), hne⟩

def keyB (d : Int) (hs : List Int) : List UInt8 := Lib.itoa d ++ hs.flatMap fun x => 32 :: Lib.itoa x
theorem keyB_take {d : Int} {hs : List Int} {k : Nat} {x : Int} (h : hs[k]? = some x) : keyB d (hs.take (k + 1)) = keyB d (hs.take k) ++ (32 :: Lib.itoa x) := by
  have : hs.take (k + 1) = hs.take k ++ [x] := by rw [List.take_add_one, h]; rfl
  rw [keyB, this, List.flatMap_append, ← List.append_assoc]
  simp [keyB]
theorem keyB_len (d : Int) (hd : i64of d) : ∀ (hs : List Int), (∀ x, x ∈ hs → i64of x) → (keyB d hs).length ≤ 21 + 22 * hs.length := by
  have key : ∀ (hs : List Int), (∀ x, x ∈ hs → i64of x) → (hs.flatMap fun x => 32 :: Lib.itoa x).length ≤ 22 * hs.length := by
    intro hs
    induction hs with
    | nil => intro _; simp
    | cons x hs ih =>
      intro h
      have h1 := Lib.itoa_length_le x (h x (by simp)).1 (h x (by simp)).2
      have h2 := ih fun y hy => h y (by simp [hy])
      simp only [List.flatMap_cons, List.length_append, List.length_cons]
      omega
  intro hs h
  have h1 := Lib.itoa_length_le d hd.1 hd.2
  have h2 := key hs h
  simp only [keyB, List.length_append]
  omega
theorem cat32 (l : List UInt8) : (({ data := #[32] } : ByteArray) ++ { data := l.toArray }) = { data := (32 :: l).toArray } := by
  apply ByteArray.ext
  rw [ByteArray.data_append]
  simp
def KeyPost (d : Int) (hs : List Int) (w : World) (e : Ending) (w' : World) : Prop := e = .returned (.string ⟨(keyB d hs).toArray⟩) ∧ Below w.heap.size w w'
def KeyRel (d : Int) (hs : List Int) (w0 : World) (i : Value) (wr : World) : Prop :=
  ∃ k : Nat, k ≤ hs.length ∧ i = .int .i64 k ∧ Lib.BuilderAt 121 5 w0.heap.size w0.heap.size (.pointer (some ⟨w0.heap.size, 0, none⟩)) (Lib.byteCells (keyB d (hs.take k))) wr ∧ Below w0.heap.size w0 wr
set_option maxHeartbeats 4000000 in
theorem key_any (d : Int) (hd : i64of d) (b : Option Addr) (cap : Nat) (hs : List Int) (hsz : hs.length ≤ 1000000) (w : World) (h : NumsAt w w.heap.size b hs) (ht : Tens w) :
    Calls Tryd.prog 43 #[.int .i64 d, .slice b hs.length cap] w (KeyPost d hs w) := by
  have H := Lib.hid h
  have HT := Lib.hid ht
  have HD := Lib.hid hd
  clear h ht hd
  go_enter Tryd.func43, Tryd.ntmps43
  go_wp2_with (first
    | (go_at_call 72; refine (Tryd.strconv_Itoa d HD.out.1 HD.out.2 _ (Tens.below HT.out ((Below.refl _ w).alloc (Nat.le_refl _) _))).mono ?_; rintro e w1 ⟨rfl, hw1⟩)
    | (go_at_call 71
       have HB0 : Lib.BuilderAt 121 5 w.heap.size w.heap.size (.pointer none) [] w1 := by
         obtain ⟨k1, os1, rfl⟩ := hw1
         exact builder_kept ⟨Nat.le_refl _, .slice none 0 0, heap_alloc_new w _, World.ownsRow_nil _ _ _ _, by simp [Value.ownBlock]⟩ (grown_tail _ k1 os1 none)
       have HS0 : w.heap.size ≤ w1.heap.size := by
         obtain ⟨k1, os1, rfl⟩ := hw1
         rw [size_grow]
         exact Nat.le_trans ((Below.refl _ w).alloc (Nat.le_refl _) _).size (Nat.le_add_right _ _)
       refine (writeString_any w.heap.size w.heap.size [] _ w1 (.inl HB0) (by have := Lib.itoa_length_le d HD.out.1 HD.out.2; simp [ByteArray.size]; omega) HS0).mono ?_; rintro e w2 ⟨rfl, hb2, hk2⟩))
  have HB1 : Below w.heap.size w w1 := by
    obtain ⟨k1, os1, rfl⟩ := hw1
    exact ((Below.refl _ w).alloc (Nat.le_refl _) _).grown (grown_tail _ k1 os1 none) (by simp) (by simp)
  have HK := Lib.hid (HB1.trans hk2)
  have HB := Lib.hid hb2
  clear hw1 hb2 hk2 HB1
  go_loopw [13] (fun i wr => KeyRel d hs w i wr) (fun i _ => hs.length - (intOf i).toNat)
  case atStart => exact ⟨0, Nat.zero_le _, rfl, by rw [show keyB d (hs.take 0) = Lib.itoa d by simp [keyB]]; exact HB.out, HK.out⟩
  case round =>
    obtain ⟨k, hk, rfl, hb, hkp⟩ := hrel
    have HB := Lib.hid hb
    have HK := Lib.hid hkp
    clear hb hkp
    by_cases hlt : k < hs.length
    · obtain ⟨x, hxk⟩ : ∃ x, hs[k]? = some x := ⟨hs[k], List.getElem?_eq_getElem hlt⟩
      obtain ⟨g, off, rfl, hg, _, hA⟩ := (H.out.of HK.out).at_ k x hxk
      have hwx := H.out.wf x (List.mem_of_getElem? hxk)
      have HW := Lib.hid hwx
      have HX := Lib.hid hxk
      clear hwx hxk
      have hx : decide (k < hs.length) = true := by simpa using hlt
      have hl : ¬ (9223372036854775807 < 1 + (Lib.itoa x).length) := by have := Lib.itoa_length_le x HW.out.1 HW.out.2; omega
      go_wp2_with (first
        | (go_at_call 73; refine (Tryd.strconv_FormatInt_10 x HW.out.1 HW.out.2 _ (Tens.below HT.out HK.out)).mono ?_; rintro e w3 ⟨rfl, hw3⟩)
        | (go_at_call 71
           have HB3 : Lib.BuilderAt 121 5 w.heap.size w.heap.size (.pointer (some ⟨w.heap.size, 0, none⟩)) (Lib.byteCells (keyB d (hs.take k))) w3 := by
             obtain ⟨k1, os1, rfl⟩ := hw3
             exact builder_kept HB.out (grown_tail _ k1 os1 none)
           have HS3 : Below w.heap.size w w3 := by
             obtain ⟨k1, os1, rfl⟩ := hw3
             exact HK.out.grown (grown_tail _ k1 os1 none) HK.out.size (by simp)
           refine (writeString_any w.heap.size w.heap.size _ _ w3 (.inr HB3) (by
             have h1 := Lib.itoa_length_le x HW.out.1 HW.out.2
             have h2 := keyB_len d HD.out (hs.take k) (fun y hy => H.out.wf y (List.mem_of_mem_take hy))
             rw [List.length_take, Nat.min_eq_left hk] at h2
             rw [Lib.byteCells_length]
             rw [cat32]
             simp only [ByteArray.size, List.size_toArray, List.length_cons]
             omega) HS3.size).mono ?_; rintro e w4 ⟨rfl, hb4, hk4⟩))
      refine ⟨⟨k + 1, by omega, by rw [Int.natCast_add]; rfl, ?_, HS3.trans hk4⟩, by simp [intOf]; omega⟩
      rw [keyB_take HX.out, Lib.byteCells_append]
      rw [cat32] at hb4
      exact hb4
    · have hx : decide (k < hs.length) = false := by simpa using hlt
      go_wp2_with (go_at_call 74; refine (Tryd.Builder_String_any w.heap.size w.heap.size _ _ (.inr HB.out) HK.out.size).mono ?_; rintro e w3 ⟨rfl, hk3⟩)
      go_ret
      have : k = hs.length := by omega
      exact ⟨by rw [this, List.take_length]; rfl, HK.out.trans hk3⟩
end Go.Proofs.YtonnlgpjobfnmaaDoor
