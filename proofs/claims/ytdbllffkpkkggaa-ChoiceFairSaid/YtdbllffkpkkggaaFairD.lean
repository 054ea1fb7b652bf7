/- Select and Try, free, where they are not refused: they answer what look finds. Conditions: what refused and look answer. -/
import Derived.Test.YtdbllffkpkkggaaFairC
namespace Go.Proofs.Ytdbllffkpkkggaa
open Go.RowKit Go.MuLone
set_option maxRecDepth 100000

/-- What comes of Select and Try: the ticket turns (w1), then look (w2), then nothing that is there. -/
def Through (w : World) (tk : Nat) (x : Int) (R : Int → Int → Bool → World → World → Prop) (e : Ending) (w' : World) : Prop :=
  ∃ (i v : Int) (ok : Bool) (w1 w2 : World), e = .returned (.tuple #[.int .i64 i, .int .i64 v, .bool ok, .int .i64 0]) ∧ Kept (fun q => q = tk) w w1 ∧ IsCell w1 tk (wrap64 (x + 1)) ∧ R i v ok w1 w2 ∧ Below w2.heap.size w2 w'
def LookR (R : Int → Int → Bool → World → World → Prop) (sel : Bool) (w1 : World) (e : Ending) (w' : World) : Prop :=
  ∃ (i v : Int) (ok done : Bool), (sel = true → ok = true ∧ done = true) ∧ e = .returned (.tuple #[.agg #[.int .i64 i, .int .i64 v, .bool ok, .int .i64 0], .bool done]) ∧ R i v ok w1 w'
set_option maxHeartbeats 1000000 in
theorem select_any (c b tk : Nat) (l : Value) (x bx : Int) (R : Int → Int → Bool → World → World → Prop) (w : World) (hc : ChoiceAt w c b tk) (ht : IsCell w tk x) (hb : IsCell w b bx) (hn : b ≠ tk) (hnt : c ≠ tk) (hr : Calls Try.prog 19 #[.pointer (some ⟨c, 0, none⟩), l] w (Refused w 0))
    (hl : ∀ w1, Kept (fun q => q = tk) w w1 → Calls Try.prog 20 #[.pointer none, l, .int .i64 (wrap64 (x + 1))] w1 (LookR R true w1)) :
    Calls Try.prog 9 #[.pointer (some ⟨c, 0, none⟩), .pointer none, l] w (Through w tk x R) := by
  have HC := Lib.hid hc
  have HT := Lib.hid ht
  have HBE := Lib.hid hb
  have HL := Lib.hid hl
  clear hc ht hb hl
  go_enter Try.func9, Try.ntmps9
  go_wp2_with fail
  refine hr.mono ?_
  rintro e w1 ⟨rfl, hb1⟩
  have HB := Lib.hid hb1
  clear hb1
  have HC1 : Hid (ChoiceAt w1 c b tk) := Lib.hid (Blk.below HC.out HB.out HC.out.lt)
  have c0 := HC1.out.cell 0
  have c1 := HC1.out.cell 1
  simp at c0 c1
  go_wp2_with fail
  have HT1 := Lib.hid (show IsCell w1 tk x from Blk.below HT.out HB.out (Blk.lt HT.out))
  refine (cell_add tk x 1 _ HT1.out).mono ?_
  rintro e w2 ⟨rfl, hw2⟩
  have HK2 := Lib.hid (show Kept (fun q => q = tk) w w2 from hw2 ▸ Kept.set (S := fun q => q = tk) (g := tk) (Kept.of_below HB.out) rfl _)
  have HT2 := Lib.hid (show IsCell w2 tk (wrap64 (x + 1)) from hw2 ▸ HT1.out.set _)
  have HC2 : Hid (ChoiceAt w2 c b tk) := Lib.hid (hw2 ▸ Blk.far HC1.out (p := ⟨tk, 0, none⟩) hnt _)
  have HE2 : Hid (IsCell w2 b bx) := Lib.hid (hw2 ▸ IsCell.far (Blk.below HBE.out HB.out (Blk.lt HBE.out)) hn _)
  clear hw2 c0 c1
  have c0 := HC2.out.cell 0
  simp at c0
  go_wp2_with fail
  refine wp_loop_rounds 1 ?_
  rw [rounds_succ]
  go_wp2_with fail
  refine (cell_load b bx _ HE2.out).mono ?_
  rintro e w' ⟨rfl, rfl⟩
  go_wp2_with fail
  refine (HL.out w2 HK2.out).mono ?_
  rintro e w3 ⟨i, v, ok, done, hsel, rfl, hR⟩
  obtain ⟨rfl, rfl⟩ := hsel rfl
  have HR := Lib.hid hR
  clear hR hsel
  go_wp2_with fail
  go_quiet (fail)
  go_wp2
  refine bodyPost_ret (v := .tuple #[.int .i64 i, .int .i64 v, .bool true, .int .i64 0]) (by simp [results, Try.results9, go_sem]) rfl ⟨i, v, true, w2, w3, rfl, HK2.out, HT2.out, HR.out, ?_⟩
  exact below_drewN ((Below.refl _ _).alloc (Nat.le_refl _) _) _
set_option maxHeartbeats 1000000 in
theorem try_any (c b tk : Nat) (l : Value) (x : Int) (R : Int → Int → Bool → World → World → Prop) (w : World) (hc : ChoiceAt w c b tk) (ht : IsCell w tk x) (hr : Calls Try.prog 19 #[.pointer (some ⟨c, 0, none⟩), l] w (Refused w 0))
    (hl : ∀ w1, Kept (fun q => q = tk) w w1 → Calls Try.prog 20 #[.pointer none, l, .int .i64 (wrap64 (x + 1))] w1 (LookR R false w1)) :
    Calls Try.prog 10 #[.pointer (some ⟨c, 0, none⟩), .pointer none, l] w (Through w tk x R) := by
  have HC := Lib.hid hc
  have HT := Lib.hid ht
  have HL := Lib.hid hl
  clear hc ht hl
  go_enter Try.func10, Try.ntmps10
  go_wp2_with fail
  refine hr.mono ?_
  rintro e w1 ⟨rfl, hb1⟩
  have HB := Lib.hid hb1
  clear hb1
  have HC1 : Hid (ChoiceAt w1 c b tk) := Lib.hid (Blk.below HC.out HB.out HC.out.lt)
  have c0 := HC1.out.cell 0
  have c1 := HC1.out.cell 1
  simp at c0 c1
  go_wp2_with fail
  have HT1 := Lib.hid (show IsCell w1 tk x from Blk.below HT.out HB.out (Blk.lt HT.out))
  refine (cell_add tk x 1 _ HT1.out).mono ?_
  rintro e w2 ⟨rfl, hw2⟩
  have HK2 := Lib.hid (show Kept (fun q => q = tk) w w2 from hw2 ▸ Kept.set (S := fun q => q = tk) (g := tk) (Kept.of_below HB.out) rfl _)
  have HT2 := Lib.hid (show IsCell w2 tk (wrap64 (x + 1)) from hw2 ▸ HT1.out.set _)
  clear hw2 c0 c1
  go_wp2_with fail
  refine (HL.out w2 HK2.out).mono ?_
  rintro e w3 ⟨i, v, ok, done, hsel, rfl, hR⟩
  have HR := Lib.hid hR
  clear hR hsel
  go_wp2_with fail
  go_quiet (fail)
  go_wp2
  refine bodyPost_ret (v := .tuple #[.int .i64 i, .int .i64 v, .bool ok, .int .i64 0]) (by simp [results, Try.results10, go_sem]) rfl ⟨i, v, ok, w2, w3, rfl, HK2.out, HT2.out, HR.out, ?_⟩
  exact below_drewN ((Below.refl _ _).alloc (Nat.le_refl _) _) _
end Go.Proofs.Ytdbllffkpkkggaa
