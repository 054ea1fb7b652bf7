/- ListNone's walk: for every most and every v it returns true, and what was there is as it was. No condition. -/
import Derived.Test.YtkgdpcmbbelipaaListD
namespace Go.Proofs.Ytkgdpcmbbelipaa
open Go.RowKit Go.MuLone
set_option maxRecDepth 100000
theorem list_new_low (m : Int) (hm : m < 0) (w : World) :
    Calls Try.prog 6 #[.int .i64 m] w fun e w' => e = .returned (.pointer none) ∧ w = w' := by
  have h1 : decide ((m : Int) < 0) = true := by simpa using hm
  clear hm
  go_enter Try.func6, Try.ntmps6
  go_wp2_with fail
  go_ret
  exact ⟨rfl, rfl⟩
theorem list_new_high (m : Int) (hm : 4096 < m) (w : World) :
    Calls Try.prog 6 #[.int .i64 m] w fun e w' => e = .returned (.pointer none) ∧ w = w' := by
  have h1 : decide ((m : Int) < 0) = false := by simp; omega
  have h2 : decide (4096 < (m : Int)) = true := by simpa using hm
  clear hm
  go_enter Try.func6, Try.ntmps6
  go_wp2_with fail
  go_ret
  exact ⟨rfl, rfl⟩
theorem neq_bool (a b : Bool) (w : World) : (binOp .neq 4 (.bool a) (.bool b)).run Try.prog w = .ok (.bool (a != b)) w := by cases a <;> cases b <;> kernel_rfl
set_option maxHeartbeats 1000000 in
theorem listNone_low (m v : Int) (hm : m < 0) (w : World) :
    Calls Try.prog 3 #[.int .i64 m, .int .i64 v] w fun e w' => e = .returned (.bool true) ∧ Below w.heap.size w w' := by
  have h1 : decide ((m : Int) < 0) = true := by simpa using hm
  have hnb := neq_bool
  have HM := Lib.hid hm
  have HBARE : Hid ((w.alloc (.cells #[.pointer none, .pointer none, .slice none 0 0] 27)).cell? ⟨w.heap.size, 1, none⟩ = some (.pointer none)) := Lib.hid (by rw [(Blk.new w _ _).cell]; rfl)
  clear hm
  go_enter Try.func3, Try.ntmps3
  go_wp2_with (first | (go_at_call 6; refine (list_new_low m HM.out _).mono ?_; rintro e w' ⟨rfl, rfl⟩))
  refine (add_nil v _).mono ?_
  rintro e w' ⟨rfl, rfl⟩
  go_wp2_with fail
  refine (add_bare w.heap.size v _ HBARE.out).mono ?_
  rintro e w' ⟨rfl, rfl⟩
  go_wp2_with fail
  refine (close_nil _).mono ?_
  rintro e w' ⟨rfl, rfl⟩
  go_wp2_with fail
  refine (close_bare w.heap.size _ HBARE.out).mono ?_
  rintro e w' ⟨rfl, rfl⟩
  go_wp2_with fail
  refine (each_nil _).mono ?_
  rintro e w' ⟨rfl, rfl⟩
  go_wp2_with fail
  refine (each_bare w.heap.size _ HBARE.out).mono ?_
  rintro e w' ⟨rfl, rfl⟩
  go_wp2_with fail
  refine (works_true _).mono ?_
  rintro e w9 ⟨rfl, hb9⟩
  have HB9 := Lib.hid hb9
  clear hb9
  go_wp2
  go_ret
  exact ⟨rfl, (((Below.refl _ _).alloc (Nat.le_refl _) _).trans (HB9.out.mono (by simp)))⟩

set_option maxHeartbeats 1000000 in
theorem listNone_high (m v : Int) (hm : 4096 < m) (w : World) :
    Calls Try.prog 3 #[.int .i64 m, .int .i64 v] w fun e w' => e = .returned (.bool true) ∧ Below w.heap.size w w' := by
  have h1 : decide ((m : Int) < 0) = false := by simp; omega
  have h2 : decide (4096 < (m : Int)) = true := by simpa using hm
  have hnb := neq_bool
  have HM := Lib.hid hm
  have HBARE : Hid ((w.alloc (.cells #[.pointer none, .pointer none, .slice none 0 0] 27)).cell? ⟨w.heap.size, 1, none⟩ = some (.pointer none)) := Lib.hid (by rw [(Blk.new w _ _).cell]; rfl)
  clear hm
  go_enter Try.func3, Try.ntmps3
  go_wp2_with (first | (go_at_call 6; refine (list_new_high m HM.out _).mono ?_; rintro e w' ⟨rfl, rfl⟩))
  refine (add_nil v _).mono ?_
  rintro e w' ⟨rfl, rfl⟩
  go_wp2_with fail
  refine (add_bare w.heap.size v _ HBARE.out).mono ?_
  rintro e w' ⟨rfl, rfl⟩
  go_wp2_with fail
  refine (close_nil _).mono ?_
  rintro e w' ⟨rfl, rfl⟩
  go_wp2_with fail
  refine (close_bare w.heap.size _ HBARE.out).mono ?_
  rintro e w' ⟨rfl, rfl⟩
  go_wp2_with fail
  refine (each_nil _).mono ?_
  rintro e w' ⟨rfl, rfl⟩
  go_wp2_with fail
  refine (each_bare w.heap.size _ HBARE.out).mono ?_
  rintro e w' ⟨rfl, rfl⟩
  go_wp2_with fail
  refine (works_true _).mono ?_
  rintro e w9 ⟨rfl, hb9⟩
  have HB9 := Lib.hid hb9
  clear hb9
  go_wp2
  go_ret
  exact ⟨rfl, (((Below.refl _ _).alloc (Nat.le_refl _) _).trans (HB9.out.mono (by simp)))⟩

set_option maxHeartbeats 1000000 in
theorem listNone_mid (m : Nat) (v : Int) (hm : m ≤ 4096) (w : World) :
    Calls Try.prog 3 #[.int .i64 m, .int .i64 v] w fun e w' => e = .returned (.bool true) ∧ Below w.heap.size w w' := by
  have h1 : decide ((m : Int) < 0) = false := by simp
  have h2 : decide (4096 < (m : Int)) = false := by simp; omega
  have hnb := neq_bool
  have HM := Lib.hid hm
  clear hm
  go_enter Try.func3, Try.ntmps3
  go_wp2_with fail
  refine (list_new m HM.out w).mono ?_
  rintro e w1 ⟨l, c1, c2, p, rfl, hb, h3, h4, h5, h6, hA⟩
  have HB := Lib.hid hb
  clear hb h3 h4 h5 h6 hA
  have HBARE : Hid ((w1.alloc (.cells #[.pointer none, .pointer none, .slice none 0 0] 27)).cell? ⟨w1.heap.size, 1, none⟩ = some (.pointer none)) := Lib.hid (by rw [(Blk.new w1 _ _).cell]; rfl)
  go_wp2_with fail
  refine (add_nil v _).mono ?_
  rintro e w' ⟨rfl, rfl⟩
  go_wp2_with fail
  refine (add_bare w1.heap.size v _ HBARE.out).mono ?_
  rintro e w' ⟨rfl, rfl⟩
  go_wp2_with fail
  refine (close_nil _).mono ?_
  rintro e w' ⟨rfl, rfl⟩
  go_wp2_with fail
  refine (close_bare w1.heap.size _ HBARE.out).mono ?_
  rintro e w' ⟨rfl, rfl⟩
  go_wp2_with fail
  refine (each_nil _).mono ?_
  rintro e w' ⟨rfl, rfl⟩
  go_wp2_with fail
  refine (each_bare w1.heap.size _ HBARE.out).mono ?_
  rintro e w' ⟨rfl, rfl⟩
  go_wp2_with fail
  refine (works_true _).mono ?_
  rintro e w9 ⟨rfl, hb9⟩
  have HB9 := Lib.hid hb9
  clear hb9
  go_wp2
  go_ret
  exact ⟨rfl, HB.out.trans ((((Below.refl _ _).alloc (Nat.le_refl _) _).trans (HB9.out.mono (by simp))).mono HB.out.size)⟩

theorem listNone_walk (m v : Int) (_h0 : (Lit.int .i64 m).wf = true) (_h1 : (Lit.int .i64 v).wf = true) (w : World) :
    Calls Try.prog 3 #[.int .i64 m, .int .i64 v] w fun e w' => e = .returned (.bool true) ∧ Below w.heap.size w w' := by
  by_cases hl : m < 0
  · exact listNone_low m v hl w
  · by_cases hh : 4096 < m
    · exact listNone_high m v hh w
    · obtain ⟨k, rfl⟩ := Int.eq_ofNat_of_zero_le (show 0 ≤ m by omega)
      exact listNone_mid k v (by omega) w
end Go.Proofs.Ytkgdpcmbbelipaa
