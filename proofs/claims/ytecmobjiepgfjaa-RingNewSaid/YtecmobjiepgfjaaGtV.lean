/- The ring's arithmetic: where a position lies is its remainder; which sizes are allowed. -/
import Derived.Test.YtecmobjiepgfjaaGtP
import Derived.Laws.Bits64b
namespace Go.Proofs.Ytecmobjiepgfjaa
open Go.Conc Go.RowKit
set_option linter.unusedSimpArgs false
set_option linter.unusedVariables false
theorem ixZ_pow (k : Nat) (hk : k ≤ 12) (p : Int) : ixZ (2 ^ k) p = p % ((2 ^ k : Nat) : Int) := by
  have hb : 2 ^ k ≤ 4096 := Nat.pow_le_pow_right (by decide) hk
  have h1 : 1 ≤ 2 ^ k := Nat.one_le_two_pow
  have hd : ((2 ^ k : Nat) : Int) ∣ 18446744073709551616 := by
    have h3 : ((2 ^ k : Nat) : Int) ∣ ((2 ^ 64 : Nat) : Int) := Int.natCast_dvd_natCast.2 (Nat.pow_dvd_pow 2 (by omega))
    have h2 : ((2 ^ 64 : Nat) : Int) = 18446744073709551616 := by decide
    rw [h2] at h3; exact h3
  have e2 : IntKind.u64.wrap (wrap64 (((2 ^ k : Nat) : Int) - 1)) = ((2 ^ k - 1 : Nat) : Int) := by
    generalize hz : 2 ^ k = z at hb h1
    rw [IntKind.wrap_u64]; unfold wrap64; omega
  obtain ⟨q, hq⟩ : ∃ q : Nat, IntKind.u64.wrap p = (q : Int) := ⟨(IntKind.u64.wrap p).toNat, by rw [IntKind.wrap_u64]; omega⟩
  have hq2 : q < 18446744073709551616 := by rw [IntKind.wrap_u64] at hq; omega
  have hmod : (q : Int) = p % 18446744073709551616 := by rw [← hq, IntKind.wrap_u64]
  unfold ixZ
  rw [e2, hq, bits_and_u64_nat _ _ hq2 (by omega), Nat.and_two_pow_sub_one_eq_mod]
  push_cast
  rw [hmod]
  have := Int.emod_emod_of_dvd p hd
  push_cast at this
  exact this
/-- The sizes. -/
theorem sizes (n : Nat) (h2 : 2 ≤ n) (h4 : n ≤ 4096) (h : n &&& (n - 1) = 0) : ∃ k, 1 ≤ k ∧ k ≤ 12 ∧ n = 2 ^ k := by
  have hl : 2 ^ n.log2 ≤ n := Nat.log2_self_le (by omega)
  have hr : n < 2 ^ (n.log2 + 1) := Nat.lt_log2_self
  generalize n.log2 = k at hl hr
  have hk1 : 1 ≤ k := by
    rcases Nat.eq_zero_or_pos k with rfl | h0
    · simp at hr; omega
    · exact h0
  have hk2 : k ≤ 12 := by
    rcases Nat.lt_or_ge 12 k with h0 | h0
    · have : 2 ^ 13 ≤ 2 ^ k := Nat.pow_le_pow_right (by decide) (by omega)
      have h13 : (2 : Nat) ^ 13 = 8192 := by decide
      omega
    · exact h0
  refine ⟨k, hk1, hk2, Nat.le_antisymm (Nat.not_lt.1 fun hlt => ?_) hl⟩
  have e1 : n / 2 ^ k = 1 := Nat.div_eq_of_lt_le (by omega) (by rw [Nat.pow_succ] at hr; omega)
  have e2 : (n - 1) / 2 ^ k = 1 := Nat.div_eq_of_lt_le (by omega) (by rw [Nat.pow_succ] at hr; omega)
  have := congrArg (fun x => x.testBit k) h
  simp only [Nat.testBit_and] at this
  simp [Nat.testBit_eq_decide_div_mod_eq, e1, e2] at this
/-- As the program asks for it. -/
theorem size_bits (n : Int) (h2 : 2 ≤ n) (h4 : n ≤ 4096) (h : bits .and .i64 n (wrap64 (n - 1)) = 0) : ∃ k, 1 ≤ k ∧ k ≤ 12 ∧ n = ((2 ^ k : Nat) : Int) := by
  obtain ⟨m, rfl⟩ : ∃ m : Nat, n = m := ⟨n.toNat, by omega⟩
  have e : wrap64 ((m : Int) - 1) = ((m - 1 : Nat) : Int) := by unfold wrap64; omega
  rw [e] at h
  have hn : m &&& (m - 1) = 0 := by
    have hx : m &&& (m - 1) < 2 ^ 64 := Nat.lt_of_le_of_lt Nat.and_le_left (by omega)
    have hx2 : m &&& (m - 1) ≤ m := Nat.and_le_left
    have : bits .and .i64 (m : Int) ((m - 1 : Nat) : Int) = ((m &&& (m - 1) : Nat) : Int) := by
      have h1 : (BitVec.ofInt 64 (m : Int)).toNat = m := by
        rw [BitVec.ofInt_natCast, BitVec.toNat_ofNat]; exact Nat.mod_eq_of_lt (by omega)
      have h2 : (BitVec.ofInt 64 ((m - 1 : Nat) : Int)).toNat = m - 1 := by
        rw [BitVec.ofInt_natCast, BitVec.toNat_ofNat]; exact Nat.mod_eq_of_lt (by omega)
      show IntKind.i64.wrap ((BitVec.ofInt 64 (m : Int) &&& BitVec.ofInt 64 ((m - 1 : Nat) : Int)).toNat : Int) = _
      rw [BitVec.toNat_and, h1, h2, IntKind.wrap_i64]
      omega
    rw [this] at h
    omega
  obtain ⟨k, h1, h3, rfl⟩ := sizes m (by omega) (by omega) hn
  exact ⟨k, h1, h3, rfl⟩
theorem bits_size (k : Nat) (h1 : 1 ≤ k) (hk : k ≤ 12) : bits .and .i64 ((2 ^ k : Nat) : Int) (wrap64 (((2 ^ k : Nat) : Int) - 1)) = 0 := by
  have : ∀ k, k < 13 → 1 ≤ k → bits .and .i64 ((2 ^ k : Nat) : Int) (wrap64 (((2 ^ k : Nat) : Int) - 1)) = 0 := by decide +kernel
  exact this k (by omega) h1
/-- Two positions less than n apart do not lie at one place. -/
theorem ixZ_inj (k : Nat) (hk : k ≤ 12) (p : Int) (i j : Nat) (hi : i < 2 ^ k) (hj : j < 2 ^ k) (h : ixZ (2 ^ k) (p + i) = ixZ (2 ^ k) (p + j)) : i = j := by
  rw [ixZ_pow k hk, ixZ_pow k hk] at h
  generalize 2 ^ k = z at *
  have h3 : ((p + i) - (p + j)) % (z : Int) = 0 := Int.emod_eq_emod_iff_emod_sub_eq_zero.1 h
  have h4 : ((i : Int) - j) % (z : Int) = 0 := by rw [← h3]; congr 1; omega
  have h5 : (z : Int) ∣ (i : Int) - j := Int.dvd_of_emod_eq_zero h4
  obtain ⟨c, hc⟩ := h5
  rcases Int.lt_trichotomy c 0 with h6 | h6 | h6
  · have : (z : Int) * c ≤ (z : Int) * (-1) := Int.mul_le_mul_of_nonneg_left (by omega) (by omega)
    omega
  · subst h6; omega
  · have : (z : Int) * 1 ≤ (z : Int) * c := Int.mul_le_mul_of_nonneg_left (by omega) (by omega)
    omega
/-- A number that wrapped lies where it lay. -/
theorem ixZ_wrap (k : Nat) (hk : k ≤ 12) (p : Int) : ixZ (2 ^ k) (wrap64 p) = ixZ (2 ^ k) p := by
  have e : IntKind.u64.wrap (wrap64 p) = IntKind.u64.wrap p := by rw [IntKind.wrap_u64, IntKind.wrap_u64]; unfold wrap64; omega
  unfold ixZ; rw [e]
theorem ixZ_bounds (k : Nat) (hk : k ≤ 12) (p : Int) : 0 ≤ ixZ (2 ^ k) p ∧ ixZ (2 ^ k) p < ((2 ^ k : Nat) : Int) := by
  rw [ixZ_pow k hk]
  have : (0 : Int) < ((2 ^ k : Nat) : Int) := by have : 1 ≤ 2 ^ k := Nat.one_le_two_pow; omega
  exact ⟨Int.emod_nonneg _ (by omega), Int.emod_lt_of_pos _ this⟩
end Go.Proofs.Ytecmobjiepgfjaa
