/- Taking turns: who begins at n modulo m is taken within m rounds. No program in sight; no condition. -/
import Derived.Test.YtdbllffkpkkggaaFairB
namespace Go.Proofs.Ytdbllffkpkkggaa

/-- How long ago, at most, the q-th was taken, ahead of round n. -/
def bnd (m n q : Nat) : Nat := if n ≤ q then n else (n - 1 - q) % m
theorem bnd_lt {m n q : Nat} (hq : q < m) : bnd m n q < m := by
  unfold bnd
  by_cases h : n ≤ q
  · rw [if_pos h]; omega
  · rw [if_neg h]; exact Nat.mod_lt _ (by omega)
theorem bnd_step {m n q : Nat} (hq : q < m) (h : n % m ≠ q) : bnd m n q + 1 ≤ bnd m (n + 1) q := by
  unfold bnd
  by_cases h1 : n + 1 ≤ q
  · rw [if_pos h1, if_pos (by omega)]; omega
  · rw [if_neg h1]
    by_cases h2 : n ≤ q
    · exfalso; apply h
      rw [Nat.mod_eq_of_lt (by omega)]; omega
    · rw [if_neg h2]
      have ha := Nat.div_add_mod (n - 1 - q) m
      have he := Nat.mod_lt (n - 1 - q) (show 0 < m by omega)
      have hs : n + 1 - 1 - q = m * ((n - 1 - q) / m) + ((n - 1 - q) % m + 1) := by omega
      by_cases h3 : (n - 1 - q) % m + 1 < m
      · rw [hs, Nat.mul_add_mod, Nat.mod_eq_of_lt h3]; exact Nat.le_refl _
      · exfalso; apply h
        have hn : n = m * ((n - 1 - q) / m + 1) + q := by rw [Nat.mul_add, Nat.mul_one]; omega
        rw [hn, Nat.mul_add_mod, Nat.mod_eq_of_lt hq]
/-- A round's step: the one taken is i = (n + j) modulo m, all between n and it were not to be had. -/
theorem bnd_next {m n j q : Nat} {on : Nat → Bool} {z : Nat} (hq : q < m) (hon : on q = true) (hj : ∀ k, k < j → on ((n + k) % m) = false) (hi : q ≠ (n + j) % m) (hz : z ≤ bnd m n q) : z + 1 ≤ bnd m (n + 1) q := by
  refine Nat.le_trans (by omega) (bnd_step (n := n) hq fun h => ?_)
  rcases Nat.eq_zero_or_pos j with h0 | h0
  · subst h0; exact hi h.symm
  · have := hj 0 h0
    rw [Nat.add_zero, h, hon] at this
    cases this
end Go.Proofs.Ytdbllffkpkkggaa
