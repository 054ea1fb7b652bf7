/- judge.key's texts tell what was done and what is held: plain Lean. No conditions. -/
import Derived.Test.YtonnlgpjobfnmaaDoorRJudgeH
namespace Go.Proofs.YtonnlgpjobfnmaaDoor
open Go.RowKit

theorem dig_ne (n : Nat) (h : n < 10) : UInt8.ofNat (48 + n) ≠ 32 ∧ UInt8.ofNat (48 + n) ≠ 45 := by
  have : ∀ n, n < 10 → UInt8.ofNat (48 + n) ≠ 32 ∧ UInt8.ofNat (48 + n) ≠ 45 := by decide
  exact this n h
theorem dig_inj (m n : Nat) (hm : m < 10) (hn : n < 10) (h : UInt8.ofNat (48 + m) = UInt8.ofNat (48 + n)) : m = n := by
  have : ∀ m, m < 10 → ∀ n, n < 10 → UInt8.ofNat (48 + m) = UInt8.ofNat (48 + n) → m = n := by decide
  exact this m hm n hn h
theorem dec_ne (u : Nat) : ∀ b, b ∈ Lib.decDigits u → b ≠ 32 ∧ b ≠ 45 := by
  induction u using Nat.strongRecOn with
  | _ u ih =>
    intro b hb
    rw [Lib.decDigits] at hb
    split at hb
    · rename_i h
      rw [List.mem_singleton.1 hb]
      exact dig_ne u h
    · rename_i h
      rcases List.mem_append.1 hb with hb | hb
      · exact ih (u / 10) (by omega) b hb
      · rw [List.mem_singleton.1 hb]
        exact dig_ne (u % 10) (by omega)
theorem dec_pos (u : Nat) : Lib.decDigits u ≠ [] := by
  rw [Lib.decDigits]
  split <;> simp
theorem dec_inj (u : Nat) : ∀ v, Lib.decDigits u = Lib.decDigits v → u = v := by
  induction u using Nat.strongRecOn with
  | _ u ih =>
    intro v h
    rw [Lib.decDigits, Lib.decDigits.eq_def v] at h
    by_cases hu : u < 10
    · by_cases hv : v < 10
      · rw [dif_pos hu, dif_pos hv] at h
        injection h with h
        exact dig_inj u v hu hv h
      · rw [dif_pos hu, dif_neg hv] at h
        have := congrArg List.length h
        have hp := List.length_pos_iff.2 (dec_pos (v / 10))
        simp only [List.length_append, List.length_singleton] at this
        omega
    · by_cases hv : v < 10
      · rw [dif_neg hu, dif_pos hv] at h
        have := congrArg List.length h
        have hp := List.length_pos_iff.2 (dec_pos (u / 10))
        simp only [List.length_append, List.length_singleton] at this
        omega
      · rw [dif_neg hu, dif_neg hv] at h
        obtain ⟨h1, h2⟩ := List.append_inj' h (by simp)
        have e1 := ih (u / 10) (by omega) (v / 10) h1
        injection h2 with h2
        have e2 := dig_inj (u % 10) (v % 10) (by omega) (by omega) h2
        omega
theorem itoa_ne (n : Int) : ∀ b, b ∈ Lib.itoa n → b ≠ 32 := by
  intro b hb
  unfold Lib.itoa at hb
  split at hb
  · rcases List.mem_cons.1 hb with rfl | hb
    · decide
    · exact (dec_ne _ b hb).1
  · exact (dec_ne _ b hb).1
theorem itoa_inj (m n : Int) (h : Lib.itoa m = Lib.itoa n) : m = n := by
  have key : ∀ (u v : Nat), 45 :: Lib.decDigits u ≠ Lib.decDigits v := fun u v h => (dec_ne v 45 (h ▸ List.mem_cons_self)).2 rfl
  unfold Lib.itoa at h
  split at h
  · split at h
    · injection h with _ h
      have := dec_inj _ _ h
      omega
    · exact absurd h (key _ _)
  · split at h
    · exact absurd h.symm (key _ _)
    · have := dec_inj _ _ h
      omega
/-- A text that is nothing, or begins with a space. -/
def Rest (l : List UInt8) : Prop := l = [] ∨ ∃ r, l = 32 :: r
theorem split32 : ∀ (a b X Y : List UInt8), (∀ x, x ∈ a → x ≠ 32) → (∀ x, x ∈ b → x ≠ 32) → Rest X → Rest Y → a ++ X = b ++ Y → a = b ∧ X = Y
  | [], [], X, Y, _, _, _, _, h => ⟨rfl, h⟩
  | [], y :: b, X, Y, _, hb, hX, _, h => by
    rcases hX with rfl | ⟨r, rfl⟩
    · cases h
    · injection h with h1 _
      exact absurd h1.symm (hb y (by simp))
  | x :: a, [], X, Y, ha, _, _, hY, h => by
    rcases hY with rfl | ⟨r, rfl⟩
    · cases h
    · injection h with h1 _
      exact absurd h1 (ha x (by simp))
  | x :: a, y :: b, X, Y, ha, hb, hX, hY, h => by
    injection h with h1 h2
    obtain ⟨e1, e2⟩ := split32 a b X Y (fun z hz => ha z (by simp [hz])) (fun z hz => hb z (by simp [hz])) hX hY h2
    exact ⟨by rw [h1, e1], e2⟩
def keyTail (hs : List Int) : List UInt8 := hs.flatMap fun x => 32 :: Lib.itoa x
theorem keyTail_rest (hs : List Int) : Rest (keyTail hs) := by
  cases hs with
  | nil => exact .inl rfl
  | cons x hs => exact .inr ⟨_, by simp [keyTail]; rfl⟩
theorem keyTail_inj : ∀ (hs gs : List Int), keyTail hs = keyTail gs → hs = gs
  | [], [], _ => rfl
  | [], y :: gs, h => by simp [keyTail] at h
  | x :: hs, [], h => by simp [keyTail] at h
  | x :: hs, y :: gs, h => by
    have h' : Lib.itoa x ++ keyTail hs = Lib.itoa y ++ keyTail gs := by simpa [keyTail] using h
    obtain ⟨e1, e2⟩ := split32 _ _ _ _ (itoa_ne x) (itoa_ne y) (keyTail_rest hs) (keyTail_rest gs) h'
    rw [itoa_inj _ _ e1, keyTail_inj hs gs e2]
theorem key_inj (d e : Int) (hs gs : List Int) (h : keyB d hs = keyB e gs) : d = e ∧ hs = gs := by
  obtain ⟨e1, e2⟩ := split32 _ _ _ _ (itoa_ne d) (itoa_ne e) (keyTail_rest hs) (keyTail_rest gs) h
  exact ⟨itoa_inj _ _ e1, keyTail_inj _ _ e2⟩
end Go.Proofs.YtonnlgpjobfnmaaDoor
