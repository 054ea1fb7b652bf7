/- Cancel down TokenDeep's chain. Conditions: what the blocks hold. -/
import Derived.Test.YtkgdpcmbbelipaaTokI
import Derived.Test.YtkgdpcmbbelipaaChoiceH
namespace Go.Proofs.Ytkgdpcmbbelipaa
open Go.RowKit Go.MuLone
set_option maxRecDepth 100000

theorem cancel_again {k : Tk} {w : World} {d x last head : Int} {cs : Array Value} (y : Int) (hy : 1 ≤ y) (hx : ¬ x = 0) (h : k.At w d x last head cs) :
    Calls Try.prog 16 #[.pointer (some ⟨k.T, 0, none⟩), .pointer none, .int .i64 y] w fun e w' => e = .returned (.bool false) ∧ w = w' := by
  have H := Lib.hid h.made0
  have m0 := h.made0
  have HR := Lib.hid h.2.1
  have HX := Lib.hid hx
  have hy1 : decide (y < 1) = false := by simp; omega
  clear h hx
  go_enter Try.func16, Try.ntmps16
  go_wp2_with (first | (go_at_call 34; refine (made_yesT _ _ _ H.out).mono ?_; rintro e w' ⟨rfl, rfl⟩) | (go_at_call 30; refine (cell_cas_miss _ x 0 y _ HR.out HX.out).mono ?_; rintro e w' ⟨rfl, rfl⟩))
  go_ret
  exact ⟨rfl, rfl⟩

/-- TokenDeep's tokens and what its functions touch: token i is tk i; its i lies in block ii i; order in o, called in c, its places in g; the last token is d. -/
structure Deep where
  tk : Nat → Tk
  ii : Nat → Nat
  css : Nat → Array Value
  o : Nat
  c : Nat
  g : Nat
  d : Nat
namespace Deep
variable (D : Deep)
def fnv (i : Nat) : Value := .func (.func 15) #[] #[.pointer (some ⟨D.o, 0, none⟩), .pointer (some ⟨D.c, 0, none⟩), .pointer (some ⟨D.ii i, 0, none⟩)]
def ents (i : Nat) : List Ent := if i < D.d then [(none, D.fnv i), (some ⟨(D.tk (i + 1)).T, 0, none⟩, .nilFunc)] else [(none, D.fnv i)]
/-- The blocks lie apart. -/
structure Apart : Prop where
  up : ∀ a b, a < b → b ≤ D.d → (D.tk a).hi ≤ (D.tk b).lo
  oo : ∀ a, a ≤ D.d → (D.tk a).hi ≤ D.o ∧ (D.tk a).hi ≤ D.c ∧ (D.tk a).hi ≤ D.g ∧ ∀ b, b ≤ D.d → (D.tk a).hi ≤ D.ii b
  og : D.o ≠ D.g
  io : ∀ a, a ≤ D.d → D.ii a ≠ D.o ∧ D.ii a ≠ D.g
  chain : ∀ a, a ≤ D.d → ChainE (D.css a) (D.ents a).length (D.ents a)
/-- Token i, alive (head: its last place) or cancelled. -/
def Lives (w : World) (i : Nat) : Prop := (D.tk i).At w i 0 (D.ents i).length (D.ents i).length (D.css i)
def Dead (w : World) (y : Int) (i : Nat) : Prop := (D.tk i).At w i y (D.ents i).length (-1) (D.css i)
def BookAt (w : World) (ord : Nat) (ac : Array Value) : Prop := Book w D.o D.c D.g (D.d + 1) ord ac ∧ ∀ i, i ≤ D.d → Blk w (D.ii i) 3 #[.int .i64 i]
/-- What is touched from token j on. -/
def Sof (j : Nat) (q : Nat) : Prop := (∃ i, j ≤ i ∧ i ≤ D.d ∧ (D.tk i).has q) ∨ q = D.o ∨ q = D.g
/-- called, behind the functions of the tokens from j on, order having been ord. -/
def Marked (j ord : Nat) (ac ac' : Array Value) : Prop := ac'.size = ac.size ∧ ∀ i, ac'[i]? = if j ≤ i ∧ i ≤ D.d then some (.int .i64 ((ord + D.d + 1 - i : Nat) : Int)) else ac[i]?
end Deep
variable {D : Deep} {w w' : World}
theorem ents_len_le (i : Nat) : (D.ents i).length ≤ 2 := by unfold Deep.ents; split <;> simp
theorem ents_ok (i : Nat) : ∀ e ∈ D.ents i, EntOk e := by
  intro e he
  unfold Deep.ents at he
  split at he
  · simp at he
    rcases he with rfl | rfl
    · exact .inr ⟨_, _, _, rfl⟩
    · exact .inl ⟨_, rfl⟩
  · simp at he
    subst he
    exact .inr ⟨_, _, _, rfl⟩
theorem Deep.BookAt.keep {S : Nat → Prop} {ord : Nat} {ac : Array Value} (h : D.BookAt w ord ac) (k : Kept S w w') (s1 : ¬ S D.o) (s2 : ¬ S D.c) (s3 : ¬ S D.g) (s4 : ∀ i, i ≤ D.d → ¬ S (D.ii i)) : D.BookAt w' ord ac := by
  obtain ⟨⟨h1, h2, h3, h4⟩, h5⟩ := h
  exact ⟨⟨k.blk h1 s1, k.blk h2 s2, k.blk h3 s3, h4⟩, fun i hi => k.blk (h5 i hi) (s4 i hi)⟩
/-- The function of token i. -/
theorem deep_fn (A : D.Apart) {i ord : Nat} {ac : Array Value} (y : Int) (h : D.BookAt w ord ac) (hi : i ≤ D.d) (ho : ord < 1000) :
    Calls Try.prog 15 #[.pointer none, .int .i64 y, .pointer (some ⟨D.o, 0, none⟩), .pointer (some ⟨D.c, 0, none⟩), .pointer (some ⟨D.ii i, 0, none⟩)] w fun e w' =>
      e = .returned (.tuple #[]) ∧ D.BookAt w' (ord + 1) (ac.setIfInBounds i (.int .i64 ((ord + 1 : Nat) : Int))) ∧ Kept (fun q => q = D.o ∨ q = D.g) w w' := by
  refine (called D.o D.c (D.ii i) D.g (D.d + 1) i ord ac y w h.1 (h.2 i hi) (by omega) ho A.og (A.io i hi).1).mono ?_
  rintro e w' ⟨rfl, hw⟩
  obtain ⟨⟨h1, h2, h3, h4⟩, h5⟩ := h
  have nco : D.c ≠ D.o := Blk.ne_ h2 h1 (by decide)
  have ncg : D.c ≠ D.g := Blk.ne_ h2 h3 (by decide)
  subst hw
  have hc : ((ord : Int) + 1) = ((ord + 1 : Nat) : Int) := by omega
  rw [hc]
  refine ⟨rfl, ⟨⟨(h1.set_ 0 _).far (p := ⟨D.g, i, none⟩) A.og _, (h2.far (p := ⟨D.o, 0, none⟩) nco _).far (p := ⟨D.g, i, none⟩) ncg _, (h3.far (p := ⟨D.o, 0, none⟩) (Ne.symm A.og) _).set_ i _, by simpa using h4⟩, fun b hb => ((h5 b hb).far (p := ⟨D.o, 0, none⟩) (A.io b hb).1 _).far (p := ⟨D.g, i, none⟩) (A.io b hb).2 _⟩, ?_⟩
  exact (Kept.mono (kept_store D.o 0 _ w) (fun q h => .inl h)).trans (Kept.mono (kept_store D.g i _ _) (fun q h => .inr h))
end Go.Proofs.Ytkgdpcmbbelipaa
