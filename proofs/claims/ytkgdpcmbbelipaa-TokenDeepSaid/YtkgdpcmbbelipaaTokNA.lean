/- Words for TokenDeep's walk: what Cancel leaves. Conditions: sizes. -/
import Derived.Test.YtkgdpcmbbelipaaTokN
namespace Go.Proofs.Ytkgdpcmbbelipaa
open Go.RowKit Go.MuLone
set_option maxRecDepth 100000

theorem made_zero (n a : Nat) (h : a < n) : (madeCells #[.int .i64 0] n)[a]? = some (.int .i64 0) := by
  unfold madeCells
  simp [h, Nat.mod_one]
def reaOf (y : Int) (j a : Nat) : Int := if 1 ≤ y ∧ j ≤ a then y else 0
def turnOf (y : Int) (j d a : Nat) : Int := if 1 ≤ y ∧ j ≤ a then ((d + 1 - a : Nat) : Int) else 0
structure Row3 (w0 w : World) (D : Deep) (v : Value) (y : Int) (j : Nat) (ac : Array Value) : Prop where
  low : Below w0.heap.size w0 w
  own : w.ownsRow w0.heap.size 39 1 v (D.d + 1) (tokRow D.tk (D.d + 1))
  tok : ∀ a, a ≤ D.d → ∃ last head cs, (D.tk a).At w a (reaOf y j a) last head cs
  book : ∃ ord, Book w D.o D.c D.g (D.d + 1) ord ac
  at_ : ∀ a, a ≤ D.d → ac[a]? = some (.int .i64 (turnOf y j D.d a))
theorem Row2.apart {w0 w : World} {D : Deep} {v : Value} {bi M : Nat} {ac : Array Value} (h : Row2 w0 w D (D.d + 1) v bi M ac) : D.Apart := by
  obtain ⟨m1, m2, m3, m4, m5, m6, m7, m8⟩ := h.mm
  exact ⟨h.up, fun a ha => ⟨by have := (h.lo a ha).2; omega, by have := (h.lo a ha).2; omega, by have := (h.lo a ha).2; omega, fun b hb => by have := (h.lo a ha).2; have := (h.ib b (by omega)).1; omega⟩, m6, fun a ha => ⟨(h.ib a (by omega)).2.1, (h.ib a (by omega)).2.2.1⟩, fun a ha => (h.done a (by omega) ha).2⟩
theorem Row2.bookAt {w0 w : World} {D : Deep} {v : Value} {bi M : Nat} {ac : Array Value} (h : Row2 w0 w D (D.d + 1) v bi M ac) : D.BookAt w 0 ac := ⟨h.book, fun i hi => (h.ib i (by omega)).2.2.2⟩
/-- A reason below one: nothing has turned. -/
theorem Row2.same3 {w0 w : World} {D : Deep} {v : Value} {bi M : Nat} {y : Int} {j : Nat} (h : Row2 w0 w D (D.d + 1) v bi M (madeCells #[.int .i64 0] (D.d + 1))) (hy : ¬ 1 ≤ y) : Row3 w0 w D v y j (madeCells #[.int .i64 0] (D.d + 1)) := by
  refine ⟨h.low, h.own, fun a ha => ⟨_, _, _, by have h1 := (h.done a (by omega) ha).1; unfold Deep.Lives at h1; unfold reaOf; rw [if_neg (by omega)]; exact h1⟩, ⟨0, h.book⟩, fun a ha => ?_⟩
  unfold turnOf
  rw [if_neg (by omega), made_zero _ _ (by omega)]
theorem Row2.gone3 {w0 w w2 : World} {D : Deep} {v : Value} {bi M m : Nat} {y : Int} {j : Nat} {e : Ending} (h : Row2 w0 w D (D.d + 1) v bi M (madeCells #[.int .i64 0] (D.d + 1))) (hy : 1 ≤ y)
    (hg : Gone D y j m 0 (madeCells #[.int .i64 0] (D.d + 1)) w e w2) : ∃ ac, Row3 w0 w2 D v y j ac := by
  obtain ⟨_, h1, ⟨ac', h2, h3⟩, h4⟩ := hg
  have A := h.apart
  refine ⟨ac', h.low.trans (h4.below h.low.size (fun q hq => ?_)), own_kept h.own h4 (fun g hg hs => ?_), fun a ha => ?_, ⟨_, h2.1⟩, fun a ha => ?_⟩
  · rcases hq with ⟨i, _, hi, hq⟩ | rfl | rfl
    · have := (h.lo i hi).1; have := hq.1; omega
    · have := h.mm.1; have := h.mm.2.1; omega
    · have := h.mm.1; have := h.mm.2.2.2.1; omega
  · rcases hs with ⟨i, _, hi, hq⟩ | hs | hs
    · exact h.off g hg i hi hq
    · rcases h.own.2 with ⟨rfl, hz⟩ | ⟨g', cap, cur, rfl, _, hb, _⟩
      · omega
      · have : g = g' := by simpa [Value.ownBlock] using hg.symm
        subst this
        exact (Blk.ne_ (g := g) (g' := D.o) hb h.book.1 (by decide)) hs
    · rcases h.own.2 with ⟨rfl, hz⟩ | ⟨g', cap, cur, rfl, _, hb, _⟩
      · omega
      · have : g = g' := by simpa [Value.ownBlock] using hg.symm
        subst this
        exact (Blk.ne_ (g := g) (g' := D.g) hb h.book.2.2.1 (by decide)) hs
  · unfold reaOf
    by_cases hja : j ≤ a
    · rw [if_pos ⟨hy, hja⟩]
      exact ⟨_, _, _, h1 a hja ha⟩
    · rw [if_neg (by omega)]
      have hl := (h.done a (by omega) ha).1
      unfold Deep.Lives at hl
      exact ⟨_, _, _, hl.keep h4 (fun q hq => tk_far A (by omega) ha hq)⟩
  · rw [h3.2 a]
    unfold turnOf
    by_cases hja : j ≤ a
    · rw [if_pos ⟨hja, ha⟩, if_pos ⟨hy, hja⟩]
      congr 3
      omega
    · rw [if_neg (by omega), if_neg (by omega), made_zero _ _ (by omega)]
/-- Cancel of token j, whatever the reason. -/
def AnyGone (w0 : World) (D : Deep) (v : Value) (y : Int) (j : Nat) (e : Ending) (w' : World) : Prop := e = .returned (.bool (decide (1 ≤ y))) ∧ ∃ ac, Row3 w0 w' D v y j ac
theorem cancel_any {w0 w : World} {D : Deep} {v : Value} {bi M : Nat} (y : Int) (j : Nat) (h : Row2 w0 w D (D.d + 1) v bi M (madeCells #[.int .i64 0] (D.d + 1))) (hj : j ≤ D.d) (hd : D.d ≤ 64) :
    Calls Try.prog 16 #[.pointer (some ⟨(D.tk j).T, 0, none⟩), .pointer none, .int .i64 y] w (AnyGone w0 D v y j) := by
  by_cases hy : 1 ≤ y
  · refine (cancel_chain h.apart y hy (D.d - j) j (by omega) w 0 _ (by omega) (by simp [madeCells]) (fun i h1 h2 => (h.done i (by omega) h2).1) h.bookAt).mono ?_
    intro e w' hg
    exact ⟨by rw [hg.1]; simp [hy], h.gone3 hy hg⟩
  · have hl := (h.done j (by omega) hj).1
    refine (cancel_low (D.tk j).T (D.tk j).R y (by omega) w hl.made0).mono ?_
    rintro e w' ⟨rfl, rfl⟩
    exact ⟨by simp [hy], _, h.same3 hy⟩
def Upto (n : Nat) (k : Value) : Prop := ∃ p : Nat, p ≤ n ∧ k = .int .i64 p
theorem Upto.mk' {n p : Nat} (h : p ≤ n) : Upto n (.int .i64 p) := ⟨p, h, rfl⟩
theorem Upto.mk1 {n p : Nat} (h : p + 1 ≤ n) : Upto n (.int .i64 ((p : Int) + 1)) := ⟨p + 1, h, by rw [Int.natCast_add]; rfl⟩
end Go.Proofs.Ytkgdpcmbbelipaa
