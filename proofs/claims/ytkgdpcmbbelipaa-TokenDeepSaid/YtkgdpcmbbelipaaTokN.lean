/- Words for TokenDeep's walk: the loop that lays the functions. Conditions: sizes. -/
import Derived.Test.YtkgdpcmbbelipaaTokM
namespace Go.Proofs.Ytkgdpcmbbelipaa
open Go.RowKit Go.MuLone
set_option maxRecDepth 100000

theorem added_fn0 {k : Tk} {w : World} {d x last head : Int} {cs : Array Value} (h : k.At w d x last head cs) (f : Value) (hf : FnVal f) : ChainE (addedE cs 0 none f (0 : Nat)) 1 [(none, f)] := by
  have hs : cs.size = 65 * 3 := h.2.2.1.2.2.2.2.1
  refine .cons (k' := 0) (by decide) hf ?_ ?_ ?_ .nil
  · simp [addedE, Array.getElem?_setIfInBounds]; omega
  · simp [addedE, Array.getElem?_setIfInBounds]; omega
  · simp [addedE, Array.getElem?_setIfInBounds]; omega
theorem added_fn1 {k : Tk} {w : World} {d x last head : Int} {cs : Array Value} {t : Nat} (h : k.At w d x last head cs) (f : Value) (hf : FnVal f) (hc : ChainE cs 1 [(some ⟨t, 0, none⟩, .nilFunc)]) : ChainE (addedE cs 1 none f (1 : Nat)) 2 [(none, f), (some ⟨t, 0, none⟩, .nilFunc)] := by
  have hs : cs.size = 65 * 3 := h.2.2.1.2.2.2.2.1
  cases hc with
  | @cons _ k' _ _ _ h1 h2 h3 h4 h5 h6 =>
    cases h6
    refine .cons (k' := 1) (by decide) hf ?_ ?_ ?_ (.cons (k' := 0) (by decide) h2 ?_ ?_ ?_ .nil)
    · simp [addedE, Array.getElem?_setIfInBounds]; omega
    · simp [addedE, Array.getElem?_setIfInBounds]; omega
    · simp [addedE, Array.getElem?_setIfInBounds]; omega
    · unfold addedE; rw [Array.getElem?_setIfInBounds_ne (by omega), Array.getElem?_setIfInBounds_ne (by omega), Array.getElem?_setIfInBounds_ne (by omega)]; exact h3
    · unfold addedE; rw [Array.getElem?_setIfInBounds_ne (by omega), Array.getElem?_setIfInBounds_ne (by omega), Array.getElem?_setIfInBounds_ne (by omega)]; exact h4
    · unfold addedE; rw [Array.getElem?_setIfInBounds_ne (by omega), Array.getElem?_setIfInBounds_ne (by omega), Array.getElem?_setIfInBounds_ne (by omega)]; exact h5
/-- The tokens ahead of token i have their functions; the next i lies in block bi. -/
structure Row2 (w0 w : World) (D : Deep) (i : Nat) (v : Value) (bi M : Nat) (ac : Array Value) : Prop where
  low : Below w0.heap.size w0 w
  own : w.ownsRow w0.heap.size 39 1 v (D.d + 1) (tokRow D.tk (D.d + 1))
  off : ∀ g, v.ownBlock = some g → ∀ a, a ≤ D.d → ¬ (D.tk a).has g
  done : ∀ a, a < i → a ≤ D.d → D.Lives w a ∧ ChainE (D.css a) (D.ents a).length (D.ents a)
  left : ∀ a, i ≤ a → a < D.d → (D.tk a).At w a 0 (1 : Nat) (1 : Nat) (D.css a) ∧ ChainE (D.css a) 1 [(some ⟨(D.tk (a + 1)).T, 0, none⟩, .nilFunc)]
  last : i ≤ D.d → (D.tk D.d).At w D.d 0 (0 : Nat) (0 : Nat) (D.css D.d)
  up : ∀ a b, a < b → b ≤ D.d → (D.tk a).hi ≤ (D.tk b).lo
  lo : ∀ a, a ≤ D.d → w0.heap.size ≤ (D.tk a).lo ∧ (D.tk a).hi ≤ M
  mm : w0.heap.size ≤ M ∧ M ≤ D.o ∧ M ≤ D.c ∧ M ≤ D.g ∧ M ≤ bi ∧ D.o ≠ D.g ∧ bi ≠ D.o ∧ bi ≠ D.g
  ib : ∀ a, a < i → M ≤ D.ii a ∧ D.ii a ≠ D.o ∧ D.ii a ≠ D.g ∧ Blk w (D.ii a) 3 #[.int .i64 a]
  cur : Blk w bi 3 #[.int .i64 i]
  book : Book w D.o D.c D.g (D.d + 1) 0 ac
/-- The deep with token i's function laid, its i in bi. -/
def laid (D : Deep) (i bi l : Nat) : Deep := { D with ii := putAt D.ii i bi, css := putAt D.css i (addedE (D.css i) l none (.func (.func 15) #[] #[.pointer (some ⟨D.o, 0, none⟩), .pointer (some ⟨D.c, 0, none⟩), .pointer (some ⟨bi, 0, none⟩)]) (l : Int)) }
theorem laid_ents (D : Deep) (i bi l a : Nat) (h : a ≠ i) : (laid D i bi l).ents a = D.ents a := by
  unfold Deep.ents Deep.fnv laid
  simp only [putAt_ne D.ii bi h]
theorem laid_ents_i (D : Deep) (i bi l : Nat) : (laid D i bi l).ents i = if i < D.d then [(none, .func (.func 15) #[] #[.pointer (some ⟨D.o, 0, none⟩), .pointer (some ⟨D.c, 0, none⟩), .pointer (some ⟨bi, 0, none⟩)]), (some ⟨(D.tk (i + 1)).T, 0, none⟩, .nilFunc)] else [(none, .func (.func 15) #[] #[.pointer (some ⟨D.o, 0, none⟩), .pointer (some ⟨D.c, 0, none⟩), .pointer (some ⟨bi, 0, none⟩)])] := by
  unfold Deep.ents Deep.fnv laid
  simp only [putAt_same]
theorem Row2.more {w0 w w1 : World} {D : Deep} {i bi M l : Nat} {v : Value} {ac : Array Value} (h : Row2 w0 w D i v bi M ac) (hi : i ≤ D.d) (hl : l = if i < D.d then 1 else 0)
    (ha : (D.tk i).At w1 i 0 ((l : Int) + 1) ((l : Int) + 1) ((laid D i bi l).css i)) (hk : Kept (D.tk i).has w w1) :
    Row2 w0 (w1.alloc (.cells #[.int .i64 ((i + 1 : Nat) : Int)] 3)) (laid D i bi l) (i + 1) v w1.heap.size M ac := by
  have hlo := h.lo i hi
  have kf : Kept (fun q => q = w1.heap.size) w1 (w1.alloc (.cells #[.int .i64 ((i + 1 : Nat) : Int)] 3)) := Kept.of_below ((Below.refl _ _).alloc (Nat.le_refl _) _)
  have hsz := hk.size
  have hbk := h.book
  have lt1 := hbk.1.lt
  have lt2 := hbk.2.1.lt
  have lt3 := hbk.2.2.1.lt
  have lt4 := h.cur.lt
  have hMw : M ≤ w.heap.size := by have := h.mm.2.1; omega
  have hlo2 := hlo.2
  have far : ∀ q, M ≤ q → ¬ (D.tk i).has q := fun q hq hh => by have := hh.2; omega
  have both : ∀ {q : Nat} {t : TypeId} {cs : Array Value}, Blk w q t cs → ¬ (D.tk i).has q → Blk (w1.alloc (.cells #[.int .i64 ((i + 1 : Nat) : Int)] 3)) q t cs := fun hb hn => kf.blk (hk.blk hb hn) (by have := hb.lt; omega)
  have tok : ∀ {a : Nat} {x last head : Int} {d : Int} {cs : Array Value}, a ≤ D.d → a ≠ i → (D.tk a).At w d x last head cs → (D.tk a).At (w1.alloc (.cells #[.int .i64 ((i + 1 : Nat) : Int)] 3)) d x last head cs := fun {a} {_ _ _ _ _} had hai hat => by
    have hM := (h.lo a had).2
    refine (hat.keep hk (fun q hq => ?_)).keep kf (fun q hq hh => by have := hq.2; omega)
    rcases Nat.lt_or_gt_of_ne hai with hlt | hgt
    · exact tk_apart' (h.up a i hlt hi) q hq
    · exact tk_apart (h.up i a hgt had) q hq
  refine ⟨(h.low.trans (hk.below h.low.size (fun q hq => by have := hq.1; omega))).trans (kf.below (by have := h.low.size; omega) (fun q hq => by have := h.low.size; omega)), ?_, h.off, fun a ha1 ha2 => ?_, fun a ha1 ha2 => ?_, fun hle => ?_, h.up, h.lo, ?_, fun a ha1 => ?_, ?_, ?_⟩
  · exact own_kept (own_kept h.own hk (fun g hg => h.off g hg i hi)) kf (fun g hg => by have := (h.own.lt g hg).2; omega)
  · by_cases hai : a = i
    · subst hai
      have hfn : FnVal (.func (.func 15) #[] #[.pointer (some ⟨D.o, 0, none⟩), .pointer (some ⟨D.c, 0, none⟩), .pointer (some ⟨bi, 0, none⟩)]) := .inr ⟨_, _, rfl⟩
      have hat := ha.keep kf (fun q hq hh => by have := hq.2; omega)
      unfold Deep.Lives
      rw [laid_ents_i]
      have ecs : (laid D a bi l).css a = addedE (D.css a) l none (.func (.func 15) #[] #[.pointer (some ⟨D.o, 0, none⟩), .pointer (some ⟨D.c, 0, none⟩), .pointer (some ⟨bi, 0, none⟩)]) (l : Int) := by simp [laid, putAt]
      by_cases had : a < D.d
      · rw [if_pos had] at hl ⊢
        subst hl
        refine ⟨hat, ?_⟩
        rw [ecs]
        exact added_fn1 (h.left a (Nat.le_refl _) had).1 _ hfn (h.left a (Nat.le_refl _) had).2
      · rw [if_neg had] at hl ⊢
        subst hl
        have : a = D.d := by omega
        subst this
        refine ⟨hat, ?_⟩
        rw [ecs]
        exact added_fn0 (h.last hi) _ hfn
    · obtain ⟨h1, h2⟩ := h.done a (by omega) ha2
      have ecs : (laid D i bi l).css a = D.css a := putAt_ne _ _ hai
      unfold Deep.Lives at h1 ⊢
      rw [laid_ents D i bi l a hai, ecs]
      exact ⟨tok ha2 hai h1, h2⟩
  · have ecs : (laid D i bi l).css a = D.css a := putAt_ne _ _ (by omega)
    rw [ecs]
    obtain ⟨h1, h2⟩ := h.left a (by omega) ha2
    exact ⟨tok (Nat.le_of_lt ha2) (by omega) h1, h2⟩
  · have hle' : i + 1 ≤ D.d := hle
    have ecs : (laid D i bi l).css D.d = D.css D.d := putAt_ne _ _ (by omega)
    show (D.tk D.d).At _ _ _ _ _ ((laid D i bi l).css D.d)
    rw [ecs]
    exact tok (Nat.le_refl _) (by omega) (h.last hi)
  · obtain ⟨m1, m2, m3, m4, m5, m6, m7, m8⟩ := h.mm
    show _ ∧ M ≤ D.o ∧ M ≤ D.c ∧ M ≤ D.g ∧ M ≤ w1.heap.size ∧ D.o ≠ D.g ∧ w1.heap.size ≠ D.o ∧ w1.heap.size ≠ D.g
    exact ⟨m1, m2, m3, m4, by omega, m6, by omega, by omega⟩
  · by_cases hai : a = i
    · subst hai
      show M ≤ putAt D.ii a bi a ∧ putAt D.ii a bi a ≠ D.o ∧ putAt D.ii a bi a ≠ D.g ∧ Blk _ (putAt D.ii a bi a) _ _
      rw [putAt_same]
      obtain ⟨m1, m2, m3, m4, m5, m6, m7, m8⟩ := h.mm
      exact ⟨m5, m7, m8, both h.cur (far _ m5)⟩
    · show M ≤ putAt D.ii i bi a ∧ putAt D.ii i bi a ≠ D.o ∧ putAt D.ii i bi a ≠ D.g ∧ Blk _ (putAt D.ii i bi a) _ _
      rw [putAt_ne _ _ hai]
      obtain ⟨b1, b2, b3, b4⟩ := h.ib a (by omega)
      exact ⟨b1, b2, b3, both b4 (far _ b1)⟩
  · exact Blk.new w1 3 _
  · obtain ⟨m1, m2, m3, m4, m5, m6, m7, m8⟩ := h.mm
    exact ⟨both hbk.1 (far _ m2), both hbk.2.1 (far _ m3), both hbk.2.2.1 (far _ m4), hbk.2.2.2⟩
def deep0 (tk : Nat → Tk) (css : Nat → Array Value) (B d : Nat) : Deep := { tk := tk, ii := fun _ => 0, css := css, o := B, c := B + 1 + 1, g := B + 1, d := d }
theorem Row2.start {w0 w : World} {i : Nat} {v : Value} {tk : Nat → Tk} {css : Nat → Array Value} (h : Row1 w0 w i v tk css) :
    Row2 w0 ((((w.alloc (.cells #[.int .i64 0] 3)).alloc (.cells (madeCells #[.int .i64 0] (i + 1)) 3)).alloc (.cells #[.slice (some ⟨w.heap.size + 1, 0, none⟩) (i + 1) (i + 1)] 44)).alloc (.cells #[.int .i64 0] 3))
      (deep0 tk css w.heap.size i) 0 v (w.heap.size + 1 + 1 + 1) w.heap.size (madeCells #[.int .i64 0] (i + 1)) := by
  have kk := fun {q t cs} (h : Blk w q t cs) => (((h.alloc (.cells #[.int .i64 0] 3)).alloc (.cells (madeCells #[.int .i64 0] (i + 1)) 3)).alloc (.cells #[.slice (some ⟨w.heap.size + 1, 0, none⟩) (i + 1) (i + 1)] 44)).alloc (.cells #[.int .i64 0] 3)
  have ls := h.low.size
  refine ⟨(((h.low.alloc ls _).alloc (by simp; omega) _).alloc (by simp; omega) _).alloc (by simp; omega) _, (((h.own.alloc _).alloc _).alloc _).alloc _, h.off, fun a ha => by omega, fun a _ ha => ⟨((((h.tok a ha).alloc _).alloc _).alloc _).alloc _, h.ch a ha⟩, fun _ => (((h.last.alloc _).alloc _).alloc _).alloc _, h.up, h.lo, ?_, fun a ha => by omega, ?_, ?_⟩
  · simp [deep0]; omega
  · exact Blk.new' _ _ _ _ (by simp)
  · refine ⟨(((Blk.new _ _ _).alloc _).alloc _).alloc _, (Blk.new' _ _ _ _ (by simp [deep0])).alloc _, ((Blk.new' _ _ _ _ (by simp [deep0])).alloc _).alloc _, by simp [madeCells, deep0]⟩
/-- What the box behind a pointer holds. -/
def boxInt (w : World) (v : Value) : Nat := match v with | .pointer (some a) => (match w.cell? a with | some (.int _ n) => n.toNat | _ => 0) | _ => 0
theorem boxInt_of {w : World} {b : Nat} {n : Nat} (h : Blk w b 3 #[.int .i64 n]) : boxInt w (.pointer (some ⟨b, 0, none⟩)) = n := by
  have hc := h.cell 0
  simp at hc
  simp [boxInt, hc]
end Go.Proofs.Ytkgdpcmbbelipaa
