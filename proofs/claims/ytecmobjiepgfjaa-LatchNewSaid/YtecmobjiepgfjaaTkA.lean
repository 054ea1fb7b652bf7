/- What is held of a trace while one goroutine holds the token: no data race; the holder knows every touch of memory but for reads, by those who have given the token away, of cells that each of them keeps by itself; to each of them the writes of its own kept cells are known. -/
import Derived.Conc.Token
import Derived.Conc.Beside
namespace Go.Proofs.Ytecmobjiepgfjaa
open Go.Conc
set_option linter.unusedSimpArgs false
/-- Sl g: the cells that g may read out of its turn. Loose: who has given the token away (and will have it again: they hear). -/
structure Hist (Sl : Nat → Loc → Prop) (Loose : Nat → Prop) (B h : Nat) (t : Trace) : Prop where
  clean : ∀ said, ¬ Race said t
  known : ∀ i a, touchAt t i = some a → a.loc.isMemory = true → Knows t h i ∨ (a.write = false ∧ ∃ g, t.g? i = some g ∧ Loose g ∧ Sl g a.loc)
  wrote : ∀ g, Loose g → ∀ i a, touchAt t i = some a → a.write = true → Sl g a.loc → Knows t g i
  hears : ∀ g, Loose g → Deaf t g = 0
  seen : ∀ op ∈ t, op.act.low B
section
variable {Sl : Nat → Loc → Prop} {Loose : Nat → Prop} {B h : Nat} {t u : Trace}
theorem Hist.mono {B' : Nat} (H : Hist Sl Loose B h t) (hB : B ≤ B') : Hist Sl Loose B' h t := ⟨H.clean, H.known, H.wrote, H.hears, fun op hop => MemAct.low_mono hB (H.seen op hop)⟩
/-- The touches of what is old. -/
theorem Hist.old (H : Hist Sl Loose B h t) {i : Nat} {a : Touch} {x : MemOp} (hx : t[i]? = some x) (hxa : x.act.touch? = some a) (hm : a.loc.isMemory = true) :
    Knows (t ++ u) h i ∨ (a.write = false ∧ ∃ g, (t ++ u).g? i = some g ∧ Loose g ∧ Sl g a.loc) :=
  (H.known i a (by rw [touchAt_of hx]; exact hxa) hm).imp (·.app u) fun ⟨p, g, hg, hl⟩ => ⟨p, g, by rw [g?_old (lt_size_of_getElem? hx)]; exact hg, hl⟩
theorem Hist.oldHears {g : Nat} (H : Hist Sl Loose B h t) (hu : ∀ op ∈ u, op.g = g) (hd : Loose g → Deaf (t ++ u) g = Deaf t g) : ∀ g', Loose g' → Deaf (t ++ u) g' = 0 := fun g' hg' => by
  by_cases e : g' = g
  · subst e; exact (hd hg').trans (H.hears g' hg')
  · exact (Deaf_other t (fun x => e x.symm) u hu).trans (H.hears g' hg')
/-- The holder's own operations: no write of a cell that somebody who is loose keeps. -/
theorem Hist.own (H : Hist Sl Loose B h t) (hu : ∀ op ∈ u, op.g = h) (hs : ∀ op ∈ u, ∀ b, op.act.touch? = some b → b.write = true → ∀ g, Loose g → ¬ Sl g b.loc) (hhl : ¬ Loose h) (hl : ∀ op ∈ u, op.act.low B) :
    Hist Sl Loose B h (t ++ u) := by
  refine ⟨fun said => noRace_append (H.clean said) hu fun i a ha op hop b hb hc => ?_, fun i a ha hm => ?_, fun g hg i a ha hw hS => ?_, H.oldHears hu (fun z => absurd z hhl), seen_app H.seen hl⟩
  · rcases H.known i a ha hc.2.1 with hk | ⟨hw, g, _, hL, hS⟩
    · exact hk
    · exfalso
      rcases hc.2.2.1 with x | x
      · rw [hw] at x; cases x
      · exact hs op hop b hb x g hL (hc.1 ▸ hS)
  · obtain ⟨x, hx, hxa⟩ := touch_of ha
    rcases getElem?_append_cases hx with ⟨_, hx'⟩ | ⟨_, hxu⟩
    · exact H.old hx' hxa hm
    · have := knows_own hx
      rw [hu x hxu] at this
      exact .inl this
  · obtain ⟨x, hx, hxa⟩ := touch_of ha
    rcases getElem?_append_cases hx with ⟨_, hx'⟩ | ⟨_, hxu⟩
    · exact (H.wrote g hg i a (by rw [touchAt_of hx']; exact hxa) hw hS).app u
    · exact absurd hS (hs x hxu a hxa hw g hg)
/-- Operations of one goroutine that touch nothing. -/
theorem Hist.mute {g : Nat} (H : Hist Sl Loose B h t) (hu : ∀ op ∈ u, op.g = g) (hn : ∀ op ∈ u, op.act.touch? = none) (hd : Loose g → Deaf (t ++ u) g = Deaf t g) (hl : ∀ op ∈ u, op.act.low B) : Hist Sl Loose B h (t ++ u) := by
  refine ⟨fun said => noRace_append (H.clean said) hu fun i a _ op hop b hb _ => (by rw [hn op hop] at hb; cases hb), fun i a ha hm => ?_, fun g hg i a ha hw hS => ?_, H.oldHears hu hd, seen_app H.seen hl⟩
  · obtain ⟨x, hx, hxa⟩ := touch_of ha
    rcases getElem?_append_cases hx with ⟨_, hx'⟩ | ⟨_, hxu⟩
    · exact H.old hx' hxa hm
    · rw [hn x hxu] at hxa; cases hxa
  · obtain ⟨x, hx, hxa⟩ := touch_of ha
    rcases getElem?_append_cases hx with ⟨_, hx'⟩ | ⟨_, hxu⟩
    · exact (H.wrote g hg i a (by rw [touchAt_of hx']; exact hxa) hw hS).app u
    · rw [hn x hxu] at hxa; cases hxa
/-- Whoever is loose reads cells that it keeps. -/
theorem Hist.read {g : Nat} (H : Hist Sl Loose B h t) (hL : Loose g) (hu : ∀ op ∈ u, op.g = g) (hr : ∀ op ∈ u, ∀ b, op.act.touch? = some b → b.write = false ∧ Sl g b.loc) (hd : Loose g → Deaf (t ++ u) g = Deaf t g)
    (hl : ∀ op ∈ u, op.act.low B) : Hist Sl Loose B h (t ++ u) := by
  refine ⟨fun said => noRace_append (H.clean said) hu fun i a ha op hop b hb hc => ?_, fun i a ha hm => ?_, fun g' hg' i a ha hw hS => ?_, H.oldHears hu hd, seen_app H.seen hl⟩
  · obtain ⟨hb0, hbS⟩ := hr op hop b hb
    rcases hc.2.2.1 with x | x
    · exact H.wrote g hL i a ha x (hc.1 ▸ hbS)
    · rw [hb0] at x; cases x
  · obtain ⟨x, hx, hxa⟩ := touch_of ha
    rcases getElem?_append_cases hx with ⟨_, hx'⟩ | ⟨_, hxu⟩
    · exact H.old hx' hxa hm
    · exact .inr ⟨(hr x hxu a hxa).1, g, by rw [g?_of hx, hu x hxu], hL, (hr x hxu a hxa).2⟩
  · obtain ⟨x, hx, hxa⟩ := touch_of ha
    rcases getElem?_append_cases hx with ⟨_, hx'⟩ | ⟨_, hxu⟩
    · exact (H.wrote g' hg' i a (by rw [touchAt_of hx']; exact hxa) hw hS).app u
    · rw [(hr x hxu a hxa).1] at hw; cases hw
/-- THE TOKEN PASSES: the holder's send is met by j's receive: j knows what the holder knew; the giver is loose from now on, keeping what it likes. -/
theorem Hist.give {j : Nat} {Sl' : Nat → Loc → Prop} {Loose' : Nat → Prop} (H : Hist Sl Loose B h t) (hh : Deaf t h = 0) (hj : Loose j) (hS : ∀ g, g ≠ h → g ≠ j → Sl' g = Sl g) (hSm : ∀ l, Sl' h l → l.isMemory = true) (hhl : ¬ Loose h)
    (hL : ∀ g, g ≠ h → (Loose' g ↔ Loose g ∧ g ≠ j)) (fh : FuncId) (ph : String) (fj : FuncId) (pj : String) {c : Nat} (k cap : Nat) (hc : c < B) :
    Hist Sl' Loose' B j (t ++ met h j fh ph fj pj c k cap) := by
  have hn := met_mute h j fh ph fj pj c k cap
  have hq := met_quiet h j fh ph fj pj c k cap
  have e0 : (t ++ met h j fh ph fj pj c k cap)[t.size]? = some { g := h, fn := fh, pos := ph, act := .send c k } := by simp [met]
  have e3 : (t ++ met h j fh ph fj pj c k cap)[t.size + 3]? = some { g := j, fn := fj, pos := pj, act := .recvDone c k } := by simp [met]
  have edge : HappensBefore (t ++ met h j fh ph fj pj c k cap) t.size (t.size + 3) :=
    Relation.TransGen.single (.inr ⟨.handOver (act?_of e0) (act?_of e3), ⟨h, g?_of e0, by rw [deaf_old (Nat.le_refl _)]; exact hh⟩, ⟨j, g?_of e3, by rw [deaf_quiet (hq j) 3 (by simp [met])]; exact H.hears j hj⟩⟩)
  refine ⟨fun said => noRace_appendMute (H.clean said) hn, fun i a ha hm => ?_, fun g hg i a ha hw hSg => ?_, fun g hg => (Deaf_quiet (hq g)).trans (by by_cases e : g = h; exact e ▸ hh; exact H.hears g ((hL g e).1 hg).1), seen_app H.seen fun op hop => ?_⟩
  · obtain ⟨x, hx, hxa⟩ := touch_of ha
    rcases getElem?_append_cases hx with ⟨hi, hx'⟩ | ⟨_, hxu⟩
    · rcases H.known i a (by rw [touchAt_of hx']; exact hxa) hm with hk | ⟨p, g, hg, hl, hs⟩
      · exact .inl ⟨t.size + 3, _, e3, rfl, .inr ((hk.hb_new (Nat.le_refl _) e0 rfl).trans edge)⟩
      · by_cases e : g = j
        · subst e
          have := knows_own hx
          rw [show x.g = g from by have := g?_of hx'; rw [hg] at this; exact (Option.some.inj this).symm] at this
          exact .inl this
        · have hgh : g ≠ h := fun z => hhl (z ▸ hl)
          exact .inr ⟨p, g, by rw [g?_old hi]; exact hg, (hL g hgh).2 ⟨hl, e⟩, by rw [hS g hgh e]; exact hs⟩
    · rw [hn x hxu] at hxa; cases hxa
  · obtain ⟨x, hx, hxa⟩ := touch_of ha
    rcases getElem?_append_cases hx with ⟨_, hx'⟩ | ⟨_, hxu⟩
    · have hold : touchAt t i = some a := by rw [touchAt_of hx']; exact hxa
      by_cases e : g = h
      · subst e
        rcases H.known i a hold (hSm _ hSg) with hk | ⟨p, _⟩
        · exact hk.app _
        · rw [p] at hw; cases hw
      · obtain ⟨hl, hgj⟩ := (hL g e).1 hg
        exact (H.wrote g hl i a hold hw (by rw [← hS g e hgj]; exact hSg)).app _
    · rw [hn x hxu] at hxa; cases hxa
  · simp only [met, List.mem_toArray, List.mem_cons, List.not_mem_nil, or_false] at hop
    rcases hop with rfl | rfl | rfl | rfl <;> exact hc
/-- A GO STATEMENT: the child c, of which the trace knows nothing, hears, and is loose, keeping what it likes. -/
theorem Hist.hire {c : Nat} {Sl' : Nat → Loc → Prop} {Loose' : Nat → Prop} (H : Hist Sl Loose B h t) (hh : Deaf t h = 0) (hc0 : Deaf t c = 0) (hcl : ¬ Loose c) (hS : ∀ g, g ≠ c → Sl' g = Sl g) (hSm : ∀ l, Sl' c l → l.isMemory = true)
    (hL : ∀ g, g ≠ c → (Loose' g ↔ Loose g)) (fh : FuncId) (ph : String) (fc : FuncId) :
    Hist Sl' Loose' B h (t ++ #[{ g := h, fn := fh, pos := ph, act := .go c }, { g := c, fn := fc, pos := ph, act := .start }]) := by
  generalize hu : (#[{ g := h, fn := fh, pos := ph, act := .go c }, { g := c, fn := fc, pos := ph, act := .start }] : Trace) = u
  have hn : ∀ op ∈ u, op.act.touch? = none := by
    intro op hop
    subst hu
    simp only [List.mem_toArray, List.mem_cons, List.not_mem_nil, or_false] at hop
    rcases hop with rfl | rfl <;> rfl
  have hq : ∀ g, ∀ op ∈ u, ∀ d, deafStep g d op = d := by
    intro g op hop d
    subst hu
    simp only [List.mem_toArray, List.mem_cons, List.not_mem_nil, or_false] at hop
    rcases hop with rfl | rfl <;> rfl
  have e0 : (t ++ u)[t.size]? = some { g := h, fn := fh, pos := ph, act := .go c } := by subst hu; simp
  have e1 : (t ++ u)[t.size + 1]? = some { g := c, fn := fc, pos := ph, act := .start } := by subst hu; simp
  have edge : HappensBefore (t ++ u) t.size (t.size + 1) :=
    Relation.TransGen.single (.inr ⟨.spawn (act?_of e0) (act?_of e1) (g?_of e1), ⟨h, g?_of e0, by rw [deaf_old (Nat.le_refl _)]; exact hh⟩, ⟨c, g?_of e1, by rw [deaf_quiet (hq c) 1 (by subst hu; simp)]; exact hc0⟩⟩)
  refine ⟨fun said => noRace_appendMute (H.clean said) hn, fun i a ha hm => ?_, fun g hg i a ha hw hSg => ?_, fun g hg => (Deaf_quiet (hq g)).trans (by by_cases e : g = c; exact e ▸ hc0; exact H.hears g ((hL g e).1 hg)), seen_app H.seen fun op hop => ?_⟩
  · obtain ⟨x, hx, hxa⟩ := touch_of ha
    rcases getElem?_append_cases hx with ⟨_, hx'⟩ | ⟨_, hxu⟩
    · refine (H.old hx' hxa hm).imp id fun ⟨p, g, hg, hl, hs⟩ => ?_
      have hgc : g ≠ c := fun z => hcl (z ▸ hl)
      exact ⟨p, g, hg, (hL g hgc).2 hl, by rw [hS g hgc]; exact hs⟩
    · rw [hn x hxu] at hxa; cases hxa
  · obtain ⟨x, hx, hxa⟩ := touch_of ha
    rcases getElem?_append_cases hx with ⟨_, hx'⟩ | ⟨_, hxu⟩
    · have hold : touchAt t i = some a := by rw [touchAt_of hx']; exact hxa
      by_cases e : g = c
      · subst e
        rcases H.known i a hold (hSm _ hSg) with hk | ⟨p, _⟩
        · exact ⟨t.size + 1, _, e1, rfl, .inr ((hk.hb_new (Nat.le_refl _) e0 rfl).trans edge)⟩
        · rw [p] at hw; cases hw
      · exact (H.wrote g ((hL g e).1 hg) i a hold hw (by rw [← hS g e]; exact hSg)).app u
    · rw [hn x hxu] at hxa; cases hxa
  · subst hu
    simp only [List.mem_toArray, List.mem_cons, List.not_mem_nil, or_false] at hop
    rcases hop with rfl | rfl <;> trivial
/-- To the frame of one beside leavers. -/
theorem Hist.past (H : Hist Sl Loose B 0 t) (h0 : Deaf t 0 = 0) (hL : ∀ g, ¬ Loose g) : Past (fun _ => False) B t := by
  have hk : ∀ i a, touchAt t i = some a → a.loc.isMemory = true → Knows t 0 i := fun i a ha hm => (H.known i a ha hm).elim id fun ⟨_, g, _, hl, _⟩ => absurd hl (hL g)
  refine ⟨H.clean, fun i a ha hm => .inl (hk i a ha hm), fun i g hg hne ⟨x, hx, hm, _⟩ => ?_, h0, H.seen⟩
  obtain ⟨q, z, hq, hz, hb⟩ := hk i x hx hm
  rcases hb with rfl | hb
  · rw [g?_of hq, hz] at hg
    exact absurd (Option.some.inj hg).symm hne
  · exact ⟨q, by rw [g?_of hq, hz], hb⟩
/-- Nothing has been done. -/
theorem hist_nil (Sl : Nat → Loc → Prop) (Loose : Nat → Prop) (h : Nat) : Hist Sl Loose 0 h #[] :=
  ⟨fun said => by rintro ⟨i, j, _, ⟨a, b, ha, _⟩, _⟩; simp [Trace.act?] at ha, fun i a ha => by simp [touchAt, Trace.act?] at ha, fun g _ i a ha => by simp [touchAt, Trace.act?] at ha, fun _ _ => rfl, by simp⟩
end
end Go.Proofs.Ytecmobjiepgfjaa
