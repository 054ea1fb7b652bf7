/- Words for ChoiceFair's walk: a block read as a function; a row of cases in the making, each with a pipe of its own. Conditions: what the blocks hold. -/
import Derived.Test.YtdbllffkpkkggaaFairE
import Derived.Test.YtdbllffkpkkggaaChoiceH
import Derived.Laws.MakeOwn
namespace Go.Proofs.Ytdbllffkpkkggaa
open Go.RowKit Go.MuLone
set_option maxRecDepth 100000

/-- The first m cells of block g are f 0, f 1 .. -/
def FnAt (w : World) (g : Nat) (t : TypeId) (m : Nat) (f : Nat → Value) : Prop := ∃ cs, Blk w g t cs ∧ ∀ q, q < m → cs[q]? = some (f q)
section
variable {w w' : World} {g m : Nat} {t : TypeId} {f : Nat → Value}
theorem FnAt.cell (h : FnAt w g t m f) {q : Nat} (hq : q < m) : w.cell? ⟨g, q, none⟩ = some (f q) := by
  obtain ⟨cs, h1, h2⟩ := h
  exact (h1.cell q).trans (h2 q hq)
theorem FnAt.frozen (h : FnAt w g t m f) (q : Nat) : w.frozen? ⟨g, q, none⟩ = false := by
  obtain ⟨cs, h1, h2⟩ := h
  exact h1.frozen q
theorem FnAt.lt (h : FnAt w g t m f) : g < w.heap.size := by
  obtain ⟨cs, h1, h2⟩ := h
  exact h1.lt
theorem FnAt.keep {S : Nat → Prop} (h : FnAt w g t m f) (k : Kept S w w') (hs : ¬ S g) : FnAt w' g t m f := by
  obtain ⟨cs, h1, h2⟩ := h
  exact ⟨cs, k.blk h1 hs, h2⟩
theorem FnAt.below (h : FnAt w g t m f) (k : Below w.heap.size w w') : FnAt w' g t m f := h.keep (Kept.of_below (S := fun _ => False) k) (fun h => h)
theorem FnAt.set (h : FnAt w g t m f) {q : Nat} (hq : q < m) (v : Value) : FnAt (w.setCell ⟨g, q, none⟩ v) g t m (fun k => if k = q then v else f k) := by
  obtain ⟨cs, h1, h2⟩ := h
  refine ⟨_, h1.set_ q v, fun k hk => ?_⟩
  have hlt : q < cs.size := by
    have := h2 q hq
    exact (Array.getElem?_eq_some_iff.1 this).1
  by_cases e : k = q
  · subst e
    rw [Array.getElem?_setIfInBounds_self_of_lt hlt]; simp
  · rw [Array.getElem?_setIfInBounds_ne (fun h => e h.symm), h2 k hk]; simp [e]
theorem FnAt.ext {f' : Nat → Value} (h : FnAt w g t m f) (e : ∀ q, q < m → f q = f' q) : FnAt w g t m f' := by
  obtain ⟨cs, h1, h2⟩ := h
  exact ⟨cs, h1, fun q hq => (h2 q hq).trans (congrArg some (e q hq))⟩
theorem FnAt.ne {g' m' : Nat} {t' : TypeId} {f' : Nat → Value} (h : FnAt w g t m f) (h' : FnAt w g' t' m' f') (ht : t ≠ t') : g ≠ g' := by
  obtain ⟨cs, h1, _⟩ := h
  obtain ⟨cs', h2, _⟩ := h'
  exact Blk.ne_ h1 h2 ht
end
theorem made_one (z : Value) (n : Nat) : madeCells #[z] n = (Array.replicate n z) := by
  unfold madeCells
  apply Array.ext_getElem?
  intro i
  rcases Nat.lt_or_ge i n with h | h
  · simp [h, Nat.mod_one]
  · simp [Nat.not_lt.2 h]
theorem fnAt_new (w : World) (t : TypeId) (z : Value) (m : Nat) : FnAt (w.alloc (.cells (Array.replicate m z) t)) w.heap.size t m (fun _ => z) :=
  ⟨_, Blk.new _ _ _, fun q hq => by simp [hq]⟩
theorem infoBool : (Try.prog.info? 4).map (fun i => (i.zero, i.size, i.bytes)) = some (some (.bool false), 1, 1) := by kernel_rfl
theorem infoInt : (Try.prog.info? 3).map (fun i => (i.zero, i.size, i.bytes)) = some (some (.int .i64 0), 1, 8) := by kernel_rfl
theorem infoI64 : (Try.prog.info? 2).map (fun i => (i.zero, i.size, i.bytes)) = some (some (.int .i64 0), 1, 8) := by kernel_rfl
theorem mk_m {P : Program} (t e : TypeId) (i : TypeInfo) (z : Value) (ht : P.underlying t = some (.slice e)) (hi : P.info? e = some i) (hz : i.zero = some z) (hzc : z.cells = #[z]) (hs : i.size = 1) (hb : i.bytes ≤ 8) (m : Nat) (hm : m ≤ 6) (w : World) :
    (Instr.makeSlice t (.int .i64 (m : Int)) (.int .i64 (m : Int))).run P w = .ok (.slice (some ⟨w.heap.size, 0, none⟩) m m) (w.alloc (.cells (Array.replicate m z) e)) := by
  have hbm : (i.bytes : Int) * (m : Int) ≤ 281474976710656 := by
    have h : i.bytes * m ≤ 8 * 6 := Nat.mul_le_mul hb hm
    have h2 : ((i.bytes * m : Nat) : Int) ≤ 281474976710656 := by omega
    rwa [Int.natCast_mul] at h2
  have hr := run_make (P := P) w t e i z ht hi hz .i64 .i64 m m (by omega) (by omega) hbm (by omega)
  rw [hs, hzc, Int.toNat_natCast, Nat.mul_one, made_one z m] at hr
  exact hr

/-- Which pipes are filled. -/
def onF (n : Nat) (rd : Nat → Bool) (q : Nat) : Bool := decide (n ≤ q) || rd q
def anyOn (n : Nat) (rd : Nat → Bool) : Nat → Bool
  | 0 => false
  | j + 1 => anyOn n rd j || onF n rd j
theorem anyOn_iff (n : Nat) (rd : Nat → Bool) : ∀ j, anyOn n rd j = true ↔ ∃ q, q < j ∧ onF n rd q = true
  | 0 => by simp [anyOn]
  | j + 1 => by
    simp only [anyOn, Bool.or_eq_true, anyOn_iff n rd j]
    constructor
    · rintro (⟨q, h1, h2⟩ | h)
      · exact ⟨q, by omega, h2⟩
      · exact ⟨j, by omega, h⟩
    · rintro ⟨q, h1, h2⟩
      by_cases e : q = j
      · subst e; exact .inr h2
      · exact .inl ⟨q, by omega, h2⟩
def sentF (n : Nat) (rd : Nat → Bool) (R q : Nat) : Nat := if onF n rd q = true then R else 0
def valF (q k : Nat) : Int := 1000 * (q : Int) + k
/-- The row of cases and their pipes, j of them: base: where they begin. -/
def Made (w : World) (base b n R : Nat) (rd : Nat → Bool) (j : Nat) (l : Value) (lo hi p : Nat → Nat) : Prop :=
  (∃ xs, w.ownsRow base 36 3 l j xs ∧ ∀ q, q < j → xs[q * 3]? = some (.pointer (some ⟨p q, 0, none⟩)) ∧ xs[q * 3 + 1]? = some (.bool false) ∧ xs[q * 3 + 2]? = some (.int .i64 0)) ∧
  (∀ q, q < j → PipeS w (lo q) (hi q) b (p q) (sentF n rd R q) 0 (valF q)) ∧ (∀ q, q < j → base ≤ lo q ∧ hi q ≤ w.heap.size) ∧ (∀ q q', q < q' → q' < j → hi q ≤ lo q') ∧
  (∀ g, l.ownBlock = some g → ∀ q, q < j → g < lo q ∨ hi q ≤ g)
theorem Made.below {w w' : World} {base b n R : Nat} {rd : Nat → Bool} {j : Nat} {l : Value} {lo hi p : Nat → Nat} (h : Made w base b n R rd j l lo hi p) (k : Below w.heap.size w w') : Made w' base b n R rd j l lo hi p := by
  obtain ⟨⟨xs, h1, h2⟩, h3, h4, h5, h6⟩ := h
  exact ⟨⟨xs, ownsRow_below h1 k, h2⟩, fun q hq => (h3 q hq).keep (Kept.of_below (S := fun _ => False) k) (fun _ _ _ h => h), fun q hq => ⟨(h4 q hq).1, Nat.le_trans (h4 q hq).2 k.size⟩, h5, h6⟩
/-- Stores elsewhere (S: neither in a pipe nor in the row's block). -/
theorem Made.keep {S : Nat → Prop} {w w' : World} {base b n R : Nat} {rd : Nat → Bool} {j : Nat} {l : Value} {lo hi p : Nat → Nat} (h : Made w base b n R rd j l lo hi p) (k : Kept S w w') (hs : ∀ q, q < j → ∀ a, lo q ≤ a → a < hi q → ¬ S a) (hl : ∀ g, l.ownBlock = some g → ¬ S g) :
    Made w' base b n R rd j l lo hi p := by
  obtain ⟨⟨xs, h1, h2⟩, h3, h4, h5, h6⟩ := h
  refine ⟨⟨xs, ?_, h2⟩, fun q hq => (h3 q hq).keep k (hs q hq), fun q hq => ⟨(h4 q hq).1, Nat.le_trans (h4 q hq).2 k.size⟩, h5, h6⟩
  obtain ⟨a, ⟨rfl, b⟩ | ⟨g, cap, cs, rfl, c1, c2, c3⟩⟩ := h1
  · exact ⟨a, .inl ⟨rfl, b⟩⟩
  · exact ⟨a, .inr ⟨g, cap, cs, rfl, c1, (k.block g (Blk.lt (t := 36) c2) (hl g rfl)).trans c2, c3⟩⟩
theorem Made.start (w : World) (base b n R : Nat) (rd : Nat → Bool) : Made w base b n R rd 0 (.slice none 0 0) (fun _ => 0) (fun _ => 0) (fun _ => 0) :=
  ⟨⟨[], World.ownsRow_nil _ _ _ _, fun q hq => by omega⟩, fun q hq => by omega, fun q hq => by omega, fun q q' _ h => by omega, fun g hg => by simp [Value.ownBlock] at hg⟩
/-- One more: its pipe lies from lo' to hi', behind the others; then the row grows. -/
theorem Made.more {w w1 : World} {base b n R : Nat} {rd : Nat → Bool} {j : Nat} {l : Value} {lo hi p : Nat → Nat} {lo' hi' p' g cap : Nat} {xs : List Value} (h : Made w base b n R rd j l lo hi p)
    (ho : w.ownsRow base 36 3 l j xs) (hx : ∀ q, q < j → xs[q * 3]? = some (.pointer (some ⟨p q, 0, none⟩)) ∧ xs[q * 3 + 1]? = some (.bool false) ∧ xs[q * 3 + 2]? = some (.int .i64 0))
    (hp : PipeS w lo' hi' b p' (sentF n rd R j) 0 (valF j)) (hlo : base ≤ lo') (hhi : hi' ≤ w.heap.size) (hlh : ∀ q, q < j → hi q ≤ lo') (hl' : ∀ g, l.ownBlock = some g → g < lo')
    (hown : w1.ownsRow base 36 3 (.slice (some ⟨g, 0, none⟩) (j + 1) cap) (j + 1) (xs ++ [.pointer (some ⟨p', 0, none⟩), .bool false, .int .i64 0])) (hg : w.grownBy w1 l.ownBlock) (hat : l.ownBlock = some g ∨ w.heap.size ≤ g) :
    Made w1 base b n R rd (j + 1) (.slice (some ⟨g, 0, none⟩) (j + 1) cap) (updN lo j lo') (updN hi j hi') (updN p j p') := by
  obtain ⟨_, h3, h4, h5, h6⟩ := h
  have hlen := ho.1
  have kg : Kept (fun q => l.ownBlock = some q) w w1 := ⟨hg.os, hg.tape, hg.output, hg.size, fun q hq hs => hg.block q hq fun e => hs e.symm⟩
  have lo_j : updN lo j lo' j = lo' := by simp [updN]
  have hi_j : updN hi j hi' j = hi' := by simp [updN]
  have p_j : updN p j p' j = p' := by simp [updN]
  have lo_n : ∀ q, q < j → updN lo j lo' q = lo q := fun q hq => by simp [updN, show q ≠ j by omega]
  have hi_n : ∀ q, q < j → updN hi j hi' q = hi q := fun q hq => by simp [updN, show q ≠ j by omega]
  have p_n : ∀ q, q < j → updN p j p' q = p q := fun q hq => by simp [updN, show q ≠ j by omega]
  refine ⟨⟨_, hown, fun q hq => ?_⟩, fun q hq => ?_, fun q hq => ?_, fun q q' hqq hq => ?_, fun a ha q hq => ?_⟩
  · by_cases hqj : q < j
    · obtain ⟨a1, a2, a3⟩ := hx q hqj
      rw [p_n q hqj]
      exact ⟨by rw [List.getElem?_append_left (by omega)]; exact a1, by rw [List.getElem?_append_left (by omega)]; exact a2, by rw [List.getElem?_append_left (by omega)]; exact a3⟩
    · have : q = j := by omega
      subst this
      rw [p_j]
      refine ⟨?_, ?_, ?_⟩
      · rw [List.getElem?_append_right (by omega), show q * 3 - xs.length = 0 by omega]; rfl
      · rw [List.getElem?_append_right (by omega), show q * 3 + 1 - xs.length = 1 by omega]; rfl
      · rw [List.getElem?_append_right (by omega), show q * 3 + 2 - xs.length = 2 by omega]; rfl
  · by_cases hqj : q < j
    · rw [lo_n q hqj, hi_n q hqj, p_n q hqj]
      exact (h3 q hqj).keep kg fun a h1 h2 e => by have := h6 a e q hqj; omega
    · have : q = j := by omega
      subst this
      rw [lo_j, hi_j, p_j]
      exact hp.keep kg fun a h1 h2 e => by have := hl' a e; omega
  · by_cases hqj : q < j
    · rw [lo_n q hqj, hi_n q hqj]
      exact ⟨(h4 q hqj).1, Nat.le_trans (h4 q hqj).2 hg.size⟩
    · have : q = j := by omega
      subst this
      rw [lo_j, hi_j]
      exact ⟨hlo, Nat.le_trans hhi hg.size⟩
  · rw [hi_n q (by omega)]
    by_cases hqj : q' < j
    · rw [lo_n q' hqj]; exact h5 q q' hqq hqj
    · have : q' = j := by omega
      subst this
      rw [lo_j]; exact hlh q hqq
  · have e : g = a := by simpa [Value.ownBlock] using ha
    subst e
    by_cases hqj : q < j
    · rw [lo_n q hqj, hi_n q hqj]
      rcases hat with e | e
      · exact h6 g e q hqj
      · have := (h4 q hqj).2; omega
    · have : q = j := by omega
      subst this
      rw [lo_j, hi_j]
      rcases hat with e | e
      · have := hl' g e; omega
      · omega
/-- What the row is, once there are m. -/
theorem Made.row {w : World} {base b n R : Nat} {rd : Nat → Bool} {m : Nat} {l : Value} {lo hi p : Nat → Nat} (h : Made w base b n R rd m l lo hi p) (hm : 0 < m) (hb : b < base) (hy : ∃ y, IsCell w b y) :
    ∃ gs cap, l = .slice (some ⟨gs, 0, none⟩) m cap ∧ base ≤ gs ∧ Fair w b gs m lo hi p (sentF n rd R) (fun _ => 0) valF ∧ FairOK b gs m lo hi := by
  obtain ⟨⟨xs, ⟨_, ⟨_, h2⟩ | ⟨g, cap, cs, rfl, hx1, hx2, hx3, hx4, hx5, hx6⟩⟩, hx⟩, h3, h4, h5, h6⟩ := h
  · omega
  · refine ⟨g, cap, rfl, hx1, ⟨hy, ⟨cs, hx2, fun q hq => ?_⟩, h3⟩, ⟨fun q hq => by have := (h4 q hq).1; omega, h6 g rfl, fun q q' hq hq' hne => ?_⟩⟩
    · have hcs : ∀ k, k < m * 3 → cs[k]? = xs[k]? := fun k hk => by rw [← hx6, List.getElem?_take, if_pos hk, Array.getElem?_toList]
      obtain ⟨a1, a2, a3⟩ := hx q hq
      exact ⟨(hcs _ (by omega)).trans a1, (hcs _ (by omega)).trans a2, (hcs _ (by omega)).trans a3⟩
    · rcases Nat.lt_or_ge q q' with h | h
      · exact .inl (h5 q q' h hq')
      · exact .inr (h5 q' q (by omega) hq)
end Go.Proofs.Ytdbllffkpkkggaa
