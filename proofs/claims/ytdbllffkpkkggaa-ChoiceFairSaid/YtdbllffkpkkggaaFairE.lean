/- Select and Try, free, over a choice of pipes of 64 places. Conditions: what the blocks hold. -/
import Derived.Test.YtdbllffkpkkggaaFairD
import Derived.Test.YtdbllffkpkkggaaFairM
namespace Go.Proofs.Ytdbllffkpkkggaa
open Go.RowKit Go.MuLone
set_option maxRecDepth 100000

/-- A choice in block c with the ticket tk, which holds x, over the pipes of Fair. -/
structure FairT (w : World) (b c tk gs m : Nat) (lo hi p s r : Nat → Nat) (val : Nat → Nat → Int) (x : Nat) : Prop where
  fair : Fair w b gs m lo hi p s r val
  ch : ChoiceAt w c b tk
  tick : IsCell w tk x
structure FairS (b c tk gs m : Nat) (lo hi : Nat → Nat) : Prop where
  ok : FairOK b gs m lo hi
  ne : b ≠ tk
  ht : ∀ q, q < m → tk < lo q
  hc : ∀ q, q < m → c < lo q
/-- What Select and Try turn. -/
def Zone (b tk m : Nat) (lo hi : Nat → Nat) (q : Nat) : Prop := q = tk ∨ q = b ∨ ∃ j, j < m ∧ lo j ≤ q ∧ q < hi j
theorem mod_hit (K m q : Nat) (hq : q < m) : ∃ k, k < m ∧ (K + k) % m = q := by
  refine ⟨(q + (m - K % m)) % m, Nat.mod_lt _ (by omega), ?_⟩
  have hk := Nat.mod_lt K (show 0 < m by omega)
  rw [Nat.add_mod, Nat.mod_mod]
  rw [show K % m + (q + (m - K % m)) % m = K % m + (q + (m - K % m)) % m from rfl, ← Nat.add_mod_mod, Nat.mod_mod] <;> try skip
  rw [Nat.add_mod_mod, show K % m + (q + (m - K % m)) = q + m by omega, Nat.add_mod_right, Nat.mod_eq_of_lt hq]
section
variable {w : World} {b c tk gs m x : Nat} {lo hi p s r : Nat → Nat} {val : Nat → Nat → Int}
theorem FairT.keep {S : Nat → Prop} {w' : World} (h : FairT w b c tk gs m lo hi p s r val x) (k : Kept S w w') (hb : ¬ S b) (hg : ¬ S gs) (hc : ¬ S c) (ht : ¬ S tk) (hs : ∀ q, q < m → ∀ a, lo q ≤ a → a < hi q → ¬ S a) : FairT w' b c tk gs m lo hi p s r val x :=
  ⟨h.fair.keep k hb hg hs, k.blk h.ch hc, k.cell h.tick ht⟩
theorem refused_fair (h : FairT w b c tk gs m lo hi p s r val x) (h0 : 0 < m) (hm : m ≤ 1000) (cap : Nat) :
    Calls Try.prog 19 #[.pointer (some ⟨c, 0, none⟩), .slice (some ⟨gs, 0, none⟩) m cap] w (Refused w 0) := by
  obtain ⟨⟨⟨y, hy⟩, ⟨cs, h1, h2⟩, h3⟩, hc, ht⟩ := h
  have e : apartNo m m = 0 := by simp [apartNo]
  rw [← e]
  refine refused_bells c b gs m cap m (fun q => some ⟨p q, 0, none⟩) (fun _ => b) y w ((hc.cell 0).trans rfl) ⟨cs, h1, fun q hq => ⟨false, 0, h2 q hq⟩⟩ (fun q hq => ?_) hm h0 (Nat.le_refl _) hy (fun _ _ => rfl) (fun hh => absurd hh (Nat.lt_irrefl _))
  obtain ⟨i, a1, a2⟩ := (h3 q hq).bell
  exact .inr (.inr ⟨p q, i, b, rfl, a1, a2, rfl⟩)
theorem look_fair (S : FairS b c tk gs m lo hi) (h : FairT w b c tk gs m lo hi p s r val x) (h0 : 0 < m) (hm : m ≤ 1000) (hx : x < 100000) (hs : ∀ q, q < m → s q < 64 ∧ r q ≤ s q) (hh : ∀ q, q < m → hi q ≤ w.heap.size) (cap : Nat) (sel : Bool) (hsel : sel = true → ∃ q, q < m ∧ r q < s q)
    (w1 : World) (k : Kept (fun q => q = tk) w w1) :
    Calls Try.prog 20 #[.pointer none, .slice (some ⟨gs, 0, none⟩) m cap, .int .i64 (wrap64 ((x : Int) + 1))] w1 (LookR (fun i v ok w1 w2 => LookPost w1 b gs m lo hi p s r val x i v ok w2) sel w1) := by
  have hg : gs ≠ tk := by
    obtain ⟨cs, h1, _⟩ := h.fair.row
    exact Blk.ne_ h1 h.tick (by decide)
  have F1 : Fair w1 b gs m lo hi p s r val := h.fair.keep k S.ne hg (fun q hq a h1 h2 e => by have := S.ht q hq; omega)
  refine (look_any b gs m cap x lo hi p s r val _ (by unfold wrap64; omega) (by omega) h0 hm S.ok hs w1 F1 (fun q hq => Nat.le_trans (hh q hq) k.size)).mono ?_
  rintro e w2 ⟨i, v, ok, rfl, hp⟩
  refine ⟨i, v, ok, ok, fun hse => ?_, rfl, hp⟩
  rcases hp with ⟨j, _, _, _, _, _, hok, _⟩ | ⟨hno, _⟩
  · exact ⟨hok, hok⟩
  · obtain ⟨q, hq, hr⟩ := hsel hse
    obtain ⟨k, hk, e⟩ := mod_hit x m q hq
    have := hno k hk
    rw [e] at this
    omega
/-- What Select answers: the first that is ready from the ticket on. -/
def Selected (w : World) (b c tk gs m : Nat) (lo hi p s r : Nat → Nat) (val : Nat → Nat → Int) (x : Nat) (e : Ending) (w' : World) : Prop :=
  ∃ j, j < m ∧ (∀ k, k < j → r ((x + k) % m) = s ((x + k) % m)) ∧ r ((x + j) % m) < s ((x + j) % m) ∧ e = .returned (.tuple #[.int .i64 ((x + j) % m : Nat), .int .i64 (val ((x + j) % m) (r ((x + j) % m))), .bool true, .int .i64 0]) ∧
    FairT w' b c tk gs m lo hi p s (updN r ((x + j) % m) (r ((x + j) % m) + 1)) val (x + 1) ∧ Kept (Zone b tk m lo hi) w w'
theorem select_fair (S : FairS b c tk gs m lo hi) (h : FairT w b c tk gs m lo hi p s r val x) (h0 : 0 < m) (hm : m ≤ 1000) (hx : x < 100000) (hs : ∀ q, q < m → s q < 64 ∧ r q ≤ s q) (hh : ∀ q, q < m → hi q ≤ w.heap.size) (cap : Nat) (hsel : ∃ q, q < m ∧ r q < s q) :
    Calls Try.prog 9 #[.pointer (some ⟨c, 0, none⟩), .pointer none, .slice (some ⟨gs, 0, none⟩) m cap] w (Selected w b c tk gs m lo hi p s r val x) := by
  obtain ⟨y, hy⟩ := h.fair.bell
  have hct : c ≠ tk := Blk.ne_ h.ch h.tick (by decide)
  have hcb : c ≠ b := Blk.ne_ h.ch hy (by decide)
  refine (select_any c b tk _ (x : Int) y _ w h.ch h.tick hy S.ne hct (refused_fair h h0 hm cap) (look_fair S h h0 hm hx hs hh cap true (fun _ => hsel))).mono ?_
  rintro e w' ⟨i, v, ok, w1, w2, rfl, k1, t1, hp, hb2⟩
  rcases hp with ⟨j, hj, hno, hr, rfl, rfl, rfl, hF, k2⟩ | ⟨hno, _⟩
  · refine ⟨j, hj, hno, hr, rfl, ?_, ?_⟩
    · have hq : (x + j) % m < m := Nat.mod_lt _ h0
      have nt : ∀ q, q ≠ b → (q < lo ((x + j) % m)) → ¬ Touched (lo ((x + j) % m)) (hi ((x + j) % m)) b q := fun q h1 h2 => by
        rintro (hh | hh)
        · exact h1 hh
        · omega
      have hb3 := Kept.of_below (S := fun _ => False) hb2
      exact ⟨hF.below hb2, hb3.blk (k2.blk (k1.blk h.ch hct) (nt _ hcb (S.hc _ hq))) (fun h => h), by
        have e : wrap64 ((x : Int) + 1) = ((x + 1 : Nat) : Int) := by unfold wrap64; omega
        rw [e] at t1
        exact hb3.cell (k2.cell t1 (nt _ (fun e => S.ne e.symm) (S.ht _ hq))) (fun h => h)⟩
    · refine ((k1.mono (fun q e => .inl e)).trans (k2.mono (fun q e => ?_))).trans (Kept.of_below hb2)
      rcases e with e | e
      · exact .inr (.inl e)
      · exact .inr (.inr ⟨_, Nat.mod_lt _ h0, e⟩)
  · obtain ⟨q, hq, hr⟩ := hsel
    obtain ⟨k, hk, e⟩ := mod_hit x m q hq
    have := hno k hk
    rw [e] at this
    omega
theorem try_fair (S : FairS b c tk gs m lo hi) (h : FairT w b c tk gs m lo hi p s r val x) (h0 : 0 < m) (hm : m ≤ 1000) (hx : x < 100000) (hs : ∀ q, q < m → s q < 64 ∧ r q ≤ s q) (hh : ∀ q, q < m → hi q ≤ w.heap.size) (cap : Nat) :
    Calls Try.prog 10 #[.pointer (some ⟨c, 0, none⟩), .pointer none, .slice (some ⟨gs, 0, none⟩) m cap] w fun e w' => (∃ (i v : Int) (ok : Bool), e = .returned (.tuple #[.int .i64 i, .int .i64 v, .bool ok, .int .i64 0]) ∧ (ok || i == -1) = true) ∧ Kept (Zone b tk m lo hi) w w' := by
  refine (try_any c b tk _ (x : Int) _ w h.ch h.tick (refused_fair h h0 hm cap) (look_fair S h h0 hm hx hs hh cap false (fun h => by cases h))).mono ?_
  rintro e w' ⟨i, v, ok, w1, w2, rfl, k1, t1, hp, hb2⟩
  rcases hp with ⟨j, hj, hno, hr, rfl, rfl, rfl, hF, k2⟩ | ⟨hno, rfl, rfl, rfl, hb⟩
  · refine ⟨⟨_, _, _, rfl, by simp⟩, ((k1.mono (fun q e => .inl e)).trans (k2.mono (fun q e => ?_))).trans (Kept.of_below hb2)⟩
    rcases e with e | e
    · exact .inr (.inl e)
    · exact .inr (.inr ⟨_, Nat.mod_lt _ h0, e⟩)
  · exact ⟨⟨_, _, _, rfl, by simp⟩, ((k1.mono (fun q e => .inl e)).trans (Kept.of_below hb)).trans (Kept.of_below hb2)⟩
end
end Go.Proofs.Ytdbllffkpkkggaa
