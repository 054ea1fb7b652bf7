/- What a piece of the model's work comes to in a world comes of it in one that is frozen at more places, under a tape of one's own choice; or that one ends it. -/
import Derived.Test.YtecmobjiepgfjaaGoB
namespace Go.Proofs.Ytecmobjiepgfjaa
open Go.Conc
set_option linter.unusedSimpArgs false
section
variable {S : Prot} {x w : World}
theorem viewStore_under {P : Program} {at_ : Addr} {u : TypeId} {k : Addr} {v : Value} {atomic : Bool} {x' : World} {l : List Addr} (τ : Nat → Question → Nat) (d : Nat) (hx : x.viewStore P at_ u k v atomic = .ok (x', l)) :
    (under x τ d).viewStore P at_ u k v atomic = .ok (under x' τ d, l) := by
  have hsn : (under x τ d).seen P at_ u k atomic = x.seen P at_ u k atomic := rfl
  unfold World.viewStore at hx ⊢
  rw [hsn]
  simp only [bind, Except.bind, pure, Except.pure, throw, throwThe, MonadExceptOf.throw, MonadExcept.throw] at hx ⊢
  revert hx
  (repeat' split) <;> intro hx <;> simp_all
  all_goals (obtain ⟨rfl, _⟩ := hx; rfl)
theorem viewStore_err {P : Program} {at_ : Addr} {u : TypeId} {k : Addr} {v : Value} {atomic : Bool} {why : String} (τ : Nat → Question → Nat) (d : Nat) (hx : x.viewStore P at_ u k v atomic = .error why) :
    (under x τ d).viewStore P at_ u k v atomic = .error why := by
  have hsn : (under x τ d).seen P at_ u k atomic = x.seen P at_ u k atomic := rfl
  unfold World.viewStore at hx ⊢
  rw [hsn]
  simp only [bind, Except.bind, pure, Except.pure, throw, throwThe, MonadExceptOf.throw, MonadExcept.throw] at hx ⊢
  revert hx
  (repeat' split) <;> intro hx <;> simp_all
theorem farStore_err {P : Program} {a : Addr} {v : Value} {atomic : Bool} {h : Halt} (hx : x.farStore P a v atomic = .error h) (τ : Nat → Question → Nat) (d : Nat) : (under x τ d).farStore P a v atomic = .error h := by
  have hh : (under x τ d).heap = x.heap := rfl
  unfold World.farStore at hx ⊢
  rw [hh]
  split at hx
  · split at hx
    · cases hx
    · rename_i hr
      rw [viewStore_err τ d hr]; exact hx
  · exact hx
theorem viewStore_form {P : Program} {at_ : Addr} {u : TypeId} {k : Addr} {v : Value} {atomic : Bool} {x' : World} {l : List Addr} (hx : x.viewStore P at_ u k v atomic = .ok (x', l)) :
    outer x' = outer x ∧ x'.drawn = x.drawn ∧ x'.heap.size = x.heap.size := by
  unfold World.viewStore at hx
  simp only [bind, Except.bind, pure, Except.pure, throw, throwThe, MonadExceptOf.throw, MonadExcept.throw] at hx
  revert hx
  (repeat' split) <;> intro hx <;> simp_all
  all_goals (obtain ⟨rfl, _⟩ := hx; simp [outer])
theorem Thaw.farLoad (h : Thaw S x w) {P : Program} {a : Addr} {atomic : Bool} {r : Value × List Addr} (hx : x.farLoad P a atomic = .ok r) : w.farLoad P a atomic = .ok r ∧ ∀ b ∈ r.2, b.block < x.heap.size := by
  unfold World.farLoad at hx ⊢
  rcases h.cases a.block with ⟨h1, h2⟩ | ⟨o', o, h1, h2, rfl | ⟨c, t, f', f, rfl, rfl, _⟩⟩
  · simp only [h1] at hx; cases hx
  · rw [h1] at hx; rw [h2]
    cases o' <;> first | (cases hx) | skip
    rename_i at_ u
    simp only at hx ⊢
    split at hx
    · rename_i r' hr
      obtain ⟨h3, h4⟩ := h.viewLoad hr
      injection hx with hx; subst hx
      rw [h3]
      exact ⟨rfl, fun b hb => (h4 b hb).2⟩
    · cases hx
  · simp only [h1] at hx; cases hx
theorem Thaw.farStore (h : Thaw S x w) {P : Program} {a : Addr} {v : Value} {atomic : Bool} {x' : World} {l : List Addr} (hx : x.farStore P a v atomic = .ok (x', l)) :
    (∃ w', w.farStore P a v atomic = .ok (w', l) ∧ Thaw S x' w' ∧ outer w' = outer w ∧ w'.drawn = w.drawn) ∧ (∀ b ∈ l, b.block < x.heap.size ∧ x.frozen? b = false) ∧ x'.heap.size = x.heap.size ∧ ∀ τ d, (under x τ d).farStore P a v atomic = .ok (under x' τ d, l) := by
  unfold World.farStore at hx ⊢
  rcases h.cases a.block with ⟨h1, h2⟩ | ⟨o', o, h1, h2, rfl | ⟨c, t, f', f, rfl, rfl, _⟩⟩
  · simp only [h1] at hx; cases hx
  · rw [h1] at hx; rw [h2]
    cases o' <;> first | (cases hx) | skip
    rename_i at_ u
    simp only at hx ⊢
    split at hx
    · rename_i r' hr
      injection hx with hx; subst hx
      obtain ⟨w', h3, h4, h5⟩ := h.viewStore hr
      rw [h3]
      refine ⟨⟨w', rfl, h4, ?_⟩, h5, ?_, fun τ d => ?_⟩
      · exact ⟨(viewStore_form h3).1, (viewStore_form h3).2.1⟩
      · exact (viewStore_form hr).2.2
      · have hh : (under x τ d).heap[a.block]? = some (.view at_ u) := h1
        simp only [hh, viewStore_under τ d hr]
    · cases hx
  · simp only [h1] at hx; cases hx
end
/-- What may be listed of an access: no write of S; no word of deafness or of a said touch; every address lies below B. -/
def EvG (S : Prot) (B : Nat) (e : Event) : Prop :=
  (e.write = true → ∀ a, e.loc = .cell a → ¬ S.cells a) ∧ (e.write = true → ∀ r, e.loc = .obj r → ¬ S.objs r) ∧ (∀ m, e.loc = .mark m → m ≠ .disable ∧ m ≠ .enable ∧ (∀ a, m ≠ .read a ∧ m ≠ .write a)) ∧ (MemAct.ofEvent e).low B
theorem EvG.mono {S : Prot} {B B' : Nat} {e : Event} (h : EvG S B e) (hB : B ≤ B') : EvG S B' e := ⟨h.1, h.2.1, h.2.2.1, MemAct.low_mono hB h.2.2.2⟩
theorem evG_cell {S : Prot} {B : Nat} {a : Addr} {wr sy : Bool} (h : wr = true → ¬ S.cells a) (hB : a.block < B) : EvG S B ⟨.cell a, wr, sy⟩ :=
  ⟨fun hw b e => (by injection e with e; subst e; exact h hw), fun _ b e => (nomatch e), fun m e => (nomatch e), (by cases wr <;> cases sy <;> exact hB)⟩
theorem evG_obj {S : Prot} {B r : Nat} {wr sy : Bool} (h : wr = true → ¬ S.objs r) (hB : r < B) : EvG S B ⟨.obj r, wr, sy⟩ :=
  ⟨fun _ b e => (nomatch e), fun hw b e => (by injection e with e; subst e; exact h hw), fun m e => (nomatch e), (by cases wr <;> cases sy <;> exact hB)⟩
/-- The n answers from d on are f's. -/
def Agree (τ : Nat → Question → Nat) (d n : Nat) (f : Nat → Nat) : Prop := ∀ j, j < n → ∀ q, τ (d + j) q = f j
/-- An end of the run. -/
def Halt.bad : Halt → Prop
  | .stuck _ | .unsupported _ => True
  | _ => False
/-- The result, its world under another tape. -/
def Result.tap {α : Type} (τ : Nat → Question → Nat) (d : Nat) : Result α → Result α
  | .ok a y => .ok a (under y τ d)
  | .halt h y => .halt h (under y τ d)
/-- How the two results fit. -/
inductive Fits {α β : Type} (S : Prot) (N : α → β → Prop) (w : World) : Result α → Result β → Prop
  | ok {a : α} {b : β} {y w' : World} : N a b → Thaw S y w' → outer w' = outer w → w.heap.size ≤ w'.heap.size → Fits S N w (.ok a y) (.ok b w')
  | panic {v : Value} {y w' : World} : Thaw S y w' → outer w' = outer w → w.heap.size ≤ w'.heap.size → Fits S N w (.halt (.panic v) y) (.halt (.panic v) w')
def Result.world {α : Type} : Result α → World
  | .ok _ w => w
  | .halt _ w => w
/-- What s comes to in w, t comes to in x, under n answers of one's own choice; or t's run ends badly. -/
def Sims {α β : Type} (P : Program) (S : Prot) (N : α → β → Prop) (t : Sem α) (s : Sem β) : Prop := ∀ x w, Thaw S x w → ∃ (n : Nat) (f : Nat → Nat),
  (∀ τ d, Agree τ d n f → ∃ h y, t.run P (under x τ d) = .halt h y ∧ Halt.bad h) ∨
  (∃ r, Fits S N w r (s.run P w) ∧ (∀ τ d, Agree τ d n f → t.run P (under x τ d) = Result.tap τ (d + n) r) ∧
    ∃ evs, (∀ es, s.events P w es = es ++ evs) ∧ ∀ e ∈ evs, EvG S (Result.world (s.run P w)).heap.size e)
/-- The same value, of which N holds. -/
def Eqs {α : Type} (N : α → Prop) (a b : α) : Prop := a = b ∧ N a
/-- A piece of work and itself. -/
abbrev Sim {α : Type} (P : Program) (S : Prot) (N : α → Prop) (s : Sem α) : Prop := Sims P S (Eqs N) s s
section
variable {P : Program} {S : Prot} {α β γ δ : Type}
theorem Agree.left {τ : Nat → Question → Nat} {d n m : Nat} {f g : Nat → Nat} (h : Agree τ d (n + m) (fun j => if j < n then f j else g (j - n))) : Agree τ d n f := fun j hj q => by
  have := h j (by omega) q
  simpa [hj] using this
theorem Agree.right {τ : Nat → Question → Nat} {d n m : Nat} {f g : Nat → Nat} (h : Agree τ d (n + m) (fun j => if j < n then f j else g (j - n))) : Agree τ (d + n) m g := fun j hj q => by
  have := h (n + j) (by omega) q
  have e : n + j - n = j := by omega
  simp only [Nat.not_lt.2 (Nat.le_add_right n j), if_false, e] at this
  rw [Nat.add_assoc]; exact this
theorem Sims.pure {N : α → β → Prop} {a : α} {b : β} (h : N a b) : Sims P S N (Pure.pure a) (Pure.pure b) := fun x w hT => ⟨0, fun _ => 0, .inr ⟨.ok a x, .ok h hT rfl (Nat.le_refl _), fun τ d _ => by simp [Result.tap], #[], fun es => by simp, by simp⟩⟩
theorem Sim.pure {N : α → Prop} {a : α} (h : N a) : Sim P S N (Pure.pure a) := Sims.pure ⟨rfl, h⟩
theorem Sims.mono {N N' : α → β → Prop} {t : Sem α} {s : Sem β} (h : Sims P S N t s) (hN : ∀ a b, N a b → N' a b) : Sims P S N' t s := fun x w hT => by
  obtain ⟨n, f, hb | ⟨r, hf, hr, he⟩⟩ := h x w hT
  · exact ⟨n, f, .inl hb⟩
  · refine ⟨n, f, .inr ⟨r, ?_, hr, he⟩⟩
    generalize s.run P w = q at hf
    cases hf with
    | ok a b c d => exact .ok (hN _ _ a) b c d
    | panic b c d => exact .panic b c d
theorem Sims.bind {N : α → β → Prop} {M : γ → δ → Prop} {t : Sem α} {s : Sem β} {k' : α → Sem γ} {k : β → Sem δ} (h : Sims P S N t s) (hk : ∀ a b, N a b → Sims P S M (k' a) (k b)) : Sims P S M (t >>= k') (s >>= k) := fun x w hT => by
  obtain ⟨n, f, hb | ⟨r, hf, hr, evs, he, hev⟩⟩ := h x w hT
  · refine ⟨n, f, .inl fun τ d hA => ?_⟩
    obtain ⟨h, y, e, hbad⟩ := hb τ d hA
    exact ⟨h, y, by rw [Sem.run_bind, e]; rfl, hbad⟩
  · cases hw : s.run P w with
    | halt hh w₁ =>
      rw [hw] at hf hev
      refine ⟨n, f, .inr ?_⟩
      cases hf with
      | panic a b c =>
        refine ⟨.halt (.panic _) _, by rw [Sem.run_bind, hw]; exact .panic a b c, fun τ d hA => by rw [Sem.run_bind, hr τ d hA]; rfl, evs, fun es => by rw [Sem.events_bind, hw, Result.evThen_halt, he], ?_⟩
        rw [Sem.run_bind, hw]; exact hev
    | ok b w₁ =>
      rw [hw] at hf hev
      cases hf with
      | @ok a _ y _ hN hT₁ ht hs =>
        obtain ⟨m, g, hb | ⟨r₂, hf₂, hr₂, evs₂, he₂, hev₂⟩⟩ := hk a b hN y w₁ hT₁
        · refine ⟨n + m, fun j => if j < n then f j else g (j - n), .inl fun τ d hA => ?_⟩
          obtain ⟨h, z, e, hbad⟩ := hb τ (d + n) hA.right
          exact ⟨h, z, by rw [Sem.run_bind, hr τ d hA.left]; exact e, hbad⟩
        · refine ⟨n + m, fun j => if j < n then f j else g (j - n), .inr ⟨r₂, ?_, fun τ d hA => ?_, evs ++ evs₂, fun es => ?_, fun e hme => ?_⟩⟩
          · rw [Sem.run_bind, hw, Result.andThen_ok]
            generalize (k b).run P w₁ = q at hf₂
            cases hf₂ with
            | ok a b c d => exact .ok a b (c.trans ht) (Nat.le_trans hs d)
            | panic b c d => exact .panic b (c.trans ht) (Nat.le_trans hs d)
          · rw [Sem.run_bind, hr τ d hA.left]
            show (k' a).run P (under y τ (d + n)) = _
            rw [hr₂ τ (d + n) hA.right, Nat.add_assoc]
          · rw [Sem.events_bind, hw, Result.evThen_ok, he, he₂, Array.append_assoc]
          · rw [Sem.run_bind, hw, Result.andThen_ok]
            have hle : w₁.heap.size ≤ (Result.world ((k b).run P w₁)).heap.size := by
              generalize (k b).run P w₁ = q at hf₂
              cases hf₂ with
              | ok a b c d => exact d
              | panic b c d => exact d
            rcases Array.mem_append.1 hme with h1 | h1
            · exact (hev e h1).mono hle
            · exact hev₂ e h1
theorem Sim.bind {N : α → Prop} {M : β → Prop} {s : Sem α} {k : α → Sem β} (h : Sim P S N s) (hk : ∀ a, N a → Sim P S M (k a)) : Sim P S M (s >>= k) :=
  Sims.bind h fun a _ hab => by obtain ⟨rfl, hN⟩ := hab; exact hk a hN
theorem Sim.mono {N N' : α → Prop} {s : Sem α} (h : Sim P S N s) (hN : ∀ a, N a → N' a) : Sim P S N' s := Sims.mono h fun a _ hab => ⟨hab.1, hN a hab.2⟩
/-- A piece of work that always ends the run badly. -/
theorem sims_doom {N : α → β → Prop} {t : Sem α} {s : Sem β} (h : ∀ w, ∃ e y, t.run P w = .halt e y ∧ Halt.bad e) : Sims P S N t s := fun x _ _ => ⟨0, fun _ => 0, .inl fun τ d _ => h (under x τ d)⟩
/-- Is a place frozen? In the first world more may be. -/
theorem sims_frozen {M : γ → δ → Prop} {a : Addr} {k' : Bool → Sem γ} {k : Bool → Sem δ} (h1 : Sims P S M (k' true) (k true)) (h2 : Sims P S M (k' false) (k false)) (h3 : Sims P S M (k' true) (k false)) : Sims P S M (frozen a >>= k') (frozen a >>= k) := fun x w hT => by
  have hu : ∀ τ d, (frozen a >>= k').run P (under x τ d) = (k' (x.frozen? a)).run P (under x τ d) := fun _ _ => rfl
  have hw : (frozen a >>= k).run P w = (k (w.frozen? a)).run P w := rfl
  have he : ∀ es, (frozen a >>= k).events P w es = (k (w.frozen? a)).events P w es := fun es => rfl
  simp only [hu, hw, he]
  cases e1 : x.frozen? a with
  | false => rw [hT.thawed a e1]; exact h2 x w hT
  | true =>
    cases e2 : w.frozen? a with
    | true => exact h1 x w hT
    | false => exact h3 x w hT
end
end Go.Proofs.Ytecmobjiepgfjaa
