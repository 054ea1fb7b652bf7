/- Joined of the texts GoC, GoD, GoE, GoF; what each proves, and its conditions, stand ahead of it. -/
import Derived.Test.YtecmobjiepgfjaaNGoB
/- What a piece of the model's work comes to in a world comes of it in one that is frozen at more places, under a tape of one's own choice; or that one ends it. -/
namespace Go.Proofs.Ytecmobjiepgfjaa
open Go.Conc
set_option linter.unusedSimpArgs false
section
variable {S : Prot} {x w : World}
theorem viewStore_under {P : Program} {at_ : Addr} {u : TypeId} {k : Addr} {v : Value} {atomic : Bool} {x' : World} {l : List Addr} (τ : Nat → Question → Nat) (d : Nat) (hx : x.viewStore P at_ u k v atomic = .ok (x', l)) :
    (under x τ d).viewStore P at_ u k v atomic = .ok (under x' τ d, l) := by
  have hsn : (under x τ d).seen P at_ u k atomic = x.seen P at_ u k atomic := rfl
  unfold World.viewStore at hx ⊢
  rw [hsn]
  simp only [bind, Except.bind, pure, Except.pure, throw, throwThe, MonadExceptOf.throw, MonadExcept.throw] at hx ⊢
  revert hx
  (repeat' split) <;> intro hx <;> simp_all
  all_goals (obtain ⟨rfl, _⟩ := hx; rfl)
theorem viewStore_err {P : Program} {at_ : Addr} {u : TypeId} {k : Addr} {v : Value} {atomic : Bool} {why : String} (τ : Nat → Question → Nat) (d : Nat) (hx : x.viewStore P at_ u k v atomic = .error why) :
    (under x τ d).viewStore P at_ u k v atomic = .error why := by
  have hsn : (under x τ d).seen P at_ u k atomic = x.seen P at_ u k atomic := rfl
  unfold World.viewStore at hx ⊢
  rw [hsn]
  simp only [bind, Except.bind, pure, Except.pure, throw, throwThe, MonadExceptOf.throw, MonadExcept.throw] at hx ⊢
  revert hx
  (repeat' split) <;> intro hx <;> simp_all
theorem farStore_err {P : Program} {a : Addr} {v : Value} {atomic : Bool} {h : Halt} (hx : x.farStore P a v atomic = .error h) (τ : Nat → Question → Nat) (d : Nat) : (under x τ d).farStore P a v atomic = .error h := by
  have hh : (under x τ d).heap = x.heap := rfl
  unfold World.farStore at hx ⊢
  rw [hh]
  split at hx
  · split at hx
    · cases hx
    · rename_i hr
      rw [viewStore_err τ d hr]; exact hx
  · exact hx
theorem viewStore_form {P : Program} {at_ : Addr} {u : TypeId} {k : Addr} {v : Value} {atomic : Bool} {x' : World} {l : List Addr} (hx : x.viewStore P at_ u k v atomic = .ok (x', l)) :
    outer x' = outer x ∧ x'.drawn = x.drawn ∧ x'.heap.size = x.heap.size := by
  unfold World.viewStore at hx
  simp only [bind, Except.bind, pure, Except.pure, throw, throwThe, MonadExceptOf.throw, MonadExcept.throw] at hx
  revert hx
  (repeat' split) <;> intro hx <;> simp_all
  all_goals (obtain ⟨rfl, _⟩ := hx; simp [outer])
theorem Thaw.farLoad (h : Thaw S x w) {P : Program} {a : Addr} {atomic : Bool} {r : Value × List Addr} (hx : x.farLoad P a atomic = .ok r) : w.farLoad P a atomic = .ok r ∧ ∀ b ∈ r.2, b.block < x.heap.size := by
  unfold World.farLoad at hx ⊢
  rcases h.cases a.block with ⟨h1, h2⟩ | ⟨o', o, h1, h2, rfl | ⟨c, t, f', f, rfl, rfl, _⟩⟩
  · simp only [h1] at hx; cases hx
  · rw [h1] at hx; rw [h2]
    cases o' <;> first | (cases hx) | skip
    rename_i at_ u
    simp only at hx ⊢
    split at hx
    · rename_i r' hr
      obtain ⟨h3, h4⟩ := h.viewLoad hr
      injection hx with hx; subst hx
      rw [h3]
      exact ⟨rfl, fun b hb => (h4 b hb).2⟩
    · cases hx
  · simp only [h1] at hx; cases hx
theorem Thaw.farStore (h : Thaw S x w) {P : Program} {a : Addr} {v : Value} {atomic : Bool} {x' : World} {l : List Addr} (hx : x.farStore P a v atomic = .ok (x', l)) :
    (∃ w', w.farStore P a v atomic = .ok (w', l) ∧ Thaw S x' w' ∧ outer w' = outer w ∧ w'.drawn = w.drawn) ∧ (∀ b ∈ l, b.block < x.heap.size ∧ x.frozen? b = false) ∧ x'.heap.size = x.heap.size ∧ ∀ τ d, (under x τ d).farStore P a v atomic = .ok (under x' τ d, l) := by
  unfold World.farStore at hx ⊢
  rcases h.cases a.block with ⟨h1, h2⟩ | ⟨o', o, h1, h2, rfl | ⟨c, t, f', f, rfl, rfl, _⟩⟩
  · simp only [h1] at hx; cases hx
  · rw [h1] at hx; rw [h2]
    cases o' <;> first | (cases hx) | skip
    rename_i at_ u
    simp only at hx ⊢
    split at hx
    · rename_i r' hr
      injection hx with hx; subst hx
      obtain ⟨w', h3, h4, h5⟩ := h.viewStore hr
      rw [h3]
      refine ⟨⟨w', rfl, h4, ?_⟩, h5, ?_, fun τ d => ?_⟩
      · exact ⟨(viewStore_form h3).1, (viewStore_form h3).2.1⟩
      · exact (viewStore_form hr).2.2
      · have hh : (under x τ d).heap[a.block]? = some (.view at_ u) := h1
        simp only [hh, viewStore_under τ d hr]
    · cases hx
  · simp only [h1] at hx; cases hx
end
/-- What may be listed of an access: no write of S; no word of deafness or of a said touch; every address lies below B. -/
def EvG (S : Prot) (B : Nat) (e : Event) : Prop :=
  (e.write = true → ∀ a, e.loc = .cell a → ¬ S.cells a) ∧ (e.write = true → ∀ r, e.loc = .obj r → ¬ S.objs r) ∧ (∀ m, e.loc = .mark m → m ≠ .disable ∧ m ≠ .enable ∧ (∀ a, m ≠ .read a ∧ m ≠ .write a)) ∧ (MemAct.ofEvent e).low B
theorem EvG.mono {S : Prot} {B B' : Nat} {e : Event} (h : EvG S B e) (hB : B ≤ B') : EvG S B' e := ⟨h.1, h.2.1, h.2.2.1, MemAct.low_mono hB h.2.2.2⟩
theorem evG_cell {S : Prot} {B : Nat} {a : Addr} {wr sy : Bool} (h : wr = true → ¬ S.cells a) (hB : a.block < B) : EvG S B ⟨.cell a, wr, sy⟩ :=
  ⟨fun hw b e => (by injection e with e; subst e; exact h hw), fun _ b e => (nomatch e), fun m e => (nomatch e), (by cases wr <;> cases sy <;> exact hB)⟩
theorem evG_obj {S : Prot} {B r : Nat} {wr sy : Bool} (h : wr = true → ¬ S.objs r) (hB : r < B) : EvG S B ⟨.obj r, wr, sy⟩ :=
  ⟨fun _ b e => (nomatch e), fun hw b e => (by injection e with e; subst e; exact h hw), fun m e => (nomatch e), (by cases wr <;> cases sy <;> exact hB)⟩
/-- The n answers from d on are f's. -/
def Agree (τ : Nat → Question → Nat) (d n : Nat) (f : Nat → Nat) : Prop := ∀ j, j < n → ∀ q, τ (d + j) q = f j
/-- An end of the run. -/
def Halt.bad : Halt → Prop
  | .stuck _ | .unsupported _ => True
  | _ => False
/-- The result, its world under another tape. -/
def Result.tap {α : Type} (τ : Nat → Question → Nat) (d : Nat) : Result α → Result α
  | .ok a y => .ok a (under y τ d)
  | .halt h y => .halt h (under y τ d)
/-- How the two results fit. -/
inductive Fits {α β : Type} (S : Prot) (N : α → β → Prop) (w : World) : Result α → Result β → Prop
  | ok {a : α} {b : β} {y w' : World} : N a b → Thaw S y w' → outer w' = outer w → w.heap.size ≤ w'.heap.size → Fits S N w (.ok a y) (.ok b w')
  | panic {v : Value} {y w' : World} : Thaw S y w' → outer w' = outer w → w.heap.size ≤ w'.heap.size → Fits S N w (.halt (.panic v) y) (.halt (.panic v) w')
def Result.world {α : Type} : Result α → World
  | .ok _ w => w
  | .halt _ w => w
/-- What s comes to in w, t comes to in x, under n answers of one's own choice; or t's run ends badly. -/
def Sims {α β : Type} (P : Program) (S : Prot) (N : α → β → Prop) (t : Sem α) (s : Sem β) : Prop := ∀ x w, Thaw S x w → ∃ (n : Nat) (f : Nat → Nat),
  (∀ τ d, Agree τ d n f → ∃ h y, t.run P (under x τ d) = .halt h y ∧ Halt.bad h) ∨
  (∃ r, Fits S N w r (s.run P w) ∧ (∀ τ d, Agree τ d n f → t.run P (under x τ d) = Result.tap τ (d + n) r) ∧
    ∃ evs, (∀ es, s.events P w es = es ++ evs) ∧ ∀ e ∈ evs, EvG S (Result.world (s.run P w)).heap.size e)
/-- The same value, of which N holds. -/
def Eqs {α : Type} (N : α → Prop) (a b : α) : Prop := a = b ∧ N a
/-- A piece of work and itself. -/
abbrev Sim {α : Type} (P : Program) (S : Prot) (N : α → Prop) (s : Sem α) : Prop := Sims P S (Eqs N) s s
section
variable {P : Program} {S : Prot} {α β γ δ : Type}
theorem Agree.left {τ : Nat → Question → Nat} {d n m : Nat} {f g : Nat → Nat} (h : Agree τ d (n + m) (fun j => if j < n then f j else g (j - n))) : Agree τ d n f := fun j hj q => by
  have := h j (by omega) q
  simpa [hj] using this
theorem Agree.right {τ : Nat → Question → Nat} {d n m : Nat} {f g : Nat → Nat} (h : Agree τ d (n + m) (fun j => if j < n then f j else g (j - n))) : Agree τ (d + n) m g := fun j hj q => by
  have := h (n + j) (by omega) q
  have e : n + j - n = j := by omega
  simp only [Nat.not_lt.2 (Nat.le_add_right n j), if_false, e] at this
  rw [Nat.add_assoc]; exact this
theorem Sims.pure {N : α → β → Prop} {a : α} {b : β} (h : N a b) : Sims P S N (Pure.pure a) (Pure.pure b) := fun x w hT => ⟨0, fun _ => 0, .inr ⟨.ok a x, .ok h hT rfl (Nat.le_refl _), fun τ d _ => by simp [Result.tap], #[], fun es => by simp, by simp⟩⟩
theorem Sim.pure {N : α → Prop} {a : α} (h : N a) : Sim P S N (Pure.pure a) := Sims.pure ⟨rfl, h⟩
theorem Sims.mono {N N' : α → β → Prop} {t : Sem α} {s : Sem β} (h : Sims P S N t s) (hN : ∀ a b, N a b → N' a b) : Sims P S N' t s := fun x w hT => by
  obtain ⟨n, f, hb | ⟨r, hf, hr, he⟩⟩ := h x w hT
  · exact ⟨n, f, .inl hb⟩
  · refine ⟨n, f, .inr ⟨r, ?_, hr, he⟩⟩
    generalize s.run P w = q at hf
    cases hf with
    | ok a b c d => exact .ok (hN _ _ a) b c d
    | panic b c d => exact .panic b c d
theorem Sims.bind {N : α → β → Prop} {M : γ → δ → Prop} {t : Sem α} {s : Sem β} {k' : α → Sem γ} {k : β → Sem δ} (h : Sims P S N t s) (hk : ∀ a b, N a b → Sims P S M (k' a) (k b)) : Sims P S M (t >>= k') (s >>= k) := fun x w hT => by
  obtain ⟨n, f, hb | ⟨r, hf, hr, evs, he, hev⟩⟩ := h x w hT
  · refine ⟨n, f, .inl fun τ d hA => ?_⟩
    obtain ⟨h, y, e, hbad⟩ := hb τ d hA
    exact ⟨h, y, by rw [Sem.run_bind, e]; rfl, hbad⟩
  · cases hw : s.run P w with
    | halt hh w₁ =>
      rw [hw] at hf hev
      refine ⟨n, f, .inr ?_⟩
      cases hf with
      | panic a b c =>
        refine ⟨.halt (.panic _) _, by rw [Sem.run_bind, hw]; exact .panic a b c, fun τ d hA => by rw [Sem.run_bind, hr τ d hA]; rfl, evs, fun es => by rw [Sem.events_bind, hw, Result.evThen_halt, he], ?_⟩
        rw [Sem.run_bind, hw]; exact hev
    | ok b w₁ =>
      rw [hw] at hf hev
      cases hf with
      | @ok a _ y _ hN hT₁ ht hs =>
        obtain ⟨m, g, hb | ⟨r₂, hf₂, hr₂, evs₂, he₂, hev₂⟩⟩ := hk a b hN y w₁ hT₁
        · refine ⟨n + m, fun j => if j < n then f j else g (j - n), .inl fun τ d hA => ?_⟩
          obtain ⟨h, z, e, hbad⟩ := hb τ (d + n) hA.right
          exact ⟨h, z, by rw [Sem.run_bind, hr τ d hA.left]; exact e, hbad⟩
        · refine ⟨n + m, fun j => if j < n then f j else g (j - n), .inr ⟨r₂, ?_, fun τ d hA => ?_, evs ++ evs₂, fun es => ?_, fun e hme => ?_⟩⟩
          · rw [Sem.run_bind, hw, Result.andThen_ok]
            generalize (k b).run P w₁ = q at hf₂
            cases hf₂ with
            | ok a b c d => exact .ok a b (c.trans ht) (Nat.le_trans hs d)
            | panic b c d => exact .panic b (c.trans ht) (Nat.le_trans hs d)
          · rw [Sem.run_bind, hr τ d hA.left]
            show (k' a).run P (under y τ (d + n)) = _
            rw [hr₂ τ (d + n) hA.right, Nat.add_assoc]
          · rw [Sem.events_bind, hw, Result.evThen_ok, he, he₂, Array.append_assoc]
          · rw [Sem.run_bind, hw, Result.andThen_ok]
            have hle : w₁.heap.size ≤ (Result.world ((k b).run P w₁)).heap.size := by
              generalize (k b).run P w₁ = q at hf₂
              cases hf₂ with
              | ok a b c d => exact d
              | panic b c d => exact d
            rcases Array.mem_append.1 hme with h1 | h1
            · exact (hev e h1).mono hle
            · exact hev₂ e h1
theorem Sim.bind {N : α → Prop} {M : β → Prop} {s : Sem α} {k : α → Sem β} (h : Sim P S N s) (hk : ∀ a, N a → Sim P S M (k a)) : Sim P S M (s >>= k) :=
  Sims.bind h fun a _ hab => by obtain ⟨rfl, hN⟩ := hab; exact hk a hN
theorem Sim.mono {N N' : α → Prop} {s : Sem α} (h : Sim P S N s) (hN : ∀ a, N a → N' a) : Sim P S N' s := Sims.mono h fun a _ hab => ⟨hab.1, hN a hab.2⟩
/-- A piece of work that always ends the run badly. -/
theorem sims_doom {N : α → β → Prop} {t : Sem α} {s : Sem β} (h : ∀ w, ∃ e y, t.run P w = .halt e y ∧ Halt.bad e) : Sims P S N t s := fun x _ _ => ⟨0, fun _ => 0, .inl fun τ d _ => h (under x τ d)⟩
/-- Is a place frozen? In the first world more may be. -/
theorem sims_frozen {M : γ → δ → Prop} {a : Addr} {k' : Bool → Sem γ} {k : Bool → Sem δ} (h1 : Sims P S M (k' true) (k true)) (h2 : Sims P S M (k' false) (k false)) (h3 : Sims P S M (k' true) (k false)) : Sims P S M (frozen a >>= k') (frozen a >>= k) := fun x w hT => by
  have hu : ∀ τ d, (frozen a >>= k').run P (under x τ d) = (k' (x.frozen? a)).run P (under x τ d) := fun _ _ => rfl
  have hw : (frozen a >>= k).run P w = (k (w.frozen? a)).run P w := rfl
  have he : ∀ es, (frozen a >>= k).events P w es = (k (w.frozen? a)).events P w es := fun es => rfl
  simp only [hu, hw, he]
  cases e1 : x.frozen? a with
  | false => rw [hT.thawed a e1]; exact h2 x w hT
  | true =>
    cases e2 : w.frozen? a with
    | true => exact h1 x w hT
    | false => exact h3 x w hT
end
end Go.Proofs.Ytecmobjiepgfjaa
/- The primitives of the model's work: each is met in a world that is frozen at more places. -/
namespace Go.Proofs.Ytecmobjiepgfjaa
open Go.Conc
set_option linter.unusedSimpArgs false
section
variable {P : Program} {S : Prot} {α β : Type} {N : α → Prop}
theorem noCell_bad (w : World) (a : Addr) (s : String) : Halt.bad (w.noCell a s) := by
  unfold World.noCell
  split <;> trivial
theorem farLoad_bad {w : World} {a : Addr} {b : Bool} {h : Halt} (e : w.farLoad P a b = .error h) : Halt.bad h := by
  unfold World.farLoad at e
  split at e
  · split at e
    · cases e
    · injection e with e; subst e; trivial
  · injection e with e; subst e; exact noCell_bad _ _ _
theorem farStore_bad {w : World} {a : Addr} {v : Value} {b : Bool} {h : Halt} (e : w.farStore P a v b = .error h) : Halt.bad h := by
  unfold World.farStore at e
  split at e
  · split at e
    · cases e
    · injection e with e; subst e; trivial
  · injection e with e; subst e; exact noCell_bad _ _ _
theorem cell_lt {w : World} {a : Addr} {v : Value} (h : w.cell? a = some v) : a.block < w.heap.size := by
  rcases Nat.lt_or_ge a.block w.heap.size with l | l
  · exact l
  · unfold World.cell? at h
    rw [Array.getElem?_eq_none l] at h; cases h
theorem sq149 {h : Halt} (hb : Halt.bad h) : Sim P S N (Sem.halt h) := fun x _ _ => ⟨0, fun _ => 0, .inl fun τ d _ => ⟨h, under x τ d, rfl, hb⟩⟩
theorem sq0 {s : String} : Sim P S N (stuck s) := sq149 trivial
theorem sq1 {u : Unsupported} : Sim P S N (unsupported u) := sq149 trivial
theorem sq3 {v : Value} : Sim P S N (goPanic v) := fun x _ hT => ⟨0, fun _ => 0, .inr ⟨.halt (.panic v) x, .panic hT rfl (Nat.le_refl _), fun τ d _ => rfl, #[], fun es => by simp [goPanic, Sem.events, Sem.runT], by simp⟩⟩
theorem sq12 {a : Addr} {m : Mode} : Sim P S (fun _ => True) (load a m) := fun x w hT => by
  have hcx : ∀ τ d, (under x τ d).cell? a = x.cell? a := fun _ _ => rfl
  have hfx : ∀ τ d, (under x τ d).farLoad P a (m == .atomic) = x.farLoad P a (m == .atomic) := fun _ _ => rfl
  cases hc : w.cell? a with
  | some v =>
    refine ⟨0, fun _ => 0, .inr ⟨.ok v x, ?_, fun τ d _ => ?_, #[⟨.cell a, false, m == .atomic⟩], fun es => ?_, ?_⟩⟩
    · simp only [load, Sem.run, hc]; exact .ok ⟨rfl, trivial⟩ hT rfl (Nat.le_refl _)
    · simp only [load, Sem.run, hcx, hT.cell? a, hc]; rfl
    · simp only [load, Sem.events, Sem.runT, hc]; rfl
    · simp only [load, Sem.run, hc, Result.world]
      intro e he
      obtain rfl := by simpa using he
      exact evG_cell (by simp) (cell_lt hc)
  | none =>
    cases hf : x.farLoad P a (m == .atomic) with
    | error h => exact ⟨0, fun _ => 0, .inl fun τ d _ => ⟨h, under x τ d, by simp only [load, Sem.run, hcx, hT.cell? a, hc, hfx, hf], farLoad_bad hf⟩⟩
    | ok r =>
      obtain ⟨v, l⟩ := r
      obtain ⟨hw, hl⟩ := hT.farLoad hf
      refine ⟨0, fun _ => 0, .inr ⟨.ok v x, ?_, fun τ d _ => ?_, l.toArray.map (⟨.cell ·, false, m == .atomic⟩), fun es => ?_, ?_⟩⟩
      · simp only [load, Sem.run, hc, hw]; exact .ok ⟨rfl, trivial⟩ hT rfl (Nat.le_refl _)
      · simp only [load, Sem.run, hcx, hT.cell? a, hc, hfx, hf]; rfl
      · simp only [load, Sem.events, Sem.runT, hc, hw]
      · simp only [load, Sem.run, hc, hw, Result.world]
        intro e he
        simp only [List.map_toArray, List.mem_toArray, List.mem_map] at he
        obtain ⟨b, hb, rfl⟩ := he
        exact evG_cell (by simp) (hT.size ▸ hl b hb)
theorem sq9 {a : Addr} {v : Value} {m : Mode} : Sim P S (fun _ => True) (store a v m) := fun x w hT => by
  have hcx : ∀ τ d, (under x τ d).cell? a = x.cell? a := fun _ _ => rfl
  have hzx : ∀ τ d, (under x τ d).frozen? a = x.frozen? a := fun _ _ => rfl
  by_cases hag : (∃ c, v = .agg c) ∨ ∃ c, v = .tuple c
  · refine ⟨0, fun _ => 0, .inl fun τ d _ => ?_⟩
    rcases hag with ⟨c, rfl⟩ | ⟨c, rfl⟩ <;> exact ⟨_, _, rfl, trivial⟩
  · have hrun : ∀ w : World, (store a v m).run P w = match w.cell? a with
        | some _ => if w.frozen? a then .halt (.unsupported (.unsafePointer "a write to bytes that a string shares")) w else .ok () (w.setCell a v)
        | none => match w.farStore P a v (m == .atomic) with
          | .ok (w, _) => .ok () w
          | .error h => .halt h w := by
      intro w
      cases v <;> first | (exfalso; exact hag (.inl ⟨_, rfl⟩)) | (exfalso; exact hag (.inr ⟨_, rfl⟩)) | rfl
    have hevs : ∀ (w : World) es, (store a v m).events P w es = match w.cell? a with
        | some _ => if w.frozen? a then es else es.push ⟨.cell a, true, m == .atomic⟩
        | none => match w.farStore P a v (m == .atomic) with
          | .ok (_, l) => es ++ l.toArray.map (⟨.cell ·, true, m == .atomic⟩)
          | .error _ => es := by
      intro w es
      unfold Sem.events
      cases v <;> first | (exfalso; exact hag (.inl ⟨_, rfl⟩)) | (exfalso; exact hag (.inr ⟨_, rfl⟩)) | (simp only [store, Sem.runT]; (repeat' split) <;> first | rfl | simp_all)
    cases hc : w.cell? a with
    | some v₀ =>
      cases hz : x.frozen? a with
      | true => exact ⟨0, fun _ => 0, .inl fun τ d _ => ⟨.unsupported (.unsafePointer "a write to bytes that a string shares"), under x τ d, by rw [hrun]; simp only [hcx, hT.cell? a, hc, hzx, hz, if_true], trivial⟩⟩
      | false =>
        have hz' := hT.thawed a hz
        refine ⟨0, fun _ => 0, .inr ⟨.ok () (x.setCell a v), ?_, fun τ d _ => ?_, #[⟨.cell a, true, m == .atomic⟩], fun es => ?_, ?_⟩⟩
        · rw [hrun]; simp only [hc, hz', Bool.false_eq_true, if_false]; exact .ok ⟨rfl, trivial⟩ (hT.setCell a v) rfl (by simp [World.setCell])
        · rw [hrun]; simp only [hcx, hT.cell? a, hc, hzx, hz, Bool.false_eq_true, if_false]; rfl
        · rw [hevs]; simp only [hc, hz', Bool.false_eq_true, if_false]; rfl
        · rw [hrun]; simp only [hc, hz', Bool.false_eq_true, if_false, Result.world]
          intro e he
          obtain rfl := by simpa using he
          exact evG_cell (fun _ => hT.free hz) (by simpa [World.setCell] using cell_lt hc)
    | none =>
      cases hf : x.farStore P a v (m == .atomic) with
      | error h =>
        refine ⟨0, fun _ => 0, .inl fun τ d _ => ⟨h, under x τ d, ?_, farStore_bad hf⟩⟩
        have hfe : (under x τ d).farStore P a v (m == .atomic) = .error h := farStore_err hf τ d
        rw [hrun]; simp only [hcx, hT.cell? a, hc, hfe]
      | ok r =>
        obtain ⟨x', l⟩ := r
        obtain ⟨⟨w', hw, hT', ht, _⟩, hl, hsz, hu⟩ := hT.farStore hf
        refine ⟨0, fun _ => 0, .inr ⟨.ok () x', ?_, fun τ d _ => ?_, l.toArray.map (⟨.cell ·, true, m == .atomic⟩), fun es => ?_, ?_⟩⟩
        · rw [hrun]; simp only [hc, hw]; exact .ok ⟨rfl, trivial⟩ hT' ht (Nat.le_of_eq (by rw [← hT'.size, hsz, hT.size]))
        · rw [hrun]; simp only [hcx, hT.cell? a, hc, hu τ d]; rfl
        · rw [hevs]; simp only [hc, hw]
        · rw [hrun]; simp only [hc, hw, Result.world]
          intro e he
          simp only [List.map_toArray, List.mem_toArray, List.mem_map] at he
          obtain ⟨b, hb, rfl⟩ := he
          exact evG_cell (fun _ => hT.free (hl b hb).2) (by rw [← hT'.size, hsz]; exact (hl b hb).1)
theorem sq14 {o : Obj} : Sim P S (fun _ => True) (newObj o) := fun x w hT => ⟨0, fun _ => 0, .inr ⟨.ok x.heap.size { x with heap := x.heap.push o }, by
    simp only [newObj, Sem.run]; rw [← hT.size]; exact .ok ⟨rfl, trivial⟩ (hT.push o) rfl (by simp), fun τ d _ => rfl, #[], fun es => by simp [newObj, Sem.events, Sem.runT], by simp⟩⟩
theorem sq5 {r : Nat} : Sim P S (fun _ => True) (shape r) := fun x w hT => ⟨0, fun _ => 0, .inr ⟨.ok (x.shape? r) x, by
    simp only [shape, Sem.run]; rw [← hT.shape? r]; exact .ok ⟨rfl, trivial⟩ hT rfl (Nat.le_refl _), fun τ d _ => rfl, #[], fun es => by simp [shape, Sem.events, Sem.runT], by simp⟩⟩
theorem sq2 : Sim P S (fun p => p = P) program := fun x w hT => ⟨0, fun _ => 0, .inr ⟨.ok P x, .ok ⟨rfl, rfl⟩ hT rfl (Nat.le_refl _), fun τ d _ => rfl, #[], fun es => by simp [program, Sem.events, Sem.runT], by simp⟩⟩
theorem sq20 {q : Question} : Sim P S (fun _ => True) (choose q) := fun x w hT => by
  cases hq : q.forced with
  | true => exact ⟨0, fun _ => 0, .inr ⟨.ok 0 x, by simp only [choose, Sem.run, hq, if_true]; exact .ok ⟨rfl, trivial⟩ hT rfl (Nat.le_refl _), fun τ d _ => by simp only [choose, Sem.run, hq, if_true]; rfl, #[], fun es => by simp [choose, Sem.events, Sem.runT, hq], by simp⟩⟩
  | false =>
    refine ⟨1, fun _ => w.tape w.drawn q, .inr ⟨.ok (q.cut (w.tape w.drawn q)) x, ?_, fun τ d hA => ?_, #[], fun es => by simp [choose, Sem.events, Sem.runT, hq], by simp⟩⟩
    · simp only [choose, Sem.run, hq, Bool.false_eq_true, if_false]
      exact .ok ⟨rfl, trivial⟩ (hT.mvr w.tape (w.drawn + 1)) rfl (Nat.le_refl _)
    · have := hA 0 (by omega) q
      simp only [choose, Sem.run, hq, Bool.false_eq_true, if_false]
      show Result.ok (q.cut (τ d q)) _ = _
      rw [Nat.add_zero] at this
      rw [this]; rfl
end
end Go.Proofs.Ytecmobjiepgfjaa
/- The primitives, on: objects, marks; what memory's words are made of. -/
namespace Go.Proofs.Ytecmobjiepgfjaa
open Go.Conc
set_option linter.unusedSimpArgs false
section
variable {P : Program} {S : Prot} {α β : Type} {N : α → Prop}
theorem obj_lt {w : World} {r : Nat} {o : Obj} (h : w.heap[r]? = some o) : r < w.heap.size := by
  rcases Nat.lt_or_ge r w.heap.size with l | l
  · exact l
  · rw [Array.getElem?_eq_none l] at h; cases h
theorem sq7 {r : Nat} : Sim P S (fun o => ∀ c t f, o ≠ .cells c t f) (getObj r) := fun x w hT => by
  have hux : ∀ τ d, (under x τ d).heap[r]? = x.heap[r]? := fun _ _ => rfl
  rcases hT.cases r with ⟨h1, h2⟩ | ⟨o', o, h1, h2, rfl | ⟨c, t, f', f, rfl, rfl, _⟩⟩
  · exact ⟨0, fun _ => 0, .inl fun τ d _ => ⟨.stuck "getObj: no such block", under x τ d, by simp only [getObj, Sem.run, hux, h1], trivial⟩⟩
  · by_cases hc : ∃ c t f, o' = .cells c t f
    · obtain ⟨c, t, f, rfl⟩ := hc
      exact ⟨0, fun _ => 0, .inl fun τ d _ => ⟨.stuck "getObj: a row of cells", under x τ d, by simp only [getObj, Sem.run, hux, h1], trivial⟩⟩
    · have hne : ∀ c t f, o' ≠ .cells c t f := fun c t f e => hc ⟨c, t, f, e⟩
      have hrun : ∀ w : World, w.heap[r]? = some o' → (getObj r).run P w = .ok o' w := by
        intro w hw
        simp only [getObj, Sem.run, hw]
      have hevs : ∀ (w : World) es, w.heap[r]? = some o' → (getObj r).events P w es = es.push ⟨.obj r, false, o'.isChan⟩ := by
        intro w es hw
        simp only [getObj, Sem.events, Sem.runT, hw]
      refine ⟨0, fun _ => 0, .inr ⟨.ok o' x, ?_, fun τ d _ => ?_, #[⟨.obj r, false, o'.isChan⟩], fun es => ?_, ?_⟩⟩
      · rw [hrun w h2]; exact .ok ⟨rfl, hne⟩ hT rfl (Nat.le_refl _)
      · rw [hrun _ (by rw [hux]; exact h1)]; rfl
      · rw [hevs w es h2]; rfl
      · rw [hrun w h2]
        intro e he
        obtain rfl := by simpa using he
        exact evG_obj (by simp) (obj_lt h2)
  · exact ⟨0, fun _ => 0, .inl fun τ d _ => ⟨.stuck "getObj: a row of cells", under x τ d, by simp only [getObj, Sem.run, hux, h1], trivial⟩⟩
theorem sq17 {r : Nat} {o : Obj} (hr : ¬ S.objs r) : Sim P S (fun _ => True) (setObj r o) := fun x w hT => by
  have hux : ∀ τ d, (under x τ d).heap[r]? = x.heap[r]? := fun _ _ => rfl
  rcases hT.cases r with ⟨h1, h2⟩ | ⟨o', o₂, h1, h2, rfl | ⟨c, t, f', f, rfl, rfl, _⟩⟩
  · exact ⟨0, fun _ => 0, .inl fun τ d _ => ⟨.stuck "setObj: no such block", under x τ d, by simp only [setObj, Sem.run, hux, h1], trivial⟩⟩
  · by_cases hc : ∃ c t f, o' = .cells c t f
    · obtain ⟨c, t, f, rfl⟩ := hc
      exact ⟨0, fun _ => 0, .inl fun τ d _ => ⟨.stuck "setObj: a row of cells", under x τ d, by simp only [setObj, Sem.run, hux, h1], trivial⟩⟩
    · have hne : ∀ c t f, o' ≠ .cells c t f := fun c t f e => hc ⟨c, t, f, e⟩
      have hrun : ∀ w : World, w.heap[r]? = some o' → (setObj r o).run P w = .ok () { w with heap := w.heap.setIfInBounds r o } := by
        intro w hw
        simp only [setObj, Sem.run, hw]
      have hevs : ∀ (w : World) es, w.heap[r]? = some o' → (setObj r o).events P w es = es.push ⟨.obj r, true, o.isChan⟩ := by
        intro w es hw
        simp only [setObj, Sem.events, Sem.runT, hw]
      refine ⟨0, fun _ => 0, .inr ⟨.ok () { x with heap := x.heap.setIfInBounds r o }, ?_, fun τ d _ => ?_, #[⟨.obj r, true, o.isChan⟩], fun es => ?_, ?_⟩⟩
      · rw [hrun w h2]; exact .ok ⟨rfl, trivial⟩ (hT.set h1 hne o) rfl (by simp)
      · rw [hrun _ (by rw [hux]; exact h1)]; rfl
      · rw [hevs w es h2]; rfl
      · rw [hrun w h2]
        intro e he
        obtain rfl := by simpa using he
        exact evG_obj (fun _ => hr) (by simpa [Result.world] using obj_lt h2)
  · exact ⟨0, fun _ => 0, .inl fun τ d _ => ⟨.stuck "setObj: a row of cells", under x τ d, by simp only [setObj, Sem.run, hux, h1], trivial⟩⟩
theorem sq156 {m : Mark} (h1 : ∀ a, m ≠ .acquire a ∧ m ≠ .release a ∧ m ≠ .releaseMerge a ∧ m ≠ .read a ∧ m ≠ .write a) (h2 : m ≠ .disable) (h3 : m ≠ .enable) : Sim P S (fun _ => True) (mark m) := fun x w hT =>
  ⟨0, fun _ => 0, .inr ⟨.ok () x, .ok ⟨rfl, trivial⟩ hT rfl (Nat.le_refl _), fun τ d _ => rfl, #[⟨.mark m, false, true⟩], fun es => rfl, fun e he => by
    obtain rfl := by simpa using he
    refine ⟨fun h => (by cases h), fun h => (by cases h), fun m' e => ?_, ?_⟩
    · injection e with e; subst e
      exact ⟨h2, h3, fun a => ⟨(h1 a).2.2.2.1, (h1 a).2.2.2.2⟩⟩
    · cases m <;> first | trivial | exact absurd rfl (h1 _).1 | exact absurd rfl (h1 _).2.1 | exact absurd rfl (h1 _).2.2.1 | exact absurd rfl (h1 _).2.2.2.1 | exact absurd rfl (h1 _).2.2.2.2⟩⟩
theorem sq41 {n : Nat} : Sim P S (fun _ => True) (askRoom n) := by
  unfold askRoom
  split
  · exact sq156 (by simp) (by simp) (by simp)
  · exact Sim.pure trivial
theorem sq8 {t : TypeId} : Sim P S (fun _ => True) (typeInfo t) := by
  unfold typeInfo
  refine sq2.bind fun p hp => ?_
  split
  · exact Sim.pure trivial
  · exact sq0
theorem sq4 {t : TypeId} : Sim P S (fun _ => True) (underlying t) := by
  unfold underlying
  refine sq2.bind fun p hp => ?_
  split
  · exact Sim.pure trivial
  · exact sq0
theorem sq38 {t : TypeId} : Sim P S (fun _ => True) (zeroValue t) := by
  unfold zeroValue
  refine sq8.bind fun p hp => ?_
  split
  · exact Sim.pure trivial
  · exact sq1
theorem sq11 {t : TypeId} : Sim P S (fun _ => True) (sizeOf t) := by
  unfold sizeOf
  exact sq8.bind fun p hp => Sim.pure trivial
theorem sq21 {t : TypeId} : Sim P S (fun _ => True) (isAgg t) := by
  unfold isAgg
  refine sq4.bind fun p hp => ?_
  split <;> exact Sim.pure trivial
theorem sq157 {a : Addr} : ∀ (n i : Nat) (acc : Array Value), Sim P S (fun _ => True) (loadCellsFrom a i n acc)
  | 0, _, _ => Sim.pure trivial
  | n + 1, i, _ => sq12.bind fun _ _ => sq157 n (i + 1) _
theorem sq30 {a : Addr} {n : Nat} : Sim P S (fun _ => True) (loadCells a n) := sq157 n 0 _
theorem sq15 {a : Addr} : ∀ (vs : List Value) (i : Nat), Sim P S (fun _ => True) (storeCells a vs i)
  | [], _ => Sim.pure trivial
  | _ :: vs, i => sq9.bind fun _ _ => sq15 vs (i + 1)
theorem sq24 {t : TypeId} {a : Addr} : Sim P S (fun _ => True) (loadVar t a) := by
  unfold loadVar
  refine sq21.bind fun b _ => ?_
  split
  · exact sq11.bind fun n _ => sq30.bind fun _ _ => Sim.pure trivial
  · exact sq12
theorem sq35 {t : TypeId} {a : Addr} {v : Value} : Sim P S (fun _ => True) (storeVar t a v) := by
  unfold storeVar
  refine sq11.bind fun n _ => ?_
  split
  · exact sq0.bind fun _ (_ : True) => sq15 _ _
  · exact (Sim.pure trivial).bind fun _ (_ : True) => sq15 _ _
theorem sq23 {t : TypeId} {c : Array Value} : Sim P S (fun _ => True) (newRow t c) := sq14.bind fun _ _ => Sim.pure trivial
theorem sq16 {t : TypeId} {v : Value} : Sim P S (fun _ => True) (newVar t v) := sq23
theorem sq18 {t : TypeId} : Sim P S (fun _ => True) (elemOf t) := by
  unfold elemOf
  refine sq4.bind fun b _ => ?_
  split
  · exact Sim.pure trivial
  · exact sq0
theorem sq28 {t : TypeId} {c : Array Value} {n : Nat} : Sim P S (fun _ => True) (part t c n) := by
  unfold part
  refine sq21.bind fun b _ => ?_
  split
  · exact sq11.bind fun n _ => Sim.pure trivial
  · split
    · exact Sim.pure trivial
    · exact sq0
theorem sq19 {r : Nat} : Sim P S (fun _ => True) (viewAt r) := by
  unfold viewAt
  refine sq5.bind fun b _ => ?_
  split
  · exact Sim.pure trivial
  · refine sq7.bind fun o _ => ?_
    split <;> exact Sim.pure trivial
theorem sq37 {r : Nat} : Sim P S (fun _ => True) (numberAt r) := by
  unfold numberAt
  refine sq5.bind fun b _ => ?_
  split
  · exact Sim.pure trivial
  · refine sq7.bind fun o _ => ?_
    split <;> exact Sim.pure trivial
theorem sq42 {r : Nat} : Sim P S (fun _ => True) (cellsIn r) := by
  unfold cellsIn
  refine sq5.bind fun b _ => ?_
  split
  · exact Sim.pure trivial
  · refine sq7.bind fun o _ => ?_
    split <;> exact Sim.pure trivial
theorem sq22 {a : Addr} : Sim P S (fun _ => True) (noView a) := by
  unfold noView
  refine sq19.bind fun b _ => ?_
  split
  · exact sq1
  · exact Sim.pure trivial
theorem sq26 {v : Value} : Sim P S (fun _ => True) (asBool v) := by
  unfold asBool
  split
  · exact Sim.pure trivial
  · exact sq0
theorem sq34 {v : Value} : Sim P S (fun _ => True) (asString v) := by
  unfold asString
  split
  · exact Sim.pure trivial
  · exact sq0
theorem sq33 {v : Value} : Sim P S (fun _ => True) (asAgg v) := by
  unfold asAgg
  split
  · exact Sim.pure trivial
  · exact sq0
theorem sq25 {v : Value} : Sim P S (fun _ => True) (asIntOf v) := by
  unfold asIntOf
  split
  · exact Sim.pure trivial
  · exact sq1
  · exact sq0
theorem sq10 {v : Value} : Sim P S (fun _ => True) (asInt v) := sq25.bind fun _ _ => Sim.pure trivial
theorem sq13 {e : RuntimeError} : Sim P S N (runtimePanic e) := by
  unfold runtimePanic
  refine sq2.bind fun p _ => ?_
  split
  · exact sq3
  · exact sq3
  · exact sq3
  · exact sq3
  · exact sq18.bind fun t _ => sq16.bind fun r _ => sq3
  · exact sq18.bind fun t _ => sq16.bind fun r _ => sq3
  · exact sq3
theorem sq6 {v : Value} : Sim P S (fun _ => True) (asAddr v) := by
  unfold asAddr
  split
  · exact Sim.pure trivial
  · exact sq13
  · exact sq0
end
end Go.Proofs.Ytecmobjiepgfjaa
/- Are two addresses one? And equality of values. -/
namespace Go.Proofs.Ytecmobjiepgfjaa
open Go.Conc
set_option linter.unusedSimpArgs false
section
variable {P : Program} {S : Prot} {α β : Type} {N : α → Prop}
/-- If the second is true, the first is. -/
def Over (a b : Bool) : Prop := b = true → a = true
/-- Work that looks only, beside a value. -/
theorem sims_still {M : α → β → Prop} {a : α} {s : Sem β} (h : ∀ w, ∃ b, s.run P w = .ok b w ∧ M a b ∧ ∀ es, s.events P w es = es) : Sims P S M (pure a) s := fun x w hT => by
  obtain ⟨b, h1, h2, h3⟩ := h w
  exact ⟨0, fun _ => 0, .inr ⟨.ok a x, by rw [h1]; exact .ok h2 hT rfl (Nat.le_refl _), fun τ d _ => rfl, #[], fun es => by rw [h3]; simp, by simp⟩⟩
/-- The first asks the tape: it is told 0. -/
theorem sims_told {M : α → β → Prop} {q : Question} {k : Nat → Sem α} {s : Sem β} (hq : q.forced = false) (h : Sims P S M (k (q.cut 0)) s) : Sims P S M (choose q >>= k) s := fun x w hT => by
  obtain ⟨n, f, hh⟩ := h x w hT
  have hrun : ∀ τ d, Agree τ d (n + 1) (fun j => if j = 0 then 0 else f (j - 1)) → (choose q >>= k).run P (under x τ d) = (k (q.cut 0)).run P (under x τ (d + 1)) ∧ Agree τ (d + 1) n f := by
    intro τ d hA
    have h0 := hA 0 (by omega) q
    simp only [Nat.add_zero, if_true] at h0
    refine ⟨?_, fun j hj q' => ?_⟩
    · rw [Sem.run_bind]
      simp only [choose, Sem.run, hq, Bool.false_eq_true, if_false]
      show (k (q.cut (τ d q))).run P _ = _
      rw [h0]; rfl
    · have := hA (j + 1) (by omega) q'
      simp only [Nat.add_sub_cancel, Nat.succ_ne_zero, if_false] at this
      rw [Nat.add_assoc, Nat.add_comm 1 j]; exact this
  rcases hh with hb | ⟨r, h1, h2, h3⟩
  · refine ⟨n + 1, fun j => if j = 0 then 0 else f (j - 1), .inl fun τ d hA => ?_⟩
    obtain ⟨e1, e2⟩ := hrun τ d hA
    rw [e1]; exact hb τ (d + 1) e2
  · refine ⟨n + 1, fun j => if j = 0 then 0 else f (j - 1), .inr ⟨r, h1, fun τ d hA => ?_, h3⟩⟩
    obtain ⟨e1, e2⟩ := hrun τ d hA
    rw [e1, h2 τ (d + 1) e2, Nat.add_assoc, Nat.add_comm 1 n]
theorem sims_stringish {a : Addr} : Sims P S Over (stringish a) (stringish a) := by
  have hz : ∀ k, Sims P S Over (frozen k) (frozen k) := fun k => by
    have := sims_frozen (P := P) (S := S) (M := Over) (a := k) (k' := pure) (k := pure) (Sims.pure id) (Sims.pure id) (Sims.pure fun _ => rfl)
    simpa using this
  have hrest : Sims P S Over (shape a.block >>= fun x => match x with | some (_, n) => frozen { block := a.block, off := n } | none => pure false) (shape a.block >>= fun x => match x with | some (_, n) => frozen { block := a.block, off := n } | none => pure false) := by
    refine Sims.bind sq5 fun x y hxy => ?_
    obtain ⟨rfl, _⟩ := hxy
    split
    · exact hz _
    · exact Sims.pure id
  unfold stringish
  refine sims_frozen (Sims.pure id) hrest (sims_still fun w => ?_)
  have e1 : ∀ es, Sem.events P (shape a.block >>= fun x => match x with | some (_, n) => frozen { block := a.block, off := n } | none => pure false) w es = Sem.events P (match w.shape? a.block with | some (_, n) => frozen { block := a.block, off := n } | none => pure false) w es := fun _ => rfl
  have e2 : Sem.run P (shape a.block >>= fun x => match x with | some (_, n) => frozen { block := a.block, off := n } | none => pure false) w = Sem.run P (match w.shape? a.block with | some (_, n) => frozen { block := a.block, off := n } | none => pure false) w := rfl
  show ∃ b, Sem.run P (shape a.block >>= fun x => match x with | some (_, n) => frozen { block := a.block, off := n } | none => pure false) w = .ok b w ∧ Over true b ∧ ∀ es, Sem.events P (shape a.block >>= fun x => match x with | some (_, n) => frozen { block := a.block, off := n } | none => pure false) w es = es
  rw [e2]
  simp only [e1]
  cases w.shape? a.block with
  | none => exact ⟨false, rfl, fun _ => rfl, fun _ => rfl⟩
  | some v => exact ⟨w.frozen? { block := a.block, off := v.2 }, rfl, fun _ => rfl, fun _ => rfl⟩
theorem sims_mayBeOne {a b : Addr} : Sims P S Over (mayBeOne a b) (mayBeOne a b) := by
  unfold mayBeOne
  dsimp only
  refine sims_stringish.bind fun x1 y1 h1 => sims_stringish.bind fun x2 y2 h2 => ?_
  refine Sims.bind (Sim.bind (N := fun _ => True) (M := fun _ => True) sq5 fun _ _ => Sim.pure trivial) fun u u' hu => ?_
  obtain ⟨rfl, _⟩ := hu
  refine Sims.bind (Sim.bind (N := fun _ => True) (M := fun _ => True) sq5 fun _ _ => Sim.pure trivial) fun v v' hv => ?_
  obtain ⟨rfl, _⟩ := hv
  refine Sims.pure fun h => ?_
  cases y1 <;> cases y2 <;> cases u <;> cases v <;> simp_all [Over]
theorem sq36 {a b : Addr} : Sim P S (fun _ => True) (sameAddr a b) := by
  have hend : Sim P S (fun _ => True) (do
      noView a
      noView b
      if ← mayBeOne a b then return (← choose (.extern "sameAddr.stringBytes" 2)) == 1
      pure false : Sem Bool) := by
    refine sq22.bind fun _ _ => sq22.bind fun _ _ => sims_mayBeOne.bind fun x y h => ?_
    cases y with
    | true => obtain rfl := h rfl; exact sq20.bind fun n _ => Sim.pure trivial
    | false =>
      cases x with
      | false => exact Sim.pure trivial
      | true =>
        simp only [if_true, Bool.false_eq_true, if_false]
        exact sims_told rfl (Sims.pure ⟨rfl, trivial⟩)
  unfold sameAddr
  split
  · exact Sim.pure trivial
  · dsimp only
    have hd : ∀ {t : Sem Bool}, Sims P S (Eqs fun _ => True) (unsupported Unsupported.addressObserved >>= fun (_ : Unit) => (do
      noView a
      noView b
      if ← mayBeOne a b then return (← choose (.extern "sameAddr.stringBytes" 2)) == 1
      pure false : Sem Bool)) t := sims_doom fun w => ⟨_, w, rfl, trivial⟩
    refine sims_frozen (sims_frozen hd hend ?_) (sims_frozen hend hend hend) (sims_frozen ?_ hend ?_)
    · exact hd
    · exact hd
    · exact hd
end
end Go.Proofs.Ytecmobjiepgfjaa
