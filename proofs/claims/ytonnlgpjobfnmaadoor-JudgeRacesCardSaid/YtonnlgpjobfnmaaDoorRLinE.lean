/- An append onto a row of one's own: what was there before stands, also where the row moves. No conditions. -/
import Derived.Test.YtonnlgpjobfnmaaDoorRLinB
import Derived.Laws.AppendOwn
import Derived.Deep.AppendLies
namespace Go.Proofs.YtonnlgpjobfnmaaDoor
open Go.RowKit
theorem run_append_keep {P : Program} (w : World) (base : Nat) (t ty e : TypeId) (i : TypeInfo) (z : Value) (size bytes : Nat) (ht : P.underlying t = some (.slice e)) (hi : P.info? e = some i) (hz : i.zero = some z)
    (hsize : i.size = size) (hby : i.bytes = bytes) (hzs : z.cells.size = size) (hsz : 0 < size)
    (v : Value) (n : Nat) (xs : List Value) (hown : w.ownsRow base e size v n xs)
    (a : Addr) (m c : Nat) (news : List Value) (hl : news.length = m * size) (hnews : ∀ j u, news[j]? = some u → w.cell? (a.add j) = some u) (h1 : ∀ u ∈ news, u.oneCell' = true)
    (h63 : n + m ≤ maxLen) (hbytes : (n + m) * bytes ≤ 140737488355328) (hbase : base ≤ w.heap.size) :
    ∃ v' w', (Builtin.append_ #[t, t] ty #[v, .slice (some a) m c]).run P w = .ok v' w' ∧ w'.ownsRow base e size v' (n + m) (xs ++ news) ∧ w.grownBy w' v.ownBlock ∧
      (∀ q j, v.ownBlock = some q → j < n * size → w'.cell? ⟨q, j, none⟩ = w.cell? ⟨q, j, none⟩) ∧ (∀ q, v'.ownBlock = some q → v.ownBlock = some q ∨ w.heap.size ≤ q) ∧ (∀ q, v.ownBlock = some q → ∃ cs, w'.heap[q]? = some (.cells cs e (0, 0))) := by
  rcases hown.2 with ⟨rfl, rfl⟩ | ⟨g, cap, cur, rfl, hbg, hg, hnc, hcm, hcs, htake⟩
  · have hx : xs = [] := List.eq_nil_of_length_eq_zero (by simpa using hown.1)
    subst hx
    obtain ⟨v', w', hr, r1, r2, _⟩ := run_append_own (P := P) w w.heap.size t ty e i z size bytes ht hi hz hsize hby hzs hsz (.slice none 0 0) 0 [] (World.ownsRow_nil _ _ _ _) a m c news hl hnews h1 h63 hbytes (Nat.le_refl _)
    exact ⟨v', w', hr, own_mono r1 hbase, r2, fun q j hq => by simp [Value.ownBlock] at hq, fun q hq => .inr (r1.lt q hq).1, fun q hq => by simp [Value.ownBlock] at hq⟩
  · by_cases hroom : n + m ≤ cap
    · obtain ⟨v', w', hr, r1, r2, _⟩ := run_append_own (P := P) w base t ty e i z size bytes ht hi hz hsize hby hzs hsz _ n xs hown a m c news hl hnews h1 h63 hbytes hbase
      subst hsize
      have hfit : n * i.size + news.length ≤ cur.size := by rw [hl, hcs, ← Nat.add_mul]; exact Nat.mul_le_mul_right _ hroom
      have hr2 := run_append_room (P := P) w t ty e i ht hi g n cap cur hg a m c news hl hnews h1 hroom hfit
      rw [hr] at hr2
      injection hr2 with e1 e2
      subst e1
      have hx := hown.1
      refine ⟨_, w', hr, r1, r2, fun q j hq hj => ?_, fun q hq => .inl hq, fun q hq => ?_⟩
      rotate_left
      · have hq : g = q := by simpa [Value.ownBlock] using hq
        subst hq
        rcases r1.2 with ⟨e, _⟩ | ⟨g', cap', cur', e, _, hg', _⟩
        · cases e
        · injection e with e
          injection e with e
          injection e with e
          subst e
          exact ⟨cur', hg'⟩
      have hq : g = q := by simpa [Value.ownBlock] using hq
      subst hq
      have hj2 : j < (n + m) * i.size := by rw [Nat.add_mul]; omega
      rw [r1.cellAt j hj2, hown.cellAt j hj, List.getElem?_append_left (by omega)]
    · have holds : ∀ j u, xs[j]? = some u → w.cell? ((⟨g, 0, none⟩ : Addr).add j) = some u := hown.cells (g := g) rfl
      obtain ⟨v', w', hr, r1, r2⟩ := run_append_arg_grows (P := P) w t ty e i z size bytes ht hi hz hsize hby hzs hsz ⟨g, 0, none⟩ n cap xs hown.1 holds a m c news hl hnews (by omega) h63 hbytes
      refine ⟨v', w', hr, own_mono r1 hbase, ⟨r2.os, r2.tape, r2.output, r2.size, fun q hq _ => r2.block q hq (by simp)⟩, fun q j hq _ => ?_, fun q hq => .inr (r1.lt q hq).1, fun q hq => ?_⟩
      rotate_left
      · have hq : g = q := by simpa [Value.ownBlock] using hq
        subst hq
        exact ⟨cur, (r2.block g (Array.getElem?_eq_some_iff.1 hg).1 (by simp)).trans hg⟩
      have hq : g = q := by simpa [Value.ownBlock] using hq
      subst hq
      exact World.cell?_of_block (r2.block g (Array.getElem?_eq_some_iff.1 hg).1 (by simp))
theorem wpList_append_keep {P : Program} {w : World} {ops : Array Oper} {rest : List Oper} {o : Oper} {a : Act} {Q : Exit → Act → World → Prop} (hgd : o.guard = none) (s x : Operand) (t : TypeId)
    (ho : o.op = .call { callee := .builtin .append, args := #[s, x], argTypes := #[t, t] })
    (base : Nat) (e : TypeId) (i : TypeInfo) (z : Value) (size bytes : Nat) (ht : P.underlying t = some (.slice e)) (hi : P.info? e = some i) (hz : i.zero = some z)
    (hsize : i.size = size) (hby : i.bytes = bytes) (hzs : z.cells.size = size) (hsz : 0 < size)
    (v : Value) (n : Nat) (xs : List Value) (hs : a.eval s = v) (hown : w.ownsRow base e size v n xs)
    (ad : Addr) (m c : Nat) (news : List Value) (hx : a.eval x = .slice (some ad) m c) (hl : news.length = m * size) (hnews : ∀ j u, news[j]? = some u → w.cell? (ad.add j) = some u) (h1 : ∀ u ∈ news, u.oneCell' = true)
    (h63 : n + m ≤ maxLen) (hbytes : (n + m) * bytes ≤ 140737488355328) (hbase : base ≤ w.heap.size)
    (h : ∀ v' w', w'.ownsRow base e size v' (n + m) (xs ++ news) → w.grownBy w' v.ownBlock → (∀ q j, v.ownBlock = some q → j < n * size → w'.cell? ⟨q, j, none⟩ = w.cell? ⟨q, j, none⟩) → (∀ q, v'.ownBlock = some q → v.ownBlock = some q ∨ w.heap.size ≤ q) → (∀ q, v.ownBlock = some q → ∃ cs, w'.heap[q]? = some (.cells cs e (0, 0))) → wpList P ops Q rest (a.put o.dst v') w') : wpList P ops Q (o :: rest) a w := by
  refine wpList_plain hgd fun K hK => ?_
  obtain ⟨v', w', hr, r1, r2, r3, r4, r5⟩ := run_append_keep (P := P) w base t o.type e i z size bytes ht hi hz hsize hby hzs hsz v n xs hown ad m c news hl hnews h1 h63 hbytes hbase
  unfold Oper.wp
  simp [execOp, ho, resolve, invoke, builtin, hs, hx, hr, Result.andThen]
  exact hK _ _ (h v' w' r1 r2 r3 r4 r5)
end Go.Proofs.YtonnlgpjobfnmaaDoor
