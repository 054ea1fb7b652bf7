/- Joined of the texts JudgeV, JudgeVa; what each proves, and its conditions, stand ahead of it. -/
import Derived.Test.YtonnlgpjobfnmaaDoorRJudgeUb
import Derived.KernelRfl
import Derived.Test.YtonnlgpjobfnmaaDoorRFindA
/- The law's own 'lives'. Condition: Go's table of the powers of ten. -/
namespace Go.Proofs.YtonnlgpjobfnmaaDoor
open Go.RowKit
set_option maxRecDepth 100000
def liveL : List Acc := [⟨0, 8, -1, 5, 1, 0, 0, false⟩, ⟨1, 1, 0, 0, 0, 0, 0, false⟩, ⟨1, 8, -1, 5, 0, 0, 0, false⟩]
def liveM : List Acc := [⟨0, 8, -1, 5, 1, 0, 0, false⟩, ⟨0, 2, 0, 0, 0, 0, 0, false⟩, ⟨1, 1, 0, 0, 0, 0, 0, false⟩, ⟨1, 8, -1, 5, 0, 0, 0, false⟩]
def liveH (x : Int) : List Cal := [⟨1, 7, 0, 0, false, 0, 1⟩, ⟨2, 0, 0, x, true, 2, 3⟩]
theorem live_L : mayLog liveL = true ∧ racesOf liveL = [(0, 2)] := by decide
theorem live_M : mayLog liveM = true ∧ racesOf liveM = [] := by decide
theorem live_H : linOf 1 (liveH 7) = (some [0, 1], 0) := by kernel_rfl
theorem live_H8 : linOf 1 (liveH 8) = (none, 0) := by kernel_rfl
end Go.Proofs.YtonnlgpjobfnmaaDoor
/- A block that holds a whole log, a whole history; its copy. No conditions. -/
namespace Go.Proofs.YtonnlgpjobfnmaaDoor
open Go.RowKit
set_option maxRecDepth 100000
theorem flatMap_at {α : Type} {f : α → List Value} {s : Nat} (hf : ∀ a, (f a).length = s) : ∀ (L : List α) (i j : Nat) (a : α), L[i]? = some a → j < s → (L.flatMap f)[i * s + j]? = (f a)[j]? := by
  intro L
  induction L with
  | nil => intro i j a h; simp at h
  | cons x L ih =>
    intro i j a h hj
    rw [List.flatMap_cons]
    cases i with
    | zero =>
      simp only [List.getElem?_cons_zero, Option.some.injEq] at h
      subst h
      rw [Nat.zero_mul, Nat.zero_add, List.getElem?_append_left (by rw [hf]; exact hj)]
    | succ i =>
      simp only [List.getElem?_cons_succ] at h
      have e : (i + 1) * s + j = s + (i * s + j) := by rw [Nat.succ_mul]; omega
      rw [e, List.getElem?_append_right (by rw [hf]; omega), hf, Nat.add_sub_cancel_left]
      exact ih i j a h hj
theorem flatMap_len {α : Type} {f : α → List Value} {s : Nat} (hf : ∀ a, (f a).length = s) : ∀ (L : List α), (L.flatMap f).length = L.length * s
  | [] => by simp
  | x :: L => by rw [List.flatMap_cons, List.length_append, hf, flatMap_len hf L, List.length_cons, Nat.succ_mul, Nat.add_comm]
def accL (a : Acc) : List Value := [.int .i64 a.th, .int .i8 a.op, .int .i64 a.cell, .int .i64 a.arg, .int .i64 a.new, .int .i64 a.was, .int .i64 a.now, .bool a.ok]
def calL (c : Cal) : List Value := [.int .i8 c.op, .int .i64 c.arg, .int .i64 c.new, .int .i64 c.ans, .bool c.ok, .int .i64 c.beg, .int .i64 c.fin]
theorem accL_len (a : Acc) : (accL a).length = 8 := rfl
theorem calL_len (a : Cal) : (calL a).length = 7 := rfl
/-- A block whose first cells are the log. -/
theorem logAt_row {w : World} {g B : Nat} {L : List Acc} (hc : ∀ j u, (L.flatMap accL)[j]? = some u → w.cell? ⟨g, j, none⟩ = some u) (hB : g < B) (hwf : ∀ a, a ∈ L → a.wf) (hs : L.length ≤ 9223372036854775807) : LogAt w B (some ⟨g, 0, none⟩) L := by
  refine ⟨hs, hwf, fun i a ha => ⟨g, 0, rfl, hB, ?_⟩⟩
  have h := fun j (hj : j < 8) => flatMap_at accL_len L i j a ha hj
  have k : ∀ j, j < 8 → ∀ u, (accL a)[j]? = some u → w.cell? ⟨g, 0 + i * 8 + j, none⟩ = some u := fun j hj u hu => by
    rw [Nat.zero_add]
    exact hc _ _ ((h j hj).trans hu)
  exact ⟨k 0 (by omega) _ rfl, k 1 (by omega) _ rfl, k 2 (by omega) _ rfl, k 3 (by omega) _ rfl, k 4 (by omega) _ rfl, k 5 (by omega) _ rfl, k 6 (by omega) _ rfl, k 7 (by omega) _ rfl⟩
theorem callsAt_row {w : World} {g B : Nat} {L : List Cal} (hc : ∀ j u, (L.flatMap calL)[j]? = some u → w.cell? ⟨g, j, none⟩ = some u) (hB : g < B) (hwf : ∀ a, a ∈ L → a.wf) : CallsAt w B (some ⟨g, 0, none⟩) L := by
  refine ⟨hwf, fun i a ha => ⟨g, 0, rfl, hB, ?_⟩⟩
  have h := fun j (hj : j < 7) => flatMap_at calL_len L i j a ha hj
  have k : ∀ j, j < 7 → ∀ u, (calL a)[j]? = some u → w.cell? ⟨g, 0 + i * 7 + j, none⟩ = some u := fun j hj u hu => by
    rw [Nat.zero_add]
    exact hc _ _ ((h j hj).trans hu)
  exact ⟨k 0 (by omega) _ rfl, k 1 (by omega) _ rfl, k 2 (by omega) _ rfl, k 3 (by omega) _ rfl, k 4 (by omega) _ rfl, k 5 (by omega) _ rfl, k 6 (by omega) _ rfl⟩
theorem logAt_blk {w : World} {g B : Nat} {t : TypeId} {L : List Acc} (h : Blk w g t (L.flatMap accL).toArray) (hB : g < B) (hwf : ∀ a, a ∈ L → a.wf) (hs : L.length ≤ 9223372036854775807) : LogAt w B (some ⟨g, 0, none⟩) L :=
  logAt_row (fun j u hu => by rw [h.cell j]; simpa using hu) hB hwf hs
theorem callsAt_blk {w : World} {g B : Nat} {t : TypeId} {L : List Cal} (h : Blk w g t (L.flatMap calL).toArray) (hB : g < B) (hwf : ∀ a, a ∈ L → a.wf) : CallsAt w B (some ⟨g, 0, none⟩) L :=
  callsAt_row (fun j u hu => by rw [h.cell j]; simpa using hu) hB hwf
end Go.Proofs.YtonnlgpjobfnmaaDoor
