/- The contracts of package cell, called free (by a thread that is nil): what each call answers and what it does to the cell's block. Condition: the pointer leads to a cell that New made (IsCell). -/
import Derived.Test.YtdbllffkpkkggaaLocks
import Derived.WalkKit
import Derived.WalkSpells
import Derived.WalkLawsBesides
import Derived.Lib.Hide
namespace Go.Proofs.Ytdbllffkpkkggaa
open Go.RowKit Go.MuLone

/-- Block b is a cell that holds x, made by New, nobody asleep, its lock free. -/
def IsCell (w : World) (b : Nat) (x : Int) : Prop := w.heap[b]? = some (.cells #[.int .i64 x, .bool true, .int .i32 0, .int .u32 0, .chan none] 56 (0, 0))

theorem IsCell.c0 {w : World} {b : Nat} {x : Int} (h : IsCell w b x) : w.cell? ⟨b, 0, none⟩ = some (.int .i64 x) := by simp only [IsCell] at h; simp [World.cell?, h]
theorem IsCell.c1 {w : World} {b : Nat} {x : Int} (h : IsCell w b x) : w.cell? ⟨b, 1, none⟩ = some (.bool true) := by simp only [IsCell] at h; simp [World.cell?, h]
theorem IsCell.c2 {w : World} {b : Nat} {x : Int} (h : IsCell w b x) : w.cell? ⟨b, 2, none⟩ = some (.int .i32 0) := by simp only [IsCell] at h; simp [World.cell?, h]
theorem IsCell.c4 {w : World} {b : Nat} {x : Int} (h : IsCell w b x) : w.cell? ⟨b, 4, none⟩ = some (.chan none) := by simp only [IsCell] at h; simp [World.cell?, h]
theorem IsCell.fz {w : World} {b : Nat} {x : Int} (h : IsCell w b x) (i : Nat) : w.frozen? ⟨b, i, none⟩ = false := by simp only [IsCell] at h; simp [World.frozen?, h]

theorem none_no (b : Nat) (x : Int) (w : World) (h : IsCell w b x) :
    Calls Try.prog 23 #[.pointer (some ⟨b, 0, none⟩)] w fun e w' => e = .returned (.bool false) ∧ w = w' := by
  have h1 := h.c1
  clear h
  go_enter Try.func23, Try.ntmps23
  go_wp2
  go_ret
  exact ⟨rfl, rfl⟩
theorem live_nil (w : World) :
    Calls Try.prog 24 #[.pointer none] w fun e w' => e = .returned (.bool false) ∧ w = w' := by
  go_enter Try.func24, Try.ntmps24
  go_wp2
  go_ret
  exact ⟨rfl, rfl⟩

def cellSet (w : World) (b : Nat) (y : Int) : World := w.setCell ⟨b, 0, none⟩ (.int .i64 y)
theorem IsCell.set {w : World} {b : Nat} {x : Int} (h : IsCell w b x) (y : Int) : IsCell (w.setCell ⟨b, 0, none⟩ (.int .i64 y)) b y := by
  simp only [IsCell] at h ⊢
  simp [World.setCell, Array.getElem?_modify, h]
theorem heap_set (w : World) (a : Addr) (v : Value) (hs : a.spot = none) {cs : Array Value} {t : TypeId} {fr : Nat × Nat} (h : w.heap[a.block]? = some (.cells cs t fr)) :
    (w.setCell a v).heap[a.block]? = some (.cells (cs.setIfInBounds a.off v) t fr) := by
  simp [World.setCell, Array.getElem?_modify, h, hs]
theorem cheap_set_ne (w : World) (a : Addr) (v : Value) (b : Nat) (h : a.block ≠ b) : (w.setCell a v).heap[b]? = w.heap[b]? := by
  simp [World.setCell, Array.getElem?_modify, h]
theorem setCell_rest (w : World) (a : Addr) (v : Value) : w.setCell a v = { w with heap := (w.setCell a v).heap } := rfl
/-- The lock taken and given back: the block is as it was. -/
theorem lock_unlock {w : World} {b : Nat} {x : Int} (h : IsCell w b x) : (w.setCell ⟨b, 2, none⟩ (.int .i32 1)).setCell ⟨b, 2, none⟩ (.int .i32 0) = w := by
  simp only [IsCell] at h
  have e : ((w.setCell ⟨b, 2, none⟩ (.int .i32 1)).setCell ⟨b, 2, none⟩ (.int .i32 0)).heap = w.heap := by
    apply Array.ext_getElem?
    intro i
    by_cases hi : b = i
    · subst hi
      rw [heap_set _ ⟨b, 2, none⟩ _ rfl (heap_set _ ⟨b, 2, none⟩ _ rfl h), h]
      rfl
    · rw [cheap_set_ne _ _ _ _ hi, cheap_set_ne _ _ _ _ hi]
  rw [setCell_rest, e]
  rfl

theorem a_store (b : Nat) (x y : Int) (w : World) (h : IsCell w b x) :
    Calls Try.prog 12 #[.pointer (some ⟨b, 0, none⟩), .int .i64 y] w fun e w' => e = .returned (.tuple #[]) ∧ w.setCell ⟨b, 0, none⟩ (.int .i64 y) = w' := by
  have h0 := h.c0
  have f0 := h.fz 0
  have hs := run_call_store (P := Try.prog) Try.func22 (by kernel_rfl) (by kernel_rfl) (by kernel_rfl) (by kernel_rfl) (k := .i64) (y := y) h0 f0
  clear h
  go_enter Try.func12, Try.ntmps12
  go_wp2
  go_end0
  exact ⟨rfl, rfl⟩
theorem a_load (b : Nat) (x : Int) (w : World) (h : IsCell w b x) :
    Calls Try.prog 26 #[.pointer (some ⟨b, 0, none⟩)] w fun e w' => e = .returned (.int .i64 x) ∧ w = w' := by
  have h0 := h.c0
  have hs := run_call_load (P := Try.prog) Try.func34 (by kernel_rfl) (by kernel_rfl) (by kernel_rfl) .i64 (by kernel_rfl) h0
  clear h
  go_enter Try.func26, Try.ntmps26
  go_wp2
  go_ret
  exact ⟨rfl, rfl⟩
theorem a_add (b : Nat) (x d : Int) (w : World) (h : IsCell w b x) :
    Calls Try.prog 29 #[.pointer (some ⟨b, 0, none⟩), .int .i64 d] w fun e w' => e = .returned (.int .i64 (wrap64 (x + d))) ∧ w.setCell ⟨b, 0, none⟩ (.int .i64 (wrap64 (x + d))) = w' := by
  have h0 := h.c0
  have f0 := h.fz 0
  have hs := run_call_add (P := Try.prog) Try.func38 (by kernel_rfl) (by kernel_rfl) (by kernel_rfl) .i64 (by kernel_rfl) (y := d) (s := wrap64 (x + d)) h0 f0 (by simp [go_sem, wrap64, IntKind.wrap_i64])
  clear h
  go_enter Try.func29, Try.ntmps29
  go_wp2
  go_ret
  exact ⟨rfl, rfl⟩
/-- sync/atomic.SwapT: the new number is stored; what was there comes back. -/
theorem run_call_swap {P : Program} {f : FuncId} {fn : Func} (hf : P.funcs[f]? = some fn) (hname : (fn.name == "runtime.NumGoroutine") = false) (hb : fn.body.isNone = true) (hn : Extern.findNext fn = none) (k : IntKind)
    (he : Extern.find fn = some (Extern.Atomic.swapT (.int k))) {a : Addr} {x y : Int} {w : World} (hc : w.cell? a = some (.int k x)) (hz : w.frozen? a = false) :
    (callFunc f #[.pointer (some a), .int k y]).run P w = .ok (.value (.int k x)) (w.setCell a (.int k y)) := by
  rw [run_callFunc_extern hf hname hb hn he]
  change (Sem.run P (do
    let a' ← asAddr (.pointer (some a))
    let old ← Extern.Atomic.read (.int k) a'
    store a' (.int k y) .atomic
    pure old) w).andThen _ = _
  simp [Extern.Atomic.read, asAddr, hc, hz, run_store P w a (.int k y) .atomic rfl, Result.andThen]
theorem a_cas_hit (b : Nat) (x y : Int) (w : World) (h : IsCell w b x) :
    Calls Try.prog 27 #[.pointer (some ⟨b, 0, none⟩), .int .i64 x, .int .i64 y] w fun e w' => e = .returned (.bool true) ∧ w.setCell ⟨b, 0, none⟩ (.int .i64 y) = w' := by
  have h0 := h.c0
  have f0 := h.fz 0
  have hs := run_call_cas_hit (P := Try.prog) Try.func35 (by kernel_rfl) (by kernel_rfl) (by kernel_rfl) .i64 (by kernel_rfl) (y := y) h0 f0
  clear h
  go_enter Try.func27, Try.ntmps27
  go_wp2
  go_ret
  exact ⟨rfl, rfl⟩
theorem a_cas_miss (b : Nat) (x o y : Int) (w : World) (h : IsCell w b x) (hne : ¬ x = o) :
    Calls Try.prog 27 #[.pointer (some ⟨b, 0, none⟩), .int .i64 o, .int .i64 y] w fun e w' => e = .returned (.bool false) ∧ w = w' := by
  have h0 := h.c0
  have f0 := h.fz 0
  have hs := run_call_cas_miss (P := Try.prog) Try.func35 (by kernel_rfl) (by kernel_rfl) (by kernel_rfl) .i64 (by kernel_rfl) (o := o) (y := y) h0 f0 hne
  clear h hne
  go_enter Try.func27, Try.ntmps27
  go_wp2
  go_ret
  exact ⟨rfl, rfl⟩

set_option maxRecDepth 100000 in
theorem wakes_none (b : Nat) (x : Int) (w : World) (h : IsCell w b x) :
    Calls Try.prog 28 #[.pointer (some ⟨b, 0, none⟩)] w fun e w' => e = .returned (.tuple #[]) ∧ w = w' := by
  have h2 := h.c2
  have h4 := h.c4
  have f2 := h.fz 2
  have E := Lib.hid (lock_unlock h)
  clear h
  have hne : ∀ w, (binOp BinOp.neq 54 (.chan none) (.chan none)).run Try.prog w = .ok (.bool false) w := fun _ => by kernel_rfl
  go_enter_defers Try.func28, Try.ntmps28
  go_wp2_with fail
  refine (lock_free muLib ⟨b, 2, none⟩ _ h2 f2).mono ?_
  rintro e w' ⟨rfl, rfl⟩
  go_wp2
  refine leaves_cons (f := 37) (args := #[.pointer (some ⟨b, 2, none⟩)]) (by simp) (by simp [go_sem]) ?_
  refine (unlock_deferred muLib ⟨b, 2, none⟩ .returning _ ?_ ?_).mono ?_
  · exact World.cell?_setCell_same w ⟨b, 2, none⟩ (.int .i32 1) h2
  · simp [f2]
  rintro e u' w'' ⟨rfl, rfl, rfl⟩
  exact ⟨_, results_none rfl _ _ _, rfl, E.out.symm⟩

theorem cell_load (b : Nat) (x : Int) (w : World) (h : IsCell w b x) :
    Calls Try.prog 14 #[.pointer (some ⟨b, 0, none⟩), .pointer none] w fun e w' => e = .returned (.int .i64 x) ∧ w = w' := by
  have H := Lib.hid h
  clear h
  go_enter Try.func14, Try.ntmps14
  go_wp2_with (first | (go_at_call 23; refine (none_no b x _ H.out).mono ?_; rintro e w' ⟨rfl, rfl⟩) | (go_at_call 24; refine (live_nil _).mono ?_; rintro e w' ⟨rfl, rfl⟩) | (go_at_call 26; refine (a_load b x _ H.out).mono ?_; rintro e w' ⟨rfl, rfl⟩))
  go_ret
  exact ⟨rfl, rfl⟩
theorem cell_store (b : Nat) (x y : Int) (w : World) (h : IsCell w b x) :
    Calls Try.prog 17 #[.pointer (some ⟨b, 0, none⟩), .pointer none, .int .i64 y] w fun e w' => e = .returned (.tuple #[]) ∧ w.setCell ⟨b, 0, none⟩ (.int .i64 y) = w' := by
  have H := Lib.hid h
  clear h
  go_enter Try.func17, Try.ntmps17
  go_wp2_with (first | (go_at_call 23; refine (none_no b x _ H.out).mono ?_; rintro e w' ⟨rfl, rfl⟩) | (go_at_call 24; refine (live_nil _).mono ?_; rintro e w' ⟨rfl, rfl⟩) | (go_at_call 12; refine (a_store b x y _ H.out).mono ?_; rintro e w' ⟨rfl, rfl⟩) | (go_at_call 28; refine (wakes_none b y _ (H.out.set y)).mono ?_; rintro e w' ⟨rfl, rfl⟩))
  go_end0
  exact ⟨rfl, rfl⟩
theorem cell_add (b : Nat) (x d : Int) (w : World) (h : IsCell w b x) :
    Calls Try.prog 18 #[.pointer (some ⟨b, 0, none⟩), .pointer none, .int .i64 d] w fun e w' => e = .returned (.int .i64 (wrap64 (x + d))) ∧ w.setCell ⟨b, 0, none⟩ (.int .i64 (wrap64 (x + d))) = w' := by
  have H := Lib.hid h
  clear h
  go_enter Try.func18, Try.ntmps18
  go_wp2_with (first | (go_at_call 23; refine (none_no b x _ H.out).mono ?_; rintro e w' ⟨rfl, rfl⟩) | (go_at_call 24; refine (live_nil _).mono ?_; rintro e w' ⟨rfl, rfl⟩) | (go_at_call 29; refine (a_add b x d _ H.out).mono ?_; rintro e w' ⟨rfl, rfl⟩) | (go_at_call 28; refine (wakes_none b _ _ (H.out.set _)).mono ?_; rintro e w' ⟨rfl, rfl⟩))
  go_ret
  exact ⟨rfl, rfl⟩
theorem cell_cas_hit (b : Nat) (x y : Int) (w : World) (h : IsCell w b x) :
    Calls Try.prog 16 #[.pointer (some ⟨b, 0, none⟩), .pointer none, .int .i64 x, .int .i64 y] w fun e w' => e = .returned (.bool true) ∧ w.setCell ⟨b, 0, none⟩ (.int .i64 y) = w' := by
  have H := Lib.hid h
  clear h
  go_enter Try.func16, Try.ntmps16
  go_wp2_with (first | (go_at_call 23; refine (none_no b x _ H.out).mono ?_; rintro e w' ⟨rfl, rfl⟩) | (go_at_call 24; refine (live_nil _).mono ?_; rintro e w' ⟨rfl, rfl⟩) | (go_at_call 27; refine (a_cas_hit b x y _ H.out).mono ?_; rintro e w' ⟨rfl, rfl⟩) | (go_at_call 28; refine (wakes_none b _ _ (H.out.set _)).mono ?_; rintro e w' ⟨rfl, rfl⟩))
  go_ret
  exact ⟨rfl, rfl⟩
theorem cell_cas_miss (b : Nat) (x o y : Int) (w : World) (h : IsCell w b x) (hne : ¬ x = o) :
    Calls Try.prog 16 #[.pointer (some ⟨b, 0, none⟩), .pointer none, .int .i64 o, .int .i64 y] w fun e w' => e = .returned (.bool false) ∧ w = w' := by
  have H := Lib.hid h
  have HN := Lib.hid hne
  clear h hne
  go_enter Try.func16, Try.ntmps16
  go_wp2_with (first | (go_at_call 23; refine (none_no b x _ H.out).mono ?_; rintro e w' ⟨rfl, rfl⟩) | (go_at_call 24; refine (live_nil _).mono ?_; rintro e w' ⟨rfl, rfl⟩) | (go_at_call 27; refine (a_cas_miss b x o y _ H.out HN.out).mono ?_; rintro e w' ⟨rfl, rfl⟩))
  go_ret
  exact ⟨rfl, rfl⟩
/-- What a new cell's block is. -/
def cellObj (x : Int) : Obj := .cells #[.int .i64 x, .bool true, .int .i32 0, .int .u32 0, .chan none] 56 (0, 0)
theorem isCell_new (w : World) (x : Int) : IsCell (w.alloc (cellObj x)) w.heap.size x := heap_alloc_new w _
theorem cell_new_set (w : World) (x : Int) : (w.alloc (cellObj 0)).setCell ⟨w.heap.size, 0, none⟩ (.int .i64 x) = w.alloc (cellObj x) := by
  unfold cellObj
  rw [World.setCell_alloc_at _ _ _ _ _ rfl]
  rfl
theorem cell_new (x : Int) (w : World) :
    Calls Try.prog 5 #[.int .i64 x] w fun e w' => e = .returned (.pointer (some ⟨w.heap.size, 0, none⟩)) ∧ w.alloc (cellObj x) = w' := by
  go_enter Try.func5, Try.ntmps5
  go_wp2_with fail
  refine (a_store w.heap.size 0 x _ (isCell_new w 0)).mono ?_
  rintro e w' ⟨rfl, rfl⟩
  go_wp2
  go_ret
  exact ⟨rfl, (cell_new_set w x).symm⟩
end Go.Proofs.Ytdbllffkpkkggaa
