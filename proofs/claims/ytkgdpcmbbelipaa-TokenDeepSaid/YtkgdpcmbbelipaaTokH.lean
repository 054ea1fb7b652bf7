/- The function that TokenDeep lays, and Cancel. Conditions: what the blocks hold. -/
import Derived.Test.YtkgdpcmbbelipaaTokG
namespace Go.Proofs.Ytkgdpcmbbelipaa
open Go.RowKit Go.MuLone
set_option maxRecDepth 100000

/-- What the functions write to: order, the row called, its n places. -/
def Book (w : World) (o c g n : Nat) (ord : Int) (ac : Array Value) : Prop := Blk w o 3 #[.int .i64 ord] ∧ Blk w c 44 #[.slice (some ⟨g, 0, none⟩) n n] ∧ Blk w g 3 ac ∧ ac.size = n
theorem called (o c i g n j : Nat) (ord : Nat) (ac : Array Value) (y : Int) (w : World) (h : Book w o c g n ord ac) (hi : Blk w i 3 #[.int .i64 j]) (hj : j < n) (ho : ord < 1000) (hog : o ≠ g) (hio : i ≠ o) :
    Calls Try.prog 15 #[.pointer none, .int .i64 y, .pointer (some ⟨o, 0, none⟩), .pointer (some ⟨c, 0, none⟩), .pointer (some ⟨i, 0, none⟩)] w fun e w' => e = .returned (.tuple #[]) ∧ (w.setCell ⟨o, 0, none⟩ (.int .i64 (ord + 1))).setCell ⟨g, j, none⟩ (.int .i64 (ord + 1)) = w' := by
  obtain ⟨h1, h2, h3, h4⟩ := h
  have nco : c ≠ o := Blk.ne_ h2 h1 (by decide)
  have o0 := h1.cell 0
  have of := h1.frozen 0
  have c0 := (h2.far (p := ⟨o, 0, none⟩) nco (.int .i64 ((ord : Int) + 1))).cell 0
  have g0 := (h3.far (p := ⟨o, 0, none⟩) (Ne.symm hog) (.int .i64 ((ord : Int) + 1))).cell j
  have gf := (h3.far (p := ⟨o, 0, none⟩) (Ne.symm hog) (.int .i64 ((ord : Int) + 1))).frozen j
  have W := wrap64_in ((ord : Int) + 1) (by omega)
  have i0 : (w.setCell ⟨o, 0, none⟩ (.int .i64 ((ord : Int) + 1))).cell? ⟨i, 0, none⟩ = some (.int .i64 j) := (hi.far (p := ⟨o, 0, none⟩) hio _).cell 0
  rw [Array.getElem?_eq_getElem (by omega)] at g0
  have hji : (j : Int) < n := by omega
  simp at o0 c0
  clear h1 h2 h3
  go_enter Try.func15, Try.ntmps15
  go_wp2
  go_end0
  exact ⟨rfl, rfl⟩
end Go.Proofs.Ytkgdpcmbbelipaa
