/- The bag's tests over no lists of a kind. (Printed by gen_nil.py.) Conditions: what the bag's cells hold. -/
import Derived.Test.YtonnlgpjobfnmaaDoorRLinB
namespace Go.Proofs.YtonnlgpjobfnmaaDoor
open Go.RowKit
set_option maxRecDepth 100000
def NilRel (w0 : World) (i : Value) (wr : World) : Prop := i = .int .i64 0 ∧ wr = w0
def ApartSame (w : World) (e : Ending) (w' : World) : Prop := e = .returned (.bool true) ∧ w' = w
set_option maxHeartbeats 800000 in
theorem nilBytes (bg : Nat) (w : World) (hc : w.cell? ⟨bg, 0, none⟩ = some (.slice none 0 0)) : Calls Tryd.prog 49 #[.pointer (some ⟨bg, 0, none⟩)] w (ApartSame w) := by
  go_enter Tryd.func49, Tryd.ntmps49
  go_wp2_with fail
  go_loopw [3] (fun i wr => NilRel w i wr) (fun _ _ => 0)
  case atStart => exact ⟨rfl, rfl⟩
  case round =>
    obtain ⟨rfl, rfl⟩ := hrel
    go_wp2_with fail
    go_loopw [7, 6] (fun i v x => NilRel wr i x ∧ v = .slice none 0 0) (fun _ _ _ => 0)
    case atStart => exact ⟨⟨rfl, rfl⟩, rfl⟩
    case round =>
      obtain ⟨⟨rfl, rfl⟩, rfl⟩ := hrel
      go_wp2_with fail
      go_loopw [10] (fun i x => NilRel wr i x) (fun _ _ => 0)
      case atStart => exact ⟨rfl, rfl⟩
      case round =>
        obtain ⟨rfl, rfl⟩ := hrel
        go_wp2_with fail
        go_ret
        exact ⟨rfl, rfl⟩
set_option maxHeartbeats 800000 in
theorem nilInts (bg : Nat) (w : World) (hc : w.cell? ⟨bg, 1, none⟩ = some (.slice none 0 0)) : Calls Tryd.prog 50 #[.pointer (some ⟨bg, 0, none⟩)] w (ApartSame w) := by
  go_enter Tryd.func50, Tryd.ntmps50
  go_wp2_with fail
  go_loopw [3] (fun i wr => NilRel w i wr) (fun _ _ => 0)
  case atStart => exact ⟨rfl, rfl⟩
  case round =>
    obtain ⟨rfl, rfl⟩ := hrel
    go_wp2_with fail
    go_loopw [7, 6] (fun i v x => NilRel wr i x ∧ v = .slice none 0 0) (fun _ _ _ => 0)
    case atStart => exact ⟨⟨rfl, rfl⟩, rfl⟩
    case round =>
      obtain ⟨⟨rfl, rfl⟩, rfl⟩ := hrel
      go_wp2_with fail
      go_loopw [10] (fun i x => NilRel wr i x) (fun _ _ => 0)
      case atStart => exact ⟨rfl, rfl⟩
      case round =>
        obtain ⟨rfl, rfl⟩ := hrel
        go_wp2_with fail
        go_ret
        exact ⟨rfl, rfl⟩
set_option maxHeartbeats 800000 in
theorem nilLongs (bg : Nat) (w : World) (hc : w.cell? ⟨bg, 2, none⟩ = some (.slice none 0 0)) : Calls Tryd.prog 51 #[.pointer (some ⟨bg, 0, none⟩)] w (ApartSame w) := by
  go_enter Tryd.func51, Tryd.ntmps51
  go_wp2_with fail
  go_loopw [3] (fun i wr => NilRel w i wr) (fun _ _ => 0)
  case atStart => exact ⟨rfl, rfl⟩
  case round =>
    obtain ⟨rfl, rfl⟩ := hrel
    go_wp2_with fail
    go_loopw [7, 6] (fun i v x => NilRel wr i x ∧ v = .slice none 0 0) (fun _ _ _ => 0)
    case atStart => exact ⟨⟨rfl, rfl⟩, rfl⟩
    case round =>
      obtain ⟨⟨rfl, rfl⟩, rfl⟩ := hrel
      go_wp2_with fail
      go_loopw [10] (fun i x => NilRel wr i x) (fun _ _ => 0)
      case atStart => exact ⟨rfl, rfl⟩
      case round =>
        obtain ⟨rfl, rfl⟩ := hrel
        go_wp2_with fail
        go_ret
        exact ⟨rfl, rfl⟩
set_option maxHeartbeats 800000 in
theorem nilSmalls (bg : Nat) (w : World) (hc : w.cell? ⟨bg, 3, none⟩ = some (.slice none 0 0)) : Calls Tryd.prog 52 #[.pointer (some ⟨bg, 0, none⟩)] w (ApartSame w) := by
  go_enter Tryd.func52, Tryd.ntmps52
  go_wp2_with fail
  go_loopw [3] (fun i wr => NilRel w i wr) (fun _ _ => 0)
  case atStart => exact ⟨rfl, rfl⟩
  case round =>
    obtain ⟨rfl, rfl⟩ := hrel
    go_wp2_with fail
    go_loopw [7, 6] (fun i v x => NilRel wr i x ∧ v = .slice none 0 0) (fun _ _ _ => 0)
    case atStart => exact ⟨⟨rfl, rfl⟩, rfl⟩
    case round =>
      obtain ⟨⟨rfl, rfl⟩, rfl⟩ := hrel
      go_wp2_with fail
      go_loopw [10] (fun i x => NilRel wr i x) (fun _ _ => 0)
      case atStart => exact ⟨rfl, rfl⟩
      case round =>
        obtain ⟨rfl, rfl⟩ := hrel
        go_wp2_with fail
        go_ret
        exact ⟨rfl, rfl⟩
set_option maxHeartbeats 800000 in
theorem nilBools (bg : Nat) (w : World) (hc : w.cell? ⟨bg, 4, none⟩ = some (.slice none 0 0)) : Calls Tryd.prog 53 #[.pointer (some ⟨bg, 0, none⟩)] w (ApartSame w) := by
  go_enter Tryd.func53, Tryd.ntmps53
  go_wp2_with fail
  go_loopw [3] (fun i wr => NilRel w i wr) (fun _ _ => 0)
  case atStart => exact ⟨rfl, rfl⟩
  case round =>
    obtain ⟨rfl, rfl⟩ := hrel
    go_wp2_with fail
    go_loopw [7, 6] (fun i v x => NilRel wr i x ∧ v = .slice none 0 0) (fun _ _ _ => 0)
    case atStart => exact ⟨⟨rfl, rfl⟩, rfl⟩
    case round =>
      obtain ⟨⟨rfl, rfl⟩, rfl⟩ := hrel
      go_wp2_with fail
      go_loopw [10] (fun i x => NilRel wr i x) (fun _ _ => 0)
      case atStart => exact ⟨rfl, rfl⟩
      case round =>
        obtain ⟨rfl, rfl⟩ := hrel
        go_wp2_with fail
        go_ret
        exact ⟨rfl, rfl⟩
set_option maxHeartbeats 800000 in
theorem nilTexts (bg : Nat) (w : World) (hc : w.cell? ⟨bg, 5, none⟩ = some (.slice none 0 0)) : Calls Tryd.prog 54 #[.pointer (some ⟨bg, 0, none⟩)] w (ApartSame w) := by
  go_enter Tryd.func54, Tryd.ntmps54
  go_wp2_with fail
  go_loopw [3] (fun i wr => NilRel w i wr) (fun _ _ => 0)
  case atStart => exact ⟨rfl, rfl⟩
  case round =>
    obtain ⟨rfl, rfl⟩ := hrel
    go_wp2_with fail
    go_loopw [7, 6] (fun i v x => NilRel wr i x ∧ v = .slice none 0 0) (fun _ _ _ => 0)
    case atStart => exact ⟨⟨rfl, rfl⟩, rfl⟩
    case round =>
      obtain ⟨⟨rfl, rfl⟩, rfl⟩ := hrel
      go_wp2_with fail
      go_loopw [10] (fun i x => NilRel wr i x) (fun _ _ => 0)
      case atStart => exact ⟨rfl, rfl⟩
      case round =>
        obtain ⟨rfl, rfl⟩ := hrel
        go_wp2_with fail
        go_ret
        exact ⟨rfl, rfl⟩
set_option maxHeartbeats 800000 in
theorem nilAccesses (bg : Nat) (w : World) (hc : w.cell? ⟨bg, 6, none⟩ = some (.slice none 0 0)) : Calls Tryd.prog 55 #[.pointer (some ⟨bg, 0, none⟩)] w (ApartSame w) := by
  go_enter Tryd.func55, Tryd.ntmps55
  go_wp2_with fail
  go_loopw [3] (fun i wr => NilRel w i wr) (fun _ _ => 0)
  case atStart => exact ⟨rfl, rfl⟩
  case round =>
    obtain ⟨rfl, rfl⟩ := hrel
    go_wp2_with fail
    go_loopw [7, 6] (fun i v x => NilRel wr i x ∧ v = .slice none 0 0) (fun _ _ _ => 0)
    case atStart => exact ⟨⟨rfl, rfl⟩, rfl⟩
    case round =>
      obtain ⟨⟨rfl, rfl⟩, rfl⟩ := hrel
      go_wp2_with fail
      go_loopw [10] (fun i x => NilRel wr i x) (fun _ _ => 0)
      case atStart => exact ⟨rfl, rfl⟩
      case round =>
        obtain ⟨rfl, rfl⟩ := hrel
        go_wp2_with fail
        go_ret
        exact ⟨rfl, rfl⟩
set_option maxHeartbeats 800000 in
theorem nilCalls (bg : Nat) (w : World) (hc : w.cell? ⟨bg, 7, none⟩ = some (.slice none 0 0)) : Calls Tryd.prog 56 #[.pointer (some ⟨bg, 0, none⟩)] w (ApartSame w) := by
  go_enter Tryd.func56, Tryd.ntmps56
  go_wp2_with fail
  go_loopw [3] (fun i wr => NilRel w i wr) (fun _ _ => 0)
  case atStart => exact ⟨rfl, rfl⟩
  case round =>
    obtain ⟨rfl, rfl⟩ := hrel
    go_wp2_with fail
    go_loopw [7, 6] (fun i v x => NilRel wr i x ∧ v = .slice none 0 0) (fun _ _ _ => 0)
    case atStart => exact ⟨⟨rfl, rfl⟩, rfl⟩
    case round =>
      obtain ⟨⟨rfl, rfl⟩, rfl⟩ := hrel
      go_wp2_with fail
      go_loopw [10] (fun i x => NilRel wr i x) (fun _ _ => 0)
      case atStart => exact ⟨rfl, rfl⟩
      case round =>
        obtain ⟨rfl, rfl⟩ := hrel
        go_wp2_with fail
        go_ret
        exact ⟨rfl, rfl⟩
set_option maxHeartbeats 800000 in
theorem nilRaces (bg : Nat) (w : World) (hc : w.cell? ⟨bg, 8, none⟩ = some (.slice none 0 0)) : Calls Tryd.prog 57 #[.pointer (some ⟨bg, 0, none⟩)] w (ApartSame w) := by
  go_enter Tryd.func57, Tryd.ntmps57
  go_wp2_with fail
  go_loopw [3] (fun i wr => NilRel w i wr) (fun _ _ => 0)
  case atStart => exact ⟨rfl, rfl⟩
  case round =>
    obtain ⟨rfl, rfl⟩ := hrel
    go_wp2_with fail
    go_loopw [7, 6] (fun i v x => NilRel wr i x ∧ v = .slice none 0 0) (fun _ _ _ => 0)
    case atStart => exact ⟨⟨rfl, rfl⟩, rfl⟩
    case round =>
      obtain ⟨⟨rfl, rfl⟩, rfl⟩ := hrel
      go_wp2_with fail
      go_loopw [10] (fun i x => NilRel wr i x) (fun _ _ => 0)
      case atStart => exact ⟨rfl, rfl⟩
      case round =>
        obtain ⟨rfl, rfl⟩ := hrel
        go_wp2_with fail
        go_ret
        exact ⟨rfl, rfl⟩
set_option maxHeartbeats 800000 in
theorem nilFlowNodes (bg : Nat) (w : World) (hc : w.cell? ⟨bg, 9, none⟩ = some (.slice none 0 0)) : Calls Tryd.prog 58 #[.pointer (some ⟨bg, 0, none⟩)] w (ApartSame w) := by
  go_enter Tryd.func58, Tryd.ntmps58
  go_wp2_with fail
  go_loopw [3] (fun i wr => NilRel w i wr) (fun _ _ => 0)
  case atStart => exact ⟨rfl, rfl⟩
  case round =>
    obtain ⟨rfl, rfl⟩ := hrel
    go_wp2_with fail
    go_loopw [7, 6] (fun i v x => NilRel wr i x ∧ v = .slice none 0 0) (fun _ _ _ => 0)
    case atStart => exact ⟨⟨rfl, rfl⟩, rfl⟩
    case round =>
      obtain ⟨⟨rfl, rfl⟩, rfl⟩ := hrel
      go_wp2_with fail
      go_loopw [10] (fun i x => NilRel wr i x) (fun _ _ => 0)
      case atStart => exact ⟨rfl, rfl⟩
      case round =>
        obtain ⟨rfl, rfl⟩ := hrel
        go_wp2_with fail
        go_ret
        exact ⟨rfl, rfl⟩
set_option maxHeartbeats 800000 in
theorem nilEnds (bg : Nat) (w : World) (hc : w.cell? ⟨bg, 10, none⟩ = some (.slice none 0 0)) : Calls Tryd.prog 59 #[.pointer (some ⟨bg, 0, none⟩)] w (ApartSame w) := by
  go_enter Tryd.func59, Tryd.ntmps59
  go_wp2_with fail
  go_loopw [3] (fun i wr => NilRel w i wr) (fun _ _ => 0)
  case atStart => exact ⟨rfl, rfl⟩
  case round =>
    obtain ⟨rfl, rfl⟩ := hrel
    go_wp2_with fail
    go_loopw [7, 6] (fun i v x => NilRel wr i x ∧ v = .slice none 0 0) (fun _ _ _ => 0)
    case atStart => exact ⟨⟨rfl, rfl⟩, rfl⟩
    case round =>
      obtain ⟨⟨rfl, rfl⟩, rfl⟩ := hrel
      go_wp2_with fail
      go_loopw [10] (fun i x => NilRel wr i x) (fun _ _ => 0)
      case atStart => exact ⟨rfl, rfl⟩
      case round =>
        obtain ⟨rfl, rfl⟩ := hrel
        go_wp2_with fail
        go_ret
        exact ⟨rfl, rfl⟩
set_option maxHeartbeats 800000 in
theorem nilRows (bg : Nat) (w : World) (hc : w.cell? ⟨bg, 11, none⟩ = some (.slice none 0 0)) : Calls Tryd.prog 60 #[.pointer (some ⟨bg, 0, none⟩)] w (ApartSame w) := by
  go_enter Tryd.func60, Tryd.ntmps60
  go_wp2_with fail
  go_loopw [3] (fun i wr => NilRel w i wr) (fun _ _ => 0)
  case atStart => exact ⟨rfl, rfl⟩
  case round =>
    obtain ⟨rfl, rfl⟩ := hrel
    go_wp2_with fail
    go_loopw [7, 6] (fun i v x => NilRel wr i x ∧ v = .slice none 0 0) (fun _ _ _ => 0)
    case atStart => exact ⟨⟨rfl, rfl⟩, rfl⟩
    case round =>
      obtain ⟨⟨rfl, rfl⟩, rfl⟩ := hrel
      go_wp2_with fail
      go_loopw [10] (fun i x => NilRel wr i x) (fun _ _ => 0)
      case atStart => exact ⟨rfl, rfl⟩
      case round =>
        obtain ⟨rfl, rfl⟩ := hrel
        go_wp2_with fail
        go_ret
        exact ⟨rfl, rfl⟩
set_option maxHeartbeats 800000 in
theorem nilLongRows (bg : Nat) (w : World) (hc : w.cell? ⟨bg, 12, none⟩ = some (.slice none 0 0)) : Calls Tryd.prog 61 #[.pointer (some ⟨bg, 0, none⟩)] w (ApartSame w) := by
  go_enter Tryd.func61, Tryd.ntmps61
  go_wp2_with fail
  go_loopw [3] (fun i wr => NilRel w i wr) (fun _ _ => 0)
  case atStart => exact ⟨rfl, rfl⟩
  case round =>
    obtain ⟨rfl, rfl⟩ := hrel
    go_wp2_with fail
    go_loopw [7, 6] (fun i v x => NilRel wr i x ∧ v = .slice none 0 0) (fun _ _ _ => 0)
    case atStart => exact ⟨⟨rfl, rfl⟩, rfl⟩
    case round =>
      obtain ⟨⟨rfl, rfl⟩, rfl⟩ := hrel
      go_wp2_with fail
      go_loopw [10] (fun i x => NilRel wr i x) (fun _ _ => 0)
      case atStart => exact ⟨rfl, rfl⟩
      case round =>
        obtain ⟨rfl, rfl⟩ := hrel
        go_wp2_with fail
        go_ret
        exact ⟨rfl, rfl⟩
set_option maxHeartbeats 800000 in
theorem nilLets (bg : Nat) (w : World) (hc : w.cell? ⟨bg, 13, none⟩ = some (.slice none 0 0)) : Calls Tryd.prog 62 #[.pointer (some ⟨bg, 0, none⟩)] w (ApartSame w) := by
  go_enter Tryd.func62, Tryd.ntmps62
  go_wp2_with fail
  go_loopw [3] (fun i wr => NilRel w i wr) (fun _ _ => 0)
  case atStart => exact ⟨rfl, rfl⟩
  case round =>
    obtain ⟨rfl, rfl⟩ := hrel
    go_wp2_with fail
    go_loopw [7, 6] (fun i v x => NilRel wr i x ∧ v = .slice none 0 0) (fun _ _ _ => 0)
    case atStart => exact ⟨⟨rfl, rfl⟩, rfl⟩
    case round =>
      obtain ⟨⟨rfl, rfl⟩, rfl⟩ := hrel
      go_wp2_with fail
      go_loopw [10] (fun i x => NilRel wr i x) (fun _ _ => 0)
      case atStart => exact ⟨rfl, rfl⟩
      case round =>
        obtain ⟨rfl, rfl⟩ := hrel
        go_wp2_with fail
        go_ret
        exact ⟨rfl, rfl⟩
end Go.Proofs.YtonnlgpjobfnmaaDoor
