/- ref26.take: the greater numbers, a list of its own. Conditions: what the slices' cells hold. -/
import Derived.Test.YtonnlgpjobfnmaaDoorRRefA
import Derived.Test.YtonnlgpjobfnmaaDoorRLinD
namespace Go.Proofs.YtonnlgpjobfnmaaDoor
open Go.RowKit
set_option maxRecDepth 100000
theorem IntsAt.of {w w' : World} {b : Option Addr} {X : List Int} (h : IntsAt w b X) (hb : Below w.heap.size w w') : IntsAt w' b X := fun i x hx => by
  obtain ⟨g, off, e, hc⟩ := h i x hx
  exact ⟨g, off, e, (hb.cell (p := ⟨g, off + i, none⟩) (World.block_lt_of_cell? w _ hc)).trans hc⟩
def takeF (X Y : List Int) : List Int := (List.range X.length).map fun i => if i < Y.length then max (X.getD i 0) (Y.getD i 0) else X.getD i 0
theorem takeF_len (X Y : List Int) : (takeF X Y).length = X.length := by simp [takeF]
theorem takeF_at {X Y : List Int} {i : Nat} (h : i < X.length) : (takeF X Y)[i]? = some (if i < Y.length then max (X.getD i 0) (Y.getD i 0) else X.getD i 0) := by simp [takeF, h]
theorem takeF_more {X Y : List Int} {i : Nat} {x : Int} (h : (takeF X Y)[i]? = some x) : (takeF X Y).take (i + 1) = (takeF X Y).take i ++ [x] := by
  rw [List.take_add_one, h]; rfl
def TakePostR (X Y : List Int) (w : World) (e : Ending) (w' : World) : Prop := ∃ v, e = .returned v ∧ w'.ownsRow w.heap.size 3 1 v X.length ((takeF X Y).map fun x => .int .i64 x) ∧ Below w.heap.size w w'
def TakeRelR (X Y : List Int) (w0 : World) (v i : Value) (wr : World) : Prop := ∃ k : Nat, k ≤ X.length ∧ i = .int .i64 k ∧ wr.ownsRow w0.heap.size 3 1 v k (((takeF X Y).take k).map fun x => .int .i64 x) ∧ Below w0.heap.size w0 wr
theorem TakeRelR.more {X Y : List Int} {w wr w8 : World} {o : Obj} {v v8 : Value} {k n : Nat} {z : Int} (hlt : k < n) (hX : X.length = n) (ht : (takeF X Y).take (k + 1) = (takeF X Y).take k ++ [z]) (ho : wr.ownsRow w.heap.size 3 1 v k (((takeF X Y).take k).map fun x => .int .i64 x)) (hb : Below w.heap.size w wr)
    (h8 : w8.ownsRow w.heap.size 3 1 v8 (k + 1) ((((takeF X Y).take k).map fun x => .int .i64 x) ++ [.int .i64 z])) (hg : (wr.alloc o).grownBy w8 v.ownBlock) : TakeRelR X Y w v8 (.int .i64 ((k : Int) + 1)) w8 := by
  have hk : Kept (fun q => v.ownBlock = some q) wr w8 := ((Kept.refl _ wr).alloc o).trans ⟨hg.os, hg.tape, hg.output, hg.size, fun q hq hs => hg.block q hq (fun e => hs e.symm)⟩
  refine ⟨k + 1, by omega, by rw [Int.natCast_add]; rfl, ?_, hb.trans (hk.below hb.size fun q hq => (ho.lt q hq).1)⟩
  rw [ht, List.map_append]
  exact h8
set_option maxHeartbeats 4000000 in
theorem rtake_any (a b : Option Addr) (ca cb n m : Nat) (X Y : List Int) (hX : X.length = n) (hY : Y.length = m) (hn : n ≤ 1000000) (w : World) (ha : IntsAt w a X) (hb : IntsAt w b Y) :
    Calls Tryd.prog 82 #[.slice a n ca, .slice b m cb] w (TakePostR X Y w) := by
  have HA := Lib.hid ha
  have HB := Lib.hid hb
  obtain ⟨ji, hji, hjiz, hjis, hjib⟩ := info_parts infoMi
  clear ha hb
  go_enter Tryd.func82, Tryd.ntmps82
  go_wp2_with fail
  go_loopw [5, 6] (fun v i wr => TakeRelR X Y w v i wr) (fun _ i _ => n - (intOf i).toNat)
  case atStart => exact ⟨0, Nat.zero_le _, rfl, World.ownsRow_nil _ _ _ _, Below.refl _ _⟩
  case round =>
    obtain ⟨k, hk, rfl, ho, hbl⟩ := hrel
    have HO := Lib.hid ho
    have HL := Lib.hid hbl
    have hbs := hbl.size
    clear ho hbl
    by_cases hlt : k < n
    · have hx : decide (k < n) = true := by simpa using hlt
      have hxi : decide ((k : Int) < (n : Int)) = true := by simp; omega
      obtain ⟨x, hx0⟩ : ∃ x, X[k]? = some x := ⟨X[k]'(by omega), List.getElem?_eq_getElem (by omega)⟩
      obtain ⟨g, off, rfl, c1⟩ := (HA.out.of HL.out) k x hx0
      have hxd : X.getD k 0 = x := by rw [List.getD_eq_getElem?_getD, hx0]; rfl
      have htk := takeF_at (X := X) (Y := Y) (i := k) (by omega)
      rw [hxd, hY] at htk
      have hk6 : k < 1000000 := by omega
      clear hx0 hxd
      by_cases hlm : k < m
      · have hy : decide (k < m) = true := by simpa using hlm
        have hyi : decide ((k : Int) < (m : Int)) = true := by simp; omega
        obtain ⟨y, hy0⟩ : ∃ y, Y[k]? = some y := ⟨Y[k]'(by omega), List.getElem?_eq_getElem (by omega)⟩
        obtain ⟨g2, off2, rfl, c2⟩ := (HB.out.of HL.out) k y hy0
        have hyd : Y.getD k 0 = y := by rw [List.getD_eq_getElem?_getD, hy0]; rfl
        rw [if_pos hlm, hyd] at htk
        have HTK := Lib.hid (takeF_more htk)
        clear hy0 hyd htk
        obtain ⟨z, hz⟩ : ∃ z, z = max x y := ⟨_, rfl⟩
        rw [← hz] at HTK
        go_wp2_with (at_builtin; refine wpList_append_own _ rfl _ _ 27 rfl w.heap.size 3 ji _ 1 8 Tryd.underlying27 hji hjiz hjis hjib rfl (by decide) _ k (((takeF X Y).take k).map fun x => .int .i64 x) rfl (HO.out.alloc _) ⟨wr.heap.size, 0, none⟩ 1 1 [.int .i64 z] rfl rfl (World.news_of_block (by rw [hz]; exact heap_alloc_new _ _)) (by simp [Value.oneCell']) (by unfold maxLen; omega) (by omega) (by simp; omega) ?_; intro v8 w8 hown8 hgrow8 _; have HO8 := Lib.hid hown8; have HG8 := Lib.hid hgrow8; clear hown8 hgrow8)
        exact ⟨TakeRelR.more hlt hX HTK.out HO.out HL.out HO8.out HG8.out, by simp [intOf]; omega⟩
      · have hy : decide (k < m) = false := by simpa using hlm
        have hyi : decide ((k : Int) < (m : Int)) = false := by simp; omega
        rw [if_neg hlm] at htk
        have HTK := Lib.hid (takeF_more htk)
        clear htk
        go_wp2_with (at_builtin; refine wpList_append_own _ rfl _ _ 27 rfl w.heap.size 3 ji _ 1 8 Tryd.underlying27 hji hjiz hjis hjib rfl (by decide) _ k (((takeF X Y).take k).map fun x => .int .i64 x) rfl (HO.out.alloc _) ⟨wr.heap.size, 0, none⟩ 1 1 [.int .i64 x] rfl rfl (World.news_of_block (by exact heap_alloc_new _ _)) (by simp [Value.oneCell']) (by unfold maxLen; omega) (by omega) (by simp; omega) ?_; intro v8 w8 hown8 hgrow8 _; have HO8 := Lib.hid hown8; have HG8 := Lib.hid hgrow8; clear hown8 hgrow8)
        exact ⟨TakeRelR.more hlt hX HTK.out HO.out HL.out HO8.out HG8.out, by simp [intOf]; omega⟩
    · obtain rfl : k = n := by omega
      have hx : decide (k < k) = false := by simp
      have hxi : decide ((k : Int) < (k : Int)) = false := by simp
      go_wp2_with fail
      refine bodyPost_ret (results_tmp rfl _ _ _) rfl ⟨_, rfl, ?_, HL.out⟩
      have h := HO.out
      rw [List.take_of_length_le (by rw [takeF_len]; omega)] at h
      rw [hX]
      exact h
end Go.Proofs.YtonnlgpjobfnmaaDoor
