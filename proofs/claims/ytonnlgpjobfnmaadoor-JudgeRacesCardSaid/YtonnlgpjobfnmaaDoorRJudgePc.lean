/- Joined of the texts JudgeO, JudgeP, JudgeQ, JudgePb, JudgePc; what each proves, and its conditions, stand ahead of it. -/
import Derived.Test.YtonnlgpjobfnmaaDoorRJudgeN
import Derived.Test.YtonnlgpjobfnmaaDoorRJudgeD
/- The map of what has been: texts. Conditions: an own map. -/
namespace Go.Proofs.YtonnlgpjobfnmaaDoor
open Go.RowKit
set_option maxRecDepth 100000

def boolR : Value → Option (DataW Unit × List MemPlace)
  | .bool b => some (.lit (.bool b), [])
  | _ => none
theorem boolR_inv {v : Value} {b : Bool} {ps : List MemPlace} (h : boolR v = some (.lit (.bool b), ps)) : v = .bool b := by
  cases v <;> simp [boolR] at h
  rw [h.1]
theorem keyOf_str {s : List UInt8} (h : s.length ≤ maxLen) : keyOf Tryd.prog 9 (.string ⟨s.toArray⟩) = some (.string s) := by
  rw [keyOf_string Tryd.underlying9]
  simp only [mapKey, Tryd.underlying9]
  rw [if_pos (by simpa [ByteArray.size] using h)]
/-- Block M is a map from texts; those in seen are true; so many entries at most. -/
def SeenIn (w : World) (M n : Nat) (seen : List (List UInt8)) : Prop :=
  ∃ D, w.ownsMap Tryd.prog 9 boolR M n D ∧ Maps.IsMap D ∧ ∀ s, D.atKey (.string s) (.lit (.bool false)) = .lit (.bool (decide (s ∈ seen)))
theorem zeroBool (w : World) : (zeroValue 4).run Tryd.prog w = .ok (.bool false) w := by kernel_rfl
theorem SeenIn.look {w : World} {M n : Nat} {seen : List (List UInt8)} (h : SeenIn w M n seen) (s : List UInt8) (hs : s.length ≤ maxLen) : (Instr.lookup 91 (.map (some M)) (.string ⟨s.toArray⟩) false).run Tryd.prog w = .ok (.bool (decide (s ∈ seen))) w := by
  obtain ⟨D, h1, h2, h3⟩ := h
  obtain ⟨v, ps, hr, hR⟩ := h1.lookup (Maps.string_keyed Tryd.underlying9) Tryd.underlying91 (zeroBool w) (zd := .lit (.bool false)) (zp := []) rfl (keyOf_str hs)
  rw [h3 s] at hR
  rw [hr, boolR_inv hR]
theorem SeenIn.kept {w w' : World} {M n : Nat} {seen : List (List UInt8)} {S : Nat → Prop} (h : SeenIn w M n seen) (k : Kept S w w') (hs : ¬ S M) : SeenIn w' M n seen := by
  obtain ⟨D, h1, h2, h3⟩ := h
  refine ⟨D, ?_, h2, h3⟩
  obtain ⟨es, clock, hb, rest⟩ := h1
  exact ⟨es, clock, (k.block M (Array.getElem?_eq_some_iff.1 hb).1 hs).trans hb, rest⟩
theorem SeenIn.mono {w : World} {M n m : Nat} {seen : List (List UInt8)} (h : SeenIn w M n seen) (hm : n ≤ m) : SeenIn w M m seen := by
  obtain ⟨D, h1, h2, h3⟩ := h
  exact ⟨D, h1.mono hm, h2, h3⟩
theorem SeenIn.lt {w : World} {M n : Nat} {seen : List (List UInt8)} (h : SeenIn w M n seen) : M < w.heap.size := by
  obtain ⟨D, ⟨es, clock, hb, rest⟩, _⟩ := h
  exact (Array.getElem?_eq_some_iff.1 hb).1
theorem SeenIn.made (w : World) : SeenIn (w.alloc (.map #[] 0)) w.heap.size 0 [] := ⟨_, World.ownsMap_made _ _ _ _, Maps.isMap_empty, fun _ => rfl⟩
theorem SeenIn.put {w' : World} {M n : Nat} {seen : List (List UInt8)} {s : List UInt8} {D : DataW Unit} (h2 : Maps.IsMap D) (h3 : ∀ s, D.atKey (.string s) (.lit (.bool false)) = .lit (.bool (decide (s ∈ seen)))) (h : w'.ownsMap Tryd.prog 9 boolR M n (D.put (.string s) (.lit (.bool true)))) :
    SeenIn w' M n (s :: seen) := by
  refine ⟨_, h, ?_, fun y => ?_⟩
  · obtain ⟨es, rfl⟩ := h2; exact ⟨_, rfl⟩
  · by_cases e : y = s
    · subst e
      rw [Maps.atKey_put_same h2 (show WideAt.IsKeyLit (.string y) from trivial)]
      simp
    · rw [Maps.atKey_put_other (by intro h; injection h with h; exact e h), h3]
      simp [e]
end Go.Proofs.YtonnlgpjobfnmaaDoor
/- What judge.Linear's inner function reads and writes. Conditions: none. -/
namespace Go.Proofs.YtonnlgpjobfnmaaDoor
open Go.RowKit
set_option maxRecDepth 100000

/-- How many calls are done. -/
def cnt (d : Nat) : Nat := ((List.range 12).filter d.testBit).length
theorem cnt_bitSet {d i : Nat} (hi : i < 12) (h : d.testBit i = false) : cnt (bitSet d i) = cnt d + 1 := by
  have hb : ∀ j, (bitSet d i).testBit j = (d.testBit j || decide (i = j)) := fun j => by
    unfold bitSet
    rw [Nat.testBit_or, Nat.testBit_two_pow]
  have key : ∀ l : List Nat, l.Nodup → (l.filter (bitSet d i).testBit).length = (l.filter d.testBit).length + if i ∈ l then 1 else 0 := by
    intro l
    induction l with
    | nil => intro _; simp
    | cons x l ih =>
      intro hn
      obtain ⟨hx, hn⟩ := List.nodup_cons.1 hn
      have := ih hn
      simp only [List.filter_cons, hb x]
      by_cases e : i = x
      · subst e
        simp only [h, decide_true, Bool.or_true, if_true, Bool.false_eq_true, if_false, List.length_cons]
        rw [this, if_neg hx]
        simp
      · have e1 : decide (i = x) = false := by simpa using e
        rw [e1, Bool.or_false]
        have e2 : (i ∈ x :: l) ↔ i ∈ l := by simp [e]
        by_cases hd : d.testBit x = true
        · simp only [hd, if_true, List.length_cons, this]
          simp only [e2]
          omega
        · have hd : d.testBit x = false := by simpa using hd
          simp only [hd, Bool.false_eq_true, if_false, this]
          simp only [e2]
  have := key (List.range 12) List.nodup_range
  rw [if_pos (by simpa using hi)] at this
  exact this
/-- So many marks at most, so many calls left. -/
def nodes : Nat → Nat
  | 0 => 1
  | r + 1 => 1 + 12 * nodes r
theorem nodes_pos (r : Nat) : 1 ≤ nodes r := by cases r <;> simp [nodes]
theorem nodes_12 : nodes 12 ≤ 10000000000000 := by decide

/-- The boxes that Linear's inner function has caught, and its map. -/
structure Env where
  bm : Nat
  bb : Nat
  bh : Nat
  bk : Nat
  bo : Nat
  bf : Nat
  M : Nat
def Env.args (E : Env) : Array Value := #[.pointer (some ⟨E.bm, 0, none⟩), .pointer (some ⟨E.bb, 0, none⟩), .pointer (some ⟨E.bh, 0, none⟩), .pointer (some ⟨E.bk, 0, none⟩), .pointer (some ⟨E.bo, 0, none⟩), .pointer (some ⟨E.bf, 0, none⟩)]
/-- The blocks that it may write: the order's box, the map, rows of ints that were made behind base. -/
def Own (base : Nat) (E : Env) (w : World) (q : Nat) : Prop := q = E.bo ∨ q = E.M ∨ base ≤ q ∧ ∃ cs fr, w.heap[q]? = some (.cells cs 3 fr)
def Frm (base : Nat) (E : Env) (w w' : World) : Prop := Kept (Own base E w) w w'
theorem Frm.refl (base : Nat) (E : Env) (w : World) : Frm base E w w := Kept.refl _ w
theorem Frm.trans {base : Nat} {E : Env} {a b c : World} (h : Frm base E a b) (k : Frm base E b c) : Frm base E a c :=
  ⟨k.os.trans h.os, k.tape.trans h.tape, k.output.trans h.output, Nat.le_trans h.size k.size, fun q hq hs => by
    have e := h.block q hq hs
    refine (k.block q (Nat.lt_of_lt_of_le hq h.size) fun hh => hs ?_).trans e
    rcases hh with hh | hh | ⟨h1, cs, fr, h2⟩
    · exact .inl hh
    · exact .inr (.inl hh)
    · exact .inr (.inr ⟨h1, cs, fr, by rw [← e]; exact h2⟩)⟩
theorem Frm.of_kept {base : Nat} {E : Env} {a b : World} (h : Kept (fun _ => False) a b) : Frm base E a b := h.mono fun _ hh => hh.elim
theorem Frm.of_below {base : Nat} {E : Env} {a b : World} (h : Below a.heap.size a b) : Frm base E a b := Kept.of_below h
theorem Frm.blk {base : Nat} {E : Env} {w w' : World} (h : Frm base E w w') {g : Nat} {t : TypeId} {cs : Array Value} (hb : Blk w g t cs) (h1 : g ≠ E.bo) (h2 : g ≠ E.M) (h3 : t ≠ 3 ∨ g < base) : Blk w' g t cs := by
  refine Kept.blk h hb fun hh => ?_
  rcases hh with hh | hh | ⟨hh, cs', fr, hc⟩
  · exact h1 hh
  · exact h2 hh
  · rcases h3 with h3 | h3
    · have := hb.symm.trans hc
      injection this with this
      injection this with _ this
      exact h3 this
    · omega
/-- The boxes, the history, the order and the map, as the inner function finds them. -/
structure FromAt (w : World) (base : Nat) (E : Env) (k : Int) (H : List Cal) (must n : Nat) (seen : List (List UInt8)) (ord : List Nat) : Prop where
  m : Blk w E.bm 3 #[.int .i64 must]
  b : Blk w E.bb 91 #[.map (some E.M)]
  h : ∃ a cap, Blk w E.bh 22 #[.slice a H.length cap] ∧ CallsAt w base a H ∧ ∀ g off, a = some ⟨g, off, none⟩ → g ≠ E.bo ∧ g ≠ E.M
  k : Blk w E.bk 89 #[.int .i64 k]
  f : Blk w E.bf 92 #[.func (.func 42) #[] E.args]
  o : ∃ v, Blk w E.bo 27 #[v] ∧ w.ownsRow base 3 1 v ord.length (ord.map fun i => .int .i64 (i : Nat))
  seen : SeenIn w E.M n seen
  tens : Tens w
  far : ∀ q, Tryd.prog.globalNamed "internal/strconv.uint64pow10" = some q → q < base ∧ q ≠ E.bo ∧ q ≠ E.M
  low : E.bm < base ∧ E.bb < base ∧ E.bh < base ∧ E.bk < base ∧ E.bf < base ∧ E.bo < base ∧ E.M < base
  ne : E.bm ≠ E.bo ∧ E.bb ≠ E.bo ∧ E.bh ≠ E.bo ∧ E.bk ≠ E.bo ∧ E.bf ≠ E.bo ∧ E.bm ≠ E.M ∧ E.bb ≠ E.M ∧ E.bh ≠ E.M ∧ E.bk ≠ E.M ∧ E.bf ≠ E.M ∧ E.bo ≠ E.M
  size : base ≤ w.heap.size
theorem CallsAt.wf_at {w w' : World} {B B' : Nat} {a : Option Addr} {H : List Cal} (h : CallsAt w' B' a H) (h0 : CallsAt w B a H) : CallsAt w' B a H :=
  ⟨h.wf, fun i c hc => by
    obtain ⟨g, off, e, _, hA⟩ := h.at_ i c hc
    obtain ⟨g', off', e', hg', _⟩ := h0.at_ i c hc
    rw [e] at e'
    injection e' with e'
    injection e' with e1 e2
    exact ⟨g, off, e, by omega, hA⟩⟩
/-- What is new in the world alone: all is as it was. -/
theorem FromAt.below {w w' : World} {base : Nat} {E : Env} {k : Int} {H : List Cal} {must n : Nat} {seen : List (List UInt8)} {ord : List Nat} (h : FromAt w base E k H must n seen ord) (hb : Below w.heap.size w w') : FromAt w' base E k H must n seen ord := by
  have kk : Kept (fun _ => False) w w' := Kept.of_below hb
  refine ⟨h.m.below hb h.m.lt, h.b.below hb h.b.lt, ?_, h.k.below hb h.k.lt, h.f.below hb h.f.lt, ?_, h.seen.kept kk id, h.tens.below hb, h.far, h.low, h.ne, Nat.le_trans h.size hb.size⟩
  · obtain ⟨a, cap, h1, h2, h3⟩ := h.h
    exact ⟨a, cap, h1.below hb h1.lt, ((h2.mono h.size).of hb).wf_at h2, h3⟩
  · obtain ⟨v, h1, h2⟩ := h.o
    exact ⟨v, h1.below hb h1.lt, h2.kept (row := none) ⟨hb.os, hb.tape, hb.output, hb.size, fun q hq _ => hb.block q hq⟩ (by cases hv : v.ownBlock <;> simp)⟩
end Go.Proofs.YtonnlgpjobfnmaaDoor
/- judge.Linear's inner function: the search with its memo. Conditions: what the boxes hold. -/
namespace Go.Proofs.YtonnlgpjobfnmaaDoor
open Go.RowKit
set_option maxRecDepth 100000

/-- A text that has been: there is no order from it, or it is one that is under way. -/
def Good (k : Int) (H : List Cal) (must d : Nat) (s : List UInt8) : Prop := ∃ d' hs', s = keyB (d' : Nat) hs' ∧ (Lin k H must d' hs' = none ∨ d' < d)
def Dead (k : Int) (H : List Cal) (must : Nat) (s : List UInt8) : Prop := ∃ d' hs', s = keyB (d' : Nat) hs' ∧ Lin k H must d' hs' = none
/-- What it leaves. -/
def Left (base : Nat) (E : Env) (k : Int) (H : List Cal) (must r n : Nat) (seen : List (List UInt8)) (ord : List Nat) (ans : Option (List Nat)) (w w' : World) : Prop :=
  ∃ n' seen' ord', FromAt w' base E k H must n' seen' ord' ∧ n' ≤ n + nodes r ∧ Frm base E w w' ∧ (match ans with
    | some l => ord' = ord ++ l
    | none => ord' = ord ∧ ∀ s, s ∈ seen' → s ∈ seen ∨ Dead k H must s)
def FromPost (base : Nat) (E : Env) (k : Int) (H : List Cal) (must r n : Nat) (seen : List (List UInt8)) (ord : List Nat) (ans : Option (List Nat)) (w : World) (e : Ending) (w' : World) : Prop :=
  e = .returned (.bool ans.isSome) ∧ Left base E k H must r n seen ord ans w w'
theorem and_i64 (a b : Nat) (ha : a < 4096) (hb : b < 4096) : bits .and .i64 (a : Int) (b : Int) = ((a &&& b : Nat) : Int) := (bits_nat .i64 63 (by decide) wraps_i64 a b (by omega) (by omega)).1
theorem or_i64 (a b : Nat) (ha : a < 4096) (hb : b < 4096) : bits .or .i64 (a : Int) (b : Int) = ((a ||| b : Nat) : Int) := (bits_nat .i64 63 (by decide) wraps_i64 a b (by omega) (by omega)).2
set_option maxHeartbeats 4000000 in
theorem from_done (base : Nat) (E : Env) (k : Int) (H : List Cal) (must r d n : Nat) (hd : d < 4096) (hm : must < 4096) (v : Value) (hs : List Int) (seen : List (List UInt8)) (ord : List Nat) (w : World) (h : FromAt w base E k H must n seen ord) (hdone : d &&& must = must) :
    Calls Tryd.prog 42 (#[.int .i64 d, v] ++ E.args) w (FromPost base E k H must r n seen ord (Lin k H must d hs) w) := by
  have c0 := h.m.cell 0
  have hb := and_i64 d must hd hm
  rw [hdone] at hb
  have HF := Lib.hid h
  clear h
  rw [Lin_done hdone]
  unfold Env.args
  go_enter Tryd.func42, Tryd.ntmps42
  go_wp2_with fail
  go_ret
  exact ⟨rfl, n, seen, ord, HF.out, by omega, Frm.refl _ _ _, by simp⟩
theorem and_ne {d must : Nat} (h : d &&& must ≠ must) : decide (((d &&& must : Nat) : Int) = (must : Int)) = false := by
  simp only [decide_eq_false_iff_not]
  omega
theorem good_none {k : Int} {H : List Cal} {must d : Nat} {hs : List Int} (h : Good k H must d (keyB (d : Nat) hs)) : Lin k H must d hs = none := by
  obtain ⟨d', hs', e, h⟩ := h
  obtain ⟨e1, e2⟩ := key_inj _ _ _ _ e
  have e1 : d = d' := by omega
  subst e1 e2
  rcases h with h | h
  · exact h
  · omega
set_option maxHeartbeats 4000000 in
theorem from_seen (base : Nat) (E : Env) (k : Int) (H : List Cal) (must r d n : Nat) (hd : d < 4096) (hm : must < 4096) (v : Value) (hs : List Int) (hl : hs.length ≤ 1000) (seen : List (List UInt8)) (ord : List Nat) (w : World) (h : FromAt w base E k H must n seen ord) (hdone : d &&& must ≠ must)
    (hv : ThingAt w v hs) (hk : keyB (d : Nat) hs ∈ seen) (hg : ∀ s, s ∈ seen → Good k H must d s) :
    Calls Tryd.prog 42 (#[.int .i64 d, v] ++ E.args) w (FromPost base E k H must r n seen ord (Lin k H must d hs) w) := by
  have c0 := h.m.cell 0
  have hb := and_i64 d must hd hm
  have hb2 := and_ne hdone
  obtain ⟨a, cap, rfl, hcap, hnone, hN⟩ := hv
  rw [good_none (hg _ hk)]
  have HN := Lib.hid hN
  have HF := Lib.hid h
  have HI : Hid (i64of (d : Nat)) := Lib.hid ⟨by omega, by omega⟩
  have HK := Lib.hid hk
  clear h hN hg hk
  unfold Env.args
  go_enter Tryd.func42, Tryd.ntmps42
  go_wp2_with (go_at_call 43; refine (key_any d HI.out a cap hs (by omega) _ HN.out HF.out.tens).mono ?_; rintro e w1 ⟨rfl, hk1⟩; have HF1 : Hid (FromAt w1 base E k H must n seen ord) := Lib.hid (HF.out.below hk1); have HB1 := Lib.hid hk1; clear hk1; have c1 := HF1.out.b.cell 0; have hlook := HF1.out.seen.look (keyB (d : Nat) hs) (by have := keyB_len (d : Nat) HI.out hs HN.out.wf; unfold maxLen; omega); rw [decide_eq_true HK.out] at hlook)
  go_ret
  exact ⟨rfl, n, seen, ord, HF1.out, by omega, Frm.of_below HB1.out, rfl, fun s hs => .inl hs⟩
end Go.Proofs.YtonnlgpjobfnmaaDoor
/- What judge.Linear's inner function finds, behind a change of the order. Conditions: none. -/
namespace Go.Proofs.YtonnlgpjobfnmaaDoor
open Go.RowKit
set_option maxRecDepth 100000
/-- The order's box holds a new row: all else is as it was. -/
theorem FromAt.order {w w' : World} {base : Nat} {E : Env} {k : Int} {H : List Cal} {must n : Nat} {seen : List (List UInt8)} {ord ord' : List Nat} {v : Value} {row : Option Nat} (h : FromAt w base E k H must n seen ord) (kk : Kept (fun q => q = E.bo ∨ some q = row) w w') (hr : ∀ q, row = some q → base ≤ q)
    (hb : Blk w' E.bo 27 #[v]) (hown : w'.ownsRow base 3 1 v ord'.length (ord'.map fun i => .int .i64 (i : Nat))) : FromAt w' base E k H must n seen ord' := by
  obtain ⟨n1, n2, n3, n4, n5, n6, n7, n8, n9, n10, n11⟩ := h.ne
  obtain ⟨l1, l2, l3, l4, l5, l6, l7⟩ := h.low
  have low : ∀ q, q < base → q ≠ E.bo → ¬ (q = E.bo ∨ some q = row) := fun q hq hne hh => by
    rcases hh with hh | hh
    · exact hne hh
    · have := hr q hh.symm
      omega
  refine ⟨kk.blk h.m (low _ l1 n1), kk.blk h.b (low _ l2 n2), ?_, kk.blk h.k (low _ l4 n4), kk.blk h.f (low _ l5 n5), ⟨v, hb, hown⟩, h.seen.kept kk (low _ l7 (Ne.symm n11)), h.tens.of fun q hq hn => kk.block q hq (low _ (h.far q hn).1 (h.far q hn).2.1), h.far, h.low, h.ne, Nat.le_trans h.size kk.size⟩
  obtain ⟨a, cap, h1, h2, h3⟩ := h.h
  refine ⟨a, cap, kk.blk h1 (low _ l3 n3), ⟨h2.wf, fun i c hc => ?_⟩, h3⟩
  obtain ⟨g, off, e, hgb, hA⟩ := h2.at_ i c hc
  refine ⟨g, off, e, hgb, ?_⟩
  have hb := kk.block g (Nat.lt_of_lt_of_le hgb h.size) (low g hgb (h3 g off e).1)
  obtain ⟨h0, h1, h2, h3, h4, h5, h6⟩ := hA
  exact ⟨(World.cell?_of_block hb).trans h0, (World.cell?_of_block hb).trans h1, (World.cell?_of_block hb).trans h2, (World.cell?_of_block hb).trans h3, (World.cell?_of_block hb).trans h4, (World.cell?_of_block hb).trans h5, (World.cell?_of_block hb).trans h6⟩
theorem grown2_kept {w w' : World} {A B : Obj} {row : Option Nat} (bo : Nat) (h : ((w.alloc A).alloc B).grownBy w' row) (v : Value) : Kept (fun q => q = bo ∨ some q = row) w (w'.setCell ⟨bo, 0, none⟩ v) := by
  have h1 : Kept (fun q => q = bo ∨ some q = row) w ((w.alloc A).alloc B) := ((Kept.refl _ w).alloc A).alloc B
  have h2 : Kept (fun q => q = bo ∨ some q = row) ((w.alloc A).alloc B) w' := ⟨h.os, h.tape, h.output, h.size, fun q hq hs => h.block q hq fun e => hs (.inr e)⟩
  exact (h1.trans h2).set (p := ⟨bo, 0, none⟩) (.inl rfl) v
/-- A row is appended to and laid into the order's box. -/
theorem FromAt.push {w w' : World} {base : Nat} {E : Env} {k : Int} {H : List Cal} {must n m g cap : Nat} {seen : List (List UInt8)} {ord ord' : List Nat} {A B : Obj} {z : Value} {row : Option Nat} (h : FromAt w base E k H must n seen ord) (hg : ((w.alloc A).alloc B).grownBy w' row) (hr : ∀ q, row = some q → base ≤ q)
    (hb : Blk w' E.bo 27 #[z]) (hown : w'.ownsRow base 3 1 (.slice (some ⟨g, 0, none⟩) m cap) ord'.length (ord'.map fun i => .int .i64 (i : Nat))) :
    FromAt (w'.setCell ⟨E.bo, 0, none⟩ (.slice (some ⟨g, 0, none⟩) m cap)) base E k H must n seen ord' := by
  refine h.order (grown2_kept E.bo hg _) hr (hb.set_ 0 _) (hown.kept (row := some E.bo) ⟨rfl, rfl, rfl, by simp, fun q _ hq => Below.heap_setCell _ _ _ _ (fun e => hq (by rw [e]))⟩ (.inr fun e => ?_))
  have h1 := (hown.lt _ e).1
  have h2 := h.low.2.2.2.2.2.1
  omega
end Go.Proofs.YtonnlgpjobfnmaaDoor
/- What judge.Linear's inner function finds, behind the order's last entry is struck. Conditions: none. -/
namespace Go.Proofs.YtonnlgpjobfnmaaDoor
open Go.RowKit
set_option maxRecDepth 100000
theorem ownsRow_init {w : World} {base n g cap : Nat} {e : TypeId} {xs : List Value} {x : Value} (h : w.ownsRow base e 1 (.slice (some ⟨g, 0, none⟩) (n + 1) cap) (n + 1) (xs ++ [x])) : w.ownsRow base e 1 (.slice (some ⟨g, 0, none⟩) n cap) n xs := by
  obtain ⟨hl, h⟩ := h
  simp only [List.length_append, List.length_cons, List.length_nil, Nat.mul_one] at hl
  rcases h with ⟨h, _⟩ | ⟨g', cap', cur, hv, hb, hc, hn, hm, hz, ht⟩
  · cases h
  · injection hv with h1 h2 h3
    injection h1 with h1
    injection h1 with h1
    subst h1 h3
    refine ⟨by omega, .inr ⟨g, cap, cur, rfl, hb, hc, by omega, hm, hz, ?_⟩⟩
    simp only [Nat.mul_one] at ht ⊢
    have := congrArg (List.take n) ht
    rw [List.take_take, Nat.min_eq_left (by omega), List.take_append_of_le_length (by omega)] at this
    rw [this, List.take_of_length_le (by omega)]
/-- The order's box holds a row of its own. -/
theorem FromAt.row {w : World} {base : Nat} {E : Env} {k : Int} {H : List Cal} {must n : Nat} {seen : List (List UInt8)} {ord : List Nat} {j : Nat} (h : FromAt w base E k H must n seen (ord ++ [j])) :
    ∃ g cap, Blk w E.bo 27 #[.slice (some ⟨g, 0, none⟩) (ord.length + 1) cap] ∧ ord.length + 1 ≤ cap ∧ cap ≤ maxLen ∧ w.ownsRow base 3 1 (.slice (some ⟨g, 0, none⟩) (ord.length + 1) cap) (ord.length + 1) ((ord.map fun i => (.int .i64 (i : Nat) : Value)) ++ [.int .i64 (j : Nat)]) := by
  obtain ⟨v, h1, h2⟩ := h.o
  have h3 := h2
  obtain ⟨hl, h2⟩ := h2
  rcases h2 with ⟨_, h2⟩ | ⟨g, cap, cur, rfl, hb, hc, hn, hm, hz, ht⟩
  · simp at h2
  · simp only [List.length_append, List.length_cons, List.length_nil] at h1 h3 hn
    refine ⟨g, cap, h1, hn, hm, ?_⟩
    have e : (ord.map fun i => (.int .i64 (i : Nat) : Value)) ++ [.int .i64 (j : Nat)] = (ord ++ [j]).map fun i => (.int .i64 (i : Nat) : Value) := by simp
    rw [e]
    exact h3
/-- The last entry is struck. -/
theorem FromAt.pop {w : World} {base : Nat} {E : Env} {k : Int} {H : List Cal} {must n : Nat} {seen : List (List UInt8)} {ord : List Nat} {j g cap : Nat} (h : FromAt w base E k H must n seen (ord ++ [j])) (hb : Blk w E.bo 27 #[.slice (some ⟨g, 0, none⟩) (ord.length + 1) cap])
    (hr : w.ownsRow base 3 1 (.slice (some ⟨g, 0, none⟩) (ord.length + 1) cap) (ord.length + 1) ((ord.map fun i => (.int .i64 (i : Nat) : Value)) ++ [.int .i64 (j : Nat)])) :
    FromAt (w.setCell ⟨E.bo, 0, none⟩ (.slice (some ⟨g, 0, none⟩) ord.length cap)) base E k H must n seen ord := by
  have hown := ownsRow_init hr
  refine h.order (row := none) ((Kept.refl _ w).set (p := ⟨E.bo, 0, none⟩) (.inl rfl) _) (fun q hq => by cases hq) (hb.set_ 0 _) (hown.kept (row := some E.bo) ⟨rfl, rfl, rfl, by simp, fun q _ hq => Below.heap_setCell _ _ _ _ (fun e => hq (by rw [e]))⟩ (.inr fun e => ?_))
  have h1 := (hown.lt _ e).1
  have h2 := h.low.2.2.2.2.2.1
  omega
theorem cnt_le (d : Nat) : cnt d ≤ 12 := by
  unfold cnt
  have := List.length_filter_le d.testBit (List.range 12)
  simpa using this
theorem cal_eq {a b : Cal} (h0 : a.op = b.op) (h1 : a.arg = b.arg) (h2 : a.new = b.new) (h3 : a.ans = b.ans) (h4 : a.ok = b.ok) (h5 : a.beg = b.beg) (h6 : a.fin = b.fin) : a = b := by
  cases a
  cases b
  simp_all
theorem from_args {d j : Nat} (v : Value) (E : Env) (hd : d < 4096) (hj : j < 12) : #[Value.int .i64 (bits .or .i64 (d : Int) (IntKind.i64.wrap (2 ^ j))), v] ++ E.args = #[Value.int .i64 ((bitSet d j : Nat) : Int), v] ++ E.args := by
  have h2 : 2 ^ j < 2 ^ 12 := Nat.pow_lt_pow_right (by decide) hj
  have h3 : 2 ^ j < 4096 := h2
  have e : (2 : Int) ^ j = ((2 ^ j : Nat) : Int) := by simp
  rw [e]
  unfold bitSet
  generalize 2 ^ j = z at h3
  rw [wraps_i64 _ (by omega) (by omega), or_i64 d z hd (by omega)]
theorem good_child {k : Int} {H : List Cal} {must d e : Nat} {hs : List Int} {seen seen' : List (List UInt8)} (hde : d < e) (hg : ∀ s, s ∈ seen → Good k H must d s) (h : ∀ s, s ∈ seen' → s ∈ seen ∨ s = keyB (d : Nat) hs ∨ Dead k H must s) : ∀ s, s ∈ seen' → Good k H must e s := fun s hs' => by
  rcases h s hs' with h | h | ⟨d', hs'', h1, h2⟩
  · obtain ⟨d', hs'', h1, h2⟩ := hg s h
    exact ⟨d', hs'', h1, h2.imp id fun h => by omega⟩
  · exact ⟨d, hs, h, .inr hde⟩
  · exact ⟨d', hs'', h1, .inl h2⟩
theorem doesF_len (k : Int) (hs : List Int) (c : Cal) : (doesF k hs c).1.length ≤ hs.length + 1 := by
  unfold doesF
  repeat' split
  all_goals first
    | (simp; done)
    | (simp; omega)
    | (simp only []; split <;> simp)
theorem doesF_one {k : Int} {hs : List Int} {c : Cal} (hk : 2 < k) (_h : hs.length = 1) : (doesF k hs c).1.length = 1 := by
  unfold doesF
  rw [if_neg (by omega)]
  simp only []
  repeat' split
  all_goals simp
theorem Frm.push {w w' : World} {base : Nat} {E : Env} {A B : Obj} {v : Value} {n : Nat} {xs : List Value} (hown : w.ownsRow base 3 1 v n xs) (hg : ((w.alloc A).alloc B).grownBy w' v.ownBlock) (z : Value) : Frm base E w (w'.setCell ⟨E.bo, 0, none⟩ z) := by
  refine (grown2_kept E.bo hg z).mono fun q hq => ?_
  rcases hq with hq | hq
  · exact .inl hq
  · refine .inr (.inr ⟨(hown.lt q hq.symm).1, ?_⟩)
    obtain ⟨_, ⟨rfl, _⟩ | ⟨g, cap, cur, rfl, _, hc, _⟩⟩ := hown
    · cases hq
    · simp only [Value.ownBlock] at hq
      injection hq with hq
      subst hq
      exact ⟨_, _, hc⟩
end Go.Proofs.YtonnlgpjobfnmaaDoor
