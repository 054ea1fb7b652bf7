/- Joined of the texts RnY, RoA, RoB; what each proves, and its conditions, stand ahead of it. -/
import Derived.Test.YtecmobjiepgfjaaNRnX
import Derived.Test.YtecmobjiepgfjaaNGtJ
/- Where the threads that are left stand: the first loop of gate's ends. -/
namespace Go.Proofs.Ytecmobjiepgfjaa
open Go.Conc Go.RowKit
open Go.ConcN (upd upd_same upd_ne)
set_option linter.unusedSimpArgs false
set_option linter.unusedVariables false
set_option maxRecDepth 100000
/-- A thread as ends sees it; n, ok: its cell's number, if it has one. -/
structure Lo where
  tb : Nat
  wk : Nat
  st : Nat
  vv : Value
  at' : Entry
  e : Bool
  b : Nat
  v : Int
  n : Int
  ok : Bool
structure Lo.At (x : World) (M rb mb j : Nat) (t : Lo) : Prop where
  o : x.heap[t.tb]? = some (.cells (thrObj rb j t.wk t.st t.vv t.at' t.e) 184 (2, 4))
  lt : t.tb < M
  s : t.e = false → t.vv = P0 t.b ∧ t.b < M ∧ x.cell? (th t.b 0) = some (.int .i64 t.v) ∧ ∀ y : World, (∀ r, r < M → y.heap[r]? = x.heap[r]?) → (Instr.lookup 176 (.map (some mb)) (P0 t.b) true).run Try.prog y = .ok (.tuple #[.int .i64 t.n, .bool t.ok]) y
theorem Lo.At.old {x y : World} {M rb mb j : Nat} {t : Lo} (h : t.At x M rb mb j) (hy : ∀ r, r < M → y.heap[r]? = x.heap[r]?) : t.At y M rb mb j := by
  refine ⟨(hy _ h.lt).trans h.o, h.lt, fun e => ?_⟩
  obtain ⟨h1, h2, h3, h4⟩ := h.s e
  refine ⟨h1, h2, ?_, fun z hz => h4 z fun r hr => (hz r hr).trans (hy r hr)⟩
  simp only [World.cell?] at h3 ⊢
  rw [hy _ h2]; exact h3
def Lo.left (t : Lo) : Entry := { t.at' with cell := if t.ok then t.n else t.at'.cell, was := t.v, now := t.v }
def leftsOf (l : List Lo) : List Entry := (l.filter fun t => !t.e).map Lo.left
section
variable {Post : Value → World → Prop} {C : Ctx} {x : World} {c : Frame} {cs : List Frame} {rb mb N M : Nat} {vT : Value}
set_option maxHeartbeats 8000000 in
theorem left_loop (all : List Lo) (hall : all.length < 100) (hrM : rb < M) : ∀ (k i : Nat), i + k = all.length → ∀ (x : World) (vl : Value) (u1 u2 u4 u5 u6 u7 u8 u9 u10 u11 u12 u13 u17 u18 u19 u20 u21 u22 u23 u24 u25 u26 u27 u28 u29 u30 u31 u32 u33 u34 u35 u36 u37 u38 u39 u40 u41 u42 u43 u44 u45 u46 u47 u48 u49 u50 u51 u52 u53 u54 u55 u56 u57 u58 u59 u60 u61 u62 u63 u64 u65 u66 u67 u68 u69 u70 u71 u72 u73 u74 u75 u76 u77 u78 u79 u80 u81 u82 u83 u84 u85 u86 u87 u88 : Value),
    x.ownsRow N 33 1 vT all.length (all.map fun t => P0 t.tb) → (∀ (j : Nat) (t : Lo), all[j]? = some t → t.At x M rb mb j) → x.ownsRow M 172 8 vl (leftsOf (all.take i)).length ((leftsOf (all.take i)).flatMap accV) → M ≤ x.heap.size → (∀ g, vT.ownBlock = some g → g < M) → x.cell? (th rb 1) = some (.map (some mb)) →
    (∀ (y : World) (vl' : Value) (u1 u2 u4 u5 u6 u7 u8 u9 u10 u11 u12 u13 u14 u15 u16 u17 u18 u19 u20 u21 u22 u23 u24 u25 u26 u27 u28 u29 u30 u31 u32 u33 u34 u35 u36 u37 u38 u39 u40 u41 u42 u43 u44 u45 u46 u47 u48 u49 u50 u51 u52 u53 u54 u55 u56 u57 u58 u59 u60 u61 u62 u63 u64 u65 u66 u67 u68 u69 u70 u71 u72 u73 u74 u75 u76 u77 u78 u79 u80 u81 u82 u83 u84 u85 u86 u87 u88 : Value), y.ownsRow M 172 8 vl' (leftsOf all).length ((leftsOf all).flatMap accV) → x.heap.size ≤ y.heap.size → (∀ r, r < M → y.heap[r]? = x.heap[r]?) → JG Try.prog Post C (G ((base 133).at ⟨List.toArray ((P0 rb) :: u1 :: u2 :: (vl') :: u4 :: u5 :: u6 :: u7 :: u8 :: u9 :: u10 :: u11 :: u12 :: u13 :: u14 :: u15 :: u16 :: u17 :: u18 :: u19 :: u20 :: u21 :: u22 :: u23 :: u24 :: u25 :: u26 :: u27 :: u28 :: u29 :: u30 :: u31 :: u32 :: u33 :: u34 :: u35 :: u36 :: u37 :: u38 :: u39 :: u40 :: u41 :: u42 :: u43 :: u44 :: u45 :: u46 :: u47 :: u48 :: u49 :: u50 :: u51 :: u52 :: u53 :: u54 :: u55 :: u56 :: u57 :: u58 :: u59 :: u60 :: u61 :: u62 :: u63 :: u64 :: u65 :: u66 :: u67 :: u68 :: u69 :: u70 :: u71 :: u72 :: u73 :: u74 :: u75 :: u76 :: u77 :: u78 :: u79 :: u80 :: u81 :: u82 :: u83 :: u84 :: u85 :: u86 :: u87 :: u88 :: []), []⟩ [.code (Code.nav (Try.f133.body.getD .skip) [1, 1, 1])]) (c :: cs)) y) →
    JG Try.prog Post C (G ((base 133).at ⟨List.toArray ((P0 rb) :: u1 :: u2 :: (vl) :: u4 :: u5 :: u6 :: u7 :: u8 :: u9 :: u10 :: u11 :: u12 :: u13 :: (vT) :: (.int .i64 all.length) :: (.int .i64 i) :: u17 :: u18 :: u19 :: u20 :: u21 :: u22 :: u23 :: u24 :: u25 :: u26 :: u27 :: u28 :: u29 :: u30 :: u31 :: u32 :: u33 :: u34 :: u35 :: u36 :: u37 :: u38 :: u39 :: u40 :: u41 :: u42 :: u43 :: u44 :: u45 :: u46 :: u47 :: u48 :: u49 :: u50 :: u51 :: u52 :: u53 :: u54 :: u55 :: u56 :: u57 :: u58 :: u59 :: u60 :: u61 :: u62 :: u63 :: u64 :: u65 :: u66 :: u67 :: u68 :: u69 :: u70 :: u71 :: u72 :: u73 :: u74 :: u75 :: u76 :: u77 :: u78 :: u79 :: u80 :: u81 :: u82 :: u83 :: u84 :: u85 :: u86 :: u87 :: u88 :: []), []⟩ [.code (Code.nav (Try.f133.body.getD .skip) [1, 1, 0, 1, 0, 0]), .inLoop (Code.nav (Try.f133.body.getD .skip) [1, 1, 0, 1, 0, 0]), .inBlock 0, .code (Code.nav (Try.f133.body.getD .skip) [1, 1, 1])]) (c :: cs)) x := by
  intro k
  induction k with
  | zero =>
    intro i hik x vl u1 u2 u4 u5 u6 u7 u8 u9 u10 u11 u12 u13 u17 u18 u19 u20 u21 u22 u23 u24 u25 u26 u27 u28 u29 u30 u31 u32 u33 u34 u35 u36 u37 u38 u39 u40 u41 u42 u43 u44 u45 u46 u47 u48 u49 u50 u51 u52 u53 u54 u55 u56 u57 u58 u59 u60 u61 u62 u63 u64 u65 u66 u67 u68 u69 u70 u71 u72 u73 u74 u75 u76 u77 u78 u79 u80 u81 u82 u83 u84 u85 u86 u87 u88 hT hA hl hM hTM hrm h
    simp only [Try.f133, Option.getD_some, Code.nav] at h ⊢
    have hx : decide ((i : Int) < all.length) = false := by simp; omega
    have hxN : decide (i < all.length) = false := by simp; omega
    have ht : all.take i = all := List.take_of_length_le (by omega)
    rw [ht] at hl
    replace h := h x vl
    replace h := fun (w1 w2 w4 w5 w6 w7 w8 w9 w10 w11 w12 w13 w14 w15 w16 w17 w18 w19 w20 w21 w22 w23 w24 w25 w26 w27 w28 w29 w30 w31 w32 w33 w34 w35 w36 w37 w38 w39 w40 w41 w42 w43 w44 w45 w46 w47 w48 w49 w50 w51 w52 w53 w54 w55 w56 w57 w58 w59 w60 w61 w62 w63 w64 w65 w66 w67 w68 w69 w70 w71 w72 w73 w74 w75 w76 w77 w78 w79 w80 w81 w82 w83 w84 w85 w86 w87 w88 : Value) => h w1 w2 w4 w5 w6 w7 w8 w9 w10 w11 w12 w13 w14 w15 w16 w17 w18 w19 w20 w21 w22 w23 w24 w25 w26 w27 w28 w29 w30 w31 w32 w33 w34 w35 w36 w37 w38 w39 w40 w41 w42 w43 w44 w45 w46 w47 w48 w49 w50 w51 w52 w53 w54 w55 w56 w57 w58 w59 w60 w61 w62 w63 w64 w65 w66 w67 w68 w69 w70 w71 w72 w73 w74 w75 w76 w77 w78 w79 w80 w81 w82 w83 w84 w85 w86 w87 w88 hl (Nat.le_refl _) (fun r _ => rfl)
    replace h := Lib.hid h
    clear hT hA hl ht hrm
    repeat first | refine JG.seq ?_ | refine JG.skip ?_ | refine JG.inBlock ?_ | refine JG.block ?_ | refine JG.done ?_ | refine JG.label ?_ | refine JG.condT rfl ?_ | refine JG.condF rfl ?_ | (refine JG.region ?_; simp only [List.size_toArray, List.length_cons, List.length_nil, Nat.reduceAdd, Nat.zero_add, List.range, List.range.loop]) | (refine JG.unwanted rfl (by rfl) ?_; try walk_nrm) | (refine jgo rfl rfl (by rfl) (by decide) (fun K E hK hE τ d => ?_); go_simp; refine hK _ _ (JG.tap ?_); clear hK hE K E τ d; try walk_nrm)
    refine JG.exit (by rfl) ?_
    first | exact h.out _ _ _ _ _ _ _ _ _ _ _ _ _ _ _ _ _ _ _ _ _ _ _ _ _ _ _ _ _ _ _ _ _ _ _ _ _ _ _ _ _ _ _ _ _ _ _ _ _ _ _ _ _ _ _ _ _ _ _ _ _ _ _ _ _ _ _ _ _ _ _ _ _ _ _ _ _ _ _ _ _ _ _ _ _ _ _ | (walk_nrm; exact h.out _ _ _ _ _ _ _ _ _ _ _ _ _ _ _ _ _ _ _ _ _ _ _ _ _ _ _ _ _ _ _ _ _ _ _ _ _ _ _ _ _ _ _ _ _ _ _ _ _ _ _ _ _ _ _ _ _ _ _ _ _ _ _ _ _ _ _ _ _ _ _ _ _ _ _ _ _ _ _ _ _ _ _ _ _ _ _)
  | succ k ih =>
    intro i hik x vl u1 u2 u4 u5 u6 u7 u8 u9 u10 u11 u12 u13 u17 u18 u19 u20 u21 u22 u23 u24 u25 u26 u27 u28 u29 u30 u31 u32 u33 u34 u35 u36 u37 u38 u39 u40 u41 u42 u43 u44 u45 u46 u47 u48 u49 u50 u51 u52 u53 u54 u55 u56 u57 u58 u59 u60 u61 u62 u63 u64 u65 u66 u67 u68 u69 u70 u71 u72 u73 u74 u75 u76 u77 u78 u79 u80 u81 u82 u83 u84 u85 u86 u87 u88 hT hA hl hM hTM hrm h
    simp only [Try.f133, Option.getD_some, Code.nav] at ih h ⊢
    have hx : decide ((i : Int) < all.length) = true := by simp; omega
    have hxN : decide (i < all.length) = true := by simp; omega
    have hlt : i < all.length := by omega
    have hlt' : (i : Int) < all.length := by omega
    have h0i : (0 : Int) ≤ i := by omega
    have hw : IntKind.i64.wrap ((i : Int) + 1) = ((i + 1 : Nat) : Int) := by rw [IntKind.wrap_i64]; omega
    obtain ⟨t, ht⟩ : ∃ t, all[i]? = some t := ⟨_, List.getElem?_eq_getElem hlt⟩
    obtain ⟨g, cap, rfl, hg⟩ := own_get hT (by omega)
    have hgi : x.cell? (th g i) = some (P0 t.tb) := hg i _ (by rw [List.getElem?_map, ht]; rfl)
    obtain ⟨hto, htM, hts⟩ := hA i t ht
    have h13 : x.cell? (th t.tb 13) = some (.bool t.e) := cell_obj hto 13
    have htk : all.take (i + 1) = all.take i ++ [t] := by rw [List.take_add_one, ht]; rfl
    have hlf : leftsOf (all.take (i + 1)) = leftsOf (all.take i) ++ (if t.e then [] else [t.left]) := by
      rw [htk]; unfold leftsOf
      rw [List.filter_append, List.map_append]
      cases hm : t.e <;> simp [hm]
    have hlen : (leftsOf (all.take i)).length ≤ i := by
      unfold leftsOf
      have h1 : ((all.take i).filter fun t => !t.e).length ≤ (all.take i).length := List.length_filter_le _ _
      rw [List.length_map]; rw [List.length_take] at h1; omega
    replace h := Lib.hid h
    replace ih := Lib.hid ih
    replace hA := Lib.hid hA
    replace hT := Lib.hid hT
    have HL := Lib.hid hl
    clear hl
    obtain ⟨i0, hi0, hz0, hz1, hz2⟩ := parts_of infoAccess
    obtain ⟨al, ac, rfl⟩ := own_slice HL.out
    cases he : t.e with
    | true =>
      rw [he] at h13 hlf
      rw [if_pos rfl, List.append_nil] at hlf
      replace hlf := Lib.hid hlf
      clear hts
      repeat first | refine JG.seq ?_ | refine JG.skip ?_ | refine JG.inBlock ?_ | refine JG.block ?_ | refine JG.done ?_ | refine JG.label ?_ | refine JG.condT rfl ?_ | refine JG.condF rfl ?_ | (refine JG.region ?_; simp only [List.size_toArray, List.length_cons, List.length_nil, Nat.reduceAdd, Nat.zero_add, List.range, List.range.loop]) | (refine JG.unwanted rfl (by rfl) ?_; try walk_nrm) | (refine jgo rfl rfl (by rfl) (by decide) (fun K E hK hE τ d => ?_); go_simp; refine hK _ _ (JG.tap ?_); clear hK hE K E τ d; try walk_nrm) | (refine jgo rfl rfl (by rfl) (by decide) (fun K E hK hE τ d => ?_); have hfact := (under_cell _ τ d _).trans (hgi); go_simp; refine hK _ _ (JG.tap ?_); clear hfact hK hE K E τ d; try walk_nrm) | (refine jgo rfl rfl (by rfl) (by decide) (fun K E hK hE τ d => ?_); have hfact := (under_cell _ τ d _).trans (h13); go_simp; refine hK _ _ (JG.tap ?_); clear hfact hK hE K E τ d; try walk_nrm)
      first | refine JG.exit (by rfl) ?_ | skip
      repeat first | refine JG.seq ?_ | refine JG.skip ?_ | refine JG.inBlock ?_ | refine JG.block ?_ | refine JG.done ?_ | refine JG.label ?_ | refine JG.condT rfl ?_ | refine JG.condF rfl ?_ | (refine JG.region ?_; simp only [List.size_toArray, List.length_cons, List.length_nil, Nat.reduceAdd, Nat.zero_add, List.range, List.range.loop]) | (refine JG.unwanted rfl (by rfl) ?_; try walk_nrm) | (refine jgo rfl rfl (by rfl) (by decide) (fun K E hK hE τ d => ?_); go_simp; refine hK _ _ (JG.tap ?_); clear hK hE K E τ d; try walk_nrm)
      refine JG.inLoop ?_
      exact ih.out (i + 1) (by omega) x _ _ _ _ _ _ _ _ _ _ _ _ _ _ _ _ _ _ _ _ _ _ _ _ _ _ _ _ _ _ _ _ _ _ _ _ _ _ _ _ _ _ _ _ _ _ _ _ _ _ _ _ _ _ _ _ _ _ _ _ _ _ _ _ _ _ _ _ _ _ _ _ _ _ _ _ _ _ _ _ _ _ _ _ _ hT.out hA.out (by rw [hlf.out]; exact HL.out) hM hTM hrm h.out
    | false =>
      rw [he] at h13 hlf
      rw [if_neg (by simp)] at hlf
      replace hlf := Lib.hid hlf
      obtain ⟨hvv, hbM, hbv, hlk⟩ := hts he
      rw [hvv, he] at hto
      generalize hae : t.at' = a at hto
      have hleft : Hid (t.left = { a with cell := if t.ok then t.n else a.cell, was := t.v, now := t.v }) := Lib.hid (by unfold Lo.left; rw [hae])
      have k5 : x.cell? (th t.tb 5) = some (.int .i64 a.thread) := cell_obj hto 5
      have k6 : x.cell? (th t.tb 6) = some (.int .i8 a.op) := cell_obj hto 6
      have k7 : x.cell? (th t.tb 7) = some (.int .i64 a.cell) := cell_obj hto 7
      have k8 : x.cell? (th t.tb 8) = some (.int .i64 a.arg) := cell_obj hto 8
      have k9 : x.cell? (th t.tb 9) = some (.int .i64 a.new) := cell_obj hto 9
      have k10 : x.cell? (th t.tb 10) = some (.int .i64 a.was) := cell_obj hto 10
      have k11 : x.cell? (th t.tb 11) = some (.int .i64 a.now) := cell_obj hto 11
      have k12 : x.cell? (th t.tb 12) = some (.bool a.ok) := cell_obj hto 12
      have htb : t.tb < x.heap.size := cell_lt k5
      repeat first | refine JG.seq ?_ | refine JG.skip ?_ | refine JG.inBlock ?_ | refine JG.block ?_ | refine JG.done ?_ | refine JG.label ?_ | refine JG.condT rfl ?_ | refine JG.condF rfl ?_ | (refine JG.region ?_; simp only [List.size_toArray, List.length_cons, List.length_nil, Nat.reduceAdd, Nat.zero_add, List.range, List.range.loop]) | (refine JG.unwanted rfl (by rfl) ?_; try walk_nrm) | (refine jgo rfl rfl (by rfl) (by decide) (fun K E hK hE τ d => ?_); go_simp; refine hK _ _ (JG.tap ?_); clear hK hE K E τ d; try walk_nrm) | (refine jgo rfl rfl (by rfl) (by decide) (fun K E hK hE τ d => ?_); have hfact := (under_cell _ τ d _).trans (hgi); go_simp; refine hK _ _ (JG.tap ?_); clear hfact hK hE K E τ d; try walk_nrm) | (refine jgo rfl rfl (by rfl) (by decide) (fun K E hK hE τ d => ?_); have hfact := (under_cell _ τ d _).trans (h13); go_simp; refine hK _ _ (JG.tap ?_); clear hfact hK hE K E τ d; try walk_nrm)
      refine jgo rfl rfl (by rfl) (by decide) (fun K E hK hE τ d => ?_)
      have k5' := (under_cell x τ d _).trans k5
      have k6' := (under_cell x τ d _).trans k6
      have k7' := (under_cell x τ d _).trans k7
      have k8' := (under_cell x τ d _).trans k8
      have k9' := (under_cell x τ d _).trans k9
      have k10' := (under_cell x τ d _).trans k10
      have k11' := (under_cell x τ d _).trans k11
      have k12' := (under_cell x τ d _).trans k12
      go_simp
      refine hK _ _ (JG.tap ?_)
      clear hK hE K E τ d k5' k6' k7' k8' k9' k10' k11' k12'
      try walk_nrm
      refine jgo rfl rfl (by rfl) (by decide) (fun K E hK hE τ d => ?_)
      go_simp
      refine hK _ _ (JG.tap (x := x.alloc (.cells #[.int .i64 0, .int .i8 0, .int .i64 0, .int .i64 0, .int .i64 0, .int .i64 0, .int .i64 0, .bool false] 172)) ?_)
      simp only [under_size]
      clear hK hE K E τ d
      have g0 : (x.alloc (.cells #[.int .i64 0, .int .i8 0, .int .i64 0, .int .i64 0, .int .i64 0, .int .i64 0, .int .i64 0, .bool false] 172)).heap[x.heap.size]? = some (.cells #[.int .i64 0, .int .i8 0, .int .i64 0, .int .i64 0, .int .i64 0, .int .i64 0, .int .i64 0, .bool false] 172 (0, 0)) := heap_alloc_new x _
      have go' : ∀ q, q < x.heap.size → (x.alloc (.cells #[.int .i64 0, .int .i8 0, .int .i64 0, .int .i64 0, .int .i64 0, .int .i64 0, .int .i64 0, .bool false] 172)).heap[q]? = x.heap[q]? := fun q h => by rw [heap_alloc', Array.getElem?_push, if_neg (by omega)]
      have gs : (x.alloc (.cells #[.int .i64 0, .int .i8 0, .int .i64 0, .int .i64 0, .int .i64 0, .int .i64 0, .int .i64 0, .bool false] 172)).heap.size = x.heap.size + 1 := by simp
      generalize x.alloc (.cells #[.int .i64 0, .int .i8 0, .int .i64 0, .int .i64 0, .int .i64 0, .int .i64 0, .int .i64 0, .bool false] 172) = z at g0 go' gs ⊢
      generalize hab : x.heap.size = ab at g0 go' gs hM htb ⊢
      have m0 : z.cell? (th ab 0) = some (.int .i64 0) := cell_obj g0 0
      have n0 : z.frozen? (th ab 0) = false := frozen_obj g0 0
      have m1 : z.cell? (th ab 1) = some (.int .i8 0) := cell_obj g0 1
      have n1 : z.frozen? (th ab 1) = false := frozen_obj g0 1
      have m2 : z.cell? (th ab 2) = some (.int .i64 0) := cell_obj g0 2
      have n2 : z.frozen? (th ab 2) = false := frozen_obj g0 2
      have m3 : z.cell? (th ab 3) = some (.int .i64 0) := cell_obj g0 3
      have n3 : z.frozen? (th ab 3) = false := frozen_obj g0 3
      have m4 : z.cell? (th ab 4) = some (.int .i64 0) := cell_obj g0 4
      have n4 : z.frozen? (th ab 4) = false := frozen_obj g0 4
      have m5 : z.cell? (th ab 5) = some (.int .i64 0) := cell_obj g0 5
      have n5 : z.frozen? (th ab 5) = false := frozen_obj g0 5
      have m6 : z.cell? (th ab 6) = some (.int .i64 0) := cell_obj g0 6
      have n6 : z.frozen? (th ab 6) = false := frozen_obj g0 6
      have m7 : z.cell? (th ab 7) = some (.bool false) := cell_obj g0 7
      have n7 : z.frozen? (th ab 7) = false := frozen_obj g0 7
      clear k5 k6 k7 k8 k9 k10 k11 k12
      refine jgo rfl rfl (by rfl) (by decide) (fun K E hK hE τ d => ?_)
      have m0' := (under_cell z τ d _).trans m0
      have n0' := (under_frozen z τ d _).trans n0
      have m1' := (under_cell z τ d _).trans m1
      have n1' := (under_frozen z τ d _).trans n1
      have m2' := (under_cell z τ d _).trans m2
      have n2' := (under_frozen z τ d _).trans n2
      have m3' := (under_cell z τ d _).trans m3
      have n3' := (under_frozen z τ d _).trans n3
      have m4' := (under_cell z τ d _).trans m4
      have n4' := (under_frozen z τ d _).trans n4
      have m5' := (under_cell z τ d _).trans m5
      have n5' := (under_frozen z τ d _).trans n5
      have m6' := (under_cell z τ d _).trans m6
      have n6' := (under_frozen z τ d _).trans n6
      have m7' := (under_cell z τ d _).trans m7
      have n7' := (under_frozen z τ d _).trans n7
      go_simp
      refine hK _ _ ?_
      rw [under_setCell, under_setCell, under_setCell, under_setCell, under_setCell, under_setCell, under_setCell, under_setCell]
      refine JG.tap ?_
      clear hK hE K E τ d m0 n0 m0' n0' m1 n1 m1' n1' m2 n2 m2' n2' m3 n3 m3' n3' m4 n4 m4' n4' m5 n5 m5' n5' m6 n6 m6' n6' m7 n7 m7' n7'
      obtain ⟨w, hw⟩ : ∃ w, w = ((((((((z.setCell (th ab 0) (.int .i64 a.thread)).setCell (th ab 1) (.int .i8 a.op)).setCell (th ab 2) (.int .i64 a.cell)).setCell (th ab 3) (.int .i64 a.arg)).setCell (th ab 4) (.int .i64 a.new)).setCell (th ab 5) (.int .i64 a.was)).setCell (th ab 6) (.int .i64 a.now)).setCell (th ab 7) (.bool a.ok)) := ⟨_, rfl⟩
      rw [← hw]
      have wn : w.heap[ab]? = some (.cells #[.int .i64 a.thread, .int .i8 a.op, .int .i64 a.cell, .int .i64 a.arg, .int .i64 a.new, .int .i64 a.was, .int .i64 a.now, .bool a.ok] 172 (0, 0)) := by
        rw [hw, heap_set_self (heap_set_self (heap_set_self (heap_set_self (heap_set_self (heap_set_self (heap_set_self (heap_set_self g0)))))))]
        simp only [sets8]
      have wo : ∀ q, q < ab → w.heap[q]? = x.heap[q]? := fun q h => by
        have hq : q ≠ ab := by omega
        rw [hw, heap_set_ne hq, heap_set_ne hq, heap_set_ne hq, heap_set_ne hq, heap_set_ne hq, heap_set_ne hq, heap_set_ne hq, heap_set_ne hq, go' q h]
      have ws : w.heap.size = ab + 1 := by rw [hw, size_set, size_set, size_set, size_set, size_set, size_set, size_set, size_set, gs]
      clear hw g0 go' gs
      try walk_nrm
      have wto := (wo t.tb htb).trans hto
      have w4 : w.cell? (th t.tb 4) = some (P0 t.b) := cell_obj wto 4
      have w1 : w.cell? (th rb 1) = some (.map (some mb)) := by
        have h1 : rb < ab := by omega
        simp only [World.cell?] at hrm ⊢
        rw [wo rb h1]; exact hrm
      have wbv : w.cell? (th t.b 0) = some (.int .i64 t.v) := by
        have h1 : t.b < ab := by omega
        simp only [World.cell?] at hbv ⊢
        rw [wo t.b h1]; exact hbv
      replace wo := Lib.hid wo
      repeat first | refine JG.seq ?_ | refine JG.skip ?_ | refine JG.inBlock ?_ | refine JG.block ?_ | refine JG.done ?_ | refine JG.label ?_ | refine JG.condT rfl ?_ | refine JG.condF rfl ?_ | (refine JG.region ?_; simp only [List.size_toArray, List.length_cons, List.length_nil, Nat.reduceAdd, Nat.zero_add, List.range, List.range.loop]) | (refine JG.unwanted rfl (by rfl) ?_; try walk_nrm) | (refine jgo rfl rfl (by rfl) (by decide) (fun K E hK hE τ d => ?_); go_simp; refine hK _ _ (JG.tap ?_); clear hK hE K E τ d; try walk_nrm) | (refine jgo rfl rfl (by rfl) (by decide) (fun K E hK hE τ d => ?_); have hfact := (under_cell _ τ d _).trans (w4); go_simp; refine hK _ _ (JG.tap ?_); clear hfact hK hE K E τ d; try walk_nrm)
      refine JG.code (closedG _) (by kernel_rfl) rfl (.inr (by kernel_rfl)) rfl (fun K R hK hR τ => ?_)
      replace hK := Lib.hid hK
      clear hR
      have hlk1 := hlk (under w τ 0) (fun r hr => wo.out r (by omega))
      have hlk2 := hlk (under w τ 0).drew (fun r hr => wo.out r (by omega))
      have z1 : (under w τ 0).cell? (th rb 1) = some (.map (some mb)) := w1
      have z4 : (under w τ 0).cell? (th t.tb 4) = some (P0 t.b) := w4
      have z5 : rb < (under w τ 0).heap.size := cell_lt z1
      have z6 : t.tb < (under w τ 0).heap.size := cell_lt z4
      clear hlk
      obtain ⟨cv, hcv⟩ : ∃ cv, cv = if t.ok then t.n else a.cell := ⟨_, rfl⟩
      generalize hok : t.ok = ok at hlk1 hlk2 hcv
      cases ok
      all_goals (
        go_region
        refine hK.out _ _ (JG.tap (x := w) (τ := τ) (d := 1) ?_)
        clear hK hlk1 hlk2 z1 z4 z5 z6 K τ
        try walk_nrm
        repeat first | refine JG.seq ?_ | refine JG.skip ?_ | refine JG.inBlock ?_ | refine JG.block ?_ | refine JG.done ?_ | refine JG.label ?_ | refine JG.condT rfl ?_ | refine JG.condF rfl ?_ | (refine JG.region ?_; simp only [List.size_toArray, List.length_cons, List.length_nil, Nat.reduceAdd, Nat.zero_add, List.range, List.range.loop]) | (refine JG.unwanted rfl (by rfl) ?_; try walk_nrm) | (refine jgo rfl rfl (by rfl) (by decide) (fun K E hK hE τ d => ?_); go_simp; refine hK _ _ (JG.tap ?_); clear hK hE K E τ d; try walk_nrm) | (refine jgo rfl rfl (by rfl) (by decide) (fun K E hK hE τ d => ?_); have hfact := (under_cell _ τ d _).trans (w4)); go_simp; refine hK _ _ (JG.tap ?_); clear hfact hK hE K E τ d; try walk_nrm)
      · replace hcv : cv = a.cell := by rw [hcv]; simp
        obtain ⟨w2, hw2⟩ : ∃ w2, w2 = w := ⟨_, rfl⟩
        rw [← hw2]
        have wn2 : w2.heap[ab]? = some (.cells #[.int .i64 a.thread, .int .i8 a.op, .int .i64 cv, .int .i64 a.arg, .int .i64 a.new, .int .i64 a.was, .int .i64 a.now, .bool a.ok] 172 (0, 0)) := by rw [hw2, hcv]; exact wn
        have wo2 : ∀ q, q ≠ ab → w2.heap[q]? = w.heap[q]? := fun q _ => by rw [hw2]
        have ws2 : w2.heap.size = ab + 1 := by rw [hw2]; exact ws
        clear hw2
        have hbab : t.b < ab := by omega
        have k4 : w2.cell? (th t.tb 4) = some (P0 t.b) := by
          simp only [World.cell?] at w4 ⊢
          rw [wo2 _ (by omega)]; exact w4
        have kb : w2.cell? (th t.b 0) = some (.int .i64 t.v) := by
          simp only [World.cell?] at wbv ⊢
          rw [wo2 _ (by omega)]; exact wbv
        clear wn ws w4 w1 wbv wto
        replace wo2 := Lib.hid wo2
        repeat first | refine JG.seq ?_ | refine JG.skip ?_ | refine JG.inBlock ?_ | refine JG.block ?_ | refine JG.done ?_ | refine JG.label ?_ | refine JG.condT rfl ?_ | refine JG.condF rfl ?_ | (refine JG.region ?_; simp only [List.size_toArray, List.length_cons, List.length_nil, Nat.reduceAdd, Nat.zero_add, List.range, List.range.loop]) | (refine JG.unwanted rfl (by rfl) ?_; try walk_nrm) | (refine jgo rfl rfl (by rfl) (by decide) (fun K E hK hE τ d => ?_); go_simp; refine hK _ _ (JG.tap ?_); clear hK hE K E τ d; try walk_nrm) | (refine jgo rfl rfl (by rfl) (by decide) (fun K E hK hE τ d => ?_); have hfact := (under_cell _ τ d _).trans (k4); go_simp; refine hK _ _ (JG.tap ?_); clear hfact hK hE K E τ d; try walk_nrm)
        refine JG.call (f := 102) (args := #[P0 t.b]) rfl (by rfl) (by decide) (fun w => ?_) (fun w => ?_) ?_
        iterate 2 (focus obtain ⟨fn, h1, h2, h3⟩ : HasBody 102 := ⟨_, Try.func102, by kernel_rfl, by kernel_rfl⟩; have h4 : ¬ fn.name = "runtime.NumGoroutine" := (by simpa using h2); have h5 : ¬ fn.body = none := (by intro e; rw [e] at h3; cases h3); simp [go_sem, execOp, Act.eval, resolve, Deferred.ofValue, invoke, callFunc, h1, h4, h5] <;> decide +kernel)
        refine iload_J kb ?_
        rw [Frame.finish_at]
        walk_nrm
        repeat first | refine JG.seq ?_ | refine JG.skip ?_ | refine JG.inBlock ?_ | refine JG.block ?_ | refine JG.done ?_ | refine JG.label ?_ | refine JG.condT rfl ?_ | refine JG.condF rfl ?_ | (refine JG.region ?_; simp only [List.size_toArray, List.length_cons, List.length_nil, Nat.reduceAdd, Nat.zero_add, List.range, List.range.loop]) | (refine JG.unwanted rfl (by rfl) ?_; try walk_nrm) | (refine jgo rfl rfl (by rfl) (by decide) (fun K E hK hE τ d => ?_); go_simp; refine hK _ _ (JG.tap ?_); clear hK hE K E τ d; try walk_nrm) | (refine jgo rfl rfl (by rfl) (by decide) (fun K E hK hE τ d => ?_); have hfact := (under_cell _ τ d _).trans (k4); go_simp; refine hK _ _ (JG.tap ?_); clear hfact hK hE K E τ d; try walk_nrm)
        have x5 : w2.cell? (th ab 5) = some (.int .i64 a.was) := cell_obj wn2 5
        have y5 : w2.frozen? (th ab 5) = false := frozen_obj wn2 5
        refine jgo rfl rfl (by rfl) (by decide) (fun K E hK hE τ d => ?_)
        obtain ⟨hfact, hfact2⟩ := And.intro x5 y5
        replace hfact := (under_cell _ τ d _).trans hfact
        replace hfact2 := (under_frozen _ τ d _).trans hfact2
        go_simp
        refine hK _ _ ?_
        rw [under_setCell]
        refine JG.tap ?_
        clear hfact hfact2 hK hE K E τ d
        try walk_nrm
        clear x5 y5
        have wn3 : (w2.setCell (th ab 5) (.int .i64 t.v)).heap[ab]? = some (.cells #[.int .i64 a.thread, .int .i8 a.op, .int .i64 cv, .int .i64 a.arg, .int .i64 a.new, .int .i64 t.v, .int .i64 a.now, .bool a.ok] 172 (0, 0)) := by rw [heap_set_self wn2]; rfl
        have ws3 : (w2.setCell (th ab 5) (.int .i64 t.v)).heap.size = ab + 1 := by rw [size_set]; exact ws2
        have wo3 : ∀ q, q ≠ ab → (w2.setCell (th ab 5) (.int .i64 t.v)).heap[q]? = w.heap[q]? := fun q hq => by rw [heap_set_ne hq]; exact wo2.out q hq
        generalize w2.setCell (th ab 5) (.int .i64 t.v) = w3 at wn3 ws3 wo3 ⊢
        clear wn2 ws2 wo2 k4 kb
        replace wo3 := Lib.hid wo3
        have v5 : w3.cell? (th ab 5) = some (.int .i64 t.v) := cell_obj wn3 5
        repeat first | refine JG.seq ?_ | refine JG.skip ?_ | refine JG.inBlock ?_ | refine JG.block ?_ | refine JG.done ?_ | refine JG.label ?_ | refine JG.condT rfl ?_ | refine JG.condF rfl ?_ | (refine JG.region ?_; simp only [List.size_toArray, List.length_cons, List.length_nil, Nat.reduceAdd, Nat.zero_add, List.range, List.range.loop]) | (refine JG.unwanted rfl (by rfl) ?_; try walk_nrm) | (refine jgo rfl rfl (by rfl) (by decide) (fun K E hK hE τ d => ?_); go_simp; refine hK _ _ (JG.tap ?_); clear hK hE K E τ d; try walk_nrm) | (refine jgo rfl rfl (by rfl) (by decide) (fun K E hK hE τ d => ?_); have hfact := (under_cell _ τ d _).trans (v5); go_simp; refine hK _ _ (JG.tap ?_); clear hfact hK hE K E τ d; try walk_nrm)
        have x6 : w3.cell? (th ab 6) = some (.int .i64 a.now) := cell_obj wn3 6
        have y6 : w3.frozen? (th ab 6) = false := frozen_obj wn3 6
        refine jgo rfl rfl (by rfl) (by decide) (fun K E hK hE τ d => ?_)
        obtain ⟨hfact, hfact2⟩ := And.intro x6 y6
        replace hfact := (under_cell _ τ d _).trans hfact
        replace hfact2 := (under_frozen _ τ d _).trans hfact2
        go_simp
        refine hK _ _ ?_
        rw [under_setCell]
        refine JG.tap ?_
        clear hfact hfact2 hK hE K E τ d
        try walk_nrm
        clear x6 y6 v5
        have wn4 : (w3.setCell (th ab 6) (.int .i64 t.v)).heap[ab]? = some (.cells #[.int .i64 a.thread, .int .i8 a.op, .int .i64 cv, .int .i64 a.arg, .int .i64 a.new, .int .i64 t.v, .int .i64 t.v, .bool a.ok] 172 (0, 0)) := by rw [heap_set_self wn3]; rfl
        have ws4 : (w3.setCell (th ab 6) (.int .i64 t.v)).heap.size = ab + 1 := by rw [size_set]; exact ws3
        have wo4 : ∀ q, q < ab → (w3.setCell (th ab 6) (.int .i64 t.v)).heap[q]? = x.heap[q]? := fun q hq => by rw [heap_set_ne (by omega), wo3.out q (by omega)]; exact wo.out q hq
        generalize w3.setCell (th ab 6) (.int .i64 t.v) = w4 at wn4 ws4 wo4 ⊢
        clear wn3 ws3 wo3
        replace wo4 := Lib.hid wo4
        repeat first | refine JG.done ?_ | refine JG.seq ?_
        have hacc : accV t.left = [.int .i64 a.thread, .int .i8 a.op, .int .i64 cv, .int .i64 a.arg, .int .i64 a.new, .int .i64 t.v, .int .i64 t.v, .bool a.ok] := by rw [hleft.out]; simp [accV, hok, hcv]
        refine JG.code (closedG _) (by kernel_rfl) rfl (.inr (by kernel_rfl)) rfl (fun K R hK hR τ => ?_)
        replace hK := Lib.hid hK
        clear hR
        obtain ⟨y, hy⟩ : ∃ y, y = under w4 τ 0 := ⟨_, rfl⟩
        have hyh : y.heap = w4.heap := by rw [hy]; rfl
        rw [← hy]
        rw [← hyh] at wn4 ws4
        have c0 : y.cell? (th ab 0) = some (.int .i64 a.thread) := cell_obj wn4 0
        have c1 : y.cell? (th ab 1) = some (.int .i8 a.op) := cell_obj wn4 1
        have c2 : y.cell? (th ab 2) = some (.int .i64 cv) := cell_obj wn4 2
        have c3 : y.cell? (th ab 3) = some (.int .i64 a.arg) := cell_obj wn4 3
        have c4 : y.cell? (th ab 4) = some (.int .i64 a.new) := cell_obj wn4 4
        have c5 : y.cell? (th ab 5) = some (.int .i64 t.v) := cell_obj wn4 5
        have c6 : y.cell? (th ab 6) = some (.int .i64 t.v) := cell_obj wn4 6
        have c7 : y.cell? (th ab 7) = some (.bool a.ok) := cell_obj wn4 7
        have HO := Lib.hid ((own_heap (w' := y) HL.out fun g' e => by rw [hyh]; exact wo4.out g' (by have := own_lt HL.out e; omega)).alloc (.cells #[.int .i64 a.thread, .int .i8 a.op, .int .i64 cv, .int .i64 a.arg, .int .i64 a.new, .int .i64 t.v, .int .i64 t.v, .bool a.ok] 172))
        have N2 : Hid ((leftsOf (all.take i)).length + 1 ≤ maxLen) := Lib.hid (by unfold maxLen; omega)
        have N3 : Hid (((leftsOf (all.take i)).length + 1) * 64 ≤ 140737488355328) := Lib.hid (by omega)
        have N4 : Hid (M ≤ (y.alloc (.cells #[.int .i64 a.thread, .int .i8 a.op, .int .i64 cv, .int .i64 a.arg, .int .i64 a.new, .int .i64 t.v, .int .i64 t.v, .bool a.ok] 172)).heap.size) := Lib.hid (by simp; omega)
        have hwab : ab < y.heap.size := by omega
        have wo5 : ∀ q, q < ab → y.heap[q]? = x.heap[q]? := fun q hq => by rw [hyh]; exact wo4.out q hq
        replace wo5 := Lib.hid wo5
        clear hy hyh wo4
        replace wn4 := Lib.hid wn4
        replace ws4 := Lib.hid ws4
        replace hacc := Lib.hid hacc
        replace hcv := Lib.hid hcv
        replace hok := Lib.hid hok
        go_wp2_with (first | (at_builtin; refine wpList_append_lies _ rfl _ _ 41 rfl M 172 i0 _ 8 64 Try.underlying41 hi0 hz0 hz1 hz2 rfl (by decide) _ (leftsOf (all.take i)).length ((leftsOf (all.take i)).flatMap accV) rfl HO.out ⟨y.heap.size, 0, none⟩ 1 1 [.int .i64 a.thread, .int .i8 a.op, .int .i64 cv, .int .i64 a.arg, .int .i64 a.new, .int .i64 t.v, .int .i64 t.v, .bool a.ok] rfl rfl (World.news_of_block (cs := #[.int .i64 a.thread, .int .i8 a.op, .int .i64 cv, .int .i64 a.arg, .int .i64 a.new, .int .i64 t.v, .int .i64 t.v, .bool a.ok]) (t := 172) (fr := (0, 0)) (heap_alloc_new y _)) (by simp [Value.oneCell']) (by omega) N2.out N3.out N4.out _ rfl ?_; intro gg cap2 w5 hown hgrow hat hlt3; have HOWN := Lib.hid hown; have HGROW := Lib.hid hgrow; have HAT := Lib.hid hat; clear hown hgrow hat hlt3))
        refine hK.out _ _ ?_
        have hold : ∀ r, r < M → w5.heap[r]? = x.heap[r]? := fun r hr => by
          have h1 : some r ≠ (Value.slice al (leftsOf (all.take i)).length ac).ownBlock := fun e => by have := own_ge HL.out e.symm; omega
          rw [HGROW.out.block r (by simp; have := ws4.out; omega) h1, heap_alloc', Array.getElem?_push, if_neg (by have := ws4.out; omega)]
          exact wo5.out r (by omega)
        have hsz : ab ≤ w5.heap.size := by have := HGROW.out.size; simp at this; have := ws4.out; omega
        replace hold := Lib.hid hold
        replace hsz := Lib.hid hsz
        clear hK K R
        try walk_nrm
        repeat first | refine JG.seq ?_ | refine JG.skip ?_ | refine JG.inBlock ?_ | refine JG.block ?_ | refine JG.done ?_ | refine JG.label ?_ | refine JG.condT rfl ?_ | refine JG.condF rfl ?_ | (refine JG.region ?_; simp only [List.size_toArray, List.length_cons, List.length_nil, Nat.reduceAdd, Nat.zero_add, List.range, List.range.loop]) | (refine JG.unwanted rfl (by rfl) ?_; try walk_nrm) | (refine jgo rfl rfl (by rfl) (by decide) (fun K E hK hE τ d => ?_); go_simp; refine hK _ _ (JG.tap ?_); clear hK hE K E τ d; try walk_nrm)
        refine JG.inLoop ?_
        refine ih.out (i + 1) (by omega) w5 (.slice (some ⟨gg, 0, none⟩) ((leftsOf (all.take i)).length + 1) cap2) _ _ _ _ _ _ _ _ _ _ _ _ _ _ _ _ _ _ _ _ _ _ _ _ _ _ _ _ _ _ _ _ _ _ _ _ _ _ _ _ _ _ _ _ _ _ _ _ _ _ _ _ _ _ _ _ _ _ _ _ _ _ _ _ _ _ _ _ _ _ _ _ _ _ _ _ _ _ _ _ _ _ _ _ (own_heap hT.out fun g' e => hold.out g' (hTM g' e)) (fun j u hu => (hA.out j u hu).old hold.out) ?_ (by have := hsz.out; omega) hTM ?_ (fun z vl' w1 w2 w4 w5 w6 w7 w8 w9 w10 w11 w12 w13 w14 w15 w16 w17 w18 w19 w20 w21 w22 w23 w24 w25 w26 w27 w28 w29 w30 w31 w32 w33 w34 w35 w36 w37 w38 w39 w40 w41 w42 w43 w44 w45 w46 w47 w48 w49 w50 w51 w52 w53 w54 w55 w56 w57 w58 w59 w60 w61 w62 w63 w64 w65 w66 w67 w68 w69 w70 w71 w72 w73 w74 w75 w76 w77 w78 w79 w80 w81 w82 w83 w84 w85 w86 w87 w88 q1 q2 q3 => h.out z vl' w1 w2 w4 w5 w6 w7 w8 w9 w10 w11 w12 w13 w14 w15 w16 w17 w18 w19 w20 w21 w22 w23 w24 w25 w26 w27 w28 w29 w30 w31 w32 w33 w34 w35 w36 w37 w38 w39 w40 w41 w42 w43 w44 w45 w46 w47 w48 w49 w50 w51 w52 w53 w54 w55 w56 w57 w58 w59 w60 w61 w62 w63 w64 w65 w66 w67 w68 w69 w70 w71 w72 w73 w74 w75 w76 w77 w78 w79 w80 w81 w82 w83 w84 w85 w86 w87 w88 q1 (by have := hsz.out; omega) fun r hr => (q3 r hr).trans (hold.out r hr))
        · rw [hlf.out, List.length_append, List.flatMap_append]
          have hfm : [t.left].flatMap accV = [.int .i64 a.thread, .int .i8 a.op, .int .i64 cv, .int .i64 a.arg, .int .i64 a.new, .int .i64 t.v, .int .i64 t.v, .bool a.ok] := by simp [hacc.out]
          rw [hfm]
          exact HOWN.out
        · simp only [World.cell?] at hrm ⊢
          rw [hold.out rb hrM]; exact hrm
      · replace hcv : cv = t.n := by rw [hcv]; simp
        have w2 : w.cell? (th ab 2) = some (.int .i64 a.cell) := cell_obj wn 2
        have f2 : w.frozen? (th ab 2) = false := frozen_obj wn 2
        refine jgo rfl rfl (by rfl) (by decide) (fun K E hK hE τ d => ?_)
        obtain ⟨hfact, hfact2⟩ := And.intro w2 f2
        replace hfact := (under_cell _ τ d _).trans hfact
        replace hfact2 := (under_frozen _ τ d _).trans hfact2
        go_simp
        refine hK _ _ ?_
        rw [under_setCell]
        refine JG.tap ?_
        clear hfact hfact2 hK hE K E τ d
        try walk_nrm
        clear w2 f2
        obtain ⟨w2, hw2⟩ : ∃ w2, w2 = w.setCell (th ab 2) (.int .i64 t.n) := ⟨_, rfl⟩
        rw [← hw2]
        have wn2 : w2.heap[ab]? = some (.cells #[.int .i64 a.thread, .int .i8 a.op, .int .i64 cv, .int .i64 a.arg, .int .i64 a.new, .int .i64 a.was, .int .i64 a.now, .bool a.ok] 172 (0, 0)) := by rw [hw2, heap_set_self wn, hcv]; rfl
        have wo2 : ∀ q, q ≠ ab → w2.heap[q]? = w.heap[q]? := fun q hq => by rw [hw2]; exact heap_set_ne hq
        have ws2 : w2.heap.size = ab + 1 := by rw [hw2, size_set]; exact ws
        clear hw2
        repeat first | refine JG.seq ?_ | refine JG.skip ?_ | refine JG.inBlock ?_ | refine JG.block ?_ | refine JG.done ?_ | refine JG.label ?_ | refine JG.condT rfl ?_ | refine JG.condF rfl ?_ | (refine JG.region ?_; simp only [List.size_toArray, List.length_cons, List.length_nil, Nat.reduceAdd, Nat.zero_add, List.range, List.range.loop]) | (refine JG.unwanted rfl (by rfl) ?_; try walk_nrm) | (refine jgo rfl rfl (by rfl) (by decide) (fun K E hK hE τ d => ?_); go_simp; refine hK _ _ (JG.tap ?_); clear hK hE K E τ d; try walk_nrm)
        have hbab : t.b < ab := by omega
        have k4 : w2.cell? (th t.tb 4) = some (P0 t.b) := by
          simp only [World.cell?] at w4 ⊢
          rw [wo2 _ (by omega)]; exact w4
        have kb : w2.cell? (th t.b 0) = some (.int .i64 t.v) := by
          simp only [World.cell?] at wbv ⊢
          rw [wo2 _ (by omega)]; exact wbv
        clear wn ws w4 w1 wbv wto
        replace wo2 := Lib.hid wo2
        repeat first | refine JG.seq ?_ | refine JG.skip ?_ | refine JG.inBlock ?_ | refine JG.block ?_ | refine JG.done ?_ | refine JG.label ?_ | refine JG.condT rfl ?_ | refine JG.condF rfl ?_ | (refine JG.region ?_; simp only [List.size_toArray, List.length_cons, List.length_nil, Nat.reduceAdd, Nat.zero_add, List.range, List.range.loop]) | (refine JG.unwanted rfl (by rfl) ?_; try walk_nrm) | (refine jgo rfl rfl (by rfl) (by decide) (fun K E hK hE τ d => ?_); go_simp; refine hK _ _ (JG.tap ?_); clear hK hE K E τ d; try walk_nrm) | (refine jgo rfl rfl (by rfl) (by decide) (fun K E hK hE τ d => ?_); have hfact := (under_cell _ τ d _).trans (k4); go_simp; refine hK _ _ (JG.tap ?_); clear hfact hK hE K E τ d; try walk_nrm)
        refine JG.call (f := 102) (args := #[P0 t.b]) rfl (by rfl) (by decide) (fun w => ?_) (fun w => ?_) ?_
        iterate 2 (focus obtain ⟨fn, h1, h2, h3⟩ : HasBody 102 := ⟨_, Try.func102, by kernel_rfl, by kernel_rfl⟩; have h4 : ¬ fn.name = "runtime.NumGoroutine" := (by simpa using h2); have h5 : ¬ fn.body = none := (by intro e; rw [e] at h3; cases h3); simp [go_sem, execOp, Act.eval, resolve, Deferred.ofValue, invoke, callFunc, h1, h4, h5] <;> decide +kernel)
        refine iload_J kb ?_
        rw [Frame.finish_at]
        walk_nrm
        repeat first | refine JG.seq ?_ | refine JG.skip ?_ | refine JG.inBlock ?_ | refine JG.block ?_ | refine JG.done ?_ | refine JG.label ?_ | refine JG.condT rfl ?_ | refine JG.condF rfl ?_ | (refine JG.region ?_; simp only [List.size_toArray, List.length_cons, List.length_nil, Nat.reduceAdd, Nat.zero_add, List.range, List.range.loop]) | (refine JG.unwanted rfl (by rfl) ?_; try walk_nrm) | (refine jgo rfl rfl (by rfl) (by decide) (fun K E hK hE τ d => ?_); go_simp; refine hK _ _ (JG.tap ?_); clear hK hE K E τ d; try walk_nrm) | (refine jgo rfl rfl (by rfl) (by decide) (fun K E hK hE τ d => ?_); have hfact := (under_cell _ τ d _).trans (k4); go_simp; refine hK _ _ (JG.tap ?_); clear hfact hK hE K E τ d; try walk_nrm)
        have x5 : w2.cell? (th ab 5) = some (.int .i64 a.was) := cell_obj wn2 5
        have y5 : w2.frozen? (th ab 5) = false := frozen_obj wn2 5
        refine jgo rfl rfl (by rfl) (by decide) (fun K E hK hE τ d => ?_)
        obtain ⟨hfact, hfact2⟩ := And.intro x5 y5
        replace hfact := (under_cell _ τ d _).trans hfact
        replace hfact2 := (under_frozen _ τ d _).trans hfact2
        go_simp
        refine hK _ _ ?_
        rw [under_setCell]
        refine JG.tap ?_
        clear hfact hfact2 hK hE K E τ d
        try walk_nrm
        clear x5 y5
        have wn3 : (w2.setCell (th ab 5) (.int .i64 t.v)).heap[ab]? = some (.cells #[.int .i64 a.thread, .int .i8 a.op, .int .i64 cv, .int .i64 a.arg, .int .i64 a.new, .int .i64 t.v, .int .i64 a.now, .bool a.ok] 172 (0, 0)) := by rw [heap_set_self wn2]; rfl
        have ws3 : (w2.setCell (th ab 5) (.int .i64 t.v)).heap.size = ab + 1 := by rw [size_set]; exact ws2
        have wo3 : ∀ q, q ≠ ab → (w2.setCell (th ab 5) (.int .i64 t.v)).heap[q]? = w.heap[q]? := fun q hq => by rw [heap_set_ne hq]; exact wo2.out q hq
        generalize w2.setCell (th ab 5) (.int .i64 t.v) = w3 at wn3 ws3 wo3 ⊢
        clear wn2 ws2 wo2 k4 kb
        replace wo3 := Lib.hid wo3
        have v5 : w3.cell? (th ab 5) = some (.int .i64 t.v) := cell_obj wn3 5
        repeat first | refine JG.seq ?_ | refine JG.skip ?_ | refine JG.inBlock ?_ | refine JG.block ?_ | refine JG.done ?_ | refine JG.label ?_ | refine JG.condT rfl ?_ | refine JG.condF rfl ?_ | (refine JG.region ?_; simp only [List.size_toArray, List.length_cons, List.length_nil, Nat.reduceAdd, Nat.zero_add, List.range, List.range.loop]) | (refine JG.unwanted rfl (by rfl) ?_; try walk_nrm) | (refine jgo rfl rfl (by rfl) (by decide) (fun K E hK hE τ d => ?_); go_simp; refine hK _ _ (JG.tap ?_); clear hK hE K E τ d; try walk_nrm) | (refine jgo rfl rfl (by rfl) (by decide) (fun K E hK hE τ d => ?_); have hfact := (under_cell _ τ d _).trans (v5); go_simp; refine hK _ _ (JG.tap ?_); clear hfact hK hE K E τ d; try walk_nrm)
        have x6 : w3.cell? (th ab 6) = some (.int .i64 a.now) := cell_obj wn3 6
        have y6 : w3.frozen? (th ab 6) = false := frozen_obj wn3 6
        refine jgo rfl rfl (by rfl) (by decide) (fun K E hK hE τ d => ?_)
        obtain ⟨hfact, hfact2⟩ := And.intro x6 y6
        replace hfact := (under_cell _ τ d _).trans hfact
        replace hfact2 := (under_frozen _ τ d _).trans hfact2
        go_simp
        refine hK _ _ ?_
        rw [under_setCell]
        refine JG.tap ?_
        clear hfact hfact2 hK hE K E τ d
        try walk_nrm
        clear x6 y6 v5
        have wn4 : (w3.setCell (th ab 6) (.int .i64 t.v)).heap[ab]? = some (.cells #[.int .i64 a.thread, .int .i8 a.op, .int .i64 cv, .int .i64 a.arg, .int .i64 a.new, .int .i64 t.v, .int .i64 t.v, .bool a.ok] 172 (0, 0)) := by rw [heap_set_self wn3]; rfl
        have ws4 : (w3.setCell (th ab 6) (.int .i64 t.v)).heap.size = ab + 1 := by rw [size_set]; exact ws3
        have wo4 : ∀ q, q < ab → (w3.setCell (th ab 6) (.int .i64 t.v)).heap[q]? = x.heap[q]? := fun q hq => by rw [heap_set_ne (by omega), wo3.out q (by omega)]; exact wo.out q hq
        generalize w3.setCell (th ab 6) (.int .i64 t.v) = w4 at wn4 ws4 wo4 ⊢
        clear wn3 ws3 wo3
        replace wo4 := Lib.hid wo4
        repeat first | refine JG.done ?_ | refine JG.seq ?_
        have hacc : accV t.left = [.int .i64 a.thread, .int .i8 a.op, .int .i64 cv, .int .i64 a.arg, .int .i64 a.new, .int .i64 t.v, .int .i64 t.v, .bool a.ok] := by rw [hleft.out]; simp [accV, hok, hcv]
        refine JG.code (closedG _) (by kernel_rfl) rfl (.inr (by kernel_rfl)) rfl (fun K R hK hR τ => ?_)
        replace hK := Lib.hid hK
        clear hR
        obtain ⟨y, hy⟩ : ∃ y, y = under w4 τ 0 := ⟨_, rfl⟩
        have hyh : y.heap = w4.heap := by rw [hy]; rfl
        rw [← hy]
        rw [← hyh] at wn4 ws4
        have c0 : y.cell? (th ab 0) = some (.int .i64 a.thread) := cell_obj wn4 0
        have c1 : y.cell? (th ab 1) = some (.int .i8 a.op) := cell_obj wn4 1
        have c2 : y.cell? (th ab 2) = some (.int .i64 cv) := cell_obj wn4 2
        have c3 : y.cell? (th ab 3) = some (.int .i64 a.arg) := cell_obj wn4 3
        have c4 : y.cell? (th ab 4) = some (.int .i64 a.new) := cell_obj wn4 4
        have c5 : y.cell? (th ab 5) = some (.int .i64 t.v) := cell_obj wn4 5
        have c6 : y.cell? (th ab 6) = some (.int .i64 t.v) := cell_obj wn4 6
        have c7 : y.cell? (th ab 7) = some (.bool a.ok) := cell_obj wn4 7
        have HO := Lib.hid ((own_heap (w' := y) HL.out fun g' e => by rw [hyh]; exact wo4.out g' (by have := own_lt HL.out e; omega)).alloc (.cells #[.int .i64 a.thread, .int .i8 a.op, .int .i64 cv, .int .i64 a.arg, .int .i64 a.new, .int .i64 t.v, .int .i64 t.v, .bool a.ok] 172))
        have N2 : Hid ((leftsOf (all.take i)).length + 1 ≤ maxLen) := Lib.hid (by unfold maxLen; omega)
        have N3 : Hid (((leftsOf (all.take i)).length + 1) * 64 ≤ 140737488355328) := Lib.hid (by omega)
        have N4 : Hid (M ≤ (y.alloc (.cells #[.int .i64 a.thread, .int .i8 a.op, .int .i64 cv, .int .i64 a.arg, .int .i64 a.new, .int .i64 t.v, .int .i64 t.v, .bool a.ok] 172)).heap.size) := Lib.hid (by simp; omega)
        have hwab : ab < y.heap.size := by omega
        have wo5 : ∀ q, q < ab → y.heap[q]? = x.heap[q]? := fun q hq => by rw [hyh]; exact wo4.out q hq
        replace wo5 := Lib.hid wo5
        clear hy hyh wo4
        replace wn4 := Lib.hid wn4
        replace ws4 := Lib.hid ws4
        replace hacc := Lib.hid hacc
        replace hcv := Lib.hid hcv
        replace hok := Lib.hid hok
        go_wp2_with (first | (at_builtin; refine wpList_append_lies _ rfl _ _ 41 rfl M 172 i0 _ 8 64 Try.underlying41 hi0 hz0 hz1 hz2 rfl (by decide) _ (leftsOf (all.take i)).length ((leftsOf (all.take i)).flatMap accV) rfl HO.out ⟨y.heap.size, 0, none⟩ 1 1 [.int .i64 a.thread, .int .i8 a.op, .int .i64 cv, .int .i64 a.arg, .int .i64 a.new, .int .i64 t.v, .int .i64 t.v, .bool a.ok] rfl rfl (World.news_of_block (cs := #[.int .i64 a.thread, .int .i8 a.op, .int .i64 cv, .int .i64 a.arg, .int .i64 a.new, .int .i64 t.v, .int .i64 t.v, .bool a.ok]) (t := 172) (fr := (0, 0)) (heap_alloc_new y _)) (by simp [Value.oneCell']) (by omega) N2.out N3.out N4.out _ rfl ?_; intro gg cap2 w5 hown hgrow hat hlt3; have HOWN := Lib.hid hown; have HGROW := Lib.hid hgrow; have HAT := Lib.hid hat; clear hown hgrow hat hlt3))
        refine hK.out _ _ ?_
        have hold : ∀ r, r < M → w5.heap[r]? = x.heap[r]? := fun r hr => by
          have h1 : some r ≠ (Value.slice al (leftsOf (all.take i)).length ac).ownBlock := fun e => by have := own_ge HL.out e.symm; omega
          rw [HGROW.out.block r (by simp; have := ws4.out; omega) h1, heap_alloc', Array.getElem?_push, if_neg (by have := ws4.out; omega)]
          exact wo5.out r (by omega)
        have hsz : ab ≤ w5.heap.size := by have := HGROW.out.size; simp at this; have := ws4.out; omega
        replace hold := Lib.hid hold
        replace hsz := Lib.hid hsz
        clear hK K R
        try walk_nrm
        repeat first | refine JG.seq ?_ | refine JG.skip ?_ | refine JG.inBlock ?_ | refine JG.block ?_ | refine JG.done ?_ | refine JG.label ?_ | refine JG.condT rfl ?_ | refine JG.condF rfl ?_ | (refine JG.region ?_; simp only [List.size_toArray, List.length_cons, List.length_nil, Nat.reduceAdd, Nat.zero_add, List.range, List.range.loop]) | (refine JG.unwanted rfl (by rfl) ?_; try walk_nrm) | (refine jgo rfl rfl (by rfl) (by decide) (fun K E hK hE τ d => ?_); go_simp; refine hK _ _ (JG.tap ?_); clear hK hE K E τ d; try walk_nrm)
        refine JG.inLoop ?_
        refine ih.out (i + 1) (by omega) w5 (.slice (some ⟨gg, 0, none⟩) ((leftsOf (all.take i)).length + 1) cap2) _ _ _ _ _ _ _ _ _ _ _ _ _ _ _ _ _ _ _ _ _ _ _ _ _ _ _ _ _ _ _ _ _ _ _ _ _ _ _ _ _ _ _ _ _ _ _ _ _ _ _ _ _ _ _ _ _ _ _ _ _ _ _ _ _ _ _ _ _ _ _ _ _ _ _ _ _ _ _ _ _ _ _ _ (own_heap hT.out fun g' e => hold.out g' (hTM g' e)) (fun j u hu => (hA.out j u hu).old hold.out) ?_ (by have := hsz.out; omega) hTM ?_ (fun z vl' w1 w2 w4 w5 w6 w7 w8 w9 w10 w11 w12 w13 w14 w15 w16 w17 w18 w19 w20 w21 w22 w23 w24 w25 w26 w27 w28 w29 w30 w31 w32 w33 w34 w35 w36 w37 w38 w39 w40 w41 w42 w43 w44 w45 w46 w47 w48 w49 w50 w51 w52 w53 w54 w55 w56 w57 w58 w59 w60 w61 w62 w63 w64 w65 w66 w67 w68 w69 w70 w71 w72 w73 w74 w75 w76 w77 w78 w79 w80 w81 w82 w83 w84 w85 w86 w87 w88 q1 q2 q3 => h.out z vl' w1 w2 w4 w5 w6 w7 w8 w9 w10 w11 w12 w13 w14 w15 w16 w17 w18 w19 w20 w21 w22 w23 w24 w25 w26 w27 w28 w29 w30 w31 w32 w33 w34 w35 w36 w37 w38 w39 w40 w41 w42 w43 w44 w45 w46 w47 w48 w49 w50 w51 w52 w53 w54 w55 w56 w57 w58 w59 w60 w61 w62 w63 w64 w65 w66 w67 w68 w69 w70 w71 w72 w73 w74 w75 w76 w77 w78 w79 w80 w81 w82 w83 w84 w85 w86 w87 w88 q1 (by have := hsz.out; omega) fun r hr => (q3 r hr).trans (hold.out r hr))
        · rw [hlf.out, List.length_append, List.flatMap_append]
          have hfm : [t.left].flatMap accV = [.int .i64 a.thread, .int .i8 a.op, .int .i64 cv, .int .i64 a.arg, .int .i64 a.new, .int .i64 t.v, .int .i64 t.v, .bool a.ok] := by simp [hacc.out]
          rw [hfm]
          exact HOWN.out
        · simp only [World.cell?] at hrm ⊢
          rw [hold.out rb hrM]; exact hrm
end
end Go.Proofs.Ytecmobjiepgfjaa
/- The threads that are left are stopped; gate's ends, whole. -/
namespace Go.Proofs.Ytecmobjiepgfjaa
open Go.Conc Go.RowKit
open Go.ConcN (upd upd_same upd_ne)
set_option linter.unusedSimpArgs false
set_option linter.unusedVariables false
set_option maxRecDepth 100000
section
variable {Sh : Type}
/-- What stands when the run has stopped, while main has the token. -/
structure Ending (Post : Value → World → Prop) (S : Side Sh) (F : Fix) (g : Gs) (P : Play Sh) (C : Ctx) (x : World) : Prop where
  gate : GateAt g P none true x
  apart : g.Apart
  rb : g.rb = F.rb
  mb : g.mb = F.mb
  N : g.N = F.N
  kept : g.kept = F.kept
  x0 : g.x0 = F.x0
  addr : g.A = S.A
  d : C.d = 0
  n : C.n = F.n0 + P.n
  main : F.hm < F.n0
  lo : C.lo = F.lo
  low : F.lo ≤ F.N
  io : C.io = F.io
  holds : C.h = F.hm
  live : ∀ j, j < P.n → (∃ r k, P.progs j = .acc r k) ∨ (∃ v, P.progs j = .ret v)
  chairs : Chairs Post S F g P 0 none C.Ch
variable {Post : Value → World → Prop} {S : Side Sh} {F : Fix} {g : Gs} {P : Play Sh} {C : Ctx} {x : World} {c : Frame} {cs : List Frame}
theorem GateAt.stopped {h : Option Nat} (H : GateAt g P h false x) (hap : g.Apart) : GateAt g P h true (x.setCell (th g.rb 6) (.bool true)) := by
  have keep : ∀ (b : Nat) (o : Obj), x.heap[b]? = some o → (∀ cur, o ≠ .cells cur 179 (0, 0)) → (x.setCell (th g.rb 6) (.bool true)).heap[b]? = some o := fun b o hb hn => by
    rw [heap_set_ne (blk_ne hb H.obj (hn _))]; exact hb
  have hown : ∀ {e : TypeId} {size : Nat} {v : Value} {n : Nat} {xs : List Value}, x.ownsRow g.N e size v n xs → e ≠ 179 → (x.setCell (th g.rb 6) (.bool true)).ownsRow g.N e size v n xs := fun hv e1 => own_heap hv fun b hb => by
    obtain ⟨cur, hc⟩ := own_obj hv hb
    rw [keep b _ hc (fun c e => by injection e with _ e; exact e1 e), hc]
  refine ⟨?_, hown H.ths (by decide), hown H.fls (by decide), hown H.lg (by decide), hown H.wn (by decide), hown H.rd (by decide), ?_, H.num, fun j u hu => ?_, fun b hb => ?_, by rw [size_set]; exact H.low, fun u hu => by rw [size_set]; exact H.abl u hu⟩
  · rw [heap_set_self H.obj]; rfl
  · obtain ⟨es, cl, hmb, hx⟩ := H.map
    exact ⟨es, cl, keep _ _ hmb (by simp), hx⟩
  · obtain ⟨h1, h2, ⟨k3, h3⟩, ⟨k4, h4⟩, ⟨vv, a, h5, h6⟩, h7⟩ := H.thr j u hu
    exact ⟨keep _ _ h1 (by simp), keep _ _ h2 (by simp), ⟨k3, keep _ _ h3 (by simp)⟩, ⟨k4, keep _ _ h4 (by simp)⟩, ⟨vv, a, keep _ _ h5 (by simp), h6⟩, fun e r k e2 => keep _ _ (h7 e r k e2) (by simp)⟩
  · obtain ⟨b1, b2⟩ := H.kept b hb
    obtain ⟨k1, _⟩ := hap.kept b hb
    exact ⟨by rw [size_set]; exact b1, by rw [heap_set_ne k1]; exact b2⟩
theorem Stood.stopped (H : Stood Post S F g P 0 none C x) : Ending Post S F g P C (x.setCell (th F.rb 6) (.bool true)) := by
  have := H.gate.stopped H.apart
  rw [H.rb] at this
  exact ⟨this, H.apart, H.rb, H.mb, H.N, H.kept, H.x0, H.addr, H.d, H.n, H.main, H.lo, H.low, H.io, H.holds, fun j hj => H.live j hj (by simp), H.chairs⟩
theorem Ending.frame {y : World} (H : Ending Post S F g P C x) (hy : ∀ r, g.col r → y.heap[r]? = x.heap[r]?) (hs : x.heap.size ≤ y.heap.size) : Ending Post S F g P C y :=
  ⟨H.gate.frame hy hs, H.apart, H.rb, H.mb, H.N, H.kept, H.x0, H.addr, H.d, H.n, H.main, H.lo, H.low, H.io, H.holds, H.live, H.chairs⟩
/-- A thread that is left is stopped. -/
theorem stop_J {i : Nat} {t : Th} {r : Ask} {k : Told → Prog Sh Unit} (H : Ending Post S F g P C x) (hi : g.thr[i]? = some t) (hp : P.progs i = .acc r k)
    (hnext : ∀ (C' : Ctx) (z : World), Ending Post S F g { P with progs := upd P.progs i (.ret ()) } C' z → x.heap.size ≤ z.heap.size → (∀ q, q < x.heap.size → ¬ g.col q → z.heap[q]? = x.heap[q]?) → JG Try.prog Post C' (G (c.finish (.tuple #[])) cs) z) :
    JG Try.prog Post C (G (Frame.enter Try.prog 132 #[P0 t.tb] .normal) (c :: cs)) x := by
  obtain ⟨W, cb, cf, csf, a1, a2, a3, a4, a5, hr, hrc, hcb, hcs⟩ := H.chairs.chair i t r k hi (by simp) hp
  have he : (P.progs i).ended = false := by rw [hp]; rfl
  have hh : C.h = F.hm := H.holds
  have hmain := H.main
  have hmem : t ∈ g.thr := List.mem_of_getElem? hi
  have hin : i < P.n := by rw [← H.gate.num]; exact (List.getElem?_eq_some_iff.1 hi).1
  have hT := H.gate.thr i t hi
  have e0 : ((none : Option Nat) == some i) = false := rfl
  rw [e0] at hT
  obtain ⟨htv, hrv, ⟨kw, hwk⟩, ⟨ks, hst⟩, ⟨vv, ao, htb, _⟩, _⟩ := hT
  replace htb : x.heap[t.tb]? = some (.cells (thrObj g.rb i t.wk t.st vv ao false) 184 (2, 4)) := by simpa [he] using htb
  refine goes_J (j := F.n0 + i) (sj := W) (st := t.st) H.d (by omega) a1 (by rw [a2]; exact cell_obj htb 2) (cell_obj htb 3) ⟨(Array.getElem?_eq_some_iff.1 hst).1, ⟨ks, hst⟩, fun i' s' h1 h2 => ?_, fun a v hv => by obtain ⟨rfl, rfl⟩ := hv; exact cell_obj htb 3⟩ (by simp [World.frozen?, htb]) (fun g₂ kk hg hck => ?_)
  · obtain ⟨j, u, e1, e2, e3, _⟩ := H.chairs.oth i' s' (by rw [← hh]; exact h1) h2 (fun j q => by cases q)
    rw [e3]; exact H.apart.ws j i u t e2 hi
  · rw [a2]
    obtain ⟨x1, hx1⟩ : ∃ x1, x1 = x.setChan t.wk 0 #[] false (kk + 1) (kk + 1) false := ⟨_, rfl⟩
    rw [← hx1]
    have H1 : GateAt g P none true x1 := by rw [hx1]; exact H.gate.chan H.apart ⟨t, hmem, .inl rfl⟩
    have hs1 : x1.heap.size = x.heap.size := by rw [hx1]; exact size_chan _ _ _
    have ho1 : ∀ q, ¬ g.col q → x1.heap[q]? = x.heap[q]? := fun q hq => by rw [hx1]; exact heap_chan_ne fun e => hq (colThr hmem (by simp [e]))
    have H2 : GateAt g { P with progs := upd P.progs i (.ret ()), st := { P.st with sh := P.st.sh } } (some i) true x1 := (H1.let he).settled
    have hT1 := H2.thr i t hi
    have e1 : (some i == some i) = true := by simp
    rw [e1] at hT1
    obtain ⟨htv1, hrv1, _, ⟨ks1, hst1⟩, ⟨vv1, ao1, htb1, _⟩, _⟩ := hT1
    replace htb1 : x1.heap[t.tb]? = some (.cells (thrObj g.rb i t.wk t.st vv1 ao1 false) 184 (2, 4)) := by simpa using htb1
    refine (a4 g₂ hg).stop _ x1 _ g.rb (cell_obj htb1 0) (cell_obj H1.obj 6) ?_
    refine a5 _ x1 (fun y hsz hy => ?_)
    have H3 : GateAt g { P with progs := upd P.progs i (.ret ()), st := { P.st with sh := P.st.sh } } (some i) true y := H2.frame (fun r hr => hy r (H2.colLt hr)) hsz
    have lt : ∀ {q : Nat} {o : Obj}, x1.heap[q]? = some o → y.heap[q]? = some o := fun {q o} h => (hy q (Array.getElem?_eq_some_iff.1 h).1).trans h
    refine hcs _ y ⟨⟨F.hm, goesChair Post t.tb t.st c cs, false, g.rb, rfl, by show 0 < F.n0 + i; omega, by show F.hm ≠ F.n0 + i; omega, ?_, rfl, cell_obj (lt hrv1) 0, cell_obj H3.obj 6, cell_obj (lt htv1) 0, cell_obj (lt htb1) 3, cell_obj (lt htb1) 13, by simp [World.frozen?, lt htb1], fun g₃ kk' h3 hc3 => ?_⟩⟩
    · show upd C.Ch C.h _ F.hm = _
      rw [hh]; exact upd_same _ _ _
    · refine h3 _ _ _ ?_
      have hsb : t.st ≠ t.tb := blk_ne (lt hst1) (lt htb1) (by simp)
      have hlt : t.st < (y.setCell (th t.tb 13) (.bool true)).heap.size := by rw [size_set]; exact (Array.getElem?_eq_some_iff.1 (lt hst1)).1
      have hz6 : ∀ q, q ≠ t.tb → q ≠ t.st → ((y.setCell (th t.tb 13) (.bool true)).setChan t.st 0 #[] false (kk' + 1) (kk' + 1) false).heap[q]? = y.heap[q]? := fun q h1 h2 => by rw [heap_chan_ne h2, heap_set_ne h1]
      have HG := H3.ended (z := (y.setCell (th t.tb 13) (.bool true)).setChan t.st 0 #[] false (kk' + 1) (kk' + 1) false) (kk := kk' + 1) (vv := vv1) (a := ao1) H.apart hi (by simp [upd_same, Prog.ended])
        (by rw [heap_chan_ne (fun e => hsb e.symm), heap_set_self (lt htb1)]; rfl) hz6 (chan_self hlt) (by rw [size_chan, size_set])
      refine hnext _ _ ⟨HG, H.apart, H.rb, H.mb, H.N, H.kept, H.x0, H.addr, rfl, H.n, hmain, H.lo, H.low, H.io, rfl, fun j hj => ?_, ⟨fun i' s' h1 h2 _ => ?_, fun j u r k h1 _ h3 => ?_⟩⟩ (by rw [size_chan, size_set]; omega) (fun q hq hc => ?_)
      · by_cases e : j = i
        · subst e; exact .inr ⟨_, upd_same _ _ _⟩
        · rcases H.live j hj with ⟨r, k, q⟩ | ⟨v', q⟩
          · exact .inl ⟨r, k, (upd_ne _ _ e).trans q⟩
          · exact .inr ⟨v', (upd_ne _ _ e).trans q⟩
      · replace h2 : upd (upd C.Ch C.h (some (goesChair Post t.tb t.st c cs))) (F.n0 + i) none i' = some s' := h2
        by_cases e : i' = F.n0 + i
        · subst e; rw [upd_same] at h2; cases h2
        · rw [upd_ne _ _ e, upd_ne _ _ (by omega)] at h2
          obtain ⟨j, u, e1, e2, e3, e4⟩ := H.chairs.oth i' s' h1 h2 (fun j q => by cases q)
          exact ⟨j, u, e1, e2, e3, by show (upd P.progs i (Prog.ret ()) j).ended = false; rw [upd_ne _ _ (by rintro rfl; omega)]; exact e4⟩
      · replace h3 : upd P.progs i (Prog.ret ()) j = Prog.acc r k := h3
        have hji : j ≠ i := by rintro rfl; rw [upd_same] at h3; cases h3
        rw [upd_ne _ _ hji] at h3
        obtain ⟨W', cb', cf', csf', b1, b2⟩ := H.chairs.chair j u r k h1 (by simp) h3
        refine ⟨W', cb', cf', csf', ?_, b2⟩
        show upd (upd C.Ch C.h (some (goesChair Post t.tb t.st c cs))) (F.n0 + i) none (F.n0 + j) = _
        rw [upd_ne _ _ (by omega), upd_ne _ _ (by omega)]; exact b1
      · rw [hz6 q (fun e => hc (colThr hmem (by simp [e]))) (fun e => hc (colThr hmem (by simp [e]))), hy q (by omega), ho1 q hc]
set_option maxHeartbeats 4000000 in
theorem stop_loop {vl : Value} : ∀ (k i : Nat) (P : Play Sh), i + k = P.n → P.n ≤ 64 → ∀ (C : Ctx) (x : World) (u1 u2 u4 u5 u6 u7 u8 u10 u11 u12 u13 u14 u15 u16 u17 u18 u19 u20 u21 u22 u23 u24 u25 u26 u27 u28 u29 u30 u31 u32 u33 u34 u35 u36 u37 u38 u39 u40 u41 u42 u43 u44 u45 u46 u47 u48 u49 u50 u51 u52 u53 u54 u55 u56 u57 u58 u59 u60 u61 u62 u63 u64 u65 u66 u67 u68 u69 u70 u71 u72 u73 u74 u75 u76 u77 u78 u79 u80 u81 u82 u83 u84 u85 u86 u87 u88 : Value), Ending Post S F g P C x → (∀ j, j < i → (P.progs j).ended = true) →
    (∀ (P' : Play Sh) (C' : Ctx) (z : World) (u1 u2 u4 u5 u6 u7 u8 u9 u10 u11 u12 u13 u14 u15 u16 u17 u18 u19 u20 u21 u22 u23 u24 u25 u26 u27 u28 u29 u30 u31 u32 u33 u34 u35 u36 u37 u38 u39 u40 u41 u42 u43 u44 u45 u46 u47 u48 u49 u50 u51 u52 u53 u54 u55 u56 u57 u58 u59 u60 u61 u62 u63 u64 u65 u66 u67 u68 u69 u70 u71 u72 u73 u74 u75 u76 u77 u78 u79 u80 u81 u82 u83 u84 u85 u86 u87 u88 : Value), Ending Post S F g P' C' z → P'.n = P.n → P'.st = P.st → (∀ j, j < P.n → (P'.progs j).ended = true) → x.heap.size ≤ z.heap.size → (∀ q, q < x.heap.size → ¬ g.col q → z.heap[q]? = x.heap[q]?) → JG Try.prog Post C' (G ((base 133).at ⟨List.toArray ((P0 F.rb) :: u1 :: u2 :: (vl) :: u4 :: u5 :: u6 :: u7 :: u8 :: u9 :: u10 :: u11 :: u12 :: u13 :: u14 :: u15 :: u16 :: u17 :: u18 :: u19 :: u20 :: u21 :: u22 :: u23 :: u24 :: u25 :: u26 :: u27 :: u28 :: u29 :: u30 :: u31 :: u32 :: u33 :: u34 :: u35 :: u36 :: u37 :: u38 :: u39 :: u40 :: u41 :: u42 :: u43 :: u44 :: u45 :: u46 :: u47 :: u48 :: u49 :: u50 :: u51 :: u52 :: u53 :: u54 :: u55 :: u56 :: u57 :: u58 :: u59 :: u60 :: u61 :: u62 :: u63 :: u64 :: u65 :: u66 :: u67 :: u68 :: u69 :: u70 :: u71 :: u72 :: u73 :: u74 :: u75 :: u76 :: u77 :: u78 :: u79 :: u80 :: u81 :: u82 :: u83 :: u84 :: u85 :: u86 :: u87 :: u88 :: []), []⟩ [.code (Code.nav (Try.f133.body.getD .skip) [1, 1, 1, 1, 1])]) (c :: cs)) z) →
    JG Try.prog Post C (G ((base 133).at ⟨List.toArray ((P0 F.rb) :: u1 :: u2 :: (vl) :: u4 :: u5 :: u6 :: u7 :: u8 :: (.int .i64 i) :: u10 :: u11 :: u12 :: u13 :: u14 :: u15 :: u16 :: u17 :: u18 :: u19 :: u20 :: u21 :: u22 :: u23 :: u24 :: u25 :: u26 :: u27 :: u28 :: u29 :: u30 :: u31 :: u32 :: u33 :: u34 :: u35 :: u36 :: u37 :: u38 :: u39 :: u40 :: u41 :: u42 :: u43 :: u44 :: u45 :: u46 :: u47 :: u48 :: u49 :: u50 :: u51 :: u52 :: u53 :: u54 :: u55 :: u56 :: u57 :: u58 :: u59 :: u60 :: u61 :: u62 :: u63 :: u64 :: u65 :: u66 :: u67 :: u68 :: u69 :: u70 :: u71 :: u72 :: u73 :: u74 :: u75 :: u76 :: u77 :: u78 :: u79 :: u80 :: u81 :: u82 :: u83 :: u84 :: u85 :: u86 :: u87 :: u88 :: []), []⟩ [.code (Code.nav (Try.f133.body.getD .skip) [1, 1, 1, 1, 0, 1, 0, 0]), .inLoop (Code.nav (Try.f133.body.getD .skip) [1, 1, 1, 1, 0, 1, 0, 0]), .inBlock 2, .code (Code.nav (Try.f133.body.getD .skip) [1, 1, 1, 1, 1])]) (c :: cs)) x := by
  intro k
  induction k with
  | zero =>
    intro i P hik hn C x u1 u2 u4 u5 u6 u7 u8 u10 u11 u12 u13 u14 u15 u16 u17 u18 u19 u20 u21 u22 u23 u24 u25 u26 u27 u28 u29 u30 u31 u32 u33 u34 u35 u36 u37 u38 u39 u40 u41 u42 u43 u44 u45 u46 u47 u48 u49 u50 u51 u52 u53 u54 u55 u56 u57 u58 u59 u60 u61 u62 u63 u64 u65 u66 u67 u68 u69 u70 u71 u72 u73 u74 u75 u76 u77 u78 u79 u80 u81 u82 u83 u84 u85 u86 u87 u88 H hend h
    simp only [Try.f133, Option.getD_some, Code.nav] at h ⊢
    have hx : decide ((i : Int) < P.n) = false := by simp; omega
    have hxN : decide (i < P.n) = false := by simp; omega
    obtain ⟨ao, ac, evT⟩ := own_slice H.gate.ths
    have k0 : x.cell? (th F.rb 0) = some (.slice ao P.n ac) := by rw [← H.rb, cell_obj H.gate.obj 0, ← H.gate.num, ← evT]; rfl
    replace h := h P C x
    replace h := fun (w1 w2 w4 w5 w6 w7 w8 w9 w10 w11 w12 w13 w14 w15 w16 w17 w18 w19 w20 w21 w22 w23 w24 w25 w26 w27 w28 w29 w30 w31 w32 w33 w34 w35 w36 w37 w38 w39 w40 w41 w42 w43 w44 w45 w46 w47 w48 w49 w50 w51 w52 w53 w54 w55 w56 w57 w58 w59 w60 w61 w62 w63 w64 w65 w66 w67 w68 w69 w70 w71 w72 w73 w74 w75 w76 w77 w78 w79 w80 w81 w82 w83 w84 w85 w86 w87 w88 : Value) => h w1 w2 w4 w5 w6 w7 w8 w9 w10 w11 w12 w13 w14 w15 w16 w17 w18 w19 w20 w21 w22 w23 w24 w25 w26 w27 w28 w29 w30 w31 w32 w33 w34 w35 w36 w37 w38 w39 w40 w41 w42 w43 w44 w45 w46 w47 w48 w49 w50 w51 w52 w53 w54 w55 w56 w57 w58 w59 w60 w61 w62 w63 w64 w65 w66 w67 w68 w69 w70 w71 w72 w73 w74 w75 w76 w77 w78 w79 w80 w81 w82 w83 w84 w85 w86 w87 w88 H rfl rfl (fun j hj => hend j (by omega)) (Nat.le_refl _) (fun q _ _ => rfl)
    replace h := Lib.hid h
    clear H hend evT
    repeat first | refine JG.seq ?_ | refine JG.skip ?_ | refine JG.inBlock ?_ | refine JG.block ?_ | refine JG.done ?_ | refine JG.label ?_ | refine JG.condT rfl ?_ | refine JG.condF rfl ?_ | (refine JG.region ?_; simp only [List.size_toArray, List.length_cons, List.length_nil, Nat.reduceAdd, Nat.zero_add, List.range, List.range.loop]) | (refine JG.unwanted rfl (by rfl) ?_; try walk_nrm) | (refine jgo rfl rfl (by rfl) (by decide) (fun K E hK hE τ d => ?_); go_simp; refine hK _ _ (JG.tap ?_); clear hK hE K E τ d; try walk_nrm) | (refine jgo rfl rfl (by rfl) (by decide) (fun K E hK hE τ d => ?_); have hfact := (under_cell _ τ d _).trans (k0); go_simp; refine hK _ _ (JG.tap ?_); clear hfact hK hE K E τ d; try walk_nrm)
    refine JG.exit (by rfl) ?_
    first | exact h.out _ _ _ _ _ _ _ _ _ _ _ _ _ _ _ _ _ _ _ _ _ _ _ _ _ _ _ _ _ _ _ _ _ _ _ _ _ _ _ _ _ _ _ _ _ _ _ _ _ _ _ _ _ _ _ _ _ _ _ _ _ _ _ _ _ _ _ _ _ _ _ _ _ _ _ _ _ _ _ _ _ _ _ _ _ _ _ | (walk_nrm; exact h.out _ _ _ _ _ _ _ _ _ _ _ _ _ _ _ _ _ _ _ _ _ _ _ _ _ _ _ _ _ _ _ _ _ _ _ _ _ _ _ _ _ _ _ _ _ _ _ _ _ _ _ _ _ _ _ _ _ _ _ _ _ _ _ _ _ _ _ _ _ _ _ _ _ _ _ _ _ _ _ _ _ _ _ _ _ _ _)
  | succ k ih =>
    intro i P hik hn C x u1 u2 u4 u5 u6 u7 u8 u10 u11 u12 u13 u14 u15 u16 u17 u18 u19 u20 u21 u22 u23 u24 u25 u26 u27 u28 u29 u30 u31 u32 u33 u34 u35 u36 u37 u38 u39 u40 u41 u42 u43 u44 u45 u46 u47 u48 u49 u50 u51 u52 u53 u54 u55 u56 u57 u58 u59 u60 u61 u62 u63 u64 u65 u66 u67 u68 u69 u70 u71 u72 u73 u74 u75 u76 u77 u78 u79 u80 u81 u82 u83 u84 u85 u86 u87 u88 H hend h
    simp only [Try.f133, Option.getD_some, Code.nav] at ih h ⊢
    have hx : decide ((i : Int) < P.n) = true := by simp; omega
    have hxN : decide (i < P.n) = true := by simp; omega
    have hlt : i < P.n := by omega
    have hlt' : (i : Int) < P.n := by omega
    have h0i : (0 : Int) ≤ i := by omega
    have hw : IntKind.i64.wrap ((i : Int) + 1) = ((i + 1 : Nat) : Int) := by rw [IntKind.wrap_i64]; omega
    obtain ⟨t, ht⟩ : ∃ t, g.thr[i]? = some t := ⟨_, List.getElem?_eq_getElem (by rw [H.gate.num]; exact hlt)⟩
    have hths := H.gate.ths
    rw [H.gate.num] at hths
    obtain ⟨gt, cap, evT, hg⟩ := own_get hths (by omega)
    have k0 : x.cell? (th F.rb 0) = some (.slice (some ⟨gt, 0, none⟩) P.n cap) := by rw [← H.rb, cell_obj H.gate.obj 0, ← evT]; rfl
    have hgi : x.cell? (th gt i) = some (P0 t.tb) := hg i _ (by rw [List.getElem?_map, ht]; rfl)
    have hT := H.gate.thr i t ht
    have e0 : ((none : Option Nat) == some i) = false := rfl
    rw [e0] at hT
    obtain ⟨_, _, _, _, ⟨vv, ao, htb, _⟩, _⟩ := hT
    have h13 : x.cell? (th t.tb 13) = some (.bool (P.progs i).ended) := by rw [cell_obj htb 13]; simp [thrObj]
    have HH := Lib.hid H
    have HE := Lib.hid hend
    replace h := Lib.hid h
    replace ih := Lib.hid ih
    clear H hend hths evT hg htb
    rcases HH.out.live i hlt with ⟨r, kk, hp⟩ | ⟨v, hp⟩
    · rw [hp] at h13
      replace h13 : x.cell? (th t.tb 13) = some (.bool false) := h13
      repeat first | refine JG.seq ?_ | refine JG.skip ?_ | refine JG.inBlock ?_ | refine JG.block ?_ | refine JG.done ?_ | refine JG.label ?_ | refine JG.condT rfl ?_ | refine JG.condF rfl ?_ | (refine JG.region ?_; simp only [List.size_toArray, List.length_cons, List.length_nil, Nat.reduceAdd, Nat.zero_add, List.range, List.range.loop]) | (refine JG.unwanted rfl (by rfl) ?_; try walk_nrm) | (refine jgo rfl rfl (by rfl) (by decide) (fun K E hK hE τ d => ?_); go_simp; refine hK _ _ (JG.tap ?_); clear hK hE K E τ d; try walk_nrm) | (refine jgo rfl rfl (by rfl) (by decide) (fun K E hK hE τ d => ?_); have hfact := (under_cell _ τ d _).trans (k0); go_simp; refine hK _ _ (JG.tap ?_); clear hfact hK hE K E τ d; try walk_nrm) | (refine jgo rfl rfl (by rfl) (by decide) (fun K E hK hE τ d => ?_); have hfact := (under_cell _ τ d _).trans (hgi); go_simp; refine hK _ _ (JG.tap ?_); clear hfact hK hE K E τ d; try walk_nrm) | (refine jgo rfl rfl (by rfl) (by decide) (fun K E hK hE τ d => ?_); have hfact := (under_cell _ τ d _).trans (h13); go_simp; refine hK _ _ (JG.tap ?_); clear hfact hK hE K E τ d; try walk_nrm)
      refine JG.call (f := 132) (args := #[P0 t.tb]) rfl (by rfl) (by decide) (fun w => ?_) (fun w => ?_) ?_
      iterate 2 (focus obtain ⟨fn, h1, h2, h3⟩ : HasBody 132 := ⟨_, Try.func132, by kernel_rfl, by kernel_rfl⟩; have h4 : ¬ fn.name = "runtime.NumGoroutine" := (by simpa using h2); have h5 : ¬ fn.body = none := (by intro e; rw [e] at h3; cases h3); simp [go_sem, execOp, Act.eval, resolve, Deferred.ofValue, invoke, callFunc, h1, h4, h5])
      refine stop_J HH.out ht hp (fun C' z H2 hs2 ho2 => ?_)
      rw [Frame.finish_at]
      walk_nrm
      repeat first | refine JG.seq ?_ | refine JG.skip ?_ | refine JG.inBlock ?_ | refine JG.block ?_ | refine JG.done ?_ | refine JG.label ?_ | refine JG.condT rfl ?_ | refine JG.condF rfl ?_ | (refine JG.region ?_; simp only [List.size_toArray, List.length_cons, List.length_nil, Nat.reduceAdd, Nat.zero_add, List.range, List.range.loop]) | (refine JG.unwanted rfl (by rfl) ?_; try walk_nrm) | (refine jgo rfl rfl (by rfl) (by decide) (fun K E hK hE τ d => ?_); go_simp; refine hK _ _ (JG.tap ?_); clear hK hE K E τ d; try walk_nrm)
      refine JG.inLoop ?_
      refine ih.out (i + 1) { P with progs := upd P.progs i (.ret ()) } (by show i + 1 + k = P.n; omega) hn C' z _ _ _ _ _ _ _ _ _ _ _ _ _ _ _ _ _ _ _ _ _ _ _ _ _ _ _ _ _ _ _ _ _ _ _ _ _ _ _ _ _ _ _ _ _ _ _ _ _ _ _ _ _ _ _ _ _ _ _ _ _ _ _ _ _ _ _ _ _ _ _ _ _ _ _ _ _ _ _ _ _ _ _ _ _ _ H2 (fun j hj => ?_) (fun P' C2 z2 w1 w2 w4 w5 w6 w7 w8 w9 w10 w11 w12 w13 w14 w15 w16 w17 w18 w19 w20 w21 w22 w23 w24 w25 w26 w27 w28 w29 w30 w31 w32 w33 w34 w35 w36 w37 w38 w39 w40 w41 w42 w43 w44 w45 w46 w47 w48 w49 w50 w51 w52 w53 w54 w55 w56 w57 w58 w59 w60 w61 w62 w63 w64 w65 w66 w67 w68 w69 w70 w71 w72 w73 w74 w75 w76 w77 w78 w79 w80 w81 w82 w83 w84 w85 w86 w87 w88 H3 n3 s3 e3 hs3 ho3 => h.out P' C2 z2 w1 w2 w4 w5 w6 w7 w8 w9 w10 w11 w12 w13 w14 w15 w16 w17 w18 w19 w20 w21 w22 w23 w24 w25 w26 w27 w28 w29 w30 w31 w32 w33 w34 w35 w36 w37 w38 w39 w40 w41 w42 w43 w44 w45 w46 w47 w48 w49 w50 w51 w52 w53 w54 w55 w56 w57 w58 w59 w60 w61 w62 w63 w64 w65 w66 w67 w68 w69 w70 w71 w72 w73 w74 w75 w76 w77 w78 w79 w80 w81 w82 w83 w84 w85 w86 w87 w88 H3 n3 s3 e3 (by omega) fun q hq hc => (ho3 q (by omega) hc).trans (ho2 q hq hc))
      by_cases e : j = i
      · subst e; show (upd P.progs j (Prog.ret ()) j).ended = true; rw [upd_same]; rfl
      · show (upd P.progs i (Prog.ret ()) j).ended = true
        rw [upd_ne _ _ e]; exact HE.out j (by omega)
    · rw [hp] at h13
      replace h13 : x.cell? (th t.tb 13) = some (.bool true) := h13
      repeat first | refine JG.seq ?_ | refine JG.skip ?_ | refine JG.inBlock ?_ | refine JG.block ?_ | refine JG.done ?_ | refine JG.label ?_ | refine JG.condT rfl ?_ | refine JG.condF rfl ?_ | (refine JG.region ?_; simp only [List.size_toArray, List.length_cons, List.length_nil, Nat.reduceAdd, Nat.zero_add, List.range, List.range.loop]) | (refine JG.unwanted rfl (by rfl) ?_; try walk_nrm) | (refine jgo rfl rfl (by rfl) (by decide) (fun K E hK hE τ d => ?_); go_simp; refine hK _ _ (JG.tap ?_); clear hK hE K E τ d; try walk_nrm) | (refine jgo rfl rfl (by rfl) (by decide) (fun K E hK hE τ d => ?_); have hfact := (under_cell _ τ d _).trans (k0); go_simp; refine hK _ _ (JG.tap ?_); clear hfact hK hE K E τ d; try walk_nrm) | (refine jgo rfl rfl (by rfl) (by decide) (fun K E hK hE τ d => ?_); have hfact := (under_cell _ τ d _).trans (hgi); go_simp; refine hK _ _ (JG.tap ?_); clear hfact hK hE K E τ d; try walk_nrm) | (refine jgo rfl rfl (by rfl) (by decide) (fun K E hK hE τ d => ?_); have hfact := (under_cell _ τ d _).trans (h13); go_simp; refine hK _ _ (JG.tap ?_); clear hfact hK hE K E τ d; try walk_nrm)
      refine JG.inLoop ?_
      refine ih.out (i + 1) P (by omega) hn C x _ _ _ _ _ _ _ _ _ _ _ _ _ _ _ _ _ _ _ _ _ _ _ _ _ _ _ _ _ _ _ _ _ _ _ _ _ _ _ _ _ _ _ _ _ _ _ _ _ _ _ _ _ _ _ _ _ _ _ _ _ _ _ _ _ _ _ _ _ _ _ _ _ _ _ _ _ _ _ _ _ _ _ _ _ _ HH.out (fun j hj => ?_) h.out
      by_cases e : j = i
      · subst e; rw [hp]; rfl
      · exact HE.out j (by omega)
end
theorem lefts_map {Sh : Type} : ∀ (all : List Lo) (f : Nat → Option Entry) (off : Nat), (∀ (j : Nat) (t : Lo), all[j]? = some t → (if t.e then none else some t.left) = f (off + j)) → leftsOf all = (List.range' off all.length).filterMap f := by
  intro all
  induction all with
  | nil => intros; rfl
  | cons t l ih =>
    intro f off h
    have h1 := h 0 t rfl
    have hi := ih f (off + 1) (fun j u e => by
      have := h (j + 1) u (by simpa using e)
      rw [show off + (j + 1) = off + 1 + j by omega] at this
      exact this)
    rw [Nat.add_zero] at h1
    unfold leftsOf at hi ⊢
    rw [List.length_cons, List.range'_succ, List.filterMap_cons, ← h1]
    cases he : t.e <;> simp [he, hi]
section
variable {Sh : Type} {Post : Value → World → Prop} {S : Side Sh} {F : Fix} {g : Gs} {P : Play Sh} {C : Ctx} {x : World} {c : Frame} {cs : List Frame}
/-- Where main stands, the threads as ends sees them. -/
theorem Stood.lefts (H : Stood Post S F g P 0 none C x) (hI : S.I P.st.sh P.st.cells g.col x) :
    ∃ all : List Lo, all.length = P.n ∧ (∀ (j : Nat) (t : Lo), all[j]? = some t → t.At x x.heap.size F.rb F.mb j) ∧ (all.map fun t => P0 t.tb) = (g.thr.map fun t => P0 t.tb) ∧ leftsOf all = P.left := by
  have hex : ∀ j, j < P.n → ∃ t : Lo, t.At x x.heap.size F.rb F.mb j ∧ (∀ u, g.thr[j]? = some u → t.tb = u.tb) ∧ (if t.e then none else some t.left) = P.stands j := fun j hj => by
    obtain ⟨u, hu⟩ : ∃ u, g.thr[j]? = some u := ⟨_, List.getElem?_eq_getElem (by rw [H.gate.num]; exact hj)⟩
    have hT := H.gate.thr j u hu
    have e0 : ((none : Option Nat) == some j) = false := rfl
    rw [e0] at hT
    obtain ⟨h1, h2, _, _, ⟨vv, a, h5, h6⟩, h7⟩ := hT
    rw [H.rb] at h5
    have hlt := (Array.getElem?_eq_some_iff.1 h5).1
    rcases H.live j hj (by simp) with ⟨r, k, hp⟩ | ⟨v, hp⟩
    · obtain ⟨e1, e2⟩ := h6 rfl r k hp
      obtain ⟨_, _, _, _, _, _, _, _, _, _, hrc, _⟩ := H.chairs.chair j u r k hu (by simp) hp
      obtain ⟨⟨ca, ta, c1⟩, c2, _⟩ := S.cell hI _ hrc
      have hne : (P.progs j).ended = false := by rw [hp]; rfl
      rw [hne] at h5
      refine ⟨⟨u.tb, u.wk, u.st, vv, a, false, S.A r.cell, P.st.cells r.cell, ((if r.cell ∈ P.st.names then (P.st.names.idxOf r.cell : Nat) else (0 : Nat) : Nat) : Int), decide (r.cell ∈ P.st.names)⟩, ⟨h5, hlt, fun _ => ⟨by rw [e1, H.addr], (Array.getElem?_eq_some_iff.1 c1).1, c2, fun y hy => ?_⟩⟩, fun u' e => by rw [hu] at e; rw [Option.some.inj e], ?_⟩
      · have hm := H.gate.map
        rw [H.mb, H.addr] at hm
        obtain ⟨es, cl, m1, m2⟩ := hm
        refine look_cell (A := S.A) (names := P.st.names) (id := r.cell) ⟨es, cl, (hy _ (Array.getElem?_eq_some_iff.1 m1).1).trans m1, m2⟩ ⟨ca, ta, (hy _ (Array.getElem?_eq_some_iff.1 c1).1).trans c1⟩ (fun q hq => ?_)
        obtain ⟨⟨ca', ta', c1'⟩, _⟩ := S.cell hI q (H.names q hq)
        exact ⟨⟨ca', ta', (hy _ (Array.getElem?_eq_some_iff.1 c1').1).trans c1'⟩, fun e => S.inj q r.cell (H.names q hq) hrc e⟩
      · simp only [Play.stands, hp, Prog.req, Lo.left, e2, Ask.at', Option.map_some, Rst.num]
        by_cases hin : r.cell ∈ P.st.names <;> simp [hin]
    · have he : (P.progs j).ended = true := by rw [hp]; rfl
      rw [he] at h5
      refine ⟨⟨u.tb, u.wk, u.st, vv, a, true, 0, 0, 0, false⟩, ⟨h5, hlt, fun e => by cases e⟩, fun u' e => by rw [hu] at e; rw [Option.some.inj e], ?_⟩
      simp [Play.stands, hp, Prog.req]
  have hall : ∀ n, n ≤ P.n → ∃ all : List Lo, all.length = n ∧ ∀ (j : Nat) (t : Lo), all[j]? = some t → t.At x x.heap.size F.rb F.mb j ∧ (∀ u, g.thr[j]? = some u → t.tb = u.tb) ∧ (if t.e then none else some t.left) = P.stands j := fun n => by
    induction n with
    | zero => exact fun _ => ⟨[], rfl, fun j t e => by simp at e⟩
    | succ n ih =>
      intro hn
      obtain ⟨all, h1, h2⟩ := ih (by omega)
      obtain ⟨t, ht⟩ := hex n (by omega)
      refine ⟨all ++ [t], by simp [h1], fun j u hu => ?_⟩
      rcases Nat.lt_or_ge j all.length with h | h
      · rw [List.getElem?_append_left h] at hu; exact h2 j u hu
      · rw [List.getElem?_append_right h] at hu
        have hj : j - all.length = 0 := by
          rcases Nat.eq_zero_or_pos (j - all.length) with h0 | h0
          · exact h0
          · rw [List.getElem?_eq_none (by simp; omega)] at hu; cases hu
        rw [hj] at hu
        obtain rfl : t = u := by simpa using hu
        obtain rfl : j = n := by omega
        exact ht
  obtain ⟨all, h1, h2⟩ := hall P.n (Nat.le_refl _)
  refine ⟨all, h1, fun j t e => (h2 j t e).1, ?_, ?_⟩
  · apply List.ext_getElem?
    intro j
    rw [List.getElem?_map, List.getElem?_map]
    rcases Nat.lt_or_ge j P.n with h | h
    · obtain ⟨t, ht⟩ : ∃ t, all[j]? = some t := ⟨_, List.getElem?_eq_getElem (by omega)⟩
      obtain ⟨u, hu⟩ : ∃ u, g.thr[j]? = some u := ⟨_, List.getElem?_eq_getElem (by rw [H.gate.num]; exact h)⟩
      rw [ht, hu]
      simp [(h2 j t ht).2.1 u hu]
    · rw [List.getElem?_eq_none (l := all) (by omega), List.getElem?_eq_none (l := g.thr) (by rw [H.gate.num]; exact h)]; rfl
  · rw [lefts_map (Sh := Sh) all P.stands 0 (fun j t e => by rw [Nat.zero_add]; exact (h2 j t e).2.2), h1, Play.left, List.range_eq_range']
set_option maxHeartbeats 4000000 in
/-- ENDS, WHOLE. -/
theorem ends_J (H : Stood Post S F g P 0 none C x) (hI : S.I P.st.sh P.st.cells g.col x) (hn : P.n ≤ 64)
    (h : ∀ (P' : Play Sh) (C' : Ctx) (z : World) (vl : Value), Ending Post S F g P' C' z → P'.n = P.n → P'.st = P.st → (∀ j, j < P.n → (P'.progs j).ended = true) → z.ownsRow x.heap.size 172 8 vl P.left.length (P.left.flatMap accV) → x.heap.size ≤ z.heap.size → (∀ q, q < x.heap.size → ¬ g.col q → z.heap[q]? = x.heap[q]?) →
      JG Try.prog Post C' (G (c.finish vl) cs) z) :
    JG Try.prog Post C (G (Frame.enter Try.prog 133 #[P0 F.rb] .normal) (c :: cs)) x := by
  obtain ⟨all, e1, e2, e3, e4⟩ := H.lefts hI
  have hT : x.ownsRow g.N 33 1 g.vT all.length (all.map fun t => P0 t.tb) := by
    rw [e3, show all.length = g.thr.length from e1.trans H.gate.num.symm]; exact H.gate.ths
  have hl := @left_loop Post C c cs F.rb F.mb g.N x.heap.size g.vT all (by omega) (by rw [← H.rb]; exact (Array.getElem?_eq_some_iff.1 H.gate.obj).1) all.length 0 (by omega) x (.slice none 0 0)
  simp only [Try.f133, Option.getD_some, Code.nav] at hl
  have hs := fun vl => @stop_loop Sh Post S F g c cs vl P.n 0 P (by omega) hn C
  simp only [Try.f133, Option.getD_some, Code.nav] at hs
  have k0 : x.cell? (th F.rb 0) = some g.vT := by rw [← H.rb, cell_obj H.gate.obj 0]; rfl
  have k1 : x.cell? (th F.rb 1) = some (.map (some F.mb)) := by rw [← H.rb, cell_obj H.gate.obj 1, ← H.mb]; rfl
  obtain ⟨ao, ac, evT⟩ := own_slice hT
  rw [evT] at k0
  replace hl := Lib.hid hl
  replace hs := Lib.hid hs
  have HH := Lib.hid H
  have HI := Lib.hid hI
  replace h := Lib.hid h
  replace e2 := Lib.hid e2
  replace hT := Lib.hid hT
  replace e4 := Lib.hid e4
  replace e1 := Lib.hid e1
  replace e3 := Lib.hid e3
  replace evT := Lib.hid evT
  clear H hI
  refine enterN Try.func133 (by rfl) (by rfl) ?_
  simp only [Try.f133, Option.getD_some]
  walk_nrm
  repeat first | refine JG.seq ?_ | refine JG.skip ?_ | refine JG.inBlock ?_ | refine JG.block ?_ | refine JG.done ?_ | refine JG.label ?_ | refine JG.condT rfl ?_ | refine JG.condF rfl ?_ | (refine JG.region ?_; simp only [List.size_toArray, List.length_cons, List.length_nil, Nat.reduceAdd, Nat.zero_add, List.range, List.range.loop]) | (refine JG.unwanted rfl (by rfl) ?_; try walk_nrm) | (refine jgo rfl rfl (by rfl) (by decide) (fun K E hK hE τ d => ?_); go_simp; refine hK _ _ (JG.tap ?_); clear hK hE K E τ d; try walk_nrm) | (refine jgo rfl rfl (by rfl) (by decide) (fun K E hK hE τ d => ?_); have hfact := (under_cell _ τ d _).trans (k0); go_simp; refine hK _ _ (JG.tap ?_); clear hfact hK hE K E τ d; try walk_nrm)
  refine JG.loop ?_
  rw [← evT.out]
  refine hl.out _ _ _ _ _ _ _ _ _ _ _ _ _ _ _ _ _ _ _ _ _ _ _ _ _ _ _ _ _ _ _ _ _ _ _ _ _ _ _ _ _ _ _ _ _ _ _ _ _ _ _ _ _ _ _ _ _ _ _ _ _ _ _ _ _ _ _ _ _ _ _ _ _ _ _ _ _ _ _ _ _ _ _ _ hT.out e2.out own_nil0 (Nat.le_refl _) (fun q e => own_lt hT.out e) k1 ?_
  intro y vl w1 w2 w4 w5 w6 w7 w8 w9 w10 w11 w12 w13 w14 w15 w16 w17 w18 w19 w20 w21 w22 w23 w24 w25 w26 w27 w28 w29 w30 w31 w32 w33 w34 w35 w36 w37 w38 w39 w40 w41 w42 w43 w44 w45 w46 w47 w48 w49 w50 w51 w52 w53 w54 w55 w56 w57 w58 w59 w60 w61 w62 w63 w64 w65 w66 w67 w68 w69 w70 w71 w72 w73 w74 w75 w76 w77 w78 w79 w80 w81 w82 w83 w84 w85 w86 w87 w88 hown hsz hold
  rw [e4.out] at hown
  have Hy : Stood Post S F g P 0 none C y := HH.out.frame (fun r hr => hold r (HH.out.gate.colLt hr)) hsz
  have hobj := Hy.gate.obj
  rw [Hy.rb] at hobj
  have c6 : y.cell? (th F.rb 6) = some (.bool false) := cell_obj hobj 6
  have f6 : y.frozen? (th F.rb 6) = false := frozen_obj hobj 6
  have HY := Lib.hid Hy
  replace hold := Lib.hid hold
  replace hown := Lib.hid hown
  replace hobj := Lib.hid hobj
  clear Hy
  repeat first | refine JG.seq ?_ | refine JG.skip ?_ | refine JG.inBlock ?_ | refine JG.block ?_ | refine JG.done ?_ | refine JG.label ?_ | refine JG.condT rfl ?_ | refine JG.condF rfl ?_ | (refine JG.region ?_; simp only [List.size_toArray, List.length_cons, List.length_nil, Nat.reduceAdd, Nat.zero_add, List.range, List.range.loop]) | (refine JG.unwanted rfl (by rfl) ?_; try walk_nrm) | (refine jgo rfl rfl (by rfl) (by decide) (fun K E hK hE τ d => ?_); go_simp; refine hK _ _ (JG.tap ?_); clear hK hE K E τ d; try walk_nrm)
  refine jgo rfl rfl (by rfl) (by decide) (fun K E hK hE τ d => ?_)
  obtain ⟨hfact, hfact2⟩ := And.intro c6 f6
  replace hfact := (under_cell _ τ d _).trans hfact
  replace hfact2 := (under_frozen _ τ d _).trans hfact2
  go_simp
  refine hK _ _ ?_
  rw [under_setCell]
  refine JG.tap ?_
  clear hfact hfact2 hK hE K E τ d
  try walk_nrm
  clear c6 f6
  have HE := HY.out.stopped
  have zo : ∀ q, q ≠ F.rb → (y.setCell (th F.rb 6) (.bool true)).heap[q]? = y.heap[q]? := fun q hq => heap_set_ne hq
  have zs := size_set y (th F.rb 6) (.bool true)
  generalize y.setCell (th F.rb 6) (.bool true) = z at HE zo zs ⊢
  replace HE := Lib.hid HE
  replace zo := Lib.hid zo
  replace zs := Lib.hid zs
  repeat first | refine JG.seq ?_ | refine JG.skip ?_ | refine JG.inBlock ?_ | refine JG.block ?_ | refine JG.done ?_ | refine JG.label ?_ | refine JG.condT rfl ?_ | refine JG.condF rfl ?_ | (refine JG.region ?_; simp only [List.size_toArray, List.length_cons, List.length_nil, Nat.reduceAdd, Nat.zero_add, List.range, List.range.loop]) | (refine JG.unwanted rfl (by rfl) ?_; try walk_nrm) | (refine jgo rfl rfl (by rfl) (by decide) (fun K E hK hE τ d => ?_); go_simp; refine hK _ _ (JG.tap ?_); clear hK hE K E τ d; try walk_nrm)
  refine JG.loop ?_
  refine (hs.out vl) z _ _ _ _ _ _ _ _ _ _ _ _ _ _ _ _ _ _ _ _ _ _ _ _ _ _ _ _ _ _ _ _ _ _ _ _ _ _ _ _ _ _ _ _ _ _ _ _ _ _ _ _ _ _ _ _ _ _ _ _ _ _ _ _ _ _ _ _ _ _ _ _ _ _ _ _ _ _ _ _ _ _ _ _ _ _ HE.out (fun j hj => by omega) ?_
  intro P' C' z2 v1 v2 v4 v5 v6 v7 v8 v9 v10 v11 v12 v13 v14 v15 v16 v17 v18 v19 v20 v21 v22 v23 v24 v25 v26 v27 v28 v29 v30 v31 v32 v33 v34 v35 v36 v37 v38 v39 v40 v41 v42 v43 v44 v45 v46 v47 v48 v49 v50 v51 v52 v53 v54 v55 v56 v57 v58 v59 v60 v61 v62 v63 v64 v65 v66 v67 v68 v69 v70 v71 v72 v73 v74 v75 v76 v77 v78 v79 v80 v81 v82 v83 v84 v85 v86 v87 v88 H2 n2 s2 en2 hs2 ho2
  have hcrb : g.col F.rb := by rw [← HH.out.rb]; simp [Gs.col]
  have hkeep : ∀ q, q < z.heap.size → ¬ g.col q → z2.heap[q]? = y.heap[q]? := fun q hq hc => (ho2 q hq hc).trans (zo.out q fun e => hc (e ▸ hcrb))
  have zs' := zs.out
  have hres := h.out P' C' z2 vl H2 n2 s2 en2 (own_heap hown.out fun b hb => hkeep b (by have := own_lt hown.out hb; omega) fun hc => by
    have h1 := HH.out.gate.colLt hc
    have h2 := own_ge hown.out hb
    omega) (by omega) (fun q hq hc => (hkeep q (by omega) hc).trans (hold.out q hq))
  clear hkeep H2 ho2
  replace hres := Lib.hid hres
  repeat first | refine JG.seq ?_ | refine JG.skip ?_ | refine JG.inBlock ?_ | refine JG.block ?_ | refine JG.done ?_ | refine JG.label ?_ | refine JG.condT rfl ?_ | refine JG.condF rfl ?_ | (refine JG.region ?_; simp only [List.size_toArray, List.length_cons, List.length_nil, Nat.reduceAdd, Nat.zero_add, List.range, List.range.loop]) | (refine JG.unwanted rfl (by rfl) ?_; try walk_nrm) | (refine jgo rfl rfl (by rfl) (by decide) (fun K E hK hE τ d => ?_); go_simp; refine hK _ _ (JG.tap ?_); clear hK hE K E τ d; try walk_nrm)
  refine JG.ret ?_
  exact JG.leave rfl rfl Try.func133 (fun τ d => results_tmp (t := 2) rfl _ _ _) hres.out
end
end Go.Proofs.Ytecmobjiepgfjaa
/- A run that has ended is told: gate's report, whole. -/
namespace Go.Proofs.Ytecmobjiepgfjaa
open Go.Conc Go.RowKit
open Go.ConcN (upd upd_same upd_ne)
set_option linter.unusedSimpArgs false
set_option linter.unusedVariables false
set_option maxRecDepth 100000
section
variable {Post : Value → World → Prop} {C : Ctx} {x : World} {c : Frame} {cs : List Frame} {rb rp n fc : Nat} {fo : Option Addr} {e : Int} {vl : Value}
set_option maxHeartbeats 4000000 in
theorem fell_loop (hn : n < 100) (hf : ∀ i, i < n → ∃ gf, fo = some ⟨gf, 0, none⟩ ∧ x.cell? (th gf i) = some (.bool false)) : ∀ (k i : Nat), i + k = n → ∀ (u2 u3 u7 u8 u9 u10 u11 u12 u13 u17 u18 u19 u20 u21 u22 u23 u24 u25 u26 u27 u28 u29 u30 u31 u32 u33 u34 u35 u36 u37 u38 u39 u40 u41 u42 u43 u44 u45 u46 u47 : Value),
    (∀ (u2 u3 u7 u8 u9 u10 u11 u12 u13 u14 u15 u16 u17 u18 u19 u20 u21 u22 u23 u24 u25 u26 u27 u28 u29 u30 u31 u32 u33 u34 u35 u36 u37 u38 u39 u40 u41 u42 u43 u44 u45 u46 u47 : Value), JG Try.prog Post C (G ((base 84).at ⟨List.toArray ((P0 rb) :: (.int .i8 e) :: u2 :: u3 :: (P0 rp) :: (vl) :: (.slice none 0 0) :: u7 :: u8 :: u9 :: u10 :: u11 :: u12 :: u13 :: u14 :: u15 :: u16 :: u17 :: u18 :: u19 :: u20 :: u21 :: u22 :: u23 :: u24 :: u25 :: u26 :: u27 :: u28 :: u29 :: u30 :: u31 :: u32 :: u33 :: u34 :: u35 :: u36 :: u37 :: u38 :: u39 :: u40 :: u41 :: u42 :: u43 :: u44 :: u45 :: u46 :: u47 :: []), []⟩ [.code (Code.nav (Try.f84.body.getD .skip) [1, 1, 1, 1])]) (c :: cs)) x) → JG Try.prog Post C (G ((base 84).at ⟨List.toArray ((P0 rb) :: (.int .i8 e) :: u2 :: u3 :: (P0 rp) :: (vl) :: (.slice none 0 0) :: u7 :: u8 :: u9 :: u10 :: u11 :: u12 :: u13 :: (.slice fo n fc) :: (.int .i64 n) :: (.int .i64 i) :: u17 :: u18 :: u19 :: u20 :: u21 :: u22 :: u23 :: u24 :: u25 :: u26 :: u27 :: u28 :: u29 :: u30 :: u31 :: u32 :: u33 :: u34 :: u35 :: u36 :: u37 :: u38 :: u39 :: u40 :: u41 :: u42 :: u43 :: u44 :: u45 :: u46 :: u47 :: []), []⟩ [.code (Code.nav (Try.f84.body.getD .skip) [1, 1, 1, 0, 1, 0, 0]), .inLoop (Code.nav (Try.f84.body.getD .skip) [1, 1, 1, 0, 1, 0, 0]), .inBlock 0, .code (Code.nav (Try.f84.body.getD .skip) [1, 1, 1, 1])]) (c :: cs)) x := by
  intro k
  induction k with
  | zero =>
    intro i hik u2 u3 u7 u8 u9 u10 u11 u12 u13 u17 u18 u19 u20 u21 u22 u23 u24 u25 u26 u27 u28 u29 u30 u31 u32 u33 u34 u35 u36 u37 u38 u39 u40 u41 u42 u43 u44 u45 u46 u47 h
    simp only [Try.f84, Option.getD_some, Code.nav] at h ⊢
    have hx : decide ((i : Int) < n) = false := by simp; omega
    have hxN : decide (i < n) = false := by simp; omega
    replace h := Lib.hid h
    repeat first | refine JG.seq ?_ | refine JG.skip ?_ | refine JG.inBlock ?_ | refine JG.block ?_ | refine JG.done ?_ | refine JG.label ?_ | refine JG.condT rfl ?_ | refine JG.condF rfl ?_ | (refine JG.region ?_; simp only [List.size_toArray, List.length_cons, List.length_nil, Nat.reduceAdd, Nat.zero_add, List.range, List.range.loop]) | (refine JG.unwanted rfl (by rfl) ?_; try walk_nrm) | (refine jgo rfl rfl (by rfl) (by decide) (fun K E hK hE τ d => ?_); go_simp; refine hK _ _ (JG.tap ?_); clear hK hE K E τ d; try walk_nrm)
    refine JG.exit (by rfl) ?_
    first | exact h.out _ _ _ _ _ _ _ _ _ _ _ _ _ _ _ _ _ _ _ _ _ _ _ _ _ _ _ _ _ _ _ _ _ _ _ _ _ _ _ _ _ _ _ | (walk_nrm; exact h.out _ _ _ _ _ _ _ _ _ _ _ _ _ _ _ _ _ _ _ _ _ _ _ _ _ _ _ _ _ _ _ _ _ _ _ _ _ _ _ _ _ _ _)
  | succ k ih =>
    intro i hik u2 u3 u7 u8 u9 u10 u11 u12 u13 u17 u18 u19 u20 u21 u22 u23 u24 u25 u26 u27 u28 u29 u30 u31 u32 u33 u34 u35 u36 u37 u38 u39 u40 u41 u42 u43 u44 u45 u46 u47 h
    simp only [Try.f84, Option.getD_some, Code.nav] at ih h ⊢
    have hx : decide ((i : Int) < n) = true := by simp; omega
    have hxN : decide (i < n) = true := by simp; omega
    have hlt : i < n := by omega
    have hlt' : (i : Int) < n := by omega
    have h0i : (0 : Int) ≤ i := by omega
    have hw : IntKind.i64.wrap ((i : Int) + 1) = ((i + 1 : Nat) : Int) := by rw [IntKind.wrap_i64]; omega
    obtain ⟨gf, hfo, hgi⟩ := hf i hlt
    subst hfo
    replace h := Lib.hid h
    replace ih := Lib.hid ih
    repeat first | refine JG.seq ?_ | refine JG.skip ?_ | refine JG.inBlock ?_ | refine JG.block ?_ | refine JG.done ?_ | refine JG.label ?_ | refine JG.condT rfl ?_ | refine JG.condF rfl ?_ | (refine JG.region ?_; simp only [List.size_toArray, List.length_cons, List.length_nil, Nat.reduceAdd, Nat.zero_add, List.range, List.range.loop]) | (refine JG.unwanted rfl (by rfl) ?_; try walk_nrm) | (refine jgo rfl rfl (by rfl) (by decide) (fun K E hK hE τ d => ?_); go_simp; refine hK _ _ (JG.tap ?_); clear hK hE K E τ d; try walk_nrm) | (refine jgo rfl rfl (by rfl) (by decide) (fun K E hK hE τ d => ?_); have hfact := (under_cell _ τ d _).trans (hgi); go_simp; refine hK _ _ (JG.tap ?_); clear hfact hK hE K E τ d; try walk_nrm)
    refine JG.inLoop ?_
    exact ih.out (i + 1) (by omega) _ _ _ _ _ _ _ _ _ _ _ _ _ _ _ _ _ _ _ _ _ _ _ _ _ _ _ _ _ _ _ _ _ _ _ _ _ _ _ _ h.out
end
section
variable {Sh : Type} {Post : Value → World → Prop} {S : Side Sh} {F : Fix} {g : Gs} {P : Play Sh} {C : Ctx} {x : World} {c : Frame} {cs : List Frame} {e : Int}
set_option maxHeartbeats 8000000 in
/-- REPORT, WHOLE. -/
theorem report_R (H : Stood Post S F g P 0 none C x) (hI : S.I P.st.sh P.st.cells g.col x) (hn : P.n ≤ 64) (hwl : P.st.went.length ≤ 65536)
    (h : ∀ (P' : Play Sh) (C' : Ctx) (z : World) (vl : Value) (M : Nat), Ending Post S F g P' C' z → P'.n = P.n → P'.st = P.st → (∀ j, j < P.n → (P'.progs j).ended = true) → x.heap.size ≤ M → z.ownsRow M 172 8 vl P.left.length (P.left.flatMap accV) → x.heap.size ≤ z.heap.size → (∀ q, q < x.heap.size → ¬ g.col q → z.heap[q]? = x.heap[q]?) →
      JG Try.prog Post C' (G (c.finish (.agg #[.int .i8 e, .int .i64 P.st.went.length, g.vL, g.vW, g.vR, vl, .slice none 0 0])) cs) z) :
    JG Try.prog Post C (G (Frame.enter Try.prog 84 #[P0 F.rb, .int .i8 e] .normal) (c :: cs)) x := by
  have hfl := @fell_loop Post
  simp only [Try.f84, Option.getD_some, Code.nav] at hfl
  have HH := Lib.hid H
  have HI := Lib.hid hI
  replace h := Lib.hid h
  clear H hI
  refine enterN Try.func84 (by rfl) (by rfl) ?_
  simp only [Try.f84, Option.getD_some]
  walk_nrm
  refine JG.seq ?_
  refine JG.code (closedG _) (by kernel_rfl) rfl (.inr (by kernel_rfl)) rfl (fun K R hK hR τ => ?_)
  replace hK := Lib.hid hK
  clear hR
  go_wp2
  refine hK.out _ _ (JG.tap (x := x.alloc (.cells #[.int .i8 0, .int .i64 0, .slice none 0 0, .slice none 0 0, .slice none 0 0, .slice none 0 0, .slice none 0 0] 43)) ?_)
  simp only [under_size]
  clear hK K R τ
  obtain ⟨w, hw⟩ : ∃ w, w = x.alloc (.cells #[.int .i8 0, .int .i64 0, .slice none 0 0, .slice none 0 0, .slice none 0 0, .slice none 0 0, .slice none 0 0] 43) := ⟨_, rfl⟩
  rw [← hw]
  have wold : ∀ r, r < x.heap.size → w.heap[r]? = x.heap[r]? := fun r h => by rw [hw, heap_alloc', Array.getElem?_push, if_neg (by omega)]
  have wnew : w.heap[x.heap.size]? = some (.cells #[.int .i8 0, .int .i64 0, .slice none 0 0, .slice none 0 0, .slice none 0 0, .slice none 0 0, .slice none 0 0] 43) := by rw [hw, heap_alloc', Array.getElem?_push, if_pos rfl]
  have wsz : w.heap.size = x.heap.size + 1 := by rw [hw]; simp
  clear hw
  have Hw : Stood Post S F g P 0 none C w := HH.out.frame (fun r hr => wold r (HH.out.gate.colLt hr)) (by omega)
  have hIw : S.I P.st.sh P.st.cells g.col w := S.frame HI.out _ _ (by omega) (fun r hr _ => wold r hr) fun _ _ h => h
  replace Hw := Lib.hid Hw
  replace hIw := Lib.hid hIw
  replace wold := Lib.hid wold
  repeat first | refine JG.seq ?_ | refine JG.skip ?_ | refine JG.inBlock ?_ | refine JG.block ?_ | refine JG.done ?_ | refine JG.label ?_ | refine JG.condT rfl ?_ | refine JG.condF rfl ?_ | (refine JG.region ?_; simp only [List.size_toArray, List.length_cons, List.length_nil, Nat.reduceAdd, Nat.zero_add, List.range, List.range.loop]) | (refine JG.unwanted rfl (by rfl) ?_; try walk_nrm) | (refine jgo rfl rfl (by rfl) (by decide) (fun K E hK hE τ d => ?_); go_simp; refine hK _ _ (JG.tap ?_); clear hK hE K E τ d; try walk_nrm)
  refine JG.call (f := 133) (args := #[P0 F.rb]) rfl (by rfl) (by decide) (fun w => ?_) (fun w => ?_) ?_
  iterate 2 (focus obtain ⟨fn, h1, h2, h3⟩ : HasBody 133 := ⟨_, Try.func133, by kernel_rfl, by kernel_rfl⟩; have h4 : ¬ fn.name = "runtime.NumGoroutine" := (by simpa using h2); have h5 : ¬ fn.body = none := (by intro e; rw [e] at h3; cases h3); simp [go_sem, execOp, Act.eval, resolve, Deferred.ofValue, invoke, callFunc, h1, h4, h5])
  refine ends_J Hw.out hIw.out hn (fun P' C' y vl HE n' s' en' hown hsz hold => ?_)
  rw [Frame.finish_at]
  walk_nrm
  have hrpc : ¬ g.col x.heap.size := fun hc => Nat.lt_irrefl _ (HH.out.gate.colLt hc)
  have ynew := (hold x.heap.size (by omega) hrpc).trans wnew
  have yold : ∀ q, q < x.heap.size → ¬ g.col q → y.heap[q]? = x.heap[q]? := fun q hq hc => (hold q (by omega) hc).trans (wold.out q hq)
  have yo := HE.gate.obj
  rw [HE.rb] at yo
  have hfls := HE.gate.fls
  rw [HE.gate.num, n'] at hfls
  obtain ⟨fo, fcap, evF⟩ := own_slice hfls
  have y5 : y.cell? (th F.rb 5) = some (.slice fo P.n fcap) := by rw [cell_obj yo 5, ← evF]; rfl
  have hfg : ∀ i, i < P.n → ∃ gf, fo = some ⟨gf, 0, none⟩ ∧ y.cell? (th gf i) = some (.bool false) := fun i hi => by
    obtain ⟨gf, cf, q1, q2⟩ := own_get hfls (by omega)
    rw [evF] at q1
    injection q1 with q1 _ _
    exact ⟨gf, q1, q2 i _ (by rw [List.getElem?_replicate, if_pos hi])⟩
  have hsl : ∃ aL cL aW cW aR cR al cl, g.vL = .slice aL P.st.log.length cL ∧ g.vW = .slice aW P.st.went.length cW ∧ g.vR = .slice aR P.st.ready.length cR ∧ vl = .slice al P.left.length cl := by
    obtain ⟨aL, cL, q1⟩ := own_slice HH.out.gate.lg
    obtain ⟨aW, cW, q2⟩ := own_slice HH.out.gate.wn
    obtain ⟨aR, cR, q3⟩ := own_slice HH.out.gate.rd
    obtain ⟨al, cl, q4⟩ := own_slice hown
    exact ⟨aL, cL, aW, cW, aR, cR, al, cl, q1, q2, q3, q4⟩
  obtain ⟨aL, cL, aW, cW, aR, cR, al, cl, evL, evW, evR, evl⟩ := hsl
  have y2 : y.cell? (th F.rb 2) = some (.slice aL P.st.log.length cL) := by rw [cell_obj yo 2, ← evL]; rfl
  have y3 : y.cell? (th F.rb 3) = some (.slice aW P.st.went.length cW) := by rw [cell_obj yo 3, ← evW]; rfl
  have y4 : y.cell? (th F.rb 4) = some (.slice aR P.st.ready.length cR) := by rw [cell_obj yo 4, ← evR]; rfl
  replace h := Lib.hid (fun (z : World) => h.out P' C' z vl w.heap.size)
  rw [evL, evW, evR, evl] at h
  subst evl
  replace HE := Lib.hid HE
  replace hown := Lib.hid hown
  replace yold := Lib.hid yold
  replace en' := Lib.hid en'
  replace evL := Lib.hid evL
  replace evW := Lib.hid evW
  replace evR := Lib.hid evR
  clear hold yo hfls evF
  have hrb0 : F.rb < x.heap.size := by rw [← HH.out.rb]; exact (Array.getElem?_eq_some_iff.1 HH.out.gate.obj).1
  have hsz1 : x.heap.size + 1 ≤ y.heap.size := by omega
  repeat first | refine JG.seq ?_ | refine JG.skip ?_ | refine JG.inBlock ?_ | refine JG.block ?_ | refine JG.done ?_ | refine JG.label ?_ | refine JG.condT rfl ?_ | refine JG.condF rfl ?_ | (refine JG.region ?_; simp only [List.size_toArray, List.length_cons, List.length_nil, Nat.reduceAdd, Nat.zero_add, List.range, List.range.loop]) | (refine JG.unwanted rfl (by rfl) ?_; try walk_nrm) | (refine jgo rfl rfl (by rfl) (by decide) (fun K E hK hE τ d => ?_); go_simp; refine hK _ _ (JG.tap ?_); clear hK hE K E τ d; try walk_nrm) | (refine jgo rfl rfl (by rfl) (by decide) (fun K E hK hE τ d => ?_); have hfact := (under_cell _ τ d _).trans (y5); go_simp; refine hK _ _ (JG.tap ?_); clear hfact hK hE K E τ d; try walk_nrm)
  refine JG.loop ?_
  refine hfl (n := P.n) (fo := fo) (fc := fcap) (by omega) hfg P.n 0 (by omega) _ _ _ _ _ _ _ _ _ _ _ _ _ _ _ _ _ _ _ _ _ _ _ _ _ _ _ _ _ _ _ _ _ _ _ _ _ _ _ _ ?_
  intro w2 w3 w7 w8 w9 w10 w11 w12 w13 w14 w15 w16 w17 w18 w19 w20 w21 w22 w23 w24 w25 w26 w27 w28 w29 w30 w31 w32 w33 w34 w35 w36 w37 w38 w39 w40 w41 w42 w43 w44 w45 w46 w47
  repeat first | refine JG.seq ?_ | refine JG.skip ?_ | refine JG.inBlock ?_ | refine JG.block ?_ | refine JG.done ?_ | refine JG.label ?_ | refine JG.condT rfl ?_ | refine JG.condF rfl ?_ | (refine JG.region ?_; simp only [List.size_toArray, List.length_cons, List.length_nil, Nat.reduceAdd, Nat.zero_add, List.range, List.range.loop]) | (refine JG.unwanted rfl (by rfl) ?_; try walk_nrm) | (refine jgo rfl rfl (by rfl) (by decide) (fun K E hK hE τ d => ?_); go_simp; refine hK _ _ (JG.tap ?_); clear hK hE K E τ d; try walk_nrm)
  refine JG.code (closedG _) (by kernel_rfl) rfl (.inr (by kernel_rfl)) rfl (fun K R hK hR τ => ?_)
  replace hK := Lib.hid hK
  clear hR
  have z2 : (under y τ 0).cell? (th F.rb 2) = some (.slice aL P.st.log.length cL) := y2
  have z3 : (under y τ 0).cell? (th F.rb 3) = some (.slice aW P.st.went.length cW) := y3
  have z4 : (under y τ 0).cell? (th F.rb 4) = some (.slice aR P.st.ready.length cR) := y4
  have hbr := build_report
  have m0 : (under y τ 0).cell? (th x.heap.size 0) = some (.int .i8 0) := cell_obj ynew 0
  have n0 : (under y τ 0).frozen? (th x.heap.size 0) = false := frozen_obj ynew 0
  have m1 : (under y τ 0).cell? (th x.heap.size 1) = some (.int .i64 0) := cell_obj ynew 1
  have n1 : (under y τ 0).frozen? (th x.heap.size 1) = false := frozen_obj ynew 1
  have m2 : (under y τ 0).cell? (th x.heap.size 2) = some (.slice none 0 0) := cell_obj ynew 2
  have n2 : (under y τ 0).frozen? (th x.heap.size 2) = false := frozen_obj ynew 2
  have m3 : (under y τ 0).cell? (th x.heap.size 3) = some (.slice none 0 0) := cell_obj ynew 3
  have n3 : (under y τ 0).frozen? (th x.heap.size 3) = false := frozen_obj ynew 3
  have m4 : (under y τ 0).cell? (th x.heap.size 4) = some (.slice none 0 0) := cell_obj ynew 4
  have n4 : (under y τ 0).frozen? (th x.heap.size 4) = false := frozen_obj ynew 4
  have m5 : (under y τ 0).cell? (th x.heap.size 5) = some (.slice none 0 0) := cell_obj ynew 5
  have n5 : (under y τ 0).frozen? (th x.heap.size 5) = false := frozen_obj ynew 5
  have m6 : (under y τ 0).cell? (th x.heap.size 6) = some (.slice none 0 0) := cell_obj ynew 6
  have n6 : (under y τ 0).frozen? (th x.heap.size 6) = false := frozen_obj ynew 6
  have hrb : F.rb < (under y τ 0).heap.size := cell_lt z2
  have zn := ynew
  rw [← under_heap y τ 0] at zn
  obtain ⟨z, hz⟩ : ∃ z, z = under y τ 0 := ⟨_, rfl⟩
  have zh : z.heap = y.heap := by rw [hz]; rfl
  rw [← hz] at zn z2 z3 z4 hrb m0 n0 m1 n1 m2 n2 m3 n3 m4 n4 m5 n5 m6 n6 ⊢
  have zs : x.heap.size < z.heap.size := by rw [zh]; omega
  replace zh := Lib.hid zh
  replace zn := Lib.hid zn
  clear hz y2 y3 y4 y5 hfg
  generalize hrp : x.heap.size = rp at m0 n0 m1 n1 m2 n2 m3 n3 m4 n4 m5 n5 m6 n6 zn zs hrb0 hsz1 ⊢
  go_region
  all_goals (
    refine hK.out _ _ ?_
    clear hK K R
    subst hrp
    obtain ⟨u, hu⟩ : ∃ u, u = (((((((z.setCell (th x.heap.size 0) (.int .i8 e)).setCell (th x.heap.size 1) (.int .i64 P.st.went.length)).setCell (th x.heap.size 2) (.slice aL P.st.log.length cL)).setCell (th x.heap.size 3) (.slice aW P.st.went.length cW)).setCell (th x.heap.size 4) (.slice aR P.st.ready.length cR)).setCell (th x.heap.size 5) (.slice al P.left.length cl)).setCell (th x.heap.size 6) (.slice none 0 0)).drew := ⟨_, rfl⟩
    rw [← hu]
    have uo : ∀ r, r ≠ x.heap.size → u.heap[r]? = y.heap[r]? := fun r hne => by
      rw [hu, heap_drew', heap_set_ne hne, heap_set_ne hne, heap_set_ne hne, heap_set_ne hne, heap_set_ne hne, heap_set_ne hne, heap_set_ne hne, zh.out]
    have us : u.heap.size = y.heap.size := by rw [hu, heap_drew', size_set, size_set, size_set, size_set, size_set, size_set, size_set, zh.out]
    have un : u.heap[x.heap.size]? = some (.cells #[.int .i8 e, .int .i64 P.st.went.length, .slice aL P.st.log.length cL, .slice aW P.st.went.length cW, .slice aR P.st.ready.length cR, .slice al P.left.length cl, .slice none 0 0] 43 (0, 0)) := by
      rw [hu, heap_drew']
      exact heap_set_self (heap_set_self (heap_set_self (heap_set_self (heap_set_self (heap_set_self (heap_set_self zn.out))))))
    clear hu
    repeat first | refine JG.seq ?_ | refine JG.skip ?_ | refine JG.inBlock ?_ | refine JG.block ?_ | refine JG.done ?_ | refine JG.label ?_ | refine JG.condT rfl ?_ | refine JG.condF rfl ?_ | (refine JG.region ?_; simp only [List.size_toArray, List.length_cons, List.length_nil, Nat.reduceAdd, Nat.zero_add, List.range, List.range.loop]) | (refine JG.unwanted rfl (by rfl) ?_; try walk_nrm) | (refine jgo rfl rfl (by rfl) (by decide) (fun K E hK hE τ d => ?_); go_simp; refine hK _ _ (JG.tap ?_); clear hK hE K E τ d; try walk_nrm)
    refine JG.ret ?_
    refine JG.leave rfl rfl Try.func84 (fun τ d => results_cell_row (p := 4) rfl _ _ x.heap.size _ _ _ _ rfl un Try.underlying43 rfl (by kernel_rfl)) (h.out u (HE.out.frame (fun r hr => uo r fun e => hrpc (e ▸ hr)) (by omega)) n' s' en'.out (by omega) (own_heap hown.out fun b hb => uo b fun e => ?_) (by omega) fun q hq hc => (uo q (by omega)).trans (yold.out q hq hc))
    have := own_ge hown.out hb
    omega)
end
end Go.Proofs.Ytecmobjiepgfjaa
