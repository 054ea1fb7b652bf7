/- Who goes, by picks: the closure of gate.Run. -/
import Derived.Test.YtecmobjiepgfjaaNRnL
import Derived.Laws.Small
namespace Go.Proofs.Ytecmobjiepgfjaa
open Go.Conc Go.RowKit
open Go.ConcN (upd upd_same upd_ne)
set_option linter.unusedSimpArgs false
set_option linter.unusedVariables false
set_option maxRecDepth 100000
theorem place_rem (p : Int) (n : Nat) (hn : 0 < n) (h : n < 100) : (((p.tmod n) + n).tmod n) = p % n := by
  have hz : (0 : Int) < n := by omega
  rw [tmod_eq_if p n]
  split
  · have h1 := Int.emod_nonneg p (show (n : Int) ≠ 0 by omega)
    have h2 := Int.emod_lt_of_pos p hz
    rw [Int.tmod_eq_emod_of_nonneg (by omega), Int.add_emod_right, Int.emod_emod_of_dvd _ (Int.dvd_refl _)]
  · have h1 := Int.emod_nonneg (-p) (show (n : Int) ≠ 0 by omega)
    have h2 := Int.emod_lt_of_pos (-p) hz
    rw [Int.tmod_eq_emod_of_nonneg (by omega), Int.add_emod_right]
    have : (-((-p) % (n : Int))) % n = p % n := by
      have e1 := Int.emod_add_mul_ediv p n
      have e2 := Int.emod_add_mul_ediv (-p) n
      have e3 : -((-p) % (n : Int)) = p + n * ((-p) / n) := by omega
      rw [e3, Int.add_mul_emod_self_left]
    exact this
section
variable {Post : Value → World → Prop} {C : Ctx} {x : World} {c : Frame} {cs : List Frame} {pb pv rb g gp n pn pc cap m : Nat} {p : Int} {tbj : Nat}
theorem pickA_J (hp : x.cell? (th pb 0) = some (.slice (some ⟨gp, 0, none⟩) pn pc)) (hm : m < pn) (hpm : x.cell? (th gp m) = some (.int .i64 p)) (hn : 0 < n) (hn2 : n < 100) (hg : x.cell? (th g (p % n).toNat) = some (P0 tbj))
    (h : JG Try.prog Post C (G (c.finish (P0 tbj)) cs) x) :
    JG Try.prog Post C (G (Frame.enter Try.prog 83 #[.int .i64 m, .slice (some ⟨g, 0, none⟩) n cap, P0 pb, P0 pv] .normal) (c :: cs)) x := by
  have h1 : decide ((m : Int) < pn) = true := by simp; omega
  have h2 : decide (m < pn) = true := by simp; omega
  refine enterN Try.func83 (by rfl) (by rfl) ?_
  simp only [Try.f83, Option.getD_some]
  walk_nrm
  have hz : (0 : Int) < n := by omega
  have b1 := Int.emod_nonneg p (show (n : Int) ≠ 0 by omega)
  have b2 := Int.emod_lt_of_pos p hz
  obtain ⟨k, hk⟩ : ∃ k : Nat, p % n = k := ⟨(p % n).toNat, by omega⟩
  have hq : (p.tmod n + n).tmod n = (k : Int) := (place_rem p n hn hn2).trans hk
  have hw : IntKind.i64.wrap (p.tmod n + n) = p.tmod n + n := by
    have : -(n : Int) < p.tmod n ∧ p.tmod n < n := by
      rw [tmod_eq_if p n]
      have h1 := Int.emod_nonneg (-p) (show (n : Int) ≠ 0 by omega)
      have h2 := Int.emod_lt_of_pos (-p) hz
      split <;> constructor <;> omega
    rw [IntKind.wrap_i64]; omega
  rw [hk] at hg
  have hg' : x.cell? (th g k) = some (P0 tbj) := hg
  have hn0 : ¬ n = 0 := by omega
  have hkn : k < n := by omega
  have hki : (k : Int) < n := by omega
  clear hg b1 b2 hk hz
  repeat first | refine JG.seq ?_ | refine JG.skip ?_ | refine JG.inBlock ?_ | refine JG.block ?_ | refine JG.done ?_ | refine JG.label ?_ | refine JG.condT rfl ?_ | refine JG.condF rfl ?_ | (refine JG.region ?_; simp only [List.size_toArray, List.length_cons, List.length_nil, Nat.reduceAdd, Nat.zero_add, List.range, List.range.loop]) | (refine JG.unwanted rfl (by rfl) ?_; try walk_nrm) | (refine jgo rfl rfl (by rfl) (by decide) (fun K E hK hE τ d => ?_); go_simp; refine hK _ _ (JG.tap ?_); clear hK hE K E τ d; try walk_nrm) | (refine jgo rfl rfl (by rfl) (by decide) (fun K E hK hE τ d => ?_); have hfact := (under_cell _ τ d _).trans (hp); go_simp; refine hK _ _ (JG.tap ?_); clear hfact hK hE K E τ d; try walk_nrm) | (refine jgo rfl rfl (by rfl) (by decide) (fun K E hK hE τ d => ?_); have hfact := (under_cell _ τ d _).trans (hpm); go_simp; refine hK _ _ (JG.tap ?_); clear hfact hK hE K E τ d; try walk_nrm) | (refine jgo rfl rfl (by rfl) (by decide) (fun K E hK hE τ d => ?_); have hfact := (under_cell _ τ d _).trans (hg'); go_simp; refine hK _ _ (JG.tap ?_); clear hfact hK hE K E τ d; try walk_nrm)
  refine JG.ret ?_
  exact JG.leave rfl rfl Try.func83 (fun τ d => results_tmp (t := 6) rfl _ _ _) h
/-- The first one behind the last that went; else the first. -/
def behindOf (last : Int) (l : List (Nat × Nat)) : Nat × Nat := (l.find? fun q => decide (last < q.1)).getD (l.headD (0, 0))
set_option maxHeartbeats 2000000 in
theorem pick_loop {tn last : Int} (l : List (Nat × Nat)) (hl0 : 0 < l.length) (hl : l.length < 100) (hg : ∀ (j : Nat) (q : Nat × Nat), l[j]? = some q → x.cell? (th g j) = some (P0 q.2)) (hnum : ∀ (j : Nat) (q : Nat × Nat), l[j]? = some q → x.cell? (th q.2 1) = some (.int .i64 q.1))
    (h : JG Try.prog Post C (G (c.finish (P0 (behindOf last l).2)) cs) x) : ∀ (k i : Nat), i + k = l.length → ∀ (u4 u5 u6 u8 u9 u10 u11 u12 u13 u14 u15 u16 u17 u18 u19 u20 u21 u22 u23 u24 u25 u26 u27 u28 u29 u30 u31 u32 u33 u34 u35 u36 u37 u38 u39 u43 u44 u45 u46 u47 u48 u49 u50 u51 u52 u53 u54 u55 u56 : Value), (l.find? fun q => decide (last < q.1)) = ((l.drop i).find? fun q => decide (last < q.1)) →
    JG Try.prog Post C (G ((base 83).at ⟨#[.int .i64 tn, .slice (some ⟨g, 0, none⟩) l.length cap, P0 pb, P0 pv, u4, u5, u6, .int .i64 last, u8, u9, u10, u11, u12, u13, u14, u15, u16, u17, u18, u19, u20, u21, u22, u23, u24, u25, u26, u27, u28, u29, u30, u31, u32, u33, u34, u35, u36, u37, u38, u39, .slice (some ⟨g, 0, none⟩) l.length cap, .int .i64 l.length, .int .i64 i, u43, u44, u45, u46, u47, u48, u49, u50, u51, u52, u53, u54, u55, u56], []⟩ [.code (Code.nav (Try.f83.body.getD .skip) [1, 1, 1, 1, 0, 1, 0, 0]), .inLoop (Code.nav (Try.f83.body.getD .skip) [1, 1, 1, 1, 0, 1, 0, 0]), .inBlock 0, .code (Code.nav (Try.f83.body.getD .skip) [1, 1, 1, 1, 1])]) (c :: cs)) x := by
  intro k
  induction k with
  | zero =>
    intro i hik u4 u5 u6 u8 u9 u10 u11 u12 u13 u14 u15 u16 u17 u18 u19 u20 u21 u22 u23 u24 u25 u26 u27 u28 u29 u30 u31 u32 u33 u34 u35 u36 u37 u38 u39 u43 u44 u45 u46 u47 u48 u49 u50 u51 u52 u53 u54 u55 u56 hf
    simp only [Try.f83, Option.getD_some, Code.nav]
    have hx : decide ((i : Int) < l.length) = false := by simp; omega
    have hxN : decide (i < l.length) = false := by simp; omega
    obtain ⟨q, hq⟩ : ∃ q, l[0]? = some q := ⟨_, List.getElem?_eq_getElem hl0⟩
    have hres : behindOf last l = q := by
      unfold behindOf
      rw [hf, List.drop_of_length_le (by omega)]
      cases l with
      | nil => simp at hq
      | cons a l => simp at hq; simp [hq]
    rw [hres] at h
    have g0 : x.cell? (th g 0) = some (P0 q.2) := hg 0 q hq
    replace hf := Lib.hid hf
    clear hg hnum hf
    repeat first | refine JG.seq ?_ | refine JG.skip ?_ | refine JG.inBlock ?_ | refine JG.block ?_ | refine JG.done ?_ | refine JG.label ?_ | refine JG.condT rfl ?_ | refine JG.condF rfl ?_ | (refine JG.region ?_; simp only [List.size_toArray, List.length_cons, List.length_nil, Nat.reduceAdd, Nat.zero_add, List.range, List.range.loop]) | (refine JG.unwanted rfl (by rfl) ?_; try walk_nrm) | (refine jgo rfl rfl (by rfl) (by decide) (fun K E hK hE τ d => ?_); go_simp; refine hK _ _ (JG.tap ?_); clear hK hE K E τ d; try walk_nrm)
    refine JG.exit (by rfl) ?_
    repeat first | refine JG.seq ?_ | refine JG.skip ?_ | refine JG.inBlock ?_ | refine JG.block ?_ | refine JG.done ?_ | refine JG.label ?_ | refine JG.condT rfl ?_ | refine JG.condF rfl ?_ | (refine JG.region ?_; simp only [List.size_toArray, List.length_cons, List.length_nil, Nat.reduceAdd, Nat.zero_add, List.range, List.range.loop]) | (refine JG.unwanted rfl (by rfl) ?_; try walk_nrm) | (refine jgo rfl rfl (by rfl) (by decide) (fun K E hK hE τ d => ?_); go_simp; refine hK _ _ (JG.tap ?_); clear hK hE K E τ d; try walk_nrm) | (refine jgo rfl rfl (by rfl) (by decide) (fun K E hK hE τ d => ?_); have hfact := (under_cell _ τ d _).trans (g0); go_simp; refine hK _ _ (JG.tap ?_); clear hfact hK hE K E τ d; try walk_nrm)
    refine JG.ret ?_
    exact JG.leave rfl rfl Try.func83 (fun τ d => results_tmp (t := 6) rfl _ _ _) h
  | succ k ih =>
    intro i hik u4 u5 u6 u8 u9 u10 u11 u12 u13 u14 u15 u16 u17 u18 u19 u20 u21 u22 u23 u24 u25 u26 u27 u28 u29 u30 u31 u32 u33 u34 u35 u36 u37 u38 u39 u43 u44 u45 u46 u47 u48 u49 u50 u51 u52 u53 u54 u55 u56 hf
    simp only [Try.f83, Option.getD_some, Code.nav] at ih ⊢
    have hx : decide ((i : Int) < l.length) = true := by simp; omega
    have hxN : decide (i < l.length) = true := by simp; omega
    have hlt : i < l.length := by omega
    obtain ⟨q, hq⟩ : ∃ q, l[i]? = some q := ⟨_, List.getElem?_eq_getElem hlt⟩
    have gi := hg i q hq
    have ni := hnum i q hq
    have hd : l.drop i = q :: l.drop (i + 1) := by
      rw [List.drop_eq_getElem_cons hlt]
      rw [List.getElem?_eq_getElem hlt] at hq
      rw [Option.some.inj hq]
    have hw : IntKind.i64.wrap ((i : Int) + 1) = ((i + 1 : Nat) : Int) := by rw [IntKind.wrap_i64]; omega
    have hlt' : (i : Int) < l.length := by omega
    replace ih := Lib.hid ih
    replace hg := Lib.hid hg
    replace hnum := Lib.hid hnum
    cases hc : decide (last < (q.1 : Int)) with
    | true =>
      have hres : behindOf last l = q := by
        unfold behindOf
        rw [hf, hd]; simp only [List.find?_cons, hc]; rfl
      rw [hres] at h
      replace hf := Lib.hid hf
      replace hd := Lib.hid hd
      repeat first | refine JG.seq ?_ | refine JG.skip ?_ | refine JG.inBlock ?_ | refine JG.block ?_ | refine JG.done ?_ | refine JG.label ?_ | refine JG.condT rfl ?_ | refine JG.condF rfl ?_ | (refine JG.region ?_; simp only [List.size_toArray, List.length_cons, List.length_nil, Nat.reduceAdd, Nat.zero_add, List.range, List.range.loop]) | (refine JG.unwanted rfl (by rfl) ?_; try walk_nrm) | (refine jgo rfl rfl (by rfl) (by decide) (fun K E hK hE τ d => ?_); go_simp; refine hK _ _ (JG.tap ?_); clear hK hE K E τ d; try walk_nrm) | (refine jgo rfl rfl (by rfl) (by decide) (fun K E hK hE τ d => ?_); have hfact := (under_cell _ τ d _).trans (gi); go_simp; refine hK _ _ (JG.tap ?_); clear hfact hK hE K E τ d; try walk_nrm) | (refine jgo rfl rfl (by rfl) (by decide) (fun K E hK hE τ d => ?_); have hfact := (under_cell _ τ d _).trans (ni); go_simp; refine hK _ _ (JG.tap ?_); clear hfact hK hE K E τ d; try walk_nrm)
      refine JG.ret ?_
      exact JG.leave rfl rfl Try.func83 (fun τ d => results_tmp (t := 6) rfl _ _ _) h
    | false =>
      have hf' : (l.find? fun q => decide (last < q.1)) = ((l.drop (i + 1)).find? fun q => decide (last < q.1)) := by rw [hf, hd]; simp only [List.find?_cons, hc]
      replace hf := Lib.hid hf
      replace hf' := Lib.hid hf'
      replace hd := Lib.hid hd
      replace h := Lib.hid h
      repeat first | refine JG.seq ?_ | refine JG.skip ?_ | refine JG.inBlock ?_ | refine JG.block ?_ | refine JG.done ?_ | refine JG.label ?_ | refine JG.condT rfl ?_ | refine JG.condF rfl ?_ | (refine JG.region ?_; simp only [List.size_toArray, List.length_cons, List.length_nil, Nat.reduceAdd, Nat.zero_add, List.range, List.range.loop]) | (refine JG.unwanted rfl (by rfl) ?_; try walk_nrm) | (refine jgo rfl rfl (by rfl) (by decide) (fun K E hK hE τ d => ?_); go_simp; refine hK _ _ (JG.tap ?_); clear hK hE K E τ d; try walk_nrm) | (refine jgo rfl rfl (by rfl) (by decide) (fun K E hK hE τ d => ?_); have hfact := (under_cell _ τ d _).trans (gi); go_simp; refine hK _ _ (JG.tap ?_); clear hfact hK hE K E τ d; try walk_nrm) | (refine jgo rfl rfl (by rfl) (by decide) (fun K E hK hE τ d => ?_); have hfact := (under_cell _ τ d _).trans (ni); go_simp; refine hK _ _ (JG.tap ?_); clear hfact hK hE K E τ d; try walk_nrm)
      refine JG.inLoop ?_
      exact ih.out (i + 1) (by omega) _ _ _ _ _ _ _ _ _ _ _ _ _ _ _ _ _ _ _ _ _ _ _ _ _ _ _ _ _ _ _ _ _ _ _ _ _ _ _ _ _ _ _ _ _ _ _ _ _ hf'.out
set_option maxHeartbeats 2000000 in
theorem pickB_J {gw : Nat} {po : Option Addr} {wc : Nat} (l : List (Nat × Nat)) (went : List Nat) (hp : x.cell? (th pb 0) = some (.slice po pn pc)) (hm : pn ≤ went.length) (hpv : x.cell? (th pv 0) = some (P0 rb)) (hrb : x.cell? (th rb 3) = some (.slice (some ⟨gw, 0, none⟩) went.length wc) ∨ went = [])
    (hw0 : ∀ (j q : Nat), went[j]? = some q → x.cell? (th gw j) = some (.int .i64 q)) (hwl : went.length < 100000) (hl0 : 0 < l.length) (hl : l.length < 100) (hg : ∀ (j : Nat) (q : Nat × Nat), l[j]? = some q → x.cell? (th g j) = some (P0 q.2)) (hnum : ∀ (j : Nat) (q : Nat × Nat), l[j]? = some q → x.cell? (th q.2 1) = some (.int .i64 q.1))
    (h : JG Try.prog Post C (G (c.finish (P0 (behindOf (match went.getLast? with | some q => (q : Int) | none => -1) l).2)) cs) x) :
    JG Try.prog Post C (G (Frame.enter Try.prog 83 #[.int .i64 went.length, .slice (some ⟨g, 0, none⟩) l.length cap, P0 pb, P0 pv] .normal) (c :: cs)) x := by
  have hlp := fun tn last h => @pick_loop Post C x c cs pb pv g cap tn last l hl0 hl hg hnum h l.length 0 (by omega)
  simp only [Try.f83, Option.getD_some, Code.nav] at hlp
  replace hlp := Lib.hid hlp
  replace hg := Lib.hid hg
  replace hnum := Lib.hid hnum
  rcases Nat.eq_zero_or_pos went.length with h0 | hpos
  · obtain rfl : went = [] := List.length_eq_zero_iff.1 h0
    obtain rfl : pn = 0 := by simpa using hm
    replace h := Lib.hid h
    clear hw0 hrb h0 hm hwl
    refine enterN Try.func83 (by rfl) (by rfl) ?_
    simp only [Try.f83, Option.getD_some, List.length_nil]
    walk_nrm
    repeat first | refine JG.seq ?_ | refine JG.skip ?_ | refine JG.inBlock ?_ | refine JG.block ?_ | refine JG.done ?_ | refine JG.label ?_ | refine JG.condT rfl ?_ | refine JG.condF rfl ?_ | (refine JG.region ?_; simp only [List.size_toArray, List.length_cons, List.length_nil, Nat.reduceAdd, Nat.zero_add, List.range, List.range.loop]) | (refine JG.unwanted rfl (by rfl) ?_; try walk_nrm) | (refine jgo rfl rfl (by rfl) (by decide) (fun K E hK hE τ d => ?_); go_simp; refine hK _ _ (JG.tap ?_); clear hK hE K E τ d; try walk_nrm) | (refine jgo rfl rfl (by rfl) (by decide) (fun K E hK hE τ d => ?_); have hfact := (under_cell _ τ d _).trans (hp); go_simp; refine hK _ _ (JG.tap ?_); clear hfact hK hE K E τ d; try walk_nrm) | (refine jgo rfl rfl (by rfl) (by decide) (fun K E hK hE τ d => ?_); have hfact := (under_cell _ τ d _).trans (hpv); go_simp; refine hK _ _ (JG.tap ?_); clear hfact hK hE K E τ d; try walk_nrm)
    refine JG.loop ?_
    refine hlp.out 0 (-1) h.out _ _ _ _ _ _ _ _ _ _ _ _ _ _ _ _ _ _ _ _ _ _ _ _ _ _ _ _ _ _ _ _ _ _ _ _ _ _ _ _ _ _ _ _ _ _ _ _ _ ?_
    rfl
  · have h1 : decide ((went.length : Int) < pn) = false := by simp; omega
    have h2 : decide (went.length < pn) = false := by simp; omega
    have h3 : decide (0 < went.length) = true := by simp; omega
    have h4 : decide ((0 : Int) < went.length) = true := by simp; omega
    obtain ⟨q, hq⟩ : ∃ q, went[went.length - 1]? = some q := ⟨_, List.getElem?_eq_getElem (by omega)⟩
    have hlast : went.getLast? = some q := by rw [List.getLast?_eq_getElem?]; exact hq
    rw [hlast] at h
    have gq := hw0 _ q hq
    have hrb' : x.cell? (th rb 3) = some (.slice (some ⟨gw, 0, none⟩) went.length wc) := by
      rcases hrb with h | h
      · exact h
      · rw [h] at hpos; simp at hpos
    obtain ⟨n, hn⟩ : ∃ n, went.length = n + 1 := ⟨went.length - 1, by omega⟩
    have hw : IntKind.i64.wrap ((went.length : Int) - 1) = (n : Int) := by rw [IntKind.wrap_i64]; omega
    have e0 : went.length - 1 = n := by omega
    rw [e0] at gq
    have h5 : n < went.length := by omega
    have h6 : (n : Int) < went.length := by omega
    replace h := Lib.hid h
    replace hn := Lib.hid hn
    clear hw0 hrb hm hwl hq hlast e0
    generalize went.length = tn at h1 h2 h3 h4 hrb' hw h5 h6 hpos ⊢
    refine enterN Try.func83 (by rfl) (by rfl) ?_
    simp only [Try.f83, Option.getD_some]
    walk_nrm
    repeat first | refine JG.seq ?_ | refine JG.skip ?_ | refine JG.inBlock ?_ | refine JG.block ?_ | refine JG.done ?_ | refine JG.label ?_ | refine JG.condT rfl ?_ | refine JG.condF rfl ?_ | (refine JG.region ?_; simp only [List.size_toArray, List.length_cons, List.length_nil, Nat.reduceAdd, Nat.zero_add, List.range, List.range.loop]) | (refine JG.unwanted rfl (by rfl) ?_; try walk_nrm) | (refine jgo rfl rfl (by rfl) (by decide) (fun K E hK hE τ d => ?_); go_simp; refine hK _ _ (JG.tap ?_); clear hK hE K E τ d; try walk_nrm) | (refine jgo rfl rfl (by rfl) (by decide) (fun K E hK hE τ d => ?_); have hfact := (under_cell _ τ d _).trans (hp); go_simp; refine hK _ _ (JG.tap ?_); clear hfact hK hE K E τ d; try walk_nrm) | (refine jgo rfl rfl (by rfl) (by decide) (fun K E hK hE τ d => ?_); have hfact := (under_cell _ τ d _).trans (hpv); go_simp; refine hK _ _ (JG.tap ?_); clear hfact hK hE K E τ d; try walk_nrm) | (refine jgo rfl rfl (by rfl) (by decide) (fun K E hK hE τ d => ?_); have hfact := (under_cell _ τ d _).trans (hrb'); go_simp; refine hK _ _ (JG.tap ?_); clear hfact hK hE K E τ d; try walk_nrm) | (refine jgo rfl rfl (by rfl) (by decide) (fun K E hK hE τ d => ?_); have hfact := (under_cell _ τ d _).trans (gq); go_simp; refine hK _ _ (JG.tap ?_); clear hfact hK hE K E τ d; try walk_nrm)
    refine JG.loop ?_
    refine hlp.out tn q h.out _ _ _ _ _ _ _ _ _ _ _ _ _ _ _ _ _ _ _ _ _ _ _ _ _ _ _ _ _ _ _ _ _ _ _ _ _ _ _ _ _ _ _ _ _ _ _ _ _ ?_
    rfl
theorem behind_spec (went : List Nat) (l : List (Nat × Nat)) (hl : 0 < l.length) :
    behindOf (match went.getLast? with | some q => (q : Int) | none => -1) l ∈ l ∧
      (behindOf (match went.getLast? with | some q => (q : Int) | none => -1) l).1 = (((l.map (·.1)).find? fun t => match went.getLast? with | some q => decide (q < t) | none => true)).getD ((l.map (·.1)).headD 0) := by
  have hfun : (fun q : Nat × Nat => decide ((match went.getLast? with | some q => (q : Int) | none => -1) < (q.1 : Int))) = (fun t : Nat => match went.getLast? with | some q => decide (q < t) | none => true) ∘ (·.1) := by
    funext q
    cases went.getLast? with
    | none => simp; omega
    | some w => simp
  unfold behindOf
  rw [hfun, List.find?_map]
  cases hf : l.find? ((fun t : Nat => match went.getLast? with | some q => decide (q < t) | none => true) ∘ (·.1)) with
  | none =>
    cases l with
    | nil => simp at hl
    | cons a l => simp
  | some q => exact ⟨List.mem_of_find?_eq_some hf, rfl⟩
/-- Who goes. -/
theorem pick_J {gw : Nat} {po : Option Addr} {wc : Nat} (picks : List Int) (l : List (Nat × Nat)) (went : List Nat) (hp : x.cell? (th pb 0) = some (.slice po picks.length pc)) (hpo : picks ≠ [] → ∃ gp, po = some ⟨gp, 0, none⟩ ∧ ∀ (j : Nat) (q : Int), picks[j]? = some q → x.cell? (th gp j) = some (.int .i64 q))
    (hpv : x.cell? (th pv 0) = some (P0 rb)) (hrb : x.cell? (th rb 3) = some (.slice (some ⟨gw, 0, none⟩) went.length wc) ∨ went = [])
    (hw0 : ∀ (j q : Nat), went[j]? = some q → x.cell? (th gw j) = some (.int .i64 q)) (hwl : went.length < 100000) (hl0 : 0 < l.length) (hl : l.length < 100) (hg : ∀ (j : Nat) (q : Nat × Nat), l[j]? = some q → x.cell? (th g j) = some (P0 q.2)) (hnum : ∀ (j : Nat) (q : Nat × Nat), l[j]? = some q → x.cell? (th q.2 1) = some (.int .i64 q.1))
    (h : ∀ q, q ∈ l → q.1 = picked picks went (l.map (·.1)) → JG Try.prog Post C (G (c.finish (P0 q.2)) cs) x) :
    JG Try.prog Post C (G (Frame.enter Try.prog 83 #[.int .i64 went.length, .slice (some ⟨g, 0, none⟩) l.length cap, P0 pb, P0 pv] .normal) (c :: cs)) x := by
  rcases Nat.lt_or_ge went.length picks.length with hm | hm
  · obtain ⟨gp, rfl, hgp⟩ := hpo (by rintro rfl; simp at hm)
    obtain ⟨p, hp1⟩ : ∃ p, picks[went.length]? = some p := ⟨_, List.getElem?_eq_getElem hm⟩
    have hz : (0 : Int) < l.length := by omega
    have b1 := Int.emod_nonneg p (show (l.length : Int) ≠ 0 by omega)
    have b2 := Int.emod_lt_of_pos p hz
    have hk : (p % (l.length : Int)).toNat < l.length := by omega
    obtain ⟨q, hq⟩ : ∃ q, l[(p % (l.length : Int)).toNat]? = some q := ⟨_, List.getElem?_eq_getElem hk⟩
    refine pickA_J hp hm (hgp _ _ hp1) hl0 hl (hg _ _ hq) (h q (List.mem_of_getElem? hq) ?_)
    unfold picked
    rw [hp1]
    simp only [List.length_map, List.getD_eq_getElem?_getD, List.getElem?_map, hq]
    rfl
  · obtain ⟨e1, e2⟩ := behind_spec went l hl0
    refine pickB_J l went hp hm hpv hrb hw0 hwl hl0 hl hg hnum (h _ e1 ?_)
    unfold picked
    rw [List.getElem?_eq_none hm]
    exact e2
end
end Go.Proofs.Ytecmobjiepgfjaa
