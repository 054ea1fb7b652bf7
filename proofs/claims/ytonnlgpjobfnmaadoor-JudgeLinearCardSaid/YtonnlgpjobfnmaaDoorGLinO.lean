/- Joined of the texts LinN, LinO; what each proves, and its conditions, stand ahead of it. -/
import Derived.Test.YtonnlgpjobfnmaaDoorGLinM
import Derived.Test.YtonnlgpjobfnmaaDoorGLinGb
import Derived.Test.YtonnlgpjobfnmaaDoorGLinH
/- ref26.Linear: the same answer as judge.Linear's. Conditions: what the calls' cells hold. -/
namespace Go.Proofs.YtonnlgpjobfnmaaDoor
open Go.RowKit
set_option maxRecDepth 100000
theorem rfrom_any (base bs : Nat) (k : Int) (hk : 1 ≤ k ∧ k ≤ 4) (hb : Option Addr) (n0 hcap : Nat) (H : List Cal) (hn0 : H.length = n0) (hH : n0 ≤ 12) (hright : ∀ c, c ∈ H → rightF k c = true) : ∀ (r d : Nat) (hs : List Int) (v : Value) (mem : List (Nat × List Int)) (vb vh : Value) (w : World),
    d < 4096 → unset d 12 ≤ r → hs.length + r ≤ 1000 → (2 < k → hs.length ≤ 1) → mem.length + nods r ≤ 4000000000 → SrchAt w base bs k hb n0 hcap H mem vb vh → ThingAt w v hs → (∀ e, e ∈ mem → Lin k H (mustOf H) e.1 e.2 = none ∧ e.2.length ≤ 1000) →
    Calls Tryd.prog 48 #[.pointer (some ⟨bs, 0, none⟩), .int .i64 d, v] w (RPost base bs k hb n0 hcap H r mem (Lin k H (mustOf H) d hs) w) := by
  intro r
  induction r with
  | zero =>
    intro d hs v mem vb vh w hd hr hl h1 hm hS hv hdead
    exact rfrom_walk base bs k hk hb n0 hcap H hn0 hH hright 0 d hd hr hs v hl h1 mem hm vb vh w hS hv hdead (fun r' hr' => by omega)
  | succ r ih =>
    intro d hs v mem vb vh w hd hr hl h1 hm hS hv hdead
    exact rfrom_walk base bs k hk hb n0 hcap H hn0 hH hright (r + 1) d hd hr hs v hl h1 mem hm vb vh w hS hv hdead (fun r' hr' => by
      have e : r' = r := by omega
      subst e
      exact fun d' hs' v' mem' vb' vh' w' a b c d e f g h => ih d' hs' v' mem' vb' vh' w' a b c d e f g h)
theorem lin_begins (k : Int) (H : List Cal) : Lin k H (mustOf H) 0 (begins k) = Lin k H (mustOf H) 0 [] := by
  unfold begins
  split
  · rfl
  · exact (Lin_zero (by omega) H _ _).symm
/-- All calls so far are right, and nothing is written. -/
def RLRel (k : Int) (H : List Cal) (w : World) (i : Value) (wr : World) : Prop := ∃ j : Nat, j ≤ H.length ∧ i = .int .i64 j ∧ (∀ c, c ∈ H.take j → rightF k c = true) ∧ Below w.heap.size w wr
set_option maxHeartbeats 1600000 in
theorem rlinear_any (k : Int) (hk : i64of k) (b : Option Addr) (cap : Nat) (H : List Cal) (hcap : H.length ≤ 9223372036854775807) (w : World) (hC : CallsAt w w.heap.size b H) (hb : ∀ g off, b = some ⟨g, off, none⟩ → g < w.heap.size) :
    Calls Tryd.prog 13 #[.int .i64 k, .slice b H.length cap] w (LinPost k H w) := by
  have HC := Lib.hid hC
  have HB := Lib.hid hb
  obtain ⟨hk0, hk1⟩ := hk
  clear hC hb
  go_enter Tryd.func13, Tryd.ntmps13
  by_cases h1 : 1 ≤ k
  · by_cases h4 : k ≤ 4
    · by_cases h12 : 12 < H.length
      · have hx : decide (12 < H.length) = true := by simpa using h12
        go_wp2_with fail
        refine bodyPost_ret (v := .tuple #[.slice none 0 0, .bool false, .int .i64 33]) (by simp [results, Tryd.results13, go_sem]) rfl (LinPost.no (by unfold linOf; rw [if_neg (by simp [h1, h4]), if_pos h12]) (Below.refl _ _))
      · have hx : decide (12 < H.length) = false := by simpa using h12
        go_wp2_with fail
        clear hx
        go_loopw [7] (fun i wr => RLRel k H w i wr) (fun i _ => H.length - (intOf i).toNat)
        case atStart => exact ⟨0, Nat.zero_le _, rfl, by intro c hc; simp at hc, Below.refl _ _⟩
        case round =>
          obtain ⟨j, hj, rfl, hri, hbel⟩ := hrel
          have HRI := Lib.hid hri
          have HBE := Lib.hid hbel
          clear hri hbel
          by_cases hlt : j < H.length
          · have hx : decide (j < H.length) = true := by simpa using hlt
            have hxj : decide ((j : Int) < (H.length : Int)) = true := by simp; omega
            obtain ⟨c, hcj⟩ : ∃ c, H[j]? = some c := ⟨H[j], List.getElem?_eq_getElem hlt⟩
            obtain ⟨g, off, hga, hg, hA⟩ := (HC.out.of HBE.out).at_ j c hcj
            subst hga
            obtain ⟨g0, g1, g2, g3, g4, g5, g6⟩ := hA
            have HCJ := Lib.hid hcj
            clear hcj
            have HRT : Hid (∀ m, Calls Tryd.prog 47 #[.int .i64 k, .agg (calA c)] m (RightPost k c m)) := Lib.hid fun m => rright_any k ⟨h1, h4⟩ c m
            by_cases hr : rightF k c = true
            · go_wp2_with (go_at_call 47; rw [show (#[Value.int .i8 c.op, .int .i64 c.arg, .int .i64 c.new, .int .i64 c.ans, .bool c.ok, .int .i64 c.beg, .int .i64 c.fin] : Array Value) = calA c from rfl]; refine (HRT.out _).mono ?_; rintro e w1 ⟨he, hb1⟩; rw [hr] at he; subst he; have HK1 := Lib.hid hb1; clear hb1)
              refine ⟨⟨j + 1, by omega, by rw [Int.natCast_add]; rfl, fun c' hc' => ?_, HBE.out.trans (HK1.out.mono HBE.out.size)⟩, by simp [intOf]; omega⟩
              rw [List.take_add_one, HCJ.out] at hc'
              rcases List.mem_append.1 hc' with h | h
              · exact HRI.out c' h
              · obtain rfl : c' = c := by simpa using h
                exact hr
            · go_wp2_with (go_at_call 47; rw [show (#[Value.int .i8 c.op, .int .i64 c.arg, .int .i64 c.new, .int .i64 c.ans, .bool c.ok, .int .i64 c.beg, .int .i64 c.fin] : Array Value) = calA c from rfl]; refine (HRT.out _).mono ?_; rintro e w1 ⟨he, hb1⟩; rw [Bool.eq_false_iff.2 hr] at he; subst he; have HK1 := Lib.hid hb1; clear hb1)
              refine bodyPost_ret (v := .tuple #[.slice none 0 0, .bool false, .int .i64 32]) (by simp [results, Tryd.results13, go_sem]) rfl (LinPost.no ?_ (HBE.out.trans (HK1.out.mono HBE.out.size)))
              unfold linOf
              rw [if_neg (by simp [h1, h4]), if_neg h12, if_neg]
              intro hall
              exact hr (List.all_eq_true.1 hall c (List.mem_of_getElem? HCJ.out))
          · obtain rfl : j = H.length := by omega
            have hx : decide (H.length < H.length) = false := by simp
            have hall : ∀ c, c ∈ H → rightF k c = true := fun c hc => HRI.out c (by rw [List.take_length]; exact hc)
            have hlin : linOf k H = (Lin k H (mustOf H) 0 [], 0) := by
              unfold linOf
              rw [if_neg (by simp [h1, h4]), if_neg h12, if_pos (List.all_eq_true.2 hall), lin_begins]
            obtain ⟨w2, hw2⟩ : ∃ w2, w2 = wr.alloc (.cells #[.int .i64 k, .slice b H.length cap, .slice none 0 0, .slice none 0 0] 100) := ⟨_, rfl⟩
            have HB2 : Hid (Below w.heap.size w w2) := Lib.hid (by rw [hw2]; exact HBE.out.alloc HBE.out.size _)
            have hsz : w2.heap.size = wr.heap.size + 1 := by rw [hw2]; simp
            have hwr := HBE.out.size
            have HS2 : Hid (SrchAt w2 (wr.heap.size + 1) wr.heap.size k b H.length cap H [] (.slice none 0 0) (.slice none 0 0)) := Lib.hid ⟨by rw [hw2]; exact Blk.new wr _ _, (HC.out.of HB2.out).mono (by omega), fun g off e => by have := HB.out g off e; omega, World.ownsRow_nil _ _ _ _, ⟨[], World.ownsRow_nil _ _ _ _, fun i e y h => by simp at h⟩, by omega, by omega⟩
            have HFA := Lib.hid (rfrom_any (wr.heap.size + 1) wr.heap.size k ⟨h1, h4⟩ b H.length cap H rfl (by omega) hall 12 0 [] (.slice none 0 0) [] _ _ w2 (by omega) (unset_le _ _) (by simp) (fun _ => by simp) (by have := nods_12; simp; omega) HS2.out (thing_nil w2) (fun e he => by cases he))
            have HLI := Lib.hid hlin
            have HAL := Lib.hid hall
            clear hlin hall
            go_upto_region 11 with (fail)
            rw [← hw2]
            clear hw2
            obtain ⟨ans, hans⟩ : ∃ x, x = Lin k H (mustOf H) 0 [] := ⟨_, rfl⟩
            rw [← hans] at HFA HLI
            clear hans
            go_wp2_with (go_at_call 48; refine HFA.out.mono ?_; rintro e w7 ⟨mem7, vb7, vh7, v7, he7, hS7, hm7, hF7, hD7, hv7, hn7, hl7⟩; subst he7; have HF7 := Lib.hid hF7; have HV7 := Lib.hid hv7; clear hS7 hm7 hF7 hD7 hv7 hn7 hl7)
            refine bodyPost_ret (v := .tuple #[v7, .bool ans.isSome, .int .i64 0]) (by simp [results, Tryd.results13, go_sem]) rfl ?_
            refine ⟨HB2.out.trans (Kept.below HF7.out HB2.out.size fun q hq => ?_), v7, by rw [HLI.out], by rw [HLI.out]; exact own_mono HV7.out (by omega)⟩
            rcases hq with rfl | ⟨h, _⟩ | ⟨h, _⟩ <;> omega
    · go_wp2_with fail
      refine bodyPost_ret (v := .tuple #[.slice none 0 0, .bool false, .int .i64 1]) (by simp [results, Tryd.results13, go_sem]) rfl (LinPost.no (by unfold linOf; rw [if_pos (by omega)]) (Below.refl _ _))
  · go_wp2_with fail
    refine bodyPost_ret (v := .tuple #[.slice none 0 0, .bool false, .int .i64 1]) (by simp [results, Tryd.results13, go_sem]) rfl (LinPost.no (by unfold linOf; rw [if_pos (by omega)]) (Below.refl _ _))
end Go.Proofs.YtonnlgpjobfnmaaDoor
/- The law's crowd: how many calls overlap, a number. Conditions: what the calls' cells hold. -/
namespace Go.Proofs.YtonnlgpjobfnmaaDoor
open Go.RowKit
set_option maxRecDepth 100000
def CrPost (w : World) (e : Ending) (w' : World) : Prop := ∃ (x : Nat) (n : Nat), x ≤ 12 ∧ e = .returned (.int .i64 x) ∧ w' = w.drewN n
def CrRel (n : Nat) (w0 : World) (m i : Value) (wr : World) : Prop := ∃ j x nd : Nat, j ≤ n ∧ i = .int .i64 j ∧ x ≤ 12 ∧ m = .int .i64 x ∧ wr = w0.drewN nd
def CiRel (n : Nat) (w0 : World) (m i : Value) (wr : World) : Prop := ∃ j x nd : Nat, j ≤ n ∧ i = .int .i64 j ∧ x ≤ j ∧ m = .int .i64 x ∧ wr = w0.drewN nd
set_option maxHeartbeats 1600000 in
theorem crowd_any (b : Option Addr) (cap B : Nat) (H : List Cal) (n : Nat) (hn : H.length = n) (hH : n ≤ 12) (w : World) (h : CallsAt w B b H) :
    Calls Tryd.prog 9 #[.slice b n cap] w (CrPost w) := by
  have HC := Lib.hid h
  clear h
  go_enter Tryd.func9, Tryd.ntmps9
  go_wp2_with fail
  go_loopw [3, 4] (fun m i wr => CrRel n w m i wr) (fun _ i _ => n - (intOf i).toNat)
  case atStart => exact ⟨0, 0, 0, Nat.zero_le _, rfl, Nat.zero_le _, rfl, rfl⟩
  case round =>
    obtain ⟨j, x, nd, hj, rfl, hx12, rfl, rfl⟩ := hrel
    by_cases hlt : j < n
    · have hx : decide (j < n) = true := by simpa using hlt
      have hxj : decide ((j : Int) < (n : Int)) = true := by simp; omega
      have hj64 : decide ((j : Int) < 0) = false := by simp
      obtain ⟨a, ha⟩ : ∃ a, H[j]? = some a := ⟨H[j]'(by omega), List.getElem?_eq_getElem (by omega)⟩
      obtain ⟨g, off, hga, _, hA⟩ := HC.out.at_ j a ha
      subst hga
      obtain ⟨q0, q1, q2, q3, q4, q5, q6⟩ := hA
      clear q0 q1 q2 q3 q4 q6 ha
      go_wp2_with fail
      go_loopw [5, 6] (fun m i wr => CiRel n w m i wr) (fun _ i _ => n - (intOf i).toNat)
      case atStart => exact ⟨0, 0, nd, Nat.zero_le _, rfl, Nat.zero_le _, rfl, rfl⟩
      case round =>
        obtain ⟨q, x1, nd1, hq, rfl, hx1, rfl, rfl⟩ := hrel
        by_cases hqt : q < n
        · have hy : decide (q < n) = true := by simpa using hqt
          have hyq : decide ((q : Int) < (n : Int)) = true := by simp; omega
          have hq64 : decide ((q : Int) < 0) = false := by simp
          obtain ⟨c, hc⟩ : ∃ c, H[q]? = some c := ⟨H[q]'(by omega), List.getElem?_eq_getElem (by omega)⟩
          obtain ⟨g2, off2, e2, _, hA⟩ := HC.out.at_ q c hc
          injection e2 with e2
          injection e2 with e3 e4
          subst e3 e4
          obtain ⟨p0, p1, p2, p3, p4, p5, p6⟩ := hA
          clear p0 p1 p2 p3 p4 hc
          go_upto_region 9 with (fail)
          by_cases t1p : c.beg ≤ a.beg
          · have t1 : decide (c.beg ≤ a.beg) = true := by simpa using t1p
            by_cases t2p : c.fin < 0
            · have t2 : decide (c.fin < 0) = true := by simpa using t2p
              clear t1p t2p
              refine wp_region_quiet_lit (by kernel_rfl) (by kernel_rfl) ?_
              refine wpQuiet_cut 18 _ _ (fun K hK => ?_)
              simp only [List.take_succ_cons, List.take_zero]
              iterate 18 go_big_quiet_step (fail)
              refine wpQuiet_nil ?_
              refine hK _ ?_
              clear hK K
              refine wpQuiet_strike 11 rfl rfl _ rfl (by kernel_rfl) ?_
              simp only [List.take_succ_cons, List.take_zero, List.drop_succ_cons, List.drop_zero, skipsA]
              go_simp
              refine wpQuiet_cut 2 _ _ (fun K hK => ?_)
              simp only [List.take_succ_cons, List.take_zero]
              iterate 2 go_big_quiet_step (fail)
              refine wpQuiet_nil ?_
              refine hK _ ?_
              clear hK K
              refine wpQuiet_nil ?_
              intro nq
              go_wp2_with fail
              exact ⟨⟨q + 1, x1 + 1, _, by omega, by rw [Int.natCast_add]; rfl, by omega, by rw [Int.natCast_add]; rfl, by first | rfl | simp⟩, by simp [intOf]; omega⟩
            · have t2 : decide (c.fin < 0) = false := by simpa using t2p
              by_cases t3p : a.beg ≤ c.fin
              · have t3 : decide (a.beg ≤ c.fin) = true := by simpa using t3p
                clear t1p t2p t3p
                refine wp_region_quiet_lit (by kernel_rfl) (by kernel_rfl) ?_
                refine wpQuiet_cut 32 _ _ (fun K hK => ?_)
                simp only [List.take_succ_cons, List.take_zero]
                iterate 32 go_big_quiet_step (fail)
                refine wpQuiet_nil ?_
                refine hK _ ?_
                clear hK K
                refine wpQuiet_nil ?_
                intro _ hw'
                obtain ⟨nq, hw''⟩ := hw'
                subst hw''
                go_wp2_with fail
                exact ⟨⟨q + 1, x1 + 1, _, by omega, by rw [Int.natCast_add]; rfl, by omega, by rw [Int.natCast_add]; rfl, by first | rfl | simp⟩, by simp [intOf]; omega⟩
              · have t3 : decide (a.beg ≤ c.fin) = false := by simpa using t3p
                clear t1p t2p t3p
                refine wp_region_quiet_lit (by kernel_rfl) (by kernel_rfl) ?_
                refine wpQuiet_cut 32 _ _ (fun K hK => ?_)
                simp only [List.take_succ_cons, List.take_zero]
                iterate 32 go_big_quiet_step (fail)
                refine wpQuiet_nil ?_
                refine hK _ ?_
                clear hK K
                refine wpQuiet_nil ?_
                intro _ hw'
                obtain ⟨nq, hw''⟩ := hw'
                subst hw''
                go_wp2_with fail
                exact ⟨⟨q + 1, x1, _, by omega, by rw [Int.natCast_add]; rfl, by omega, rfl, by first | rfl | simp⟩, by simp [intOf]; omega⟩
          · have t1 : decide (c.beg ≤ a.beg) = false := by simpa using t1p
            clear t1p
            refine wp_region_quiet_lit (by kernel_rfl) (by kernel_rfl) ?_
            refine wpQuiet_cut 11 _ _ (fun K hK => ?_)
            simp only [List.take_succ_cons, List.take_zero]
            iterate 11 go_big_quiet_step (fail)
            refine wpQuiet_nil ?_
            refine hK _ ?_
            clear hK K
            refine wpQuiet_strike 19 rfl rfl _ rfl (by kernel_rfl) ?_
            simp only [List.take_succ_cons, List.take_zero, List.drop_succ_cons, List.drop_zero, skipsA]
            go_simp
            refine wpQuiet_cut 1 _ _ (fun K hK => ?_)
            simp only [List.take_succ_cons, List.take_zero]
            iterate 1 go_big_quiet_step (fail)
            refine wpQuiet_nil ?_
            refine hK _ ?_
            clear hK K
            refine wpQuiet_nil ?_
            intro nq
            go_wp2_with fail
            exact ⟨⟨q + 1, x1, _, by omega, by rw [Int.natCast_add]; rfl, by omega, rfl, by first | rfl | simp⟩, by simp [intOf]; omega⟩
        · obtain rfl : q = n := by omega
          have hy : decide (q < q) = false := by simp
          go_wp2_with fail
          exact ⟨⟨j + 1, max x x1, nd1, by omega, by rw [Int.natCast_add]; rfl, by omega, by rw [show ((max x x1 : Nat) : Int) = max (x : Int) (x1 : Int) by omega], rfl⟩, by simp [intOf]; omega⟩
    · obtain rfl : j = n := by omega
      have hx : decide (j < j) = false := by simp
      go_wp2_with fail
      exact bodyPost_ret (v := .int .i64 x) (by simp [results, Tryd.results9, go_sem]) rfl ⟨x, nd, hx12, rfl, rfl⟩
end Go.Proofs.YtonnlgpjobfnmaaDoor
