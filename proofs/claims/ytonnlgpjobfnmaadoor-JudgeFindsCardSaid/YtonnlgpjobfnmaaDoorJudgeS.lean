/- judge.Linear's inner function: the whole search. Conditions: what the boxes hold. -/
import Derived.Test.YtonnlgpjobfnmaaDoorJudgeR
namespace Go.Proofs.YtonnlgpjobfnmaaDoor
open Go.RowKit
theorem from_any (base : Nat) (E : Env) (k : Int) (hk : 1 ≤ k ∧ k ≤ 4) (H : List Cal) (hH : H.length ≤ 12) (hwf : ∀ c, c ∈ H → c.wf) (must : Nat) (hm : must < 4096) : ∀ (r d n : Nat) (v : Value) (hs : List Int) (seen : List (List UInt8)) (ord : List Nat) (w : World),
    d < 4096 → 12 ≤ r + cnt d → hs.length + r ≤ 1000 → (2 < k → hs.length = 1) → n + nodes r ≤ 100000000000000 → ord.length + r ≤ 1000 → FromAt w base E k H must n seen ord → ThingAt w v hs → (∀ s, s ∈ seen → Good k H must d s) →
    Calls Tryd.prog 42 (#[.int .i64 d, v] ++ E.args) w (FromPost base E k H must r n seen ord (Lin k H must d hs) w) := by
  intro r
  induction r with
  | zero =>
    intro d n v hs seen ord w hd hr hl h1 hn hol h hv hg
    by_cases hdone : d &&& must = must
    · exact from_done base E k H must 0 d n hd hm v hs seen ord w h hdone
    · by_cases hkey : keyB (d : Nat) hs ∈ seen
      · exact from_seen base E k H must 0 d n hd hm v hs (by omega) seen ord w h hdone hv hkey hg
      · exact from_walk base E k hk H hH hwf must 0 d n hd hm v hs hl h1 hr hn seen ord hol w h hdone hv hkey hg (fun r' hr' => by omega)
  | succ r ih =>
    intro d n v hs seen ord w hd hr hl h1 hn hol h hv hg
    by_cases hdone : d &&& must = must
    · exact from_done base E k H must (r + 1) d n hd hm v hs seen ord w h hdone
    · by_cases hkey : keyB (d : Nat) hs ∈ seen
      · exact from_seen base E k H must (r + 1) d n hd hm v hs (by omega) seen ord w h hdone hv hkey hg
      · exact from_walk base E k hk H hH hwf must (r + 1) d n hd hm v hs hl h1 hr hn seen ord hol w h hdone hv hkey hg (fun r' hr' => by
          have e : r' = r := by omega
          subst e
          exact fun d' n' v' hs' seen' ord' w' a b c d e f g h i => ih d' n' v' hs' seen' ord' w' a b c d e f g h i)
end Go.Proofs.YtonnlgpjobfnmaaDoor
