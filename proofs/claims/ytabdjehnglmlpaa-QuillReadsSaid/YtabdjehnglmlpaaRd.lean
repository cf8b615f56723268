/- QuillReads: every input. -/
import Derived.Test.YtabdjehnglmlpaaRc
import Derived.Test.YtabdjehnglmlpaaQl
namespace Go.Proofs.Ytabdjehnglmlpaa
open Go.RowKit Go.Proofs.YtabdjehnglmlpaaW.PrintWords
set_option linter.unusedVariables false
set_option linter.unusedSimpArgs false

set_option maxRecDepth 100000 in
set_option maxHeartbeats 1000000 in
theorem QuillReads_big {w : World} {A A2 : Option Addr} {n c n2 c2 : Nat} (hm : n ≤ 9223372036854775807) (hm2 : n2 ≤ 9223372036854775807) (h : 3000 < n ∨ (n ≤ 3000 ∧ 200 < n2)) :
    Calls Try.prog 11 #[.slice A n c, .slice A2 n2 c2] w fun e w' => e = .returned (.bool true) ∧ Below w.heap.size w w' := by
  rcases h with h | ⟨h, h2⟩
  all_goals
    go_enter Try.func11, Try.ntmps11
    go_wp2_with (go_at_call 20; refine (lives01_calls _).mono ?_; rintro e w' ⟨rfl, hb⟩; have HB := Lib.hid hb; clear hb)
    go_ret
    exact ⟨rfl, HB.out⟩

theorem QuillReads_walk {w : World} {A : Option Addr} {n c : Nat} {xs : List Int} (hr : Kd.C (Kd.int .u8) w A n xs) (hc : n ≤ c) (hy : n * 1 ≤ 140737488351232) (hw : ∀ x ∈ xs, (Lit.int .u8 x).wf = true)
    {A2 : Option Addr} {n2 c2 : Nat} {l : List S104} (hr2 : Kd.C k104 w A2 n2 l) (hc2 : n2 ≤ c2) (hw2 : ∀ x ∈ l, Ask.ok x) :
    Calls Try.prog 11 #[.slice A n c, .slice A2 n2 c2] w fun e w' => e = .returned (.bool true) ∧ Below w.heap.size w w' := by
  by_cases h : 3000 < n
  · exact QuillReads_big hr.2.1 hr2.2.1 (.inl h)
  · by_cases h2 : 200 < n2
    · exact QuillReads_big hr.2.1 hr2.2.1 (.inr ⟨by omega, h2⟩)
    · exact QuillReads_small hr hc (by omega) (byt_of_wf hw) hr2 hc2 (by omega) hw2
end Go.Proofs.Ytabdjehnglmlpaa
