/- OutboxFull: all together. -/
import Derived.Test.YtabdjehnglmlpaaOx
import Derived.Test.YtabdjehnglmlpaaOy
namespace Go.Proofs.Ytabdjehnglmlpaa
open Go.RowKit Go.Proofs.YtabdjehnglmlpaaW.PrintWords
theorem OutboxFull_walk {w : World} {n : No} (_ : No.ok n) (now : Int) (_ : (Lit.int .i64 now).wf = true) (a : Int) (ha : (Lit.int .u8 a).wf = true) :
    Calls Try.prog 5 #[No.val n, .int .i64 now, .int .u8 a] w fun e w' => e = .returned (.bool true) ∧ Below w.heap.size w w' := by
  have h := wf8 ha
  obtain ⟨k, rfl⟩ := Int.eq_ofNat_of_zero_le h.1
  by_cases hr : instO now = false ∨ fitsB n = false
  · exact Full_refused n now _ hr
  · exact Full_yes n now k (by omega) (by cases h2 : instO now; · exact absurd (.inl h2) hr
                                          · rfl) (by cases h2 : fitsB n; · exact absurd (.inr h2) hr
                                                     · rfl)
end Go.Proofs.Ytabdjehnglmlpaa
