/- Rows of bytes of the call's own; bytes.Clone. -/
import Derived.Test.YtabdjehnglmlpaaQc
namespace Go.Proofs.Ytabdjehnglmlpaa
open Go.RowKit Go.Proofs.YtabdjehnglmlpaaW.PrintWords
set_option linter.unusedVariables false
set_option linter.unusedSimpArgs false

/-- A row of bytes of the call's own. -/
def OwnB (w : World) (base : Nat) (v : Value) (xs : List Int) : Prop := w.ownsRow base 5 1 v xs.length (nums .u8 xs)

set_option maxHeartbeats 1000000 in
theorem Clone_calls {w : World} {A : Option Addr} {c : Nat} {xs : List Int} (hr : Kd.C (Kd.int .u8) w A xs.length xs) (hc : xs.length ≤ c) (hl : xs.length ≤ 140737488355232) :
    Calls Try.prog 105 #[.slice A xs.length c] w fun e w' => ∃ v, e = .returned v ∧ OwnB w' w.heap.size v xs ∧ Below w.heap.size w w' := by
  rcases A with _ | ad
  · have h0 : xs.length = 0 := by
      rcases Nat.eq_zero_or_pos xs.length with h0 | h0
      · exact h0
      · obtain ⟨ad, h, _⟩ := hr.2.2 h0
        cases h
    obtain rfl : xs = [] := List.eq_nil_of_length_eq_zero h0
    have heq := fun W : World => Lib.run_eql_slice_nil (P := Try.prog) W 22 5 none 0 c 0 0 Try.underlying22
    clear hr hc hl h0
    go_enter Try.func105, Try.ntmps105
    go_wp2
    go_ret
    exact ⟨_, rfl, World.ownsRow_nil _ _ _ _, Below.refl _ _⟩
  · have heq := fun W : World => Lib.run_eql_slice_nil (P := Try.prog) W 22 5 (some ad) xs.length c 0 0 Try.underlying22
    have hr2 : ReadsInt (w.alloc (.cells #[] 5)) .u8 (some ad) xs.length xs := Kd.reads_of_C (d := (0 : Int)) (Kd.C_below hr ((Below.refl _ w).alloc (Nat.le_refl _) _))
    have ho : (w.alloc (.cells #[] 5)).ownsRow w.heap.size 5 1 (.slice (some ⟨w.heap.size, 0, none⟩) 0 0) ([] : List Int).length (nums .u8 []) := World.ownsRow_made w #[] 0 (Nat.le_refl _) (by decide) rfl
    have hb : Below w.heap.size w (w.alloc (.cells #[] 5)) := (Below.refl _ w).alloc (Nat.le_refl _) _
    have HR := Lib.hid hr2
    have HO := Lib.hid ho
    have HB := Lib.hid hb
    have HL : Hid (xs.length ≤ 140737488355232) := hl
    clear hr hr2 ho hb hl
    go_enter Try.func105, Try.ntmps105
    go_wp2_with (at_builtin; refine print_append_row (w0 := w) w.heap.size rfl _ _ 22 5 .u8 1 (by rfl) Try.underlying22 info5 (by decide) (.slice (some ⟨w.heap.size, 0, none⟩) 0 0) [] xs (some ad) xs.length c (by rfl) (by rfl) HO.out HR.out HB.out (by simp) (by have := HL.out; simp; omega) ?_; intro v1 w1 hown hbel hgrow hat)
    go_ret
    exact ⟨_, rfl, hown, hbel⟩

end Go.Proofs.Ytabdjehnglmlpaa
