/- quill.Reader.number: what it reads. -/
import Derived.Test.YtabdjehnglmlpaaQa
import Derived.Test.YtabdjehnglmlpaaQp
namespace Go.Proofs.Ytabdjehnglmlpaa
open Go.RowKit Go.Proofs.YtabdjehnglmlpaaW.PrintWords
set_option linter.unusedVariables false
set_option linter.unusedSimpArgs false


theorem Rdr.fail {w0 w : World} {g : Nat} {xs : List Int} {bad : Bool} (h : Rdr w0 w g xs bad) :
    Rdr w0 ((w.setCell ⟨g, 0, none⟩ (.slice none 0 0)).setCell ⟨g, 1, none⟩ (.bool true)) g [] true := by
  obtain ⟨A, c, hb, hg, hc, hr⟩ := h
  exact ⟨none, 0, by simpa using blk_set (blk_set hb 0 (.slice none 0 0)) 1 (.bool true), hg, Nat.le_refl _, ⟨rfl, by simp, fun h => absurd h (by simp)⟩⟩

theorem Mod.setCell {S : Nat → Prop} {a w : World} (h : Mod S a w) {p : Addr} (hp : S p.block) (u : Value) : Mod S a (w.setCell p u) :=
  ⟨h.os, h.tape, h.output, by simpa [World.setCell] using h.size, fun k hk hs => (Below.heap_setCell w p u k (fun e => hs (e ▸ hp))).trans (h.block k hk hs)⟩

theorem Mod.fail (w : World) (g : Nat) : Mod (· = g) w ((w.setCell ⟨g, 0, none⟩ (.slice none 0 0)).setCell ⟨g, 1, none⟩ (.bool true)) :=
  Mod.setCell (S := (· = g)) (Mod.setCell (S := (· = g)) (Mod.refl _ w) (p := ⟨g, 0, none⟩) rfl _) (p := ⟨g, 1, none⟩) rfl _

def NumberPost (w0 w : World) (g : Nat) (xs : List Int) (bad : Bool) (most : Int) (marked : Bool) (e : Ending) (w' : World) : Prop :=
  Mod (· = g) w w' ∧ match numRead xs most marked with
    | none => e = .returned (.tuple #[.int .u64 0, .bool false]) ∧ Rdr w0 w' g [] true
    | some (n, m, r) => e = .returned (.tuple #[.int .u64 n, .bool m]) ∧ Rdr w0 w' g r bad

set_option maxHeartbeats 1000000 in
theorem number_nil {w0 w : World} {g : Nat} {bad : Bool} {most : Int} {marked : Bool} (h : Rdr w0 w g [] bad) :
    Calls Try.prog 103 #[.pointer (some ⟨g, 0, none⟩), .int .u64 most, .bool marked] w (NumberPost w0 w g [] bad most marked) := by
  have hh := h
  obtain ⟨A, c, h0, h1, h2, h3, hc, hr⟩ := h.cells
  have hm : Mod (· = g) w ((w.setCell ⟨g, 0, none⟩ (.slice none 0 0)).setCell ⟨g, 1, none⟩ (.bool true)) := Mod.fail w g
  have hf := h.fail
  have H := Lib.hid hm
  have F := Lib.hid hf
  clear hm hf h
  have hlen : ((([] : List Int).length : Int) == 0) = true := rfl
  go_enter Try.func103, Try.ntmps103
  go_wp2_with (first
    | (go_at_call 28; refine (Left_calls hh).mono ?_; rintro e w' ⟨rfl, rfl⟩)
    | (go_at_call 132; refine (Fail_calls hh).mono ?_; rintro e w' ⟨rfl, rfl⟩))
  go_ret2
  exact ⟨H.out, rfl, F.out⟩


theorem Rdr.head {w0 w : World} {g : Nat} {xs : List Int} {bad : Bool} (hB : Below w0.heap.size w0 w) (h : Rdr w0 w g xs bad) :
    ∃ A c, w.heap[g]? = some (.cells #[.slice A xs.length c, .bool bad] 118 (0, 0)) ∧ w0.heap.size ≤ g ∧ xs.length ≤ c ∧ Kd.C (Kd.int .u8) w0 A xs.length xs ∧ Kd.C (Kd.int .u8) w A xs.length xs := by
  obtain ⟨A, c, hb, hg, hc, hr⟩ := h
  exact ⟨A, c, hb, hg, hc, hr, Kd.C_below hr hB⟩

set_option maxHeartbeats 2000000 in
/-- The first byte says that there are too many, or not so many, or the next one is 0. -/
theorem number_bad {w0 w : World} {g : Nat} {c0 : Int} {r : List Int} {bad : Bool} {most : Int} {marked : Bool} (hB : Below w0.heap.size w0 w) (h : Rdr w0 w g (c0 :: r) bad)
    (h0 : 0 ≤ c0) (h1 : c0 ≤ 255) (sz : Int) (hs : sz = if marked then c0 % 128 else c0) (hbad : sz > 8 ∨ sz > r.length ∨ (sz > 0 ∧ rd r 0 = 0)) :
    Calls Try.prog 103 #[.pointer (some ⟨g, 0, none⟩), .int .u64 most, .bool marked] w (NumberPost w0 w g (c0 :: r) bad most marked) := by
  have hh := h
  have hm : Mod (· = g) w ((w.setCell ⟨g, 0, none⟩ (.slice none 0 0)).setCell ⟨g, 1, none⟩ (.bool true)) := Mod.fail w g
  have hf := h.fail
  have hp : numRead (c0 :: r) most marked = none := by
    unfold numRead; simp only; rw [← hs, if_pos hbad]
  obtain ⟨A, c, hb, hg, hc, hr0, hr⟩ := h.head hB
  have hlen : (c0 :: r).length = r.length + 1 := rfl
  rw [hlen] at hb hc hr hr0
  have e0 : w.cell? ⟨g, 0, none⟩ = some (.slice A (r.length + 1) c) := (blk_cell hb 0).trans rfl
  obtain ⟨ad, rfl, a0⟩ := Kd.at_int hr 0 (by omega) (by omega)
  have a0' : w.cell? ad = some (.int .u8 c0) := a0
  have hmx := hr.2.1
  have H := Lib.hid hm
  have F := Lib.hid hf
  have HP := Lib.hid hp
  have HR := Lib.hid hr
  have HB0 := Lib.hid hbad
  clear hm hf h hp hb hr hr0 a0 hlen hbad
  have hne : (((c0 :: r).length : Int) == 0) = false := by rw [beq_eq_false_iff_ne]; simp only [List.length_cons]; omega
  by_cases k1 : sz > 8
  · cases marked
    all_goals
      simp only [if_true, if_false, Bool.false_eq_true] at hs
      subst hs
      go_enter Try.func103, Try.ntmps103
      go_wp2_with (first
        | (go_at_call 28; refine (Left_calls hh).mono ?_; rintro e w' ⟨rfl, rfl⟩)
        | (go_at_call 132; refine (Fail_calls hh).mono ?_; rintro e w' ⟨rfl, rfl⟩))
      go_ret2
      refine ⟨H.out, ?_⟩
      rw [HP.out]
      exact ⟨rfl, F.out⟩
  · by_cases k2 : sz > r.length
    · cases marked
      all_goals
        simp only [if_true, if_false, Bool.false_eq_true] at hs
        subst hs
        go_enter Try.func103, Try.ntmps103
        go_wp2_with (first
          | (go_at_call 28; refine (Left_calls hh).mono ?_; rintro e w' ⟨rfl, rfl⟩)
          | (go_at_call 132; refine (Fail_calls hh).mono ?_; rintro e w' ⟨rfl, rfl⟩))
        go_ret2
        refine ⟨H.out, ?_⟩
        rw [HP.out]
        exact ⟨rfl, F.out⟩
    · have hz : sz > 0 ∧ rd r 0 = 0 := by
        rcases HB0.out with h | h | h
        · exact absurd h k1
        · exact absurd h k2
        · exact h
      obtain ⟨z1, z2⟩ := hz
      obtain ⟨ad', e', a1⟩ := Kd.at_int HR.out 1 (by omega) (by omega)
      injection e' with e'
      subst e'
      have a1' : w.cell? ⟨ad.block, ad.off + 1, none⟩ = some (.int .u8 0) := by rw [← z2]; exact a1
      have b1 : decide (8 < sz) = false := decide_eq_false (by omega)
      have b2 : decide ((r.length : Int) + 1 ≤ sz) = false := decide_eq_false (by omega)
      have b3 : decide (0 < sz) = true := decide_eq_true (by omega)
      clear a1 z2
      cases marked
      all_goals
        simp only [if_true, if_false, Bool.false_eq_true] at hs
        subst hs
        go_enter Try.func103, Try.ntmps103
        go_wp2_with (first
          | (go_at_call 28; refine (Left_calls hh).mono ?_; rintro e w' ⟨rfl, rfl⟩)
          | (go_at_call 132; refine (Fail_calls hh).mono ?_; rintro e w' ⟨rfl, rfl⟩))
        go_ret2
        refine ⟨H.out, ?_⟩
        rw [HP.out]
        exact ⟨rfl, F.out⟩

end Go.Proofs.Ytabdjehnglmlpaa
