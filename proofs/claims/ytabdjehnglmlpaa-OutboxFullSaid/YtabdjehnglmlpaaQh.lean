/- quill.Writer.number. -/
import Derived.Test.YtabdjehnglmlpaaQg
import Derived.Deep.RegionHeld3
import Derived.Deep.DrawnRows
import Derived.Deep.RegionLaw
namespace Go.Proofs.Ytabdjehnglmlpaa
open Go.RowKit Go.Proofs.YtabdjehnglmlpaaW.PrintWords
set_option linter.unusedVariables false
set_option linter.unusedSimpArgs false

/-- A writer at block g, whose row is v: the bytes that it has. -/
def Wtr (B : Nat) (W : World) (g : Nat) (v : Value) (xs : List Int) : Prop :=
  W.heap[g]? = some (.cells #[v] 30 (0, 0)) ∧ B ≤ g ∧ OwnB W B v xs
/-- What a writer's call may turn. -/
def WS (g : Nat) (v : Value) : Nat → Prop := fun k => k = g ∨ v.ownBlock = some k
def WFresh (w : World) (v v' : Value) : Prop := v'.ownBlock = v.ownBlock ∨ ∃ b, v'.ownBlock = some b ∧ w.heap.size ≤ b
def WStep (B : Nat) (w w' : World) (g : Nat) (v v' : Value) (xs : List Int) : Prop := Wtr B w' g v' xs ∧ Mod (WS g v) w w' ∧ WFresh w v v'

theorem WFresh.refl (w : World) (v : Value) : WFresh w v v := .inl rfl
theorem WFresh.trans {w w1 : World} {v v1 v2 : Value} (h : WFresh w v v1) (k : WFresh w1 v1 v2) (hs : w.heap.size ≤ w1.heap.size) : WFresh w v v2 := by
  rcases k with k | ⟨b, k, hb⟩
  · rcases h with h | ⟨b, h, hb⟩
    · exact .inl (k.trans h)
    · exact .inr ⟨b, k.trans h, hb⟩
  · exact .inr ⟨b, k, by omega⟩
theorem WStep.refl {B : Nat} {w : World} {g : Nat} {v : Value} {xs : List Int} (h : Wtr B w g v xs) : WStep B w w g v v xs := ⟨h, Mod.refl _ _, WFresh.refl _ _⟩
theorem WStep.trans {B : Nat} {w w1 w2 : World} {g : Nat} {v v1 v2 : Value} {xs ys : List Int} (h : WStep B w w1 g v v1 xs) (k : WStep B w1 w2 g v1 v2 ys) : WStep B w w2 g v v2 ys := by
  refine ⟨k.1, h.2.1.trans k.2.1 ?_, h.2.2.trans k.2.2 h.2.1.size⟩
  rintro i hi (rfl | e)
  · exact .inl rfl
  · rcases h.2.2 with h2 | ⟨b, h2, hb⟩
    · exact .inr (h2.symm.trans e)
    · rw [h2] at e; injection e with e; omega
theorem WStep.w {B : Nat} {w w1 : World} {g : Nat} {v v1 : Value} {xs : List Int} (h : WStep B w w1 g v v1 xs) : Wtr B w1 g v1 xs := h.1
theorem WStep.drew {B : Nat} {w w1 : World} {g : Nat} {v v1 : Value} {xs : List Int} (h : WStep B w w1 g v v1 xs) : WStep B w w1.drew g v v1 xs := ⟨h.1, h.2.1.drew, h.2.2⟩
theorem own_form {w : World} {base : Nat} {e : TypeId} {size n : Nat} {v : Value} {xs : List Value} (h : w.ownsRow base e size v n xs) : ∃ A m c, v = .slice A m c := by
  rcases h.2 with ⟨rfl, _⟩ | ⟨g, cap, cur, rfl, _⟩
  · exact ⟨_, _, _, rfl⟩
  · exact ⟨_, _, _, rfl⟩
theorem Wtr.form {B : Nat} {W : World} {g : Nat} {v : Value} {xs : List Int} (h : Wtr B W g v xs) : ∃ A m c, v = .slice A m c := own_form h.2.2
theorem Wtr.ne {B : Nat} {W : World} {g : Nat} {v : Value} {xs : List Int} (h : Wtr B W g v xs) : some g ≠ v.ownBlock := own_ne h.2.2 h.1 (by decide)
theorem Wtr.cells {B : Nat} {W : World} {g : Nat} {v : Value} {xs : List Int} (h : Wtr B W g v xs) : W.cell? ⟨g, 0, none⟩ = some v ∧ W.frozen? ⟨g, 0, none⟩ = false ∧ g < W.heap.size ∧ B ≤ W.heap.size := by
  have := blk_lt h.1
  exact ⟨(blk_cell h.1 0).trans rfl, blk_frozen h.1 0, this, by have := h.2.1; omega⟩

/-- A byte has been appended to the row, and the row stored. -/
theorem Wtr.put {B : Nat} {W w1 : World} {g : Nat} {v v1 : Value} {xs ys : List Int} (h : Wtr B W g v xs) (hown : w1.ownsRow B 5 1 v1 (xs ++ ys).length (nums .u8 (xs ++ ys))) (hg : W.grownBy w1 v.ownBlock)
    (hat : v1.ownBlock = v.ownBlock ∨ ∃ b, v1.ownBlock = some b ∧ W.heap.size ≤ b) : WStep B W (w1.setCell ⟨g, 0, none⟩ v1) g v v1 (xs ++ ys) := by
  have hlt := blk_lt h.1
  have hb1 : w1.heap[g]? = some (.cells #[v] 30 (0, 0)) := blk_grown h.1 hg h.ne
  have hne : some g ≠ v1.ownBlock := own_ne hown hb1 (by decide)
  refine ⟨⟨by simpa using blk_set hb1 0 v1, h.2.1, own_setCell hown hne _⟩, ?_, hat⟩
  refine Mod.setCell (S := WS g v) (Mod.grown (Mod.refl _ _) hg ?_) (p := ⟨g, 0, none⟩) (.inl rfl) _
  intro k hk _
  exact .inr hk

/-- What the walk wants behind an append. -/
theorem Wtr.after {B : Nat} {W w1 : World} {g : Nat} {v : Value} {xs : List Int} (h : Wtr B W g v xs) (hg : W.grownBy w1 v.ownBlock) : w1.cell? ⟨g, 0, none⟩ = some v ∧ w1.frozen? ⟨g, 0, none⟩ = false := by
  have hb1 : w1.heap[g]? = some (.cells #[v] 30 (0, 0)) := blk_grown h.1 hg h.ne
  exact ⟨(blk_cell hb1 0).trans rfl, blk_frozen hb1 0⟩

theorem shr_get (n : Int) (h0 : 0 ≤ n) (h1 : n ≤ 18446744073709551615) (i L : Nat) (hL : L = (digs n).length) (hi : i < L) :
    IntKind.u8.wrap (n / 2 ^ (8 * (L - 1 - i))) = rd (digs n) i := by
  subst hL
  rw [digs_get h0 h1 hi, IntKind.wrap_u8]
  congr 2
  rw [show (256 : Int) = 2 ^ 8 by decide, ← Int.pow_mul]

set_option maxRecDepth 100000 in
set_option maxHeartbeats 2000000 in
theorem Wnumber_calls {B : Nat} {w : World} {g : Nat} {v : Value} {xs : List Int} {n mark : Int} (h : Wtr B w g v xs) (h0 : 0 ≤ n) (h1 : n ≤ 18446744073709551615) (hm0 : 0 ≤ mark) (hm1 : mark ≤ 128) (hl : xs.length ≤ 100000000) :
    Calls Try.prog 104 #[.pointer (some ⟨g, 0, none⟩), .int .u64 n, .int .u8 mark] w fun e w' => e = .returned (.tuple #[]) ∧ ∃ v', WStep B w w' g v v' (xs ++ encN n mark) := by
  obtain ⟨c0, f0, hlt, hBs⟩ := h.cells
  have HW := Lib.hid h
  have HL := Lib.hid (digs_len n)
  have H1 : Hid (n ≤ 18446744073709551615) := h1
  clear h h1
  go_enter Try.func104, Try.ntmps104
  go_wp2
  go_loop [6, 7] (fun s x => ∃ (j : Nat) (y : Int), 0 ≤ y ∧ s = .int .i64 j ∧ x = .int .u64 y ∧ Hid (y ≤ n ∧ j + (digs y).length = (digs n).length)) (fun _ x => (intOf x).toNat)
  case atStart => exact ⟨0, n, h0, rfl, rfl, Int.le_refl _, by simp⟩
  case round =>
    obtain ⟨j, y, hy, rfl, rfl, hyn⟩ := hrel
    by_cases hy0 : 0 < y
    · have hj : (j : Int) ≤ 8 := by have := hyn.out.2; have := HL.out; omega
      go_wp2
      go_round
      case rel =>
        refine ⟨j + 1, y / 256, by omega, by go_num, rfl, by have := hyn.out.1; omega, ?_⟩
        have := hyn.out.2
        rw [digs_step hy0 (by have := hyn.out.1; have := H1.out; omega)] at this
        simp only [List.length_append, List.length_singleton] at this
        omega
      case measure => simp [intOf]; omega
    · have hj : j = (digs n).length := by have := hyn.out.2; rw [digs_zero (by omega)] at this; simpa using this
      have hj8 : (j : Int) ≤ 8 := by have := HL.out; omega
      have HJ := Lib.hid hj
      clear hj hyn
      go_wp2_with (at_builtin; refine print_append_cells (w0 := w) B (by rfl) _ _ 22 5 (.int .u8 0) 1 1 (by rfl) Try.underlying22 info5 rfl (by decide) (by decide) v xs.length (nums .u8 xs) [.int .u8 (mark + j)] (by rfl) (by rfl) rfl (by simp [Value.oneCell']) HW.out.2.2 (Below.refl _ _) hBs (by omega) ?_; intro v1 w1 hown hbel hgrow hat; obtain ⟨A1, m1, k1, rfl⟩ := own_form hown; obtain ⟨c1, f1⟩ := HW.out.after hgrow; have HST := Lib.hid (HW.out.put (ys := [mark + j]) (by simpa [nums] using hown) hgrow hat); clear hown hbel hgrow hat)
      go_loopw [8, 30] (fun _ i wr => ∃ (i0 : Nat) (v2 : Value), i = .int .i64 i0 ∧ i0 ≤ j ∧ Hid (WStep B w wr g v v2 (xs ++ (mark + (j : Int)) :: (digs n).take i0))) (fun _ i _ => j - (intOf i).toNat)
      case atStart => exact ⟨0, _, rfl, Nat.zero_le _, HST.out⟩
      case round =>
        obtain ⟨i0, v2, rfl, hi0, hst⟩ := hrel
        clear HST c1 f1
        by_cases hlt2 : i0 < j
        · obtain ⟨A2, m2, c2, rfl⟩ := hst.out.1.form
          obtain ⟨d0, e0, hlt', hBs'⟩ := hst.out.1.cells
          have hw2 : Wtr B wr.drew g (.slice A2 m2 c2) (xs ++ (mark + (j : Int)) :: (digs n).take i0) := hst.out.1
          have HW2 := Lib.hid hw2
          have hp0 : (0 : Int) ≤ 8 * ((j : Int) - 1 - i0) := by omega
          have hp1 : 8 * ((j : Int) - 1 - i0) ≤ 64 := by omega
          clear hw2
          have q1 : IntKind.i64.wrap ((j : Int) - 1) = j - 1 := IntWalk.i64_in _ (by omega)
          have q2 : IntKind.i64.wrap ((j : Int) - 1 - i0) = j - 1 - i0 := IntWalk.i64_in _ (by omega)
          have q3 : IntKind.i64.wrap (8 * ((j : Int) - 1 - i0)) = 8 * ((j : Int) - 1 - i0) := IntWalk.i64_in _ (by omega)
          go_wp2
          go_region_law
            ((refine step_append_cells (w0 := wr.drew) B (by rfl) _ _ 22 5 (.int .u8 0) 1 1 (by rfl) Try.underlying22 info5 rfl (by decide) (by decide) (.slice A2 m2 c2) _ (nums .u8 (xs ++ (mark + (j : Int)) :: (digs n).take i0)) [.int .u8 _] (by rfl) (by rfl) rfl (by simp [Value.oneCell']) HW2.out.2.2 (Below.refl _ _) hBs' (by simp; omega) ?_; intro v3 w1 hown hbel hgrow hat; obtain ⟨A3, m3, k3, rfl⟩ := own_form hown; obtain ⟨c1, f1⟩ := HW2.out.after hgrow))
          all_goals
            have hx : [Value.int .u8 (IntKind.u8.wrap (n / 2 ^ (8 * ((j : Int) - 1 - i0)).toNat))] = nums .u8 [rd (digs n) i0] := by
              simp only [nums, List.map_cons, List.map_nil]
              rw [show (8 * ((j : Int) - 1 - i0)).toNat = 8 * (j - 1 - i0) by omega, shr_get n h0 H1.out i0 j HJ.out hlt2]
            have hown2 : w1.ownsRow B 5 1 (.slice A3 m3 k3) ((xs ++ (mark + (j : Int)) :: (digs n).take i0) ++ [rd (digs n) i0]).length (nums .u8 ((xs ++ (mark + (j : Int)) :: (digs n).take i0) ++ [rd (digs n) i0])) := by
              rw [nums_append, ← hx, List.length_append]; exact hown
            have HS := Lib.hid (WStep.trans (WStep.drew hst.out) (HW2.out.put hown2 hgrow hat))
            clear hown hbel hgrow hat hx hown2 q1 q2 q3 c1 f1
            go_wp2
            go_roundw
            case rel =>
              refine ⟨i0 + 1, .slice A3 m3 k3, by go_num, by omega, ?_⟩
              have h3 := HS.out
              rw [List.append_assoc, List.cons_append, ← take_rd (digs n) i0 (by have := HJ.out; omega)] at h3
              exact h3
            case measure => simp [intOf]; omega
        · go_wp2
          go_end0
          refine ⟨rfl, v2, ?_⟩
          have hi : i0 = j := by omega
          subst hi
          have h2 := hst.out
          rw [List.take_of_length_le (by have := HJ.out; omega)] at h2
          rw [encN, ← HJ.out]
          exact h2

end Go.Proofs.Ytabdjehnglmlpaa
