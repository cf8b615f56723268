/- The reference's reader: first, number, Fail, End. -/
import Derived.Test.YtabdjehnglmlpaaQg
import Derived.Test.YtabdjehnglmlpaaQq
namespace Go.Proofs.Ytabdjehnglmlpaa
open Go.RowKit Go.Proofs.YtabdjehnglmlpaaW.PrintWords
set_option linter.unusedVariables false
set_option linter.unusedSimpArgs false

/-- The reference's reader at block g. -/
def Ref (w0 W : World) (g : Nat) (xs : List Int) (bad : Bool) : Prop :=
  ∃ A c, W.heap[g]? = some (.cells #[.slice A xs.length c, .bool bad] 89 (0, 0)) ∧ w0.heap.size ≤ g ∧ xs.length ≤ c ∧ Kd.C (Kd.int .u8) w0 A xs.length xs

theorem Ref.cells {w0 W : World} {g : Nat} {xs : List Int} {bad : Bool} (h : Ref w0 W g xs bad) :
    ∃ A c, W.cell? ⟨g, 0, none⟩ = some (.slice A xs.length c) ∧ W.cell? ⟨g, 1, none⟩ = some (.bool bad) ∧ W.frozen? ⟨g, 0, none⟩ = false ∧ W.frozen? ⟨g, 1, none⟩ = false ∧ xs.length ≤ c ∧ Kd.C (Kd.int .u8) w0 A xs.length xs := by
  obtain ⟨A, c, hb, hg, hc, hr⟩ := h
  exact ⟨A, c, (blk_cell hb 0).trans rfl, (blk_cell hb 1).trans rfl, blk_frozen hb 0, blk_frozen hb 1, hc, hr⟩
theorem Ref.fail {w0 w : World} {g : Nat} {xs : List Int} {bad : Bool} (h : Ref w0 w g xs bad) :
    Ref w0 ((w.setCell ⟨g, 0, none⟩ (.slice none 0 0)).setCell ⟨g, 1, none⟩ (.bool true)) g [] true := by
  obtain ⟨A, c, hb, hg, hc, hr⟩ := h
  exact ⟨none, 0, by simpa using blk_set (blk_set hb 0 (.slice none 0 0)) 1 (.bool true), hg, Nat.le_refl _, ⟨rfl, by simp, fun h => absurd h (by simp)⟩⟩
theorem Ref.head {w0 w : World} {g : Nat} {xs : List Int} {bad : Bool} (hB : Below w0.heap.size w0 w) (h : Ref w0 w g xs bad) :
    ∃ A c, w.heap[g]? = some (.cells #[.slice A xs.length c, .bool bad] 89 (0, 0)) ∧ w0.heap.size ≤ g ∧ xs.length ≤ c ∧ Kd.C (Kd.int .u8) w0 A xs.length xs ∧ Kd.C (Kd.int .u8) w A xs.length xs := by
  obtain ⟨A, c, hb, hg, hc, hr⟩ := h
  exact ⟨A, c, hb, hg, hc, hr, Kd.C_below hr hB⟩
theorem Ref.ge {w0 w : World} {g : Nat} {xs : List Int} {bad : Bool} (h : Ref w0 w g xs bad) : w0.heap.size ≤ g ∧ g < w.heap.size := by
  obtain ⟨A, c, hb, hg, _⟩ := h
  exact ⟨hg, blk_lt hb⟩
theorem Ref.base {w0 w w' : World} {g : Nat} {xs : List Int} {bad : Bool} (h : Ref w0 w g xs bad) (hB : Below w0.heap.size w0 w) (hm : Mod (· = g) w w') : Below w0.heap.size w0 w' :=
  Below.mod_trans hB hm (Nat.le_refl _) (fun i hi e => by have := h.ge; omega)
theorem Ref.keep {w0 w w' : World} {g : Nat} {xs : List Int} {bad : Bool} {S : Nat → Prop} (h : Ref w0 w g xs bad) (hm : Mod S w w') (hn : ¬ S g) : Ref w0 w' g xs bad := by
  obtain ⟨A, c, hb, hg, hc, hr⟩ := h
  exact ⟨A, c, hm.blk hb hn, hg, hc, hr⟩

def RefPost (w0 w : World) (g : Nat) (v : Value) (s : Rs) (e : Ending) (w' : World) : Prop :=
  Mod (· = g) w w' ∧ e = .returned v ∧ Ref w0 w' g s.1 s.2

set_option maxHeartbeats 400000 in
theorem RFail_post {w0 w : World} {g : Nat} {xs : List Int} {bad : Bool} (h : Ref w0 w g xs bad) :
    Calls Try.prog 134 #[.pointer (some ⟨g, 0, none⟩)] w (RefPost w0 w g (.tuple #[]) rFail) := by
  have F := Lib.hid h.fail
  obtain ⟨A, c, h0, h1, h2, h3, -, -⟩ := h.cells
  clear h
  go_enter Try.func134, Try.ntmps134
  go_wp2
  go_end0
  exact ⟨Mod.fail w g, rfl, F.out⟩

set_option maxHeartbeats 400000 in
theorem REnd_calls {w0 w : World} {g : Nat} {xs : List Int} {bad : Bool} (h : Ref w0 w g xs bad) :
    Calls Try.prog 82 #[.pointer (some ⟨g, 0, none⟩)] w fun e w' => e = .returned (.int .i64 (rEnd (xs, bad))) ∧ w' = w := by
  obtain ⟨A, c, h0, h1, h2, h3, -, -⟩ := h.cells
  cases bad
  · cases xs with
    | nil =>
      simp only [List.length_nil] at h0
      go_enter Try.func82, Try.ntmps82
      go_wp2
      go_ret
      exact ⟨rfl, rfl⟩
    | cons x xs =>
      have hl : decide (0 < (x :: xs).length) = true := by simp
      go_enter Try.func82, Try.ntmps82
      go_wp2
      go_ret
      exact ⟨rfl, rfl⟩
  · go_enter Try.func82, Try.ntmps82
    go_wp2
    go_ret
    exact ⟨rfl, rfl⟩

set_option maxHeartbeats 400000 in
theorem first_nil {w0 w : World} {g : Nat} {bad : Bool} (h : Ref w0 w g [] bad) :
    Calls Try.prog 161 #[.pointer (some ⟨g, 0, none⟩)] w (RefPost w0 w g (.tuple #[.int .u8 0, .bool false]) ([], bad)) := by
  have F := Lib.hid h
  obtain ⟨A, c, h0, h1, h2, h3, -, -⟩ := h.cells
  simp only [List.length_nil] at h0
  clear h
  go_enter Try.func161, Try.ntmps161
  go_wp2
  go_ret2
  exact ⟨Mod.refl _ _, rfl, F.out⟩

set_option maxHeartbeats 1000000 in
theorem first_cons {w0 w : World} {g : Nat} {c0 : Int} {r : List Int} {bad : Bool} (hB : Below w0.heap.size w0 w) (h : Ref w0 w g (c0 :: r) bad) :
    Calls Try.prog 161 #[.pointer (some ⟨g, 0, none⟩)] w (RefPost w0 w g (.tuple #[.int .u8 c0, .bool true]) (r, bad)) := by
  obtain ⟨A, c, hb, hg, hc, hr0, hr⟩ := h.head hB
  obtain ⟨ad, rfl, a0⟩ := Kd.at_int hr 0 (by omega) (by simp only [List.length_cons]; omega)
  have a0' : w.cell? ad = some (.int .u8 c0) := a0
  have hmx := hr.2.1
  obtain ⟨A2, hcut, hrest⟩ := cut_tail (m := 1) hr0 hc (by simp only [List.length_cons]; omega)
  have hcut1 : ∀ W : World, (Instr.slice 22 (.slice (some ad) (c0 :: r).length c) (some (.int .i64 1)) none none).run Try.prog W = .ok (.slice A2 r.length (c - 1)) W := hcut
  have hlen : (c0 :: r).length = r.length + 1 := rfl
  rw [hlen] at hb hc hcut1 hmx
  have e0 : w.cell? ⟨g, 0, none⟩ = some (.slice (some ad) (r.length + 1) c) := (blk_cell hb 0).trans rfl
  have f0 : w.frozen? ⟨g, 0, none⟩ = false := blk_frozen hb 0
  have HB := Lib.hid hb
  have HT := Lib.hid hrest
  clear hrest hcut hr hr0 h hb hB hlen a0
  have hne : ((r.length : Int) + 1 == 0) = false := by rw [beq_eq_false_iff_ne]; omega
  go_enter Try.func161, Try.ntmps161
  go_wp2
  go_ret2
  exact ⟨Mod.setCell (S := (· = g)) (Mod.refl _ _) (p := ⟨g, 0, none⟩) rfl _, rfl, A2, c - 1, by simpa using blk_set HB.out 0 _, hg, show r.length ≤ c - 1 by omega, HT.out⟩

set_option maxHeartbeats 2000000 in
theorem rnumber_bad {w0 w : World} {g : Nat} {xs : List Int} {bad : Bool} (hB : Below w0.heap.size w0 w) (h : Ref w0 w g xs bad) (sz : Int)
    (hs : 0 ≤ sz) (hs2 : sz ≤ 255) (hbad : sz > 8 ∨ sz > xs.length ∨ (sz > 0 ∧ rd xs 0 = 0)) :
    Calls Try.prog 162 #[.pointer (some ⟨g, 0, none⟩), .int .i64 sz] w (RefPost w0 w g (.tuple #[.int .u64 0, .bool false]) (xs, bad)) := by
  have hh := Lib.hid h
  obtain ⟨A, c, hb, hg, hc, hr0, hr⟩ := h.head hB
  have e0 : w.cell? ⟨g, 0, none⟩ = some (.slice A xs.length c) := (blk_cell hb 0).trans rfl
  have hmx := hr.2.1
  have HR := Lib.hid hr
  have HB0 := Lib.hid hbad
  clear h hb hr hr0 hbad hB
  by_cases k1 : sz > 8
  · go_enter Try.func162, Try.ntmps162
    go_wp2
    go_ret2
    exact ⟨Mod.refl _ _, rfl, hh.out⟩
  · by_cases k2 : sz > xs.length
    · go_enter Try.func162, Try.ntmps162
      go_wp2
      go_ret2
      exact ⟨Mod.refl _ _, rfl, hh.out⟩
    · have hz : sz > 0 ∧ rd xs 0 = 0 := by
        rcases HB0.out with h | h | h
        · exact absurd h k1
        · exact absurd h k2
        · exact h
      obtain ⟨z1, z2⟩ := hz
      obtain ⟨ad, rfl, a1⟩ := Kd.at_int HR.out 0 (by omega) (by omega)
      have a1' : w.cell? ad = some (.int .u8 0) := by rw [← z2]; exact a1
      have b1 : decide (8 < sz) = false := decide_eq_false (by omega)
      have b2 : decide ((xs.length : Int) < sz) = false := decide_eq_false (by omega)
      have b3 : decide (0 < sz) = true := decide_eq_true (by omega)
      clear a1 z2
      go_enter Try.func162, Try.ntmps162
      go_wp2
      go_ret2
      exact ⟨Mod.refl _ _, rfl, hh.out⟩

set_option maxHeartbeats 2000000 in
theorem rnumber_plain {w0 w : World} {g : Nat} {xs : List Int} {bad : Bool} (hB : Below w0.heap.size w0 w) (h : Ref w0 w g xs bad) (hby : Byt xs) (m : Nat)
    (k1 : m ≤ 8) (k2 : m ≤ xs.length) (k3 : m = 0 ∨ (0 < m ∧ rd xs 0 ≠ 0)) :
    Calls Try.prog 162 #[.pointer (some ⟨g, 0, none⟩), .int .i64 (m : Int)] w (RefPost w0 w g (.tuple #[.int .u64 (be (xs.take m)), .bool true]) (xs.drop m, bad)) := by
  obtain ⟨A, c, hb, hg, hc, hr0, hr⟩ := h.head hB
  obtain ⟨A2, hcut, hrest⟩ := cut_tail (m := m) hr0 hc k2
  have e0 : w.cell? ⟨g, 0, none⟩ = some (.slice A xs.length c) := (blk_cell hb 0).trans rfl
  have f0 : w.frozen? ⟨g, 0, none⟩ = false := blk_frozen hb 0
  have hmx := hr.2.1
  have b1 : decide (8 < (m : Int)) = false := decide_eq_false (by omega)
  have b2 : decide ((xs.length : Int) < m) = false := decide_eq_false (by omega)
  have b2n : decide (xs.length < m) = false := decide_eq_false (by omega)
  have HR := Lib.hid hr
  have HT := Lib.hid hrest
  have HB := Lib.hid hb
  have HY := Lib.hid hby
  clear hrest hr hr0 h hb hby hB
  have hcond : (decide (0 < (m : Int)) = false ∧ decide (0 < m) = false) ∨ (decide (0 < (m : Int)) = true ∧ decide (0 < m) = true ∧ ∃ ad, A = some ad ∧ w.cell? ad = some (.int .u8 (rd xs 0)) ∧ (rd xs 0 == 0) = false) := by
    rcases k3 with rfl | ⟨k3, k5⟩
    · exact .inl ⟨rfl, rfl⟩
    · obtain ⟨ad, e', a1⟩ := Kd.at_int HR.out 0 (by omega) (by omega)
      exact .inr ⟨decide_eq_true (by omega), decide_eq_true k3, ad, e', a1, beq_eq_false_iff_ne.mpr k5⟩
  clear k3
  have key : ∀ k : Nat, k < m → ∃ ax, A = some ax ∧ w.cell? (ax.add k) = some (.int .u8 (rd xs k)) := fun k hk => by
    obtain ⟨ax, e, ac⟩ := Kd.at_int HR.out k (by omega) (by omega)
    exact ⟨ax, e, by rw [Int.toNat_natCast] at ac; exact ac⟩
  have hrd : ∀ k : Nat, k < m → rd (xs.take m) k = rd xs k := fun k hk => by
    have h1 := rd_append_left (xs.take m) (xs.drop m) k (by rw [List.length_take]; omega)
    rw [List.take_append_drop] at h1
    exact h1.symm
  have KEY := Lib.hid key
  have HRD := Lib.hid hrd
  clear key hrd
  rcases hcond with ⟨b3, b5⟩ | ⟨b3, b5, ad, rfl, a1', b4⟩
  rotate_left
  have hpos : 0 < xs.length := by have := of_decide_eq_true b5; omega
  rotate_left
  all_goals
    go_enter Try.func162, Try.ntmps162
    go_wp2
    go_loop [6, 7] (fun x i => ∃ k : Nat, k ≤ m ∧ i = .int .i64 k ∧ x = .int .u64 (be ((xs.take m).take k))) (fun _ i => m - (intOf i).toNat)
    case atStart => exact ⟨0, Nat.zero_le _, rfl, rfl⟩
    case round =>
      obtain ⟨k, hk, rfl, rfl⟩ := hrel
      by_cases hlt : k < m
      · obtain ⟨ax, hax, ac⟩ := KEY.out k hlt
        first
          | subst hax
          | (injection hax with hax; subst hax)
        have hb1 : 0 ≤ be ((xs.take m).take k) ∧ be ((xs.take m).take k) ≤ 72057594037927935 := be_small ((HY.out.take m).take k) (by rw [List.length_take, List.length_take]; omega)
        have hc1 : 0 ≤ rd xs k ∧ rd xs k ≤ 255 := HY.out.rd k
        have hbe : be ((xs.take m).take (k + 1)) = be ((xs.take m).take k) * 256 + rd xs k := by
          rw [be_take_succ _ k (by rw [List.length_take]; omega), HRD.out k hlt]
        have HE := Lib.hid hbe
        clear hbe
        revert HE
        generalize be ((xs.take m).take k) = B1 at hb1 ⊢
        generalize rd xs k = C1 at ac hc1 ⊢
        intro HE
        obtain ⟨hb1, hb2⟩ := hb1
        obtain ⟨hc1, hc2⟩ := hc1
        go_wp2
        go_round
        case rel => exact ⟨k + 1, by omega, by go_num, by rw [HE.out]⟩
        case measure => simp [intOf]; omega
      · have hkm : (xs.take m).take k = xs.take m := List.take_of_length_le (by rw [List.length_take]; omega)
        rw [hkm]
        clear hkm
        go_wp2
        go_ret2
        exact ⟨Mod.setCell (S := (· = g)) (Mod.refl _ _) (p := ⟨g, 0, none⟩) rfl _, rfl, A2, c - m, by simpa using blk_set HB.out 0 _, hg, by simp only [List.length_drop]; omega, HT.out⟩

end Go.Proofs.Ytabdjehnglmlpaa
