/- quill.Reader.number where the bytes are a number's. -/
import Derived.Test.YtabdjehnglmlpaaQb
namespace Go.Proofs.Ytabdjehnglmlpaa
open Go.RowKit Go.Proofs.YtabdjehnglmlpaaW.PrintWords
set_option linter.unusedVariables false
set_option linter.unusedSimpArgs false

theorem info5 : (Try.prog.info? 5).map (fun i => (i.zero, i.size, i.bytes)) = some (some (.int .u8 0), 1, 1) := by kernel_rfl

/-- The slice of the number's bytes. -/
theorem cut_num {w : World} {ad : Addr} {c m : Nat} {xs : List Int} (hr : Kd.C (Kd.int .u8) w (some ad) xs.length xs) (hc : xs.length ≤ c) (hm : m + 1 ≤ xs.length) :
    ∃ A', (∀ W : World, (Instr.slice 22 (.slice (some ad) xs.length c) (some (.int .i64 1)) (some (.int .i64 ((m : Int) + 1))) none).run Try.prog W = .ok (.slice A' m (c - 1)) W) ∧
      Kd.C (Kd.int .u8) w A' m ((xs.drop 1).take m) := by
  obtain ⟨i0, hi, hz⟩ := Option.map_eq_some_iff.1 info5
  simp only [Prod.mk.injEq] at hz
  have h1 := cut_mid (P := Try.prog) 22 5 .i64 .i64 Try.underlying22 hi 1 hz.2.1 (some ad) xs.length c 1 ((m : Int) + 1) (by omega) (by omega) (by omega) hc
  have h2 := Kd.C_mid (lo := 1) (hi := m + 1) hr (by omega) (by omega) hc
  rw [show ((m : Int) + 1).toNat - (1 : Int).toNat = m by omega, show (1 : Int).toNat = 1 from rfl] at h1
  refine ⟨_, h1, ?_⟩
  have e : (xs.take (m + 1)).drop 1 = (xs.drop 1).take m := by rw [List.drop_take]; rfl
  rw [e, show ((xs.drop 1).take m).length = m by rw [List.length_take, List.length_drop]; omega] at h2
  exact h2

theorem cut_rest {w : World} {A : Option Addr} {c m : Nat} {xs : List Int} (hr : Kd.C (Kd.int .u8) w A xs.length xs) (hc : xs.length ≤ c) (hm : m + 1 ≤ xs.length) :
    ∃ A', (∀ W : World, (Instr.slice 22 (.slice A xs.length c) (some (.int .i64 ((m : Int) + 1))) none none).run Try.prog W = .ok (.slice A' (xs.drop (m + 1)).length (c - (m + 1))) W) ∧
      Kd.C (Kd.int .u8) w A' (xs.drop (m + 1)).length (xs.drop (m + 1)) := by
  obtain ⟨i0, hi, hz⟩ := Option.map_eq_some_iff.1 info5
  simp only [Prod.mk.injEq] at hz
  have h1 := cut_from (P := Try.prog) 22 5 .i64 Try.underlying22 hi 1 hz.2.1 A xs.length c ((m : Int) + 1) (by omega) (by omega)
  have h2 := Kd.C_drop (m := m + 1) hr hm hc
  rw [show ((m : Int) + 1).toNat = m + 1 by omega] at h1
  rw [show (xs.drop (m + 1)).length = xs.length - (m + 1) from List.length_drop] at h2 ⊢
  exact ⟨_, h1, h2⟩

set_option maxHeartbeats 2000000 in
theorem number_plain {w0 w : World} {g : Nat} {c0 : Int} {r : List Int} {bad : Bool} {most : Int} {marked : Bool} (hB : Below w0.heap.size w0 w) (h : Rdr w0 w g (c0 :: r) bad)
    (h0 : 0 ≤ c0) (h1 : c0 ≤ 255) (hby : Byt r) (m : Nat) (hs : (m : Int) = if marked then c0 % 128 else c0) (k1 : m ≤ 8) (k2 : m ≤ r.length) (k3 : m = 0 ∨ (0 < m ∧ rd r 0 ≠ 0)) :
    Calls Try.prog 103 #[.pointer (some ⟨g, 0, none⟩), .int .u64 most, .bool marked] w (NumberPost w0 w g (c0 :: r) bad most marked) := by
  have hh := h
  obtain ⟨A, c, hb, hg, hc, hr0, hr⟩ := h.head hB
  obtain ⟨ad, rfl, a0⟩ := Kd.at_int hr 0 (by omega) (by simp only [List.length_cons]; omega)
  have a0' : w.cell? ad = some (.int .u8 c0) := a0
  have hmx := hr.2.1
  obtain ⟨A1, hcut, hseg⟩ := cut_num (m := m) hr hc (by simp only [List.length_cons]; omega)
  obtain ⟨A2, hcut2, hrest⟩ := cut_rest (m := m) hr0 hc (by simp only [List.length_cons]; omega)
  have hlen : (c0 :: r).length = r.length + 1 := rfl
  rw [hlen] at hb hc hcut hcut2 hmx
  simp only [List.drop_succ_cons, List.drop_zero] at hseg hrest
  have e0 : w.cell? ⟨g, 0, none⟩ = some (.slice (some ad) (r.length + 1) c) := (blk_cell hb 0).trans rfl
  have f0 : w.frozen? ⟨g, 0, none⟩ = false := blk_frozen hb 0
  have hne : (((c0 :: r).length : Int) == 0) = false := by rw [beq_eq_false_iff_ne]; simp only [List.length_cons]; omega
  have b1 : decide (8 < (m : Int)) = false := decide_eq_false (by omega)
  have b2 : decide ((r.length : Int) + 1 ≤ m) = false := decide_eq_false (by omega)
  have HR := Lib.hid hr
  have HS := Lib.hid hseg
  have HT := Lib.hid hrest
  have HB := Lib.hid hb
  have HY := Lib.hid hby
  clear hseg hrest h hr hr0 a0 hlen hb hby
  have hcond0 : ¬((m : Int) > 8 ∨ (m : Int) > r.length ∨ ((m : Int) > 0 ∧ rd r 0 = 0)) := by
    rintro (h | h | ⟨h, h'⟩)
    · omega
    · omega
    · rcases k3 with h2 | ⟨h2, h3⟩
      · omega
      · exact h3 h'
  have hcond : (decide (0 < (m : Int)) = false ∧ decide (0 < m) = false ∧ ¬ 0 < m) ∨ (decide (0 < (m : Int)) = true ∧ decide (0 < m) = true ∧ 0 < m ∧ w.cell? ⟨ad.block, ad.off + 1, none⟩ = some (.int .u8 (rd r 0)) ∧ (rd r 0 == 0) = false) := by
    rcases k3 with rfl | ⟨k3, k5⟩
    · exact .inl ⟨rfl, rfl, by omega⟩
    · obtain ⟨ad', e', a1⟩ := Kd.at_int HR.out 1 (by omega) (by simp only [List.length_cons]; omega)
      injection e' with e'
      subst e'
      exact .inr ⟨decide_eq_true (by omega), decide_eq_true k3, k3, a1, beq_eq_false_iff_ne.mpr k5⟩
  clear k3
  have hcond1 := Lib.hid hcond0
  clear hcond0
  have hp : (be (r.take m) ≤ most → numRead (c0 :: r) most marked = some (be (r.take m), marked && decide (c0 ≥ 128), r.drop m)) ∧ (¬ be (r.take m) ≤ most → numRead (c0 :: r) most marked = none) := by
    refine ⟨fun h => ?_, fun h => ?_⟩
    · unfold numRead; simp only; rw [← hs, Int.toNat_natCast, if_neg hcond1.out, if_neg (by omega)]
    · unfold numRead; simp only; rw [← hs, Int.toNat_natCast, if_neg hcond1.out, if_pos (by omega)]
  cases marked
  all_goals
    simp only [if_true, if_false, Bool.false_eq_true] at hs
    first
      | subst hs
      | (have hs' : c0 % 128 = (m : Int) := hs.symm; clear hs)
    rcases hcond with ⟨b3, b5, b6⟩ | ⟨b3, b5, b6, a1', b4⟩
    all_goals
      go_enter Try.func103, Try.ntmps103
      go_wp2_with (first
        | (go_at_call 28; refine (Left_calls hh).mono ?_; rintro e w' ⟨rfl, rfl⟩)
        | (go_at_call 132; refine (Fail_calls hh).mono ?_; rintro e w' ⟨rfl, rfl⟩))
      go_loop [6, 10, 62] (fun n c i => ∃ k : Nat, k ≤ m ∧ i = .int .i64 k ∧ n = .int .u64 (be ((r.take m).take k))) (fun _ _ i => m - (intOf i).toNat)
      case atStart => exact ⟨0, Nat.zero_le _, rfl, rfl⟩
      case round =>
        obtain ⟨k, hk, rfl, rfl⟩ := hrel
        by_cases hlt : k < m
        · obtain ⟨ax, rfl, ac⟩ := Kd.at_int HS.out k (by omega) (by omega)
          have hb1 : 0 ≤ be ((r.take m).take k) ∧ be ((r.take m).take k) ≤ 72057594037927935 := be_small ((HY.out.take m).take k) (by rw [List.length_take, List.length_take]; omega)
          have hc1 : 0 ≤ rd (r.take m) k ∧ rd (r.take m) k ≤ 255 := (HY.out.take m).rd k
          have hbe : be ((r.take m).take (k + 1)) = be ((r.take m).take k) * 256 + rd (r.take m) k := be_take_succ _ k (by rw [List.length_take]; omega)
          have HE := Lib.hid hbe
          clear hbe
          revert HE
          generalize be ((r.take m).take k) = B1 at hb1 ⊢
          generalize rd (r.take m) k = C1 at ac hc1 ⊢
          intro HE
          obtain ⟨hb1, hb2⟩ := hb1
          obtain ⟨hc1, hc2⟩ := hc1
          rw [show ((k : Int)).toNat = k from Int.toNat_natCast k] at ac
          clear hp
          go_wp2
          go_round
          case rel => exact ⟨k + 1, by omega, by go_num, by rw [HE.out, or_256 B1 C1 hb1 hb2 hc1 hc2]⟩
          case measure => simp [intOf]; omega
        · have hkm : (r.take m).take k = r.take m := List.take_of_length_le (by rw [List.length_take]; omega)
          rw [hkm]
          clear hkm
          have HP := Lib.hid hp
          clear hp
          revert HP
          generalize be (r.take m) = B1
          intro HP
          by_cases k4 : B1 ≤ most
          · go_wp2
            go_ret2
            refine ⟨Mod.setCell (S := (· = g)) (Mod.refl _ _) (p := ⟨g, 0, none⟩) rfl _, ?_⟩
            rw [HP.out.1 k4]
            exact ⟨rfl, A2, c - (m + 1), by simpa using blk_set HB.out 0 _, hg, by rw [List.length_drop]; omega, HT.out⟩
          · have H := Lib.hid (Mod.fail w' g)
            have F := Lib.hid hh.fail
            go_wp2_with (go_at_call 132; refine (Fail_calls hh).mono ?_; rintro e w' ⟨rfl, rfl⟩)
            go_ret2
            refine ⟨H.out, ?_⟩
            rw [HP.out.2 (by omega)]
            exact ⟨rfl, F.out⟩

/-- quill.Reader.number, whatever is left. -/
theorem number_calls {w0 w : World} {g : Nat} {xs : List Int} {bad : Bool} {most : Int} {marked : Bool} (hB : Below w0.heap.size w0 w) (h : Rdr w0 w g xs bad) (hb : Byt xs) :
    Calls Try.prog 103 #[.pointer (some ⟨g, 0, none⟩), .int .u64 most, .bool marked] w (NumberPost w0 w g xs bad most marked) := by
  rcases xs with _ | ⟨c0, r⟩
  · exact number_nil h
  · obtain ⟨h0, h1⟩ := hb.head
    by_cases hc : (if marked then c0 % 128 else c0) > 8 ∨ (if marked then c0 % 128 else c0) > r.length ∨ ((if marked then c0 % 128 else c0) > 0 ∧ rd r 0 = 0)
    · exact number_bad hB h h0 h1 _ rfl hc
    · have hp : 0 ≤ (if marked then c0 % 128 else c0) := by cases marked <;> simp <;> omega
      refine number_plain hB h h0 h1 hb.tail (if marked then c0 % 128 else c0).toNat (by omega) (by omega) (by omega) ?_
      by_cases hz : (if marked then c0 % 128 else c0).toNat = 0
      · exact .inl hz
      · exact .inr ⟨by omega, fun hr => hc (.inr (.inr ⟨by omega, hr⟩))⟩

end Go.Proofs.Ytabdjehnglmlpaa
