/- curfewlaw01.write: both ways. -/
import Derived.Test.YtabdjehnglmlpaaNo
import Derived.Test.YtabdjehnglmlpaaQj
namespace Go.Proofs.Ytabdjehnglmlpaa
open Go.RowKit Go.Proofs.YtabdjehnglmlpaaW.PrintWords
set_option linter.unusedVariables false
set_option linter.unusedSimpArgs false
open PM (S97 k97)

/-- An item's bytes. -/
def itemEnc (x : S97) : List Int :=
  if x.f0 = 1 then encI x.f2 else if x.f0 = 2 then encF x.f3 else if x.f0 = 3 then encN x.f4.size 0 ++ bytesOf x.f4 else if x.f0 = 4 then bytesOf x.f4 else encN x.f1 0
def Item.ok (x : S97) : Prop := 0 ≤ x.f1 ∧ x.f1 ≤ 18446744073709551615 ∧ -9223372036854775808 ≤ x.f2 ∧ x.f2 ≤ 9223372036854775807

def WritePost (B : Nat) (w : World) (g : Nat) (v : Value) (xs ys : List Int) (e : Ending) (w' : World) : Prop :=
  ∃ A n c v', e = .returned (.slice A n c) ∧ n ≤ c ∧ Kd.C (Kd.int .u8) w' A n ys ∧ WStep B w w' g v v' (xs ++ ys)

theorem Kd_any {w w' : World} {v : Value} {ys : List Int} {base : Nat} (h : Kd.R (Kd.int .u8) 5 w' base (fun _ => True) v ys) : ∃ A n c, v = .slice A n c ∧ n ≤ c ∧ Kd.C (Kd.int .u8) w' A n ys := by
  obtain ⟨A, c, h1, h2, h3⟩ := Kd.R_reads h
  exact ⟨A, _, c, h1, h2, h3⟩

set_option maxRecDepth 100000 in
set_option maxHeartbeats 4000000 in
theorem write_calls {B : Nat} {w : World} {g : Nat} {v : Value} {xs : List Int} {x : S97} (h : Wtr B w g v xs) (hl : xs.length ≤ 5000000) (hx : Item.ok x) (hs : x.f4.size ≤ 1000) :
    Calls Try.prog 76 #[.pointer (some ⟨g, 0, none⟩), .agg #[.int .i64 x.f0, .int .u64 x.f1, .int .i64 x.f2, .bool x.f3, .string x.f4]] w (WritePost B w g v xs (itemEnc x)) := by
  obtain ⟨k, F1, F2, F3, F4⟩ := x
  obtain ⟨x0, x1, x2, x3⟩ := hx
  simp only at hs x0 x1 x2 x3 ⊢
  have hk1 := heap_alloc_new w (.cells #[.int .i64 k, .int .u64 F1, .int .i64 F2, .bool F3, .string F4] 97)
  have c0 : (w.alloc (.cells #[.int .i64 k, .int .u64 F1, .int .i64 F2, .bool F3, .string F4] 97)).cell? ⟨w.heap.size, 0, none⟩ = some (.int .i64 k) := (blk_cell hk1 0).trans rfl
  have c1 : (w.alloc (.cells #[.int .i64 k, .int .u64 F1, .int .i64 F2, .bool F3, .string F4] 97)).cell? ⟨w.heap.size, 1, none⟩ = some (.int .u64 F1) := (blk_cell hk1 1).trans rfl
  have c2 : (w.alloc (.cells #[.int .i64 k, .int .u64 F1, .int .i64 F2, .bool F3, .string F4] 97)).cell? ⟨w.heap.size, 2, none⟩ = some (.int .i64 F2) := (blk_cell hk1 2).trans rfl
  have c3 : (w.alloc (.cells #[.int .i64 k, .int .u64 F1, .int .i64 F2, .bool F3, .string F4] 97)).cell? ⟨w.heap.size, 3, none⟩ = some (.bool F3) := (blk_cell hk1 3).trans rfl
  have c4 : (w.alloc (.cells #[.int .i64 k, .int .u64 F1, .int .i64 F2, .bool F3, .string F4] 97)).cell? ⟨w.heap.size, 4, none⟩ = some (.string F4) := (blk_cell hk1 4).trans rfl
  have hz : w.heap.size < (w.alloc (.cells #[.int .i64 k, .int .u64 F1, .int .i64 F2, .bool F3, .string F4] 97)).heap.size := by simp
  have hns : ¬ WS g v w.heap.size := by
    rintro (e | e)
    · have := blk_lt h.1; omega
    · have := (h.2.2.lt _ e).2; omega
  have HWA := Lib.hid (h.alloc (.cells #[.int .i64 k, .int .u64 F1, .int .i64 F2, .bool F3, .string F4] 97))
  have S1 := Lib.hid ((WStep.refl h).alloc (.cells #[.int .i64 k, .int .u64 F1, .int .i64 F2, .bool F3, .string F4] 97))
  have hsz1 : (w.alloc (.cells #[.int .i64 k, .int .u64 F1, .int .i64 F2, .bool F3, .string F4] 97)).heap.size = w.heap.size + 1 := by simp
  clear hk1 h
  by_cases k1 : k = 1
  · subst k1
    rw [show itemEnc ⟨1, F1, F2, F3, F4⟩ = encI F2 from rfl]
    go_enter Try.func76, Try.ntmps76
    go_wp2_with fail
    with_reducible refine (WInt_lit [F2] #[.int .i64 F2] 1 (w.heap.size + 1) HWA.out hsz1 rfl rfl (I64.one x2 x3) (by simp; omega)).mono ?_
    rintro e w2 ⟨rfl, v2, hs2⟩
    rw [encIs_one] at hs2
    have d2 : w2.cell? ⟨w.heap.size, 2, none⟩ = some (.int .i64 F2) := (hs2.mod.cell (p := ⟨w.heap.size, 2, none⟩) hz hns).trans c2
    have S2 := Lib.hid (S1.out.trans hs2)
    clear hs2 c0 c1 c2 c3 c4 hz
    go_wp2_with fail
    with_reducible refine (RefInt_calls x2 x3).mono ?_
    rintro e w3 ⟨v3, rfl, hv, hb⟩
    obtain ⟨A3, n3, q3, rfl, hc3, hC3⟩ := Kd_any (w := w) hv
    have C3 := Lib.hid hC3
    have S3 := Lib.hid (S2.out.below hb)
    clear hv hb hC3 d2
    go_wp2
    go_ret
    exact ⟨A3, n3, q3, v2, rfl, hc3, C3.out, S3.out⟩
  by_cases k2 : k = 2
  · subst k2
    rw [show itemEnc ⟨2, F1, F2, F3, F4⟩ = encF F3 from rfl]
    clear k1
    have hk2 := heap_alloc_new (w.alloc (.cells #[.int .i64 2, .int .u64 F1, .int .i64 F2, .bool F3, .string F4] 97)) (.cells #[.bool F3] 4)
    have HF := Lib.hid (WFlag_calls (c := 1) (HWA.out.alloc (.cells #[.bool F3] 4)) ((blk_cell hk2 0).trans rfl) (by omega))
    have S1b := Lib.hid (S1.out.alloc (.cells #[.bool F3] 4))
    have e3 := (((Mod.refl (fun _ => False) (w.alloc (.cells #[.int .i64 2, .int .u64 F1, .int .i64 F2, .bool F3, .string F4] 97))).alloc (.cells #[.bool F3] 4)).cell (p := ⟨w.heap.size, 3, none⟩) hz (fun h => h)).trans c3
    have hz2 : w.heap.size < ((w.alloc (.cells #[.int .i64 2, .int .u64 F1, .int .i64 F2, .bool F3, .string F4] 97)).alloc (.cells #[.bool F3] 4)).heap.size := Nat.lt_of_lt_of_le hz (by simp)
    rw [hsz1] at HF
    have E3 := Lib.hid e3
    clear hk2 e3
    go_enter Try.func76, Try.ntmps76
    go_wp2_with fail
    with_reducible refine HF.out.mono ?_
    rintro e w2 ⟨rfl, v2, hs2⟩
    have d2 : w2.cell? ⟨w.heap.size, 3, none⟩ = some (.bool F3) := (hs2.mod.cell (p := ⟨w.heap.size, 3, none⟩) hz2 hns).trans E3.out
    have S2 := Lib.hid (S1b.out.trans hs2)
    clear hs2 c0 c1 c2 c3 c4 hz hz2 HF
    go_wp2_with fail
    with_reducible refine (RefFlag_calls).mono ?_
    rintro e w3 ⟨v3, rfl, hv, hb⟩
    obtain ⟨A3, n3, q3, rfl, hc3, hC3⟩ := Kd_any (w := w) hv
    have C3 := Lib.hid hC3
    have S3 := Lib.hid (S2.out.below hb)
    clear hv hb hC3 d2
    go_wp2
    go_ret
    exact ⟨A3, n3, q3, v2, rfl, hc3, C3.out, S3.out⟩
  by_cases k3 : k = 3
  · subst k3
    rw [show itemEnc ⟨3, F1, F2, F3, F4⟩ = encN F4.size 0 ++ bytesOf F4 from rfl]
    clear k1 k2
    go_enter Try.func76, Try.ntmps76
    go_wp2_with fail
    with_reducible refine (WText_calls HWA.out (by omega)).mono ?_
    rintro e w2 ⟨rfl, v2, hs2⟩
    have d2 : w2.cell? ⟨w.heap.size, 4, none⟩ = some (.string F4) := (hs2.mod.cell (p := ⟨w.heap.size, 4, none⟩) hz hns).trans c4
    have S2 := Lib.hid (S1.out.trans hs2)
    clear hs2 c0 c1 c2 c3 c4 hz
    go_wp2_with fail
    with_reducible refine (RefText_calls hs).mono ?_
    rintro e w3 ⟨v3, rfl, hv, hb⟩
    obtain ⟨A3, n3, q3, rfl, hc3, hC3⟩ := Kd_any (w := w) hv
    have C3 := Lib.hid hC3
    have S3 := Lib.hid (S2.out.below hb)
    clear hv hb hC3 d2
    go_wp2
    go_ret
    exact ⟨A3, n3, q3, v2, rfl, hc3, C3.out, S3.out⟩
  by_cases k4 : k = 4
  · subst k4
    rw [show itemEnc ⟨4, F1, F2, F3, F4⟩ = bytesOf F4 from rfl]
    clear k1 k2 k3
    have kb := fun W => print_bytes (P := Try.prog) 9 22 5 Try.underlying9 Try.underlying22 Try.underlying5 F4 W
    have hbW := bytes_below (Below.refl (w.alloc (.cells #[.int .i64 4, .int .u64 F1, .int .i64 F2, .bool F3, .string F4] 97)).heap.size (w.alloc (.cells #[.int .i64 4, .int .u64 F1, .int .i64 F2, .bool F3, .string F4] 97))) (Nat.le_refl _) 5 F4
    have hzB : w.heap.size < (Lib.bytesWorld (w.alloc (.cells #[.int .i64 4, .int .u64 F1, .int .i64 F2, .bool F3, .string F4] 97)) 5 F4).heap.size := Nat.lt_of_lt_of_le hz hbW.size
    have C4 := Lib.hid ((hbW.cell (p := ⟨w.heap.size, 4, none⟩) hz).trans c4)
    have HRW := Lib.hid (WRaw_calls (c := grownCap (w.alloc (.cells #[.int .i64 4, .int .u64 F1, .int .i64 F2, .bool F3, .string F4] 97)) F4.size 0 5) (HWA.out.below hbW) (Kd.C_of_reads (d := (0 : Int)) (bytes_reads (w.alloc (.cells #[.int .i64 4, .int .u64 F1, .int .i64 F2, .bool F3, .string F4] 97)) 5 F4 (by omega))) (by omega))
    have S1b := Lib.hid (S1.out.below hbW)
    rw [hsz1] at HRW
    clear hbW
    go_enter Try.func76, Try.ntmps76
    go_wp2_with fail
    with_reducible refine HRW.out.mono ?_
    rintro e w2 ⟨rfl, v2, hs2⟩
    have d2 : w2.cell? ⟨w.heap.size, 4, none⟩ = some (.string F4) := (hs2.mod.cell (p := ⟨w.heap.size, 4, none⟩) hzB hns).trans C4.out
    have S2 := Lib.hid (S1b.out.trans hs2)
    have S3 := Lib.hid (S2.out.below (bytes_below (Below.refl w2.heap.size w2) (Nat.le_refl _) 5 F4))
    have CR := Lib.hid (bytes_reads w2 5 F4 (by omega))
    clear hs2 c0 c1 c2 c3 c4 hz hzB HRW
    go_wp2
    go_ret
    exact ⟨_, _, _, v2, rfl, grownCap_ge _ _ _ _, Kd.C_of_reads (d := (0 : Int)) CR.out, S3.out⟩
  · rw [show itemEnc ⟨k, F1, F2, F3, F4⟩ = encN F1 0 by unfold itemEnc; simp only; rw [if_neg k1, if_neg k2, if_neg k3, if_neg k4]]
    have e1 : (k == 1) = false := beq_eq_false_iff_ne.mpr k1
    have e2 : (k == 2) = false := beq_eq_false_iff_ne.mpr k2
    have e3 : (k == 3) = false := beq_eq_false_iff_ne.mpr k3
    have e4 : (k == 4) = false := beq_eq_false_iff_ne.mpr k4
    go_enter Try.func76, Try.ntmps76
    go_wp2_with fail
    with_reducible refine (WNum_lit [F1] #[.int .u64 F1] 1 (w.heap.size + 1) HWA.out hsz1 rfl rfl (U64.one x0 x1) (by simp; omega)).mono ?_
    rintro e w2 ⟨rfl, v2, hs2⟩
    rw [encNs_one] at hs2
    have d2 : w2.cell? ⟨w.heap.size, 1, none⟩ = some (.int .u64 F1) := (hs2.mod.cell (p := ⟨w.heap.size, 1, none⟩) hz hns).trans c1
    have S2 := Lib.hid (S1.out.trans hs2)
    clear hs2 c0 c1 c2 c3 c4 hz
    go_wp2_with fail
    with_reducible refine (RefNum_calls x0 x1).mono ?_
    rintro e w3 ⟨v3, rfl, hv, hb⟩
    obtain ⟨A3, n3, q3, rfl, hc3, hC3⟩ := Kd_any (w := w) hv
    have C3 := Lib.hid hC3
    have S3 := Lib.hid (S2.out.below hb)
    clear hv hb hC3 d2
    go_wp2
    go_ret
    exact ⟨A3, n3, q3, v2, rfl, hc3, C3.out, S3.out⟩

end Go.Proofs.Ytabdjehnglmlpaa
