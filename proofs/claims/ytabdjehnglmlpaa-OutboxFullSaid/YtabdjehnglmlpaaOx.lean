/- OutboxFull: the walk. -/
import Derived.Test.YtabdjehnglmlpaaOv
import Derived.Test.YtabdjehnglmlpaaOw
namespace Go.Proofs.Ytabdjehnglmlpaa
open Go.RowKit Go.Proofs.YtabdjehnglmlpaaW.PrintWords
open PO (S45 z45 k45 rd_T45)
set_option linter.unusedVariables false
set_option linter.unusedSimpArgs false

def nbx (n : No) : Obj := .cells #[.int .u64 n.f0, .int .u64 n.f1, .int .i64 n.f2, .int .i64 n.f3, .int .i64 n.f4, .int .i64 n.f5, .int .i64 n.f6, .int .i64 n.f7, .int .i64 n.f8] 45

set_option maxRecDepth 100000 in
set_option maxHeartbeats 1000000 in
theorem Full_refused {w : World} (n : No) (now a : Int) (hr : instO now = false ∨ fitsB n = false) :
    Calls Try.prog 5 #[No.val n, .int .i64 now, .int .u8 a] w fun e w' => e = .returned (.bool true) ∧ Below w.heap.size w w' := by
  have D0 := Lib.hid ((Below.refl w.heap.size w).alloc (Nat.le_refl _) (nbx n))
  have K0 : Hid ((w.alloc (nbx n)).heap[w.heap.size]? = some (nbx n)) := heap_alloc_new w _
  have HN := Lib.hid (New_calls (w.alloc (nbx n)))
  have HE : Hid (putS (0, []) n now = ((0, []), (0, 2))) := if_pos hr
  have HSZ := Lib.hid (show (w.alloc (nbx n)).heap.size = w.heap.size + 1 by simp)
  clear hr
  rw [HSZ.out] at HN
  simp only [nbx] at D0 K0 HN
  simp only [No.val]
  go_enter Try.func5, Try.ntmps5
  go_wp2_with fail
  with_reducible refine HN.out.mono ?_
  rintro e w1 ⟨rfl, hx, hb⟩
  have D1 := Lib.hid (D0.out.trans (hb.mono (Nat.le_succ _)))
  have K1 := Lib.hid ((hb.block w.heap.size (Nat.lt_succ_self _)).trans K0.out)
  have HP := Put_calls hx n now
  rw [HE.out] at HP
  simp only [No.val] at HP
  have HPP := Lib.hid HP
  have HX := Lib.hid hx
  clear hb hx HP HN D0 K0
  have x0 := blk_cell K1.out 0
  have x1 := blk_cell K1.out 1
  have x2 := blk_cell K1.out 2
  have x3 := blk_cell K1.out 3
  have x4 := blk_cell K1.out 4
  have x5 := blk_cell K1.out 5
  have x6 := blk_cell K1.out 6
  have x7 := blk_cell K1.out 7
  have x8 := blk_cell K1.out 8
  go_wp2_with fail
  with_reducible refine HPP.out.mono ?_
  rintro e w2 ⟨v2, rfl, hs⟩
  have D2 := Lib.hid (D1.out.trans ((BStep.base HX.out hs).mono (Nat.le_succ _)))
  clear hs HPP HX
  go_wp2_with fail
  with_reducible refine (lives17_calls _).mono ?_
  rintro e w3 ⟨rfl, hb⟩
  have D3 := Lib.hid (D2.out.trans (hb.mono D2.out.size))
  clear hb
  go_wp2
  go_ret
  exact ⟨rfl, D3.out⟩

theorem acked_val (t : S45) : No.val (acked t) = .agg #[.int .u64 t.f0, .int .u64 t.f1, .int .i64 t.f2, .int .i64 t.f3, .int .i64 2, .int .i64 t.f5, .int .i64 t.f6, .int .i64 t.f7, .int .i64 t.f8] := rfl
set_option maxRecDepth 100000 in
set_option maxHeartbeats 2000000 in
theorem Full_yes {w : World} (n : No) (now : Int) (a : Nat) (ha : a ≤ 255) (hi : instO now = true) (hf : fitsB n = true) :
    Calls Try.prog 5 #[No.val n, .int .i64 now, .int .u8 (a : Int)] w fun e w' => e = .returned (.bool true) ∧ Below w.heap.size w w' := by
  have hnow : now ≤ 9223372036854775807 := by have := of_decide_eq_true hi; omega
  have D0 := Lib.hid ((Below.refl w.heap.size w).alloc (Nat.le_refl _) (nbx n))
  have K0 : Hid ((w.alloc (nbx n)).heap[w.heap.size]? = some (nbx n)) := heap_alloc_new w _
  have HN := Lib.hid (New_calls (w.alloc (nbx n)))
  have HSZ := Lib.hid (show (w.alloc (nbx n)).heap.size = w.heap.size + 1 by simp)
  have HI := Lib.hid hi
  have HF := Lib.hid hf
  have HE : Hid (putS (0, []) n now = ((((0 + 1 : Nat) : Int), fullL n now (0 + 1)), (1, 0))) := full_put hi hf (k := 0) (by decide)
  clear hi hf
  rw [HSZ.out] at HN
  simp only [nbx] at D0 K0 HN
  simp only [No.val]
  go_enter Try.func5, Try.ntmps5
  go_wp2_with fail
  with_reducible refine HN.out.mono ?_
  rintro e w1 ⟨rfl, hx, hb⟩
  have D1 := Lib.hid (D0.out.trans (hb.mono (Nat.le_succ _)))
  have K1 := Lib.hid ((hb.block w.heap.size (Nat.lt_succ_self _)).trans K0.out)
  have HP := Put_calls hx n now
  rw [HE.out] at HP
  simp only [No.val] at HP
  have HPP := Lib.hid HP
  have HX := Lib.hid hx
  clear hb hx HP HN D0 K0 HE
  have x0 := blk_cell K1.out 0
  have x1 := blk_cell K1.out 1
  have x2 := blk_cell K1.out 2
  have x3 := blk_cell K1.out 3
  have x4 := blk_cell K1.out 4
  have x5 := blk_cell K1.out 5
  have x6 := blk_cell K1.out 6
  have x7 := blk_cell K1.out 7
  have x8 := blk_cell K1.out 8
  go_wp2_with fail
  with_reducible refine HPP.out.mono ?_
  rintro e w2 ⟨v2, rfl, hs⟩
  have hbs := BStep.base HX.out hs
  have D2 := Lib.hid (D1.out.trans (hbs.mono (Nat.le_succ _)))
  have K2 := Lib.hid ((hbs.block w.heap.size (Nat.lt_succ_self _)).trans K1.out)
  have X2 := Lib.hid hs.bx
  clear hs HPP HX D1 K1 hbs x0 x1 x2 x3 x4 x5 x6 x7 x8
  go_wp2_with fail
  go_loopw [10, 11, 36] (fun _ _ i wr => ∃ (k : Nat) (v' : Value), k ≤ 127 ∧ i = .int .i64 k ∧ Hid (Bx (w.heap.size + 1) wr (w.heap.size + 1) v' (((k + 1 : Nat) : Int), fullL n now (k + 1))) ∧ Hid (Below w.heap.size w wr) ∧ Hid (wr.heap[w.heap.size]? = some (.cells #[.int .u64 n.f0, .int .u64 n.f1, .int .i64 n.f2, .int .i64 n.f3, .int .i64 n.f4, .int .i64 n.f5, .int .i64 n.f6, .int .i64 n.f7, .int .i64 n.f8] 45))) (fun _ _ i _ => 127 - (intOf i).toNat)
  case atStart => exact ⟨0, _, Nat.zero_le _, rfl, X2, D2, K2⟩
  case round =>
    clear X2 D2 K2
    obtain ⟨k, v', hk, rfl, HX, HD, HK⟩ := hrel
    by_cases hlt : k < 127
    · have HP := Put_calls HX.out n now
      rw [full_put HI.out HF.out (k := k + 1) (by omega)] at HP
      simp only [No.val] at HP
      have HPP := Lib.hid HP
      clear HP
      have x0 := blk_cell HK.out 0
      have x1 := blk_cell HK.out 1
      have x2 := blk_cell HK.out 2
      have x3 := blk_cell HK.out 3
      have x4 := blk_cell HK.out 4
      have x5 := blk_cell HK.out 5
      have x6 := blk_cell HK.out 6
      have x7 := blk_cell HK.out 7
      have x8 := blk_cell HK.out 8
      go_wp2_with fail
      with_reducible refine HPP.out.mono ?_
      rintro e w3 ⟨v3, rfl, hs⟩
      have hbs := BStep.base HX.out hs
      have D3 := Lib.hid (HD.out.trans (hbs.mono (Nat.le_succ _)))
      have K3 := Lib.hid ((hbs.block w.heap.size (Nat.lt_succ_self _)).trans HK.out)
      have X3 := Lib.hid hs.bx
      clear hs hbs HPP x0 x1 x2 x3 x4 x5 x6 x7 x8
      go_wp2
      go_roundw
      case rel => exact ⟨k + 1, _, by omega, by go_num, X3, D3, K3⟩
      case measure => simp [intOf]; omega
    · obtain rfl : k = 127 := by omega
      have HXa : Hid (Bx (w.heap.size + 1) wr (w.heap.size + 1) v' (128, fullL n now 128)) := HX.out
      clear HX
      have HP := Put_calls HXa.out n now
      rw [full_full HI.out HF.out fullL_waits (fullL_len n now 128) (by decide)] at HP
      simp only [No.val] at HP
      have HPP := Lib.hid HP
      clear HP
      have x0 := blk_cell HK.out 0
      have x1 := blk_cell HK.out 1
      have x2 := blk_cell HK.out 2
      have x3 := blk_cell HK.out 3
      have x4 := blk_cell HK.out 4
      have x5 := blk_cell HK.out 5
      have x6 := blk_cell HK.out 6
      have x7 := blk_cell HK.out 7
      have x8 := blk_cell HK.out 8
      go_wp2_with fail
      with_reducible refine HPP.out.mono ?_
      rintro e w4 ⟨v4, rfl, hs⟩
      have hbs := BStep.base HXa.out hs
      have D4 := Lib.hid (HD.out.trans (hbs.mono (Nat.le_succ _)))
      have K4 := Lib.hid ((hbs.block w.heap.size (Nat.lt_succ_self _)).trans HK.out)
      have X4 := Lib.hid hs.bx
      clear hs hbs HPP x0 x1 x2 x3 x4 x5 x6 x7 x8 HXa HD HK
      obtain ⟨j, hj⟩ : ∃ j, a % 128 = j := ⟨_, rfl⟩
      have hj1 : j < 128 := by omega
      have haj : (a : Int) % 128 = (j : Int) := by omega
      obtain ⟨t, ht⟩ : ∃ t, tried now (asNew n ((j : Int) + 1) now) = t := ⟨_, rfl⟩
      have HT := Lib.hid ht.symm
      have HP := Try_calls X4.out ((j : Int) + 1) now hnow
      rw [full_try HF.out hj1, ht] at HP
      simp only [No.val] at HP
      have HPP := Lib.hid HP
      clear HP ht
      go_wp2_with fail
      rw [haj]
      with_reducible refine HPP.out.mono ?_
      rintro e w5 ⟨rfl, hs⟩
      have hs2 := hs.below ((Below.refl _ w5).alloc (Nat.le_refl _) (.cells #[.int .u64 t.f0, .int .u64 t.f1, .int .i64 t.f2, .int .i64 t.f3, .int .i64 t.f4, .int .i64 t.f5, .int .i64 t.f6, .int .i64 t.f7, .int .i64 t.f8] 45))
      have hbs := BStep.base X4.out hs2
      have D5 := Lib.hid (D4.out.trans (hbs.mono (Nat.le_succ _)))
      have K5 := Lib.hid ((hbs.block w.heap.size (Nat.lt_succ_self _)).trans K4.out)
      have X5 := Lib.hid hs2.bx
      clear hs hs2 hbs HPP X4 D4 K4
      have HP := Ack_calls X5.out ((j : Int) + 1)
      rw [full_ack hj1 HT.out] at HP
      rw [acked_val] at HP
      have HPP := Lib.hid HP
      clear HP
      go_wp2_with fail
      try rw [haj]
      with_reducible refine HPP.out.mono ?_
      rintro e w6 ⟨rfl, hs⟩
      have hs2 := hs.below ((Below.refl _ w6).alloc (Nat.le_refl _) (.cells #[.int .u64 t.f0, .int .u64 t.f1, .int .i64 t.f2, .int .i64 t.f3, .int .i64 2, .int .i64 t.f5, .int .i64 t.f6, .int .i64 t.f7, .int .i64 t.f8] 45))
      have hbs := BStep.base X5.out hs2
      have D6 := Lib.hid (D5.out.trans (hbs.mono (Nat.le_succ _)))
      have K6 := Lib.hid ((hbs.block w.heap.size (Nat.lt_succ_self _)).trans K5.out)
      have X6 := Lib.hid hs2.bx
      clear hs hs2 hbs HPP X5 D5 K5
      have HP := Put_calls X6.out n now
      rw [full_room HI.out HF.out hj1 HT.out] at HP
      simp only [No.val] at HP
      have HPP := Lib.hid HP
      clear HP
      have x0 := blk_cell K6.out 0
      have x1 := blk_cell K6.out 1
      have x2 := blk_cell K6.out 2
      have x3 := blk_cell K6.out 3
      have x4 := blk_cell K6.out 4
      have x5 := blk_cell K6.out 5
      have x6 := blk_cell K6.out 6
      have x7 := blk_cell K6.out 7
      have x8 := blk_cell K6.out 8
      go_wp2_with fail
      with_reducible refine HPP.out.mono ?_
      rintro e w7 ⟨v7, rfl, hs⟩
      have hbs := BStep.base X6.out hs
      have D7 := Lib.hid (D6.out.trans (hbs.mono (Nat.le_succ _)))
      have K7 := Lib.hid ((hbs.block w.heap.size (Nat.lt_succ_self _)).trans K6.out)
      have X7 := Lib.hid hs.bx
      clear hs hbs HPP X6 D6 K6 x0 x1 x2 x3 x4 x5 x6 x7 x8
      have HP := Get_calls X7.out ((j : Int) + 1)
      rw [full_get hj1] at HP
      simp only [No.val, PO.z45] at HP
      have HPP := Lib.hid HP
      clear HP
      go_wp2_with fail
      try rw [haj]
      with_reducible refine HPP.out.mono ?_
      rintro e w8 ⟨rfl, hb⟩
      have hs := BStep.of_below X7.out hb
      clear hb
      have hs2 := hs.below ((Below.refl _ w8).alloc (Nat.le_refl _) (.cells #[.int .u64 0, .int .u64 0, .int .i64 0, .int .i64 0, .int .i64 0, .int .i64 0, .int .i64 0, .int .i64 0, .int .i64 0] 45))
      have hbs := BStep.base X7.out hs2
      have D8 := Lib.hid (D7.out.trans (hbs.mono (Nat.le_succ _)))
      have K8 := Lib.hid ((hbs.block w.heap.size (Nat.lt_succ_self _)).trans K7.out)
      have X8 := Lib.hid hs2.bx
      clear hs hs2 hbs HPP X7 D7 K7
      have HP := Put_calls X8.out n now
      rw [full_full HI.out HF.out (fun x hx => (fullM_mem hx).1) (fullM_len hj1) (by decide)] at HP
      simp only [No.val] at HP
      have HPP := Lib.hid HP
      clear HP
      have x0 := blk_cell K8.out 0
      have x1 := blk_cell K8.out 1
      have x2 := blk_cell K8.out 2
      have x3 := blk_cell K8.out 3
      have x4 := blk_cell K8.out 4
      have x5 := blk_cell K8.out 5
      have x6 := blk_cell K8.out 6
      have x7 := blk_cell K8.out 7
      have x8 := blk_cell K8.out 8
      go_wp2_with fail
      with_reducible refine HPP.out.mono ?_
      rintro e w9 ⟨v9, rfl, hs⟩
      have hbs := BStep.base X8.out hs
      have D9 := Lib.hid (D8.out.trans (hbs.mono (Nat.le_succ _)))
      have K9 := Lib.hid ((hbs.block w.heap.size (Nat.lt_succ_self _)).trans K8.out)
      have X9 := Lib.hid hs.bx
      clear hs hbs HPP X8 D8 K8 x0 x1 x2 x3 x4 x5 x6 x7 x8
      have HW := Waiting_calls X9.out
      rw [full_count hj1] at HW
      have HWW := Lib.hid HW
      clear HW
      go_wp2_with fail
      with_reducible refine HWW.out.mono ?_
      rintro e w10 ⟨rfl, hb⟩
      have D10 := Lib.hid (D9.out.trans (hb.mono D9.out.size))
      clear hb HWW
      go_wp2_with fail
      with_reducible refine (lives17_calls _).mono ?_
      rintro e w11 ⟨rfl, hb⟩
      have D11 := Lib.hid (D10.out.trans (hb.mono D10.out.size))
      clear hb
      go_wp2
      go_ret
      exact ⟨rfl, D11.out⟩
end Go.Proofs.Ytabdjehnglmlpaa
