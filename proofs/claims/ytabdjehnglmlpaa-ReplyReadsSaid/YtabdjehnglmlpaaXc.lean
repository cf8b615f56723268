/- One text out of Pm, Pr. -/
import Derived.Test.YtabdjehnglmlpaaXb
section
/- The reference's Read of a reply. -/
namespace Go.Proofs.Ytabdjehnglmlpaa
open Go.RowKit Go.Proofs.YtabdjehnglmlpaaW.PrintWords
set_option linter.unusedVariables false
set_option linter.unusedSimpArgs false

def RRpPost (w0 ws : World) (g : Nat) (q : (Rp × Bool) × Rs) (e : Ending) (w' : World) : Prop :=
  ∃ A n c, e = .returned (.tuple #[q.1.1.val A n c, .bool q.1.2]) ∧ n ≤ c ∧ (∀ ad, A = some ad → ws.heap.size ≤ ad.block) ∧ Kd.C (Kd.int .u64) w' A n q.1.1.fired ∧ q.1.1.ok ∧ Mod (· = g) ws w' ∧ Ref w0 w' g q.2.1 q.2.2

set_option maxRecDepth 100000 in
set_option maxHeartbeats 8000000 in
theorem rrread_calls {w0 w : World} {g : Nat} {xs : List Int} {b : Bool} (hB : Below w0.heap.size w0 w) (h : Ref w0 w g xs b) (hb : Byt xs) (hws : w0.heap.size ≤ w.heap.size) :
    Calls Try.prog 102 #[.pointer (some ⟨g, 0, none⟩)] w (RRpPost w0 w g (rpGet (xs, b))) := by
  have hg := h.ge
  have hglt := hg.2
  have Z0 := Lib.hid (show Sr w0 w (w.alloc (.cells #[.int .i64 0, .int .i64 0, .int .u64 0, .int .i64 0, .int .i64 0, .int .i64 0, .int .u64 0, .int .i64 0, .int .i64 0, .int .i64 0, .int .i64 0, .slice none 0 0, .int .u64 0, .int .i64 0] 66)) g w.heap.size z66 66 xs b from
    ⟨hB.alloc hws _, h.alloc _, (Mod.refl _ _).alloc _, heap_alloc_new w _, Nat.le_refl _, hglt, hws⟩)
  have HY := Lib.hid hb
  clear hB h hb hg
  go_enter Try.func102, Try.ntmps102
  go_wp2_with fail
  with_reducible refine (Z0.out.num HY.out 99 (by decide)).mono ?_
  rintro e w1 ⟨n0, y0, b0, hq0, rfl, lo0, hi0, hy0, hm, hr⟩
  have E0 := Lib.hid hq0; have HY0 := Lib.hid hy0
  have hsz : w.heap.size < w1.heap.size := blk_lt (Z0.out.call hm hr).tk
  have Z2 := Lib.hid ((Z0.out.call hm hr).quiet ((Below.refl _ _).alloc (Nat.le_refl _) (.cells #[.int .i64 n0, .int .i64 0, .int .u64 0, .int .i64 0, .int .i64 0, .int .i64 0, .int .u64 0, .int .i64 0, .int .i64 0, .int .i64 0, .int .i64 0, .slice none 0 0, .int .u64 0, .int .i64 0] 66)))
  have P1 := Lib.hid (show Sg w0 w (w1.alloc (.cells #[.int .i64 n0, .int .i64 0, .int .u64 0, .int .i64 0, .int .i64 0, .int .i64 0, .int .u64 0, .int .i64 0, .int .i64 0, .int .i64 0, .int .i64 0, .slice none 0 0, .int .u64 0, .int .i64 0] 66)) g w1.heap.size w.heap.size #[.int .i64 n0, .int .i64 0, .int .u64 0, .int .i64 0, .int .i64 0, .int .i64 0, .int .u64 0, .int .i64 0, .int .i64 0, .int .i64 0, .int .i64 0, .slice none 0 0, .int .u64 0, .int .i64 0] y0 b0 (.slice none 0 0) [] from
    ⟨⟨Z2.out.bel, Z2.out.rdr, Z2.out.mod, heap_alloc_new w1 _, by omega, Z2.out.old, Z2.out.older⟩, Z2.out.tk, Nat.le_refl _, by omega, World.ownsRow_nil _ _ _ _⟩)
  clear hq0 hy0 hm hr Z0 Z2
  go_wp2_with fail
  with_reducible refine (RInt_step P1.out.st.bel P1.out.st.rdr HY0.out).mono ?_
  rintro e w2 ⟨n1, y1, b1, hq1, rfl, lo1, hi1, hy1, hm, hr⟩
  have E1 := Lib.hid hq1; have HY1 := Lib.hid hy1
  have U := P1.out.call hm hr
  have c1 := U.cell 1; have f1 := U.free 1
  have P2 := Lib.hid (U.set 1 (.int .i64 n1))
  simp only [List.setIfInBounds_toArray, List.set_cons_succ, List.set_cons_zero] at P2
  clear hq1 hy1 hm hr P1 U
  go_wp2_with fail
  with_reducible refine (RFlag_step P2.out.st.bel P2.out.st.rdr HY1.out).mono ?_
  rintro e w3 ⟨fl, y2, b2, hq2, rfl, hy2, hm, hr⟩
  have E2 := Lib.hid hq2; have HY2 := Lib.hid hy2; have P3 := Lib.hid (P2.out.call hm hr)
  clear hq2 hy2 hm hr P2 c1 f1
  go_upto_if 16 with fail
  go_cut [5] (fun s5 wx => ∃ (tk : Tk) (ok : Bool) (ys : List Int) (c : Bool), s5 = .bool ok ∧ Hid (rpTk fl (y2, b2) = ((tk, ok), (ys, c))) ∧ Hid tk.ok ∧ Hid (Byt ys) ∧ Hid (Sg w0 w wx g w1.heap.size w.heap.size #[.int .i64 n0, .int .i64 n1, .int .u64 tk.id, .int .i64 tk.contract, .int .i64 tk.state, .int .i64 tk.level, .int .u64 tk.gen, .int .i64 tk.frm, .int .i64 tk.left, .int .i64 tk.due, .int .i64 tk.told, .slice none 0 0, .int .u64 0, .int .i64 0] ys c (.slice none 0 0) []))
  case first =>
    cases fl
    · go_wp2_with fail
      go_meet
      exact ⟨Tk.zero, true, y2, b2, rfl, rpTk_false _, Tk.zero_ok, HY2.out, P3.out⟩
    · go_wp2_with fail
      with_reducible refine (RTk_step P3.out.st.bel P3.out.st.rdr HY2.out (by have := P3.out.st.mod.size; omega)).mono ?_
      rintro e w4 ⟨tk, ok, y3, b3, hq3, rfl, htk, hy3, hm, hr⟩
      have E3 := Lib.hid hq3; have HY3 := Lib.hid hy3; have HK := Lib.hid htk; have P4 := Lib.hid (P3.out.call hm hr)
      clear hq3 hy3 hm hr P3 htk
      have c2 := P4.out.cell 2; have f2 := P4.out.free 2
      have c3 := P4.out.cell 3; have f3 := P4.out.free 3
      have c4 := P4.out.cell 4; have f4 := P4.out.free 4
      have c5 := P4.out.cell 5; have f5 := P4.out.free 5
      have c6 := P4.out.cell 6; have f6 := P4.out.free 6
      have c7 := P4.out.cell 7; have f7 := P4.out.free 7
      have c8 := P4.out.cell 8; have f8 := P4.out.free 8
      have c9 := P4.out.cell 9; have f9 := P4.out.free 9
      have c10 := P4.out.cell 10; have f10 := P4.out.free 10
      go_wp2_with fail
      go_meet
      have PF := Lib.hid (((((((((P4.out.set 2 (.int .u64 tk.id)).set 3 (.int .i64 tk.contract)).set 4 (.int .i64 tk.state)).set 5 (.int .i64 tk.level)).set 6 (.int .u64 tk.gen)).set 7 (.int .i64 tk.frm)).set 8 (.int .i64 tk.left)).set 9 (.int .i64 tk.due)).set 10 (.int .i64 tk.told))
      simp only [List.setIfInBounds_toArray, List.set_cons_succ, List.set_cons_zero] at PF
      exact ⟨tk, ok, y3, b3, rfl, (rpTk_true _).trans E3.out, HK.out, HY3.out, PF.out⟩
  case rest =>
    clear P3 HY2
    obtain ⟨tk, ok, y3, b3, rfl, E3, HK, HY3, P4⟩ := hcut
    go_wp2_with fail
    with_reducible refine (RNum_step 64 P4.out.st.bel P4.out.st.rdr HY3.out (by decide)).mono ?_
    rintro e w5 ⟨n4, y4, b4, hq4, rfl, lo4, hi4, hy4, hm, hr⟩
    obtain ⟨m, rfl⟩ := Int.eq_ofNat_of_zero_le lo4
    have E4 := Lib.hid hq4; have HY4 := Lib.hid hy4; have P5 := Lib.hid (P4.out.call hm hr)
    clear hq4 hy4 hm hr P4 HY3
    go_wp2_with fail
    go_loopw [7] (fun i wr => ∃ (k : Nat) (v : Value) (fs ys : List Int) (c : Bool), i = .int .u64 k ∧ k ≤ m ∧ Hid (rpLoop k (y4, b4) = (fs, (ys, c))) ∧ Hid (fs.length = k ∧ U64 fs ∧ Byt ys) ∧ Hid (Sg w0 w wr g w1.heap.size w.heap.size #[.int .i64 n0, .int .i64 n1, .int .u64 tk.id, .int .i64 tk.contract, .int .i64 tk.state, .int .i64 tk.level, .int .u64 tk.gen, .int .i64 tk.frm, .int .i64 tk.left, .int .i64 tk.due, .int .i64 tk.told, v, .int .u64 0, .int .i64 0] ys c v fs)) (fun i _ => m - (intOf i).toNat)
    case atStart => exact ⟨0, _, [], y4, b4, rfl, Nat.zero_le _, rfl, ⟨rfl, (fun x hx => nomatch hx), HY4.out⟩, P5.out⟩
    case round =>
      clear P5 HY4
      obtain ⟨k, v, fs, ys, c, rfl, hk, EL, HL, HP⟩ := hrel
      by_cases hlt : k < m
      · have PD := Lib.hid HP.out.drew
        clear HP
        have c11 := PD.out.cell 11
        have hk64 : k ≤ 64 := by omega
        go_upto_region 10 with fail
        refine wp_region_any (by kernel_rfl) ?_
        try (change wpAny _ _ _ _ _ _ _ (World.drew _))
        refine wpAny_take (i := 0) (v := ?_) rfl (by kernel_rfl) (by kernel_rfl) (by kernel_rfl) (fun _ _ _ h => h) (Or.inl ⟨by rfl, ?_⟩) ?_
        rotate_left
        · intro w; go_simp; try with_reducible rfl
        refine wpAny_take (i := 2) (v := ?_) rfl (by kernel_rfl) (by kernel_rfl) (by kernel_rfl) (fun _ _ _ h => h) (Or.inl ⟨by rfl, ?_⟩) ?_
        rotate_left
        · intro w; go_simp; try with_reducible rfl
        refine wpAny_lay (fun K hK => ?_)
        go_simp
        refine hK _ _ ?_
        clear hK K
        refine wpAny_ready (rs := [1, 3]) (by kernel_rfl) (by simp) ?_
        refine AllReady.cons rfl (fun K hK => ?wa) (AllReady.cons rfl (fun K hK => ?wb) AllReady.nil)
        case' wa =>
          go_simp
          refine hK _ _ ?_
          clear hK K
          refine wpAny_ready (rs := [3]) (by kernel_rfl) (by simp) ?_
          refine AllReady.cons rfl (fun K hK => ?_) AllReady.nil
          go_simp
          go_wp2_with fail
          with_reducible refine (RNum_step 18446744073709551615 PD.out.st.bel PD.out.st.rdr HL.out.2.2 (by decide)).mono ?_
          rintro e w7 ⟨n, y7, b7, hq7, rfl, lo7, hi7, hy7, hm, hr⟩
          have E7 := Lib.hid hq7; have HY7 := Lib.hid hy7; have P7 := Lib.hid (PD.out.call hm hr)
          clear hq7 hy7 hm hr c11
          go_wp2_with fail
          refine wpAny_ready (rs := [4]) (by kernel_rfl) (by simp) ?_
          refine AllReady.cons rfl (fun K hK => ?_) AllReady.nil
          go_simp
          refine hK _ _ ?_
          clear hK K
        case' wb =>
          go_simp
          go_wp2_with fail
          with_reducible refine (RNum_step 18446744073709551615 PD.out.st.bel PD.out.st.rdr HL.out.2.2 (by decide)).mono ?_
          rintro e w7 ⟨n, y7, b7, hq7, rfl, lo7, hi7, hy7, hm, hr⟩
          have E7 := Lib.hid hq7; have HY7 := Lib.hid hy7; have P7 := Lib.hid (PD.out.call hm hr)
          clear hq7 hy7 hm hr c11
          have c11 := P7.out.cell 11
          go_wp2_with fail
          refine wpAny_ready (rs := [1, 4]) (by kernel_rfl) (by simp) ?_
          refine AllReady.cons rfl (fun K hK => ?wc) (AllReady.cons rfl (fun K hK => ?wd) AllReady.nil)
        case' wc =>
          go_simp
          refine hK _ _ ?_
          clear hK K c11
          refine wpAny_ready (rs := [4]) (by kernel_rfl) (by simp) ?_
          refine AllReady.cons rfl (fun K hK => ?_) AllReady.nil
          go_simp
          refine hK _ _ ?_
          clear hK K
        case' wd =>
          have c11b := (P7.out.quiet ((Below.refl _ _).alloc (Nat.le_refl _) (.cells #[.int .u64 n] 26))).cell 11
          clear c11
          go_simp
          refine hK _ _ ?_
          clear hK K
          refine wpAny_ready (rs := [1]) (by kernel_rfl) (by simp) ?_
          refine AllReady.cons rfl (fun K hK => ?_) AllReady.nil
          go_simp
          refine hK _ _ ?_
          clear hK K
          clear c11b
        all_goals
          refine wpAny_ready (rs := [5]) (by kernel_rfl) (by simp) ?_
          refine AllReady.cons rfl (fun K hK => ?_) AllReady.nil
          refine step_append_cells (w0 := w7) w.heap.size (by rfl) _ _ 64 26 (.int .u64 0) 1 8 (by rfl) Try.underlying64 info26 rfl (by decide) (by decide) v fs.length (nums .u64 fs) [.int .u64 n] (by rfl) (by rfl) rfl (by simp [Value.oneCell']) P7.out.own ((Below.refl w7.heap.size w7).mono P7.out.st.mod.size) P7.out.st.mod.size (by have := HL.out.1; omega) ?_
          intro v8 w8 hown hbel hgrow hat
          obtain ⟨A8, m8, k8, rfl⟩ := own_form hown
          have hown2 : w8.ownsRow w.heap.size 26 1 (.slice A8 m8 k8) (fs ++ [n]).length (nums .u64 (fs ++ [n])) := by
            rw [nums_append, List.length_append]; exact hown
          have P8 := Lib.hid (P7.out.grow hgrow hown2)
          clear hown hbel hgrow hat hown2
          refine hK _ _ ?_
          clear hK K
          refine wpAny_take (i := 6) (v := ?_) rfl (by kernel_rfl) (by kernel_rfl) (by kernel_rfl) (fun _ _ _ h => h) (Or.inl ⟨by rfl, ?_⟩) ?_
          rotate_left
          · intro w; go_simp; try with_reducible rfl
          have f11 := P8.out.free 11
          have c11 := P8.out.cell 11
          refine wpAny_ready (rs := [7]) (by kernel_rfl) (by simp) ?_
          refine AllReady.cons rfl (fun K hK => ?_) AllReady.nil
          go_simp
          refine hK _ _ ?_
          clear hK K
          refine wpAny_done (by kernel_rfl) ?_ _
          go_wp2_with fail
          go_roundw
          case rel => exact ⟨k + 1, .slice A8 m8 k8, fs ++ [n], y7, b7, by go_num, by omega, rpLoop_step EL.out E7.out, ⟨by have := HL.out.1; simp; omega, U64.snoc HL.out.2.1 lo7 hi7, HY7.out⟩, P8.out.set 11 (.slice A8 m8 k8)⟩
          case measure => simp [intOf]; omega
      · obtain rfl : m = k := by omega
        obtain ⟨AF, mf, cf, rfl, hcf, hmf, hCF⟩ := HP.out.row
        clear hCF
        go_wp2_with fail
        with_reducible refine (RNum_step 18446744073709551615 HP.out.st.bel HP.out.st.rdr HL.out.2.2 (by decide)).mono ?_
        rintro e w8 ⟨n6, y6, b6, hq6, rfl, lo6, hi6, hy6, hm, hr⟩
        have E6 := Lib.hid hq6; have HY6 := Lib.hid hy6
        have U := HP.out.call hm hr
        have c12 := U.cell 12; have f12 := U.free 12
        have P6 := Lib.hid (U.set 12 (.int .u64 n6))
        clear hq6 hy6 hm hr HP U
        go_wp2_with fail
        with_reducible refine (RNum_step 128 P6.out.st.bel P6.out.st.rdr HY6.out (by decide)).mono ?_
        rintro e w9 ⟨n7, y7, b7, hq7, rfl, lo7, hi7, hy7, hm, hr⟩
        have U := P6.out.call hm hr
        have c13 := U.cell 13; have f13 := U.free 13
        have E7 := Lib.hid hq7; have HY7 := Lib.hid hy7; have P7 := Lib.hid (U.set 13 (.int .i64 n7))
        clear hq7 hy7 hm hr P6 U HY6
        simp only [List.setIfInBounds_toArray, List.set_cons_succ, List.set_cons_zero] at P7
        have hokb : ok = false → b7 = true := fun h => by
          have h1 := rpTk_bad (f := fl) (s := (y2, b2)) (by rw [E3.out]; exact h)
          rw [E3.out] at h1
          have h2 := rNum_bad 64 (s := (y3, b3)) h1
          rw [E4.out] at h2
          have h3 := rpLoop_bad (s := (y4, b4)) h2 m
          rw [EL.out] at h3
          have h4 := rNum_bad 18446744073709551615 (s := (ys, c)) h3
          rw [E6.out] at h4
          have h5 := rNum_bad 128 (s := (y6, b6)) h4
          rw [E7.out] at h5
          exact h5
        have HOKB := Lib.hid hokb
        clear hokb
        have ET := Lib.hid (rpRead_eq E0.out E1.out E2.out E3.out E4.out EL.out E6.out E7.out)
        have OK : Rp.ok ⟨n0, n1, tk, fs, n6, n7⟩ := ⟨⟨by simp only; omega, by simp only; omega⟩, ⟨lo1, hi1⟩, HK.out, HL.out.2.1, ⟨lo6, hi6⟩, ⟨by simp only; omega, by simp only; omega⟩⟩
        have HOK := Lib.hid OK
        have hlf := HL.out.1
        have HTS := Lib.hid (fun W => rrpS_calls W ⟨n0, n1, tk, fs, n6, n7⟩ OK AF mf cf hmf.symm (by omega))
        simp only [Rp.val] at HTS
        have WR := P7.out.st.wrong
        have HMF := Lib.hid hmf
        have HLF := Lib.hid hlf
        clear OK E0 E1 E2 E3 E4 EL E6 E7 hmf hlf
        revert WR ET HOKB P7
        cases b7
        · intro P7 HOKB ET WR
          obtain rfl : ok = true := by
            cases ok
            · exact absurd (HOKB.out rfl) (by decide)
            · rfl
          have t0 := P7.out.cell 0
          have t1 := P7.out.cell 1
          have t2 := P7.out.cell 2
          have t3 := P7.out.cell 3
          have t4 := P7.out.cell 4
          have t5 := P7.out.cell 5
          have t6 := P7.out.cell 6
          have t7 := P7.out.cell 7
          have t8 := P7.out.cell 8
          have t9 := P7.out.cell 9
          have t10 := P7.out.cell 10
          have t11 := P7.out.cell 11
          have t12 := P7.out.cell 12
          have t13 := P7.out.cell 13
          cases hs : rpSound ⟨n0, n1, tk, fs, n6, n7⟩
          · have EG : Hid (rpGet (xs, b) = ((Rp.zero, false), rFail)) := by
              show rpGet (xs, b) = _
              unfold rpGet; rw [ET.out]; simp [hs]
            have HS := Lib.hid hs
            clear hs ET
            go_wp2_with fail
            with_reducible refine (HTS.out _).mono ?_
            rintro e w11 ⟨rfl, hb⟩
            rw [HS.out]
            have P10 := Lib.hid (P7.out.quiet hb)
            clear hb t0 t1 t2 t3 t4 t5 t6 t7 t8 t9 t10 t11 t12 t13 P7 WR
            go_wp2_with fail
            with_reducible refine (rfail_step P10.out.st.rdr).mono ?_
            rintro e w12 ⟨rfl, hm, hr⟩
            have P11 := Lib.hid (P10.out.call hm hr)
            clear hm hr P10
            have q0 : w12.cell? ⟨w.heap.size, 0, none⟩ = some (.int .i64 0) := P11.out.qcell 0; have r0 := P11.out.qfree 0
            have q1 : w12.cell? ⟨w.heap.size, 1, none⟩ = some (.int .i64 0) := P11.out.qcell 1; have r1 := P11.out.qfree 1
            have q2 : w12.cell? ⟨w.heap.size, 2, none⟩ = some (.int .u64 0) := P11.out.qcell 2; have r2 := P11.out.qfree 2
            have q3 : w12.cell? ⟨w.heap.size, 3, none⟩ = some (.int .i64 0) := P11.out.qcell 3; have r3 := P11.out.qfree 3
            have q4 : w12.cell? ⟨w.heap.size, 4, none⟩ = some (.int .i64 0) := P11.out.qcell 4; have r4 := P11.out.qfree 4
            have q5 : w12.cell? ⟨w.heap.size, 5, none⟩ = some (.int .i64 0) := P11.out.qcell 5; have r5 := P11.out.qfree 5
            have q6 : w12.cell? ⟨w.heap.size, 6, none⟩ = some (.int .u64 0) := P11.out.qcell 6; have r6 := P11.out.qfree 6
            have q7 : w12.cell? ⟨w.heap.size, 7, none⟩ = some (.int .i64 0) := P11.out.qcell 7; have r7 := P11.out.qfree 7
            have q8 : w12.cell? ⟨w.heap.size, 8, none⟩ = some (.int .i64 0) := P11.out.qcell 8; have r8 := P11.out.qfree 8
            have q9 : w12.cell? ⟨w.heap.size, 9, none⟩ = some (.int .i64 0) := P11.out.qcell 9; have r9 := P11.out.qfree 9
            have q10 : w12.cell? ⟨w.heap.size, 10, none⟩ = some (.int .i64 0) := P11.out.qcell 10; have r10 := P11.out.qfree 10
            have q11 : w12.cell? ⟨w.heap.size, 11, none⟩ = some (.slice none 0 0) := P11.out.qcell 11; have r11 := P11.out.qfree 11
            have q12 : w12.cell? ⟨w.heap.size, 12, none⟩ = some (.int .u64 0) := P11.out.qcell 12; have r12 := P11.out.qfree 12
            have q13 : w12.cell? ⟨w.heap.size, 13, none⟩ = some (.int .i64 0) := P11.out.qcell 13; have r13 := P11.out.qfree 13
            go_wp2
            have QF := Lib.hid ((((((((((((((P11.out.res.set 0 (.int .i64 0)).set 1 (.int .i64 0)).set 2 (.int .u64 0)).set 3 (.int .i64 0)).set 4 (.int .i64 0)).set 5 (.int .i64 0)).set 6 (.int .u64 0)).set 7 (.int .i64 0)).set 8 (.int .i64 0)).set 9 (.int .i64 0)).set 10 (.int .i64 0)).set 11 (.slice none 0 0)).set 12 (.int .u64 0)).set 13 (.int .i64 0))
            have z0 := (QF.out.cell 0).trans rfl
            have z1 := (QF.out.cell 1).trans rfl
            have z2 := (QF.out.cell 2).trans rfl
            have z3 := (QF.out.cell 3).trans rfl
            have z4 := (QF.out.cell 4).trans rfl
            have z5 := (QF.out.cell 5).trans rfl
            have z6 := (QF.out.cell 6).trans rfl
            have z7 := (QF.out.cell 7).trans rfl
            have z8 := (QF.out.cell 8).trans rfl
            have z9 := (QF.out.cell 9).trans rfl
            have z10 := (QF.out.cell 10).trans rfl
            have z11 := (QF.out.cell 11).trans rfl
            have z12 := (QF.out.cell 12).trans rfl
            have z13 := (QF.out.cell 13).trans rfl
            refine bodyPost_ret (v := .tuple #[.agg #[(.int .i64 0), (.int .i64 0), (.int .u64 0), (.int .i64 0), (.int .i64 0), (.int .i64 0), (.int .u64 0), (.int .i64 0), (.int .i64 0), (.int .i64 0), (.int .i64 0), (.slice none 0 0), (.int .u64 0), (.int .i64 0)], .bool false]) (by simp [results, Try.results102, go_sem, z66, z0, z1, z2, z3, z4, z5, z6, z7, z8, z9, z10, z11, z12, z13]) rfl ?_
            refine ⟨none, 0, 0, ?_, Nat.le_refl _, (fun ad h => nomatch h), ?_, ?_, QF.out.mod, ?_⟩
            · rw [EG.out]; rfl
            · rw [EG.out]; exact nil_reads
            · rw [EG.out]; exact Rp.zero_ok
            · rw [EG.out]; exact QF.out.rdr
          · have EG : Hid (rpGet (xs, b) = ((⟨n0, n1, tk, fs, n6, n7⟩, true), (y7, false))) := by
              show rpGet (xs, b) = _
              unfold rpGet; rw [ET.out]; simp [hs]
            have HS := Lib.hid hs
            clear hs ET
            go_wp2_with fail
            with_reducible refine (HTS.out _).mono ?_
            rintro e w11 ⟨rfl, hb⟩
            rw [HS.out]
            have P10 := Lib.hid (P7.out.quiet hb)
            clear hb t0 t1 t2 t3 t4 t5 t6 t7 t8 t9 t10 t11 t12 t13 P7 WR
            have t0 := P10.out.cell 0
            have t1 := P10.out.cell 1
            have t2 := P10.out.cell 2
            have t3 := P10.out.cell 3
            have t4 := P10.out.cell 4
            have t5 := P10.out.cell 5
            have t6 := P10.out.cell 6
            have t7 := P10.out.cell 7
            have t8 := P10.out.cell 8
            have t9 := P10.out.cell 9
            have t10 := P10.out.cell 10
            have t11 := P10.out.cell 11
            have t12 := P10.out.cell 12
            have t13 := P10.out.cell 13
            have q0 : w11.cell? ⟨w.heap.size, 0, none⟩ = some (.int .i64 0) := P10.out.qcell 0; have r0 := P10.out.qfree 0
            have q1 : w11.cell? ⟨w.heap.size, 1, none⟩ = some (.int .i64 0) := P10.out.qcell 1; have r1 := P10.out.qfree 1
            have q2 : w11.cell? ⟨w.heap.size, 2, none⟩ = some (.int .u64 0) := P10.out.qcell 2; have r2 := P10.out.qfree 2
            have q3 : w11.cell? ⟨w.heap.size, 3, none⟩ = some (.int .i64 0) := P10.out.qcell 3; have r3 := P10.out.qfree 3
            have q4 : w11.cell? ⟨w.heap.size, 4, none⟩ = some (.int .i64 0) := P10.out.qcell 4; have r4 := P10.out.qfree 4
            have q5 : w11.cell? ⟨w.heap.size, 5, none⟩ = some (.int .i64 0) := P10.out.qcell 5; have r5 := P10.out.qfree 5
            have q6 : w11.cell? ⟨w.heap.size, 6, none⟩ = some (.int .u64 0) := P10.out.qcell 6; have r6 := P10.out.qfree 6
            have q7 : w11.cell? ⟨w.heap.size, 7, none⟩ = some (.int .i64 0) := P10.out.qcell 7; have r7 := P10.out.qfree 7
            have q8 : w11.cell? ⟨w.heap.size, 8, none⟩ = some (.int .i64 0) := P10.out.qcell 8; have r8 := P10.out.qfree 8
            have q9 : w11.cell? ⟨w.heap.size, 9, none⟩ = some (.int .i64 0) := P10.out.qcell 9; have r9 := P10.out.qfree 9
            have q10 : w11.cell? ⟨w.heap.size, 10, none⟩ = some (.int .i64 0) := P10.out.qcell 10; have r10 := P10.out.qfree 10
            have q11 : w11.cell? ⟨w.heap.size, 11, none⟩ = some (.slice none 0 0) := P10.out.qcell 11; have r11 := P10.out.qfree 11
            have q12 : w11.cell? ⟨w.heap.size, 12, none⟩ = some (.int .u64 0) := P10.out.qcell 12; have r12 := P10.out.qfree 12
            have q13 : w11.cell? ⟨w.heap.size, 13, none⟩ = some (.int .i64 0) := P10.out.qcell 13; have r13 := P10.out.qfree 13
            go_wp2
            have QF := Lib.hid ((((((((((((((P10.out.res.set 0 (.int .i64 n0)).set 1 (.int .i64 n1)).set 2 (.int .u64 tk.id)).set 3 (.int .i64 tk.contract)).set 4 (.int .i64 tk.state)).set 5 (.int .i64 tk.level)).set 6 (.int .u64 tk.gen)).set 7 (.int .i64 tk.frm)).set 8 (.int .i64 tk.left)).set 9 (.int .i64 tk.due)).set 10 (.int .i64 tk.told)).set 11 (.slice AF mf cf)).set 12 (.int .u64 n6)).set 13 (.int .i64 n7))
            have z0 := (QF.out.cell 0).trans rfl
            have z1 := (QF.out.cell 1).trans rfl
            have z2 := (QF.out.cell 2).trans rfl
            have z3 := (QF.out.cell 3).trans rfl
            have z4 := (QF.out.cell 4).trans rfl
            have z5 := (QF.out.cell 5).trans rfl
            have z6 := (QF.out.cell 6).trans rfl
            have z7 := (QF.out.cell 7).trans rfl
            have z8 := (QF.out.cell 8).trans rfl
            have z9 := (QF.out.cell 9).trans rfl
            have z10 := (QF.out.cell 10).trans rfl
            have z11 := (QF.out.cell 11).trans rfl
            have z12 := (QF.out.cell 12).trans rfl
            have z13 := (QF.out.cell 13).trans rfl
            refine bodyPost_ret (v := .tuple #[.agg #[(.int .i64 n0), (.int .i64 n1), (.int .u64 tk.id), (.int .i64 tk.contract), (.int .i64 tk.state), (.int .i64 tk.level), (.int .u64 tk.gen), (.int .i64 tk.frm), (.int .i64 tk.left), (.int .i64 tk.due), (.int .i64 tk.told), (.slice AF mf cf), (.int .u64 n6), (.int .i64 n7)], .bool true]) (by simp [results, Try.results102, go_sem, z66, z0, z1, z2, z3, z4, z5, z6, z7, z8, z9, z10, z11, z12, z13]) rfl ?_
            have hneQ : some w.heap.size ≠ (Value.slice AF mf cf).ownBlock := own_ne P10.out.own P10.out.qk (by decide)
            have CO := (own_setCell (own_setCell (own_setCell (own_setCell (own_setCell (own_setCell (own_setCell (own_setCell (own_setCell (own_setCell (own_setCell (own_setCell (own_setCell (own_setCell P10.out.own (p := ⟨w.heap.size, 0, none⟩) hneQ (.int .i64 n0)) (p := ⟨w.heap.size, 1, none⟩) hneQ (.int .i64 n1)) (p := ⟨w.heap.size, 2, none⟩) hneQ (.int .u64 tk.id)) (p := ⟨w.heap.size, 3, none⟩) hneQ (.int .i64 tk.contract)) (p := ⟨w.heap.size, 4, none⟩) hneQ (.int .i64 tk.state)) (p := ⟨w.heap.size, 5, none⟩) hneQ (.int .i64 tk.level)) (p := ⟨w.heap.size, 6, none⟩) hneQ (.int .u64 tk.gen)) (p := ⟨w.heap.size, 7, none⟩) hneQ (.int .i64 tk.frm)) (p := ⟨w.heap.size, 8, none⟩) hneQ (.int .i64 tk.left)) (p := ⟨w.heap.size, 9, none⟩) hneQ (.int .i64 tk.due)) (p := ⟨w.heap.size, 10, none⟩) hneQ (.int .i64 tk.told)) (p := ⟨w.heap.size, 11, none⟩) hneQ (.slice AF mf cf)) (p := ⟨w.heap.size, 12, none⟩) hneQ (.int .u64 n6)) (p := ⟨w.heap.size, 13, none⟩) hneQ (.int .i64 n7))
            have CQ := Lib.hid (own64_C CO)
            have hfr : ∀ ad, AF = some ad → w.heap.size ≤ ad.block := fun ad h => own_base CO ad.block (by rw [h]; rfl)
            clear CO
            refine ⟨AF, mf, cf, ?_, hcf, hfr, ?_, ?_, QF.out.mod, ?_⟩
            · rw [EG.out]; rfl
            · rw [EG.out]; exact CQ.out
            · rw [EG.out]; exact HOK.out
            · rw [EG.out]; exact QF.out.rdr
        · intro P7 HOKB ET WR
          have EG : Hid (rpGet (xs, b) = ((Rp.zero, false), rFail)) := by
            show rpGet (xs, b) = _
            unfold rpGet; rw [ET.out]; simp
          clear ET
          go_wp2_with fail
          with_reducible refine (rfail_step P7.out.st.rdr).mono ?_
          rintro e w12 ⟨rfl, hm, hr⟩
          have P11 := Lib.hid (P7.out.call hm hr)
          clear hm hr P7 WR
          have q0 : w12.cell? ⟨w.heap.size, 0, none⟩ = some (.int .i64 0) := P11.out.qcell 0; have r0 := P11.out.qfree 0
          have q1 : w12.cell? ⟨w.heap.size, 1, none⟩ = some (.int .i64 0) := P11.out.qcell 1; have r1 := P11.out.qfree 1
          have q2 : w12.cell? ⟨w.heap.size, 2, none⟩ = some (.int .u64 0) := P11.out.qcell 2; have r2 := P11.out.qfree 2
          have q3 : w12.cell? ⟨w.heap.size, 3, none⟩ = some (.int .i64 0) := P11.out.qcell 3; have r3 := P11.out.qfree 3
          have q4 : w12.cell? ⟨w.heap.size, 4, none⟩ = some (.int .i64 0) := P11.out.qcell 4; have r4 := P11.out.qfree 4
          have q5 : w12.cell? ⟨w.heap.size, 5, none⟩ = some (.int .i64 0) := P11.out.qcell 5; have r5 := P11.out.qfree 5
          have q6 : w12.cell? ⟨w.heap.size, 6, none⟩ = some (.int .u64 0) := P11.out.qcell 6; have r6 := P11.out.qfree 6
          have q7 : w12.cell? ⟨w.heap.size, 7, none⟩ = some (.int .i64 0) := P11.out.qcell 7; have r7 := P11.out.qfree 7
          have q8 : w12.cell? ⟨w.heap.size, 8, none⟩ = some (.int .i64 0) := P11.out.qcell 8; have r8 := P11.out.qfree 8
          have q9 : w12.cell? ⟨w.heap.size, 9, none⟩ = some (.int .i64 0) := P11.out.qcell 9; have r9 := P11.out.qfree 9
          have q10 : w12.cell? ⟨w.heap.size, 10, none⟩ = some (.int .i64 0) := P11.out.qcell 10; have r10 := P11.out.qfree 10
          have q11 : w12.cell? ⟨w.heap.size, 11, none⟩ = some (.slice none 0 0) := P11.out.qcell 11; have r11 := P11.out.qfree 11
          have q12 : w12.cell? ⟨w.heap.size, 12, none⟩ = some (.int .u64 0) := P11.out.qcell 12; have r12 := P11.out.qfree 12
          have q13 : w12.cell? ⟨w.heap.size, 13, none⟩ = some (.int .i64 0) := P11.out.qcell 13; have r13 := P11.out.qfree 13
          go_wp2
          have QF := Lib.hid ((((((((((((((P11.out.res.set 0 (.int .i64 0)).set 1 (.int .i64 0)).set 2 (.int .u64 0)).set 3 (.int .i64 0)).set 4 (.int .i64 0)).set 5 (.int .i64 0)).set 6 (.int .u64 0)).set 7 (.int .i64 0)).set 8 (.int .i64 0)).set 9 (.int .i64 0)).set 10 (.int .i64 0)).set 11 (.slice none 0 0)).set 12 (.int .u64 0)).set 13 (.int .i64 0))
          have z0 := (QF.out.cell 0).trans rfl
          have z1 := (QF.out.cell 1).trans rfl
          have z2 := (QF.out.cell 2).trans rfl
          have z3 := (QF.out.cell 3).trans rfl
          have z4 := (QF.out.cell 4).trans rfl
          have z5 := (QF.out.cell 5).trans rfl
          have z6 := (QF.out.cell 6).trans rfl
          have z7 := (QF.out.cell 7).trans rfl
          have z8 := (QF.out.cell 8).trans rfl
          have z9 := (QF.out.cell 9).trans rfl
          have z10 := (QF.out.cell 10).trans rfl
          have z11 := (QF.out.cell 11).trans rfl
          have z12 := (QF.out.cell 12).trans rfl
          have z13 := (QF.out.cell 13).trans rfl
          refine bodyPost_ret (v := .tuple #[.agg #[(.int .i64 0), (.int .i64 0), (.int .u64 0), (.int .i64 0), (.int .i64 0), (.int .i64 0), (.int .u64 0), (.int .i64 0), (.int .i64 0), (.int .i64 0), (.int .i64 0), (.slice none 0 0), (.int .u64 0), (.int .i64 0)], .bool false]) (by simp [results, Try.results102, go_sem, z66, z0, z1, z2, z3, z4, z5, z6, z7, z8, z9, z10, z11, z12, z13]) rfl ?_
          refine ⟨none, 0, 0, ?_, Nat.le_refl _, (fun ad h => nomatch h), ?_, ?_, QF.out.mod, ?_⟩
          · rw [EG.out]; rfl
          · rw [EG.out]; exact nil_reads
          · rw [EG.out]; exact Rp.zero_ok
          · rw [EG.out]; exact QF.out.rdr

end Go.Proofs.Ytabdjehnglmlpaa
end

section
/- ReplyReads: the walk. -/
namespace Go.Proofs.Ytabdjehnglmlpaa
open Go.RowKit Go.Proofs.YtabdjehnglmlpaaW.PrintWords
set_option linter.unusedVariables false
set_option linter.unusedSimpArgs false
attribute [local irreducible] wpStill

theorem Ref.born {w0 w : World} {A : Option Addr} {n c : Nat} {xs : List Int} (hB : Below w0.heap.size w0 w) (hr : Kd.C (Kd.int .u8) w0 A n xs) (hc : n ≤ c) :
    Ref w0 (w.alloc (.cells #[.slice A n c, .bool false] 89)) w.heap.size xs false := by
  obtain rfl : xs.length = n := hr.1
  exact ⟨A, c, by simpa using heap_alloc_new w _, hB.size, hc, hr⟩
theorem rpGet_byt {s : Rs} (h : Byt s.1) : Byt (rpGet s).2.1 := by
  have hl : ∀ k (s : Rs), Byt s.1 → Byt (rpLoop k s).2.1 := fun k => by
    induction k with
    | zero => intro s h; exact h
    | succ k ih => intro s h; exact rNum_byt (ih s h) _
  unfold rpGet
  simp only
  split
  · exact Byt.nil
  · unfold rpRead
    simp only
    refine rNum_byt (rNum_byt (hl _ _ (rNum_byt ?_ _)) _) _
    unfold rpTk
    split
    · exact tkGet_byt (rFlag_byt (rInt_byt (rNum_byt h _)))
    · exact rFlag_byt (rInt_byt (rNum_byt h _))
theorem rpGet_64 {s : Rs} (h : Byt s.1) : (rpGet s).1.1.fired.length ≤ 64 := by
  unfold rpGet
  simp only
  split
  · exact Nat.zero_le _
  · rename_i hc
    simp only [Bool.or_eq_true, Bool.not_eq_true', not_or, Bool.not_eq_true, Bool.not_eq_false] at hc
    exact (of_decide_eq_true hc.2).2.2.2.2.1

set_option maxRecDepth 100000 in
set_option maxHeartbeats 8000000 in
theorem ReplyReads_small {w : World} {A : Option Addr} {n c : Nat} {xs : List Int} (hr : Kd.C (Kd.int .u8) w A n xs) (hc : n ≤ c) (hn : n ≤ 3000) (hb : Byt xs) :
    Calls Try.prog 19 #[.slice A n c] w fun e w' => e = .returned (.bool true) ∧ Below w.heap.size w w' := by
  have R0 := Lib.hid hr
  have HY := Lib.hid hb
  have HLn : Hid (xs.length = n) := hr.1
  have b1 : decide (3000 < (n : Int)) = false := decide_eq_false (by omega)
  have hO := Lib.hid (Open_any (Below.refl w.heap.size w) R0.out hc)
  rcases hq : rpGet (xs, false) with ⟨⟨r, ok⟩, ys, bad⟩
  have h64 := rpGet_64 (s := (xs, false)) hb
  rw [hq] at h64
  have HGood := Lib.hid (rpGet_good (xs := xs) (ys := ys) (r := r) (c := bad) hb)
  have HQ := Lib.hid hq
  simp only at h64
  clear hr hb hq
  go_enter Try.func19, Try.ntmps19
  go_wp2_with fail
  with_reducible refine hO.out.mono ?_
  rintro e w1 ⟨rfl, hR, hb⟩
  have B1 := Lib.hid (hb.alloc hb.size (.cells #[.slice A n c, .bool false] 89))
  have R1 := Lib.hid (hR.alloc (.cells #[.slice A n c, .bool false] 89))
  have F1 := Lib.hid (Ref.born hb R0.out hc)
  have hsz1 : w.heap.size < w1.heap.size := hR.ge.2
  clear hO hR hb
  go_wp2_with fail
  have HRd := rread_calls B1.out R1.out HY.out B1.out.size
  rw [HQ.out] at HRd
  have HRD := Lib.hid HRd
  clear HRd
  with_reducible refine HRD.out.mono ?_
  rintro e w2 ⟨A4, n4, c4, rfl, hc4, hf4, hC4, hok, hm, hr⟩
  have OKr := Lib.hid hok
  have hn4 : n4 ≤ 64 := by have := hC4.1; simp only at this; omega
  have B2 := Lib.hid ((R1.out.base B1.out hm).alloc (R1.out.base B1.out hm).size (.cells #[.int .i64 r.code, .int .i64 r.time, .int .u64 r.tk.id, .int .i64 r.tk.contract, .int .i64 r.tk.state, .int .i64 r.tk.level, .int .u64 r.tk.gen, .int .i64 r.tk.frm, .int .i64 r.tk.left, .int .i64 r.tk.due, .int .i64 r.tk.told, .slice A4 n4 c4, .int .u64 r.notice, .int .i64 r.dead] 66))
  have R2 := Lib.hid (hr.alloc (.cells #[.int .i64 r.code, .int .i64 r.time, .int .u64 r.tk.id, .int .i64 r.tk.contract, .int .i64 r.tk.state, .int .i64 r.tk.level, .int .u64 r.tk.gen, .int .i64 r.tk.frm, .int .i64 r.tk.left, .int .i64 r.tk.due, .int .i64 r.tk.told, .slice A4 n4 c4, .int .u64 r.notice, .int .i64 r.dead] 66))
  have F2 := Lib.hid ((F1.out.keep hm (by omega)).alloc (.cells #[.int .i64 r.code, .int .i64 r.time, .int .u64 r.tk.id, .int .i64 r.tk.contract, .int .i64 r.tk.state, .int .i64 r.tk.level, .int .u64 r.tk.gen, .int .i64 r.tk.frm, .int .i64 r.tk.left, .int .i64 r.tk.due, .int .i64 r.tk.told, .slice A4 n4 c4, .int .u64 r.notice, .int .i64 r.dead] 66))
  have hsz2 : w1.heap.size < w2.heap.size := (F1.out.keep hm (by omega)).ge.2
  have K2 : Hid ((w2.alloc (.cells #[.int .i64 r.code, .int .i64 r.time, .int .u64 r.tk.id, .int .i64 r.tk.contract, .int .i64 r.tk.state, .int .i64 r.tk.level, .int .u64 r.tk.gen, .int .i64 r.tk.frm, .int .i64 r.tk.left, .int .i64 r.tk.due, .int .i64 r.tk.told, .slice A4 n4 c4, .int .u64 r.notice, .int .i64 r.dead] 66)).heap[w2.heap.size]? = some (.cells #[.int .i64 r.code, .int .i64 r.time, .int .u64 r.tk.id, .int .i64 r.tk.contract, .int .i64 r.tk.state, .int .i64 r.tk.level, .int .u64 r.tk.gen, .int .i64 r.tk.frm, .int .i64 r.tk.left, .int .i64 r.tk.due, .int .i64 r.tk.told, .slice A4 n4 c4, .int .u64 r.notice, .int .i64 r.dead] 66)) := heap_alloc_new w2 _
  have C2 := Lib.hid (Kd.C_below hC4 ((Below.refl w2.heap.size w2).alloc (Nat.le_refl _) (.cells #[.int .i64 r.code, .int .i64 r.time, .int .u64 r.tk.id, .int .i64 r.tk.contract, .int .i64 r.tk.state, .int .i64 r.tk.level, .int .u64 r.tk.gen, .int .i64 r.tk.frm, .int .i64 r.tk.left, .int .i64 r.tk.due, .int .i64 r.tk.told, .slice A4 n4 c4, .int .u64 r.notice, .int .i64 r.dead] 66)))
  clear hok hm hr hC4 HRD R1 F1 B1
  simp only [Rp.val]
  go_wp2_with fail
  have HRd := rrread_calls B2.out F2.out HY.out B2.out.size
  rw [HQ.out] at HRd
  have HRD := Lib.hid HRd
  clear HRd
  with_reducible refine HRD.out.mono ?_
  rintro e w3 ⟨A5, n5, c5, rfl, hc5, -, hC5, -, hm, hr⟩
  have hn5 : n5 ≤ 64 := by have := hC5.1; simp only at this; omega
  have B3 := Lib.hid ((F2.out.base B2.out hm).alloc (F2.out.base B2.out hm).size (.cells #[.int .i64 r.code, .int .i64 r.time, .int .u64 r.tk.id, .int .i64 r.tk.contract, .int .i64 r.tk.state, .int .i64 r.tk.level, .int .u64 r.tk.gen, .int .i64 r.tk.frm, .int .i64 r.tk.left, .int .i64 r.tk.due, .int .i64 r.tk.told, .slice A5 n5 c5, .int .u64 r.notice, .int .i64 r.dead] 66)).drew
  have F3 := Lib.hid (hr.alloc (.cells #[.int .i64 r.code, .int .i64 r.time, .int .u64 r.tk.id, .int .i64 r.tk.contract, .int .i64 r.tk.state, .int .i64 r.tk.level, .int .u64 r.tk.gen, .int .i64 r.tk.frm, .int .i64 r.tk.left, .int .i64 r.tk.due, .int .i64 r.tk.told, .slice A5 n5 c5, .int .u64 r.notice, .int .i64 r.dead] 66))
  have R3 := Lib.hid ((R2.out.keep hm (by omega)).alloc (.cells #[.int .i64 r.code, .int .i64 r.time, .int .u64 r.tk.id, .int .i64 r.tk.contract, .int .i64 r.tk.state, .int .i64 r.tk.level, .int .u64 r.tk.gen, .int .i64 r.tk.frm, .int .i64 r.tk.left, .int .i64 r.tk.due, .int .i64 r.tk.told, .slice A5 n5 c5, .int .u64 r.notice, .int .i64 r.dead] 66))
  have K3 := Lib.hid (blk_alloc (hm.blk K2.out (by omega)) (.cells #[.int .i64 r.code, .int .i64 r.time, .int .u64 r.tk.id, .int .i64 r.tk.contract, .int .i64 r.tk.state, .int .i64 r.tk.level, .int .u64 r.tk.gen, .int .i64 r.tk.frm, .int .i64 r.tk.left, .int .i64 r.tk.due, .int .i64 r.tk.told, .slice A5 n5 c5, .int .u64 r.notice, .int .i64 r.dead] 66))
  have hsz3 : w2.heap.size < w3.heap.size := blk_lt (hm.blk K2.out (by omega))
  have K3b : Hid ((w3.alloc (.cells #[.int .i64 r.code, .int .i64 r.time, .int .u64 r.tk.id, .int .i64 r.tk.contract, .int .i64 r.tk.state, .int .i64 r.tk.level, .int .u64 r.tk.gen, .int .i64 r.tk.frm, .int .i64 r.tk.left, .int .i64 r.tk.due, .int .i64 r.tk.told, .slice A5 n5 c5, .int .u64 r.notice, .int .i64 r.dead] 66)).heap[w3.heap.size]? = some (.cells #[.int .i64 r.code, .int .i64 r.time, .int .u64 r.tk.id, .int .i64 r.tk.contract, .int .i64 r.tk.state, .int .i64 r.tk.level, .int .u64 r.tk.gen, .int .i64 r.tk.frm, .int .i64 r.tk.left, .int .i64 r.tk.due, .int .i64 r.tk.told, .slice A5 n5 c5, .int .u64 r.notice, .int .i64 r.dead] 66)) := heap_alloc_new w3 _
  have hff : ∀ ad, A4 = some ad → w1.heap.size + 1 ≤ ad.block := fun ad h => by have := hf4 ad h; simpa using this
  have C3 := Lib.hid (Kd.C_below (C_mod C2.out hm (fun ad e h => by have := hff ad e; omega)) ((Below.refl w3.heap.size w3).alloc (Nat.le_refl _) (.cells #[.int .i64 r.code, .int .i64 r.time, .int .u64 r.tk.id, .int .i64 r.tk.contract, .int .i64 r.tk.state, .int .i64 r.tk.level, .int .u64 r.tk.gen, .int .i64 r.tk.frm, .int .i64 r.tk.left, .int .i64 r.tk.due, .int .i64 r.tk.told, .slice A5 n5 c5, .int .u64 r.notice, .int .i64 r.dead] 66)))
  have C3b := Lib.hid (Kd.C_below hC5 ((Below.refl w3.heap.size w3).alloc (Nat.le_refl _) (.cells #[.int .i64 r.code, .int .i64 r.time, .int .u64 r.tk.id, .int .i64 r.tk.contract, .int .i64 r.tk.state, .int .i64 r.tk.level, .int .u64 r.tk.gen, .int .i64 r.tk.frm, .int .i64 r.tk.left, .int .i64 r.tk.due, .int .i64 r.tk.told, .slice A5 n5 c5, .int .u64 r.notice, .int .i64 r.dead] 66)))
  clear hm hr hC5 HRD R2 F2 B2 K2 C2 hf4 hff HY
  simp only [Rp.val]
  go_upto_region 6 with fail
  go_cut [57] (fun s57 wx => s57 = .bool false ∧ Hid (Below w.heap.size w wx) ∧ Hid (Rdr w wx w.heap.size ys bad) ∧ Hid (wx.heap[w2.heap.size]? = some (.cells #[.int .i64 r.code, .int .i64 r.time, .int .u64 r.tk.id, .int .i64 r.tk.contract, .int .i64 r.tk.state, .int .i64 r.tk.level, .int .u64 r.tk.gen, .int .i64 r.tk.frm, .int .i64 r.tk.left, .int .i64 r.tk.due, .int .i64 r.tk.told, .slice A4 n4 c4, .int .u64 r.notice, .int .i64 r.dead] 66)) ∧ Hid (Kd.C (Kd.int .u64) wx A4 n4 r.fired))
  case first =>
    refine wp_parts (by kernel_rfl) rfl ?_
    have P0 := Lib.hid (show (w3.alloc (.cells #[.int .i64 r.code, .int .i64 r.time, .int .u64 r.tk.id, .int .i64 r.tk.contract, .int .i64 r.tk.state, .int .i64 r.tk.level, .int .u64 r.tk.gen, .int .i64 r.tk.frm, .int .i64 r.tk.left, .int .i64 r.tk.due, .int .i64 r.tk.told, .slice A5 n5 c5, .int .u64 r.notice, .int .i64 r.dead] 66)).drew.heap[w2.heap.size]? = _ from K3.out)
    have P1 := Lib.hid (show (w3.alloc (.cells #[.int .i64 r.code, .int .i64 r.time, .int .u64 r.tk.id, .int .i64 r.tk.contract, .int .i64 r.tk.state, .int .i64 r.tk.level, .int .u64 r.tk.gen, .int .i64 r.tk.frm, .int .i64 r.tk.left, .int .i64 r.tk.due, .int .i64 r.tk.told, .slice A5 n5 c5, .int .u64 r.notice, .int .i64 r.dead] 66)).drew.heap[w3.heap.size]? = _ from K3b.out)
    have x0 := blk_cell P0.out 0; have y0 := blk_cell P1.out 0
    have x1 := blk_cell P0.out 1; have y1 := blk_cell P1.out 1
    have x2 := blk_cell P0.out 2; have y2 := blk_cell P1.out 2
    have x3 := blk_cell P0.out 3; have y3 := blk_cell P1.out 3
    have x4 := blk_cell P0.out 4; have y4 := blk_cell P1.out 4
    have x5 := blk_cell P0.out 5; have y5 := blk_cell P1.out 5
    have x6 := blk_cell P0.out 6; have y6 := blk_cell P1.out 6
    have x7 := blk_cell P0.out 7; have y7 := blk_cell P1.out 7
    have x8 := blk_cell P0.out 8; have y8 := blk_cell P1.out 8
    have x9 := blk_cell P0.out 9; have y9 := blk_cell P1.out 9
    have x10 := blk_cell P0.out 10; have y10 := blk_cell P1.out 10
    have x11 := blk_cell P0.out 11; have y11 := blk_cell P1.out 11
    have x12 := blk_cell P0.out 12; have y12 := blk_cell P1.out 12
    have x13 := blk_cell P0.out 13; have y13 := blk_cell P1.out 13
    refine wpAny_part (k := 0) (n := 6) (g := 22) rfl (by kernel_rfl) (by kernel_rfl) (by decide) (by kernel_rfl) (by kernel_rfl) ?_ (by rfl)
    simp only [List.drop_zero, Nat.sub_zero, List.take_succ_cons, List.take_zero]
    iterate 6 still_step
    refine wpStill_nil ?_
    clear x0 y0 x1 y1 x2 y2 x3 y3 x4 y4 x5 y5 x6 y6 x7 y7 x8 y8 x9 y9 x10 y10 x11 y11 x12 y12 x13 y13
    refine wpAny_gate (f := 21) (by kernel_rfl) rfl (fun K hK => ?_)
    have HS := Lib.hid (rrpSame_calls (r := r) (s := r) (A := A4) (n := n4) (c := c4) (A2 := A5) (n2 := n5) (c2 := c5) (w := (w3.alloc (.cells #[.int .i64 r.code, .int .i64 r.time, .int .u64 r.tk.id, .int .i64 r.tk.contract, .int .i64 r.tk.state, .int .i64 r.tk.level, .int .u64 r.tk.gen, .int .i64 r.tk.frm, .int .i64 r.tk.left, .int .i64 r.tk.due, .int .i64 r.tk.told, .slice A5 n5 c5, .int .u64 r.notice, .int .i64 r.dead] 66)).drew) (Kd.C_below C3.out (Below.refl _ _).drew) hc4 (by omega) (Kd.C_below C3b.out (Below.refl _ _).drew) hc5 (by omega))
    simp only [Rp.val, rpEq_self] at HS
    go_simp
    go_wp2_with fail
    with_reducible refine HS.out.mono ?_
    rintro e w4 ⟨rfl, hb⟩
    have B4 := Lib.hid (B3.out.trans (hb.mono B3.out.size))
    have R4 := Lib.hid (R3.out.drew.keep (Mod.of_below (S := fun _ => False) hb) (fun h => h))
    have F4 := Lib.hid ((show Ref w (w3.alloc (.cells #[.int .i64 r.code, .int .i64 r.time, .int .u64 r.tk.id, .int .i64 r.tk.contract, .int .i64 r.tk.state, .int .i64 r.tk.level, .int .u64 r.tk.gen, .int .i64 r.tk.frm, .int .i64 r.tk.left, .int .i64 r.tk.due, .int .i64 r.tk.told, .slice A5 n5 c5, .int .u64 r.notice, .int .i64 r.dead] 66)).drew w1.heap.size ys bad from F3.out).keep (Mod.of_below (S := fun _ => False) hb) (fun h => h))
    have K4 := Lib.hid (blk_below P0.out hb)
    have C4 := Lib.hid (Kd.C_below (Kd.C_below C3.out (Below.refl _ _).drew) hb)
    obtain ⟨Af, cf, r0, r1, -, -, -, -⟩ := F4.out.cells
    clear hb HS P0 P1
    go_wp2_with fail
    refine wpAny_last (k := 7) rfl (by kernel_rfl) (by kernel_rfl) ?_ (by rfl)
    simp only [List.drop_succ_cons, List.drop_zero]
    iterate 4 still_step
    still_call (Left_calls R4.out)
    iterate 9 still_step
    still_call (Bad_calls R4.out)
    iterate 6 still_step
    refine wpStill_nil ?_
    go_wp2_with fail
    go_meet
    exact ⟨rfl, B4.out, R4.out, K4.out, C4.out⟩
  case rest =>
    clear C3 C3b K3 K3b R3 F3 B3
    obtain ⟨rfl, B5, R5, K5, C5⟩ := hcut
    have hgood := HGood.out
    rw [HQ.out] at hgood
    cases ok
    · go_wp2_with fail
      with_reducible refine (lives19_calls _).mono ?_
      rintro e w6 ⟨rfl, hb⟩
      have B6 := Lib.hid (B5.out.trans (hb.mono B5.out.size)); clear hb
      go_wp2
      go_ret
      exact ⟨rfl, B6.out⟩
    · obtain ⟨-, hso, hen⟩ := hgood rfl
      obtain ⟨ek, hk⟩ := take_of_append hen
      have hk2 : ys.length ≤ n := by have := HLn.out; omega
      have hrx : Kd.C (Kd.int .u8) w A xs.length xs := by rw [HLn.out]; exact R0.out
      obtain ⟨hcut, hCT⟩ := cut_head (m := n - ys.length) (c := c) hrx (by have := HLn.out; omega) (by have := HLn.out; omega)
      rw [HLn.out] at hcut ek
      rw [ek] at hCT
      have CT := Lib.hid hCT
      have HB := Lib.hid (rbytes_yes wc r OKr.out hso C5.out (c := c4))
      simp only [Rp.val] at HB
      have x0 := blk_cell K5.out 0
      have x1 := blk_cell K5.out 1
      have x2 := blk_cell K5.out 2
      have x3 := blk_cell K5.out 3
      have x4 := blk_cell K5.out 4
      have x5 := blk_cell K5.out 5
      have x6 := blk_cell K5.out 6
      have x7 := blk_cell K5.out 7
      have x8 := blk_cell K5.out 8
      have x9 := blk_cell K5.out 9
      have x10 := blk_cell K5.out 10
      have x11 := blk_cell K5.out 11
      have x12 := blk_cell K5.out 12
      have x13 := blk_cell K5.out 13
      clear hgood ek hCT hrx hk hen hso
      go_wp2_with fail
      with_reducible refine HB.out.mono ?_
      rintro e w6 ⟨A6, n6, c6, rfl, hc6, hC6, hb⟩
      have B6 := Lib.hid (B5.out.trans (hb.mono B5.out.size)).drew
      have R6 := Lib.hid (R5.out.keep (Mod.of_below (S := fun _ => False) hb) (fun h => h)).drew
      obtain ⟨SE, hSE⟩ : ∃ s, strOfNums (rpEnc r) = s := ⟨_, rfl⟩
      have hcv := conv_str (c := c6) (w := w6.drew) (A := A6) (n := n6) (xs := rpEnc r) (Kd.C_below hC6 (Below.refl _ _).drew)
      have hcv2 := conv_str (c := c) (Kd.C_below CT.out B6.out)
      rw [hSE] at hcv hcv2
      have hq1 : IntKind.i64.wrap ((n : Int) - ys.length) = ((n - ys.length : Nat) : Int) := by rw [IntWalk.i64_in _ (by omega)]; omega
      clear hb hC6 HB hSE x0 x1 x2 x3 x4 x5 x6 x7 x8 x9 x10 x11 x12 x13
      go_wp2_with fail
      refine wp_parts (by kernel_rfl) rfl ?_
      refine wpAny_part (k := 0) (n := 16) (g := 3) rfl (by kernel_rfl) (by kernel_rfl) (by decide) (by kernel_rfl) (by kernel_rfl) ?_ (by rfl)
      simp only [List.drop_zero, Nat.sub_zero, List.take_succ_cons, List.take_zero]
      iterate 9 still_step
      still_call (Left_calls R6.out)
      iterate 6 still_step
      refine wpStill_nil ?_
      refine wpAny_gate (f := 2) (by kernel_rfl) rfl (fun K hK => ?_)
      go_simp
      go_wp2_with fail
      with_reducible refine (lives19_calls _).mono ?_
      rintro e w7 ⟨rfl, hb⟩
      have B7 := Lib.hid (B6.out.trans (hb.mono B6.out.size)); clear hb
      go_wp2_with fail
      refine wpAny_last (k := 17) rfl (by kernel_rfl) (by kernel_rfl) ?_ (by rfl)
      simp only [List.drop_succ_cons, List.drop_zero]
      iterate 2 still_step
      refine wpStill_nil ?_
      go_wp2
      go_ret
      exact ⟨rfl, B7.out⟩

set_option maxRecDepth 100000 in
set_option maxHeartbeats 1000000 in
theorem ReplyReads_big {w : World} {A : Option Addr} {n c : Nat} (h : 3000 < n) (hm : n ≤ 9223372036854775807) :
    Calls Try.prog 19 #[.slice A n c] w fun e w' => e = .returned (.bool true) ∧ Below w.heap.size w w' := by
  have b1 : decide (3000 < (n : Int)) = true := decide_eq_true (by omega)
  go_enter Try.func19, Try.ntmps19
  go_wp2_with fail
  with_reducible refine (lives19_calls _).mono ?_
  rintro e w6 ⟨rfl, hb⟩
  have B6 := Lib.hid hb; clear hb
  go_wp2
  go_ret
  exact ⟨rfl, B6.out⟩
theorem ReplyReads_walk {w : World} {A : Option Addr} {n c : Nat} {xs : List Int} (hr : Kd.C (Kd.int .u8) w A n xs) (hc : n ≤ c) (hy : n * 1 ≤ 140737488351232) (hw : ∀ x ∈ xs, (Lit.int .u8 x).wf = true) :
    Calls Try.prog 19 #[.slice A n c] w fun e w' => e = .returned (.bool true) ∧ Below w.heap.size w w' := by
  by_cases h : 3000 < n
  · exact ReplyReads_big h (by omega)
  · exact ReplyReads_small hr hc (by omega) (byt_of_wf hw)

end Go.Proofs.Ytabdjehnglmlpaa
end
