/- One text out of Pg, Pt. -/
import Derived.Test.YtabdjehnglmlpaaXb
import Derived.Test.YtabdjehnglmlpaaXg
import Derived.Test.YtabdjehnglmlpaaXa
import Derived.Test.YtabdjehnglmlpaaTa
import Derived.Deep.Slices
import Derived.SizedLaws
import Derived.OpenShut
section
/- The reference's bytes of a reply. -/
namespace Go.Proofs.Ytabdjehnglmlpaa
open Go.RowKit Go.Proofs.YtabdjehnglmlpaaW.PrintWords
set_option linter.unusedVariables false
set_option linter.unusedSimpArgs false

/-- A row of bytes of the call's own, and the boxed argument. -/
structure RPt (w0 W : World) (v : Value) (xs : List Int) (cs : Array Value) (t : Nat) : Prop where
  own : OwnB W w0.heap.size v xs
  box : W.heap[w0.heap.size]? = some (.cells cs t (0, 0))
  bel : Below w0.heap.size w0 W
  ne : t ≠ 5
section
variable {w0 W W' : World} {v v' : Value} {xs ys : List Int} {cs : Array Value} {t : Nat}
theorem RPt.new (w0 : World) (cs : Array Value) (t : Nat) (ht : t ≠ 5) : RPt w0 (w0.alloc (.cells cs t)) (.slice none 0 0) [] cs t :=
  ⟨OwnB.nil _ _, heap_alloc_new w0 _, (Below.refl _ _).alloc (Nat.le_refl _) _, ht⟩
theorem RPt.below (h : RPt w0 W v xs cs t) (hb : Below W.heap.size W W') : RPt w0 W' v xs cs t :=
  ⟨own_move h.own (fun k hk => hb.block k (own_lt h.own k hk)), blk_below h.box hb, h.bel.trans (hb.mono h.bel.size), h.ne⟩
theorem RPt.drew (h : RPt w0 W v xs cs t) : RPt w0 W.drew v xs cs t := ⟨h.own, h.box, h.bel.drew, h.ne⟩
theorem RPt.first (h : RPt w0 W v xs cs t) {ok : Nat → Prop} (hv : Kd.R (Kd.int .u8) 5 W' W.heap.size ok v' ys) (hb : Below W.heap.size W W') : RPt w0 W' v' ys cs t :=
  ⟨OwnB.lower (Kd.own_of_R (enc := Value.int .u8) hv) h.bel.size, (h.below hb).box, (h.below hb).bel, h.ne⟩
theorem RPt.append (h : RPt w0 W v xs cs t) (hg : W.grownBy W' v.ownBlock) (ho : OwnB W' w0.heap.size v' ys) : RPt w0 W' v' ys cs t :=
  ⟨ho, blk_grown h.box hg (own_ne h.own h.box (Ne.symm h.ne)), h.bel.trans ((Below.refl _ _).grown hg h.bel.size (own_base h.own)), h.ne⟩
theorem RPt.cell (h : RPt w0 W v xs cs t) (i : Nat) : W.cell? ⟨w0.heap.size, i, none⟩ = cs[i]? := blk_cell h.box i
end

set_option maxRecDepth 100000 in
set_option maxHeartbeats 8000000 in
theorem rrput_calls (w : World) (r : Rp) (ho : r.ok) (hs : rpSound r = true) {A : Option Addr} {n c : Nat} (hf : Kd.C (Kd.int .u64) w A n r.fired) :
    Calls Try.prog 101 #[r.val A n c] w fun e w' => ∃ v, e = .returned v ∧ OwnB w' w.heap.size v (rpEnc r) ∧ Below w.heap.size w w' := by
  have hnl : r.fired.length = n := hf.1
  obtain ⟨code, time, tk, fired, notice, dead⟩ := r
  have hso := of_decide_eq_true hs
  obtain ⟨z1, z2, z3, z4, z5, z6, z7, z8⟩ := hso
  obtain ⟨-, -, hk, hfu, ⟨n0, n1⟩, -⟩ := ho
  simp only at z1 z2 z3 z4 z5 z6 z7 z8 hk hfu n0 n1 hnl hf
  have hn64 : n ≤ 64 := by omega
  have HRN := Lib.hid (fun W => run_none W tk)
  have HTP := Lib.hid (fun (W : World) (hq : tkSound tk = true) => rtput_calls W tk hk hq)
  have HFU := Lib.hid hfu
  have HE : Hid (rpEnc ⟨code, time, tk, fired, notice, dead⟩ = encN code 0 ++ (encI time ++ (encF (!tkNone tk) ++ ((if tkNone tk then [] else tkEnc tk) ++ (encN n 0 ++ (encNs fired ++ encNs [notice, dead])))))) := by rw [← hnl]; rfl
  have HNL := Lib.hid hnl
  have HF0 := Lib.hid hf
  have hl1 := encN_len code 0
  have hl2 := encI_len time
  have hl3 : (encF (!tkNone tk)).length ≤ 9 := encN_len _ 0
  have hl4 : (tkEnc tk).length ≤ 81 := encNs_len (tkNums tk)
  have hl5 := encN_len (n : Int) 0
  have hl6 : (encNs fired).length ≤ 576 := by have := encNs_len fired; omega
  have hl7 := encN_len notice 0
  have hl8 := encN_len dead 0
  have Z8 := Lib.hid z8
  have hq0 : IntKind.u64.wrap code = code := IntWalk.u64_in code ⟨by omega, by omega⟩
  have P0 := Lib.hid (RPt.new w #[.int .i64 code, .int .i64 time, .int .u64 tk.id, .int .i64 tk.contract, .int .i64 tk.state, .int .i64 tk.level, .int .u64 tk.gen, .int .i64 tk.frm, .int .i64 tk.left, .int .i64 tk.due, .int .i64 tk.told, .slice A n c, .int .u64 notice, .int .i64 dead] 66 (by decide)).drew
  clear hf hk hfu hnl hs z8
  simp only [Rp.val]
  unfold Tk.val at HTP
  go_enter Try.func101, Try.ntmps101
  go_wp2_with fail
  go_upto_region 1 with fail
  go_cut [3] (fun s3 wx => Hid (RPt w wx s3 (encN code 0 ++ encI time) #[.int .i64 code, .int .i64 time, .int .u64 tk.id, .int .i64 tk.contract, .int .i64 tk.state, .int .i64 tk.level, .int .u64 tk.gen, .int .i64 tk.frm, .int .i64 tk.left, .int .i64 tk.due, .int .i64 tk.told, .slice A n c, .int .u64 notice, .int .i64 dead] 66))
  case first =>
    refine wp_region_any (by kernel_rfl) ?_
    try (change wpAny _ _ _ _ _ _ _ (World.drew _))
    have k0 := P0.out.cell 0
    have k1 := P0.out.cell 1
    refine wpAny_take (i := 0) (v := ?_) rfl (by kernel_rfl) (by kernel_rfl) (by kernel_rfl) (fun _ _ _ h => h) (Or.inl ⟨by rfl, ?_⟩) ?_
    rotate_left
    · intro w; go_simp; try with_reducible rfl
    refine wpAny_take (i := 4) (v := ?_) rfl (by kernel_rfl) (by kernel_rfl) (by kernel_rfl) (fun _ _ _ h => h) (Or.inl ⟨by rfl, ?_⟩) ?_
    rotate_left
    · intro w; go_simp; try with_reducible rfl
    refine wpAny_lay (fun K hK => ?_)
    go_simp
    refine hK _ _ ?_
    clear hK K
    refine wpAny_ready (rs := [1, 5]) (by kernel_rfl) (by simp) ?_
    refine AllReady.cons rfl (fun K hK => ?wa) (AllReady.cons rfl (fun K hK => ?wb) AllReady.nil)
    case' wa =>
      go_simp
      refine hK _ _ ?_
      clear hK K
      refine wpAny_take (i := 2) (v := ?_) rfl (by kernel_rfl) (by kernel_rfl) (by kernel_rfl) (fun _ _ _ h => h) (Or.inl ⟨by rfl, ?_⟩) ?_
      rotate_left
      · intro w; go_simp; try with_reducible rfl
      refine wpAny_lay (fun K hK => ?_)
      go_simp
      refine hK _ _ ?_
      clear hK K
      refine wpAny_ready (rs := [3, 5]) (by kernel_rfl) (by simp) ?_
      refine AllReady.cons rfl (fun K hK => ?wc) (AllReady.cons rfl (fun K hK => ?wd) AllReady.nil)
    case' wc =>
      go_simp
      go_wp2_with fail
      with_reducible refine (RefNum_calls (by omega) (by omega)).mono ?_
      rintro e w1 ⟨v1, rfl, hv, hb⟩
      have P1 := Lib.hid (P0.out.first hv hb)
      have k1 := P1.out.cell 1
      clear hv hb
      go_wp2_with fail
      refine wpAny_ready (rs := [5]) (by kernel_rfl) (by simp) ?_
      refine AllReady.cons rfl (fun K hK => ?_) AllReady.nil
      go_simp
      refine hK _ _ ?_
      clear hK K

    case' wd =>
      go_simp
      refine hK _ _ ?_
      clear hK K
      refine wpAny_ready (rs := [3]) (by kernel_rfl) (by simp) ?_
      refine AllReady.cons rfl (fun K hK => ?_) AllReady.nil
      go_simp
      go_wp2_with fail
      with_reducible refine (RefNum_calls (by omega) (by omega)).mono ?_
      rintro e w1 ⟨v1, rfl, hv, hb⟩
      have P1 := Lib.hid (P0.out.first hv hb)
      have k1 := P1.out.cell 1
      clear hv hb
      go_wp2_with fail

    case' wb =>
      go_simp
      refine hK _ _ ?_
      clear hK K
      refine wpAny_ready (rs := [1]) (by kernel_rfl) (by simp) ?_
      refine AllReady.cons rfl (fun K hK => ?_) AllReady.nil
      go_simp
      refine hK _ _ ?_
      clear hK K
      refine wpAny_take (i := 2) (v := ?_) rfl (by kernel_rfl) (by kernel_rfl) (by kernel_rfl) (fun _ _ _ h => h) (Or.inl ⟨by rfl, ?_⟩) ?_
      rotate_left
      · intro w; go_simp; try with_reducible rfl
      refine wpAny_lay (fun K hK => ?_)
      go_simp
      refine hK _ _ ?_
      clear hK K
      refine wpAny_ready (rs := [3]) (by kernel_rfl) (by simp) ?_
      refine AllReady.cons rfl (fun K hK => ?_) AllReady.nil
      go_simp
      go_wp2_with fail
      with_reducible refine (RefNum_calls (by omega) (by omega)).mono ?_
      rintro e w1 ⟨v1, rfl, hv, hb⟩
      have P1 := Lib.hid (P0.out.first hv hb)
      have k1 := P1.out.cell 1
      clear hv hb
      go_wp2_with fail

    all_goals
      refine wpAny_ready (rs := [6]) (by kernel_rfl) (by simp) ?_
      refine AllReady.cons rfl (fun K hK => ?_) AllReady.nil
      go_simp
      go_wp2_with fail
      with_reducible refine (RefInt_calls (by omega) (by omega)).mono ?_
      rintro e w2 ⟨v2, rfl, hv, hb⟩
      obtain ⟨A2, n2, c2, rfl, -, hC2⟩ := Kd_any (w := w1) hv
      have hn2 : (encI time).length = n2 := hC2.1
      have P2 := Lib.hid (P1.out.below hb)
      have R2 := Lib.hid (Kd.reads_of_C (d := (0 : Int)) hC2)
      clear hv hb hC2
      go_wp2_with fail
      refine wpAny_ready (rs := [7]) (by kernel_rfl) (by simp) ?_
      refine AllReady.cons rfl (fun K hK => ?_) AllReady.nil
      refine step_append_row (w0 := w2) w.heap.size (by rfl) _ _ 22 5 .u8 1 (by rfl) Try.underlying22 info5 (by decide) _ (encN code 0) (encI time) A2 n2 c2 (by rfl) (by rfl) P2.out.own R2.out (Below.refl _ _) P2.out.bel.size (by omega) ?_
      intro v3 w3 hown hbel hgrow hat
      have P3 := Lib.hid (P2.out.append hgrow hown)
      clear hown hbel hgrow hat
      refine hK _ _ ?_
      clear hK K
      refine wpAny_take (i := 8) (v := ?_) rfl (by kernel_rfl) (by kernel_rfl) (by kernel_rfl) (fun _ _ _ h => h) (Or.inl ⟨by rfl, ?_⟩) ?_
      rotate_left
      · intro w; go_simp; try with_reducible rfl
      refine wpAny_done (by kernel_rfl) ?_ _
      go_wp2_with fail
      go_meet
      exact P3.out
  case rest =>
    clear P0 hq0
    have P3 := hcut
    clear hcut
    revert HE Z8 hl3
    have k2 := P3.out.cell 2; have k3 := P3.out.cell 3; have k4 := P3.out.cell 4; have k5 := P3.out.cell 5; have k6 := P3.out.cell 6; have k7 := P3.out.cell 7; have k8 := P3.out.cell 8; have k9 := P3.out.cell 9; have k10 := P3.out.cell 10
    have hrn := HRN.out
    cases hno : tkNone tk
    · intro HE hl3 Z8
      rw [hno] at hrn
      clear hno
      simp only [Bool.not_false, Bool.not_true] at HE hl3
      go_wp2_with fail
      with_reducible refine (RefFlag_calls).mono ?_
      rintro e w4 ⟨v4, rfl, hv, hb⟩
      obtain ⟨A4, n4, c4, rfl, -, hC4⟩ := Kd_any (w := w) hv
      have hn4 : _ = n4 := hC4.1
      have P4 := Lib.hid (P3.out.below hb)
      have R4 := Lib.hid (Kd.reads_of_C (d := (0 : Int)) hC4)
      clear hv hb hC4
      clear k2 k3 k4 k5 k6 k7 k8 k9 k10 P3 hrn
      go_wp2_with (at_builtin; refine print_append_row (w0 := w4) w.heap.size (by rfl) _ _ 22 5 .u8 1 (by rfl) Try.underlying22 info5 (by decide) _ (encN code 0 ++ encI time) (encF true) A4 n4 c4 (by rfl) (by rfl) P4.out.own R4.out (Below.refl _ _) P4.out.bel.size (by simp only [List.length_append]; omega) ?_; intro vx w5 hown hbel hgrow hat; obtain ⟨Ax, mx, cx, rfl⟩ := own_form hown; have P5 := Lib.hid (P4.out.append hgrow hown); clear hown hbel hgrow hat; have k2 := P5.out.cell 2; have k3 := P5.out.cell 3; have k4 := P5.out.cell 4; have k5 := P5.out.cell 5; have k6 := P5.out.cell 6; have k7 := P5.out.cell 7; have k8 := P5.out.cell 8; have k9 := P5.out.cell 9; have k10 := P5.out.cell 10)
      clear P4 R4 hn4
      with_reducible refine (HTP.out _ (Z8.out.resolve_left Bool.false_ne_true)).mono ?_
      rintro e w6 ⟨v4, rfl, hv, hb⟩
      obtain ⟨A6, n6, c6, rfl, -, hC4⟩ := hv.any
      have hn6 : _ = n6 := hC4.1
      have P5b := Lib.hid (P5.out.below hb)
      have R6 := Lib.hid (Kd.reads_of_C (d := (0 : Int)) hC4)
      clear hv hb hC4 k2 k3 k4 k5 k6 k7 k8 k9 k10 P5
      go_wp2_with (at_builtin; refine print_append_row (w0 := w6) w.heap.size (by rfl) _ _ 22 5 .u8 1 (by rfl) Try.underlying22 info5 (by decide) _ ((encN code 0 ++ encI time) ++ encF true) (tkEnc tk) A6 n6 c6 (by rfl) (by rfl) P5b.out.own R6.out (Below.refl _ _) P5b.out.bel.size (by simp only [List.length_append]; omega) ?_; intro vx w7 hown hbel hgrow hat; obtain ⟨Ax, mx, cx, rfl⟩ := own_form hown; have P6 := Lib.hid (P5b.out.append hgrow hown); clear hown hbel hgrow hat; have k11 := P6.out.cell 11)
      clear P5b R6 hn6
      with_reducible refine (RefNum_calls (by omega) (by omega)).mono ?_
      rintro e w8 ⟨v4, rfl, hv, hb⟩
      obtain ⟨A7, n7, c7, rfl, -, hC4⟩ := Kd_any (w := w) hv
      have hn7 : _ = n7 := hC4.1
      have P7 := Lib.hid (P6.out.below hb)
      have R7 := Lib.hid (Kd.reads_of_C (d := (0 : Int)) hC4)
      clear hv hb hC4
      clear k11 P6
      go_wp2_with (at_builtin; refine print_append_row (w0 := w8) w.heap.size (by rfl) _ _ 22 5 .u8 1 (by rfl) Try.underlying22 info5 (by decide) _ (((encN code 0 ++ encI time) ++ encF true) ++ tkEnc tk) (encN n 0) A7 n7 c7 (by rfl) (by rfl) P7.out.own R7.out (Below.refl _ _) P7.out.bel.size (by simp only [List.length_append]; omega) ?_; intro vx w9 hown hbel hgrow hat; obtain ⟨Ax, mx, cx, rfl⟩ := own_form hown; have P8 := Lib.hid (P7.out.append hgrow hown); clear hown hbel hgrow hat; have k11 := P8.out.cell 11)
      clear P7 R7 hn7 k11
      go_loopw [3, 5] (fun s3 i wr => ∃ (k : Nat), i = .int .i64 k ∧ k ≤ n ∧ Hid (RPt w wr s3 (((((encN code 0 ++ encI time) ++ encF true) ++ tkEnc tk) ++ encN n 0) ++ encNs (fired.take k)) #[.int .i64 code, .int .i64 time, .int .u64 tk.id, .int .i64 tk.contract, .int .i64 tk.state, .int .i64 tk.level, .int .u64 tk.gen, .int .i64 tk.frm, .int .i64 tk.left, .int .i64 tk.due, .int .i64 tk.told, .slice A n c, .int .u64 notice, .int .i64 dead] 66)) (fun _ i _ => n - (intOf i).toNat)
      case atStart => exact ⟨0, rfl, Nat.zero_le _, by unfold Hid; simpa [encNs] using P8.out⟩
      case round =>
        clear P8
        obtain ⟨k, rfl, hk, HP⟩ := hrel
        have hlk : (encNs (fired.take k)).length ≤ 576 := by have := encNs_len (fired.take k); rw [List.length_take] at this; omega
        have k11 := HP.out.cell 11
        by_cases hlt : k < n
        · obtain ⟨ad, rfl, hcell⟩ := Kd.at_int (Kd.C_below HF0.out HP.out.bel) k (by omega) (by omega)
          rw [Int.toNat_natCast] at hcell
          have hin := HFU.out _ (rd_mem fired k (by have := HNL.out; omega))
          have hen := Lib.hid (encNs_take fired k (by have := HNL.out; omega))
          revert hen
          generalize rd fired k = N1 at hcell hin ⊢
          intro hen
          obtain ⟨i0, i1⟩ := hin
          have hel := encN_len N1 0
          go_wp2_with fail
          with_reducible refine (RefNum_calls i0 i1).mono ?_
          rintro e w10 ⟨v4, rfl, hv, hb⟩
          obtain ⟨A10, n10, c10, rfl, -, hC4⟩ := Kd_any (w := w) hv
          have hn10 : _ = n10 := hC4.1
          have PA := Lib.hid (HP.out.below hb)
          have RA := Lib.hid (Kd.reads_of_C (d := (0 : Int)) hC4)
          clear hv hb hC4 HP k11 hcell
          go_wp2_with (at_builtin; refine print_append_row (w0 := w10) w.heap.size (by rfl) _ _ 22 5 .u8 1 (by rfl) Try.underlying22 info5 (by decide) _ (((((encN code 0 ++ encI time) ++ encF true) ++ tkEnc tk) ++ encN n 0) ++ encNs (fired.take k)) (encN N1 0) A10 n10 c10 (by rfl) (by rfl) PA.out.own RA.out (Below.refl _ _) PA.out.bel.size (by simp only [List.length_append]; omega) ?_; intro vx w11 hown hbel hgrow hat; obtain ⟨Ax, mx, cx, rfl⟩ := own_form hown; have PB := Lib.hid (PA.out.append hgrow hown); clear hown hbel hgrow hat)
          go_roundw
          case rel => exact ⟨k + 1, by go_num, by omega, by rw [hen.out, ← List.append_assoc]; exact PB.out⟩
          case measure => simp [intOf]; omega
        · obtain rfl : n = k := by omega
          have e1 : fired.take n = fired := List.take_of_length_le (by have := HNL.out; omega)
          rw [e1] at HP
          have k12 := HP.out.cell 12
          clear e1 hlk
          go_wp2_with fail
          with_reducible refine (RefNum_calls n0 n1).mono ?_
          rintro e w12 ⟨v4, rfl, hv, hb⟩
          obtain ⟨A12, n12, c12, rfl, -, hC4⟩ := Kd_any (w := w) hv
          have hn12 : _ = n12 := hC4.1
          have PC := Lib.hid (HP.out.below hb)
          have RC := Lib.hid (Kd.reads_of_C (d := (0 : Int)) hC4)
          clear hv hb hC4 HP k11 k12
          go_wp2_with (at_builtin; refine print_append_row (w0 := w12) w.heap.size (by rfl) _ _ 22 5 .u8 1 (by rfl) Try.underlying22 info5 (by decide) _ (((((encN code 0 ++ encI time) ++ encF true) ++ tkEnc tk) ++ encN n 0) ++ encNs fired) (encN notice 0) A12 n12 c12 (by rfl) (by rfl) PC.out.own RC.out (Below.refl _ _) PC.out.bel.size (by simp only [List.length_append]; omega) ?_; intro vx w13 hown hbel hgrow hat; obtain ⟨Ax, mx, cx, rfl⟩ := own_form hown; have PD := Lib.hid (PC.out.append hgrow hown); clear hown hbel hgrow hat; have k13 := PD.out.cell 13)
          clear PC RC hn12
          with_reducible refine (RefNum_calls (by omega) (by omega)).mono ?_
          rintro e w14 ⟨v4, rfl, hv, hb⟩
          obtain ⟨A14, n14, c14, rfl, -, hC4⟩ := Kd_any (w := w) hv
          have hn14 : _ = n14 := hC4.1
          have PE := Lib.hid (PD.out.below hb)
          have RE := Lib.hid (Kd.reads_of_C (d := (0 : Int)) hC4)
          clear hv hb hC4 k13 PD
          go_wp2_with (at_builtin; refine print_append_row (w0 := w14) w.heap.size (by rfl) _ _ 22 5 .u8 1 (by rfl) Try.underlying22 info5 (by decide) _ ((((((encN code 0 ++ encI time) ++ encF true) ++ tkEnc tk) ++ encN n 0) ++ encNs fired) ++ encN notice 0) (encN dead 0) A14 n14 c14 (by rfl) (by rfl) PE.out.own RE.out (Below.refl _ _) PE.out.bel.size (by simp only [List.length_append]; omega) ?_; intro vx w15 hown hbel hgrow hat; obtain ⟨Ax, mx, cx, rfl⟩ := own_form hown; have PG := Lib.hid (PE.out.append hgrow hown); clear hown hbel hgrow hat)
          go_ret
          refine ⟨_, rfl, ?_, PG.out.bel⟩
          have h9 := PG.out.own
          rw [HE.out]
          simp only [List.append_assoc] at h9
          simpa [encNs] using h9
    · intro HE hl3 Z8
      rw [hno] at hrn
      clear hno
      simp only [Bool.not_false, Bool.not_true] at HE hl3
      go_wp2_with fail
      with_reducible refine (RefFlag_calls).mono ?_
      rintro e w4 ⟨v4, rfl, hv, hb⟩
      obtain ⟨A4, n4, c4, rfl, -, hC4⟩ := Kd_any (w := w) hv
      have hn4 : _ = n4 := hC4.1
      have P4 := Lib.hid (P3.out.below hb)
      have R4 := Lib.hid (Kd.reads_of_C (d := (0 : Int)) hC4)
      clear hv hb hC4
      clear k2 k3 k4 k5 k6 k7 k8 k9 k10 P3 hrn
      go_wp2_with (at_builtin; refine print_append_row (w0 := w4) w.heap.size (by rfl) _ _ 22 5 .u8 1 (by rfl) Try.underlying22 info5 (by decide) _ (encN code 0 ++ encI time) (encF false) A4 n4 c4 (by rfl) (by rfl) P4.out.own R4.out (Below.refl _ _) P4.out.bel.size (by simp only [List.length_append]; omega) ?_; intro vx w6 hown hbel hgrow hat; obtain ⟨Ax, mx, cx, rfl⟩ := own_form hown; have P6 := Lib.hid (P4.out.append hgrow hown); clear hown hbel hgrow hat; have k11 := P6.out.cell 11)
      clear P4 R4 hn4
      with_reducible refine (RefNum_calls (by omega) (by omega)).mono ?_
      rintro e w8 ⟨v4, rfl, hv, hb⟩
      obtain ⟨A7, n7, c7, rfl, -, hC4⟩ := Kd_any (w := w) hv
      have hn7 : _ = n7 := hC4.1
      have P7 := Lib.hid (P6.out.below hb)
      have R7 := Lib.hid (Kd.reads_of_C (d := (0 : Int)) hC4)
      clear hv hb hC4
      clear k11 P6
      go_wp2_with (at_builtin; refine print_append_row (w0 := w8) w.heap.size (by rfl) _ _ 22 5 .u8 1 (by rfl) Try.underlying22 info5 (by decide) _ ((encN code 0 ++ encI time) ++ encF false) (encN n 0) A7 n7 c7 (by rfl) (by rfl) P7.out.own R7.out (Below.refl _ _) P7.out.bel.size (by simp only [List.length_append]; omega) ?_; intro vx w9 hown hbel hgrow hat; obtain ⟨Ax, mx, cx, rfl⟩ := own_form hown; have P8 := Lib.hid (P7.out.append hgrow hown); clear hown hbel hgrow hat; have k11 := P8.out.cell 11)
      clear P7 R7 hn7 k11
      go_loopw [3, 5] (fun s3 i wr => ∃ (k : Nat), i = .int .i64 k ∧ k ≤ n ∧ Hid (RPt w wr s3 ((((encN code 0 ++ encI time) ++ encF false) ++ encN n 0) ++ encNs (fired.take k)) #[.int .i64 code, .int .i64 time, .int .u64 tk.id, .int .i64 tk.contract, .int .i64 tk.state, .int .i64 tk.level, .int .u64 tk.gen, .int .i64 tk.frm, .int .i64 tk.left, .int .i64 tk.due, .int .i64 tk.told, .slice A n c, .int .u64 notice, .int .i64 dead] 66)) (fun _ i _ => n - (intOf i).toNat)
      case atStart => exact ⟨0, rfl, Nat.zero_le _, by unfold Hid; simpa [encNs] using P8.out⟩
      case round =>
        clear P8
        obtain ⟨k, rfl, hk, HP⟩ := hrel
        have hlk : (encNs (fired.take k)).length ≤ 576 := by have := encNs_len (fired.take k); rw [List.length_take] at this; omega
        have k11 := HP.out.cell 11
        by_cases hlt : k < n
        · obtain ⟨ad, rfl, hcell⟩ := Kd.at_int (Kd.C_below HF0.out HP.out.bel) k (by omega) (by omega)
          rw [Int.toNat_natCast] at hcell
          have hin := HFU.out _ (rd_mem fired k (by have := HNL.out; omega))
          have hen := Lib.hid (encNs_take fired k (by have := HNL.out; omega))
          revert hen
          generalize rd fired k = N1 at hcell hin ⊢
          intro hen
          obtain ⟨i0, i1⟩ := hin
          have hel := encN_len N1 0
          go_wp2_with fail
          with_reducible refine (RefNum_calls i0 i1).mono ?_
          rintro e w10 ⟨v4, rfl, hv, hb⟩
          obtain ⟨A10, n10, c10, rfl, -, hC4⟩ := Kd_any (w := w) hv
          have hn10 : _ = n10 := hC4.1
          have PA := Lib.hid (HP.out.below hb)
          have RA := Lib.hid (Kd.reads_of_C (d := (0 : Int)) hC4)
          clear hv hb hC4 HP k11 hcell
          go_wp2_with (at_builtin; refine print_append_row (w0 := w10) w.heap.size (by rfl) _ _ 22 5 .u8 1 (by rfl) Try.underlying22 info5 (by decide) _ ((((encN code 0 ++ encI time) ++ encF false) ++ encN n 0) ++ encNs (fired.take k)) (encN N1 0) A10 n10 c10 (by rfl) (by rfl) PA.out.own RA.out (Below.refl _ _) PA.out.bel.size (by simp only [List.length_append]; omega) ?_; intro vx w11 hown hbel hgrow hat; obtain ⟨Ax, mx, cx, rfl⟩ := own_form hown; have PB := Lib.hid (PA.out.append hgrow hown); clear hown hbel hgrow hat)
          go_roundw
          case rel => exact ⟨k + 1, by go_num, by omega, by rw [hen.out, ← List.append_assoc]; exact PB.out⟩
          case measure => simp [intOf]; omega
        · obtain rfl : n = k := by omega
          have e1 : fired.take n = fired := List.take_of_length_le (by have := HNL.out; omega)
          rw [e1] at HP
          have k12 := HP.out.cell 12
          clear e1 hlk
          go_wp2_with fail
          with_reducible refine (RefNum_calls n0 n1).mono ?_
          rintro e w12 ⟨v4, rfl, hv, hb⟩
          obtain ⟨A12, n12, c12, rfl, -, hC4⟩ := Kd_any (w := w) hv
          have hn12 : _ = n12 := hC4.1
          have PC := Lib.hid (HP.out.below hb)
          have RC := Lib.hid (Kd.reads_of_C (d := (0 : Int)) hC4)
          clear hv hb hC4 HP k11 k12
          go_wp2_with (at_builtin; refine print_append_row (w0 := w12) w.heap.size (by rfl) _ _ 22 5 .u8 1 (by rfl) Try.underlying22 info5 (by decide) _ ((((encN code 0 ++ encI time) ++ encF false) ++ encN n 0) ++ encNs fired) (encN notice 0) A12 n12 c12 (by rfl) (by rfl) PC.out.own RC.out (Below.refl _ _) PC.out.bel.size (by simp only [List.length_append]; omega) ?_; intro vx w13 hown hbel hgrow hat; obtain ⟨Ax, mx, cx, rfl⟩ := own_form hown; have PD := Lib.hid (PC.out.append hgrow hown); clear hown hbel hgrow hat; have k13 := PD.out.cell 13)
          clear PC RC hn12
          with_reducible refine (RefNum_calls (by omega) (by omega)).mono ?_
          rintro e w14 ⟨v4, rfl, hv, hb⟩
          obtain ⟨A14, n14, c14, rfl, -, hC4⟩ := Kd_any (w := w) hv
          have hn14 : _ = n14 := hC4.1
          have PE := Lib.hid (PD.out.below hb)
          have RE := Lib.hid (Kd.reads_of_C (d := (0 : Int)) hC4)
          clear hv hb hC4 k13 PD
          go_wp2_with (at_builtin; refine print_append_row (w0 := w14) w.heap.size (by rfl) _ _ 22 5 .u8 1 (by rfl) Try.underlying22 info5 (by decide) _ (((((encN code 0 ++ encI time) ++ encF false) ++ encN n 0) ++ encNs fired) ++ encN notice 0) (encN dead 0) A14 n14 c14 (by rfl) (by rfl) PE.out.own RE.out (Below.refl _ _) PE.out.bel.size (by simp only [List.length_append]; omega) ?_; intro vx w15 hown hbel hgrow hat; obtain ⟨Ax, mx, cx, rfl⟩ := own_form hown; have PG := Lib.hid (PE.out.append hgrow hown); clear hown hbel hgrow hat)
          go_ret
          refine ⟨_, rfl, ?_, PG.out.bel⟩
          have h9 := PG.out.own
          rw [HE.out]
          simp only [List.append_assoc] at h9
          simpa [encNs] using h9

end Go.Proofs.Ytabdjehnglmlpaa
end

section
/- A reply by value, opened. -/
namespace Go.Proofs.Ytabdjehnglmlpaa
open Go.RowKit Go.Proofs.YtabdjehnglmlpaaW.PrintWords
open Go.ChangeShapes Go.WideShapes
set_option linter.unusedVariables false
set_option linter.unusedSimpArgs false

theorem wf64u {x : Int} (h : (Lit.int .u64 x).wf = true) : 0 ≤ x ∧ x ≤ 18446744073709551615 := by
  simp only [Lit.wf, Bool.and_eq_true, decide_eq_true_eq] at h
  exact ⟨h.1, by have h2 := h.2; simpa [IntKind.max, IntKind.signed, IntKind.bits] using h2⟩
theorem wf64i {x : Int} (h : (Lit.int .i64 x).wf = true) : -9223372036854775808 ≤ x ∧ x ≤ 9223372036854775807 := by
  simp only [Lit.wf, Bool.and_eq_true, decide_eq_true_eq] at h
  have h1 := h.1
  have h2 := h.2
  simp [IntKind.max, IntKind.min, IntKind.signed, IntKind.bits] at h1 h2
  exact ⟨h1, h2⟩
theorem cellsOf3 : Try.prog.cellsOf 3 = 1 := by kernel_rfl
theorem cellsOf26 : Try.prog.cellsOf 26 = 1 := by kernel_rfl
theorem cellsOf2 : Try.prog.cellsOf 2 = 1 := by kernel_rfl
theorem cellsOf38 : Try.prog.cellsOf 38 = 1 := by kernel_rfl
theorem cellsOf64 : Try.prog.cellsOf 64 = 1 := by kernel_rfl
theorem cellsOf63 : Try.prog.cellsOf 63 = 9 := by kernel_rfl
theorem cellsOf66 : Try.prog.cellsOf 66 = 14 := by kernel_rfl
section
variable {H : Type} {enc : TypeId × Value → H} {w : World} {base : Nat} {spare : Nat → Bool} {held : Bool}
set_option maxRecDepth 100000 in
theorem tk_open {fuel : Nat} {v0 v1 v2 v3 v4 v5 v6 v7 v8 : Value} {y : DataW H × List MemPlace} (h : DataW.trod enc Try.prog w base spare held fuel 63 [v0, v1, v2, v3, v4, v5, v6, v7, v8] = some y) :
    ∃ t : Tk, v0 = .int .u64 t.id ∧ v1 = .int .i64 t.contract ∧ v2 = .int .i64 t.state ∧ v3 = .int .i64 t.level ∧ v4 = .int .u64 t.gen ∧ v5 = .int .i64 t.frm ∧ v6 = .int .i64 t.left ∧ v7 = .int .i64 t.due ∧ v8 = .int .i64 t.told ∧ t.ok := by
  obtain ⟨xs, k, hk, hxy, _, hxl, hg⟩ := DataW.trod_struct Try.underlying63 h
  match xs, hxl with
  | [y0, y1, y2, y3, y4, y5, y6, y7, y8], _ =>
    have g0 := hg 0 _ rfl
    have g1 := hg 1 _ rfl
    have g2 := hg 2 _ rfl
    have g3 := hg 3 _ rfl
    have g4 := hg 4 _ rfl
    have g5 := hg 5 _ rfl
    have g6 := hg 6 _ rfl
    have g7 := hg 7 _ rfl
    have g8 := hg 8 _ rfl
    simp [cellsOf3, cellsOf26, cellsOf2] at g0 g1 g2 g3 g4 g5 g6 g7 g8
    obtain ⟨n0, e0, -, w0⟩ := DataW.trod_int Try.underlying26 g0
    obtain ⟨n1, e1, -, w1⟩ := DataW.trod_int Try.underlying3 g1
    obtain ⟨n2, e2, -, w2⟩ := DataW.trod_int Try.underlying3 g2
    obtain ⟨n3, e3, -, w3⟩ := DataW.trod_int Try.underlying3 g3
    obtain ⟨n4, e4, -, w4⟩ := DataW.trod_int Try.underlying26 g4
    obtain ⟨n5, e5, -, w5⟩ := DataW.trod_int Try.underlying2 g5
    obtain ⟨n6, e6, -, w6⟩ := DataW.trod_int Try.underlying2 g6
    obtain ⟨n7, e7, -, w7⟩ := DataW.trod_int Try.underlying2 g7
    obtain ⟨n8, e8, -, w8⟩ := DataW.trod_int Try.underlying3 g8
    simp only [List.cons.injEq, and_true] at e0 e1 e2 e3 e4 e5 e6 e7 e8
    exact ⟨⟨n0, n1, n2, n3, n4, n5, n6, n7, n8⟩, e0, e1, e2, e3, e4, e5, e6, e7, e8, wf64u w0, wf64i w1, wf64i w2, wf64i w3, wf64u w4, wf64i w5, wf64i w6, wf64i w7, wf64i w8⟩
def RowIs (k : IntKind) (w : World) (a : Option Addr) (len cap : Nat) (zs : List Int) : Prop :=
  (a = none ∧ len = 0 ∧ cap = 0 ∧ zs = []) ∨
  ∃ x, a = some x ∧ len ≤ cap ∧ cap ≤ maxLen ∧ zs.length = cap ∧ (∀ i, i < zs.length → w.cell? (x.add i) = some (.int k (zs.getD i 0))) ∧ ∀ n ∈ zs, (Lit.int k n).wf = true
set_option maxRecDepth 100000 in
/-- A reply by value, opened. -/
theorem rp_open {r : Reach} {b0 : Nat} {v : Value} {d : DataW H} {p : List MemPlace} (hv : Value.okWide Try.prog w r b0 66 v) (h : DataW.Trod enc Try.prog w base (fun _ => true) held 66 v d p) :
    ∃ (r : Rp) (A : Option Addr) (n c : Nat), v = r.val A n c ∧ r.ok ∧ n ≤ c ∧ Kd.C (Kd.int .u64) w A n r.fired := by
  obtain ⟨cs, rfl, hsz⟩ := okWide_struct Try.underlying66 hv
  obtain ⟨l⟩ := cs
  match l, hsz.trans cellsOf66 with
  | [v0, v1, v2, v3, v4, v5, v6, v7, v8, v9, v10, v11, v12, v13], _ =>
    obtain ⟨fuel, hf⟩ := h
    obtain ⟨xs, k, hk, hxy, _, hxl, hg⟩ := DataW.trod_struct Try.underlying66 hf
    match xs, hxl with
    | [y0, y1, y2, y3, y4, y5], _ =>
      have g0 := hg 0 _ rfl
      have g1 := hg 1 _ rfl
      have g2 := hg 2 _ rfl
      have g3 := hg 3 _ rfl
      have g4 := hg 4 _ rfl
      have g5 := hg 5 _ rfl
      simp [cellsOf3, cellsOf26, cellsOf2, cellsOf38, cellsOf64, cellsOf63, Value.cells] at g0 g1 g2 g3 g4 g5
      obtain ⟨n0, e0, -, w0⟩ := DataW.trod_int Try.underlying38 g0
      obtain ⟨n1, e1, -, w1⟩ := DataW.trod_int Try.underlying2 g1
      obtain ⟨t, rfl, rfl, rfl, rfl, rfl, rfl, rfl, rfl, rfl, ht⟩ := tk_open g2
      obtain ⟨n4, e4, -, w4⟩ := DataW.trod_int Try.underlying26 g4
      obtain ⟨n5, e5, -, w5⟩ := DataW.trod_int Try.underlying3 g5
      simp only [List.cons.injEq, and_true] at e0 e1 e4 e5
      subst e0 e1 e4 e5
      obtain ⟨A, n, c, zs, rfl, hz⟩ : ∃ A n c zs, v11 = .slice A n c ∧ RowIs .u64 w A n c zs := by
        rcases open_ints Try.underlying64 Try.underlying26 (by kernel_rfl) g3 with ⟨hcs, _⟩ | ⟨x, l, c, zs, hcs, _, hl, hm, hz, _, hcell, hwz⟩
        · simp only [List.cons.injEq, and_true] at hcs
          exact ⟨_, _, _, [], hcs, .inl ⟨rfl, rfl, rfl, rfl⟩⟩
        · simp only [List.cons.injEq, and_true] at hcs
          exact ⟨_, _, _, zs, hcs, .inr ⟨_, rfl, hl, hm, by simpa using hz, hcell, hwz⟩⟩
      have hnc : n ≤ c := by rcases hz with ⟨_, h, h', _⟩ | ⟨_, _, h, _⟩ <;> omega
      obtain ⟨fs, rfl, hr, hm, hw, hc⟩ := ReadsInt.ofRowC hz
      exact ⟨⟨n0, n1, t, fs, n4, n5⟩, A, _, c, rfl, ⟨wf64i w0, wf64i w1, ht, u64_of_wf hw, wf64u w4, wf64i w5⟩, hnc, Kd.C_of_reads (d := (0 : Int)) hr⟩
end
end Go.Proofs.Ytabdjehnglmlpaa
end
