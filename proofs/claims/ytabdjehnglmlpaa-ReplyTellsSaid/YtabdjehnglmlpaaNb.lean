/- The reference's reader: Num, Int, Flag, Raw, Text. -/
import Derived.Test.YtabdjehnglmlpaaNa
namespace Go.Proofs.Ytabdjehnglmlpaa
open Go.RowKit Go.Proofs.YtabdjehnglmlpaaW.PrintWords
set_option linter.unusedVariables false
set_option linter.unusedSimpArgs false

theorem rnumber_plain' {w0 w : World} {g : Nat} {xs : List Int} {bad : Bool} (hB : Below w0.heap.size w0 w) (h : Ref w0 w g xs bad) (hby : Byt xs) (sz : Int) (h0 : 0 ≤ sz)
    (hn : ¬ (sz > 8 ∨ sz > xs.length ∨ (sz > 0 ∧ rd xs 0 = 0))) :
    Calls Try.prog 162 #[.pointer (some ⟨g, 0, none⟩), .int .i64 sz] w (RefPost w0 w g (.tuple #[.int .u64 (be (xs.take sz.toNat)), .bool true]) (xs.drop sz.toNat, bad)) := by
  obtain ⟨m, rfl⟩ : ∃ m : Nat, sz = m := ⟨sz.toNat, by omega⟩
  rw [Int.toNat_natCast]
  refine rnumber_plain hB h hby m (by omega) (by omega) ?_
  by_cases hz : m = 0
  · exact .inl hz
  · exact .inr ⟨by omega, fun hr => hn (.inr (.inr ⟨by omega, hr⟩))⟩

set_option maxHeartbeats 1000000 in
theorem RNum_calls {w0 w : World} {g : Nat} {xs : List Int} {bad : Bool} {most : Int} (hB : Below w0.heap.size w0 w) (h : Ref w0 w g xs bad) (hb : Byt xs) :
    Calls Try.prog 133 #[.pointer (some ⟨g, 0, none⟩), .int .u64 most] w (RefPost w0 w g (.int .u64 (rNum (xs, bad) most).1) (rNum (xs, bad) most).2) := by
  have H := Lib.hid h
  have HB := Lib.hid hB
  clear h hB
  rcases xs with _ | ⟨c0, r⟩
  · rw [show rNum (([] : List Int), bad) most = (0, rFail) from rfl]
    go_enter Try.func133, Try.ntmps133
    go_wp2_with fail
    with_reducible refine (first_nil H.out).mono ?_
    rintro e w1 ⟨hm, rfl, hr⟩
    have H1 := Lib.hid hr
    have M1 := Lib.hid hm
    clear hm hr
    go_wp2_with fail
    with_reducible refine (RFail_post H1.out).mono ?_
    rintro e w2 ⟨hm, rfl, hr⟩
    have H2 := Lib.hid hr
    have M2 := Lib.hid hm
    clear hm hr
    go_wp2
    go_ret
    exact ⟨M1.out.trans M2.out (fun _ _ h => h), rfl, H2.out⟩
  · obtain ⟨h0, h1⟩ := hb.head
    have hbt := Lib.hid hb.tail
    clear hb
    by_cases hc : c0 > 8 ∨ c0 > r.length ∨ (c0 > 0 ∧ rd r 0 = 0)
    · have e : rNum (c0 :: r, bad) most = (0, rFail) := by unfold rNum numRead; simp [if_pos hc]
      rw [e]
      have HC := Lib.hid hc
      clear e hc
      go_enter Try.func133, Try.ntmps133
      go_wp2_with fail
      with_reducible refine (first_cons HB.out H.out).mono ?_
      rintro e w1 ⟨hm, rfl, hr⟩
      have H1 := Lib.hid hr
      have M1 := Lib.hid hm
      have HB1 := Lib.hid (H.out.base HB.out hm)
      clear hm hr
      go_wp2_with fail
      with_reducible refine (rnumber_bad HB1.out H1.out c0 h0 h1 HC.out).mono ?_
      rintro e w2 ⟨hm, rfl, hr⟩
      have H2 := Lib.hid hr
      have M2 := Lib.hid (M1.out.trans hm (fun _ _ h => h))
      clear hm hr
      go_wp2_with fail
      with_reducible refine (RFail_post H2.out).mono ?_
      rintro e w3 ⟨hm, rfl, hr⟩
      have H3 := Lib.hid hr
      have M3 := Lib.hid (M2.out.trans hm (fun _ _ h => h))
      clear hm hr
      go_wp2
      go_ret
      exact ⟨M3.out, rfl, H3.out⟩
    · have e1 : be (r.take c0.toNat) ≤ most → rNum (c0 :: r, bad) most = (be (r.take c0.toNat), (r.drop c0.toNat, bad)) := fun hle => by
        unfold rNum numRead; simp [if_neg hc, if_neg (show ¬ be (r.take c0.toNat) > most by omega)]
      have e2 : ¬ be (r.take c0.toNat) ≤ most → rNum (c0 :: r, bad) most = (0, rFail) := fun hle => by
        unfold rNum numRead; simp [if_neg hc, if_pos (show be (r.take c0.toNat) > most by omega)]
      have HC := Lib.hid (fun (w : World) (hB : Below w0.heap.size w0 w) (h : Ref w0 w g r bad) => rnumber_plain' hB h hbt.out c0 h0 hc)
      clear hc
      generalize be (r.take c0.toNat) = B1 at e1 e2 HC
      by_cases hle : B1 ≤ most
      · rw [e1 hle]
        clear e1 e2
        go_enter Try.func133, Try.ntmps133
        go_wp2_with fail
        with_reducible refine (first_cons HB.out H.out).mono ?_
        rintro e w1 ⟨hm, rfl, hr⟩
        have H1 := Lib.hid hr
        have M1 := Lib.hid hm
        have HB1 := Lib.hid (H.out.base HB.out hm)
        clear hm hr
        go_wp2_with fail
        with_reducible refine (HC.out _ HB1.out H1.out).mono ?_
        rintro e w2 ⟨hm, rfl, hr⟩
        have H2 := Lib.hid hr
        have M2 := Lib.hid (M1.out.trans hm (fun _ _ h => h))
        clear hm hr
        go_wp2
        go_ret
        exact ⟨M2.out, rfl, H2.out⟩
      · rw [e2 hle]
        clear e1 e2
        go_enter Try.func133, Try.ntmps133
        go_wp2_with fail
        with_reducible refine (first_cons HB.out H.out).mono ?_
        rintro e w1 ⟨hm, rfl, hr⟩
        have H1 := Lib.hid hr
        have M1 := Lib.hid hm
        have HB1 := Lib.hid (H.out.base HB.out hm)
        clear hm hr
        go_wp2_with fail
        with_reducible refine (HC.out _ HB1.out H1.out).mono ?_
        rintro e w2 ⟨hm, rfl, hr⟩
        have H2 := Lib.hid hr
        have M2 := Lib.hid (M1.out.trans hm (fun _ _ h => h))
        clear hm hr
        go_wp2_with fail
        with_reducible refine (RFail_post H2.out).mono ?_
        rintro e w3 ⟨hm, rfl, hr⟩
        have H3 := Lib.hid hr
        have M3 := Lib.hid (M2.out.trans hm (fun _ _ h => h))
        clear hm hr
        go_wp2
        go_ret
        exact ⟨M3.out, rfl, H3.out⟩

set_option maxHeartbeats 1000000 in
theorem RInt_calls {w0 w : World} {g : Nat} {xs : List Int} {bad : Bool} (hB : Below w0.heap.size w0 w) (h : Ref w0 w g xs bad) (hb : Byt xs) :
    Calls Try.prog 140 #[.pointer (some ⟨g, 0, none⟩)] w (RefPost w0 w g (.int .i64 (rInt (xs, bad)).1) (rInt (xs, bad)).2) := by
  have H := Lib.hid h
  have HB := Lib.hid hB
  clear h hB
  rcases xs with _ | ⟨c0, r⟩
  · rw [show rInt (([] : List Int), bad) = (0, rFail) from rfl]
    go_enter Try.func140, Try.ntmps140
    go_wp2_with fail
    with_reducible refine (first_nil H.out).mono ?_
    rintro e w1 ⟨hm, rfl, hr⟩
    have H1 := Lib.hid hr
    have M1 := Lib.hid hm
    clear hm hr
    go_wp2_with fail
    with_reducible refine (RFail_post H1.out).mono ?_
    rintro e w2 ⟨hm, rfl, hr⟩
    have H2 := Lib.hid hr
    have M2 := Lib.hid hm
    clear hm hr
    go_wp2
    go_ret
    exact ⟨M1.out.trans M2.out (fun _ _ h => h), rfl, H2.out⟩
  · obtain ⟨h0, h1⟩ := hb.head
    have hbt := Lib.hid hb.tail
    clear hb
    obtain ⟨sz, hsz⟩ : ∃ sz, c0 % 128 = sz := ⟨_, rfl⟩
    have hsz0 : 0 ≤ sz ∧ sz ≤ 127 := by omega
    obtain ⟨s0, s1⟩ := hsz0
    by_cases hc : sz > 8 ∨ sz > r.length ∨ (sz > 0 ∧ rd r 0 = 0)
    · have e : rInt (c0 :: r, bad) = (0, rFail) := by unfold rInt numRead; simp [hsz, if_pos hc]
      rw [e]
      have HC := Lib.hid hc
      clear e hc
      go_enter Try.func140, Try.ntmps140
      go_wp2_with fail
      with_reducible refine (first_cons HB.out H.out).mono ?_
      rintro e w1 ⟨hm, rfl, hr⟩
      have H1 := Lib.hid hr
      have M1 := Lib.hid hm
      have HB1 := Lib.hid (H.out.base HB.out hm)
      clear hm hr
      go_wp2_with fail
      with_reducible refine (rnumber_bad HB1.out H1.out sz s0 (by omega) HC.out).mono ?_
      rintro e w2 ⟨hm, rfl, hr⟩
      have H2 := Lib.hid hr
      have M2 := Lib.hid (M1.out.trans hm (fun _ _ h => h))
      clear hm hr
      go_wp2_with fail
      with_reducible refine (RFail_post H2.out).mono ?_
      rintro e w3 ⟨hm, rfl, hr⟩
      have H3 := Lib.hid hr
      have M3 := Lib.hid (M2.out.trans hm (fun _ _ h => h))
      clear hm hr
      go_wp2
      go_ret
      exact ⟨M3.out, rfl, H3.out⟩
    · have e1 : be (r.take sz.toNat) ≤ 9223372036854775807 → rInt (c0 :: r, bad) = (if 128 ≤ c0 then -1 - be (r.take sz.toNat) else be (r.take sz.toNat), (r.drop sz.toNat, bad)) := fun hle => by
        unfold rInt numRead; simp [hsz, if_neg hc, if_neg (show ¬ be (r.take sz.toNat) > 9223372036854775807 by omega)]
      have e2 : ¬ be (r.take sz.toNat) ≤ 9223372036854775807 → rInt (c0 :: r, bad) = (0, rFail) := fun hle => by
        unfold rInt numRead; simp [hsz, if_neg hc, if_pos (show be (r.take sz.toNat) > 9223372036854775807 by omega)]
      have HC := Lib.hid (fun (w : World) (hB : Below w0.heap.size w0 w) (h : Ref w0 w g r bad) => rnumber_plain' hB h hbt.out sz s0 hc)
      have hpos : 0 ≤ be (r.take sz.toNat) := (be_range (hbt.out.take _)).1
      clear hc
      generalize be (r.take sz.toNat) = B1 at e1 e2 HC hpos
      by_cases hle : B1 ≤ 9223372036854775807
      · rw [e1 hle]
        clear e1 e2
        by_cases h128 : 128 ≤ c0
        · rw [if_pos h128]
          go_enter Try.func140, Try.ntmps140
          go_wp2_with fail
          with_reducible refine (first_cons HB.out H.out).mono ?_
          rintro e w1 ⟨hm, rfl, hr⟩
          have H1 := Lib.hid hr
          have M1 := Lib.hid hm
          have HB1 := Lib.hid (H.out.base HB.out hm)
          clear hm hr
          go_wp2_with fail
          with_reducible refine (HC.out _ HB1.out H1.out).mono ?_
          rintro e w2 ⟨hm, rfl, hr⟩
          have H2 := Lib.hid hr
          have M2 := Lib.hid (M1.out.trans hm (fun _ _ h => h))
          clear hm hr
          go_wp2
          go_ret
          exact ⟨M2.out, by first | rfl | (simp; done), H2.out⟩
        · rw [if_neg h128]
          go_enter Try.func140, Try.ntmps140
          go_wp2_with fail
          with_reducible refine (first_cons HB.out H.out).mono ?_
          rintro e w1 ⟨hm, rfl, hr⟩
          have H1 := Lib.hid hr
          have M1 := Lib.hid hm
          have HB1 := Lib.hid (H.out.base HB.out hm)
          clear hm hr
          go_wp2_with fail
          with_reducible refine (HC.out _ HB1.out H1.out).mono ?_
          rintro e w2 ⟨hm, rfl, hr⟩
          have H2 := Lib.hid hr
          have M2 := Lib.hid (M1.out.trans hm (fun _ _ h => h))
          clear hm hr
          go_wp2
          go_ret
          exact ⟨M2.out, by first | rfl | (simp; done), H2.out⟩
      · rw [e2 hle]
        clear e1 e2
        go_enter Try.func140, Try.ntmps140
        go_wp2_with fail
        with_reducible refine (first_cons HB.out H.out).mono ?_
        rintro e w1 ⟨hm, rfl, hr⟩
        have H1 := Lib.hid hr
        have M1 := Lib.hid hm
        have HB1 := Lib.hid (H.out.base HB.out hm)
        clear hm hr
        go_wp2_with fail
        with_reducible refine (HC.out _ HB1.out H1.out).mono ?_
        rintro e w2 ⟨hm, rfl, hr⟩
        have H2 := Lib.hid hr
        have M2 := Lib.hid (M1.out.trans hm (fun _ _ h => h))
        clear hm hr
        go_wp2_with fail
        with_reducible refine (RFail_post H2.out).mono ?_
        rintro e w3 ⟨hm, rfl, hr⟩
        have H3 := Lib.hid hr
        have M3 := Lib.hid (M2.out.trans hm (fun _ _ h => h))
        clear hm hr
        go_wp2
        go_ret
        exact ⟨M3.out, rfl, H3.out⟩

set_option maxHeartbeats 1000000 in
theorem RFlag_calls {w0 w : World} {g : Nat} {xs : List Int} {bad : Bool} (hB : Below w0.heap.size w0 w) (h : Ref w0 w g xs bad) (hb : Byt xs) :
    Calls Try.prog 141 #[.pointer (some ⟨g, 0, none⟩)] w (RefPost w0 w g (.bool (rFlag (xs, bad)).1) (rFlag (xs, bad)).2) := by
  have hc := RNum_calls (most := 1) hB h hb
  unfold rFlag
  generalize rNum (xs, bad) 1 = q at hc ⊢
  have HC := Lib.hid hc
  clear hc h hb
  go_enter Try.func141, Try.ntmps141
  go_wp2_with fail
  with_reducible refine HC.out.mono ?_
  rintro e w' ⟨hm, rfl, hr⟩
  have HM := Lib.hid hm
  have HR := Lib.hid hr
  clear hm hr
  go_wp2
  go_ret
  exact ⟨HM.out, rfl, HR.out⟩

end Go.Proofs.Ytabdjehnglmlpaa
