/- Contracts of member's functions in list words; member.Bytes; curfewlaw29.lives; MemberSteps. -/
import Derived.Test.YtabdjehnglmlpaaQl
import Derived.Test.YtabdjehnglmlpaaMr
namespace Go.Proofs.Ytabdjehnglmlpaa
open Go.RowKit Go.Proofs.YtabdjehnglmlpaaW.PrintWords
set_option linter.unusedVariables false
set_option linter.unusedSimpArgs false
open PM (snd_ quo_ near_ reach_ with_ without_ setn seven)

abbrev CI (w : World) (A : Option Addr) (n : Nat) (l : List Int) : Prop := Kd.C (Kd.int .i64) w A n l

section
variable {w : World} {A A2 : Option Addr} {n c n2 c2 : Nat} {l l2 : List Int}
theorem Light_calls (hr : CI w A n l) (hc : n ≤ c) (hr2 : CI w A2 n2 l2) (hc2 : n2 ≤ c2) :
    Calls Try.prog 29 #[.slice A n c, .slice A2 n2 c2] w fun e w' => e = .returned (.bool (decide (n ≤ 100 ∧ n2 ≤ 100))) ∧ Below w.heap.size w w' := by
  obtain rfl : l.length = n := hr.1
  obtain rfl : l2.length = n2 := hr2.1
  refine (PM.curfewlaw29_Light.calls A c l A2 c2 l2 (decide (l.length ≤ 100 ∧ l2.length ≤ 100)) w hr hc hr2 hc2 ?_).mono fun e w' ⟨h1, h2⟩ => ⟨h1, h2.below⟩
  unfold PM.curfewlaw29_Light.f
  by_cases h : (l.length : Int) ≤ 100
  · rw [if_pos h]; congr 1; exact decide_eq_decide.2 (by omega)
  · rw [if_neg h]; congr 1; exact (decide_eq_false (by omega)).symm
theorem MSound_calls (hr : CI w A n l) (hc : n ≤ c) (hn : n ≤ 1000) :
    Calls Try.prog 43 #[.slice A n c] w fun e w' => e = .returned (.bool (snd_ l)) ∧ Below w.heap.size w w' := by
  obtain rfl : l.length = n := hr.1
  exact PM.member_Sound.calls 3000 A c l _ w hr hc (PM.Sound_f l hn 3000 (by decide))
theorem Mset_calls (hr : CI w A n l) (hc : n ≤ c) (hn : n ≤ 1000) :
    Calls Try.prog 108 #[.slice A n c] w fun e w' => e = .returned (.int .u64 (setn l)) ∧ Below w.heap.size w w' := by
  obtain rfl : l.length = n := hr.1
  exact (PM.member_set.calls 3000 A c l _ w hr hc (PM.set_f l hn 3000 (by omega))).mono fun e w' ⟨h1, h2⟩ => ⟨h1, h2.below⟩
theorem MQuorum_calls (hr : CI w A n l) (hc : n ≤ c) (hn : n ≤ 1000) :
    Calls Try.prog 47 #[.slice A n c] w fun e w' => e = .returned (.int .i64 (quo_ l)) ∧ Below w.heap.size w w' := by
  obtain rfl : l.length = n := hr.1
  exact PM.member_Quorum.calls 3000 A c l _ w hr hc (PM.Quorum_f l hn 3000 (by decide))
theorem rSame_calls (hr : CI w A n l) (hc : n ≤ c) (hr2 : CI w A2 n2 l2) (hc2 : n2 ≤ c2) (hn : n ≤ 1000) :
    Calls Try.prog 35 #[.slice A n c, .slice A2 n2 c2] w fun e w' => e = .returned (.bool (decide (l = l2))) ∧ Below w.heap.size w w' := by
  obtain rfl : l.length = n := hr.1
  obtain rfl : l2.length = n2 := hr2.1
  exact (PM.curfewref29_Same.calls 3000 A c l A2 c2 l2 _ w hr hc hr2 hc2 (PM.rSame_f l l2 hn 3000 (by omega))).mono fun e w' ⟨h1, h2⟩ => ⟨h1, h2.below⟩

/-- A result that is a row and an error's number. -/
def RowErr (w : World) (s : List Int × Int) (e : Ending) (w' : World) : Prop :=
  ∃ A n c, e = .returned (.tuple #[.slice A n c, .int .i64 s.2]) ∧ n ≤ c ∧ CI w' A n s.1 ∧ Below w.heap.size w w'
theorem RowErr.of {v : Value} {s : List Int × Int} {w' : World} {e : Ending} (h0 : e = .returned (.tuple #[v, .int .i64 s.2])) (h1 : Kd.R (Kd.int .i64) 3 w' w.heap.size (fun _ => True) v s.1) (h2 : Below w.heap.size w w') : RowErr w s e w' := by
  obtain ⟨A, c, rfl, hc, hC⟩ := Kd.R_reads h1
  exact ⟨A, _, c, h0, hc, hC, h2⟩
theorem With_calls {v : Int} (hr : CI w A n l) (hc : n ≤ c) (hn : n ≤ 1000) : Calls Try.prog 31 #[.slice A n c, .int .i64 v] w (RowErr w (with_ l v)) := by
  obtain rfl : l.length = n := hr.1
  exact (PM.member_With.calls 3000 A c l v _ _ w hr hc (PM.With_f l v hn 3000 (by decide))).mono fun e w' ⟨u, h0, h1, h2⟩ => RowErr.of h0 h1 h2
theorem rWith_calls {v : Int} (hr : CI w A n l) (hc : n ≤ c) (hn : n ≤ 1000) : Calls Try.prog 32 #[.slice A n c, .int .i64 v] w (RowErr w (with_ l v)) := by
  obtain rfl : l.length = n := hr.1
  exact (PM.curfewref29_With.calls 3000 A c l v _ _ w hr hc (PM.rWith_f l v hn 3000 (by decide))).mono fun e w' ⟨u, h0, h1, h2⟩ => RowErr.of h0 h1 h2
theorem Without_calls {v : Int} (hr : CI w A n l) (hc : n ≤ c) (hn : n ≤ 1000) : Calls Try.prog 33 #[.slice A n c, .int .i64 v] w (RowErr w (without_ l v)) := by
  obtain rfl : l.length = n := hr.1
  exact (PM.member_Without.calls 3000 A c l v _ _ w hr hc (PM.Without_f l v hn 3000 (by decide))).mono fun e w' ⟨u, h0, h1, h2⟩ => RowErr.of h0 h1 h2
theorem rWithout_calls {v : Int} (hr : CI w A n l) (hc : n ≤ c) (hn : n ≤ 1000) : Calls Try.prog 34 #[.slice A n c, .int .i64 v] w (RowErr w (without_ l v)) := by
  obtain rfl : l.length = n := hr.1
  exact (PM.curfewref29_Without.calls 3000 A c l v _ _ w hr hc (PM.rWithout_f l v hn 3000 (by decide))).mono fun e w' ⟨u, h0, h1, h2⟩ => RowErr.of h0 h1 h2
end

/-- A result that is bytes and an error's number. -/
def BytesErr (w : World) (s : List Int × Int) (e : Ending) (w' : World) : Prop :=
  ∃ A n c, e = .returned (.tuple #[.slice A n c, .int .i64 s.2]) ∧ n ≤ c ∧ Kd.C (Kd.int .u8) w' A n s.1 ∧ Below w.heap.size w w'
def mbytes (l : List Int) : List Int × Int := if snd_ l then (encN (setn l) 0, 0) else ([], 2)

set_option maxRecDepth 100000 in
set_option maxHeartbeats 1000000 in
theorem MBytes_calls {w : World} {A : Option Addr} {n c : Nat} {l : List Int} (hr : CI w A n l) (hc : n ≤ c) (hn : n ≤ 1000) : Calls Try.prog 88 #[.slice A n c] w (BytesErr w (mbytes l)) := by
  have HR := Lib.hid hr
  have hs := PM.setn_lt l
  have hs0 : 0 ≤ (setn l : Int) := by omega
  have hs1 : (setn l : Int) ≤ 18446744073709551615 := by omega
  unfold mbytes
  have HC := Lib.hid (MSound_calls hr hc hn)
  clear hr
  revert HC
  cases snd_ l
  · intro HC
    simp only [Bool.false_eq_true, if_false]
    go_enter Try.func88, Try.ntmps88
    go_wp2_with fail
    with_reducible refine HC.out.mono ?_
    rintro e w1 ⟨rfl, hb⟩
    have B1 := Lib.hid hb; clear hb
    go_wp2
    go_ret2
    exact ⟨none, 0, 0, rfl, Nat.le_refl _, nil_reads, B1.out⟩
  · intro HC
    simp only [if_true]
    go_enter Try.func88, Try.ntmps88
    go_wp2_with fail
    with_reducible refine HC.out.mono ?_
    rintro e w1 ⟨rfl, hb⟩
    have B1 := Lib.hid hb
    have B2 := Lib.hid (hb.trans ((Below.refl w1.heap.size w1).alloc (Nat.le_refl _) (.cells #[.slice none 0 0] 30) |>.mono hb.size))
    have HR1 := Lib.hid (Kd.C_below (Kd.C_below HR.out hb) ((Below.refl w1.heap.size w1).alloc (Nat.le_refl _) (.cells #[.slice none 0 0] 30)))
    have W1 := Lib.hid (Wtr.new w1 (B := w1.heap.size) (Nat.le_refl _))
    clear hb
    go_wp2_with fail
    with_reducible refine (Mset_calls HR1.out hc hn).mono ?_
    rintro e w2 ⟨rfl, hb⟩
    have W2 := Lib.hid (W1.out.below hb)
    have B3 := Lib.hid (B2.out.trans (hb.mono B2.out.size))
    clear hb
    go_wp2_with fail
    with_reducible refine (WNum_lit [(setn l : Int)] #[.int .u64 (setn l)] 1 _ W2.out rfl rfl rfl (U64.one hs0 hs1) (by simp)).mono ?_
    rintro e w3 ⟨rfl, v3, hst⟩
    rw [encNs_one, List.nil_append] at hst
    have W3 := Lib.hid hst.w
    have B4 := Lib.hid (B3.out.trans ((WStep.base W2.out hst).mono B1.out.size))
    clear hst
    go_wp2_with fail
    with_reducible refine (WBytes_calls W3.out (Nat.le_trans (encN_len _ _) (by decide))).mono ?_
    rintro e w4 ⟨v4, rfl, hv, hb⟩
    obtain ⟨A4, n4, c4, rfl, hc4, hC4⟩ := hv.any
    have C4 := Lib.hid hC4
    have B5 := Lib.hid (B4.out.trans (hb.mono B4.out.size))
    clear hv hC4 hb
    go_wp2
    go_ret2
    exact ⟨A4, n4, c4, rfl, hc4, C4.out, B5.out⟩

set_option maxRecDepth 100000 in
set_option maxHeartbeats 1000000 in
theorem lives29_calls (w : World) : Calls Try.prog 30 #[] w fun e w' => e = .returned (.bool true) ∧ Below w.heap.size w w' := by
  have e1 : with_ [0, 2] 1 = ([0, 1, 2], 0) := by decide
  have e2 : mbytes [0, 1, 2] = ([1, 7], 0) := by decide
  have e3 : quo_ [0, 1, 2, 3] = 3 := by decide
  have E1 := Lib.hid e1
  have E2 := Lib.hid e2
  have E3 := Lib.hid e3
  clear e1 e2 e3
  go_enter Try.func30, Try.ntmps30
  go_wp2_with fail
  with_reducible refine (With_calls (lit_any w .i64 3 [0, 2] #[.int .i64 0, .int .i64 2] 2 _ rfl rfl rfl (by decide)) (Nat.le_refl _) (by decide)).mono ?_
  rintro e w1 ⟨A1, n1, c1, rfl, hc1, hC1, hb1⟩
  rw [E1.out] at hC1 ⊢
  dsimp only at hC1 ⊢
  have C1 := Lib.hid hC1
  have L1 : Hid (n1 = 3) := hC1.1.symm
  have B1 := Lib.hid ((Below.refl w.heap.size w).alloc (Nat.le_refl _) (.cells #[.int .i64 0, .int .i64 2] 3) |>.trans (hb1.mono (by simp)))
  clear hb1 hC1
  go_wp2_with fail
  with_reducible refine (MBytes_calls C1.out hc1 (by have := L1.out; omega)).mono ?_
  rintro e w2 ⟨A2, n2, c2, rfl, hc2, hC2, hb2⟩
  rw [E2.out] at hC2 ⊢
  dsimp only at hC2 ⊢
  have C2 := Lib.hid hC2
  have C1b := Lib.hid (Kd.C_below C1.out hb2)
  have B2 := Lib.hid (B1.out.trans (hb2.mono B1.out.size))
  clear hb2 hC2
  go_wp2_with fail
  with_reducible refine (MQuorum_calls (lit_any w2 .i64 3 [0, 1, 2, 3] #[.int .i64 0, .int .i64 1, .int .i64 2, .int .i64 3] 4 _ rfl rfl rfl (by decide)) (Nat.le_refl _) (by decide)).mono ?_
  rintro e w3 ⟨rfl, hb3⟩
  rw [E3.out]
  have k3 : Below w2.heap.size w2 w3 := (Below.refl w2.heap.size w2).alloc (Nat.le_refl _) (.cells #[.int .i64 0, .int .i64 1, .int .i64 2, .int .i64 3] 3) |>.trans (hb3.mono (by simp))
  have C1c := Lib.hid (Kd.C_below (Kd.C_below C1b.out k3) ((Below.refl w3.heap.size w3).alloc (Nat.le_refl _) (.cells #[.int .i64 0, .int .i64 1, .int .i64 2] 3)))
  have C2b := Lib.hid (Kd.C_below C2.out k3)
  have B3 := Lib.hid (B2.out.trans (k3.mono B2.out.size))
  clear hb3 k3
  go_wp2_with fail
  with_reducible refine (rSame_calls C1c.out hc1 (lit_any w3 .i64 3 [0, 1, 2] #[.int .i64 0, .int .i64 1, .int .i64 2] 3 _ rfl rfl rfl (by decide)) (Nat.le_refl _) (by have := L1.out; omega)).mono ?_
  rintro e w4 ⟨rfl, hb4⟩
  have k4 : Below w3.heap.size w3 w4 := (Below.refl w3.heap.size w3).alloc (Nat.le_refl _) (.cells #[.int .i64 0, .int .i64 1, .int .i64 2] 3) |>.trans (hb4.mono (by simp))
  have hcv : (convert 22 9 (.slice A2 n2 c2)).run Try.prog w4 = .ok (.string ⟨#[1, 7]⟩) w4 := conv_str (Kd.C_below C2b.out k4)
  have B4 := Lib.hid (B3.out.trans (k4.mono B3.out.size))
  clear hb4 k4
  go_wp2
  go_ret
  exact ⟨rfl, B4.out⟩

end Go.Proofs.Ytabdjehnglmlpaa
