/- quill.Reader's calls: Open, Num, Int, Flag, Raw, Text, End, Fail. -/
import Derived.Test.YtabdjehnglmlpaaQd
namespace Go.Proofs.Ytabdjehnglmlpaa
open Go.RowKit Go.Proofs.YtabdjehnglmlpaaW.PrintWords
set_option linter.unusedVariables false
set_option linter.unusedSimpArgs false

/-- What a call of a reader's method comes to: the value, the reader's new state; only its block has turned. -/
def RdPost (w0 w : World) (g : Nat) (v : Value) (s : Rs) (e : Ending) (w' : World) : Prop :=
  Mod (· = g) w w' ∧ e = .returned v ∧ Rdr w0 w' g s.1 s.2

theorem number_none {w0 w : World} {g : Nat} {xs : List Int} {bad : Bool} {most : Int} {marked : Bool} (hB : Below w0.heap.size w0 w) (h : Rdr w0 w g xs bad) (hb : Byt xs) (hn : numRead xs most marked = none) :
    Calls Try.prog 103 #[.pointer (some ⟨g, 0, none⟩), .int .u64 most, .bool marked] w (RdPost w0 w g (.tuple #[.int .u64 0, .bool false]) rFail) :=
  (number_calls hB h hb).mono fun e w' ⟨h1, h2⟩ => by rw [hn] at h2; exact ⟨h1, h2.1, h2.2⟩
theorem number_some {w0 w : World} {g : Nat} {xs r : List Int} {bad m : Bool} {n most : Int} {marked : Bool} (hB : Below w0.heap.size w0 w) (h : Rdr w0 w g xs bad) (hb : Byt xs) (hn : numRead xs most marked = some (n, m, r)) :
    Calls Try.prog 103 #[.pointer (some ⟨g, 0, none⟩), .int .u64 most, .bool marked] w (RdPost w0 w g (.tuple #[.int .u64 n, .bool m]) (r, bad)) :=
  (number_calls hB h hb).mono fun e w' ⟨h1, h2⟩ => by rw [hn] at h2; exact ⟨h1, h2.1, h2.2⟩

set_option maxHeartbeats 1000000 in
theorem Num_calls {w0 w : World} {g : Nat} {xs : List Int} {bad : Bool} {most : Int} (hB : Below w0.heap.size w0 w) (h : Rdr w0 w g xs bad) (hb : Byt xs) :
    Calls Try.prog 22 #[.pointer (some ⟨g, 0, none⟩), .int .u64 most] w (RdPost w0 w g (.int .u64 (rNum (xs, bad) most).1) (rNum (xs, bad) most).2) := by
  cases hn : numRead xs most false with
  | none =>
    have hc := number_none hB h hb hn
    have e : rNum (xs, bad) most = (0, rFail) := by unfold rNum; simp only [hn]
    rw [e]
    have HC := Lib.hid hc
    clear hc hn e h hb
    go_enter Try.func22, Try.ntmps22
    go_wp2_with (go_at_call 103; refine HC.out.mono ?_; rintro e w' ⟨hm, rfl, hr⟩; have HM := Lib.hid hm; have HR := Lib.hid hr; clear hm hr)
    go_ret
    exact ⟨HM.out, rfl, HR.out⟩
  | some p =>
    obtain ⟨n, m, r⟩ := p
    have hc := number_some hB h hb hn
    have e : rNum (xs, bad) most = (n, (r, bad)) := by unfold rNum; simp only [hn]
    rw [e]
    have HC := Lib.hid hc
    clear hc hn e h hb
    go_enter Try.func22, Try.ntmps22
    go_wp2_with (go_at_call 103; refine HC.out.mono ?_; rintro e w' ⟨hm, rfl, hr⟩; have HM := Lib.hid hm; have HR := Lib.hid hr; clear hm hr)
    go_ret
    exact ⟨HM.out, rfl, HR.out⟩

set_option maxHeartbeats 1000000 in
theorem Int_calls {w0 w : World} {g : Nat} {xs : List Int} {bad : Bool} (hB : Below w0.heap.size w0 w) (h : Rdr w0 w g xs bad) (hb : Byt xs) :
    Calls Try.prog 23 #[.pointer (some ⟨g, 0, none⟩)] w (RdPost w0 w g (.int .i64 (rInt (xs, bad)).1) (rInt (xs, bad)).2) := by
  cases hn : numRead xs 9223372036854775807 true with
  | none =>
    have hc := number_none hB h hb hn
    have e : rInt (xs, bad) = (0, rFail) := by unfold rInt; simp only [hn]
    rw [e]
    have HC := Lib.hid hc
    clear hc hn e h hb
    go_enter Try.func23, Try.ntmps23
    go_wp2_with (go_at_call 103; refine HC.out.mono ?_; rintro e w' ⟨hm, rfl, hr⟩; have HM := Lib.hid hm; have HR := Lib.hid hr; clear hm hr)
    go_ret
    exact ⟨HM.out, rfl, HR.out⟩
  | some p =>
    obtain ⟨n, m, r⟩ := p
    have hc := number_some hB h hb hn
    have hp := numRead_props hb hn
    obtain ⟨n0, n1, -⟩ := hp
    have e : rInt (xs, bad) = (if m then -1 - n else n, (r, bad)) := by unfold rInt; simp only [hn]
    rw [e]
    have HC := Lib.hid hc
    clear hc hn e h hb
    cases m
    all_goals
      simp only [if_true, if_false, Bool.false_eq_true]
      go_enter Try.func23, Try.ntmps23
      go_wp2_with (go_at_call 103; refine HC.out.mono ?_; rintro e w' ⟨hm, rfl, hr⟩; have HM := Lib.hid hm; have HR := Lib.hid hr; clear hm hr)
      go_ret
      exact ⟨HM.out, by first | rfl | (simp; done), HR.out⟩

set_option maxHeartbeats 1000000 in
theorem Flag_calls {w0 w : World} {g : Nat} {xs : List Int} {bad : Bool} (hB : Below w0.heap.size w0 w) (h : Rdr w0 w g xs bad) (hb : Byt xs) :
    Calls Try.prog 85 #[.pointer (some ⟨g, 0, none⟩)] w (RdPost w0 w g (.bool (rFlag (xs, bad)).1) (rFlag (xs, bad)).2) := by
  have hc := Num_calls (most := 1) hB h hb
  unfold rFlag
  generalize rNum (xs, bad) 1 = q at hc ⊢
  have HC := Lib.hid hc
  clear hc h hb
  go_enter Try.func85, Try.ntmps85
  go_wp2_with (go_at_call 22; refine HC.out.mono ?_; rintro e w' ⟨hm, rfl, hr⟩; have HM := Lib.hid hm; have HR := Lib.hid hr; clear hm hr)
  go_ret
  exact ⟨HM.out, rfl, HR.out⟩

theorem Fail_post {w0 w : World} {g : Nat} {xs : List Int} {bad : Bool} (h : Rdr w0 w g xs bad) :
    Calls Try.prog 132 #[.pointer (some ⟨g, 0, none⟩)] w (RdPost w0 w g (.tuple #[]) rFail) :=
  (Fail_calls h).mono fun e w' ⟨h1, h2⟩ => by subst h2; exact ⟨Mod.fail w g, h1, h.fail⟩

theorem End_post {w0 w : World} {g : Nat} {xs : List Int} {bad : Bool} (h : Rdr w0 w g xs bad) :
    Calls Try.prog 81 #[.pointer (some ⟨g, 0, none⟩)] w fun e w' => e = .returned (.int .i64 (rEnd (xs, bad))) ∧ w' = w := End_calls h

end Go.Proofs.Ytabdjehnglmlpaa
