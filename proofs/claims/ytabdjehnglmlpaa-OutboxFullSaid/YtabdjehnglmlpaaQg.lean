/- quill.Reader.Text. -/
import Derived.Test.YtabdjehnglmlpaaQf
namespace Go.Proofs.Ytabdjehnglmlpaa
open Go.RowKit Go.Proofs.YtabdjehnglmlpaaW.PrintWords
set_option linter.unusedVariables false
set_option linter.unusedSimpArgs false

theorem conv_str {w : World} {A : Option Addr} {n c : Nat} {xs : List Int} (hr : Kd.C (Kd.int .u8) w A n xs) :
    (convert 22 9 (.slice A n c)).run Try.prog w = .ok (.string (strOfNums xs)) w :=
  string_of_reads (e := 5) Try.underlying22 Try.underlying5 Try.underlying9 (Kd.reads_of_C (d := (0 : Int)) hr)

def TextPost (w0 w : World) (g : Nat) (s : List Int × Rs) (e : Ending) (w' : World) : Prop :=
  e = .returned (.string (strOfNums s.1)) ∧ Mod (· = g) w w' ∧ Rdr w0 w' g s.2.1 s.2.2

theorem strOfNums_nil : strOfNums [] = ⟨#[]⟩ := rfl

set_option maxHeartbeats 2000000 in
theorem Text_calls {w0 w : World} {g : Nat} {xs : List Int} {bad : Bool} {most : Int} (hB : Below w0.heap.size w0 w) (h : Rdr w0 w g xs bad) (hb : Byt xs) (hl : xs.length ≤ 140737488355232) (hmo : most ≤ 9223372036854775807) :
    Calls Try.prog 86 #[.pointer (some ⟨g, 0, none⟩), .int .i64 most] w (TextPost w0 w g (rText (xs, bad) most)) := by
  have hh := h
  by_cases hn : most < 0
  · have e : rText (xs, bad) most = ([], rFail) := by unfold rText; rw [if_pos hn]
    rw [e]
    have H := Lib.hid (Mod.fail w g)
    have F := Lib.hid h.fail
    clear e h
    go_enter Try.func86, Try.ntmps86
    go_wp2_with (first
      | (go_at_call 132; refine (Fail_calls hh).mono ?_; rintro e w' ⟨rfl, rfl⟩))
    go_ret
    exact ⟨rfl, H.out, F.out⟩
  · have hc := Num_calls (most := most) hB h hb
    have hr := rNum_range (s := (xs, bad)) hb (most := most) (by omega)
    have hby := rNum_byt (s := (xs, bad)) hb most
    have hle := rNum_len (xs, bad) hb most
    have e1 : rText (xs, bad) most = if (rNum (xs, bad) most).1 > (rNum (xs, bad) most).2.1.length then ([], rFail) else rRaw (rNum (xs, bad) most).2 (rNum (xs, bad) most).1 := by unfold rText; rw [if_neg hn]
    rw [e1]
    clear e1
    generalize rNum (xs, bad) most = q at hc hr hby hle ⊢
    obtain ⟨n, r, b1⟩ := q
    simp only at hc hr hby hle ⊢
    obtain ⟨r0, r1, r2⟩ := hr
    have HC := Lib.hid hc
    have HB := Lib.hid hB
    clear hc hb h hB hby
    by_cases hn2 : n > r.length
    · rw [if_pos hn2]
      go_enter Try.func86, Try.ntmps86
      go_wp2_with (first
        | (go_at_call 22; refine HC.out.mono ?_; rintro e w1 ⟨hm, rfl, hr1⟩; have HM := Lib.hid hm; have hh1 := hr1; have HR := Lib.hid hr1; clear hm hr1 HC)
        | (go_at_call 28; refine (Left_calls hh1).mono ?_; rintro e w2 ⟨rfl, rfl⟩)
        | (go_at_call 132; refine (Fail_calls hh1).mono ?_; rintro e w2 ⟨rfl, rfl⟩))
      go_ret
      exact ⟨rfl, HM.out.trans (Mod.fail _ g) (fun _ _ h => h), HR.out.fail⟩
    · rw [if_neg hn2]
      go_enter Try.func86, Try.ntmps86
      go_wp2_with (first
        | (go_at_call 22; refine HC.out.mono ?_; rintro e w1 ⟨hm, rfl, hr1⟩; have HM := Lib.hid hm; have hh1 := hr1; have HR := Lib.hid hr1; have HB1 := Lib.hid (hh.base HB.out hm); clear hm hr1 HC)
        | (go_at_call 28; refine (Left_calls hh1).mono ?_; rintro e w2 ⟨rfl, rfl⟩)
        | (go_at_call 87; refine (Raw_calls HB1.out HR.out (by omega)).mono ?_; rintro e w2 ⟨v, rfl, hv, hm2, hr2⟩; obtain ⟨A, c, rfl, hc, hC⟩ := hv.reads; have hcv := conv_str (c := c) hC; have HM2 := Lib.hid hm2; have HR2 := Lib.hid hr2; clear hv hC hm2 hr2))
      go_ret
      exact ⟨rfl, HM.out.trans HM2.out (fun _ _ h => h), HR2.out⟩

end Go.Proofs.Ytabdjehnglmlpaa
