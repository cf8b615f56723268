/- The reference's reader: Raw, Text. -/
import Derived.Test.YtabdjehnglmlpaaNb
namespace Go.Proofs.Ytabdjehnglmlpaa
open Go.RowKit Go.Proofs.YtabdjehnglmlpaaW.PrintWords
set_option linter.unusedVariables false
set_option linter.unusedSimpArgs false

def RRawPost (w0 w : World) (g : Nat) (s : List Int × Rs) (e : Ending) (w' : World) : Prop :=
  ∃ v, e = .returned v ∧ OwnB w' w.heap.size v s.1 ∧ Mod (· = g) w w' ∧ Ref w0 w' g s.2.1 s.2.2

set_option maxHeartbeats 2000000 in
set_option maxRecDepth 100000 in
theorem RRaw_calls {w0 w : World} {g : Nat} {xs : List Int} {bad : Bool} {n : Int} (hB : Below w0.heap.size w0 w) (h : Ref w0 w g xs bad) (hl : xs.length ≤ 140737488355232) :
    Calls Try.prog 143 #[.pointer (some ⟨g, 0, none⟩), .int .i64 n] w (RRawPost w0 w g (rRaw (xs, bad) n)) := by
  have H0 := Lib.hid h
  by_cases hn : n < 0 ∨ n > xs.length
  · have e : rRaw (xs, bad) n = ([], rFail) := by unfold rRaw; rw [if_pos hn]
    rw [e]
    obtain ⟨A, c, h0, h1, h2, h3, -, -⟩ := h.cells
    rcases hn with hn | hn
    all_goals
      clear e h
      go_enter Try.func143, Try.ntmps143
      go_wp2_with fail
      with_reducible refine (RFail_post H0.out).mono ?_
      rintro e w1 ⟨hm, rfl, hr⟩
      have M1 := Lib.hid hm
      have F1 := Lib.hid hr
      clear hm hr
      go_wp2
      go_ret
      exact ⟨_, rfl, OwnB.nil _ _, M1.out, F1.out⟩
  · have e : rRaw (xs, bad) n = (xs.take n.toNat, (xs.drop n.toNat, bad)) := by unfold rRaw; rw [if_neg hn]
    rw [e]
    obtain ⟨m, rfl⟩ : ∃ m : Nat, n = m := ⟨n.toNat, by omega⟩
    have hm1 : (m : Int) ≤ xs.length := by omega
    rw [Int.toNat_natCast]
    obtain ⟨A, c, hb, hg, hc, hr0, hr⟩ := h.head hB
    obtain ⟨hcut1, hC1⟩ := cut_head (m := m) hr hc (by omega)
    obtain ⟨A2, hcut2, hC2⟩ := cut_tail (m := m) hr0 hc (by omega)
    have hlt := blk_lt hb
    have bl : Below w.heap.size w (w.alloc (.cells #[] 5)) := (Below.refl _ w).alloc (Nat.le_refl _) _
    have e0 : w.cell? ⟨g, 0, none⟩ = some (.slice A xs.length c) := (blk_cell hb 0).trans rfl
    have e0' : (w.alloc (.cells #[] 5)).cell? ⟨g, 0, none⟩ = some (.slice A xs.length c) := (bl.cell (p := ⟨g, 0, none⟩) hlt).trans e0
    have hR : ReadsInt (w.alloc (.cells #[] 5)) .u8 A m (xs.take m) := Kd.reads_of_C (d := (0 : Int)) (Kd.C_below hC1 bl)
    have HO := Lib.hid (show (w.alloc (.cells #[] 5)).ownsRow w.heap.size 5 1 (.slice (some ⟨w.heap.size, 0, none⟩) 0 0) ([] : List Int).length (nums .u8 []) from World.ownsRow_made w #[] 0 (Nat.le_refl _) (by decide) rfl)
    have HR := Lib.hid hR
    have HB := Lib.hid hb
    have HBL := Lib.hid bl
    have HT := Lib.hid hC2
    have HN := Lib.hid hn
    have HLEN : Hid ((xs.take m).length = m) := by show (xs.take m).length = m; rw [List.length_take]; omega
    clear e h hn hb hC1 hC2 hr hr0 hB hR bl
    have hm2 : m ≤ 140737488355232 := by omega
    go_enter Try.func143, Try.ntmps143
    go_wp2_with (at_builtin; refine print_append_row (w0 := w) w.heap.size rfl _ _ 22 5 .u8 1 (by rfl) Try.underlying22 info5 (by decide) (.slice (some ⟨w.heap.size, 0, none⟩) 0 0) [] (xs.take m) A m c (by rfl) (by rfl) HO.out HR.out HBL.out (by simp) (by have := HLEN.out; simp; omega) ?_; intro v1 w1 hown hbel hgrow hat; have e1 : w1.cell? ⟨g, 0, none⟩ = some (.slice A xs.length c) := (hbel.cell (p := ⟨g, 0, none⟩) hlt).trans e0; have hb1 : w1.heap[g]? = some (.cells #[.slice A xs.length c, .bool bad] 89 (0, 0)) := (hbel.block g hlt).trans HB.out; have f1 : w1.frozen? ⟨g, 0, none⟩ = false := blk_frozen hb1 0; have HV := Lib.hid hown; have HBel := Lib.hid hbel; have HB1 := Lib.hid hb1; clear hown hbel hgrow hat e0 e0' hb1)
    go_ret
    refine ⟨_, rfl, ?_, Mod.setCell (S := (· = g)) (Mod.of_below HBel.out) (p := ⟨g, 0, none⟩) rfl _, ⟨A2, c - m, by simpa using blk_set HB1.out 0 _, hg, by simp only [List.length_drop]; omega, HT.out⟩⟩
    exact OwnB.keep (S := (· = g)) HV.out (Mod.setCell (S := (· = g)) (Mod.refl _ _) (p := ⟨g, 0, none⟩) rfl _) (fun k hk e => by have := (HV.out.lt k hk).1; omega)

def RTextPost (w0 w : World) (g : Nat) (s : List Int × Rs) (e : Ending) (w' : World) : Prop :=
  e = .returned (.string (strOfNums s.1)) ∧ Mod (· = g) w w' ∧ Ref w0 w' g s.2.1 s.2.2

set_option maxHeartbeats 2000000 in
theorem RText_calls {w0 w : World} {g : Nat} {xs : List Int} {bad : Bool} {most : Int} (hB : Below w0.heap.size w0 w) (h : Ref w0 w g xs bad) (hb : Byt xs) (hl : xs.length ≤ 140737488355232) (hmo : most ≤ 9223372036854775807) :
    Calls Try.prog 142 #[.pointer (some ⟨g, 0, none⟩), .int .i64 most] w (RTextPost w0 w g (rText (xs, bad) most)) := by
  have H0 := Lib.hid h
  by_cases hn : most < 0
  · have e : rText (xs, bad) most = ([], rFail) := by unfold rText; rw [if_pos hn]
    rw [e]
    clear e h hb
    go_enter Try.func142, Try.ntmps142
    go_wp2_with fail
    with_reducible refine (RFail_post H0.out).mono ?_
    rintro e w1 ⟨hm, rfl, hr⟩
    have M1 := Lib.hid hm
    have F1 := Lib.hid hr
    clear hm hr
    go_wp2
    go_ret
    exact ⟨rfl, M1.out, F1.out⟩
  · have hc := RNum_calls (most := most) hB h hb
    have hr := rNum_range (s := (xs, bad)) hb (most := most) (by omega)
    have hby := rNum_byt (s := (xs, bad)) hb most
    have hle := rNum_len (xs, bad) hb most
    have e1 : rText (xs, bad) most = if (rNum (xs, bad) most).1 > (rNum (xs, bad) most).2.1.length then ([], rFail) else rRaw (rNum (xs, bad) most).2 (rNum (xs, bad) most).1 := by unfold rText; rw [if_neg hn]
    rw [e1]
    clear e1
    generalize rNum (xs, bad) most = q at hc hr hby hle ⊢
    obtain ⟨n, r, b1⟩ := q
    simp only at hc hr hby hle ⊢
    obtain ⟨r0, r1, r2⟩ := hr
    have HC := Lib.hid hc
    have HB := Lib.hid hB
    clear hc hb h hB hby
    by_cases hn2 : n > r.length
    · rw [if_pos hn2]
      go_enter Try.func142, Try.ntmps142
      go_wp2_with fail
      with_reducible refine HC.out.mono ?_
      rintro e w1 ⟨hm, rfl, hr1⟩
      have M1 := Lib.hid hm
      have F1 := Lib.hid hr1
      obtain ⟨A, c, h0, h1, h2, h3, -, -⟩ := Ref.cells hr1
      simp only at h0
      clear hm hr1
      go_wp2_with fail
      with_reducible refine (RFail_post F1.out).mono ?_
      rintro e w2 ⟨hm, rfl, hr⟩
      have M2 := Lib.hid (M1.out.trans hm (fun _ _ h => h))
      have F2 := Lib.hid hr
      clear hm hr h0 h1 h2 h3
      go_wp2
      go_ret
      exact ⟨rfl, M2.out, F2.out⟩
    · rw [if_neg hn2]
      go_enter Try.func142, Try.ntmps142
      go_wp2_with fail
      with_reducible refine HC.out.mono ?_
      rintro e w1 ⟨hm, rfl, hr1⟩
      have M1 := Lib.hid hm
      have F1 := Lib.hid hr1
      have HB1 := Lib.hid (H0.out.base HB.out hm)
      obtain ⟨A, c, h0, h1, h2, h3, -, -⟩ := Ref.cells hr1
      simp only at h0
      clear hm hr1
      go_wp2_with fail
      with_reducible refine (RRaw_calls HB1.out F1.out (by show r.length ≤ _; omega)).mono ?_
      rintro e w2 ⟨v, rfl, hv, hm2, hr2⟩
      obtain ⟨A3, n3, c3, rfl, hc3, hC⟩ := hv.any
      have hcv := conv_str (c := c3) hC
      have M2 := Lib.hid (M1.out.trans hm2 (fun _ _ h => h))
      have F2 := Lib.hid hr2
      clear hv hC hm2 hr2 h0 h1 h2 h3
      go_wp2
      go_ret
      exact ⟨rfl, M2.out, F2.out⟩

end Go.Proofs.Ytabdjehnglmlpaa
