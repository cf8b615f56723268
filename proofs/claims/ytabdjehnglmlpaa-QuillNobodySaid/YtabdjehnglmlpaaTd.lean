/- Readers and writers that are nil. -/
import Derived.Test.YtabdjehnglmlpaaSb
namespace Go.Proofs.Ytabdjehnglmlpaa
open Go.RowKit Go.Proofs.YtabdjehnglmlpaaW.PrintWords
set_option linter.unusedVariables false
set_option linter.unusedSimpArgs false
open PM (S97 k97)

theorem Fail_nil (w : World) : Calls Try.prog 132 #[.pointer none] w fun e w' => e = .returned (.tuple #[]) ∧ w' = w := by
  go_enter Try.func132, Try.ntmps132
  go_wp2
  go_end0
  exact ⟨rfl, rfl⟩
theorem number_zero (w : World) (most : Int) (marked : Bool) : Calls Try.prog 103 #[.pointer none, .int .u64 most, .bool marked] w fun e w' => e = .returned (.tuple #[.int .u64 0, .bool false]) ∧ w' = w := by
  go_enter Try.func103, Try.ntmps103
  go_wp2_with (first
    | (go_at_call 28; (with_reducible refine (Left_nil _).mono ?_); rintro e w' ⟨rfl, rfl⟩)
    | (go_at_call 132; (with_reducible refine (Fail_nil _).mono ?_); rintro e w' ⟨rfl, rfl⟩))
  go_ret2
  exact ⟨rfl, rfl⟩
theorem Num_nil (w : World) (most : Int) : Calls Try.prog 22 #[.pointer none, .int .u64 most] w fun e w' => e = .returned (.int .u64 0) ∧ w' = w := by
  go_enter Try.func22, Try.ntmps22
  go_wp2_with (go_at_call 103; (with_reducible refine (number_zero _ _ _).mono ?_); rintro e w' ⟨rfl, rfl⟩)
  go_ret
  exact ⟨rfl, rfl⟩
theorem Int_nil (w : World) : Calls Try.prog 23 #[.pointer none] w fun e w' => e = .returned (.int .i64 0) ∧ w' = w := by
  go_enter Try.func23, Try.ntmps23
  go_wp2_with (go_at_call 103; (with_reducible refine (number_zero _ _ _).mono ?_); rintro e w' ⟨rfl, rfl⟩)
  go_ret
  exact ⟨rfl, rfl⟩
theorem Flag_nil (w : World) : Calls Try.prog 85 #[.pointer none] w fun e w' => e = .returned (.bool false) ∧ w' = w := by
  go_enter Try.func85, Try.ntmps85
  go_wp2_with (go_at_call 22; (with_reducible refine (Num_nil _ _).mono ?_); rintro e w' ⟨rfl, rfl⟩)
  go_ret
  exact ⟨rfl, rfl⟩
theorem End_nil (w : World) : Calls Try.prog 81 #[.pointer none] w fun e w' => e = .returned (.int .i64 1) ∧ w' = w := by
  go_enter Try.func81, Try.ntmps81
  go_wp2
  go_ret
  exact ⟨rfl, rfl⟩
theorem WLen_nil (w : World) : Calls Try.prog 77 #[.pointer none] w fun e w' => e = .returned (.int .i64 0) ∧ w' = w := by
  go_enter Try.func77, Try.ntmps77
  go_wp2
  go_ret
  exact ⟨rfl, rfl⟩
theorem WBytes_nil (w : World) : Calls Try.prog 27 #[.pointer none] w fun e w' => e = .returned (.slice none 0 0) ∧ w' = w := by
  go_enter Try.func27, Try.ntmps27
  go_wp2
  go_ret
  exact ⟨rfl, rfl⟩
theorem WNum_nil (w : World) (A : Option Addr) (n c : Nat) : Calls Try.prog 24 #[.pointer none, .slice A n c] w fun e w' => e = .returned (.tuple #[]) ∧ w' = w := by
  go_enter Try.func24, Try.ntmps24
  go_wp2
  exact bodyPost_ret (results_none (by rfl) _ _ _) rfl ⟨rfl, rfl⟩
theorem WInt_nil (w : World) (A : Option Addr) (n c : Nat) : Calls Try.prog 25 #[.pointer none, .slice A n c] w fun e w' => e = .returned (.tuple #[]) ∧ w' = w := by
  go_enter Try.func25, Try.ntmps25
  go_wp2
  exact bodyPost_ret (results_none (by rfl) _ _ _) rfl ⟨rfl, rfl⟩
theorem WRaw_nil (w : World) (A : Option Addr) (n c : Nat) : Calls Try.prog 139 #[.pointer none, .slice A n c] w fun e w' => e = .returned (.tuple #[]) ∧ w' = w := by
  go_enter Try.func139, Try.ntmps139
  go_wp2
  go_end0
  exact ⟨rfl, rfl⟩
set_option maxHeartbeats 1000000 in
theorem Raw_nil (w : World) (n : Int) : Calls Try.prog 87 #[.pointer none, .int .i64 n] w fun e w' => e = .returned (.slice none 0 0) ∧ w' = w := by
  by_cases h : n < 0
  · go_enter Try.func87, Try.ntmps87
    go_wp2_with (first
      | (go_at_call 28; (with_reducible refine (Left_nil _).mono ?_); rintro e w' ⟨rfl, rfl⟩)
      | (go_at_call 132; (with_reducible refine (Fail_nil _).mono ?_); rintro e w' ⟨rfl, rfl⟩))
    go_ret
    exact ⟨rfl, rfl⟩
  · by_cases h2 : 0 < n
    · go_enter Try.func87, Try.ntmps87
      go_wp2_with (first
        | (go_at_call 28; (with_reducible refine (Left_nil _).mono ?_); rintro e w' ⟨rfl, rfl⟩)
        | (go_at_call 132; (with_reducible refine (Fail_nil _).mono ?_); rintro e w' ⟨rfl, rfl⟩))
      go_ret
      exact ⟨rfl, rfl⟩
    · obtain rfl : n = 0 := by omega
      go_enter Try.func87, Try.ntmps87
      go_wp2_with (first
        | (go_at_call 28; (with_reducible refine (Left_nil _).mono ?_); rintro e w' ⟨rfl, rfl⟩)
        | (go_at_call 132; (with_reducible refine (Fail_nil _).mono ?_); rintro e w' ⟨rfl, rfl⟩))
      go_ret
      exact ⟨rfl, rfl⟩
set_option maxHeartbeats 1000000 in
theorem Text_nil (w : World) (n : Int) (hn : n ≤ 9223372036854775807) : Calls Try.prog 86 #[.pointer none, .int .i64 n] w fun e w' => e = .returned (.string ⟨#[]⟩) ∧ w' = w := by
  by_cases h : n < 0
  · go_enter Try.func86, Try.ntmps86
    go_wp2_with (first
      | (go_at_call 28; (with_reducible refine (Left_nil _).mono ?_); rintro e w' ⟨rfl, rfl⟩)
      | (go_at_call 132; (with_reducible refine (Fail_nil _).mono ?_); rintro e w' ⟨rfl, rfl⟩))
    go_ret
    exact ⟨rfl, rfl⟩
  · have hcv : ∀ W : World, (convert 22 9 (.slice none 0 0)).run Try.prog W = .ok (.string ⟨#[]⟩) W := fun W => conv_str (c := 0) (nil_reads (w := W) (d := Kd.int .u8))
    go_enter Try.func86, Try.ntmps86
    go_wp2_with (first
      | (go_at_call 22; (with_reducible refine (Num_nil _ _).mono ?_); rintro e w' ⟨rfl, rfl⟩)
      | (go_at_call 28; (with_reducible refine (Left_nil _).mono ?_); rintro e w' ⟨rfl, rfl⟩)
      | (go_at_call 87; (with_reducible refine (Raw_nil _ _).mono ?_); rintro e w' ⟨rfl, rfl⟩)
      | (go_at_call 132; (with_reducible refine (Fail_nil _).mono ?_); rintro e w' ⟨rfl, rfl⟩))
    go_ret
    exact ⟨rfl, rfl⟩

set_option maxHeartbeats 1000000 in
theorem WFlag_nil {w : World} {ad : Addr} {b : Bool} {c : Nat} (hr : w.cell? ad = some (.bool b)) :
    Calls Try.prog 135 #[.pointer none, .slice (some ad) 1 c] w fun e w' => e = .returned (.tuple #[]) ∧ Below w.heap.size w w' := by
  go_enter Try.func135, Try.ntmps135
  go_wp2
  cases b
  all_goals
    refine wp_loop_rounds 2 ?_
    rw [rounds_succ]
    go_wp2_with (go_at_call 24; (with_reducible refine (WNum_nil _ _ _ _).mono ?_); rintro e w' ⟨rfl, rfl⟩)
    rw [rounds_succ]
    go_wp2
    go_end0
    exact ⟨rfl, (Below.refl _ _).alloc (Nat.le_refl _) _⟩
set_option maxHeartbeats 1000000 in
theorem WText_nil {w : World} {s : ByteArray} (hs : s.size ≤ 1000) :
    Calls Try.prog 137 #[.pointer none, .string s] w fun e w' => e = .returned (.tuple #[]) ∧ Below w.heap.size w w' := by
  have kb := fun W => print_bytes (P := Try.prog) 9 22 5 Try.underlying9 Try.underlying22 Try.underlying5 s W
  have hsz : (s.size : Int) ≤ 1000 := by omega
  go_enter Try.func137, Try.ntmps137
  go_wp2_with (first
    | (go_at_call 24; (with_reducible refine (WNum_nil _ _ _ _).mono ?_); rintro e w' ⟨rfl, rfl⟩)
    | (go_at_call 139; (with_reducible refine (WRaw_nil _ _ _ _).mono ?_); rintro e w' ⟨rfl, rfl⟩))
  go_end0
  exact ⟨rfl, bytes_below ((Below.refl _ _).alloc (Nat.le_refl _) _) (by simp) 5 s⟩

/-- Whatever is written to nobody. -/
theorem SlPost {w w' : World} {v : Value} {ys : List Int} {base : Nat} (h : Kd.R (Kd.int .u8) 5 w' base (fun _ => True) v ys) : ∃ A n c, v = .slice A n c := by
  obtain ⟨A, n, c, h, -⟩ := Kd_any (w := w) h
  exact ⟨A, n, c, h⟩

set_option maxRecDepth 100000 in
set_option maxHeartbeats 4000000 in
theorem write_nil {w : World} {x : S97} (hx : Item.ok x) (hs : x.f4.size ≤ 1000) :
    Calls Try.prog 76 #[.pointer none, .agg #[.int .i64 x.f0, .int .u64 x.f1, .int .i64 x.f2, .bool x.f3, .string x.f4]] w fun e w' => (∃ A n c, e = .returned (.slice A n c)) ∧ Below w.heap.size w w' := by
  obtain ⟨k, F1, F2, F3, F4⟩ := x
  obtain ⟨x0, x1, x2, x3⟩ := hx
  simp only at hs x0 x1 x2 x3 ⊢
  have hk1 := heap_alloc_new w (.cells #[.int .i64 k, .int .u64 F1, .int .i64 F2, .bool F3, .string F4] 97)
  have c3 : (w.alloc (.cells #[.int .i64 k, .int .u64 F1, .int .i64 F2, .bool F3, .string F4] 97)).cell? ⟨w.heap.size, 3, none⟩ = some (.bool F3) := (blk_cell hk1 3).trans rfl
  have c4 : (w.alloc (.cells #[.int .i64 k, .int .u64 F1, .int .i64 F2, .bool F3, .string F4] 97)).cell? ⟨w.heap.size, 4, none⟩ = some (.string F4) := (blk_cell hk1 4).trans rfl
  have hz : w.heap.size < (w.alloc (.cells #[.int .i64 k, .int .u64 F1, .int .i64 F2, .bool F3, .string F4] 97)).heap.size := by simp
  have hsz1 : (w.alloc (.cells #[.int .i64 k, .int .u64 F1, .int .i64 F2, .bool F3, .string F4] 97)).heap.size = w.heap.size + 1 := by simp
  have D1 := Lib.hid ((Below.refl w.heap.size w).alloc (Nat.le_refl _) (.cells #[.int .i64 k, .int .u64 F1, .int .i64 F2, .bool F3, .string F4] 97))
  clear hk1
  by_cases k1 : k = 1
  · subst k1
    clear c3 c4 hz hsz1
    go_enter Try.func76, Try.ntmps76
    go_wp2_with (first
      | (go_at_call 25; (with_reducible refine (WInt_nil _ _ _ _).mono ?_); rintro e w' ⟨rfl, rfl⟩)
      | (go_at_call 79; (with_reducible refine (RefInt_calls x2 x3).mono ?_); rintro e w3 ⟨v3, rfl, hv, hb⟩; obtain ⟨A3, n3, q3, rfl⟩ := SlPost (w := w) hv; have B3 := Lib.hid hb; clear hv hb))
    go_ret
    exact ⟨⟨_, _, _, rfl⟩, ((D1.out.alloc (by simp) _).trans (B3.out.mono (by simp; omega)))⟩
  by_cases k2 : k = 2
  · subst k2
    clear k1
    have hk2 := heap_alloc_new (w.alloc (.cells #[.int .i64 2, .int .u64 F1, .int .i64 F2, .bool F3, .string F4] 97)) (.cells #[.bool F3] 4)
    have HF := Lib.hid (WFlag_nil (c := 1) ((blk_cell hk2 0).trans rfl))
    have D2 := Lib.hid (D1.out.alloc (by simp) (.cells #[.bool F3] 4))
    have e3 := (((Mod.refl (fun _ => False) (w.alloc (.cells #[.int .i64 2, .int .u64 F1, .int .i64 F2, .bool F3, .string F4] 97))).alloc (.cells #[.bool F3] 4)).cell (p := ⟨w.heap.size, 3, none⟩) hz (fun h => h)).trans c3
    have hz2 : w.heap.size < ((w.alloc (.cells #[.int .i64 2, .int .u64 F1, .int .i64 F2, .bool F3, .string F4] 97)).alloc (.cells #[.bool F3] 4)).heap.size := Nat.lt_of_lt_of_le hz (by simp)
    rw [hsz1] at HF
    have E3 := Lib.hid e3
    clear hk2 e3
    go_enter Try.func76, Try.ntmps76
    go_wp2_with fail
    with_reducible refine HF.out.mono ?_
    rintro e w2 ⟨rfl, hb⟩
    have d2 : w2.cell? ⟨w.heap.size, 3, none⟩ = some (.bool F3) := (hb.cell (p := ⟨w.heap.size, 3, none⟩) hz2).trans E3.out
    have D3 := Lib.hid (D2.out.trans (hb.mono (by simp; omega)))
    clear hb c3 c4 hz hz2 HF
    go_wp2_with fail
    with_reducible refine (RefFlag_calls).mono ?_
    rintro e w3 ⟨v3, rfl, hv, hb⟩
    obtain ⟨A3, n3, q3, rfl⟩ := SlPost (w := w) hv
    have D4 := Lib.hid (D3.out.trans (hb.mono D3.out.size))
    clear hv hb d2
    go_wp2
    go_ret
    exact ⟨⟨_, _, _, rfl⟩, D4.out⟩
  by_cases k3 : k = 3
  · subst k3
    clear k1 k2
    go_enter Try.func76, Try.ntmps76
    go_wp2_with fail
    with_reducible refine (WText_nil hs).mono ?_
    rintro e w2 ⟨rfl, hb⟩
    have d2 : w2.cell? ⟨w.heap.size, 4, none⟩ = some (.string F4) := (hb.cell (p := ⟨w.heap.size, 4, none⟩) hz).trans c4
    have D3 := Lib.hid (D1.out.trans (hb.mono (by simp)))
    clear hb c3 c4 hz
    go_wp2_with fail
    with_reducible refine (RefText_calls hs).mono ?_
    rintro e w3 ⟨v3, rfl, hv, hb⟩
    obtain ⟨A3, n3, q3, rfl⟩ := SlPost (w := w) hv
    have D4 := Lib.hid (D3.out.trans (hb.mono D3.out.size))
    clear hv hb d2
    go_wp2
    go_ret
    exact ⟨⟨_, _, _, rfl⟩, D4.out⟩
  by_cases k4 : k = 4
  · subst k4
    clear k1 k2 k3
    have kb := fun W => print_bytes (P := Try.prog) 9 22 5 Try.underlying9 Try.underlying22 Try.underlying5 F4 W
    have hbW := bytes_below (Below.refl (w.alloc (.cells #[.int .i64 4, .int .u64 F1, .int .i64 F2, .bool F3, .string F4] 97)).heap.size (w.alloc (.cells #[.int .i64 4, .int .u64 F1, .int .i64 F2, .bool F3, .string F4] 97))) (Nat.le_refl _) 5 F4
    have C4 := Lib.hid ((hbW.cell (p := ⟨w.heap.size, 4, none⟩) hz).trans c4)
    have D2 := Lib.hid (D1.out.trans (hbW.mono (by simp)))
    clear hbW
    go_enter Try.func76, Try.ntmps76
    go_wp2_with fail
    with_reducible refine (WRaw_nil _ _ _ _).mono ?_
    rintro e w2 ⟨rfl, rfl⟩
    have d2 := C4.out
    have D3 := Lib.hid (D2.out.trans ((bytes_below (Below.refl _ _) (Nat.le_refl _) 5 F4).mono D2.out.size))
    clear c3 c4 hz
    go_wp2
    go_ret
    exact ⟨⟨_, _, _, rfl⟩, D3.out⟩
  · have e1 : (k == 1) = false := beq_eq_false_iff_ne.mpr k1
    have e2 : (k == 2) = false := beq_eq_false_iff_ne.mpr k2
    have e3 : (k == 3) = false := beq_eq_false_iff_ne.mpr k3
    have e4 : (k == 4) = false := beq_eq_false_iff_ne.mpr k4
    clear c3 c4 hz hsz1
    go_enter Try.func76, Try.ntmps76
    go_wp2_with (first
      | (go_at_call 24; (with_reducible refine (WNum_nil _ _ _ _).mono ?_); rintro e w' ⟨rfl, rfl⟩)
      | (go_at_call 78; (with_reducible refine (RefNum_calls x0 x1).mono ?_); rintro e w3 ⟨v3, rfl, hv, hb⟩; obtain ⟨A3, n3, q3, rfl⟩ := SlPost (w := w) hv; have B3 := Lib.hid hb; clear hv hb))
    go_ret
    exact ⟨⟨_, _, _, rfl⟩, ((D1.out.alloc (by simp) _).trans (B3.out.mono (by simp; omega)))⟩

theorem wf_u64' {x : Int} (h : (Lit.int .u64 x).wf = true) : 0 ≤ x ∧ x ≤ 18446744073709551615 := by
  simp only [Lit.wf, Bool.and_eq_true, decide_eq_true_eq] at h
  exact ⟨h.1, by have h2 := h.2; simpa [IntKind.max, IntKind.signed, IntKind.bits] using h2⟩
theorem wf_i64' {x : Int} (h : (Lit.int .i64 x).wf = true) : -9223372036854775808 ≤ x ∧ x ≤ 9223372036854775807 := by
  simp only [Lit.wf, Bool.and_eq_true, decide_eq_true_eq] at h
  have h1 := h.1
  have h2 := h.2
  simp [IntKind.max, IntKind.min, IntKind.signed, IntKind.bits] at h1 h2
  exact ⟨h1, h2⟩

end Go.Proofs.Ytabdjehnglmlpaa
