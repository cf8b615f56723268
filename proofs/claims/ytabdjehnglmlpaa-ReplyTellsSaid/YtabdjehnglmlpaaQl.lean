/- QuillOnce: the walk. -/
import Derived.Test.YtabdjehnglmlpaaQk
import Derived.Test.YtabdjehnglmlpaaQq
import Derived.Deep.RegionWith
import Derived.StillTailTactics
import Derived.Deep.DeepCutAuto
namespace Go.Proofs.Ytabdjehnglmlpaa
open Go.RowKit Go.Proofs.YtabdjehnglmlpaaW.PrintWords
set_option linter.unusedVariables false
attribute [local irreducible] wpStill
set_option linter.unusedSimpArgs false

theorem Below.dn {B : Nat} {a w : World} (h : Below B a w) (n : Nat) : Below B a (w.drewN n) := ⟨h.os, h.tape, h.output, h.size, h.block⟩
theorem Wtr.new_at (w : World) {B H : Nat} (hB : B ≤ w.heap.size) (hH : w.heap.size = H) : Wtr B (w.alloc (.cells #[.slice none 0 0] 30)) H (.slice none 0 0) [] := by
  subst hH; exact Wtr.new w hB
theorem Wtr.keep {B : Nat} {w w' : World} {g : Nat} {v : Value} {xs : List Int} {S : Nat → Prop} (h : Wtr B w g v xs) (hm : Mod S w w') (hg : ¬ S g) (hv : ∀ k, v.ownBlock = some k → ¬ S k) : Wtr B w' g v xs :=
  ⟨hm.blk h.1 hg, h.2.1, OwnB.keep h.2.2 hm hv⟩
theorem Wtr.drew {B : Nat} {w : World} {g : Nat} {v : Value} {xs : List Int} (h : Wtr B w g v xs) : Wtr B w.drew g v xs := h
theorem Rdr.drew {w0 w : World} {g : Nat} {xs : List Int} {bad : Bool} (h : Rdr w0 w g xs bad) : Rdr w0 w.drew g xs bad := h
/-- Two writers: a call on one leaves the other. -/
theorem Wtr.beside {B : Nat} {w w' : World} {g g2 : Nat} {v v2 v2' : Value} {xs ys zs : List Int} (h : Wtr B w g v xs) (h2 : Wtr B w g2 v2 ys) (hg : g ≠ g2) (hv : ∀ k, v.ownBlock = some k → v2.ownBlock ≠ some k) (hs : WStep B w w' g2 v2 v2' zs) : Wtr B w' g v xs :=
  h.keep hs.mod (by rintro (e | e); exact hg e; exact own_ne h2.2.2 h.1 (by decide) e.symm) (fun k hk => by
    rintro (e | e)
    · subst e; exact own_ne h.2.2 h2.1 (by decide) hk.symm
    · exact hv k hk e)

set_option maxRecDepth 100000 in
set_option maxHeartbeats 1000000 in
theorem QuillOnce_big {w : World} {A : Option Addr} {n c : Nat} (h : 3000 < n) (hm : n ≤ 9223372036854775807) :
    Calls Try.prog 3 #[.slice A n c] w fun e w' => e = .returned (.bool true) ∧ Below w.heap.size w w' := by
  go_enter Try.func3, Try.ntmps3
  go_wp2_with (go_at_call 20; refine (lives01_calls _).mono ?_; rintro e w' ⟨rfl, hb⟩; have HB := Lib.hid hb; clear hb)
  go_ret
  exact ⟨rfl, HB.out⟩

set_option maxRecDepth 100000 in
set_option maxHeartbeats 2000000 in
theorem QuillOnce_small {w : World} {A : Option Addr} {n c : Nat} {xs : List Int} (hr : Kd.C (Kd.int .u8) w A n xs) (hc : n ≤ c) (hn : n ≤ 3000) (hb : Byt xs) :
    Calls Try.prog 3 #[.slice A n c] w fun e w' => e = .returned (.bool true) ∧ Below w.heap.size w w' := by
  have hq := rNum_range (s := (xs, false)) (most := 18446744073709551615) hb (by decide)
  have hp := rInt_range (s := (xs, false)) hb
  have HN : ∀ (w1 : World) (g : Nat), Below w.heap.size w w1 → Rdr w w1 g xs false → Calls Try.prog 22 #[.pointer (some ⟨g, 0, none⟩), .int .u64 18446744073709551615] w1 (RdPost w w1 g (.int .u64 (rNum (xs, false) 18446744073709551615).1) (rNum (xs, false) 18446744073709551615).2) := fun _ _ h1 h2 => Num_calls h1 h2 hb
  have HI : ∀ (w1 : World) (g : Nat), Below w.heap.size w w1 → Rdr w w1 g xs false → Calls Try.prog 23 #[.pointer (some ⟨g, 0, none⟩)] w1 (RdPost w w1 g (.int .i64 (rInt (xs, false)).1) (rInt (xs, false)).2) := fun _ _ h1 h2 => Int_calls h1 h2 hb
  have HL : Hid (xs.length = n) := hr.1
  have e1 : (rNum (xs, false) 18446744073709551615).2.2 = false → encN (rNum (xs, false) 18446744073709551615).1 0 ++ (rNum (xs, false) 18446744073709551615).2.1 = xs := rNum_enc hb
  have e2 : (rInt (xs, false)).2.2 = false → encI (rInt (xs, false)).1 ++ (rInt (xs, false)).2.1 = xs := rInt_enc hb
  revert HN HI e1 e2
  generalize rNum (xs, false) 18446744073709551615 = q at hq ⊢
  generalize rInt (xs, false) = p at hp ⊢
  obtain ⟨n1, rl, rb⟩ := q
  obtain ⟨i1, sl, sb⟩ := p
  intro HN HI e1 e2
  have HN' := Lib.hid HN
  have HI' := Lib.hid HI
  have E1 := Lib.hid e1
  have E2 := Lib.hid e2
  have HR := Lib.hid hr
  simp only at hq hp
  obtain ⟨q0, q1, -⟩ := hq
  obtain ⟨p0, p1⟩ := hp
  clear HN HI e1 e2 hr hb
  go_enter Try.func3, Try.ntmps3
  go_wp2_with fail
  refine (Open_any (Below.refl _ _) HR.out hc).mono ?_
  rintro e w1 ⟨rfl, hr1, hb1⟩
  have R1 := Lib.hid hr1; have B1 := Lib.hid hb1; clear hr1 hb1
  go_wp2_with fail
  refine (Open_any B1.out HR.out hc).mono ?_
  rintro e w2 ⟨rfl, hr1, hb1⟩
  have R2 := Lib.hid hr1; have B2 := Lib.hid hb1; clear hr1 hb1
  have R1b := Lib.hid (R1.out.keep (Mod.of_below (S := fun _ => False) B2.out) (fun h => h))
  have B2b := Lib.hid (B1.out.trans (B2.out.mono B1.out.size))
  go_wp2_with fail
  refine (HN'.out _ _ B2b.out R1b.out).mono ?_
  rintro e w3 ⟨hm, rfl, hr1⟩
  have R3 := Lib.hid hr1; have M3 := Lib.hid hm; clear hr1 hm
  have hne : w1.heap.size ≠ w.heap.size := by have := R1.out.ge.2; omega
  have R2b := Lib.hid (R2.out.keep M3.out hne)
  have B3 := Lib.hid (R1b.out.base B2b.out M3.out)
  go_wp2_with fail
  refine (HI'.out _ _ B3.out R2b.out).mono ?_
  rintro e w4 ⟨hm, rfl, hr1⟩
  have R4 := Lib.hid hr1; have M4 := Lib.hid hm; clear hr1 hm
  have R3b := Lib.hid (R3.out.keep M4.out (Ne.symm hne))
  have B4 := Lib.hid (R2b.out.base B3.out M4.out)
  have W1 := Lib.hid ((Wtr.new_at w4 (B := w4.heap.size) (Nat.le_refl _) rfl).alloc (.cells #[.slice none 0 0] 30))
  have W2 := Lib.hid (Wtr.new_at (w4.alloc (.cells #[.slice none 0 0] 30)) (B := w4.heap.size) (H := w4.heap.size + 1) (by simp) (by simp))
  have D4 := Lib.hid (((Below.refl w4.heap.size w4).alloc (Nat.le_refl _) (.cells #[.slice none 0 0] 30)).alloc (by simp) (.cells #[.slice none 0 0] 30))
  go_wp2_with fail
  with_reducible refine (WNum_lit [n1] #[.int .u64 n1] 1 _ W1.out (by simp) rfl rfl (U64.one q0 q1) (by simp)).mono ?_
  rintro e w5 ⟨rfl, v1, hs⟩
  rw [encNs_one, List.nil_append] at hs
  have S1 := Lib.hid hs
  have W2b := Lib.hid (W2.out.beside W1.out (by omega) (fun k hk => by simp [Value.ownBlock] at hk) hs)
  clear hs
  have D5 := Lib.hid (D4.out.trans (WStep.base W1.out S1.out))
  go_wp2_with fail
  with_reducible refine (WInt_lit [i1] #[.int .i64 i1] 1 _ W2b.out rfl rfl rfl (I64.one p0 p1) (by simp)).mono ?_
  rintro e w6 ⟨rfl, v2, hs⟩
  rw [encIs_one, List.nil_append] at hs
  have S2 := Lib.hid hs
  have W1b := Lib.hid ((S1.out.w.beside W2b.out (by omega) (fun k hk => by simp [Value.ownBlock]) hs).drew)
  have W2c := Lib.hid S2.out.w.drew
  clear hs
  have D6 := Lib.hid (D5.out.trans (WStep.base W2b.out S2.out))
  have R3c := Lib.hid ((R3b.out.keep (Mod.of_below (S := fun _ => False) D6.out) (fun h => h)).drew)
  have R4c := Lib.hid ((R4.out.keep (Mod.of_below (S := fun _ => False) D6.out) (fun h => h)).drew)
  have B6 : Hid (Below w.heap.size w w6.drew) := (B4.out.trans (D6.out.mono B4.out.size)).drew
  clear W1 W2 S1 W2b D4 D5 S2 R1 B1 R2 B2 R1b B2b R3 M3 R2b B3 R4 M4 R3b B4 HN' HI'
  have hqs : sb = false → sl.length ≤ n := fun h => by have := (take_of_append (E2.out h)).2; have := HL.out; omega
  have HQ := Lib.hid hqs
  clear hqs
  go_upto_region 8 with fail
  go_cut [42] (fun s42 wx => s42 = .bool false ∧ Hid (Rdr w wx w1.heap.size sl sb) ∧ Hid (Wtr w4.heap.size wx (w4.heap.size + 1) v2 (encI i1)) ∧ Hid (Below w.heap.size w wx))
  case first =>
    cases rb
    · obtain ⟨ek, hk⟩ := take_of_append (E1.out rfl)
      have hk2 : rl.length ≤ n := by have := HL.out; omega
      have hq1 : IntKind.i64.wrap ((n : Int) - rl.length) = ((n - rl.length : Nat) : Int) := by rw [IntWalk.i64_in _ (by omega)]; omega
      have hrx : Kd.C (Kd.int .u8) w A xs.length xs := by rw [HL.out]; exact HR.out
      obtain ⟨hcut, hC2⟩ := cut_head (m := n - rl.length) (c := c) hrx (by have := HL.out; omega) (by have := HL.out; omega)
      rw [HL.out] at hcut ek
      rw [ek] at hC2
      have C2 := Lib.hid hC2
      have hsz : (encN n1 0).length ≤ 140737488355232 := by have := encN_len n1 0; omega
      clear ek hC2 hrx hk
      go_region_with (first
        | (go_at_call 26; (with_reducible refine (Bad_calls R3c.out).mono ?_); rintro e w7 ⟨rfl, rfl⟩)
        | (go_at_call 27; (with_reducible refine (WBytes_calls W1b.out hsz).mono ?_); rintro e w7 ⟨v7, rfl, hv, hb⟩; obtain ⟨A7, n7, c7, rfl, hc7, hC7⟩ := hv.any; have hcv := conv_str (c := c7) hC7; have hcv2 := conv_str (c := c) (Kd.C_below C2.out (B6.out.trans (hb.mono B6.out.size))); have R4d := Lib.hid (R4c.out.keep (Mod.of_below (S := fun _ => False) hb) (fun h => h)); have W2d := Lib.hid (W2c.out.below hb); have B7 := Lib.hid (B6.out.trans (hb.mono B6.out.size)); have R3d := Lib.hid (R3c.out.keep (Mod.of_below (S := fun _ => False) hb) (fun h => h)); clear hv hC7 hb)
        | (go_at_call 28; (with_reducible refine (Left_calls R3d.out).mono ?_); rintro e w8 ⟨rfl, rfl⟩))
      all_goals (go_wp2_with fail; go_meet; exact ⟨rfl, R4d, W2d, B7⟩)
    · go_quiet ((go_at_call 26; exact Calls.quiet_of_same (Bad_calls R3c.out)))
      go_wp2_with fail
      go_meet
      exact ⟨rfl, R4c, W2c, Below.dn (show Below w.heap.size w w6 from ⟨B6.out.os, B6.out.tape, B6.out.output, B6.out.size, B6.out.block⟩) _⟩
  case rest =>
    clear R3c R4c W1b W2c B6 E1
    obtain ⟨rfl, R5, W5, B5⟩ := hcut
    go_wp2_with fail
    have R6 : Hid (Rdr w wc.drew w1.heap.size sl sb) := R5
    have W6 : Hid (Wtr w4.heap.size wc.drew (w4.heap.size + 1) v2 (encI i1)) := W5
    have B6 : Hid (Below w.heap.size w wc.drew) := B5.out.drew
    clear R5 W5 B5
    cases sb
    · obtain ⟨ek, hk⟩ := take_of_append (E2.out rfl)
      have hk2 : sl.length ≤ n := by have := HL.out; omega
      have hq1 : IntKind.i64.wrap ((n : Int) - sl.length) = ((n - sl.length : Nat) : Int) := by rw [IntWalk.i64_in _ (by omega)]; omega
      have hrx : Kd.C (Kd.int .u8) w A xs.length xs := by rw [HL.out]; exact HR.out
      obtain ⟨hcut, hC2⟩ := cut_head (m := n - sl.length) (c := c) hrx (by have := HL.out; omega) (by have := HL.out; omega)
      rw [HL.out] at hcut ek
      rw [ek] at hC2
      have C2 := Lib.hid hC2
      have hsz : (encI i1).length ≤ 140737488355232 := by have := encI_len i1; omega
      clear ek hC2 hrx hk
      go_region_with (first
        | (go_at_call 26; (with_reducible refine (Bad_calls R6.out).mono ?_); rintro e w7 ⟨rfl, rfl⟩)
        | (go_at_call 27; (with_reducible refine (WBytes_calls W6.out hsz).mono ?_); rintro e w7 ⟨v7, rfl, hv, hb⟩; obtain ⟨A7, n7, c7, rfl, hc7, hC7⟩ := hv.any; have hcv := conv_str (c := c7) hC7; have hcv2 := conv_str (c := c) (Kd.C_below C2.out (B6.out.trans (hb.mono B6.out.size))); have B7 := Lib.hid (B6.out.trans (hb.mono B6.out.size)); have R3d := Lib.hid (R6.out.keep (Mod.of_below (S := fun _ => False) hb) (fun h => h)); clear hv hC7 hb)
        | (go_at_call 28; (with_reducible refine (Left_calls R3d.out).mono ?_); rintro e w8 ⟨rfl, rfl⟩)
        | (go_at_call 20; (with_reducible refine (lives01_calls _).mono ?_); rintro e w9 ⟨rfl, hb⟩; have B9 := Lib.hid (B7.out.trans (hb.mono B7.out.size)); clear hb))
      all_goals
        go_wp2_with fail
        go_ret
        exact ⟨rfl, B9.out⟩
    · refine wp_region_still_tail 16 (by kernel_rfl) (by kernel_rfl) ?_
      simp only [List.take_succ_cons, List.take_zero, List.drop_succ_cons, List.drop_zero]
      change wpStill _ _ (World.drew wc) _ _ _
      still_step
      refine wpStill_step (fun K hK => ?_)
      go_simp
      refine ⟨.bool true, Bad_calls R6.out, hK _ ?_⟩
      clear hK K
      iterate 14 still_step
      refine wpStill_nil ?_
      change wpList _ _ _ _ _ wc.drew
      go_wp2_with (go_at_call 20; (with_reducible refine (lives01_calls _).mono ?_); rintro e w9 ⟨rfl, hb⟩; have B9 := Lib.hid (B6.out.trans (hb.mono B6.out.size)); clear hb)
      go_ret
      exact ⟨rfl, B9.out⟩

theorem byt_of_wf {xs : List Int} (h : ∀ x ∈ xs, (Lit.int .u8 x).wf = true) : Byt xs := fun x hx => by
  have := h x hx
  simp only [Lit.wf, Bool.and_eq_true, decide_eq_true_eq] at this
  exact ⟨this.1, by have h2 := this.2; simpa [IntKind.max, IntKind.signed, IntKind.bits] using h2⟩
theorem QuillOnce_walk {w : World} {A : Option Addr} {n c : Nat} {xs : List Int} (hr : Kd.C (Kd.int .u8) w A n xs) (hc : n ≤ c) (hy : n * 1 ≤ 140737488351232) (hw : ∀ x ∈ xs, (Lit.int .u8 x).wf = true) :
    Calls Try.prog 3 #[.slice A n c] w fun e w' => e = .returned (.bool true) ∧ Below w.heap.size w w' := by
  by_cases h : 3000 < n
  · exact QuillOnce_big h (by omega)
  · exact QuillOnce_small hr hc (by omega) (byt_of_wf hw)
end Go.Proofs.Ytabdjehnglmlpaa
