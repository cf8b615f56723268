/- curfewlaw01.read: both readers, one thing. -/
import Derived.Test.YtabdjehnglmlpaaNs
import Derived.Test.YtabdjehnglmlpaaQg
import Derived.Deep.RegionWith
namespace Go.Proofs.Ytabdjehnglmlpaa
open Go.RowKit Go.Proofs.YtabdjehnglmlpaaW.PrintWords
set_option linter.unusedVariables false
set_option linter.unusedSimpArgs false

/-- Two readers of the same bytes: the program's at g, the reference's at g'. -/
structure Duo (w0 W : World) (g g' : Nat) (xs : List Int) (b : Bool) (ys : List Int) (c : Bool) : Prop where
  base : Below w0.heap.size w0 W
  rd : Rdr w0 W g xs b
  rf : Ref w0 W g' ys c
  ne : g ≠ g'
section
variable {w0 W W' : World} {g g' : Nat} {xs ys zs : List Int} {b c d : Bool}
theorem Duo.left (h : Duo w0 W g g' xs b ys c) (hm : Mod (· = g) W W') (hr : Rdr w0 W' g zs d) : Duo w0 W' g g' zs d ys c :=
  ⟨h.rd.base h.base hm, hr, h.rf.keep hm (fun e => h.ne e.symm), h.ne⟩
theorem Duo.right (h : Duo w0 W g g' xs b ys c) (hm : Mod (· = g') W W') (hr : Ref w0 W' g' zs d) : Duo w0 W' g g' xs b zs d :=
  ⟨h.rf.base h.base hm, h.rd.keep hm h.ne, hr, h.ne⟩
theorem Duo.past (h : Duo w0 W g g' xs b ys c) (hm : Mod (fun _ => False) W W') : Duo w0 W' g g' xs b ys c :=
  ⟨Below.mod_trans h.base hm (Nat.le_refl _) (fun _ _ h => h), h.rd.keep hm (fun h => h), h.rf.keep hm (fun h => h), h.ne⟩
theorem Duo.alloc (h : Duo w0 W g g' xs b ys c) (o : Obj) : Duo w0 (W.alloc o) g g' xs b ys c := h.past ((Mod.refl _ _).alloc o)
theorem Duo.drew (h : Duo w0 W g g' xs b ys c) : Duo w0 W.drew g g' xs b ys c := h.past ((Mod.refl _ _).drew)
theorem Duo.below (h : Duo w0 W g g' xs b ys c) (hb : Below W.heap.size W W') : Duo w0 W' g g' xs b ys c := h.past (Mod.of_below hb)
end

theorem OwnB.C {w : World} {base n c : Nat} {A : Option Addr} {xs : List Int} (h : OwnB w base (.slice A n c) xs) : Kd.C (Kd.int .u8) w A n xs := by
  obtain ⟨A', n', c', e, _, hC⟩ := h.any
  injection e with e1 e2 e3
  subst e1 e2 e3
  exact hC

/-- What is read by an ask: the new state. -/
def ask (s : Rs) (k N M : Int) : Rs :=
  if k = 1 then (rInt s).2 else if k = 2 then (rFlag s).2 else if k = 3 then (rText s N).2 else if k = 4 then (rRaw s N).2 else if k = 5 then rFail else (rNum s M).2

/-- The blocks of the two readers. -/
def GG (g g' : Nat) (i : Nat) : Prop := i = g ∨ i = g'
def ReadPost (w0 w : World) (g g' : Nat) (s : Rs) (e : Ending) (w' : World) : Prop :=
  e = .returned (.bool true) ∧ Mod (GG g g') w w' ∧ Duo w0 w' g g' s.1 s.2 s.1 s.2

theorem Mod.gl {g g' : Nat} {a b c : World} (h : Mod (GG g g') a b) (k : Mod (· = g) b c) : Mod (GG g g') a c := h.trans k (fun _ _ e => .inl e)
theorem Mod.gr {g g' : Nat} {a b c : World} (h : Mod (GG g g') a b) (k : Mod (· = g') b c) : Mod (GG g g') a c := h.trans k (fun _ _ e => .inr e)

set_option maxRecDepth 100000 in
set_option maxHeartbeats 4000000 in
theorem read_calls {w0 w : World} {g g' : Nat} {xs : List Int} {bad : Bool} {k N M : Int} (h : Duo w0 w g g' xs bad xs bad) (hb : Byt xs) (hl : xs.length ≤ 3000)
    (hN : N ≤ 9223372036854775807) :
    Calls Try.prog 80 #[.pointer (some ⟨g, 0, none⟩), .pointer (some ⟨g', 0, none⟩), .agg #[.int .i64 k, .int .i64 N, .int .u64 M]] w (ReadPost w0 w g g' (ask (xs, bad) k N M)) := by
  have hk1 := heap_alloc_new w (.cells #[.int .i64 k, .int .i64 N, .int .u64 M] 104)
  have c0 : (w.alloc (.cells #[.int .i64 k, .int .i64 N, .int .u64 M] 104)).cell? ⟨w.heap.size, 0, none⟩ = some (.int .i64 k) := (blk_cell hk1 0).trans rfl
  have c1 : (w.alloc (.cells #[.int .i64 k, .int .i64 N, .int .u64 M] 104)).cell? ⟨w.heap.size, 1, none⟩ = some (.int .i64 N) := (blk_cell hk1 1).trans rfl
  have c2 : (w.alloc (.cells #[.int .i64 k, .int .i64 N, .int .u64 M] 104)).cell? ⟨w.heap.size, 2, none⟩ = some (.int .u64 M) := (blk_cell hk1 2).trans rfl
  have hz : w.heap.size < (w.alloc (.cells #[.int .i64 k, .int .i64 N, .int .u64 M] 104)).heap.size := by simp
  have D1 := Lib.hid (h.alloc (.cells #[.int .i64 k, .int .i64 N, .int .u64 M] 104))
  have D1d := Lib.hid (h.alloc (.cells #[.int .i64 k, .int .i64 N, .int .u64 M] 104)).drew
  have M1 := Lib.hid ((Mod.refl (GG g g') w).alloc (.cells #[.int .i64 k, .int .i64 N, .int .u64 M] 104))
  have M1d := Lib.hid ((Mod.refl (GG g g') w).alloc (.cells #[.int .i64 k, .int .i64 N, .int .u64 M] 104)).drew
  have hg1 : w.heap.size ≠ g := by have := h.rd.ge; omega
  have hg2 : g' < w.heap.size := h.rf.ge.2
  have HY := Lib.hid hb
  have hl2 : xs.length ≤ 140737488355232 := by omega
  clear hk1 h hb
  by_cases k1 : k = 1
  · subst k1
    rw [show ask (xs, bad) 1 N M = (rInt (xs, bad)).2 from rfl]
    have HR : Hid (rInt (xs, bad) = rInt (xs, bad)) := rfl
    go_enter Try.func80, Try.ntmps80
    go_wp2_with fail
    with_reducible refine (Int_calls D1.out.base D1.out.rd HY.out).mono ?_
    rintro e w2 ⟨hm, rfl, hr⟩
    have D2 := Lib.hid (D1.out.left hm hr)
    have M2 := Lib.hid (M1.out.gl hm)
    clear hm hr c0 c1 c2
    go_wp2_with fail
    with_reducible refine (RInt_calls D2.out.base D2.out.rf HY.out).mono ?_
    rintro e w3 ⟨hm, rfl, hr⟩
    have D3 := Lib.hid (D2.out.right hm hr)
    have M3 := Lib.hid (M2.out.gr hm)
    clear hm hr
    go_wp2
    go_ret
    exact ⟨rfl, M3.out, D3.out⟩
  by_cases k2 : k = 2
  · subst k2
    rw [show ask (xs, bad) 2 N M = (rFlag (xs, bad)).2 from rfl]
    clear k1
    go_enter Try.func80, Try.ntmps80
    go_wp2_with fail
    with_reducible refine (Flag_calls D1.out.base D1.out.rd HY.out).mono ?_
    rintro e w2 ⟨hm, rfl, hr⟩
    have D2 := Lib.hid (D1.out.left hm hr)
    have M2 := Lib.hid (M1.out.gl hm)
    clear hm hr c0 c1 c2
    go_wp2_with fail
    with_reducible refine (RFlag_calls D2.out.base D2.out.rf HY.out).mono ?_
    rintro e w3 ⟨hm, rfl, hr⟩
    have D3 := Lib.hid (D2.out.right hm hr)
    have M3 := Lib.hid (M2.out.gr hm)
    clear hm hr
    go_wp2
    go_ret
    exact ⟨rfl, M3.out, D3.out⟩
  by_cases k3 : k = 3
  · subst k3
    rw [show ask (xs, bad) 3 N M = (rText (xs, bad) N).2 from rfl]
    clear k1 k2
    go_enter Try.func80, Try.ntmps80
    go_wp2_with fail
    go_region_with (first
      | (go_at_call 86; (with_reducible refine (Text_calls D1d.out.base D1d.out.rd HY.out hl2 hN).mono ?_); rintro e w2 ⟨rfl, hm, hr⟩; have c1' : w2.cell? ⟨w.heap.size, 1, none⟩ = some (.int .i64 N) := (hm.cell (p := ⟨w.heap.size, 1, none⟩) hz hg1).trans c1; have D2 := Lib.hid (D1d.out.left hm hr); have M2 := Lib.hid (M1d.out.gl hm); clear hm hr)
      | (go_at_call 142; (with_reducible refine (RText_calls D2.out.base D2.out.rf HY.out hl2 hN).mono ?_); rintro e w3 ⟨rfl, hm, hr⟩; have D3 := Lib.hid (D2.out.right hm hr); have M3 := Lib.hid (M2.out.gr hm); clear hm hr))
    all_goals
      go_wp2
      go_ret
      exact ⟨rfl, M3.out, D3.out⟩
  by_cases k4 : k = 4
  · subst k4
    rw [show ask (xs, bad) 4 N M = (rRaw (xs, bad) N).2 from rfl]
    clear k1 k2 k3
    go_enter Try.func80, Try.ntmps80
    go_wp2_with fail
    go_region_with (first
      | (go_at_call 87; (with_reducible refine (Raw_calls D1d.out.base D1d.out.rd hl2).mono ?_); rintro e w2 ⟨v2, rfl, hv, hm, hr⟩; obtain ⟨A2, n2, q2, rfl, hc2, hC2⟩ := hv.any; have hcv := conv_str (c := q2) hC2; have C2 := Lib.hid hC2; have z2 : w2.heap.size = w2.heap.size := rfl; have c1' : w2.cell? ⟨w.heap.size, 1, none⟩ = some (.int .i64 N) := (hm.cell (p := ⟨w.heap.size, 1, none⟩) hz hg1).trans c1; have D2 := Lib.hid (D1d.out.left hm hr); have M2 := Lib.hid (M1d.out.gl hm); have V2 := Lib.hid hv; clear hm hr hC2 hv)
      | (go_at_call 143; (with_reducible refine (RRaw_calls D2.out.base D2.out.rf hl2).mono ?_); rintro e w3 ⟨v3, rfl, hv, hm, hr⟩; obtain ⟨A3, n3, q3, rfl, hc3, hC3⟩ := hv.any; have hcv3 := conv_str (c := q3) hC3; have hcv2 := conv_str (c := q2) (OwnB.C (OwnB.keep V2.out hm (fun k hk e => by have h4 := (V2.out.lt k hk).1; have h5 : w.heap.size < k := Nat.lt_of_lt_of_le hz h4; have h6 : k = g' := e; omega))); have D3 := Lib.hid (D2.out.right hm hr); have M3 := Lib.hid (M2.out.gr hm); clear hm hr hC3 hv))
    all_goals
      go_wp2
      go_ret
      exact ⟨rfl, M3.out, D3.out⟩
  by_cases k5 : k = 5
  · subst k5
    rw [show ask (xs, bad) 5 N M = rFail from rfl]
    clear k1 k2 k3 k4
    go_enter Try.func80, Try.ntmps80
    go_wp2_with fail
    with_reducible refine (Fail_post D1.out.rd).mono ?_
    rintro e w2 ⟨hm, rfl, hr⟩
    have D2 := Lib.hid (D1.out.left hm hr)
    have M2 := Lib.hid (M1.out.gl hm)
    clear hm hr c0 c1 c2
    go_wp2_with fail
    with_reducible refine (RFail_post D2.out.rf).mono ?_
    rintro e w3 ⟨hm, rfl, hr⟩
    have D3 := Lib.hid (D2.out.right hm hr)
    have M3 := Lib.hid (M2.out.gr hm)
    clear hm hr
    go_wp2
    go_ret
    exact ⟨rfl, M3.out, D3.out⟩
  · rw [show ask (xs, bad) k N M = (rNum (xs, bad) M).2 by unfold ask; rw [if_neg k1, if_neg k2, if_neg k3, if_neg k4, if_neg k5]]
    have e1 : (k == 1) = false := beq_eq_false_iff_ne.mpr k1
    have e2 : (k == 2) = false := beq_eq_false_iff_ne.mpr k2
    have e3 : (k == 3) = false := beq_eq_false_iff_ne.mpr k3
    have e4 : (k == 4) = false := beq_eq_false_iff_ne.mpr k4
    have e5 : (k == 5) = false := beq_eq_false_iff_ne.mpr k5
    go_enter Try.func80, Try.ntmps80
    go_wp2_with fail
    go_region_with (first
      | (go_at_call 22; (with_reducible refine (Num_calls D1d.out.base D1d.out.rd HY.out).mono ?_); rintro e w2 ⟨hm, rfl, hr⟩; have c2' : w2.cell? ⟨w.heap.size, 2, none⟩ = some (.int .u64 M) := (hm.cell (p := ⟨w.heap.size, 2, none⟩) hz hg1).trans c2; have D2 := Lib.hid (D1d.out.left hm hr); have M2 := Lib.hid (M1d.out.gl hm); clear hm hr)
      | (go_at_call 133; (with_reducible refine (RNum_calls D2.out.base D2.out.rf HY.out).mono ?_); rintro e w3 ⟨hm, rfl, hr⟩; have D3 := Lib.hid (D2.out.right hm hr); have M3 := Lib.hid (M2.out.gr hm); clear hm hr))
    all_goals
      go_wp2
      go_ret
      exact ⟨rfl, M3.out, D3.out⟩

end Go.Proofs.Ytabdjehnglmlpaa
