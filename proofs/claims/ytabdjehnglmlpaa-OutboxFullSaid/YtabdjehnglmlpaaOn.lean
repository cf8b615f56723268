/- outbox: Try, where it is refused. -/
import Derived.Test.YtabdjehnglmlpaaOm
namespace Go.Proofs.Ytabdjehnglmlpaa
open Go.RowKit Go.Proofs.YtabdjehnglmlpaaW.PrintWords
open PO (S45 z45 k45 rd_T45)
set_option linter.unusedVariables false
set_option linter.unusedSimpArgs false

section
variable {B : Nat} {w w' : World} {g : Nat} {v v' : Value} {s : Bs} {Q : Ending → World → Prop}
set_option maxRecDepth 100000 in
set_option maxHeartbeats 400000 in
theorem Try_none (h : Bx B w g v s) (id now : Int) (hp : atI s id = (0, 31)) (hQ : ∀ w', BStep B w w' g v v s → Q (.returned (.tuple #[.agg #[.int .u64 0, .int .u64 0, .int .i64 0, .int .i64 0, .int .i64 0, .int .i64 0, .int .i64 0, .int .i64 0, .int .i64 0], .int .i64 31])) w') :
    Calls Try.prog 39 #[.pointer (some ⟨g, 0, none⟩), .int .u64 id, .int .i64 now] w Q := by
  have HB := Lib.hid h
  have HQ := Lib.hid hQ
  have hfew := h.snd.few
  have D0 := Lib.hid ((Below.refl w.heap.size w).alloc (Nat.le_refl _) (.cells (No.cells z45) 45))
  have K0 : Hid ((w.alloc (.cells (No.cells z45) 45)).heap[w.heap.size]? = some (.cells (No.cells z45) 45)) := heap_alloc_new w _
  have H0 := Lib.hid (h.below D0.out)
  have HA := Lib.hid (at_calls H0.out id)
  rw [hp] at HA
  clear h hQ hp
  simp only [z45_cells] at HA D0 K0 H0
  go_enter Try.func39, Try.ntmps39
  go_wp2_with fail
  with_reducible refine HA.out.mono ?_
  rintro e w1 ⟨rfl, hb⟩
  have D1 := Lib.hid (D0.out.trans (hb.mono D0.out.size))
  have H1 := Lib.hid (H0.out.below hb)
  have K1 := Lib.hid (blk_below K0.out hb)
  clear hb H0 D0 K0 HA
  have x0 := blk_cell K1.out 0; have f0 := blk_frozen K1.out 0
  have x1 := blk_cell K1.out 1; have f1 := blk_frozen K1.out 1
  have x2 := blk_cell K1.out 2; have f2 := blk_frozen K1.out 2
  have x3 := blk_cell K1.out 3; have f3 := blk_frozen K1.out 3
  have x4 := blk_cell K1.out 4; have f4 := blk_frozen K1.out 4
  have x5 := blk_cell K1.out 5; have f5 := blk_frozen K1.out 5
  have x6 := blk_cell K1.out 6; have f6 := blk_frozen K1.out 6
  have x7 := blk_cell K1.out 7; have f7 := blk_frozen K1.out 7
  have x8 := blk_cell K1.out 8; have f8 := blk_frozen K1.out 8
  have Z := Lib.hid (lay9_blk K1.out rfl z45)
  have Y := Lib.hid (lay9_below D1.out (Nat.le_refl _) z45)
  simp only [lay9, PO.z45, No.cells] at Z Y
  go_wp2
  exact bodyPost_ret (results_ct (p := 6) (u := 7) rfl _ _ w.heap.size 45 _ (0, 0) _ rfl Z.out Try.underlying45 rfl size45) rfl (HQ.out _ (BStep.of_below HB.out Y.out))

set_option maxRecDepth 100000 in
set_option maxHeartbeats 400000 in
theorem Try_waitsnot (h : Bx B w g v s) (id now : Int) {p : Nat} (hp : p < s.2.length) (he : atI s id = ((p : Int), 0)) (hw : waitsB (rd_T45 s.2 p) = false) (hQ : ∀ w', BStep B w w' g v v s → Q (.returned (.tuple #[.agg #[.int .u64 0, .int .u64 0, .int .i64 0, .int .i64 0, .int .i64 0, .int .i64 0, .int .i64 0, .int .i64 0, .int .i64 0], .int .i64 33])) w') :
    Calls Try.prog 39 #[.pointer (some ⟨g, 0, none⟩), .int .u64 id, .int .i64 now] w Q := by
  have HB := Lib.hid h
  have HQ := Lib.hid hQ
  have hfew := h.snd.few
  have D0 := Lib.hid ((Below.refl w.heap.size w).alloc (Nat.le_refl _) (.cells (No.cells z45) 45))
  have K0 : Hid ((w.alloc (.cells (No.cells z45) 45)).heap[w.heap.size]? = some (.cells (No.cells z45) 45)) := heap_alloc_new w _
  have H0 := Lib.hid (h.below D0.out)
  have HA := Lib.hid (at_calls H0.out id)
  have HW := Lib.hid (fun W => waits_calls W (rd_T45 s.2 p))
  rw [hw] at HW
  rw [he] at HA
  clear h hQ he hw
  simp only [z45_cells] at HA D0 K0 H0
  simp only [No.val] at HW
  go_enter Try.func39, Try.ntmps39
  go_wp2_with fail
  with_reducible refine HA.out.mono ?_
  rintro e w1 ⟨rfl, hb⟩
  have D1 := Lib.hid (D0.out.trans (hb.mono D0.out.size))
  have H1 := Lib.hid (H0.out.below hb)
  have K1 := Lib.hid (blk_below K0.out hb)
  obtain ⟨k, cap, ek, hc, hk0, hk1, y0, y1, y2, y3, y4, y5, y6, y7, y8, fz⟩ := H1.out.row.at hp
  subst ek
  have xx := H1.out.cell 2
  have hr1 : w.heap.size < w1.heap.size := blk_lt K1.out
  have D1b := Lib.hid (D1.out.alloc D1.out.size (.cells (No.cells (rd_T45 s.2 p)) 45))
  have H1b := Lib.hid (H1.out.below ((Below.refl _ w1).alloc (Nat.le_refl _) (.cells (No.cells (rd_T45 s.2 p)) 45)))
  have K1b := Lib.hid (blk_alloc K1.out (.cells (No.cells (rd_T45 s.2 p)) 45))
  have L1 : Hid ((w1.alloc (.cells (No.cells (rd_T45 s.2 p)) 45)).heap[w1.heap.size]? = some (.cells (No.cells (rd_T45 s.2 p)) 45)) := heap_alloc_new w1 _
  clear hb H0 D0 K0 HA D1 H1 K1
  simp only [No.cells] at D1b H1b K1b L1
  go_wp2_with fail
  with_reducible refine (HW.out _).mono ?_
  rintro e w2 ⟨rfl, hb⟩
  have D2 := Lib.hid (D1b.out.trans (hb.mono D1b.out.size))
  have K2 := Lib.hid (blk_below K1b.out hb)
  have H2 := Lib.hid (H1b.out.below hb)
  have L2 := Lib.hid (blk_below L1.out hb)
  clear hb xx y0 y1 y2 y3 y4 y5 y6 y7 y8 fz D1b H1b K1b L1
  have x0 := blk_cell K2.out 0; have f0 := blk_frozen K2.out 0
  have x1 := blk_cell K2.out 1; have f1 := blk_frozen K2.out 1
  have x2 := blk_cell K2.out 2; have f2 := blk_frozen K2.out 2
  have x3 := blk_cell K2.out 3; have f3 := blk_frozen K2.out 3
  have x4 := blk_cell K2.out 4; have f4 := blk_frozen K2.out 4
  have x5 := blk_cell K2.out 5; have f5 := blk_frozen K2.out 5
  have x6 := blk_cell K2.out 6; have f6 := blk_frozen K2.out 6
  have x7 := blk_cell K2.out 7; have f7 := blk_frozen K2.out 7
  have x8 := blk_cell K2.out 8; have f8 := blk_frozen K2.out 8
  have Z := Lib.hid (lay9_blk K2.out rfl z45)
  have Y := Lib.hid (lay9_below D2.out (Nat.le_refl _) z45)
  simp only [lay9, PO.z45, No.cells] at Z Y
  go_wp2
  exact bodyPost_ret (results_ct (p := 6) (u := 7) rfl _ _ w.heap.size 45 _ (0, 0) _ rfl Z.out Try.underlying45 rfl size45) rfl (HQ.out _ (BStep.of_below HB.out Y.out))

set_option maxRecDepth 100000 in
set_option maxHeartbeats 400000 in
theorem Try_spent (h : Bx B w g v s) (id now : Int) {p : Nat} (hp : p < s.2.length) (he : atI s id = ((p : Int), 0)) (hw : waitsB (rd_T45 s.2 p) = true) (ht : (rd_T45 s.2 p).f6 ≤ (rd_T45 s.2 p).f5) (hQ : ∀ w', BStep B w w' g v v s → Q (.returned (.tuple #[.agg #[.int .u64 0, .int .u64 0, .int .i64 0, .int .i64 0, .int .i64 0, .int .i64 0, .int .i64 0, .int .i64 0, .int .i64 0], .int .i64 33])) w') :
    Calls Try.prog 39 #[.pointer (some ⟨g, 0, none⟩), .int .u64 id, .int .i64 now] w Q := by
  have HB := Lib.hid h
  have HQ := Lib.hid hQ
  have hfew := h.snd.few
  have D0 := Lib.hid ((Below.refl w.heap.size w).alloc (Nat.le_refl _) (.cells (No.cells z45) 45))
  have K0 : Hid ((w.alloc (.cells (No.cells z45) 45)).heap[w.heap.size]? = some (.cells (No.cells z45) 45)) := heap_alloc_new w _
  have H0 := Lib.hid (h.below D0.out)
  have HA := Lib.hid (at_calls H0.out id)
  have HW := Lib.hid (fun W => waits_calls W (rd_T45 s.2 p))
  have ht' : decide ((rd_T45 s.2 p).f6 ≤ (rd_T45 s.2 p).f5) = true := decide_eq_true ht
  rw [hw] at HW
  rw [he] at HA
  clear h hQ he hw ht
  simp only [z45_cells] at HA D0 K0 H0
  simp only [No.val] at HW
  go_enter Try.func39, Try.ntmps39
  go_wp2_with fail
  with_reducible refine HA.out.mono ?_
  rintro e w1 ⟨rfl, hb⟩
  have D1 := Lib.hid (D0.out.trans (hb.mono D0.out.size))
  have H1 := Lib.hid (H0.out.below hb)
  have K1 := Lib.hid (blk_below K0.out hb)
  obtain ⟨k, cap, ek, hc, hk0, hk1, y0, y1, y2, y3, y4, y5, y6, y7, y8, fz⟩ := H1.out.row.at hp
  subst ek
  have xx := H1.out.cell 2
  have hr1 : w.heap.size < w1.heap.size := blk_lt K1.out
  have D1b := Lib.hid (D1.out.alloc D1.out.size (.cells (No.cells (rd_T45 s.2 p)) 45))
  have H1b := Lib.hid (H1.out.below ((Below.refl _ w1).alloc (Nat.le_refl _) (.cells (No.cells (rd_T45 s.2 p)) 45)))
  have K1b := Lib.hid (blk_alloc K1.out (.cells (No.cells (rd_T45 s.2 p)) 45))
  have L1 : Hid ((w1.alloc (.cells (No.cells (rd_T45 s.2 p)) 45)).heap[w1.heap.size]? = some (.cells (No.cells (rd_T45 s.2 p)) 45)) := heap_alloc_new w1 _
  clear hb H0 D0 K0 HA D1 H1 K1
  simp only [No.cells] at D1b H1b K1b L1
  go_wp2_with fail
  with_reducible refine (HW.out _).mono ?_
  rintro e w2 ⟨rfl, hb⟩
  have D2 := Lib.hid (D1b.out.trans (hb.mono D1b.out.size))
  have K2 := Lib.hid (blk_below K1b.out hb)
  have H2 := Lib.hid (H1b.out.below hb)
  have L2 := Lib.hid (blk_below L1.out hb)
  clear hb xx y0 y1 y2 y3 y4 y5 y6 y7 y8 fz D1b H1b K1b L1
  have x0 := blk_cell K2.out 0; have f0 := blk_frozen K2.out 0
  have x1 := blk_cell K2.out 1; have f1 := blk_frozen K2.out 1
  have x2 := blk_cell K2.out 2; have f2 := blk_frozen K2.out 2
  have x3 := blk_cell K2.out 3; have f3 := blk_frozen K2.out 3
  have x4 := blk_cell K2.out 4; have f4 := blk_frozen K2.out 4
  have x5 := blk_cell K2.out 5; have f5 := blk_frozen K2.out 5
  have x6 := blk_cell K2.out 6; have f6 := blk_frozen K2.out 6
  have x7 := blk_cell K2.out 7; have f7 := blk_frozen K2.out 7
  have x8 := blk_cell K2.out 8; have f8 := blk_frozen K2.out 8
  have u0 := blk_cell L2.out 0; have e0 := blk_frozen L2.out 0
  have u1 := blk_cell L2.out 1; have e1 := blk_frozen L2.out 1
  have u2 := blk_cell L2.out 2; have e2 := blk_frozen L2.out 2
  have u3 := blk_cell L2.out 3; have e3 := blk_frozen L2.out 3
  have u4 := blk_cell L2.out 4; have e4 := blk_frozen L2.out 4
  have u5 := blk_cell L2.out 5; have e5 := blk_frozen L2.out 5
  have u6 := blk_cell L2.out 6; have e6 := blk_frozen L2.out 6
  have u7 := blk_cell L2.out 7; have e7 := blk_frozen L2.out 7
  have u8 := blk_cell L2.out 8; have e8 := blk_frozen L2.out 8
  have Z := Lib.hid (lay9_blk K2.out rfl z45)
  have Y := Lib.hid (lay9_below D2.out (Nat.le_refl _) z45)
  simp only [lay9, PO.z45, No.cells] at Z Y
  go_wp2
  exact bodyPost_ret (results_ct (p := 6) (u := 7) rfl _ _ w.heap.size 45 _ (0, 0) _ rfl Z.out Try.underlying45 rfl size45) rfl (HQ.out _ (BStep.of_below HB.out Y.out))

set_option maxRecDepth 100000 in
set_option maxHeartbeats 400000 in
theorem Try_early (h : Bx B w g v s) (id now : Int) {p : Nat} (hp : p < s.2.length) (he : atI s id = ((p : Int), 0)) (hw : waitsB (rd_T45 s.2 p) = true) (ht : (rd_T45 s.2 p).f5 < (rd_T45 s.2 p).f6) (hn : now < (rd_T45 s.2 p).f8) (hQ : ∀ w', BStep B w w' g v v s → Q (.returned (.tuple #[.agg #[.int .u64 0, .int .u64 0, .int .i64 0, .int .i64 0, .int .i64 0, .int .i64 0, .int .i64 0, .int .i64 0, .int .i64 0], .int .i64 52])) w') :
    Calls Try.prog 39 #[.pointer (some ⟨g, 0, none⟩), .int .u64 id, .int .i64 now] w Q := by
  have HB := Lib.hid h
  have HQ := Lib.hid hQ
  have hfew := h.snd.few
  have D0 := Lib.hid ((Below.refl w.heap.size w).alloc (Nat.le_refl _) (.cells (No.cells z45) 45))
  have K0 : Hid ((w.alloc (.cells (No.cells z45) 45)).heap[w.heap.size]? = some (.cells (No.cells z45) 45)) := heap_alloc_new w _
  have H0 := Lib.hid (h.below D0.out)
  have HA := Lib.hid (at_calls H0.out id)
  have HW := Lib.hid (fun W => waits_calls W (rd_T45 s.2 p))
  have ht' : decide ((rd_T45 s.2 p).f6 ≤ (rd_T45 s.2 p).f5) = false := decide_eq_false (by omega)
  have hn' : decide (now < (rd_T45 s.2 p).f8) = true := decide_eq_true hn
  rw [hw] at HW
  rw [he] at HA
  clear h hQ he hw ht hn
  simp only [z45_cells] at HA D0 K0 H0
  simp only [No.val] at HW
  go_enter Try.func39, Try.ntmps39
  go_wp2_with fail
  with_reducible refine HA.out.mono ?_
  rintro e w1 ⟨rfl, hb⟩
  have D1 := Lib.hid (D0.out.trans (hb.mono D0.out.size))
  have H1 := Lib.hid (H0.out.below hb)
  have K1 := Lib.hid (blk_below K0.out hb)
  obtain ⟨k, cap, ek, hc, hk0, hk1, y0, y1, y2, y3, y4, y5, y6, y7, y8, fz⟩ := H1.out.row.at hp
  subst ek
  have xx := H1.out.cell 2
  have hr1 : w.heap.size < w1.heap.size := blk_lt K1.out
  have D1b := Lib.hid (D1.out.alloc D1.out.size (.cells (No.cells (rd_T45 s.2 p)) 45))
  have H1b := Lib.hid (H1.out.below ((Below.refl _ w1).alloc (Nat.le_refl _) (.cells (No.cells (rd_T45 s.2 p)) 45)))
  have K1b := Lib.hid (blk_alloc K1.out (.cells (No.cells (rd_T45 s.2 p)) 45))
  have L1 : Hid ((w1.alloc (.cells (No.cells (rd_T45 s.2 p)) 45)).heap[w1.heap.size]? = some (.cells (No.cells (rd_T45 s.2 p)) 45)) := heap_alloc_new w1 _
  clear hb H0 D0 K0 HA D1 H1 K1
  simp only [No.cells] at D1b H1b K1b L1
  go_wp2_with fail
  with_reducible refine (HW.out _).mono ?_
  rintro e w2 ⟨rfl, hb⟩
  have D2 := Lib.hid (D1b.out.trans (hb.mono D1b.out.size))
  have K2 := Lib.hid (blk_below K1b.out hb)
  have H2 := Lib.hid (H1b.out.below hb)
  have L2 := Lib.hid (blk_below L1.out hb)
  clear hb xx y0 y1 y2 y3 y4 y5 y6 y7 y8 fz D1b H1b K1b L1
  have x0 := blk_cell K2.out 0; have f0 := blk_frozen K2.out 0
  have x1 := blk_cell K2.out 1; have f1 := blk_frozen K2.out 1
  have x2 := blk_cell K2.out 2; have f2 := blk_frozen K2.out 2
  have x3 := blk_cell K2.out 3; have f3 := blk_frozen K2.out 3
  have x4 := blk_cell K2.out 4; have f4 := blk_frozen K2.out 4
  have x5 := blk_cell K2.out 5; have f5 := blk_frozen K2.out 5
  have x6 := blk_cell K2.out 6; have f6 := blk_frozen K2.out 6
  have x7 := blk_cell K2.out 7; have f7 := blk_frozen K2.out 7
  have x8 := blk_cell K2.out 8; have f8 := blk_frozen K2.out 8
  have u0 := blk_cell L2.out 0; have e0 := blk_frozen L2.out 0
  have u1 := blk_cell L2.out 1; have e1 := blk_frozen L2.out 1
  have u2 := blk_cell L2.out 2; have e2 := blk_frozen L2.out 2
  have u3 := blk_cell L2.out 3; have e3 := blk_frozen L2.out 3
  have u4 := blk_cell L2.out 4; have e4 := blk_frozen L2.out 4
  have u5 := blk_cell L2.out 5; have e5 := blk_frozen L2.out 5
  have u6 := blk_cell L2.out 6; have e6 := blk_frozen L2.out 6
  have u7 := blk_cell L2.out 7; have e7 := blk_frozen L2.out 7
  have u8 := blk_cell L2.out 8; have e8 := blk_frozen L2.out 8
  have Z := Lib.hid (lay9_blk K2.out rfl z45)
  have Y := Lib.hid (lay9_below D2.out (Nat.le_refl _) z45)
  simp only [lay9, PO.z45, No.cells] at Z Y
  go_wp2
  exact bodyPost_ret (results_ct (p := 6) (u := 7) rfl _ _ w.heap.size 45 _ (0, 0) _ rfl Z.out Try.underlying45 rfl size45) rfl (HQ.out _ (BStep.of_below HB.out Y.out))

end
end Go.Proofs.Ytabdjehnglmlpaa
