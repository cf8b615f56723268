/- outbox: Ack. -/
import Derived.Test.YtabdjehnglmlpaaOk
namespace Go.Proofs.Ytabdjehnglmlpaa
open Go.RowKit Go.Proofs.YtabdjehnglmlpaaW.PrintWords
open PO (S45 z45 k45 rd_T45)
set_option linter.unusedVariables false
set_option linter.unusedSimpArgs false

/-- What is read of place i of a row of one's own. -/
theorem Semi.at {w : World} {base : Nat} {v : Value} {l : List No} (h : Semi w base v l) {i : Nat} (hi : i < l.length) : ∃ k cap, v = .slice (some ⟨k, 0, none⟩) l.length cap ∧ l.length ≤ cap ∧ base ≤ k ∧ k < w.heap.size ∧
    w.cell? ⟨k, i * 9, none⟩ = some (.int .u64 (rd_T45 l i).f0) ∧ w.cell? ⟨k, i * 9 + 1, none⟩ = some (.int .u64 (rd_T45 l i).f1) ∧ w.cell? ⟨k, i * 9 + 2, none⟩ = some (.int .i64 (rd_T45 l i).f2) ∧ w.cell? ⟨k, i * 9 + 3, none⟩ = some (.int .i64 (rd_T45 l i).f3) ∧ w.cell? ⟨k, i * 9 + 4, none⟩ = some (.int .i64 (rd_T45 l i).f4) ∧
    w.cell? ⟨k, i * 9 + 5, none⟩ = some (.int .i64 (rd_T45 l i).f5) ∧ w.cell? ⟨k, i * 9 + 6, none⟩ = some (.int .i64 (rd_T45 l i).f6) ∧ w.cell? ⟨k, i * 9 + 7, none⟩ = some (.int .i64 (rd_T45 l i).f7) ∧ w.cell? ⟨k, i * 9 + 8, none⟩ = some (.int .i64 (rd_T45 l i).f8) ∧ ∀ j, w.frozen? ⟨k, j, none⟩ = false := by
  rcases h with ⟨rfl, rfl⟩ | ⟨k, cap, cur, rfl, h2, h3, h4, h5, h6, h7⟩
  · simp at hi
  · have hc : ∀ j, j < 9 → w.cell? ⟨k, i * 9 + j, none⟩ = (No.cells (rd_T45 l i)).toList[j]? := fun j hj => by
      rw [blk_cell h3 (i * 9 + j), ← flat_get l i j hi hj, ← h7, List.getElem?_take_of_lt (by omega)]
      simp
    exact ⟨k, cap, rfl, h4, h2, blk_lt h3, hc 0 (by decide), hc 1 (by decide), hc 2 (by decide), hc 3 (by decide), hc 4 (by decide), hc 5 (by decide), hc 6 (by decide), hc 7 (by decide), hc 8 (by decide), fun j => blk_frozen h3 j⟩

section
variable {B : Nat} {w : World} {g : Nat} {v : Value} {s : Bs} {Q : Ending → World → Prop}
set_option maxRecDepth 100000 in
set_option maxHeartbeats 400000 in
theorem Ack_none (h : Bx B w g v s) (id : Int) (hp : atI s id = (0, 31)) (hQ : ∀ w', BStep B w w' g v v s → Q (.returned (.tuple #[.agg #[.int .u64 0, .int .u64 0, .int .i64 0, .int .i64 0, .int .i64 0, .int .i64 0, .int .i64 0, .int .i64 0, .int .i64 0], .int .i64 31])) w') :
    Calls Try.prog 40 #[.pointer (some ⟨g, 0, none⟩), .int .u64 id] w Q := by
  have HB := Lib.hid h
  have HQ := Lib.hid hQ
  have D0 := Lib.hid ((Below.refl w.heap.size w).alloc (Nat.le_refl _) (.cells (No.cells z45) 45))
  have K0 : Hid ((w.alloc (.cells (No.cells z45) 45)).heap[w.heap.size]? = some (.cells (No.cells z45) 45)) := heap_alloc_new w _
  have H0 := Lib.hid (h.below D0.out)
  have HA := Lib.hid (at_calls H0.out id)
  rw [hp] at HA
  clear h hQ hp
  simp only [z45_cells] at HA D0 K0 H0
  go_enter Try.func40, Try.ntmps40
  go_wp2_with fail
  with_reducible refine HA.out.mono ?_
  rintro e w1 ⟨rfl, hb⟩
  have D1 := Lib.hid (D0.out.trans (hb.mono D0.out.size))
  have K1 := Lib.hid (blk_below K0.out hb)
  clear hb H0 D0 K0 HA
  have x0 := blk_cell K1.out 0; have f0 := blk_frozen K1.out 0
  have x1 := blk_cell K1.out 1; have f1 := blk_frozen K1.out 1
  have x2 := blk_cell K1.out 2; have f2 := blk_frozen K1.out 2
  have x3 := blk_cell K1.out 3; have f3 := blk_frozen K1.out 3
  have x4 := blk_cell K1.out 4; have f4 := blk_frozen K1.out 4
  have x5 := blk_cell K1.out 5; have f5 := blk_frozen K1.out 5
  have x6 := blk_cell K1.out 6; have f6 := blk_frozen K1.out 6
  have x7 := blk_cell K1.out 7; have f7 := blk_frozen K1.out 7
  have x8 := blk_cell K1.out 8; have f8 := blk_frozen K1.out 8
  have Z := Lib.hid (lay9_blk K1.out rfl z45)
  have Y := Lib.hid (lay9_below D1.out (Nat.le_refl _) z45)
  simp only [lay9, PO.z45, No.cells] at Z Y
  go_wp2
  exact bodyPost_ret (results_ct (p := 4) (u := 5) rfl _ _ w.heap.size 45 _ (0, 0) _ rfl Z.out Try.underlying45 rfl size45) rfl (HQ.out _ (BStep.of_below HB.out Y.out))

set_option maxRecDepth 100000 in
set_option maxHeartbeats 400000 in
theorem Ack_no (h : Bx B w g v s) (id : Int) {p : Nat} (hp : p < s.2.length) (he : atI s id = ((p : Int), 0)) (hn : waitsB (rd_T45 s.2 p) = false ∨ (rd_T45 s.2 p).f5 = 0) (hQ : ∀ w', BStep B w w' g v v s → Q (.returned (.tuple #[.agg #[.int .u64 0, .int .u64 0, .int .i64 0, .int .i64 0, .int .i64 0, .int .i64 0, .int .i64 0, .int .i64 0, .int .i64 0], .int .i64 33])) w') :
    Calls Try.prog 40 #[.pointer (some ⟨g, 0, none⟩), .int .u64 id] w Q := by
  have HB := Lib.hid h
  have HQ := Lib.hid hQ
  have hfew := h.snd.few
  have D0 := Lib.hid ((Below.refl w.heap.size w).alloc (Nat.le_refl _) (.cells (No.cells z45) 45))
  have K0 : Hid ((w.alloc (.cells (No.cells z45) 45)).heap[w.heap.size]? = some (.cells (No.cells z45) 45)) := heap_alloc_new w _
  have H0 := Lib.hid (h.below D0.out)
  have HA := Lib.hid (at_calls H0.out id)
  have HW := Lib.hid (fun W => waits_calls W (rd_T45 s.2 p))
  rw [he] at HA
  clear h hQ he
  simp only [z45_cells] at HA D0 K0 H0
  simp only [No.val] at HW
  obtain ⟨b, hb⟩ : ∃ b, waitsB (rd_T45 s.2 p) = b := ⟨_, rfl⟩
  rw [hb] at hn HW
  clear hb
  revert hn HW
  cases b
  · intro HW hn
    clear hn
    go_enter Try.func40, Try.ntmps40
    go_wp2_with fail
    with_reducible refine HA.out.mono ?_
    rintro e w1 ⟨rfl, hb⟩
    have D1 := Lib.hid (D0.out.trans (hb.mono D0.out.size))
    have H1 := Lib.hid (H0.out.below hb)
    have K1 := Lib.hid (blk_below K0.out hb)
    obtain ⟨k, cap, rfl, hc, hk0, hk1, y0, y1, y2, y3, y4, y5, y6, y7, y8, fz⟩ := H1.out.row.at hp
    have xx := H1.out.cell 2
    clear hb H0 D0 K0 HA
    go_wp2_with fail
    with_reducible refine (HW.out _).mono ?_
    rintro e w2 ⟨rfl, hb⟩
    have D2 := Lib.hid (D1.out.trans (hb.mono D1.out.size))
    have K2 := Lib.hid (blk_below K1.out hb)
    clear hb xx y0 y1 y2 y3 y4 y5 y6 y7 y8 fz
    have x0 := blk_cell K2.out 0; have f0 := blk_frozen K2.out 0
    have x1 := blk_cell K2.out 1; have f1 := blk_frozen K2.out 1
    have x2 := blk_cell K2.out 2; have f2 := blk_frozen K2.out 2
    have x3 := blk_cell K2.out 3; have f3 := blk_frozen K2.out 3
    have x4 := blk_cell K2.out 4; have f4 := blk_frozen K2.out 4
    have x5 := blk_cell K2.out 5; have f5 := blk_frozen K2.out 5
    have x6 := blk_cell K2.out 6; have f6 := blk_frozen K2.out 6
    have x7 := blk_cell K2.out 7; have f7 := blk_frozen K2.out 7
    have x8 := blk_cell K2.out 8; have f8 := blk_frozen K2.out 8
    have Z := Lib.hid (lay9_blk K2.out rfl z45)
    have Y := Lib.hid (lay9_below D2.out (Nat.le_refl _) z45)
    simp only [lay9, PO.z45, No.cells] at Z Y
    go_wp2
    exact bodyPost_ret (results_ct (p := 4) (u := 5) rfl _ _ w.heap.size 45 _ (0, 0) _ rfl Z.out Try.underlying45 rfl size45) rfl (HQ.out _ (BStep.of_below HB.out Y.out))
  · intro HW hn
    have h5 : ((rd_T45 s.2 p).f5 == 0) = true := beq_iff_eq.2 (hn.resolve_left (by decide))
    clear hn
    go_enter Try.func40, Try.ntmps40
    go_wp2_with fail
    with_reducible refine HA.out.mono ?_
    rintro e w1 ⟨rfl, hb⟩
    have D1 := Lib.hid (D0.out.trans (hb.mono D0.out.size))
    have H1 := Lib.hid (H0.out.below hb)
    have K1 := Lib.hid (blk_below K0.out hb)
    obtain ⟨k, cap, rfl, hc, hk0, hk1, y0, y1, y2, y3, y4, y5, y6, y7, y8, fz⟩ := H1.out.row.at hp
    have xx := H1.out.cell 2
    clear hb H0 D0 K0 HA
    go_wp2_with fail
    with_reducible refine (HW.out _).mono ?_
    rintro e w2 ⟨rfl, hb⟩
    have D2 := Lib.hid (D1.out.trans (hb.mono D1.out.size))
    have K2 := Lib.hid (blk_below K1.out hb)
    have H2 := Lib.hid (H1.out.below hb)
    clear xx y0 y1 y2 y3 y4 y5 y6 y7 y8 fz
    have xx := H2.out.cell 2
    obtain ⟨k', cap', ek, hc', hk0', hk1', y0, y1, y2, y3, y4, y5, y6, y7, y8, fz⟩ := H2.out.row.at hp
    injection ek with ek1 ek2 ek3
    injection ek1 with ek1
    injection ek1 with ek1 _ _
    subst ek1 ek3
    clear hb hc' hk0' hk1' ek2
    have x0 := blk_cell K2.out 0; have f0 := blk_frozen K2.out 0
    have x1 := blk_cell K2.out 1; have f1 := blk_frozen K2.out 1
    have x2 := blk_cell K2.out 2; have f2 := blk_frozen K2.out 2
    have x3 := blk_cell K2.out 3; have f3 := blk_frozen K2.out 3
    have x4 := blk_cell K2.out 4; have f4 := blk_frozen K2.out 4
    have x5 := blk_cell K2.out 5; have f5 := blk_frozen K2.out 5
    have x6 := blk_cell K2.out 6; have f6 := blk_frozen K2.out 6
    have x7 := blk_cell K2.out 7; have f7 := blk_frozen K2.out 7
    have x8 := blk_cell K2.out 8; have f8 := blk_frozen K2.out 8
    have Z := Lib.hid (lay9_blk K2.out rfl z45)
    have Y := Lib.hid (lay9_below D2.out (Nat.le_refl _) z45)
    simp only [lay9, PO.z45, No.cells] at Z Y
    go_wp2
    exact bodyPost_ret (results_ct (p := 4) (u := 5) rfl _ _ w.heap.size 45 _ (0, 0) _ rfl Z.out Try.underlying45 rfl size45) rfl (HQ.out _ (BStep.of_below HB.out Y.out))
end
end Go.Proofs.Ytabdjehnglmlpaa
