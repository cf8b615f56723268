/- outbox: Put, where it is refused. -/
import Derived.Test.YtabdjehnglmlpaaOr
namespace Go.Proofs.Ytabdjehnglmlpaa
open Go.RowKit Go.Proofs.YtabdjehnglmlpaaW.PrintWords
open PO (S45 z45 k45 rd_T45)
set_option linter.unusedVariables false
set_option linter.unusedSimpArgs false

theorem put114_calls (w : World) (n : No) : Calls Try.prog 114 #[No.val n] w fun e w' => e = .returned (.bool (!waitsB n)) ∧ Below w.heap.size w w' := by
  have D1 := Lib.hid ((Below.refl w.heap.size w).alloc (Nat.le_refl _) (.cells (No.cells n) 45))
  have B1 : Hid ((w.alloc (.cells (No.cells n) 45)).heap[w.heap.size]? = some (.cells (No.cells n) 45)) := heap_alloc_new w _
  have HW := Lib.hid (fun W => waits_calls W n)
  simp only [No.val] at HW
  simp only [No.val]
  simp only [No.cells] at D1 B1
  have x0 := blk_cell B1.out 0
  have x1 := blk_cell B1.out 1
  have x2 := blk_cell B1.out 2
  have x3 := blk_cell B1.out 3
  have x4 := blk_cell B1.out 4
  have x5 := blk_cell B1.out 5
  have x6 := blk_cell B1.out 6
  have x7 := blk_cell B1.out 7
  have x8 := blk_cell B1.out 8
  go_enter Try.func114, Try.ntmps114
  go_wp2_with fail
  with_reducible refine (HW.out _).mono ?_
  rintro e w2 ⟨rfl, hb⟩
  have D2 := Lib.hid (D1.out.trans (hb.mono D1.out.size))
  clear hb
  go_wp2
  go_ret
  exact ⟨rfl, D2.out⟩
theorem put114_tells (w : World) : Tells w 114 #[] (fun n => !waitsB n) := ⟨fun args W => by go_simp, fun W x _ => by simpa using put114_calls W x⟩

section
variable {B : Nat} {w : World} {g : Nat} {v : Value} {s : Bs} {Q : Ending → World → Prop}
set_option maxRecDepth 100000 in
set_option maxHeartbeats 1000000 in
theorem Put_instant (h : Bx B w g v s) (n : No) (now : Int) (hi : instO now = false) (hQ : ∀ w', BStep B w w' g v v s → Q (.returned (.tuple #[.int .u64 0, .int .i64 2])) w') :
    Calls Try.prog 37 #[.pointer (some ⟨g, 0, none⟩), No.val n, .int .i64 now] w Q := by
  have HB := Lib.hid h
  have HQ := Lib.hid hQ
  have hfew := h.snd.few
  have hs0 := h.nn
  have hs1 := h.snd.top
  have D0 := Lib.hid ((Below.refl w.heap.size w).alloc (Nat.le_refl _) (.cells (No.cells n) 45))
  have K0 : Hid ((w.alloc (.cells (No.cells n) 45)).heap[w.heap.size]? = some (.cells (No.cells n) 45)) := heap_alloc_new w _
  have H0 := Lib.hid (h.below D0.out)
  have HI := Lib.hid (fun W => oinst_calls W now)
  have HF := Lib.hid (fun W => fits_calls W n)
  rw [hi] at HI
  clear h hQ hi
  simp only [No.val] at HF
  simp only [No.cells] at D0 K0 H0
  simp only [No.val]
  go_enter Try.func37, Try.ntmps37
  go_wp2_with fail
  with_reducible refine (none_bx H0.out).mono ?_
  rintro e w1 ⟨rfl, rfl⟩
  go_wp2_with fail
  with_reducible refine (HI.out _).mono ?_
  rintro e w1 ⟨rfl, hb⟩
  have D1 := Lib.hid (D0.out.trans (hb.mono D0.out.size))
  have H1 := Lib.hid (H0.out.below hb)
  have K1 := Lib.hid (blk_below K0.out hb)
  clear hb D0 H0 K0
  go_wp2
  exact HQ.out _ (BStep.of_below HB.out D1.out)

set_option maxRecDepth 100000 in
set_option maxHeartbeats 1000000 in
theorem Put_unfit (h : Bx B w g v s) (n : No) (now : Int) (hi : instO now = true) (hf : fitsB n = false) (hQ : ∀ w', BStep B w w' g v v s → Q (.returned (.tuple #[.int .u64 0, .int .i64 2])) w') :
    Calls Try.prog 37 #[.pointer (some ⟨g, 0, none⟩), No.val n, .int .i64 now] w Q := by
  have HB := Lib.hid h
  have HQ := Lib.hid hQ
  have hfew := h.snd.few
  have hs0 := h.nn
  have hs1 := h.snd.top
  have D0 := Lib.hid ((Below.refl w.heap.size w).alloc (Nat.le_refl _) (.cells (No.cells n) 45))
  have K0 : Hid ((w.alloc (.cells (No.cells n) 45)).heap[w.heap.size]? = some (.cells (No.cells n) 45)) := heap_alloc_new w _
  have H0 := Lib.hid (h.below D0.out)
  have HI := Lib.hid (fun W => oinst_calls W now)
  have HF := Lib.hid (fun W => fits_calls W n)
  rw [hi] at HI
  rw [hf] at HF
  clear h hQ hi hf
  simp only [No.val] at HF
  simp only [No.cells] at D0 K0 H0
  simp only [No.val]
  go_enter Try.func37, Try.ntmps37
  go_wp2_with fail
  with_reducible refine (none_bx H0.out).mono ?_
  rintro e w1 ⟨rfl, rfl⟩
  go_wp2_with fail
  with_reducible refine (HI.out _).mono ?_
  rintro e w1 ⟨rfl, hb⟩
  have D1 := Lib.hid (D0.out.trans (hb.mono D0.out.size))
  have H1 := Lib.hid (H0.out.below hb)
  have K1 := Lib.hid (blk_below K0.out hb)
  clear hb D0 H0 K0
  have x0 := blk_cell K1.out 0
  have x1 := blk_cell K1.out 1
  have x2 := blk_cell K1.out 2
  have x3 := blk_cell K1.out 3
  have x4 := blk_cell K1.out 4
  have x5 := blk_cell K1.out 5
  have x6 := blk_cell K1.out 6
  have x7 := blk_cell K1.out 7
  have x8 := blk_cell K1.out 8
  go_wp2_with fail
  with_reducible refine (HF.out _).mono ?_
  rintro e w2 ⟨rfl, hb⟩
  have D2 := Lib.hid (D1.out.trans (hb.mono D1.out.size))
  have H2 := Lib.hid (H1.out.below hb)
  have K2 := Lib.hid (blk_below K1.out hb)
  clear hb D1 H1 K1 x0 x1 x2 x3 x4 x5 x6 x7 x8
  go_wp2
  exact HQ.out _ (BStep.of_below HB.out D2.out)

set_option maxRecDepth 100000 in
set_option maxHeartbeats 1000000 in
theorem Put_big (h : Bx B w g v s) (n : No) (now : Int) (hi : instO now = true) (hf : fitsB n = true) (hl : 1152921504606846976 ≤ s.1) (hQ : ∀ w', BStep B w w' g v v s → Q (.returned (.tuple #[.int .u64 0, .int .i64 10])) w') :
    Calls Try.prog 37 #[.pointer (some ⟨g, 0, none⟩), No.val n, .int .i64 now] w Q := by
  have HB := Lib.hid h
  have HQ := Lib.hid hQ
  have hfew := h.snd.few
  have hs0 := h.nn
  have hs1 := h.snd.top
  have D0 := Lib.hid ((Below.refl w.heap.size w).alloc (Nat.le_refl _) (.cells (No.cells n) 45))
  have K0 : Hid ((w.alloc (.cells (No.cells n) 45)).heap[w.heap.size]? = some (.cells (No.cells n) 45)) := heap_alloc_new w _
  have H0 := Lib.hid (h.below D0.out)
  have HI := Lib.hid (fun W => oinst_calls W now)
  have HF := Lib.hid (fun W => fits_calls W n)
  rw [hi] at HI
  rw [hf] at HF
  have hl' : decide (1152921504606846976 ≤ s.1) = true := decide_eq_true hl
  clear h hQ hi hf hl
  simp only [No.val] at HF
  simp only [No.cells] at D0 K0 H0
  simp only [No.val]
  go_enter Try.func37, Try.ntmps37
  go_wp2_with fail
  with_reducible refine (none_bx H0.out).mono ?_
  rintro e w1 ⟨rfl, rfl⟩
  go_wp2_with fail
  with_reducible refine (HI.out _).mono ?_
  rintro e w1 ⟨rfl, hb⟩
  have D1 := Lib.hid (D0.out.trans (hb.mono D0.out.size))
  have H1 := Lib.hid (H0.out.below hb)
  have K1 := Lib.hid (blk_below K0.out hb)
  clear hb D0 H0 K0
  have x0 := blk_cell K1.out 0
  have x1 := blk_cell K1.out 1
  have x2 := blk_cell K1.out 2
  have x3 := blk_cell K1.out 3
  have x4 := blk_cell K1.out 4
  have x5 := blk_cell K1.out 5
  have x6 := blk_cell K1.out 6
  have x7 := blk_cell K1.out 7
  have x8 := blk_cell K1.out 8
  go_wp2_with fail
  with_reducible refine (HF.out _).mono ?_
  rintro e w2 ⟨rfl, hb⟩
  have D2 := Lib.hid (D1.out.trans (hb.mono D1.out.size))
  have H2 := Lib.hid (H1.out.below hb)
  have K2 := Lib.hid (blk_below K1.out hb)
  clear hb D1 H1 K1 x0 x1 x2 x3 x4 x5 x6 x7 x8
  have y1 := H2.out.cell 1
  go_wp2
  exact HQ.out _ (BStep.of_below HB.out D2.out)

set_option maxRecDepth 100000 in
set_option maxHeartbeats 1000000 in
theorem Put_full (h : Bx B w g v s) (n : No) (now : Int) (hi : instO now = true) (hf : fitsB n = true) (hl : s.1 < 1152921504606846976) (hm : 128 ≤ s.2.length) (hp : place (fun n => !waitsB n) s.2 = s.2.length) (hQ : ∀ w', BStep B w w' g v v s → Q (.returned (.tuple #[.int .u64 0, .int .i64 30])) w') :
    Calls Try.prog 37 #[.pointer (some ⟨g, 0, none⟩), No.val n, .int .i64 now] w Q := by
  have HB := Lib.hid h
  have HQ := Lib.hid hQ
  have hfew := h.snd.few
  have hs0 := h.nn
  have hs1 := h.snd.top
  have D0 := Lib.hid ((Below.refl w.heap.size w).alloc (Nat.le_refl _) (.cells (No.cells n) 45))
  have K0 : Hid ((w.alloc (.cells (No.cells n) 45)).heap[w.heap.size]? = some (.cells (No.cells n) 45)) := heap_alloc_new w _
  have H0 := Lib.hid (h.below D0.out)
  have HI := Lib.hid (fun W => oinst_calls W now)
  have HF := Lib.hid (fun W => fits_calls W n)
  rw [hi] at HI
  rw [hf] at HF
  have hl' : decide (1152921504606846976 ≤ s.1) = false := decide_eq_false (by omega)
  have hm' : decide (128 ≤ (s.2.length : Int)) = true := decide_eq_true (by omega)
  have HP : Hid (placeI (fun n => !waitsB n) s.2 = -1) := by unfold placeI; rw [if_neg (by omega)]; exact rfl
  clear h hQ hi hf hl hp
  simp only [No.val] at HF
  simp only [No.cells] at D0 K0 H0
  simp only [No.val]
  go_enter Try.func37, Try.ntmps37
  go_wp2_with fail
  with_reducible refine (none_bx H0.out).mono ?_
  rintro e w1 ⟨rfl, rfl⟩
  go_wp2_with fail
  with_reducible refine (HI.out _).mono ?_
  rintro e w1 ⟨rfl, hb⟩
  have D1 := Lib.hid (D0.out.trans (hb.mono D0.out.size))
  have H1 := Lib.hid (H0.out.below hb)
  have K1 := Lib.hid (blk_below K0.out hb)
  clear hb D0 H0 K0
  have x0 := blk_cell K1.out 0
  have x1 := blk_cell K1.out 1
  have x2 := blk_cell K1.out 2
  have x3 := blk_cell K1.out 3
  have x4 := blk_cell K1.out 4
  have x5 := blk_cell K1.out 5
  have x6 := blk_cell K1.out 6
  have x7 := blk_cell K1.out 7
  have x8 := blk_cell K1.out 8
  go_wp2_with fail
  with_reducible refine (HF.out _).mono ?_
  rintro e w2 ⟨rfl, hb⟩
  have D2 := Lib.hid (D1.out.trans (hb.mono D1.out.size))
  have H2 := Lib.hid (H1.out.below hb)
  have K2 := Lib.hid (blk_below K1.out hb)
  clear hb D1 H1 K1 x0 x1 x2 x3 x4 x5 x6 x7 x8
  have y1 := H2.out.cell 1
  have y2 := H2.out.cell 2
  obtain ⟨A, c, ev, hc, hC, -⟩ := H2.out.row.reads
  have HX := Lib.hid (IndexFunc_calls hC hc (put114_tells w2))
  rw [HP.out] at HX
  subst ev
  clear hC hm
  go_wp2_with fail
  with_reducible refine HX.out.mono ?_
  rintro e w3 ⟨rfl, hb⟩
  have D3 := Lib.hid (D2.out.trans (hb.mono D2.out.size))
  clear hb
  go_wp2
  exact HQ.out _ (BStep.of_below HB.out D3.out)
end
end Go.Proofs.Ytabdjehnglmlpaa
