/- outbox: at, Get, Ack, Try. -/
import Derived.Test.YtabdjehnglmlpaaOj
namespace Go.Proofs.Ytabdjehnglmlpaa
open Go.RowKit Go.Proofs.YtabdjehnglmlpaaW.PrintWords
open PO (S45 z45 k45 rd_T45)
set_option linter.unusedVariables false
set_option linter.unusedSimpArgs false

def atI (s : Bs) (id : Int) : Int × Int := if place (isId id) s.2 < s.2.length then ((place (isId id) s.2 : Int), 0) else (0, 31)
set_option maxRecDepth 100000 in
set_option maxHeartbeats 2000000 in
theorem at_calls {B : Nat} {w : World} {g : Nat} {v : Value} {s : Bs} (h : Bx B w g v s) (id : Int) :
    Calls Try.prog 116 #[.pointer (some ⟨g, 0, none⟩), .int .u64 id] w fun e w' => e = .returned (.tuple #[.int .i64 (atI s id).1, .int .i64 (atI s id).2]) ∧ Below w.heap.size w w' := by
  have D0 := Lib.hid ((Below.refl w.heap.size w).alloc (Nat.le_refl _) (.cells #[.int .u64 id] 26))
  have H1 := Lib.hid (h.below D0.out)
  have hid : (w.alloc (.cells #[.int .u64 id] 26)).cell? ⟨w.heap.size, 0, none⟩ = some (.int .u64 id) := (blk_cell (heap_alloc_new w (.cells #[.int .u64 id] 26)) 0).trans rfl
  have HT := Lib.hid (at158_tells hid)
  obtain ⟨A, c, rfl, hc, hC, -⟩ := h.row.reads
  have HI := Lib.hid (IndexFunc_calls (Kd.C_below hC D0.out) hc HT.out)
  have x2 := H1.out.cell 2
  have HE : Hid (atI s id = if place (isId id) s.2 < s.2.length then ((place (isId id) s.2 : Int), 0) else (0, 31)) := rfl
  have hpl := place_le (isId id) s.2
  have hfew := h.snd.few
  by_cases hp : place (isId id) s.2 < s.2.length
  · have HP : Hid (placeI (isId id) s.2 = (place (isId id) s.2 : Int)) := if_pos hp
    have HE2 : Hid (atI s id = ((place (isId id) s.2 : Int), 0)) := if_pos hp
    rw [HP.out] at HI
    rw [HE2.out]
    generalize place (isId id) s.2 = p at *
    clear h hid hC HE HP HT
    go_enter Try.func116, Try.ntmps116
    go_wp2_with fail
    with_reducible refine (none_bx H1.out).mono ?_
    rintro e w1 ⟨rfl, rfl⟩
    go_wp2_with fail
    with_reducible refine HI.out.mono ?_
    rintro e w2 ⟨rfl, hb⟩
    have D2 := Lib.hid (D0.out.trans (hb.mono D0.out.size))
    clear hb
    go_wp2
    go_ret2
    exact ⟨rfl, D2.out⟩
  · have HP : Hid (placeI (isId id) s.2 = -1) := if_neg hp
    have HE2 : Hid (atI s id = (0, 31)) := if_neg hp
    rw [HP.out] at HI
    rw [HE2.out]
    clear h hid hC HE HP HT
    go_enter Try.func116, Try.ntmps116
    go_wp2_with fail
    with_reducible refine (none_bx H1.out).mono ?_
    rintro e w1 ⟨rfl, rfl⟩
    go_wp2_with fail
    with_reducible refine HI.out.mono ?_
    rintro e w2 ⟨rfl, hb⟩
    have D2 := Lib.hid (D0.out.trans (hb.mono D0.out.size))
    clear hb
    go_wp2
    go_ret2
    exact ⟨rfl, D2.out⟩
theorem below_far {B : Nat} {a w : World} (h : Below B a w) {p : Addr} (hp : B ≤ p.block) (u : Value) : Below B a (w.setCell p u) :=
  ⟨h.os, h.tape, h.output, by simpa [World.setCell] using h.size, fun i hi => (Below.heap_setCell w p u i (by omega)).trans (h.block i hi)⟩
/-- A notice's nine cells laid over a block. -/
def lay9 (w : World) (r : Nat) (m : No) : World :=
  ((((((((w.setCell ⟨r, 0, none⟩ (.int .u64 m.f0)).setCell ⟨r, 1, none⟩ (.int .u64 m.f1)).setCell ⟨r, 2, none⟩ (.int .i64 m.f2)).setCell ⟨r, 3, none⟩ (.int .i64 m.f3)).setCell ⟨r, 4, none⟩ (.int .i64 m.f4)).setCell ⟨r, 5, none⟩ (.int .i64 m.f5)).setCell ⟨r, 6, none⟩ (.int .i64 m.f6)).setCell ⟨r, 7, none⟩ (.int .i64 m.f7)).setCell ⟨r, 8, none⟩ (.int .i64 m.f8)
theorem arr9 {cs : Array Value} (h : cs.size = 9) : ∃ a b c d e f g i j, cs = #[a, b, c, d, e, f, g, i, j] := by
  obtain ⟨l⟩ := cs
  match l, h with
  | [a, b, c, d, e, f, g, i, j], _ => exact ⟨a, b, c, d, e, f, g, i, j, rfl⟩
theorem lay9_blk {w : World} {r t : Nat} {cs : Array Value} (h : w.heap[r]? = some (.cells cs t (0, 0))) (hs : cs.size = 9) (m : No) : (lay9 w r m).heap[r]? = some (.cells (No.cells m) t (0, 0)) := by
  obtain ⟨a, b, c, d, e, f, g, i, j, rfl⟩ := arr9 hs
  have := blk_set (blk_set (blk_set (blk_set (blk_set (blk_set (blk_set (blk_set (blk_set h 0 (.int .u64 m.f0)) 1 (.int .u64 m.f1)) 2 (.int .i64 m.f2)) 3 (.int .i64 m.f3)) 4 (.int .i64 m.f4)) 5 (.int .i64 m.f5)) 6 (.int .i64 m.f6)) 7 (.int .i64 m.f7)) 8 (.int .i64 m.f8)
  simpa [lay9, No.cells] using this
theorem lay9_below {B : Nat} {w0 w : World} {r : Nat} (h : Below B w0 w) (hr : B ≤ r) (m : No) : Below B w0 (lay9 w r m) := by
  unfold lay9
  iterate 9 refine below_far ?_ hr _
  exact h
theorem size45 : (Try.prog.info? 45).map (·.size) = some 9 := by kernel_rfl
theorem z45_cells : No.cells z45 = #[.int .u64 0, .int .u64 0, .int .i64 0, .int .i64 0, .int .i64 0, .int .i64 0, .int .i64 0, .int .i64 0, .int .i64 0] := rfl

set_option maxRecDepth 100000 in
set_option maxHeartbeats 2000000 in
theorem Get_calls {B : Nat} {w : World} {g : Nat} {v : Value} {s : Bs} (h : Bx B w g v s) (id : Int) :
    Calls Try.prog 41 #[.pointer (some ⟨g, 0, none⟩), .int .u64 id] w fun e w' => e = .returned (.tuple #[No.val (getS s id).1, .bool (getS s id).2]) ∧ Below w.heap.size w w' := by
  have D0 := Lib.hid ((Below.refl w.heap.size w).alloc (Nat.le_refl _) (.cells (No.cells z45) 45))
  have K0 : Hid ((w.alloc (.cells (No.cells z45) 45)).heap[w.heap.size]? = some (.cells (No.cells z45) 45)) := heap_alloc_new w _
  have H0 := Lib.hid (h.below D0.out)
  have HA := Lib.hid (at_calls H0.out id)
  have hpl := place_le (isId id) s.2
  have hfew := h.snd.few
  clear h
  by_cases hp : place (isId id) s.2 < s.2.length
  · have e1 : atI s id = ((place (isId id) s.2 : Int), 0) := if_pos hp
    have e2 : getS s id = (rd_T45 s.2 (place (isId id) s.2), true) := if_pos hp
    rw [e1] at HA
    rw [e2]
    clear e1 e2
    generalize place (isId id) s.2 = p at *
    simp only [z45_cells] at HA D0 K0 H0
    simp only [No.val]
    go_enter Try.func41, Try.ntmps41
    go_wp2_with fail
    with_reducible refine HA.out.mono ?_
    rintro e w1 ⟨rfl, hb⟩
    have D1 := Lib.hid (D0.out.trans (hb.mono D0.out.size))
    have H1 := Lib.hid (H0.out.below hb)
    have K1 := Lib.hid (blk_below K0.out hb)
    have x2 := H1.out.cell 2
    obtain ⟨A, c, rfl, hc, hC, -⟩ := H1.out.row.reads
    obtain ⟨ad, rfl, y0, y1, y2, y3, y4, y5, y6, y7, y8⟩ := at45 hC p hp
    clear hC hb H0 D0 K0 HA
    have x0 := blk_cell K1.out 0; have f0 := blk_frozen K1.out 0
    have x1 := blk_cell K1.out 1; have f1 := blk_frozen K1.out 1
    have xx2 := blk_cell K1.out 2; have f2 := blk_frozen K1.out 2
    have x3 := blk_cell K1.out 3; have f3 := blk_frozen K1.out 3
    have x4 := blk_cell K1.out 4; have f4 := blk_frozen K1.out 4
    have x5 := blk_cell K1.out 5; have f5 := blk_frozen K1.out 5
    have x6 := blk_cell K1.out 6; have f6 := blk_frozen K1.out 6
    have x7 := blk_cell K1.out 7; have f7 := blk_frozen K1.out 7
    have x8 := blk_cell K1.out 8; have f8 := blk_frozen K1.out 8
    have Z := Lib.hid (lay9_blk K1.out rfl (rd_T45 s.2 p))
    have Y := Lib.hid (lay9_below D1.out (Nat.le_refl _) (rd_T45 s.2 p))
    simp only [lay9, No.cells] at Z Y
    go_wp2
    refine bodyPost_ret (results_ct rfl _ _ w.heap.size 45 _ (0, 0) _ rfl Z.out Try.underlying45 rfl size45) rfl ⟨rfl, Y.out⟩
  · have e1 : atI s id = (0, 31) := if_neg hp
    have e2 : getS s id = (z45, false) := if_neg hp
    rw [e1] at HA
    rw [e2]
    clear e1 e2 hp hpl
    simp only [z45_cells] at HA D0 K0 H0
    simp only [No.val]
    go_enter Try.func41, Try.ntmps41
    go_wp2_with fail
    with_reducible refine HA.out.mono ?_
    rintro e w1 ⟨rfl, hb⟩
    have D1 := Lib.hid (D0.out.trans (hb.mono D0.out.size))
    have K1 := Lib.hid (blk_below K0.out hb)
    clear hb H0 D0 K0 HA
    have x0 := blk_cell K1.out 0; have f0 := blk_frozen K1.out 0
    have x1 := blk_cell K1.out 1; have f1 := blk_frozen K1.out 1
    have xx2 := blk_cell K1.out 2; have f2 := blk_frozen K1.out 2
    have x3 := blk_cell K1.out 3; have f3 := blk_frozen K1.out 3
    have x4 := blk_cell K1.out 4; have f4 := blk_frozen K1.out 4
    have x5 := blk_cell K1.out 5; have f5 := blk_frozen K1.out 5
    have x6 := blk_cell K1.out 6; have f6 := blk_frozen K1.out 6
    have x7 := blk_cell K1.out 7; have f7 := blk_frozen K1.out 7
    have x8 := blk_cell K1.out 8; have f8 := blk_frozen K1.out 8
    have Z := Lib.hid (lay9_blk K1.out rfl z45)
    have Y := Lib.hid (lay9_below D1.out (Nat.le_refl _) z45)
    simp only [lay9, PO.z45, No.cells] at Z Y ⊢
    go_wp2
    refine bodyPost_ret (results_ct rfl _ _ w.heap.size 45 _ (0, 0) _ rfl Z.out Try.underlying45 rfl size45) rfl ⟨rfl, Y.out⟩
end Go.Proofs.Ytabdjehnglmlpaa
