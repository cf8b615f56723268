/- outbox: Try, where it is tried. -/
import Derived.Test.YtabdjehnglmlpaaOn
import Derived.Test.YtabdjehnglmlpaaXg
import Derived.Test.YtabdjehnglmlpaaWMore
namespace Go.Proofs.Ytabdjehnglmlpaa
open Go.RowKit Go.Proofs.YtabdjehnglmlpaaW.PrintWords Go.Proofs.YtabdjehnglmlpaaW.PrintMore
open PO (S45 z45 k45 rd_T45)
attribute [local go_sem] max2_int min2_int max_two min_two
set_option linter.unusedVariables false
set_option linter.unusedSimpArgs false

attribute [local irreducible] wpStill
section
variable {B : Nat} {w w' : World} {g : Nat} {v v' : Value} {s : Bs} {Q : Ending → World → Prop}
theorem BStep.drew (h : BStep B w w' g v v' s) : BStep B w w'.drew g v v' s := h.below (Below.refl _ _).drew
set_option maxRecDepth 100000 in
set_option maxHeartbeats 1000000 in
theorem Try_yes (h : Bx B w g v s) (id now : Int) {p : Nat} (hp : p < s.2.length) (he : atI s id = ((p : Int), 0)) (hw : waitsB (rd_T45 s.2 p) = true) (ht : (rd_T45 s.2 p).f5 < (rd_T45 s.2 p).f6) (hn : (rd_T45 s.2 p).f8 ≤ now) (hnow : now ≤ 9223372036854775807)
    (hs : Snd (s.1, s.2.set p (tried now (rd_T45 s.2 p)))) (hQ : ∀ w', BStep B w w' g v v (s.1, s.2.set p (tried now (rd_T45 s.2 p))) → Q (.returned (.tuple #[.agg #[.int .u64 (rd_T45 s.2 p).f0, .int .u64 (rd_T45 s.2 p).f1, .int .i64 (rd_T45 s.2 p).f2, .int .i64 (rd_T45 s.2 p).f3, .int .i64 (rd_T45 s.2 p).f4, .int .i64 ((rd_T45 s.2 p).f5 + 1), .int .i64 (rd_T45 s.2 p).f6, .int .i64 (min (2 * (rd_T45 s.2 p).f7) 1048576), .int .i64 (min now (1125899906842624 - (rd_T45 s.2 p).f7) + (rd_T45 s.2 p).f7)], .int .i64 0])) w') :
    Calls Try.prog 39 #[.pointer (some ⟨g, 0, none⟩), .int .u64 id, .int .i64 now] w Q := by
  obtain ⟨kk, kcap, ekk, -, -, hkw, -, -, -, -, -, -, -, -, -, -⟩ := h.row.at hp
  have hgl := h.lt
  have hne := h.ne
  have hsn := h.snd.at hp
  have hft := of_decide_eq_true hsn.2.2.1
  have hst := of_decide_eq_true hsn.2.2.2
  have HB := Lib.hid h
  have HQ := Lib.hid hQ
  have hfew := h.snd.few
  have D0 := Lib.hid ((Below.refl w.heap.size w).alloc (Nat.le_refl _) (.cells (No.cells z45) 45))
  have K0 : Hid ((w.alloc (.cells (No.cells z45) 45)).heap[w.heap.size]? = some (.cells (No.cells z45) 45)) := heap_alloc_new w _
  have H0 := Lib.hid (h.below D0.out)
  have HA := Lib.hid (at_calls H0.out id)
  have HW := Lib.hid (fun W => waits_calls W (rd_T45 s.2 p))
  have HS := Lib.hid hs
  have ht' : decide ((rd_T45 s.2 p).f6 ≤ (rd_T45 s.2 p).f5) = false := decide_eq_false (by omega)
  have hn' : decide (now < (rd_T45 s.2 p).f8) = false := decide_eq_false (by omega)
  rw [hw] at HW
  rw [he] at HA
  obtain ⟨a1, a2, a3, a4, -, -, -, -⟩ := hft
  obtain ⟨b1, b2, b3, b4, -⟩ := hst
  clear h hQ he hw hs hsn
  simp only [z45_cells] at HA D0 K0 H0
  simp only [No.val] at HW
  go_enter Try.func39, Try.ntmps39
  go_wp2_with fail
  with_reducible refine HA.out.mono ?_
  rintro e w1 ⟨rfl, hb⟩
  have D1 := Lib.hid (D0.out.trans (hb.mono D0.out.size))
  have H1 := Lib.hid (H0.out.below hb)
  have K1 := Lib.hid (blk_below K0.out hb)
  obtain ⟨k, cap, ek, hc, hk0, hk1, y0, y1, y2, y3, y4, y5, y6, y7, y8, fz⟩ := H1.out.row.at hp
  subst ek
  have xx := H1.out.cell 2
  have hr1 : w.heap.size < w1.heap.size := blk_lt K1.out
  have D1b := Lib.hid (D1.out.alloc D1.out.size (.cells (No.cells (rd_T45 s.2 p)) 45))
  have H1b := Lib.hid (H1.out.below ((Below.refl _ w1).alloc (Nat.le_refl _) (.cells (No.cells (rd_T45 s.2 p)) 45)))
  have K1b := Lib.hid (blk_alloc K1.out (.cells (No.cells (rd_T45 s.2 p)) 45))
  have L1 : Hid ((w1.alloc (.cells (No.cells (rd_T45 s.2 p)) 45)).heap[w1.heap.size]? = some (.cells (No.cells (rd_T45 s.2 p)) 45)) := heap_alloc_new w1 _
  clear hb H0 D0 K0 HA D1 H1 K1
  simp only [No.cells] at D1b H1b K1b L1
  go_wp2_with fail
  with_reducible refine (HW.out _).mono ?_
  rintro e w2 ⟨rfl, hb⟩
  have D2 := Lib.hid (D1b.out.trans (hb.mono D1b.out.size))
  have K2 := Lib.hid (blk_below K1b.out hb)
  have H2 := Lib.hid (H1b.out.below hb)
  have L2 := Lib.hid (blk_below L1.out hb)
  clear hb xx y0 y1 y2 y3 y4 y5 y6 y7 y8 fz D1b H1b K1b L1
  have u0 := blk_cell L2.out 0; have e0 := blk_frozen L2.out 0
  have u1 := blk_cell L2.out 1; have e1 := blk_frozen L2.out 1
  have u2 := blk_cell L2.out 2; have e2 := blk_frozen L2.out 2
  have u3 := blk_cell L2.out 3; have e3 := blk_frozen L2.out 3
  have u4 := blk_cell L2.out 4; have e4 := blk_frozen L2.out 4
  have u5 := blk_cell L2.out 5; have e5 := blk_frozen L2.out 5
  have u6 := blk_cell L2.out 6; have e6 := blk_frozen L2.out 6
  have u7 := blk_cell L2.out 7; have e7 := blk_frozen L2.out 7
  have u8 := blk_cell L2.out 8; have e8 := blk_frozen L2.out 8
  obtain ⟨M8, hM8⟩ : ∃ m, (if 1125899906842624 - (rd_T45 s.2 p).f7 < now then 1125899906842624 - (rd_T45 s.2 p).f7 else now) + (rd_T45 s.2 p).f7 = m := ⟨_, rfl⟩
  obtain ⟨M7, hM7⟩ : ∃ m, (if 1048576 < 2 * (rd_T45 s.2 p).f7 then 1048576 else 2 * (rd_T45 s.2 p).f7) = m := ⟨_, rfl⟩
  have hT : tried now (rd_T45 s.2 p) = ⟨(rd_T45 s.2 p).f0, (rd_T45 s.2 p).f1, (rd_T45 s.2 p).f2, (rd_T45 s.2 p).f3, (rd_T45 s.2 p).f4, (rd_T45 s.2 p).f5 + 1, (rd_T45 s.2 p).f6, M7, M8⟩ := by
    unfold tried
    rw [← hM8, ← hM7]
    congr 1
    · split <;> omega
    · split <;> omega
  have e7 : min (2 * (rd_T45 s.2 p).f7) 1048576 = M7 := by rw [← hM7]; split <;> omega
  have e8 : min now (1125899906842624 - (rd_T45 s.2 p).f7) + (rd_T45 s.2 p).f7 = M8 := by rw [← hM8]; split <;> omega
  rw [hT, e7, e8] at HQ
  rw [hT] at HS
  have HM8 := Lib.hid hM8
  have HM7 := Lib.hid hM7
  clear hM8 hM7 hT e7 e8
  go_upto_region 12 with fail
  rw [HM8.out, HM7.out]
  go_cut [70] (fun _ wx => Hid (BStep B w wx g (.slice (some ⟨kk, 0, none⟩) s.2.length kcap) (.slice (some ⟨kk, 0, none⟩) s.2.length kcap) (s.1, s.2.set p ⟨(rd_T45 s.2 p).f0, (rd_T45 s.2 p).f1, (rd_T45 s.2 p).f2, (rd_T45 s.2 p).f3, (rd_T45 s.2 p).f4, (rd_T45 s.2 p).f5 + 1, (rd_T45 s.2 p).f6, M7, M8⟩)) ∧ Hid (wx.heap[w1.heap.size]? = some (.cells (No.cells ⟨(rd_T45 s.2 p).f0, (rd_T45 s.2 p).f1, (rd_T45 s.2 p).f2, (rd_T45 s.2 p).f3, (rd_T45 s.2 p).f4, (rd_T45 s.2 p).f5 + 1, (rd_T45 s.2 p).f6, M7, M8⟩) 45)) ∧ Hid (wx.heap[w.heap.size]? = some (.cells #[.int .u64 0, .int .u64 0, .int .i64 0, .int .i64 0, .int .i64 0, .int .i64 0, .int .i64 0, .int .i64 0, .int .i64 0] 45)))
  case first =>
    rename_i J' K' hJ' hK'
    have hgr : g ≠ w1.heap.size := by omega
    have hkr : (Value.slice (some ⟨kk, 0, none⟩) s.2.length kcap).ownBlock ≠ some w1.heap.size := by simp [Value.ownBlock]; omega
    have HK := Lib.hid hkr
    have hrk : w.heap.size ≠ kk := by omega
    have hwr : w.heap.size ≠ w1.heap.size := by omega
    have BS3 := ((((BStep.of_below HB.out D2.out).far (p := ⟨w1.heap.size, 5, none⟩) (by show w.heap.size ≤ w1.heap.size; omega) hgr hkr (.int .i64 ((rd_T45 s.2 p).f5 + 1))).far (p := ⟨w1.heap.size, 8, none⟩) (by show w.heap.size ≤ w1.heap.size; omega) hgr hkr (.int .i64 M8)).far (p := ⟨w1.heap.size, 7, none⟩) (by show w.heap.size ≤ w1.heap.size; omega) hgr hkr (.int .i64 M7))
    have BS4 := BS3.trans (BS3.bx.set9 hp HS.out)
    have Y := Lib.hid BS4.drew
    have Z0 := (blk_far (blk_far (blk_far K2.out (p := ⟨w1.heap.size, 5, none⟩) hwr (.int .i64 ((rd_T45 s.2 p).f5 + 1))) (p := ⟨w1.heap.size, 8, none⟩) hwr (.int .i64 M8)) (p := ⟨w1.heap.size, 7, none⟩) hwr (.int .i64 M7))
    have Z1 := blk_far (blk_far (blk_far (blk_far (blk_far (blk_far (blk_far (blk_far (blk_far Z0 (p := ⟨kk, p * 9, none⟩) hrk (.int .u64 (rd_T45 s.2 p).f0)) (p := ⟨kk, p * 9 + 1, none⟩) hrk (.int .u64 (rd_T45 s.2 p).f1)) (p := ⟨kk, p * 9 + 2, none⟩) hrk (.int .i64 (rd_T45 s.2 p).f2)) (p := ⟨kk, p * 9 + 3, none⟩) hrk (.int .i64 (rd_T45 s.2 p).f3)) (p := ⟨kk, p * 9 + 4, none⟩) hrk (.int .i64 (rd_T45 s.2 p).f4)) (p := ⟨kk, p * 9 + 5, none⟩) hrk (.int .i64 ((rd_T45 s.2 p).f5 + 1))) (p := ⟨kk, p * 9 + 6, none⟩) hrk (.int .i64 (rd_T45 s.2 p).f6)) (p := ⟨kk, p * 9 + 7, none⟩) hrk (.int .i64 M7)) (p := ⟨kk, p * 9 + 8, none⟩) hrk (.int .i64 M8)
    have hlk : w1.heap.size ≠ kk := by omega
    have L3 := blk_set (blk_set (blk_set L2.out 5 (.int .i64 ((rd_T45 s.2 p).f5 + 1))) 8 (.int .i64 M8)) 7 (.int .i64 M7)
    simp only [List.setIfInBounds_toArray, List.set_cons_succ, List.set_cons_zero] at L3
    have L4 := (blk_far (blk_far (blk_far (blk_far (blk_far (blk_far (blk_far (blk_far (blk_far L3 (p := ⟨kk, p * 9, none⟩) hlk (.int .u64 (rd_T45 s.2 p).f0)) (p := ⟨kk, p * 9 + 1, none⟩) hlk (.int .u64 (rd_T45 s.2 p).f1)) (p := ⟨kk, p * 9 + 2, none⟩) hlk (.int .i64 (rd_T45 s.2 p).f2)) (p := ⟨kk, p * 9 + 3, none⟩) hlk (.int .i64 (rd_T45 s.2 p).f3)) (p := ⟨kk, p * 9 + 4, none⟩) hlk (.int .i64 (rd_T45 s.2 p).f4)) (p := ⟨kk, p * 9 + 5, none⟩) hlk (.int .i64 ((rd_T45 s.2 p).f5 + 1))) (p := ⟨kk, p * 9 + 6, none⟩) hlk (.int .i64 (rd_T45 s.2 p).f6)) (p := ⟨kk, p * 9 + 7, none⟩) hlk (.int .i64 M7)) (p := ⟨kk, p * 9 + 8, none⟩) hlk (.int .i64 M8))
    have ZK := Lib.hid (blk_drew Z1)
    have ZL := Lib.hid (blk_drew L4)
    obtain ⟨k', cap', ek, -, -, -, y0, y1, y2, y3, y4, y5, y6, y7, y8, fz⟩ := H2.out.row.at hp
    injection ek with ek1 ek2 ek3
    injection ek1 with ek1
    injection ek1 with ek1 _ _
    subst ek1 ek3
    clear ek2 BS3 BS4 Z0 Z1 L3 L4 hkr
    have xx := H2.out.cell 2
    have n1 : ¬ (kk = w1.heap.size) := by omega
    have n2 : ¬ (w1.heap.size = kk) := by omega
    have n3 : ¬ (w.heap.size = kk) := by omega
    have n4 : ¬ (w.heap.size = w1.heap.size) := by omega
    have n5 : ¬ (g = w1.heap.size) := by omega
    have x0 := blk_cell K2.out 0; have f0 := blk_frozen K2.out 0
    have x1 := blk_cell K2.out 1; have f1 := blk_frozen K2.out 1
    have x2 := blk_cell K2.out 2; have f2 := blk_frozen K2.out 2
    have x3 := blk_cell K2.out 3; have f3 := blk_frozen K2.out 3
    have x4 := blk_cell K2.out 4; have f4 := blk_frozen K2.out 4
    have x5 := blk_cell K2.out 5; have f5 := blk_frozen K2.out 5
    have x6 := blk_cell K2.out 6; have f6 := blk_frozen K2.out 6
    have x7 := blk_cell K2.out 7; have f7 := blk_frozen K2.out 7
    have x8 := blk_cell K2.out 8; have f8 := blk_frozen K2.out 8
    refine wp_parts (by kernel_rfl) rfl ?_
    refine wpAny_part (k := 0) (n := 7) (g := 1) rfl (by kernel_rfl) (by kernel_rfl) (by decide) (by kernel_rfl) (by kernel_rfl) ?_ (by rfl)
    simp only [List.drop_zero, Nat.sub_zero, List.take_succ_cons, List.take_zero]
    iterate 7 still_step
    refine wpStill_nil ?_
    refine wpAny_gate (f := 0) (by kernel_rfl) rfl (fun K hK => ?_)
    go_simp
    refine hK _ _ ?_
    clear hK K
    refine wpAny_last (k := 8) rfl (by kernel_rfl) (by kernel_rfl) ?_ (by rfl)
    simp only [List.drop_succ_cons, List.drop_zero]
    refine wpStill_nil ?_
    refine hK' _ _ (Met.intro (hJ' _ _ ?_))
    (repeat apply Exists.intro)
    refine ⟨⟨Y, ZL, ZK⟩, rfl⟩
  case rest =>
    clear u0 e0 u1 e1 u2 e2 u3 e3 u4 e4 u5 e5 u6 e6 u7 e7 u8 e8 HB H2 D2 K2 L2 HM8 HM7
    obtain ⟨BS5, L5, K5⟩ := hcut
    simp only [No.cells] at L5
    have u0 := blk_cell L5.out 0; have e0 := blk_frozen L5.out 0
    have u1 := blk_cell L5.out 1; have e1 := blk_frozen L5.out 1
    have u2 := blk_cell L5.out 2; have e2 := blk_frozen L5.out 2
    have u3 := blk_cell L5.out 3; have e3 := blk_frozen L5.out 3
    have u4 := blk_cell L5.out 4; have e4 := blk_frozen L5.out 4
    have u5 := blk_cell L5.out 5; have e5 := blk_frozen L5.out 5
    have u6 := blk_cell L5.out 6; have e6 := blk_frozen L5.out 6
    have u7 := blk_cell L5.out 7; have e7 := blk_frozen L5.out 7
    have u8 := blk_cell L5.out 8; have e8 := blk_frozen L5.out 8
    have x0 := blk_cell K5.out 0; have f0 := blk_frozen K5.out 0
    have x1 := blk_cell K5.out 1; have f1 := blk_frozen K5.out 1
    have x2 := blk_cell K5.out 2; have f2 := blk_frozen K5.out 2
    have x3 := blk_cell K5.out 3; have f3 := blk_frozen K5.out 3
    have x4 := blk_cell K5.out 4; have f4 := blk_frozen K5.out 4
    have x5 := blk_cell K5.out 5; have f5 := blk_frozen K5.out 5
    have x6 := blk_cell K5.out 6; have f6 := blk_frozen K5.out 6
    have x7 := blk_cell K5.out 7; have f7 := blk_frozen K5.out 7
    have x8 := blk_cell K5.out 8; have f8 := blk_frozen K5.out 8
    have hrv : (Value.slice (some ⟨kk, 0, none⟩) s.2.length kcap).ownBlock ≠ some w.heap.size := by simp [Value.ownBlock]; omega
    have Y := Lib.hid (BS5.out.lay9 (r := w.heap.size) (Nat.le_refl _) (by omega) hrv ⟨(rd_T45 s.2 p).f0, (rd_T45 s.2 p).f1, (rd_T45 s.2 p).f2, (rd_T45 s.2 p).f3, (rd_T45 s.2 p).f4, (rd_T45 s.2 p).f5 + 1, (rd_T45 s.2 p).f6, M7, M8⟩)
    have Z := Lib.hid (lay9_blk K5.out rfl ⟨(rd_T45 s.2 p).f0, (rd_T45 s.2 p).f1, (rd_T45 s.2 p).f2, (rd_T45 s.2 p).f3, (rd_T45 s.2 p).f4, (rd_T45 s.2 p).f5 + 1, (rd_T45 s.2 p).f6, M7, M8⟩)
    clear hrv
    simp only [Ytabdjehnglmlpaa.lay9, No.cells] at Z Y
    go_wp2
    exact bodyPost_ret (results_ct (p := 6) (u := 7) rfl _ _ w.heap.size 45 _ (0, 0) _ rfl Z.out Try.underlying45 rfl size45) rfl (HQ.out _ Y.out)
theorem Try_calls (h : Bx B w g v s) (id now : Int) (hnow : now ≤ 9223372036854775807) :
    Calls Try.prog 39 #[.pointer (some ⟨g, 0, none⟩), .int .u64 id, .int .i64 now] w fun e w' => e = .returned (.tuple #[No.val (tryS s id now).2.1, .int .i64 (tryS s id now).2.2]) ∧ BStep B w w' g v v (tryS s id now).1 := by
  have hs := h.snd.tryS id now
  by_cases hp : place (isId id) s.2 < s.2.length
  · have e1 : atI s id = ((place (isId id) s.2 : Int), 0) := if_pos hp
    have e2 : tryS s id now = if waitsB (rd_T45 s.2 (place (isId id) s.2)) = false ∨ (rd_T45 s.2 (place (isId id) s.2)).f6 ≤ (rd_T45 s.2 (place (isId id) s.2)).f5 then (s, (z45, 33)) else if now < (rd_T45 s.2 (place (isId id) s.2)).f8 then (s, (z45, 52)) else ((s.1, s.2.set (place (isId id) s.2) (tried now (rd_T45 s.2 (place (isId id) s.2)))), (tried now (rd_T45 s.2 (place (isId id) s.2)), 0)) := if_pos hp
    rw [e2] at hs ⊢
    by_cases hn : waitsB (rd_T45 s.2 (place (isId id) s.2)) = false ∨ (rd_T45 s.2 (place (isId id) s.2)).f6 ≤ (rd_T45 s.2 (place (isId id) s.2)).f5
    · rw [if_pos hn] at hs ⊢
      rcases hn with hn | hn
      · exact Try_waitsnot h id now hp e1 hn (fun w' hw => ⟨rfl, hw⟩)
      · cases hw : waitsB (rd_T45 s.2 (place (isId id) s.2))
        · exact Try_waitsnot h id now hp e1 hw (fun w' hw => ⟨rfl, hw⟩)
        · exact Try_spent h id now hp e1 hw hn (fun w' hw => ⟨rfl, hw⟩)
    · rw [if_neg hn] at hs ⊢
      simp only [not_or, Bool.not_eq_false, Int.not_le] at hn
      by_cases hb : now < (rd_T45 s.2 (place (isId id) s.2)).f8
      · rw [if_pos hb] at hs ⊢
        exact Try_early h id now hp e1 hn.1 hn.2 hb (fun w' hw => ⟨rfl, hw⟩)
      · rw [if_neg hb] at hs ⊢
        exact Try_yes h id now hp e1 hn.1 hn.2 (by omega) hnow hs (fun w' hw => ⟨rfl, hw⟩)
  · have e1 : atI s id = (0, 31) := if_neg hp
    have e2 : tryS s id now = (s, (z45, 31)) := if_neg hp
    rw [e2]
    exact Try_none h id now e1 (fun w' hw => ⟨rfl, hw⟩)
end
end Go.Proofs.Ytabdjehnglmlpaa
