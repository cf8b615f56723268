/- outbox: Ack, where it is acked. -/
import Derived.Test.YtabdjehnglmlpaaOl
namespace Go.Proofs.Ytabdjehnglmlpaa
open Go.RowKit Go.Proofs.YtabdjehnglmlpaaW.PrintWords
open PO (S45 z45 k45 rd_T45)
set_option linter.unusedVariables false
set_option linter.unusedSimpArgs false

section
variable {B : Nat} {w w' : World} {g : Nat} {v v' : Value} {s : Bs} {Q : Ending → World → Prop}
/-- A store into a block that is younger than w and not the box's. -/
theorem BStep.far (h : BStep B w w' g v v' s) {p : Addr} (hp : w.heap.size ≤ p.block) (hg : g ≠ p.block) (hv : v'.ownBlock ≠ some p.block) (u : Value) : BStep B w (w'.setCell p u) g v v' s := by
  refine ⟨⟨blk_far h.bx.blk hg u, h.bx.ge, h.bx.row.move (fun k hk => Below.heap_setCell w' p u k (fun e => hv (by rw [hk, e]))), h.bx.snd, h.bx.nn⟩, ?_, h.fresh⟩
  have hm := h.mod
  exact ⟨hm.os, hm.tape, hm.output, by simpa [World.setCell] using hm.size, fun i hi hn => (Below.heap_setCell w' p u i (by omega)).trans (hm.block i hi hn)⟩
theorem BStep.lay9 (h : BStep B w w' g v v' s) {r : Nat} (hp : w.heap.size ≤ r) (hg : g ≠ r) (hv : v'.ownBlock ≠ some r) (m : No) : BStep B w (lay9 w' r m) g v v' s := by
  unfold Ytabdjehnglmlpaa.lay9
  iterate 9 refine BStep.far ?_ hp hg hv _
  exact h
/-- One cell of one notice of a box is written. -/
theorem Bx.set1 {k cap i j : Nat} {m : No} (h : Bx B w g (.slice (some ⟨k, 0, none⟩) s.2.length cap) s) (hi : i < s.2.length) (hj : j < 9) (u : Value) (hm : (No.cells m).toList = (No.cells (rd_T45 s.2 i)).toList.set j u) (hs : Snd (s.1, s.2.set i m)) :
    BStep B w (w.setCell ⟨k, i * 9 + j, none⟩ u) g (.slice (some ⟨k, 0, none⟩) s.2.length cap) (.slice (some ⟨k, 0, none⟩) s.2.length cap) (s.1, s.2.set i m) := by
  have hne : g ≠ k := fun e => h.ne (by rw [e]; rfl)
  refine ⟨⟨blk_far h.blk hne u, h.ge, h.row.set1 hi j hj u hm, hs, h.nn⟩, Mod.setCell (Mod.refl _ _) (.inr rfl) _, .inl rfl⟩
/-- All nine are. -/
theorem Bx.set9 {k cap i : Nat} {m : No} (h : Bx B w g (.slice (some ⟨k, 0, none⟩) s.2.length cap) s) (hi : i < s.2.length) (hs : Snd (s.1, s.2.set i m)) :
    BStep B w (((((((((w.setCell ⟨k, i * 9, none⟩ (.int .u64 m.f0)).setCell ⟨k, i * 9 + 1, none⟩ (.int .u64 m.f1)).setCell ⟨k, i * 9 + 2, none⟩ (.int .i64 m.f2)).setCell ⟨k, i * 9 + 3, none⟩ (.int .i64 m.f3)).setCell ⟨k, i * 9 + 4, none⟩ (.int .i64 m.f4)).setCell ⟨k, i * 9 + 5, none⟩ (.int .i64 m.f5)).setCell ⟨k, i * 9 + 6, none⟩ (.int .i64 m.f6)).setCell ⟨k, i * 9 + 7, none⟩ (.int .i64 m.f7)).setCell ⟨k, i * 9 + 8, none⟩ (.int .i64 m.f8))
      g (.slice (some ⟨k, 0, none⟩) s.2.length cap) (.slice (some ⟨k, 0, none⟩) s.2.length cap) (s.1, s.2.set i m) := by
  have hne : g ≠ k := fun e => h.ne (by rw [e]; rfl)
  refine ⟨⟨?_, h.ge, h.row.set9 hi, hs, h.nn⟩, ?_, .inl rfl⟩
  · iterate 9 refine blk_far ?_ hne _
    exact h.blk
  · iterate 9 refine Mod.setCell ?_ (.inr rfl) _
    exact Mod.refl _ _
theorem acked_cells (n : No) : (No.cells (acked n)).toList = (No.cells n).toList.set 4 (.int .i64 2) := rfl

set_option maxRecDepth 100000 in
set_option maxHeartbeats 400000 in
theorem Ack_yes (h : Bx B w g v s) (id : Int) {p : Nat} (hp : p < s.2.length) (he : atI s id = ((p : Int), 0)) (hw : waitsB (rd_T45 s.2 p) = true) (h5 : (rd_T45 s.2 p).f5 ≠ 0) (hs : Snd (s.1, s.2.set p (acked (rd_T45 s.2 p))))
    (hQ : ∀ w', BStep B w w' g v v (s.1, s.2.set p (acked (rd_T45 s.2 p))) → Q (.returned (.tuple #[.agg #[.int .u64 (rd_T45 s.2 p).f0, .int .u64 (rd_T45 s.2 p).f1, .int .i64 (rd_T45 s.2 p).f2, .int .i64 (rd_T45 s.2 p).f3, .int .i64 2, .int .i64 (rd_T45 s.2 p).f5, .int .i64 (rd_T45 s.2 p).f6, .int .i64 (rd_T45 s.2 p).f7, .int .i64 (rd_T45 s.2 p).f8], .int .i64 0])) w') :
    Calls Try.prog 40 #[.pointer (some ⟨g, 0, none⟩), .int .u64 id] w Q := by
  obtain ⟨k, cap, rfl, hc, hk0, hk1, -, -, -, -, -, -, -, -, -, -⟩ := h.row.at hp
  have HB := Lib.hid h
  have HQ := Lib.hid hQ
  have HS := Lib.hid hs
  have hfew := h.snd.few
  have hgl := h.lt
  have hgk : g ≠ k := fun e => h.ne (by rw [e]; rfl)
  have D0 := Lib.hid ((Below.refl w.heap.size w).alloc (Nat.le_refl _) (.cells (No.cells z45) 45))
  have K0 : Hid ((w.alloc (.cells (No.cells z45) 45)).heap[w.heap.size]? = some (.cells (No.cells z45) 45)) := heap_alloc_new w _
  have H0 := Lib.hid (h.below D0.out)
  have HA := Lib.hid (at_calls H0.out id)
  have HW := Lib.hid (fun W => waits_calls W (rd_T45 s.2 p))
  rw [hw] at HW
  rw [he] at HA
  have h5' : ((rd_T45 s.2 p).f5 == 0) = false := beq_eq_false_iff_ne.2 h5
  have hkr : ¬ (w.heap.size = k) := by omega
  have hkr2 : ¬ (k = w.heap.size) := by omega
  clear h hQ he hw h5 hs
  simp only [z45_cells] at HA D0 K0 H0
  simp only [No.val] at HW
  go_enter Try.func40, Try.ntmps40
  go_wp2_with fail
  with_reducible refine HA.out.mono ?_
  rintro e w1 ⟨rfl, hb⟩
  have D1 := Lib.hid (D0.out.trans (hb.mono D0.out.size))
  have H1 := Lib.hid (H0.out.below hb)
  have K1 := Lib.hid (blk_below K0.out hb)
  obtain ⟨k', cap', ek, hc', hk0', hk1', y0, y1, y2, y3, y4, y5, y6, y7, y8, fz⟩ := H1.out.row.at hp
  injection ek with ek1 ek2 ek3
  injection ek1 with ek1
  injection ek1 with ek1 _ _
  subst ek1 ek3
  have xx := H1.out.cell 2
  clear hb H0 D0 K0 HA hc' hk0' hk1' ek2
  go_wp2_with fail
  with_reducible refine (HW.out _).mono ?_
  rintro e w2 ⟨rfl, hb⟩
  have D2 := Lib.hid (D1.out.trans (hb.mono D1.out.size))
  have K2 := Lib.hid (blk_below K1.out hb)
  have H2 := Lib.hid (H1.out.below hb)
  clear xx y0 y1 y2 y3 y4 y5 y6 y7 y8 fz
  have xx := H2.out.cell 2
  obtain ⟨k', cap', ek, hc', hk0', hk1', y0, y1, y2, y3, y4, y5, y6, y7, y8, fz⟩ := H2.out.row.at hp
  injection ek with ek1 ek2 ek3
  injection ek1 with ek1
  injection ek1 with ek1 _ _
  subst ek1 ek3
  clear hb hc' hk0' hk1' ek2
  have x0 := blk_cell K2.out 0; have f0 := blk_frozen K2.out 0
  have x1 := blk_cell K2.out 1; have f1 := blk_frozen K2.out 1
  have x2 := blk_cell K2.out 2; have f2 := blk_frozen K2.out 2
  have x3 := blk_cell K2.out 3; have f3 := blk_frozen K2.out 3
  have x4 := blk_cell K2.out 4; have f4 := blk_frozen K2.out 4
  have x5 := blk_cell K2.out 5; have f5 := blk_frozen K2.out 5
  have x6 := blk_cell K2.out 6; have f6 := blk_frozen K2.out 6
  have x7 := blk_cell K2.out 7; have f7 := blk_frozen K2.out 7
  have x8 := blk_cell K2.out 8; have f8 := blk_frozen K2.out 8
  have K3 := Lib.hid (blk_far K2.out (p := ⟨k, p * 9 + 4, none⟩) (fun e => hkr e) (.int .i64 2))
  have Z := Lib.hid (lay9_blk K3.out rfl (acked (rd_T45 s.2 p)))
  have Y := Lib.hid (((BStep.of_below HB.out D2.out).trans (H2.out.set1 hp (j := 4) (by decide) (.int .i64 2) (acked_cells _) HS.out)).lay9 (r := w.heap.size) (Nat.le_refl _) (by omega) (by simp [Value.ownBlock]; omega) (acked (rd_T45 s.2 p)))
  simp only [lay9, acked, No.cells] at Z Y
  go_wp2
  exact bodyPost_ret (results_ct (p := 4) (u := 5) rfl _ _ w.heap.size 45 _ (0, 0) _ rfl Z.out Try.underlying45 rfl size45) rfl (HQ.out _ Y.out)

theorem Ack_calls (h : Bx B w g v s) (id : Int) :
    Calls Try.prog 40 #[.pointer (some ⟨g, 0, none⟩), .int .u64 id] w fun e w' => e = .returned (.tuple #[No.val (ackS s id).2.1, .int .i64 (ackS s id).2.2]) ∧ BStep B w w' g v v (ackS s id).1 := by
  have hs := h.snd.ackS id
  by_cases hp : place (isId id) s.2 < s.2.length
  · have e1 : atI s id = ((place (isId id) s.2 : Int), 0) := if_pos hp
    have e2 : ackS s id = if waitsB (rd_T45 s.2 (place (isId id) s.2)) = false ∨ (rd_T45 s.2 (place (isId id) s.2)).f5 = 0 then (s, (z45, 33)) else ((s.1, s.2.set (place (isId id) s.2) (acked (rd_T45 s.2 (place (isId id) s.2)))), (acked (rd_T45 s.2 (place (isId id) s.2)), 0)) := if_pos hp
    rw [e2] at hs ⊢
    by_cases hn : waitsB (rd_T45 s.2 (place (isId id) s.2)) = false ∨ (rd_T45 s.2 (place (isId id) s.2)).f5 = 0
    · rw [if_pos hn] at hs ⊢
      exact Ack_no h id hp e1 hn (fun w' hw => ⟨rfl, hw⟩)
    · rw [if_neg hn] at hs ⊢
      simp only [not_or, Bool.not_eq_false] at hn
      exact Ack_yes h id hp e1 hn.1 hn.2 hs (fun w' hw => ⟨rfl, hw⟩)
  · have e1 : atI s id = (0, 31) := if_neg hp
    have e2 : ackS s id = (s, (z45, 31)) := if_neg hp
    rw [e2]
    exact Ack_none h id e1 (fun w' hw => ⟨rfl, hw⟩)
end
end Go.Proofs.Ytabdjehnglmlpaa
