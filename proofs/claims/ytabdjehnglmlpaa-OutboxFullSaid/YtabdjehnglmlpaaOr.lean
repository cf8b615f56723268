/- outbox: Tick. -/
import Derived.Test.YtabdjehnglmlpaaOq
import Derived.Test.YtabdjehnglmlpaaOm
namespace Go.Proofs.Ytabdjehnglmlpaa
open Go.RowKit Go.Proofs.YtabdjehnglmlpaaW.PrintWords
open PO (S45 z45 k45 rd_T45)
set_option linter.unusedVariables false
set_option linter.unusedSimpArgs false

/-- The first k notices have been looked at. -/
def ticked (now : Int) (k : Nat) (l : List No) : List No := (l.take k).map (tickN now) ++ l.drop k
theorem ticked_zero (now : Int) (l : List No) : ticked now 0 l = l := by simp [ticked]
theorem ticked_all (now : Int) (l : List No) : ticked now l.length l = l.map (tickN now) := by simp [ticked]
theorem ticked_len (now : Int) (k : Nat) (l : List No) : (ticked now k l).length = l.length := by simp [ticked]; omega
theorem ticked_rd {now : Int} {k : Nat} {l : List No} (h : k < l.length) : rd_T45 (ticked now k l) k = rd_T45 l k := by
  rw [rd_get (by rw [ticked_len]; exact h), rd_get h]
  unfold ticked
  rw [List.getElem_append_right (by simp; omega)]
  simp [List.length_take, Nat.min_eq_left (Nat.le_of_lt h)]
theorem ticked_succ {now : Int} {k : Nat} {l : List No} (h : k < l.length) : ticked now (k + 1) l = (ticked now k l).set k (tickN now (rd_T45 l k)) := by
  have h1 : l.drop k = rd_T45 l k :: l.drop (k + 1) := by rw [rd_get h]; exact (List.drop_eq_getElem_cons h)
  have h2 : l.take (k + 1) = l.take k ++ [rd_T45 l k] := by rw [rd_get h, List.take_add_one, List.getElem?_eq_getElem h]; rfl
  have h3 : ((l.take k).map (tickN now)).length = k := by simp; omega
  unfold ticked
  rw [h2, h1, List.map_append, List.append_assoc, List.set_append_right _ _ (by omega), h3, Nat.sub_self]
  rfl
theorem dead_cells (n : No) : (No.cells (deadN n)).toList = (No.cells n).toList.set 4 (.int .i64 3) := rfl
theorem dead_snd {s : Bs} (h : Snd s) {i : Nat} (hi : i < s.2.length) {now : Int} (hs : spentB now (rd_T45 s.2 i) = true) : Snd (s.1, s.2.set i (deadN (rd_T45 s.2 i))) := by
  have ha := h.at hi
  simp only [spentB, Bool.and_eq_true, decide_eq_true_eq] at hs
  have hd := of_decide_eq_true ha.2.2.2
  exact h.set hi rfl ha.2.2.1 (decide_eq_true ⟨hd.1, hd.2.1, hd.2.2.1, hd.2.2.2.1, .inr (.inr ⟨rfl, by have := hd.2.1; have := hs.2.1; show (rd_T45 s.2 i).f5 = (rd_T45 s.2 i).f6; omega⟩)⟩)
theorem set_self {l : List No} {k : Nat} (h : k < l.length) : l.set k (rd_T45 l k) = l := by rw [rd_get h, List.set_getElem_self]
section
variable {B : Nat} {w : World} {g : Nat} {v : Value} {s : Bs} {Q : Ending → World → Prop}
set_option maxRecDepth 100000 in
set_option maxHeartbeats 2000000 in
theorem Tick_walk (h : Bx B w g v s) (now : Int) (hQ : ∀ v1 w', w'.ownsRow w.heap.size 26 1 v1 (tickS s now).2.length (nums .u64 (tickS s now).2) → BStep B w w' g v v (tickS s now).1 → Q (.returned v1) w') :
    Calls Try.prog 84 #[.pointer (some ⟨g, 0, none⟩), .int .i64 now] w Q := by
  have HB := Lib.hid h
  have HQ := Lib.hid hQ
  obtain ⟨A, c, ev, hc, hC, -⟩ := h.row.reads
  have hfew := h.snd.few
  have hgl := h.lt
  have hvl : Hid (∀ k, v.ownBlock = some k → k < w.heap.size) := fun k hk => (h.row.base_lt k hk).2
  have D0 := Lib.hid ((Below.refl w.heap.size w).alloc (Nat.le_refl _) (.cells #[.int .i64 now] 2))
  have K0 : Hid ((w.alloc (.cells #[.int .i64 now] 2)).heap[w.heap.size]? = some (.cells #[.int .i64 now] 2)) := heap_alloc_new w _
  have H0 := Lib.hid (h.below D0.out)
  have HI := Lib.hid (pick117_calls (Kd.C_below hC D0.out) hc (by omega) (spent_tells ((blk_cell K0.out 0).trans rfl)) (id_maps _))
  have x2 := H0.out.cell 2
  have HS := Lib.hid (show (w.alloc (.cells #[.int .i64 now] 2)).heap.size = w.heap.size + 1 by simp)
  have HE : Hid ((s.2.filter (spentB now)).map (fun x => x.f0) = (tickS s now).2) := rfl
  rw [HS.out, HE.out] at HI
  rw [ev] at x2
  have HV := Lib.hid ev
  clear h hC ev hQ
  go_enter Try.func84, Try.ntmps84
  go_wp2_with fail
  with_reducible refine (none_bx H0.out).mono ?_
  rintro e w1 ⟨rfl, rfl⟩
  go_wp2_with fail
  with_reducible refine HI.out.mono ?_
  rintro e w2 ⟨v1, rfl, hown, hb⟩
  obtain ⟨A1, m1, c1, rfl⟩ := own_form hown
  have hsz2 := hb.size
  have O1 := Lib.hid hown
  have O2 := Lib.hid (own_weaken hown (Nat.le_succ _))
  have D2 := Lib.hid (D0.out.trans (hb.mono (Nat.le_succ _)))
  have H2 := Lib.hid (HB.out.below D2.out)
  have K2 := Lib.hid ((hb.block w.heap.size (by omega)).trans K0.out)
  have hb2 : w.heap.size < w2.heap.size := blk_lt K2.out
  clear hb hown x2 HI D0 H0 K0
  have x2 := H2.out.cell 2
  rw [HV.out] at x2
  go_wp2_with fail
  go_loopw [7, 22] (fun _ i wr => ∃ k : Nat, k ≤ s.2.length ∧ i = .int .i64 k ∧ Hid (BStep B w2 wr g v v (s.1, ticked now k s.2))) (fun _ i _ => s.2.length - (intOf i).toNat)
  case atStart => exact ⟨0, Nat.zero_le _, rfl, by rw [ticked_zero]; exact BStep.refl H2.out⟩
  case round =>
    clear x2
    obtain ⟨k, hk, rfl, HS⟩ := hrel
    by_cases hlt : k < s.2.length
    · have hlt2 : k < (ticked now k s.2).length := by rw [ticked_len]; exact hlt
      have HX := Lib.hid HS.out.bx
      obtain ⟨kk, cap, ek, hc', hk0, hk1, y0, y1, y2, y3, y4, y5, y6, y7, y8, fz⟩ := HX.out.row.at hlt2
      rw [ticked_len] at ek
      obtain ⟨rfl, rfl⟩ : A = some ⟨kk, 0, none⟩ ∧ c = cap := by
        have e := HV.out.symm.trans ek
        injection e with e1 e2 e3
        exact ⟨e1, e3⟩
      have hkw : kk < w.heap.size := hvl.out kk (by rw [ek]; rfl)
      have hne : g ≠ kk := fun e => HX.out.ne (by rw [ek, e]; rfl)
      have KN := Lib.hid (HS.out.mod.blk K2.out (by rintro (e | e); · omega
                                                    · rw [ek] at e; injection e with e; have e2 : kk = w.heap.size := e; omega))
      have HC := Lib.hid (spent_calls (rd_T45 s.2 k) ((blk_cell KN.out 0).trans rfl))
      rw [ticked_rd hlt] at y0 y1 y2 y3 y4 y5 y6 y7 y8
      have xx := HX.out.cell 2
      rw [HV.out] at xx
      obtain ⟨b, hb⟩ : ∃ b, spentB now (rd_T45 s.2 k) = b := ⟨_, rfl⟩
      have HB2 := Lib.hid hb
      rw [hb] at HC
      simp only [No.val] at HC
      clear hb hc' hk0 hk1 ek
      go_wp2_with fail
      with_reducible refine HC.out.mono ?_
      rintro e w3 ⟨rfl, hb⟩
      have HS3 := Lib.hid (HS.out.below hb)
      clear y0 y1 y2 y3 y4 y5 y6 y7 y8 fz xx HX HC hb
      revert HB2
      cases b
      · intro HB2
        have HT : Hid (ticked now (k + 1) s.2 = ticked now k s.2) := by
          rw [ticked_succ hlt]
          unfold tickN
          rw [if_neg (by rw [HB2.out]; decide), ← ticked_rd (now := now) hlt]
          exact set_self hlt2
        go_wp2
        go_roundw
        case rel => exact ⟨k + 1, by omega, by go_num, by rw [HT.out]; exact HS3.out⟩
        case measure => simp [intOf]; omega
      · intro HB2
        have HT : Hid (ticked now (k + 1) s.2 = (ticked now k s.2).set k (deadN (rd_T45 s.2 k))) := by
          rw [ticked_succ hlt]
          unfold tickN
          rw [if_pos HB2.out]
          exact rfl
        have HX3 := Lib.hid HS3.out.bx
        have hvv := HV.out
        have hsd : Snd (s.1, (ticked now k s.2).set k (deadN (rd_T45 s.2 k))) := by
          have h1 := dead_snd HX3.out.snd hlt2 (now := now) (by show spentB now (rd_T45 (ticked now k s.2) k) = true; rw [ticked_rd hlt]; exact HB2.out)
          simp only [ticked_rd hlt] at h1
          exact h1
        have HX4 : Hid (Bx B w3 g (.slice (some ⟨kk, 0, none⟩) (ticked now k s.2).length c) (s.1, ticked now k s.2)) := by rw [ticked_len, ← HV.out]; exact HX3.out
        have HS4 := Bx.set1 (s := (s.1, ticked now k s.2)) (i := k) HX4.out hlt2 (j := 4) (by decide) (.int .i64 3) (m := deadN (rd_T45 s.2 k)) (by show _ = (No.cells (rd_T45 (ticked now k s.2) k)).toList.set 4 _; rw [ticked_rd hlt]; exact dead_cells _) hsd
        rw [ticked_len, ← hvv] at HS4
        have HS5 := Lib.hid (HS3.out.trans HS4)
        obtain ⟨kk2, cap2, ek2, -, -, -, -, -, -, -, y4, -, -, -, -, fz⟩ := HX4.out.row.at hlt2
        injection ek2 with e1 e2 e3
        injection e1 with e1
        injection e1 with e1 _ _
        subst e1
        have f4 := fz (k * 9 + 4)
        have xx := HX3.out.cell 2
        rw [HV.out] at xx
        clear fz HS4 HX4 HX3 hvv hsd e2 e3 HS3
        go_wp2
        go_roundw
        case rel => exact ⟨k + 1, by omega, by go_num, by rw [HT.out]; exact HS5.out⟩
        case measure => simp [intOf]; omega
    · obtain rfl : k = s.2.length := by omega
      have HS6 := HS.out
      rw [ticked_all] at HS6
      have HF := Lib.hid ((BStep.of_below HB.out D2.out).trans HS6)
      have OF := Lib.hid (own_move O2.out (fun j hj => HS6.mod.block j (own_lt O2.out j hj) (by
        have hj1 := own_base O1.out j hj
        rintro (e | e)
        · omega
        · have := hvl.out j e; omega)))
      clear HS6 HS
      go_wp2
      exact HQ.out _ _ OF.out HF.out
theorem Tick_calls (h : Bx B w g v s) (now : Int) :
    Calls Try.prog 84 #[.pointer (some ⟨g, 0, none⟩), .int .i64 now] w fun e w' => ∃ v1, e = .returned v1 ∧ w'.ownsRow w.heap.size 26 1 v1 (tickS s now).2.length (nums .u64 (tickS s now).2) ∧ BStep B w w' g v v (tickS s now).1 :=
  Tick_walk h now (fun v1 w' h1 h2 => ⟨v1, rfl, h1, h2⟩)
end
end Go.Proofs.Ytabdjehnglmlpaa
