/- outbox: Put, where the notice goes in. -/
import Derived.Test.YtabdjehnglmlpaaOt
namespace Go.Proofs.Ytabdjehnglmlpaa
open Go.RowKit Go.Proofs.YtabdjehnglmlpaaW.PrintWords
open PO (S45 z45 k45 rd_T45)
attribute [local irreducible] wpStill
set_option linter.unusedVariables false
set_option linter.unusedSimpArgs false

section
variable {ops : Array Oper} {o : Oper} {a : Act} {K : Act → World → Prop} {Q : Exit → Act → World → Prop}
theorem semi_append_drew {W : World} (base : Nat) (hw : Region.wanted o (yielded ops a.tmps) = true) (s x : Operand)
    (ho : o.op = .call { callee := .builtin .append, args := #[s, x], argTypes := #[74, 74] }) {v : Value} {l : List No} (m : No) (hs : a.eval s = v) (hx : a.eval x = .slice (some ⟨W.heap.size, 0, none⟩) 1 1)
    (HO : Semi W base v l) (hbase : base ≤ W.heap.size) (hl : l.length ≤ 1000)
    (h : ∀ v1 w1, Semi w1 base v1 (l ++ [m]) → W.drew.grownBy w1 v.ownBlock → (v1.ownBlock = v.ownBlock ∨ ∃ b, v1.ownBlock = some b ∧ W.drew.heap.size ≤ b) → K (a.put o.dst v1) w1) :
    if Region.wanted o (yielded ops a.tmps) = true then Oper.wp Try.prog o a (W.alloc (.cells (No.cells m) 45)).drew K Q else K (a.put o.dst undef) (W.alloc (.cells (No.cells m) 45)).drew :=
  semi_append_step (W := W.drew) base hw s x ho m hs hx (HO.move (fun _ _ => rfl)) hbase hl h
end
section
variable {B : Nat} {w : World} {g : Nat} {v : Value} {s : Bs} {Q : Ending → World → Prop}
set_option maxRecDepth 100000 in
set_option maxHeartbeats 2000000 in
theorem Put_yes (h : Bx B w g v s) (n : No) (now : Int) (hi : instO now = true) (hf : fitsB n = true) (hl : s.1 < 1152921504606846976) (hr : ¬ (128 ≤ s.2.length ∧ place (fun n => !waitsB n) s.2 = s.2.length)) (hsn : Snd (s.1 + 1, roomed s.2 ++ [asNew n (s.1 + 1) now]))
    (hQ : ∀ v' w', BStep B w w' g v v' (s.1 + 1, roomed s.2 ++ [asNew n (s.1 + 1) now]) → Q (.returned (.tuple #[.int .u64 (s.1 + 1), .int .i64 0])) w') :
    Calls Try.prog 37 #[.pointer (some ⟨g, 0, none⟩), No.val n, .int .i64 now] w Q := by
  have HB := Lib.hid h
  have HQ := Lib.hid hQ
  have hfew := h.snd.few
  have hs0 := h.nn
  have hs1 := h.snd.top
  have D0 := Lib.hid ((Below.refl w.heap.size w).alloc (Nat.le_refl _) (.cells (No.cells n) 45))
  have K0 : Hid ((w.alloc (.cells (No.cells n) 45)).heap[w.heap.size]? = some (.cells (No.cells n) 45)) := heap_alloc_new w _
  have H0 := Lib.hid (h.below D0.out)
  have HI := Lib.hid (fun W => oinst_calls W now)
  have HF := Lib.hid (fun W => fits_calls W n)
  rw [hi] at HI
  rw [hf] at HF
  have hgl := h.lt
  have hl' : decide (1152921504606846976 ≤ s.1) = false := decide_eq_false (by omega)
  have HSN := Lib.hid hsn
  have HRM := Lib.hid h.snd.roomed
  have HR := Lib.hid hr
  have hrl := roomed_len h.snd.few hr
  clear h hQ hi hf hr hsn
  simp only [No.val] at HF
  simp only [No.cells] at D0 K0 H0
  simp only [No.val]
  go_enter Try.func37, Try.ntmps37
  go_wp2_with fail
  with_reducible refine (none_bx H0.out).mono ?_
  rintro e w1 ⟨rfl, rfl⟩
  go_wp2_with fail
  with_reducible refine (HI.out _).mono ?_
  rintro e w1 ⟨rfl, hb⟩
  have D1 := Lib.hid (D0.out.trans (hb.mono D0.out.size))
  have H1 := Lib.hid (H0.out.below hb)
  have K1 := Lib.hid (blk_below K0.out hb)
  clear hb D0 H0 K0
  have x0 := blk_cell K1.out 0
  have x1 := blk_cell K1.out 1
  have x2 := blk_cell K1.out 2
  have x3 := blk_cell K1.out 3
  have x4 := blk_cell K1.out 4
  have x5 := blk_cell K1.out 5
  have x6 := blk_cell K1.out 6
  have x7 := blk_cell K1.out 7
  have x8 := blk_cell K1.out 8
  go_wp2_with fail
  with_reducible refine (HF.out _).mono ?_
  rintro e w2 ⟨rfl, hb⟩
  have D2 := Lib.hid (D1.out.trans (hb.mono D1.out.size))
  have H2 := Lib.hid (H1.out.below hb)
  have K2 := Lib.hid (blk_below K1.out hb)
  clear hb D1 H1 K1 x0 x1 x2 x3 x4 x5 x6 x7 x8
  have y1 := H2.out.cell 1
  have y2 := H2.out.cell 2
  obtain ⟨A, c, ev, hc, hC, -⟩ := H2.out.row.reads
  have HC := Lib.hid hC
  have EV := Lib.hid ev
  rw [ev] at y2
  clear hC ev
  go_upto_if 32 with fail
  go_cut [8] (fun _ wx => ∃ v1, Hid (BStep B w wx g v v1 (s.1, roomed s.2)) ∧ Hid (v1.ownBlock ≠ some w.heap.size) ∧ Hid (wx.heap[w.heap.size]? = some (.cells #[.int .u64 n.f0, .int .u64 n.f1, .int .i64 n.f2, .int .i64 n.f3, .int .i64 n.f4, .int .i64 n.f5, .int .i64 n.f6, .int .i64 n.f7, .int .i64 n.f8] 45)))
  case first =>
    rename_i J' K' hJ' hK'
    by_cases hm : 128 ≤ s.2.length
    · have hm' : decide (128 ≤ (s.2.length : Int)) = true := decide_eq_true (by omega)
      have hpl : place (fun n => !waitsB n) s.2 < s.2.length := by have := place_le (fun n => !waitsB n) s.2; have := HR.out; omega
      have HP : Hid (placeI (fun n => !waitsB n) s.2 = (place (fun n => !waitsB n) s.2 : Int)) := by unfold placeI; rw [if_pos hpl]; exact rfl
      have HER : Hid (roomed s.2 = s.2.eraseIdx (place (fun n => !waitsB n) s.2)) := by unfold roomed; rw [if_neg (by omega)]; exact rfl
      have HX := Lib.hid (IndexFunc_calls HC.out hc (put114_tells w2))
      rw [HP.out] at HX
      rw [HER.out] at HRM
      generalize place (fun n => !waitsB n) s.2 = p at hpl HX HRM HER
      obtain ⟨kk, cap, ek, hcap, hk0, hk1, -, -, -, -, -, -, -, -, -, -⟩ := H2.out.row.at hpl
      obtain ⟨rfl, rfl⟩ : A = some ⟨kk, 0, none⟩ ∧ c = cap := by
        have e := EV.out.symm.trans ek
        injection e with e1 e2 e3
        exact ⟨e1, e3⟩
      subst ek
      clear hm HP EV HC
      rw [hm']
      have hp0 : decide ((p : Int) < 0) = false := decide_eq_false (by omega)
      go_wp2_with fail
      with_reducible refine HX.out.mono ?_
      rintro e w3 ⟨rfl, hb⟩
      have D3 := Lib.hid (D2.out.trans (hb.mono D2.out.size))
      have H3 := Lib.hid (H2.out.below hb)
      have K3 := Lib.hid (blk_below K2.out hb)
      clear hb y1 y2 HX
      have y2 := H3.out.cell 2
      have f2 := H3.out.free 2
      go_upto_region 11 with fail
      have hpc : p ≤ c := by omega
      have hpl1 : p + 1 ≤ s.2.length := hpl
      have hwr : IntKind.i64.wrap ((p : Int) + 1) = (p : Int) + 1 := by rw [IntKind.wrap_i64]; omega
      have h01 : (0 : Int) ≤ (p : Int) + 1 := by omega
      have h02 : (p : Int) + 1 ≤ (s.2.length : Int) := by omega
      have htn : ((p : Int) + 1).toNat = p + 1 := by omega
      have h3 : Hid (∃ ax : Addr, (if c = p + 1 then some (⟨kk, 0, none⟩ : Addr) else some ⟨kk, (p + 1) * 9, none⟩) = some ax ∧ (p + 1 < s.2.length → ax = ⟨kk, (p + 1) * 9, none⟩)) := by
        by_cases hcp : c = p + 1
        · rw [if_pos hcp]; exact ⟨_, rfl, fun h => by omega⟩
        · rw [if_neg hcp]; exact ⟨_, rfl, fun _ => rfl⟩
      refine wp_parts (by kernel_rfl) rfl ?_
      refine wpAny_take (i := 0) (v := ?_) rfl (by kernel_rfl) (by kernel_rfl) (by kernel_rfl) (fun _ _ _ h => h) (Or.inl ⟨by rfl, ?_⟩) ?_
      rotate_left
      · intro w; go_simp; try with_reducible rfl
      rw [upto_set]
      refine wpAny_lay (fun K hK => ?_)
      go_simp
      refine hK _ _ ?_
      clear hK K
      refine wpAny_part (k := 1) (n := 15) (g := 4) rfl (by kernel_rfl) (by kernel_rfl) (by decide) (by kernel_rfl) (by kernel_rfl) ?_ (by rfl)
      simp only [List.drop_succ_cons, List.drop_zero, Nat.reduceSub, List.take_succ_cons, List.take_zero]
      iterate 14 still_step
      refine wpStill_nil ?_
      obtain ⟨ax, hax1, hax2⟩ := h3.out
      have HO := Lib.hid H3.out.drew
      have hbase : B ≤ w3.heap.size := by have := HO.out.ge; have := H3.out.lt; omega
      refine wpAny_gate (k := 15) (f := 3) (by kernel_rfl) rfl (fun K hK => ?_)
      refine semi_cut_step (W := w3.drew) B (by rfl) (.tmp 47) (.tmp 54) rfl (g := kk) (cap := c) (i := p) (ax := ax) HO.out.row hpl (by rfl) (by rw [← hax1]; rfl) hax2 hbase (by omega) ?_
      intro v1 w5 hsemi hb hat
      obtain ⟨A1, c1, rfl, -⟩ := hsemi.slice
      refine hK _ _ ?_
      clear hK K
      have BS := Lib.hid (cut_final (t := s.1) (l := s.2) HB.out D3.out.drew hb hsemi hat HRM.out)
      have BS2 : Hid (BStep B w (w5.setCell ⟨g, 2, none⟩ (.slice A1 (s.2.eraseIdx p).length c1)) g (.slice (some ⟨kk, 0, none⟩) s.2.length c) (.slice A1 (s.2.eraseIdx p).length c1) (s.1, roomed s.2)) := by rw [HER.out]; exact BS.out
      have KN := Lib.hid (blk_far (blk_below (blk_drew K3.out) hb) (p := ⟨g, 2, none⟩) (by show w.heap.size ≠ g; omega) (.slice A1 (s.2.eraseIdx p).length c1))
      have y2 := blk_cell (blk_below HO.out.blk hb) 2
      have f2 := blk_frozen (blk_below HO.out.blk hb) 2
      have hkw : kk < w.heap.size := (HB.out.row.base_lt kk rfl).2
      have HNV : Hid ((Value.slice A1 (s.2.eraseIdx p).length c1).ownBlock ≠ some w.heap.size) := fun e => by
        have h1 := blk_lt K3.out
        rcases hat with h | ⟨b, h, hb2⟩
        · rw [h] at e; injection e with e; omega
        · rw [h] at e; injection e with e; simp at hb2; omega
      clear hsemi hb hat h3 hax1 hax2 HO K3 H3 D3
      refine wpAny_lay (fun K hK => ?_)
      go_simp
      refine hK _ _ ?_
      clear hK K
      refine wpAny_part (k := 16) (n := 18) (g := 1) rfl (by kernel_rfl) (by kernel_rfl) (by decide) (by kernel_rfl) (by kernel_rfl) ?_ (by rfl)
      simp only [List.drop_succ_cons, List.drop_zero, Nat.reduceSub, List.take_succ_cons, List.take_zero]
      iterate 2 still_step
      refine wpStill_nil ?_
      refine wpAny_gate (k := 18) (f := 0) (by kernel_rfl) rfl (fun K hK => ?_)
      go_simp
      refine hK _ _ ?_
      clear hK K
      refine wpAny_last (k := 19) rfl (by kernel_rfl) (by kernel_rfl) ?_ (by rfl)
      simp only [List.drop_succ_cons, List.drop_zero]
      refine wpStill_nil ?_
      refine hK' _ _ (Met.intro (hJ' _ _ ?_))
      (repeat apply Exists.intro)
      refine ⟨⟨_, BS2, HNV, KN⟩, rfl⟩
    · have hm' : decide (128 ≤ (s.2.length : Int)) = false := decide_eq_false (by omega)
      rw [hm']
      have HER : Hid (roomed s.2 = s.2) := if_pos (by omega)
      have BS2 : Hid (BStep B w w2 g v v (s.1, roomed s.2)) := by rw [HER.out]; exact BStep.of_below HB.out D2.out
      have HNV : Hid (v.ownBlock ≠ some w.heap.size) := fun e => by have := (HB.out.row.base_lt _ e).2; omega
      clear y1 y2
      go_wp2_with fail
      go_meet
      exact ⟨_, BS2, HNV, K2⟩
  case rest =>
    clear y1 y2 H2 D2 K2 HC EV
    obtain ⟨v1, BS, HNV, KN⟩ := hcut
    have hgn : g ≠ w.heap.size := by omega
    have hgn1 : ¬ (g = w.heap.size) := hgn
    have hgn2 : ¬ (w.heap.size = g) := by omega
    have z1 := BS.out.bx.cell 1
    have z2 := BS.out.bx.cell 2
    have zf := BS.out.bx.free 1
    have zf2 := BS.out.bx.free 2
    obtain ⟨A1, c1, ev, -⟩ := BS.out.bx.row.slice
    have EV1 := Lib.hid ev
    rw [ev] at z2
    clear ev
    have x0 := blk_cell KN.out 0; have e0 := blk_frozen KN.out 0
    have x1 := blk_cell KN.out 1; have e1 := blk_frozen KN.out 1
    have x2 := blk_cell KN.out 2; have e2 := blk_frozen KN.out 2
    have x3 := blk_cell KN.out 3; have e3 := blk_frozen KN.out 3
    have x4 := blk_cell KN.out 4; have e4 := blk_frozen KN.out 4
    have x5 := blk_cell KN.out 5; have e5 := blk_frozen KN.out 5
    have x6 := blk_cell KN.out 6; have e6 := blk_frozen KN.out 6
    have x7 := blk_cell KN.out 7; have e7 := blk_frozen KN.out 7
    have x8 := blk_cell KN.out 8; have e8 := blk_frozen KN.out 8
    go_upto_region 14 with fail
    clear x0 e0 x1 e1 x2 e2 x3 e3 x4 e4 x5 e5 x6 e6 x7 e7 x8 e8 z1 zf zf2
    have U1 := Lib.hid (blk_drew (put2_blk (now := now) BS.out.bx.blk hgn))
    have U2 := Lib.hid (blk_drew (put2_box (now := now) (n := n) (t := s.1) KN.out hgn))
    have SN : Hid ((fun w' : World => (∃ u, w'.heap[g]? = some (.cells #[.bool true, .int .u64 (s.1 + 1), u] 133 (0, 0))) ∧ w'.heap[w.heap.size]? = some (.cells #[.int .u64 (s.1 + 1), .int .u64 n.f1, .int .i64 n.f2, .int .i64 n.f3, .int .i64 1, .int .i64 0, .int .i64 n.f6, .int .i64 n.f7, .int .i64 now] 45 (0, 0))) (((((wc.setCell ⟨g, 1, none⟩ (.int .u64 (s.1 + 1))).setCell ⟨w.heap.size, 0, none⟩ (.int .u64 (s.1 + 1))).setCell ⟨w.heap.size, 4, none⟩ (.int .i64 1)).setCell ⟨w.heap.size, 5, none⟩ (.int .i64 0)).setCell ⟨w.heap.size, 8, none⟩ (.int .i64 now)).drew) := ⟨⟨_, U1.out⟩, U2.out⟩
    refine wp_elder (fun w' : World => (∃ u, w'.heap[g]? = some (.cells #[.bool true, .int .u64 (s.1 + 1), u] 133 (0, 0))) ∧ w'.heap[w.heap.size]? = some (.cells #[.int .u64 (s.1 + 1), .int .u64 n.f1, .int .i64 n.f2, .int .i64 n.f3, .int .i64 1, .int .i64 0, .int .i64 n.f6, .int .i64 n.f7, .int .i64 now] 45 (0, 0))) (by kernel_rfl) ?_
    refine wpAnyH_take (i := 0) (v := ?_) rfl (by kernel_rfl) (by kernel_rfl) (by kernel_rfl) (fun _ _ _ h => h) (Or.inl ⟨by rfl, ?_⟩) SN.out ?_
    rotate_left
    · intro w' hw'
      clear hw'
      go_simp; try with_reducible rfl
    refine wpAnyH_take (i := 1) (v := ?_) rfl (by kernel_rfl) (by kernel_rfl) (by kernel_rfl) (fun _ _ _ h => h) (Or.inl ⟨by rfl, ?_⟩) SN.out ?_
    rotate_left
    · intro w' hw'
      clear hw'
      go_simp; try with_reducible rfl
    refine wpAnyH_lay (fun K hK => ?_)
    go_simp
    refine hK _ _ ?_
    clear hK K
    refine wpAnyH_take (i := 2) (v := ?_) rfl (by kernel_rfl) (by kernel_rfl) (by kernel_rfl) (fun _ _ _ h => h) (Or.inl ⟨by rfl, ?_⟩) SN.out ?_
    rotate_left
    · intro w' hw'
      clear hw'
      go_simp; try with_reducible rfl
    refine wpAnyH_lay (fun K hK => ?_)
    go_simp
    refine hK _ _ ?_
    clear hK K
    refine wpAnyH_take (i := 3) (v := ?_) rfl (by kernel_rfl) (by kernel_rfl) (by kernel_rfl) (fun _ _ _ h => h) (Or.inl ⟨by rfl, ?_⟩) SN.out ?_
    rotate_left
    · intro w' hw'
      clear hw'
      go_simp; try with_reducible rfl
    refine wpAnyH_take (i := 5) (v := ?_) rfl (by kernel_rfl) (by kernel_rfl) (by kernel_rfl) (fun _ _ _ h => h) (Or.inl ⟨by rfl, ?_⟩) SN.out ?_
    rotate_left
    · intro w' hw'
      have hn := hw'.2
      have x0 := blk_cell hn 0
      have x1 := blk_cell hn 1
      have x2 := blk_cell hn 2
      have x3 := blk_cell hn 3
      have x4 := blk_cell hn 4
      have x5 := blk_cell hn 5
      have x6 := blk_cell hn 6
      have x7 := blk_cell hn 7
      have x8 := blk_cell hn 8
      clear hw'
      go_simp; try with_reducible rfl
    refine wpAnyH_lay (fun K hK => ?_)
    go_simp
    refine hK _ _ ?_
    clear hK K
    have hsz : (((((wc.setCell ⟨g, 1, none⟩ (.int .u64 (s.1 + 1))).setCell ⟨w.heap.size, 0, none⟩ (.int .u64 (s.1 + 1))).setCell ⟨w.heap.size, 4, none⟩ (.int .i64 1)).setCell ⟨w.heap.size, 5, none⟩ (.int .i64 0)).setCell ⟨w.heap.size, 8, none⟩ (.int .i64 now)).heap.size = wc.heap.size := by simp [World.setCell]
    have HSZ := Lib.hid hsz
    have U1A := Lib.hid (blk_drew (blk_alloc (put2_blk (now := now) BS.out.bx.blk hgn) (.cells #[.int .u64 (s.1 + 1), .int .u64 n.f1, .int .i64 n.f2, .int .i64 n.f3, .int .i64 1, .int .i64 0, .int .i64 n.f6, .int .i64 n.f7, .int .i64 now] 45)))
    have U2A := Lib.hid (blk_drew (blk_alloc (put2_box (now := now) (n := n) (t := s.1) KN.out hgn) (.cells #[.int .u64 (s.1 + 1), .int .u64 n.f1, .int .i64 n.f2, .int .i64 n.f3, .int .i64 1, .int .i64 0, .int .i64 n.f6, .int .i64 n.f7, .int .i64 now] 45)))
    have SNA : Hid ((fun w' : World => (∃ u, w'.heap[g]? = some (.cells #[.bool true, .int .u64 (s.1 + 1), u] 133 (0, 0))) ∧ w'.heap[w.heap.size]? = some (.cells #[.int .u64 (s.1 + 1), .int .u64 n.f1, .int .i64 n.f2, .int .i64 n.f3, .int .i64 1, .int .i64 0, .int .i64 n.f6, .int .i64 n.f7, .int .i64 now] 45 (0, 0))) ((((((wc.setCell ⟨g, 1, none⟩ (.int .u64 (s.1 + 1))).setCell ⟨w.heap.size, 0, none⟩ (.int .u64 (s.1 + 1))).setCell ⟨w.heap.size, 4, none⟩ (.int .i64 1)).setCell ⟨w.heap.size, 5, none⟩ (.int .i64 0)).setCell ⟨w.heap.size, 8, none⟩ (.int .i64 now)).alloc (.cells #[.int .u64 (s.1 + 1), .int .u64 n.f1, .int .i64 n.f2, .int .i64 n.f3, .int .i64 1, .int .i64 0, .int .i64 n.f6, .int .i64 n.f7, .int .i64 now] 45)).drew) := ⟨⟨_, U1A.out⟩, U2A.out⟩
    have zA : ((((((wc.setCell ⟨g, 1, none⟩ (.int .u64 (s.1 + 1))).setCell ⟨w.heap.size, 0, none⟩ (.int .u64 (s.1 + 1))).setCell ⟨w.heap.size, 4, none⟩ (.int .i64 1)).setCell ⟨w.heap.size, 5, none⟩ (.int .i64 0)).setCell ⟨w.heap.size, 8, none⟩ (.int .i64 now)).alloc (.cells #[.int .u64 (s.1 + 1), .int .u64 n.f1, .int .i64 n.f2, .int .i64 n.f3, .int .i64 1, .int .i64 0, .int .i64 n.f6, .int .i64 n.f7, .int .i64 now] 45)).cell? ⟨g, 2, none⟩ = some (.slice A1 (roomed s.2).length c1) := by
      have h := blk_cell U1A.out 2
      rw [EV1.out] at h
      exact h
    have HRW := Lib.hid (put2_row (t := s.1) (now := now) BS.out.bx.row (fun e => BS.out.bx.ne e.symm) HNV.out)
    rw [EV1.out] at HRW
    have hbase : B ≤ w.heap.size := by have := HB.out.ge; omega
    have hwc : w.heap.size < wc.heap.size := blk_lt KN.out
    clear hsz U1 U2 U1A U2A
    refine wpAnyH_two (k := 4) (j := 6) (by kernel_rfl) rfl rfl (fun K hK => ?_) (fun K hK => ?_)
    · go_simp
      refine hK _ _ ⟨SN.out, ?_⟩
      clear hK K
      refine wpAnyH_alone (k := 6) (by kernel_rfl) rfl (fun K hK => ?_)
      go_simp
      refine hK _ _ ⟨SNA.out, ?_⟩
      clear hK K
      refine wpAnyH_alone (k := 7) (by kernel_rfl) rfl (fun K hK => ?_)
      refine semi_append_drew (W := (((((wc.setCell ⟨g, 1, none⟩ (.int .u64 (s.1 + 1))).setCell ⟨w.heap.size, 0, none⟩ (.int .u64 (s.1 + 1))).setCell ⟨w.heap.size, 4, none⟩ (.int .i64 1)).setCell ⟨w.heap.size, 5, none⟩ (.int .i64 0)).setCell ⟨w.heap.size, 8, none⟩ (.int .i64 now))) B (by rfl) (.tmp 78) (.tmp 80) rfl (asNew n (s.1 + 1) now) (by rfl) (by rw [HSZ.out]; rfl) HRW.out (by rw [HSZ.out]; omega) (by show (roomed s.2).length ≤ 1000; omega) ?_
      intro v2 w5 hsemi hgrow hat
      obtain ⟨A2, c2, e2, -⟩ := hsemi.slice
      rw [List.length_append, List.length_singleton] at e2
      subst e2
      rw [← EV1.out] at hgrow hat
      have BF := Lib.hid (put_final BS.out hgl (Nat.le_refl _) hgrow hsemi hat HSN.out)
      have hblk := blk_grown (blk_drew (put2_blk (now := now) BS.out.bx.blk hgn)) hgrow BS.out.bx.ne
      have hbox : w5.heap[w.heap.size]? = some (.cells #[.int .u64 (s.1 + 1), .int .u64 n.f1, .int .i64 n.f2, .int .i64 n.f3, .int .i64 1, .int .i64 0, .int .i64 n.f6, .int .i64 n.f7, .int .i64 now] 45 (0, 0)) := blk_grown (blk_drew (put2_box (now := now) (n := n) (t := s.1) KN.out hgn)) hgrow (fun e => HNV.out e.symm)
      have SN5 : Hid ((fun w' : World => (∃ u, w'.heap[g]? = some (.cells #[.bool true, .int .u64 (s.1 + 1), u] 133 (0, 0))) ∧ w'.heap[w.heap.size]? = some (.cells #[.int .u64 (s.1 + 1), .int .u64 n.f1, .int .i64 n.f2, .int .i64 n.f3, .int .i64 1, .int .i64 0, .int .i64 n.f6, .int .i64 n.f7, .int .i64 now] 45 (0, 0))) w5) := ⟨⟨_, hblk⟩, hbox⟩
      have SN6 : Hid ((fun w' : World => (∃ u, w'.heap[g]? = some (.cells #[.bool true, .int .u64 (s.1 + 1), u] 133 (0, 0))) ∧ w'.heap[w.heap.size]? = some (.cells #[.int .u64 (s.1 + 1), .int .u64 n.f1, .int .i64 n.f2, .int .i64 n.f3, .int .i64 1, .int .i64 0, .int .i64 n.f6, .int .i64 n.f7, .int .i64 now] 45 (0, 0))) (w5.setCell ⟨g, 2, none⟩ (.slice A2 ((roomed s.2).length + 1) c2))) := ⟨⟨_, by simpa using blk_set hblk 2 (.slice A2 ((roomed s.2).length + 1) c2)⟩, blk_far hbox (p := ⟨g, 2, none⟩) hgn2 _⟩
      have q2 := blk_cell hblk 2
      have qf2 := blk_frozen hblk 2
      have q1 := blk_cell hblk 1
      refine hK _ _ ⟨SN5.out, ?_⟩
      clear hK K hsemi hgrow hat hblk hbox zA
      refine wpAnyH_lay (fun K hK => ?_)
      go_simp
      refine hK _ _ ?_
      clear hK K
      refine wpAnyH_take (i := 8) (v := ?_) rfl (by kernel_rfl) (by kernel_rfl) (by kernel_rfl) (fun _ _ _ h => h) (Or.inl ⟨by rfl, ?_⟩) SN5.out ?_
      rotate_left
      · intro w' hw'
        clear hw'
        go_simp; try with_reducible rfl
      refine wpAnyH_lay (fun K hK => ?_)
      go_simp
      refine hK _ _ ?_
      clear hK K
      refine wpAnyH_take (i := 9) (v := ?_) rfl (by kernel_rfl) (by kernel_rfl) (by kernel_rfl) (fun _ _ _ h => h) (Or.inl ⟨by rfl, ?_⟩) SN5.out ?_
      rotate_left
      · intro w' hw'
        clear hw'
        go_simp; try with_reducible rfl
      refine wpAnyH_lay (fun K hK => ?_)
      go_simp
      refine hK _ _ ?_
      clear hK K
      refine wpAnyH_alone (k := 10) (by kernel_rfl) rfl (fun K hK => ?_)
      go_simp
      refine hK _ _ ⟨SN6.out, ?_⟩
      clear hK K
      refine wpAnyH_done (by kernel_rfl) ?_ _
      go_wp2
      exact HQ.out _ _ BF.out
    · go_simp
      refine hK _ _ ⟨SNA.out, ?_⟩
      clear hK K
      refine wpAnyH_alone (k := 4) (by kernel_rfl) rfl (fun K hK => ?_)
      go_simp
      refine hK _ _ ⟨SNA.out, ?_⟩
      clear hK K
      refine wpAnyH_alone (k := 7) (by kernel_rfl) rfl (fun K hK => ?_)
      refine semi_append_drew (W := (((((wc.setCell ⟨g, 1, none⟩ (.int .u64 (s.1 + 1))).setCell ⟨w.heap.size, 0, none⟩ (.int .u64 (s.1 + 1))).setCell ⟨w.heap.size, 4, none⟩ (.int .i64 1)).setCell ⟨w.heap.size, 5, none⟩ (.int .i64 0)).setCell ⟨w.heap.size, 8, none⟩ (.int .i64 now))) B (by rfl) (.tmp 78) (.tmp 80) rfl (asNew n (s.1 + 1) now) (by rfl) (by rw [HSZ.out]; rfl) HRW.out (by rw [HSZ.out]; omega) (by show (roomed s.2).length ≤ 1000; omega) ?_
      intro v2 w5 hsemi hgrow hat
      obtain ⟨A2, c2, e2, -⟩ := hsemi.slice
      rw [List.length_append, List.length_singleton] at e2
      subst e2
      rw [← EV1.out] at hgrow hat
      have BF := Lib.hid (put_final BS.out hgl (Nat.le_refl _) hgrow hsemi hat HSN.out)
      have hblk := blk_grown (blk_drew (put2_blk (now := now) BS.out.bx.blk hgn)) hgrow BS.out.bx.ne
      have hbox : w5.heap[w.heap.size]? = some (.cells #[.int .u64 (s.1 + 1), .int .u64 n.f1, .int .i64 n.f2, .int .i64 n.f3, .int .i64 1, .int .i64 0, .int .i64 n.f6, .int .i64 n.f7, .int .i64 now] 45 (0, 0)) := blk_grown (blk_drew (put2_box (now := now) (n := n) (t := s.1) KN.out hgn)) hgrow (fun e => HNV.out e.symm)
      have SN5 : Hid ((fun w' : World => (∃ u, w'.heap[g]? = some (.cells #[.bool true, .int .u64 (s.1 + 1), u] 133 (0, 0))) ∧ w'.heap[w.heap.size]? = some (.cells #[.int .u64 (s.1 + 1), .int .u64 n.f1, .int .i64 n.f2, .int .i64 n.f3, .int .i64 1, .int .i64 0, .int .i64 n.f6, .int .i64 n.f7, .int .i64 now] 45 (0, 0))) w5) := ⟨⟨_, hblk⟩, hbox⟩
      have SN6 : Hid ((fun w' : World => (∃ u, w'.heap[g]? = some (.cells #[.bool true, .int .u64 (s.1 + 1), u] 133 (0, 0))) ∧ w'.heap[w.heap.size]? = some (.cells #[.int .u64 (s.1 + 1), .int .u64 n.f1, .int .i64 n.f2, .int .i64 n.f3, .int .i64 1, .int .i64 0, .int .i64 n.f6, .int .i64 n.f7, .int .i64 now] 45 (0, 0))) (w5.setCell ⟨g, 2, none⟩ (.slice A2 ((roomed s.2).length + 1) c2))) := ⟨⟨_, by simpa using blk_set hblk 2 (.slice A2 ((roomed s.2).length + 1) c2)⟩, blk_far hbox (p := ⟨g, 2, none⟩) hgn2 _⟩
      have q2 := blk_cell hblk 2
      have qf2 := blk_frozen hblk 2
      have q1 := blk_cell hblk 1
      refine hK _ _ ⟨SN5.out, ?_⟩
      clear hK K hsemi hgrow hat hblk hbox zA
      refine wpAnyH_lay (fun K hK => ?_)
      go_simp
      refine hK _ _ ?_
      clear hK K
      refine wpAnyH_take (i := 8) (v := ?_) rfl (by kernel_rfl) (by kernel_rfl) (by kernel_rfl) (fun _ _ _ h => h) (Or.inl ⟨by rfl, ?_⟩) SN5.out ?_
      rotate_left
      · intro w' hw'
        clear hw'
        go_simp; try with_reducible rfl
      refine wpAnyH_lay (fun K hK => ?_)
      go_simp
      refine hK _ _ ?_
      clear hK K
      refine wpAnyH_take (i := 9) (v := ?_) rfl (by kernel_rfl) (by kernel_rfl) (by kernel_rfl) (fun _ _ _ h => h) (Or.inl ⟨by rfl, ?_⟩) SN5.out ?_
      rotate_left
      · intro w' hw'
        clear hw'
        go_simp; try with_reducible rfl
      refine wpAnyH_lay (fun K hK => ?_)
      go_simp
      refine hK _ _ ?_
      clear hK K
      refine wpAnyH_alone (k := 10) (by kernel_rfl) rfl (fun K hK => ?_)
      go_simp
      refine hK _ _ ⟨SN6.out, ?_⟩
      clear hK K
      refine wpAnyH_done (by kernel_rfl) ?_ _
      go_wp2
      exact HQ.out _ _ BF.out
end
end Go.Proofs.Ytabdjehnglmlpaa
