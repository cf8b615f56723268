/- One text out of Pw, Px, Py. -/
import Derived.Test.YtabdjehnglmlpaaXd
import Derived.Test.YtabdjehnglmlpaaXg
import Derived.Laws.CopyOwn
import Derived.OwnWalk
section
/- reply.Copy. -/
namespace Go.Proofs.Ytabdjehnglmlpaa
open Go.RowKit Go.Proofs.YtabdjehnglmlpaaW.PrintWords
set_option linter.unusedVariables false
set_option linter.unusedSimpArgs false

theorem own_full {w : World} {base g n : Nat} {e : TypeId} {xs : List Value} (h : w.ownsRow base e 1 (.slice (some ⟨g, 0, none⟩) n n) n xs) : w.heap[g]? = some (.cells xs.toArray e (0, 0)) := by
  rcases h.2 with ⟨h, -⟩ | ⟨g', cap, cur, h, hb, hh, hn, hm, hs, ht⟩
  · cases h
  · injection h with h1 h2 h3
    injection h1 with h1
    injection h1 with h1 _ _
    subst h1 h3
    rw [hh, ← ht, List.take_of_length_le (by simp; omega)]
theorem C_keep {k : IntKind} {w w' : World} {A : Option Addr} {n : Nat} {xs : List Int} {S : Nat → Prop} (h : (Kd.int k).C w A n xs) (hm : Mod S w w') (hA : 0 < n → ∀ ad, A = some ad → ¬ S ad.block) : (Kd.int k).C w' A n xs := by
  rcases Nat.eq_zero_or_pos n with rfl | hn
  · obtain rfl : xs = [] := List.eq_nil_of_length_eq_zero h.1
    exact ⟨rfl, by decide, fun h => absurd h (by decide)⟩
  · exact C_mod h hm (hA hn)
def bx (r : Rp) (A : Option Addr) (n c : Nat) : Obj := .cells #[.int .i64 r.code, .int .i64 r.time, .int .u64 r.tk.id, .int .i64 r.tk.contract, .int .i64 r.tk.state, .int .i64 r.tk.level, .int .u64 r.tk.gen, .int .i64 r.tk.frm, .int .i64 r.tk.left, .int .i64 r.tk.due, .int .i64 r.tk.told, .slice A n c, .int .u64 r.notice, .int .i64 r.dead] 66
section
variable {H : Type} {enc : TypeId × Value → H} {w : World} {base : Nat} {held : Bool}
set_option maxRecDepth 100000 in
/-- A reply by value, opened into one. -/
theorem rp_open1 {r : Reach} {b0 : Nat} {v : Value} {d : DataW H} {p : List MemPlace} (hv : Value.okWide Try.prog w r b0 66 v) (h : DataW.Trod enc Try.prog w base (fun _ => true) held 66 v d p) :
    ∃ x : Rp × Option Addr × Nat × Nat, v = x.1.val x.2.1 x.2.2.1 x.2.2.2 ∧ (x.1.ok ∧ x.2.2.1 ≤ x.2.2.2 ∧ Kd.C (Kd.int .u64) w x.2.1 x.2.2.1 x.1.fired) := by
  obtain ⟨r, A, n, c, e, h1, h2, h3⟩ := rp_open hv h
  exact ⟨(r, A, n, c), e, h1, h2, h3⟩
end
theorem nums_one (k : IntKind) (xs : List Int) : ∀ u ∈ nums k xs, u.oneCell' = true := ints_oneCell k xs
/-- A whole row is read. -/
theorem row_C {w : World} {g n : Nat} {xs : List Int} (hn : xs.length = n) (hm : n ≤ 9223372036854775807) (h : w.heap[g]? = some (.cells (nums .u64 xs).toArray 26 (0, 0))) : Kd.C (Kd.int .u64) w (some ⟨g, 0, none⟩) n xs :=
  own64_C (base := 0) (c := n) (m := xs.length) ⟨by rw [nums_length]; simp, .inr ⟨g, n, (nums .u64 xs).toArray, by rw [hn], Nat.zero_le _, h, by omega, by simp only [maxLen]; omega, by simp [nums_length, hn], by rw [hn]; simp [List.take_of_length_le, nums_length, hn]⟩⟩
theorem splice_full {α : Type} {a b : List α} (h : a.length = b.length) : splice a 0 b = b := by
  unfold splice
  rw [List.take_zero, List.nil_append, Nat.zero_add, List.drop_of_length_le (by omega), List.append_nil]

theorem src_cells {k : IntKind} {w : World} {A : Option Addr} {n : Nat} {xs : List Int} (h : Kd.C (Kd.int k) w A n xs) (h0 : 0 < n) : ∃ ad, A = some ad ∧ ∀ j v, (nums k xs)[j]? = some v → w.cell? (ad.add j) = some v := by
  obtain ⟨ad, e, -⟩ := Kd.at_int h 0 (by omega) (by omega)
  refine ⟨ad, e, fun j v hj => ?_⟩
  have hl : xs.length = n := h.1
  have hlt : j < n := by
    have := (List.getElem?_eq_some_iff.1 hj).1
    rw [nums_length] at this
    omega
  obtain ⟨ad', e', hx⟩ := Kd.at_int h j (by omega) (by omega)
  rw [e] at e'
  injection e' with e'
  subst e'
  rw [Int.toNat_natCast] at hx
  rw [hx, ← hj]
  unfold nums rd
  simp only [List.getElem?_map, List.getElem?_eq_getElem (show j < xs.length by omega), Option.map_some, Int.toNat_natCast]
  rw [List.getD_eq_getElem?_getD, List.getElem?_eq_getElem (show j < xs.length by omega), Option.getD_some]

set_option maxRecDepth 100000 in
set_option maxHeartbeats 2000000 in
theorem Copy_calls {w : World} (r : Rp) {A : Option Addr} {n c : Nat} (hf : Kd.C (Kd.int .u64) w A n r.fired) (hc : n ≤ c) (hn : n ≤ 200) :
    Calls Try.prog 58 #[r.val A n c] w fun e w' => ∃ g, e = .returned (r.val (some ⟨g, 0, none⟩) n n) ∧ w.heap.size ≤ g ∧ w'.heap[g]? = some (.cells (nums .u64 r.fired).toArray 26 (0, 0)) ∧ Below w.heap.size w w' := by
  have hnl : r.fired.length = n := hf.1
  obtain ⟨i, hi, hz0, hz1, hz2⟩ := info_parts info26
  have D0 := Lib.hid (((Below.refl w.heap.size w).alloc (Nat.le_refl _) (bx r A n c)).alloc (by simp) (.cells z66 66))
  have K0 : Hid ((w.alloc (bx r A n c)).heap[w.heap.size]? = some (bx r A n c)) := heap_alloc_new w _
  have K1 := Lib.hid (blk_alloc K0.out (.cells z66 66))
  have Q1 : Hid (((w.alloc (bx r A n c)).alloc (.cells z66 66)).heap[w.heap.size + 1]? = some (.cells z66 66)) := by
    have h := heap_alloc_new (w.alloc (bx r A n c)) (.cells z66 66)
    rw [show (w.alloc (bx r A n c)).heap.size = w.heap.size + 1 by simp] at h
    exact h
  have HF := Lib.hid hf
  clear hf K0
  have hs : ((w.alloc (bx r A n c)).alloc (.cells z66 66)).heap.size = w.heap.size + 1 + 1 := by simp
  have HSZ := Lib.hid hs
  clear hs
  simp only [bx, z66] at D0 K1 Q1 HSZ
  simp only [Rp.val]
  have x0 := blk_cell K1.out 0
  have x1 := blk_cell K1.out 1
  have x2 := blk_cell K1.out 2
  have x3 := blk_cell K1.out 3
  have x4 := blk_cell K1.out 4
  have x5 := blk_cell K1.out 5
  have x6 := blk_cell K1.out 6
  have x7 := blk_cell K1.out 7
  have x8 := blk_cell K1.out 8
  have x9 := blk_cell K1.out 9
  have x10 := blk_cell K1.out 10
  have x11 := blk_cell K1.out 11
  have x12 := blk_cell K1.out 12
  have x13 := blk_cell K1.out 13
  go_enter Try.func58, Try.ntmps58
  go_wp2_with (first
    | (at_make; refine wpList_make_full _ rfl (.tmp 6) (.tmp 6) 64 rfl (w.heap.size + 2) 26 i _ 1 Try.underlying64 hi hz0 hz1 .i64 .i64 _ _ n rfl rfl rfl rfl (by rw [hz2]; omega) (by simp only [maxLen]; omega) (by simp) ?_; intro w1 hown hgrow; rw [HSZ.out] at hown; have G1 := Lib.hid (own_full hown); have D1 := Lib.hid (D0.out.grown hgrow D0.out.size (by simp)); have K2 := Lib.hid (blk_grown K1.out hgrow (by simp)); have Q2 := Lib.hid (blk_grown Q1.out hgrow (by simp)); clear hown hgrow x0 x1 x2 x3 x4 x5 x6 x7 x8 x9 x10 x11 x12 x13; have x11 := blk_cell K2.out 11)
    | (with_reducible show wpList _ _ _ _ _ _; refine wpList_copy_splice rfl (.tmp 8) (.tmp 10) 64 64 rfl 26 Try.underlying64 (by kernel_rfl) (some ⟨w.heap.size + 1 + 1, 0, none⟩) A n n n c rfl rfl (w.heap.size + 1 + 1) 0 _ 26 G1.out (nums .u64 r.fired) (by rw [nums_length, hnl]; simp) (fun h => ⟨rfl, src_cells (Kd.C_below HF.out D1.out) (by rw [nums_length, hnl] at h; exact h)⟩) (by rw [nums_length, hnl]; simp [madeCells]) (nums_one _ _) (w.heap.size + 1 + 1) w1 (Below.refl _ _) (Nat.le_refl _) ?_; intro w2 HG2 HB2; rw [splice_full (by rw [nums_length, hnl]; simp [madeCells, Value.cells])] at HG2; have K3 := Lib.hid ((HB2.block _ (by omega)).trans K2.out); have Q3 := Lib.hid ((HB2.block _ (by omega)).trans Q2.out); have D2 := Lib.hid (D1.out.trans (HB2.mono (by omega))); clear HB2 x11 K2 Q2 D1 G1; have f11 := blk_frozen K3.out 11; have x11 := blk_cell K3.out 11; have x0 := blk_cell K3.out 0; have x1 := blk_cell K3.out 1; have x2 := blk_cell K3.out 2; have x3 := blk_cell K3.out 3; have x4 := blk_cell K3.out 4; have x5 := blk_cell K3.out 5; have x6 := blk_cell K3.out 6; have x7 := blk_cell K3.out 7; have x8 := blk_cell K3.out 8; have x9 := blk_cell K3.out 9; have x10 := blk_cell K3.out 10; have x12 := blk_cell K3.out 12; have x13 := blk_cell K3.out 13; have y0 := blk_cell Q3.out 0; have g0 := blk_frozen Q3.out 0; have y1 := blk_cell Q3.out 1; have g1 := blk_frozen Q3.out 1; have y2 := blk_cell Q3.out 2; have g2 := blk_frozen Q3.out 2; have y3 := blk_cell Q3.out 3; have g3 := blk_frozen Q3.out 3; have y4 := blk_cell Q3.out 4; have g4 := blk_frozen Q3.out 4; have y5 := blk_cell Q3.out 5; have g5 := blk_frozen Q3.out 5; have y6 := blk_cell Q3.out 6; have g6 := blk_frozen Q3.out 6; have y7 := blk_cell Q3.out 7; have g7 := blk_frozen Q3.out 7; have y8 := blk_cell Q3.out 8; have g8 := blk_frozen Q3.out 8; have y9 := blk_cell Q3.out 9; have g9 := blk_frozen Q3.out 9; have y10 := blk_cell Q3.out 10; have g10 := blk_frozen Q3.out 10; have y11 := blk_cell Q3.out 11; have g11 := blk_frozen Q3.out 11; have y12 := blk_cell Q3.out 12; have g12 := blk_frozen Q3.out 12; have y13 := blk_cell Q3.out 13; have g13 := blk_frozen Q3.out 13))
  have Z := Lib.hid (blk_set (blk_set (blk_set (blk_set (blk_set (blk_set (blk_set (blk_set (blk_set (blk_set (blk_set (blk_set (blk_set (blk_set (blk_far Q3.out (p := ⟨w.heap.size, 11, none⟩) (by simp) (.slice (some ⟨w.heap.size + 1 + 1, 0, none⟩) n n)) 0 (.int .i64 r.code)) 1 (.int .i64 r.time)) 2 (.int .u64 r.tk.id)) 3 (.int .i64 r.tk.contract)) 4 (.int .i64 r.tk.state)) 5 (.int .i64 r.tk.level)) 6 (.int .u64 r.tk.gen)) 7 (.int .i64 r.tk.frm)) 8 (.int .i64 r.tk.left)) 9 (.int .i64 r.tk.due)) 10 (.int .i64 r.tk.told)) 11 (.slice (some ⟨w.heap.size + 1 + 1, 0, none⟩) n n)) 12 (.int .u64 r.notice)) 13 (.int .i64 r.dead))
  simp only [List.setIfInBounds_toArray, List.set_cons_succ, List.set_cons_zero] at Z
  refine bodyPost_ret (results_cell_row rfl _ _ (w.heap.size + 1) 66 _ (0, 0) _ rfl Z.out Try.underlying66 rfl (by kernel_rfl)) rfl ⟨w.heap.size + 1 + 1, rfl, by omega, ?_, ?_⟩
  · iterate 15 refine blk_far ?_ (fun h => by (try dsimp only at h); omega) _
    exact HG2.out
  · iterate 15 refine below_fresh ?_ (by (try dsimp only); omega) _
    exact D2.out

end Go.Proofs.Ytabdjehnglmlpaa
end

section
/- ReplyTells: the walk. -/
namespace Go.Proofs.Ytabdjehnglmlpaa
open Go.RowKit Go.Proofs.YtabdjehnglmlpaaW.PrintWords
set_option linter.unusedVariables false
set_option linter.unusedSimpArgs false

theorem Mod.set {S : Nat → Prop} {a w : World} (h : Mod S a w) {p : Addr} (hp : S p.block) (u : Value) : Mod S a (w.setCell p u) :=
  ⟨h.os, h.tape, h.output, by simpa [World.setCell] using h.size, fun i hi hn => (Below.heap_setCell w p u i (fun e => hn (e ▸ hp))).trans (h.block i hi hn)⟩

theorem size66 : (Try.prog.info? 66).map (·.size) = some 14 := by kernel_rfl
/-- A load of a whole block. -/
theorem run_load_agg {P : Program} {o : Oper} {a : Act} {w : World} {ty t : TypeId} {x : Operand} {g : Nat} {cs : Array Value} {fr : Nat × Nat} {d : TypeDesc} (ho : o.op = .load ty x) (hx : a.eval x = .pointer (some ⟨g, 0, none⟩)) (hg : w.heap[g]? = some (.cells cs t fr))
    (hu : P.underlying ty = some d) (hd : (match d with | .struct _ | .array _ _ => true | _ => false) = true) (hi : (P.info? ty).map (·.size) = some cs.size) : (execOp a.eval o).run P w = .ok (.value (.agg cs)) w := by
  unfold execOp
  simp only [ho, hx, Instr.loadAt, Instr.sureAddr, Sem.run_bind, Sem.run_pure, Result.andThen_ok, run_loadVar_row w g t ty cs fr d hg hu hd hi]

set_option maxRecDepth 100000 in
set_option maxHeartbeats 8000000 in
theorem ReplyTells_small {w : World} (r s : Rp) (hor : r.ok) (hos : s.ok) {A A2 : Option Addr} {n c n2 c2 : Nat} {x : Int} (hr : Kd.C (Kd.int .u64) w A n r.fired) (hc : n ≤ c) (hn : n ≤ 200)
    (hr2 : Kd.C (Kd.int .u64) w A2 n2 s.fired) (hc2 : n2 ≤ c2) (hn2 : n2 ≤ 200) :
    Calls Try.prog 7 #[r.val A n c, s.val A2 n2 c2, .int .u64 x] w fun e w' => e = .returned (.bool true) ∧ Below w.heap.size w w' := by
  have hnl : r.fired.length = n := hr.1
  have D0 := Lib.hid (((Below.refl w.heap.size w).alloc (Nat.le_refl _) (bx r A n c)).alloc (by simp) (bx s A2 n2 c2))
  have h0 : (w.alloc (bx r A n c)).heap[w.heap.size]? = some (bx r A n c) := heap_alloc_new w _
  have KR := Lib.hid (blk_alloc h0 (bx s A2 n2 c2))
  have h1 := heap_alloc_new (w.alloc (bx r A n c)) (bx s A2 n2 c2)
  rw [show (w.alloc (bx r A n c)).heap.size = w.heap.size + 1 by simp] at h1
  have KS := Lib.hid h1
  have HL1 := rpLight_calls (r := r) (w := (w.alloc (bx r A n c)).alloc (bx s A2 n2 c2)) (Kd.C_below hr D0.out) hc
  rw [decide_eq_true (show n ≤ 200 by omega)] at HL1
  have HLr := Lib.hid HL1
  have HLs := Lib.hid (fun W (h : Kd.C (Kd.int .u64) W A2 n2 s.fired) => rpLight_calls (r := s) h hc2)
  rw [decide_eq_true (show n2 ≤ 200 by omega)] at HLs
  have HCo := Lib.hid (fun W (h : Kd.C (Kd.int .u64) W A n r.fired) => Copy_calls r h hc hn)
  have HRS := Lib.hid (fun W => rpS_calls W r hor A n c hnl (by omega))
  have HRRS := Lib.hid (fun W => rrpS_calls W r hor A n c hnl (by omega))
  have HRF := Lib.hid (fun W => refused_calls W r.code r.time)
  have HF := Lib.hid hr
  have HFw := Lib.hid hr
  have HF2 := Lib.hid hr2
  clear h0 h1 HL1 hor hos hr hr2
  simp only [bx] at D0 KR KS HLr
  simp only [Rp.val] at HLr HLs HCo HRS HRRS
  simp only [Rp.val, Tk.zero] at HRF
  simp only [Rp.val]
  have x0 := blk_cell KR.out 0
  have x1 := blk_cell KR.out 1
  have x2 := blk_cell KR.out 2
  have x3 := blk_cell KR.out 3
  have x4 := blk_cell KR.out 4
  have x5 := blk_cell KR.out 5
  have x6 := blk_cell KR.out 6
  have x7 := blk_cell KR.out 7
  have x8 := blk_cell KR.out 8
  have x9 := blk_cell KR.out 9
  have x10 := blk_cell KR.out 10
  have x11 := blk_cell KR.out 11
  have x12 := blk_cell KR.out 12
  have x13 := blk_cell KR.out 13
  have y0 := blk_cell KS.out 0
  have y1 := blk_cell KS.out 1
  have y2 := blk_cell KS.out 2
  have y3 := blk_cell KS.out 3
  have y4 := blk_cell KS.out 4
  have y5 := blk_cell KS.out 5
  have y6 := blk_cell KS.out 6
  have y7 := blk_cell KS.out 7
  have y8 := blk_cell KS.out 8
  have y9 := blk_cell KS.out 9
  have y10 := blk_cell KS.out 10
  have y11 := blk_cell KS.out 11
  have y12 := blk_cell KS.out 12
  have y13 := blk_cell KS.out 13
  go_enter Try.func7, Try.ntmps7
  go_wp2_with fail
  with_reducible refine HLr.out.mono ?_
  rintro e w1 ⟨rfl, hb⟩
  have D1 := Lib.hid (D0.out.trans (hb.mono D0.out.size))
  have KR1 := Lib.hid (blk_below KR.out hb)
  have KS1 := Lib.hid (blk_below KS.out hb)
  clear hb HLr D0 KR KS x0 x1 x2 x3 x4 x5 x6 x7 x8 x9 x10 x11 x12 x13 y0 y1 y2 y3 y4 y5 y6 y7 y8 y9 y10 y11 y12 y13
  have x0 := blk_cell KR1.out 0
  have x1 := blk_cell KR1.out 1
  have x2 := blk_cell KR1.out 2
  have x3 := blk_cell KR1.out 3
  have x4 := blk_cell KR1.out 4
  have x5 := blk_cell KR1.out 5
  have x6 := blk_cell KR1.out 6
  have x7 := blk_cell KR1.out 7
  have x8 := blk_cell KR1.out 8
  have x9 := blk_cell KR1.out 9
  have x10 := blk_cell KR1.out 10
  have x11 := blk_cell KR1.out 11
  have x12 := blk_cell KR1.out 12
  have x13 := blk_cell KR1.out 13
  have y0 := blk_cell KS1.out 0
  have y1 := blk_cell KS1.out 1
  have y2 := blk_cell KS1.out 2
  have y3 := blk_cell KS1.out 3
  have y4 := blk_cell KS1.out 4
  have y5 := blk_cell KS1.out 5
  have y6 := blk_cell KS1.out 6
  have y7 := blk_cell KS1.out 7
  have y8 := blk_cell KS1.out 8
  have y9 := blk_cell KS1.out 9
  have y10 := blk_cell KS1.out 10
  have y11 := blk_cell KS1.out 11
  have y12 := blk_cell KS1.out 12
  have y13 := blk_cell KS1.out 13
  go_wp2_with fail
  with_reducible refine (HLs.out _ (Kd.C_below HF2.out D1.out)).mono ?_
  rintro e w2 ⟨rfl, hb⟩
  have D2 := Lib.hid (D1.out.trans (hb.mono D1.out.size))
  have KR2 := Lib.hid (blk_below KR1.out hb)
  have KS2 := Lib.hid (blk_below KS1.out hb)
  clear hb HLs D1 KR1 KS1 x0 x1 x2 x3 x4 x5 x6 x7 x8 x9 x10 x11 x12 x13 y0 y1 y2 y3 y4 y5 y6 y7 y8 y9 y10 y11 y12 y13
  have x0 := blk_cell KR2.out 0
  have x1 := blk_cell KR2.out 1
  have x2 := blk_cell KR2.out 2
  have x3 := blk_cell KR2.out 3
  have x4 := blk_cell KR2.out 4
  have x5 := blk_cell KR2.out 5
  have x6 := blk_cell KR2.out 6
  have x7 := blk_cell KR2.out 7
  have x8 := blk_cell KR2.out 8
  have x9 := blk_cell KR2.out 9
  have x10 := blk_cell KR2.out 10
  have x11 := blk_cell KR2.out 11
  have x12 := blk_cell KR2.out 12
  have x13 := blk_cell KR2.out 13
  go_wp2_with fail
  with_reducible refine (HCo.out _ (Kd.C_below HF.out D2.out)).mono ?_
  rintro e w3 ⟨g, rfl, hg, hrow, hb⟩
  have hg3 : g < w3.heap.size := blk_lt hrow
  have hwg : w.heap.size + 1 < g := by have := blk_lt KS2.out; omega
  have D3 := Lib.hid (((D2.out.trans (hb.mono D2.out.size)).alloc (D2.out.trans (hb.mono D2.out.size)).size (.cells #[.int .i64 r.code, .int .i64 r.time, .int .u64 r.tk.id, .int .i64 r.tk.contract, .int .i64 r.tk.state, .int .i64 r.tk.level, .int .u64 r.tk.gen, .int .i64 r.tk.frm, .int .i64 r.tk.left, .int .i64 r.tk.due, .int .i64 r.tk.told, .slice (some ⟨g, 0, none⟩) n n, .int .u64 r.notice, .int .i64 r.dead] 66)).drew)
  have KR3 := Lib.hid (show (w3.alloc (.cells #[.int .i64 r.code, .int .i64 r.time, .int .u64 r.tk.id, .int .i64 r.tk.contract, .int .i64 r.tk.state, .int .i64 r.tk.level, .int .u64 r.tk.gen, .int .i64 r.tk.frm, .int .i64 r.tk.left, .int .i64 r.tk.due, .int .i64 r.tk.told, .slice (some ⟨g, 0, none⟩) n n, .int .u64 r.notice, .int .i64 r.dead] 66)).drew.heap[w.heap.size]? = _ from blk_alloc (blk_below KR2.out hb) (.cells #[.int .i64 r.code, .int .i64 r.time, .int .u64 r.tk.id, .int .i64 r.tk.contract, .int .i64 r.tk.state, .int .i64 r.tk.level, .int .u64 r.tk.gen, .int .i64 r.tk.frm, .int .i64 r.tk.left, .int .i64 r.tk.due, .int .i64 r.tk.told, .slice (some ⟨g, 0, none⟩) n n, .int .u64 r.notice, .int .i64 r.dead] 66))
  have KS3 := Lib.hid (show (w3.alloc (.cells #[.int .i64 r.code, .int .i64 r.time, .int .u64 r.tk.id, .int .i64 r.tk.contract, .int .i64 r.tk.state, .int .i64 r.tk.level, .int .u64 r.tk.gen, .int .i64 r.tk.frm, .int .i64 r.tk.left, .int .i64 r.tk.due, .int .i64 r.tk.told, .slice (some ⟨g, 0, none⟩) n n, .int .u64 r.notice, .int .i64 r.dead] 66)).drew.heap[w.heap.size + 1]? = _ from blk_alloc (blk_below KS2.out hb) (.cells #[.int .i64 r.code, .int .i64 r.time, .int .u64 r.tk.id, .int .i64 r.tk.contract, .int .i64 r.tk.state, .int .i64 r.tk.level, .int .u64 r.tk.gen, .int .i64 r.tk.frm, .int .i64 r.tk.left, .int .i64 r.tk.due, .int .i64 r.tk.told, .slice (some ⟨g, 0, none⟩) n n, .int .u64 r.notice, .int .i64 r.dead] 66))
  have KC3 : Hid ((w3.alloc (.cells #[.int .i64 r.code, .int .i64 r.time, .int .u64 r.tk.id, .int .i64 r.tk.contract, .int .i64 r.tk.state, .int .i64 r.tk.level, .int .u64 r.tk.gen, .int .i64 r.tk.frm, .int .i64 r.tk.left, .int .i64 r.tk.due, .int .i64 r.tk.told, .slice (some ⟨g, 0, none⟩) n n, .int .u64 r.notice, .int .i64 r.dead] 66)).drew.heap[w3.heap.size]? = some (.cells #[.int .i64 r.code, .int .i64 r.time, .int .u64 r.tk.id, .int .i64 r.tk.contract, .int .i64 r.tk.state, .int .i64 r.tk.level, .int .u64 r.tk.gen, .int .i64 r.tk.frm, .int .i64 r.tk.left, .int .i64 r.tk.due, .int .i64 r.tk.told, .slice (some ⟨g, 0, none⟩) n n, .int .u64 r.notice, .int .i64 r.dead] 66)) := heap_alloc_new w3 _
  have G3 := Lib.hid (show (w3.alloc (.cells #[.int .i64 r.code, .int .i64 r.time, .int .u64 r.tk.id, .int .i64 r.tk.contract, .int .i64 r.tk.state, .int .i64 r.tk.level, .int .u64 r.tk.gen, .int .i64 r.tk.frm, .int .i64 r.tk.left, .int .i64 r.tk.due, .int .i64 r.tk.told, .slice (some ⟨g, 0, none⟩) n n, .int .u64 r.notice, .int .i64 r.dead] 66)).drew.heap[g]? = _ from blk_alloc hrow (.cells #[.int .i64 r.code, .int .i64 r.time, .int .u64 r.tk.id, .int .i64 r.tk.contract, .int .i64 r.tk.state, .int .i64 r.tk.level, .int .u64 r.tk.gen, .int .i64 r.tk.frm, .int .i64 r.tk.left, .int .i64 r.tk.due, .int .i64 r.tk.told, .slice (some ⟨g, 0, none⟩) n n, .int .u64 r.notice, .int .i64 r.dead] 66))
  have F3 := Lib.hid (Kd.C_below HF.out D3.out)
  have F3s := Lib.hid (Kd.C_below HF2.out D3.out)
  have C3 : Hid (Kd.C (Kd.int .u64) (w3.alloc (.cells #[.int .i64 r.code, .int .i64 r.time, .int .u64 r.tk.id, .int .i64 r.tk.contract, .int .i64 r.tk.state, .int .i64 r.tk.level, .int .u64 r.tk.gen, .int .i64 r.tk.frm, .int .i64 r.tk.left, .int .i64 r.tk.due, .int .i64 r.tk.told, .slice (some ⟨g, 0, none⟩) n n, .int .u64 r.notice, .int .i64 r.dead] 66)).drew (some ⟨g, 0, none⟩) n r.fired) := row_C hnl (by omega) G3.out
  have SN : Hid (Elder (w3.alloc (.cells #[.int .i64 r.code, .int .i64 r.time, .int .u64 r.tk.id, .int .i64 r.tk.contract, .int .i64 r.tk.state, .int .i64 r.tk.level, .int .u64 r.tk.gen, .int .i64 r.tk.frm, .int .i64 r.tk.left, .int .i64 r.tk.due, .int .i64 r.tk.told, .slice (some ⟨g, 0, none⟩) n n, .int .u64 r.notice, .int .i64 r.dead] 66)).drew (w3.alloc (.cells #[.int .i64 r.code, .int .i64 r.time, .int .u64 r.tk.id, .int .i64 r.tk.contract, .int .i64 r.tk.state, .int .i64 r.tk.level, .int .u64 r.tk.gen, .int .i64 r.tk.frm, .int .i64 r.tk.left, .int .i64 r.tk.due, .int .i64 r.tk.told, .slice (some ⟨g, 0, none⟩) n n, .int .u64 r.notice, .int .i64 r.dead] 66)).drew) := Below.refl _ _
  clear hb hrow HCo D2 KR2 KS2 HF HF2 x0 x1 x2 x3 x4 x5 x6 x7 x8 x9 x10 x11 x12 x13
  go_wp2_with fail
  go_cut [47] (fun s47 wx => s47 = .bool false ∧ Hid (Elder (w3.alloc (.cells #[.int .i64 r.code, .int .i64 r.time, .int .u64 r.tk.id, .int .i64 r.tk.contract, .int .i64 r.tk.state, .int .i64 r.tk.level, .int .u64 r.tk.gen, .int .i64 r.tk.frm, .int .i64 r.tk.left, .int .i64 r.tk.due, .int .i64 r.tk.told, .slice (some ⟨g, 0, none⟩) n n, .int .u64 r.notice, .int .i64 r.dead] 66)).drew wx))
  case first =>
    refine wp_elder (Elder (w3.alloc (.cells #[.int .i64 r.code, .int .i64 r.time, .int .u64 r.tk.id, .int .i64 r.tk.contract, .int .i64 r.tk.state, .int .i64 r.tk.level, .int .u64 r.tk.gen, .int .i64 r.tk.frm, .int .i64 r.tk.left, .int .i64 r.tk.due, .int .i64 r.tk.told, .slice (some ⟨g, 0, none⟩) n n, .int .u64 r.notice, .int .i64 r.dead] 66)).drew) (by kernel_rfl) ?_
    refine wpAnyH_take (i := 0) rfl (by kernel_rfl) (by kernel_rfl) (by kernel_rfl) (fun _ _ _ h => h) (Or.inl ⟨by rfl, fun w' hw' => run_load_agg rfl rfl (blk_below KC3.out hw') Try.underlying66 rfl size66⟩) SN.out ?_
    refine wpAnyH_take (i := 1) rfl (by kernel_rfl) (by kernel_rfl) (by kernel_rfl) (fun _ _ _ h => h) (Or.inl ⟨by rfl, fun w' hw' => run_load_agg rfl rfl (blk_below KR3.out hw') Try.underlying66 rfl size66⟩) SN.out ?_
    refine wpAnyH_lay (fun K hK => ?_)
    go_simp
    refine hK _ _ ?_
    clear hK K
    have HS1 := Lib.hid (fun W (h : Elder (w3.alloc (.cells #[.int .i64 r.code, .int .i64 r.time, .int .u64 r.tk.id, .int .i64 r.tk.contract, .int .i64 r.tk.state, .int .i64 r.tk.level, .int .u64 r.tk.gen, .int .i64 r.tk.frm, .int .i64 r.tk.left, .int .i64 r.tk.due, .int .i64 r.tk.told, .slice (some ⟨g, 0, none⟩) n n, .int .u64 r.notice, .int .i64 r.dead] 66)).drew W) => rrpSame_calls (r := r) (s := r) (c := n) (c2 := c) (Kd.C_below C3.out h) (Nat.le_refl _) hn (Kd.C_below F3.out h) hc hn)
    have HS2 := Lib.hid (fun W (h : Elder (w3.alloc (.cells #[.int .i64 r.code, .int .i64 r.time, .int .u64 r.tk.id, .int .i64 r.tk.contract, .int .i64 r.tk.state, .int .i64 r.tk.level, .int .u64 r.tk.gen, .int .i64 r.tk.frm, .int .i64 r.tk.left, .int .i64 r.tk.due, .int .i64 r.tk.told, .slice (some ⟨g, 0, none⟩) n n, .int .u64 r.notice, .int .i64 r.dead] 66)).drew W) => rpSame_calls (r := r) (s := s) (c := c) (c2 := c2) (Kd.C_below F3.out h) hc hn (Kd.C_below F3s.out h) hc2 hn2)
    have HS3 := Lib.hid (fun W (h : Elder (w3.alloc (.cells #[.int .i64 r.code, .int .i64 r.time, .int .u64 r.tk.id, .int .i64 r.tk.contract, .int .i64 r.tk.state, .int .i64 r.tk.level, .int .u64 r.tk.gen, .int .i64 r.tk.frm, .int .i64 r.tk.left, .int .i64 r.tk.due, .int .i64 r.tk.told, .slice (some ⟨g, 0, none⟩) n n, .int .u64 r.notice, .int .i64 r.dead] 66)).drew W) => rrpSame_calls (r := r) (s := s) (c := c) (c2 := c2) (Kd.C_below F3.out h) hc hn (Kd.C_below F3s.out h) hc2 hn2)
    have HS4 := Lib.hid (fun W (h : Elder (w3.alloc (.cells #[.int .i64 r.code, .int .i64 r.time, .int .u64 r.tk.id, .int .i64 r.tk.contract, .int .i64 r.tk.state, .int .i64 r.tk.level, .int .u64 r.tk.gen, .int .i64 r.tk.frm, .int .i64 r.tk.left, .int .i64 r.tk.due, .int .i64 r.tk.told, .slice (some ⟨g, 0, none⟩) n n, .int .u64 r.notice, .int .i64 r.dead] 66)).drew W) => rpSame_calls (r := r) (s := r) (c := c) (c2 := c) (Kd.C_below F3.out h) hc hn (Kd.C_below F3.out h) hc hn)
    simp only [Rp.val, rpEq_self] at HS1 HS4
    simp only [Rp.val] at HS2 HS3
    obtain ⟨q1, hq1⟩ : ∃ q, rpSound r = q := ⟨_, rfl⟩
    obtain ⟨q2, hq2⟩ : ∃ q, rpEq r s = q := ⟨_, rfl⟩
    rw [hq1] at HRS HRRS
    rw [hq2] at HS2 HS3
    clear hq1 hq2
    refine wpAnyH_alone (k := 2) (by kernel_rfl) rfl (fun K hK => ?_)
    go_simp
    go_wp2_with fail
    with_reducible refine (HS1.out _ SN.out).mono ?_
    rintro e w4 ⟨rfl, hb⟩
    have SN1 := Lib.hid (show Elder _ _ from SN.out.trans (hb.mono SN.out.size))
    clear hb
    refine hK _ _ ⟨SN1.out, ?_⟩
    clear hK K
    refine wpAnyH_take (i := 3) (v := ?_) rfl (by kernel_rfl) (by kernel_rfl) (by kernel_rfl) (fun _ _ _ h => h) (Or.inl ⟨by rfl, ?_⟩) SN1.out ?_
    rotate_left
    · intro w' hw'
      clear hw'
      go_simp; try with_reducible rfl
    refine wpAnyH_take (i := 4) (v := ?_) rfl (by kernel_rfl) (by kernel_rfl) (by kernel_rfl) (fun _ _ _ h => h) (Or.inl ⟨by rfl, ?_⟩) SN1.out ?_
    rotate_left
    · intro w' hw'
      clear hw'
      go_simp; try with_reducible rfl
    refine wpAnyH_take (i := 5) rfl (by kernel_rfl) (by kernel_rfl) (by kernel_rfl) (fun _ _ _ h => h) (Or.inl ⟨by rfl, fun w' hw' => run_load_agg rfl rfl (blk_below KR3.out hw') Try.underlying66 rfl size66⟩) SN1.out ?_
    refine wpAnyH_take (i := 7) rfl (by kernel_rfl) (by kernel_rfl) (by kernel_rfl) (fun _ _ _ h => h) (Or.inl ⟨by rfl, fun w' hw' => run_load_agg rfl rfl (blk_below KR3.out hw') Try.underlying66 rfl size66⟩) SN1.out ?_
    refine wpAnyH_lay (fun K hK => ?_)
    go_simp
    refine hK _ _ ?_
    clear hK K
    refine wpAnyH_alone (k := 6) (by kernel_rfl) rfl (fun K hK => ?_)
    go_simp
    go_wp2_with fail
    with_reducible refine (HRS.out _).mono ?_
    rintro e w5 ⟨rfl, hb⟩
    have SN2 := Lib.hid (show Elder _ _ from SN1.out.trans (hb.mono SN1.out.size))
    clear hb
    refine hK _ _ ⟨SN2.out, ?_⟩
    clear hK K
    refine wpAnyH_alone (k := 8) (by kernel_rfl) rfl (fun K hK => ?_)
    go_simp
    go_wp2_with fail
    with_reducible refine (HRRS.out _).mono ?_
    rintro e w6 ⟨rfl, hb⟩
    have SN3 := Lib.hid (show Elder _ _ from SN2.out.trans (hb.mono SN2.out.size))
    clear hb
    refine hK _ _ ⟨SN3.out, ?_⟩
    clear hK K
    refine wpAnyH_take (i := 9) (v := ?_) rfl (by kernel_rfl) (by kernel_rfl) (by kernel_rfl) (fun _ _ _ h => h) (Or.inl ⟨by rfl, ?_⟩) SN3.out ?_
    rotate_left
    · intro w' hw'
      clear hw'
      go_simp; try with_reducible rfl
    refine wpAnyH_take (i := 10) (v := ?_) rfl (by kernel_rfl) (by kernel_rfl) (by kernel_rfl) (fun _ _ _ h => h) (Or.inl ⟨by rfl, ?_⟩) SN3.out ?_
    rotate_left
    · intro w' hw'
      clear hw'
      go_simp; try with_reducible rfl
    refine wpAnyH_take (i := 11) (v := ?_) rfl (by kernel_rfl) (by kernel_rfl) (by kernel_rfl) (fun _ _ _ h => h) (Or.inl ⟨by rfl, ?_⟩) SN3.out ?_
    rotate_left
    · intro w' hw'
      clear hw'
      go_simp; try with_reducible rfl
    refine wpAnyH_take (i := 12) rfl (by kernel_rfl) (by kernel_rfl) (by kernel_rfl) (fun _ _ _ h => h) (Or.inl ⟨by rfl, fun w' hw' => run_load_agg rfl rfl (blk_below KR3.out hw') Try.underlying66 rfl size66⟩) SN3.out ?_
    refine wpAnyH_take (i := 13) rfl (by kernel_rfl) (by kernel_rfl) (by kernel_rfl) (fun _ _ _ h => h) (Or.inl ⟨by rfl, fun w' hw' => run_load_agg rfl rfl (blk_below KS3.out hw') Try.underlying66 rfl size66⟩) SN3.out ?_
    refine wpAnyH_take (i := 15) rfl (by kernel_rfl) (by kernel_rfl) (by kernel_rfl) (fun _ _ _ h => h) (Or.inl ⟨by rfl, fun w' hw' => run_load_agg rfl rfl (blk_below KR3.out hw') Try.underlying66 rfl size66⟩) SN3.out ?_
    refine wpAnyH_take (i := 16) rfl (by kernel_rfl) (by kernel_rfl) (by kernel_rfl) (fun _ _ _ h => h) (Or.inl ⟨by rfl, fun w' hw' => run_load_agg rfl rfl (blk_below KS3.out hw') Try.underlying66 rfl size66⟩) SN3.out ?_
    refine wpAnyH_lay (fun K hK => ?_)
    go_simp
    refine hK _ _ ?_
    clear hK K
    refine wpAnyH_alone (k := 14) (by kernel_rfl) rfl (fun K hK => ?_)
    go_simp
    go_wp2_with fail
    with_reducible refine (HS2.out _ SN3.out).mono ?_
    rintro e w7 ⟨rfl, hb⟩
    have SN4 := Lib.hid (show Elder _ _ from SN3.out.trans (hb.mono SN3.out.size))
    clear hb
    refine hK _ _ ⟨SN4.out, ?_⟩
    clear hK K
    refine wpAnyH_alone (k := 17) (by kernel_rfl) rfl (fun K hK => ?_)
    go_simp
    go_wp2_with fail
    with_reducible refine (HS3.out _ SN4.out).mono ?_
    rintro e w8 ⟨rfl, hb⟩
    have SN5 := Lib.hid (show Elder _ _ from SN4.out.trans (hb.mono SN4.out.size))
    clear hb
    refine hK _ _ ⟨SN5.out, ?_⟩
    clear hK K
    refine wpAnyH_take (i := 18) (v := ?_) rfl (by kernel_rfl) (by kernel_rfl) (by kernel_rfl) (fun _ _ _ h => h) (Or.inl ⟨by rfl, ?_⟩) SN5.out ?_
    rotate_left
    · intro w' hw'
      clear hw'
      go_simp; try with_reducible rfl
    refine wpAnyH_take (i := 19) (v := ?_) rfl (by kernel_rfl) (by kernel_rfl) (by kernel_rfl) (fun _ _ _ h => h) (Or.inl ⟨by rfl, ?_⟩) SN5.out ?_
    rotate_left
    · intro w' hw'
      clear hw'
      go_simp; try with_reducible rfl
    refine wpAnyH_take (i := 20) (v := ?_) rfl (by kernel_rfl) (by kernel_rfl) (by kernel_rfl) (fun _ _ _ h => h) (Or.inl ⟨by rfl, ?_⟩) SN5.out ?_
    rotate_left
    · intro w' hw'
      clear hw'
      go_simp; try with_reducible rfl
    refine wpAnyH_take (i := 21) rfl (by kernel_rfl) (by kernel_rfl) (by kernel_rfl) (fun _ _ _ h => h) (Or.inl ⟨by rfl, fun w' hw' => run_load_agg rfl rfl (blk_below KR3.out hw') Try.underlying66 rfl size66⟩) SN5.out ?_
    refine wpAnyH_take (i := 22) rfl (by kernel_rfl) (by kernel_rfl) (by kernel_rfl) (fun _ _ _ h => h) (Or.inl ⟨by rfl, fun w' hw' => run_load_agg rfl rfl (blk_below KR3.out hw') Try.underlying66 rfl size66⟩) SN5.out ?_
    refine wpAnyH_lay (fun K hK => ?_)
    go_simp
    refine hK _ _ ?_
    clear hK K
    refine wpAnyH_alone (k := 23) (by kernel_rfl) rfl (fun K hK => ?_)
    go_simp
    go_wp2_with fail
    with_reducible refine (HS4.out _ SN5.out).mono ?_
    rintro e w9 ⟨rfl, hb⟩
    have SN6 := Lib.hid (show Elder _ _ from SN5.out.trans (hb.mono SN5.out.size))
    clear hb
    refine hK _ _ ⟨SN6.out, ?_⟩
    clear hK K
    refine wpAnyH_take (i := 24) (v := ?_) rfl (by kernel_rfl) (by kernel_rfl) (by kernel_rfl) (fun _ _ _ h => h) (Or.inl ⟨by rfl, ?_⟩) SN6.out ?_
    rotate_left
    · intro w' hw'
      clear hw'
      go_simp; try with_reducible rfl
    refine wpAnyH_take (i := 25) (v := ?_) rfl (by kernel_rfl) (by kernel_rfl) (by kernel_rfl) (fun _ _ _ h => h) (Or.inl ⟨by rfl, ?_⟩) SN6.out ?_
    rotate_left
    · intro w' hw'
      clear hw'
      go_simp; try with_reducible rfl
    refine wpAnyH_lay (fun K hK => ?_)
    go_simp
    refine hK _ _ ?_
    clear hK K
    refine wpAnyH_done (by kernel_rfl) ?_ _
    go_wp2_with fail
    go_meet
    exact ⟨rfl, SN6.out⟩
  case rest =>
    clear SN C3 KS3 HRS HRRS F3s
    obtain ⟨rfl, SNx⟩ := hcut
    have KR4 := Lib.hid (blk_below KR3.out SNx.out)
    have KC4 := Lib.hid (blk_below KC3.out SNx.out)
    have G4 := Lib.hid (blk_below G3.out SNx.out)
    have F4 := Lib.hid (Kd.C_below F3.out SNx.out)
    have D4 := Lib.hid (D3.out.trans (SNx.out.mono D3.out.size))
    have hsz4 : w3.heap.size < wc.heap.size := blk_lt KC4.out
    have AL : Hid (0 < n → ∀ ad, A = some ad → ad.block < w.heap.size) := Kd.pos_lt HFw.out
    clear KR3 KC3 G3 F3 D3 SNx HFw
    have HO : Hid ((wc.alloc (.cells #[] 26)).ownsRow wc.heap.size 26 1 (.slice (some ⟨wc.heap.size, 0, none⟩) 0 0) ([] : List Int).length (nums .u64 [])) := World.ownsRow_made wc #[] 0 (Nat.le_refl _) (by decide) rfl
    have HB : Hid (Below wc.heap.size wc (wc.alloc (.cells #[] 26))) := (Below.refl _ wc).alloc (Nat.le_refl _) _
    have HR : Hid (ReadsInt (wc.alloc (.cells #[] 26)) .u64 A n r.fired) := Kd.reads_of_C (d := (0 : Int)) (Kd.C_below F4.out HB.out)
    have x11 := blk_cell (blk_alloc KR4.out (.cells #[] 26)) 11
    go_wp2_with (first
      | (at_builtin; refine print_append_row (w0 := wc) wc.heap.size (by rfl) (.tmp 48) (.tmp 50) 64 26 .u64 8 (by rfl) Try.underlying64 info26 (by decide) (.slice (some ⟨wc.heap.size, 0, none⟩) 0 0) [] r.fired A n c (by rfl) (by rfl) HO.out HR.out HB.out (by simp) (by simp; omega) ?_; intro v5 w5 hown hbel hgrow hat; obtain ⟨A5, m5, c5, rfl⟩ := own_form hown; simp only [List.nil_append] at hown; have C5 := Lib.hid (own64_C hown); have O5 := Lib.hid (own_base hown); have hle5 : m5 ≤ c5 := own_le hown; have KR5 := Lib.hid (blk_below KR4.out hbel); have KC5 := Lib.hid (blk_below KC4.out hbel); have G5 := Lib.hid (blk_below G4.out hbel); have F5 := Lib.hid (Kd.C_below F4.out hbel); have D5 := Lib.hid (D4.out.trans (hbel.mono D4.out.size)); have hsz5 : wc.heap.size ≤ w5.heap.size := hbel.size; obtain rfl : r.fired.length = m5 := C5.out.1; clear hown hbel hgrow hat x11 KR4 KC4 G4 F4 D4 HO HB HR; have x11 := blk_cell KC5.out 11))
    go_loopw [9, 55] (fun _ i wr => ∃ k : Nat, k ≤ n ∧ i = .int .i64 k ∧ Hid (∃ cur : Array Value, wr.heap[g]? = some (.cells cur 26 (0, 0)) ∧ cur.size = n) ∧ Hid (Mod (· = g) w5 wr)) (fun _ i _ => n - (intOf i).toNat)
    case atStart => exact ⟨0, Nat.zero_le _, rfl, ⟨_, G5.out, by simp [nums_length, hnl]⟩, Mod.refl _ _⟩
    case round =>
      clear x11
      obtain ⟨k, hk, rfl, HG, HM⟩ := hrel
      by_cases hlt : k < n
      · obtain ⟨cur, hcur, hcs⟩ := HG.out
        have KCr := Lib.hid (HM.out.blk KC5.out (by omega))
        have x11 := blk_cell KCr.out 11
        have xg := blk_cell hcur k
        have fg := blk_frozen hcur k
        obtain ⟨u, hu⟩ : ∃ u, cur[k]? = some u := ⟨_, Array.getElem?_eq_getElem (by omega)⟩
        rw [hu] at xg
        have HCur := Lib.hid hcur
        have HCs := Lib.hid hcs
        clear hcur hu hcs HG
        go_wp2
        go_roundw
        case rel => exact ⟨k + 1, by omega, by go_num, ⟨_, blk_set HCur.out k (.int .u64 x), by simp [HCs.out]⟩, HM.out.set rfl _⟩
        case measure => simp [intOf]; omega
      · obtain rfl : k = n := by omega
        have D6 := Lib.hid (D5.out.trans (HM.out.below (by omega) (fun i hi e => by omega) : Below w.heap.size w5 wr))
        have KR6 := Lib.hid (HM.out.blk KR5.out (by omega))
        have F6 := Lib.hid (C_keep F5.out HM.out (fun h ad e e' => by have := AL.out h ad e; omega))
        have C6 := Lib.hid (C_mod C5.out HM.out (fun ad e e' => by subst e; have := O5.out ad.block rfl; omega))
        clear HG HM KC5 G5 F5 C5 O5 D5 KR5
        go_wp2_with fail
        go_loopw [10, 66] (fun _ i wx => ∃ j : Nat, j ≤ r.fired.length ∧ i = .int .i64 j ∧ Hid (Below wr.heap.size wr wx)) (fun _ i _ => r.fired.length - (intOf i).toNat)
        case atStart => exact ⟨0, Nat.zero_le _, rfl, Below.refl _ _⟩
        case round =>
          obtain ⟨j, hj, rfl, HW⟩ := hrel
          by_cases hlt2 : j < r.fired.length
          · have KRx := Lib.hid (blk_below KR6.out HW.out.drew)
            have x11 := blk_cell KRx.out 11
            obtain ⟨ad, rfl, z1⟩ := Kd.at_int (Kd.C_below F6.out HW.out.drew) j (by omega) (by omega)
            obtain ⟨ad5, rfl, z2⟩ := Kd.at_int (Kd.C_below C6.out HW.out.drew) j (by omega) (by omega)
            rw [Int.toNat_natCast] at z1 z2
            go_wp2_with fail
            refine wp_parts (by kernel_rfl) rfl ?_
            refine wpAny_last (k := 0) rfl (by kernel_rfl) (by kernel_rfl) ?_ (by rfl)
            simp only [List.drop_zero]
            iterate 10 still_step
            refine wpStill_nil ?_
            go_wp2
            go_roundw
            case rel => exact ⟨j + 1, by omega, by go_num, HW.out.drew⟩
            case measure => simp [intOf]; omega
          · obtain rfl : j = r.fired.length := by omega
            have D7 := Lib.hid (D6.out.trans (HW.out.mono D6.out.size)).drew
            have KR7 := Lib.hid (blk_below KR6.out HW.out.drew)
            have SM : Hid (Elder wr.drew wr.drew) := Below.refl _ _
            have HS5 := Lib.hid (fun W => rrpSame_calls (r := ⟨r.code, r.time, Tk.zero, [], 0, 0⟩) (s := ⟨r.code, r.time, Tk.zero, [], 0, 0⟩) (A := none) (n := 0) (c := 0) (A2 := none) (n2 := 0) (c2 := 0) (w := W) nil_reads (Nat.le_refl _) (by omega) nil_reads (Nat.le_refl _) (by omega))
            simp only [Rp.val, rpEq_self, Tk.zero] at HS5
            clear D6 KR6 F6 C6 HW
            go_wp2_with fail
            refine wp_elder (Elder wr.drew) (by kernel_rfl) ?_
            have k0 : Hid (∀ w', Elder wr.drew w' → w'.cell? ⟨w.heap.size, 0, none⟩ = some (.int .i64 r.code)) := fun w' h => blk_cell (blk_below KR7.out h) 0
            have k1 : Hid (∀ w', Elder wr.drew w' → w'.cell? ⟨w.heap.size, 1, none⟩ = some (.int .i64 r.time)) := fun w' h => blk_cell (blk_below KR7.out h) 1
            refine wpAnyH_take (i := 0) (v := ?_) rfl (by kernel_rfl) (by kernel_rfl) (by kernel_rfl) (fun _ _ _ h => h) (Or.inl ⟨by rfl, ?_⟩) SM.out ?_
            rotate_left
            · intro w' hw'
              clear hw'
              go_simp; try with_reducible rfl
            refine wpAnyH_take (i := 2) (v := ?_) rfl (by kernel_rfl) (by kernel_rfl) (by kernel_rfl) (fun _ _ _ h => h) (Or.inl ⟨by rfl, ?_⟩) SM.out ?_
            rotate_left
            · intro w' hw'
              clear hw'
              go_simp; try with_reducible rfl
            refine wpAnyH_take (i := 5) (v := ?_) rfl (by kernel_rfl) (by kernel_rfl) (by kernel_rfl) (fun _ _ _ h => h) (Or.inl ⟨by rfl, ?_⟩) SM.out ?_
            rotate_left
            · intro w' hw'
              clear hw'
              go_simp; try with_reducible rfl
            refine wpAnyH_take (i := 7) (v := ?_) rfl (by kernel_rfl) (by kernel_rfl) (by kernel_rfl) (fun _ _ _ h => h) (Or.inl ⟨by rfl, ?_⟩) SM.out ?_
            rotate_left
            · intro w' hw'
              clear hw'
              go_simp; try with_reducible rfl
            refine wpAnyH_lay (fun K hK => ?_)
            go_simp
            refine hK _ _ ?_
            clear hK K
            refine wpAnyH_take (i := 1) (v := ?_) rfl (by kernel_rfl) (by kernel_rfl) (by kernel_rfl) (fun _ _ _ h => h) (Or.inl ⟨by rfl, ?_⟩) SM.out ?_
            rotate_left
            · intro w' hw'
              have x0 := k0.out _ hw'
              clear hw'
              go_simp; try with_reducible rfl
            refine wpAnyH_take (i := 3) (v := ?_) rfl (by kernel_rfl) (by kernel_rfl) (by kernel_rfl) (fun _ _ _ h => h) (Or.inl ⟨by rfl, ?_⟩) SM.out ?_
            rotate_left
            · intro w' hw'
              have x1 := k1.out _ hw'
              clear hw'
              go_simp; try with_reducible rfl
            refine wpAnyH_take (i := 6) (v := ?_) rfl (by kernel_rfl) (by kernel_rfl) (by kernel_rfl) (fun _ _ _ h => h) (Or.inl ⟨by rfl, ?_⟩) SM.out ?_
            rotate_left
            · intro w' hw'
              have x0 := k0.out _ hw'
              clear hw'
              go_simp; try with_reducible rfl
            refine wpAnyH_take (i := 8) (v := ?_) rfl (by kernel_rfl) (by kernel_rfl) (by kernel_rfl) (fun _ _ _ h => h) (Or.inl ⟨by rfl, ?_⟩) SM.out ?_
            rotate_left
            · intro w' hw'
              have x1 := k1.out _ hw'
              clear hw'
              go_simp; try with_reducible rfl
            refine wpAnyH_lay (fun K hK => ?_)
            go_simp
            refine hK _ _ ?_
            clear hK K
            refine wpAnyH_take (i := 9) (v := ?_) rfl (by kernel_rfl) (by kernel_rfl) (by kernel_rfl) (fun _ _ _ h => h) (Or.inl ⟨by rfl, ?_⟩) SM.out ?_
            rotate_left
            · intro w' hw'
              clear hw'
              go_simp; try with_reducible rfl
            refine wpAnyH_lay (fun K hK => ?_)
            go_simp
            refine hK _ _ ?_
            clear hK K
            refine wpAnyH_alone (k := 4) (by kernel_rfl) rfl (fun K hK => ?_)
            go_simp
            go_wp2_with fail
            with_reducible refine (HRF.out _).mono ?_
            rintro e w11 ⟨rfl, hb⟩
            have SM1 := Lib.hid (show Elder _ _ from SM.out.trans (hb.mono SM.out.size))
            clear hb
            refine hK _ _ ⟨SM1.out, ?_⟩
            clear hK K
            refine wpAnyH_alone (k := 10) (by kernel_rfl) rfl (fun K hK => ?_)
            go_simp
            go_wp2_with fail
            with_reducible refine (HS5.out _).mono ?_
            rintro e w12 ⟨rfl, hb⟩
            have SM2 := Lib.hid (show Elder _ _ from SM1.out.trans (hb.mono SM1.out.size))
            clear hb
            refine hK _ _ ⟨SM2.out, ?_⟩
            clear hK K
            refine wpAnyH_take (i := 11) (v := ?_) rfl (by kernel_rfl) (by kernel_rfl) (by kernel_rfl) (fun _ _ _ h => h) (Or.inl ⟨by rfl, ?_⟩) SM2.out ?_
            rotate_left
            · intro w' hw'
              clear hw'
              go_simp; try with_reducible rfl
            refine wpAnyH_lay (fun K hK => ?_)
            go_simp
            refine hK _ _ ?_
            clear hK K
            refine wpAnyH_alone (k := 12) (by kernel_rfl) rfl (fun K hK => ?_)
            go_simp
            go_wp2_with fail
            with_reducible refine (lives19_calls _).mono ?_
            rintro e w13 ⟨rfl, hb⟩
            have SM3 := Lib.hid (show Elder _ _ from SM2.out.trans (hb.mono SM2.out.size))
            clear hb
            refine hK _ _ ⟨SM3.out, ?_⟩
            clear hK K
            refine wpAnyH_take (i := 13) (v := ?_) rfl (by kernel_rfl) (by kernel_rfl) (by kernel_rfl) (fun _ _ _ h => h) (Or.inl ⟨by rfl, ?_⟩) SM3.out ?_
            rotate_left
            · intro w' hw'
              clear hw'
              go_simp; try with_reducible rfl
            refine wpAnyH_take (i := 14) (v := ?_) rfl (by kernel_rfl) (by kernel_rfl) (by kernel_rfl) (fun _ _ _ h => h) (Or.inl ⟨by rfl, ?_⟩) SM3.out ?_
            rotate_left
            · intro w' hw'
              clear hw'
              go_simp; try with_reducible rfl
            refine wpAnyH_lay (fun K hK => ?_)
            go_simp
            refine hK _ _ ?_
            clear hK K
            refine wpAnyH_done (by kernel_rfl) ?_ _
            go_wp2
            go_ret
            exact ⟨rfl, D7.out.trans (SM3.out.mono D7.out.size)⟩

end Go.Proofs.Ytabdjehnglmlpaa
end

section
/- ReplyTells: the other ways, and all together. -/
namespace Go.Proofs.Ytabdjehnglmlpaa
open Go.RowKit Go.Proofs.YtabdjehnglmlpaaW.PrintWords
set_option linter.unusedVariables false
set_option linter.unusedSimpArgs false

set_option maxRecDepth 100000 in
set_option maxHeartbeats 2000000 in
theorem ReplyTells_long {w : World} (r s : Rp) {A A2 : Option Addr} {n c n2 c2 : Nat} {x : Int} (hr : Kd.C (Kd.int .u64) w A n r.fired) (hc : n ≤ c)
    (hr2 : Kd.C (Kd.int .u64) w A2 n2 s.fired) (hc2 : n2 ≤ c2) (hn : 200 < n ∨ 200 < n2) :
    Calls Try.prog 7 #[r.val A n c, s.val A2 n2 c2, .int .u64 x] w fun e w' => e = .returned (.bool true) ∧ Below w.heap.size w w' := by
  have D0 := Lib.hid (((Below.refl w.heap.size w).alloc (Nat.le_refl _) (bx r A n c)).alloc (by simp) (bx s A2 n2 c2))
  have h0 : (w.alloc (bx r A n c)).heap[w.heap.size]? = some (bx r A n c) := heap_alloc_new w _
  have KR := Lib.hid (blk_alloc h0 (bx s A2 n2 c2))
  have h1 := heap_alloc_new (w.alloc (bx r A n c)) (bx s A2 n2 c2)
  rw [show (w.alloc (bx r A n c)).heap.size = w.heap.size + 1 by simp] at h1
  have KS := Lib.hid h1
  have HLr := Lib.hid (rpLight_calls (r := r) (w := (w.alloc (bx r A n c)).alloc (bx s A2 n2 c2)) (Kd.C_below hr D0.out) hc)
  have HLs := Lib.hid (fun W (h : Kd.C (Kd.int .u64) W A2 n2 s.fired) => rpLight_calls (r := s) h hc2)
  have HF2 := Lib.hid hr2
  clear h0 h1 hr hr2
  simp only [bx] at D0 KR KS HLr
  simp only [Rp.val] at HLr HLs
  simp only [Rp.val]
  by_cases hl : n ≤ 200
  · rw [decide_eq_true hl] at HLr
    rw [decide_eq_false (show ¬ n2 ≤ 200 by omega)] at HLs
    have x0 := blk_cell KR.out 0
    have x1 := blk_cell KR.out 1
    have x2 := blk_cell KR.out 2
    have x3 := blk_cell KR.out 3
    have x4 := blk_cell KR.out 4
    have x5 := blk_cell KR.out 5
    have x6 := blk_cell KR.out 6
    have x7 := blk_cell KR.out 7
    have x8 := blk_cell KR.out 8
    have x9 := blk_cell KR.out 9
    have x10 := blk_cell KR.out 10
    have x11 := blk_cell KR.out 11
    have x12 := blk_cell KR.out 12
    have x13 := blk_cell KR.out 13
    go_enter Try.func7, Try.ntmps7
    go_wp2_with fail
    with_reducible refine HLr.out.mono ?_
    rintro e w1 ⟨rfl, hb⟩
    have D1 := Lib.hid (D0.out.trans (hb.mono D0.out.size))
    have KS1 := Lib.hid (blk_below KS.out hb)
    clear hb HLr D0 KR KS x0 x1 x2 x3 x4 x5 x6 x7 x8 x9 x10 x11 x12 x13
    have y0 := blk_cell KS1.out 0
    have y1 := blk_cell KS1.out 1
    have y2 := blk_cell KS1.out 2
    have y3 := blk_cell KS1.out 3
    have y4 := blk_cell KS1.out 4
    have y5 := blk_cell KS1.out 5
    have y6 := blk_cell KS1.out 6
    have y7 := blk_cell KS1.out 7
    have y8 := blk_cell KS1.out 8
    have y9 := blk_cell KS1.out 9
    have y10 := blk_cell KS1.out 10
    have y11 := blk_cell KS1.out 11
    have y12 := blk_cell KS1.out 12
    have y13 := blk_cell KS1.out 13
    go_wp2_with fail
    with_reducible refine (HLs.out _ (Kd.C_below HF2.out D1.out)).mono ?_
    rintro e w2 ⟨rfl, hb⟩
    have D2 := Lib.hid (D1.out.trans (hb.mono D1.out.size))
    clear hb
    go_wp2_with fail
    with_reducible refine (lives19_calls _).mono ?_
    rintro e w6 ⟨rfl, hb⟩
    have B6 := Lib.hid (D2.out.trans (hb.mono D2.out.size)); clear hb
    go_wp2
    go_ret
    exact ⟨rfl, B6.out⟩
  · rw [decide_eq_false hl] at HLr
    have x0 := blk_cell KR.out 0
    have x1 := blk_cell KR.out 1
    have x2 := blk_cell KR.out 2
    have x3 := blk_cell KR.out 3
    have x4 := blk_cell KR.out 4
    have x5 := blk_cell KR.out 5
    have x6 := blk_cell KR.out 6
    have x7 := blk_cell KR.out 7
    have x8 := blk_cell KR.out 8
    have x9 := blk_cell KR.out 9
    have x10 := blk_cell KR.out 10
    have x11 := blk_cell KR.out 11
    have x12 := blk_cell KR.out 12
    have x13 := blk_cell KR.out 13
    go_enter Try.func7, Try.ntmps7
    go_wp2_with fail
    with_reducible refine HLr.out.mono ?_
    rintro e w1 ⟨rfl, hb⟩
    have D1 := Lib.hid (D0.out.trans (hb.mono D0.out.size))
    clear hb
    go_wp2_with fail
    with_reducible refine (lives19_calls _).mono ?_
    rintro e w6 ⟨rfl, hb⟩
    have B6 := Lib.hid (D1.out.trans (hb.mono D1.out.size)); clear hb
    go_wp2
    go_ret
    exact ⟨rfl, B6.out⟩

theorem ReplyTells_walk {w : World} {r s : Rp × Option Addr × Nat × Nat} (h : r.1.ok ∧ r.2.2.1 ≤ r.2.2.2 ∧ Kd.C (Kd.int .u64) w r.2.1 r.2.2.1 r.1.fired)
    (k : s.1.ok ∧ s.2.2.1 ≤ s.2.2.2 ∧ Kd.C (Kd.int .u64) w s.2.1 s.2.2.1 s.1.fired) (x : Int) (hx : (Lit.int .u64 x).wf = true) :
    Calls Try.prog 7 #[r.1.val r.2.1 r.2.2.1 r.2.2.2, s.1.val s.2.1 s.2.2.1 s.2.2.2, .int .u64 x] w fun e w' => e = .returned (.bool true) ∧ Below w.heap.size w w' := by
  by_cases hb : 200 < r.2.2.1 ∨ 200 < s.2.2.1
  · exact ReplyTells_long r.1 s.1 h.2.2 h.2.1 k.2.2 k.2.1 hb
  · rw [not_or] at hb
    exact ReplyTells_small r.1 s.1 h.1 k.1 h.2.2 h.2.1 (by omega) k.2.2 k.2.1 (by omega)

end Go.Proofs.Ytabdjehnglmlpaa
end
