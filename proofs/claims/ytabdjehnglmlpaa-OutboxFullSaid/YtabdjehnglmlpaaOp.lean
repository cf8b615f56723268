/- outbox: pick, with whatever function values. -/
import Derived.Test.YtabdjehnglmlpaaOj
namespace Go.Proofs.Ytabdjehnglmlpaa
open Go.RowKit Go.Proofs.YtabdjehnglmlpaaW.PrintWords
open PO (S45 z45 k45 rd_T45)
set_option linter.unusedVariables false
set_option linter.unusedSimpArgs false

/-- A function value that tells a value of a notice, in any world behind w. -/
structure Maps (w : World) (fid : Nat) (caps : Array Value) (q : No → Value) : Prop where
  enters : ∀ (args : Array Value) (W : World), (callFunc fid args).run Try.prog W = .ok (.enter fid args) W
  maps : ∀ (W : World) (x : No), Below w.heap.size w W → Calls Try.prog fid (#[No.val x] ++ caps) W fun e W' => e = .returned (q x) ∧ Below W.heap.size W W'
theorem filter_take {p : No → Bool} {l : List No} {k : Nat} (hk : k < l.length) : (l.take (k + 1)).filter p = (l.take k).filter p ++ if p (rd_T45 l k) then [rd_T45 l k] else [] := by
  rw [List.take_add_one, List.filter_append, List.getElem?_eq_getElem hk, rd_get hk]
  congr 1
  by_cases h : p l[k] = true
  · rw [if_pos h]; simp [h]
  · rw [if_neg h]; simp [h]
theorem filter_len {p : No → Bool} (l : List No) (k : Nat) : ((l.take k).filter p).length ≤ k := by
  have := List.length_filter_le p (l.take k)
  rw [List.length_take] at this
  omega

set_option maxRecDepth 100000 in
set_option maxHeartbeats 2000000 in
theorem pick117_calls {w : World} {A : Option Addr} {n c : Nat} {l : List No} (hr : Kd.C k45 w A n l) (hc : n ≤ c) (hl : n ≤ 1000) {f1 f2 : Nat} {c1 c2 : Array Value} {p : No → Bool} {q : No → Int} (H : Tells w f1 c1 p) (K : Maps w f2 c2 (fun x => .int .u64 (q x))) :
    Calls Try.prog 117 #[.slice A n c, .func (.func f1) #[] c1, .func (.func f2) #[] c2] w fun e w' => ∃ v, e = .returned v ∧ w'.ownsRow w.heap.size 26 1 v ((l.filter p).map q).length (nums .u64 ((l.filter p).map q)) ∧ Below w.heap.size w w' := by
  have HR := Lib.hid hr
  have HL : Hid (l.length = n) := hr.1
  have HP := Lib.hid H
  have HK := Lib.hid K
  have hcf := H.enters
  have hcg := K.enters
  clear hr H K
  go_enter Try.func117, Try.ntmps117
  go_wp2
  go_loopw [6, 8, 11] (fun v _ i wr => ∃ k : Nat, k ≤ n ∧ i = .int .i64 k ∧ Hid (wr.ownsRow w.heap.size 26 1 v (((l.take k).filter p).map q).length (nums .u64 (((l.take k).filter p).map q))) ∧ Hid (Below w.heap.size w wr)) (fun _ _ i _ => n - (intOf i).toNat)
  case atStart => exact ⟨0, Nat.zero_le _, rfl, World.ownsRow_nil _ _ _ _, Below.refl _ _⟩
  case round =>
    obtain ⟨k, hk, rfl, HO, HB⟩ := hrel
    by_cases hlt : k < n
    · obtain ⟨ad, rfl, x0, x1, x2, x3, x4, x5, x6, x7, x8⟩ := at45 (Kd.C_below HR.out HB.out) k hlt
      have HS := Lib.hid (filter_take (p := p) (l := l) (k := k) (by have := HL.out; omega))
      have hfl := filter_len (p := p) l k
      have D1 := Lib.hid (HB.out.alloc HB.out.size (.cells (No.cells (rd_T45 l k)) 45))
      have B1 : Hid ((wr.alloc (.cells (No.cells (rd_T45 l k)) 45)).heap[wr.heap.size]? = some (.cells (No.cells (rd_T45 l k)) 45)) := heap_alloc_new wr _
      have O1 := Lib.hid (own_move (w1 := wr.alloc (.cells (No.cells (rd_T45 l k)) 45)) HO.out (fun j hj => by simpa using heap_alloc_old wr (.cells (No.cells (rd_T45 l k)) 45) (own_lt HO.out j hj)))
      have HC := Lib.hid (HP.out.tells _ (rd_T45 l k) D1.out)
      obtain ⟨b, hq⟩ : ∃ b, p (rd_T45 l k) = b := ⟨_, rfl⟩
      rw [hq] at HC HS
      simp only [No.val] at HC
      simp only [No.cells] at D1 B1 O1 HC
      clear hq HO
      go_wp2_with fail
      with_reducible refine HC.out.mono ?_
      rintro e w2 ⟨rfl, hb⟩
      have D2 := Lib.hid (D1.out.trans (hb.mono D1.out.size))
      have B2 := Lib.hid (blk_below B1.out hb)
      have O2 := Lib.hid (own_move O1.out (fun j hj => hb.block j (own_lt O1.out j hj)))
      clear hb HC x0 x1 x2 x3 x4 x5 x6 x7 x8 D1 B1 O1 HB
      cases b
      · go_wp2
        go_roundw
        case rel => exact ⟨k + 1, by omega, by go_num, by have h := HS.out; rw [if_neg (by decide), List.append_nil] at h; rw [h]; exact O2.out, D2.out⟩
        case measure => simp [intOf]; omega
      · have HM := HK.out.maps w2 (rd_T45 l k) D2.out
        simp only [No.val] at HM
        have HM2 := Lib.hid HM
        clear HM
        have z0 := blk_cell B2.out 0
        have z1 := blk_cell B2.out 1
        have z2 := blk_cell B2.out 2
        have z3 := blk_cell B2.out 3
        have z4 := blk_cell B2.out 4
        have z5 := blk_cell B2.out 5
        have z6 := blk_cell B2.out 6
        have z7 := blk_cell B2.out 7
        have z8 := blk_cell B2.out 8
        go_wp2_with fail
        with_reducible refine HM2.out.mono ?_
        rintro e w3 ⟨rfl, hb⟩
        have D3 := Lib.hid (D2.out.trans (hb.mono D2.out.size))
        have O3 := Lib.hid (own_move O2.out (fun j hj => hb.block j (own_lt O2.out j hj)))
        have hsz : w.heap.size ≤ w3.heap.size := D3.out.size
        clear hb HM2 D2 O2 z0 z1 z2 z3 z4 z5 z6 z7 z8 B2
        go_wp2_with (at_builtin; refine print_append_cells (w0 := w) w.heap.size (by rfl) (.tmp 18) (.tmp 22) 64 26 (.int .u64 0) 1 8 (by rfl) Try.underlying64 PO.info26 (by rfl) (by decide) (by decide) _ _ _ [.int .u64 (q (rd_T45 l k))] (by rfl) (by rfl) (by rfl) (by intro u hu; rw [List.mem_singleton.1 hu]; simp [Value.oneCell']) O3.out D3.out hsz (by simp only [List.length_map]; omega) ?_; intro v1 w4 hown hbel hgrow hat; have O4 := Lib.hid hown; have D4 := Lib.hid hbel; clear hown hbel hgrow hat O3 D3 hsz)
        go_roundw
        case rel =>
          refine ⟨k + 1, by omega, by go_num, ?_, D4.out⟩
          have h := HS.out
          rw [if_pos trivial] at h
          have h4 := O4.out
          rw [h, List.map_append, List.length_append, nums_append]
          exact h4
        case measure => simp [intOf]; omega
    · obtain rfl : k = n := by omega
      have HO2 : Hid (wr.ownsRow w.heap.size 26 1 u6 ((l.filter p).map q).length (nums .u64 ((l.filter p).map q))) := by
        have h := HO.out
        rw [List.take_of_length_le (by have := HL.out; omega)] at h
        exact h
      clear HO
      go_wp2
      go_ret
      exact ⟨_, rfl, HO2.out, HB.out⟩

set_option maxRecDepth 100000 in
set_option maxHeartbeats 2000000 in
theorem pick151_calls {w : World} {A : Option Addr} {n c : Nat} {l : List No} (hr : Kd.C k45 w A n l) (hc : n ≤ c) (hl : n ≤ 1000) {f1 f2 : Nat} {c1 c2 : Array Value} {p : No → Bool} (H : Tells w f1 c1 p) (K : Maps w f2 c2 No.val) :
    Calls Try.prog 151 #[.slice A n c, .func (.func f1) #[] c1, .func (.func f2) #[] c2] w fun e w' => ∃ v, e = .returned v ∧ w'.ownsRow w.heap.size 45 9 v (l.filter p).length (flat (l.filter p)) ∧ Below w.heap.size w w' := by
  have HR := Lib.hid hr
  have HL : Hid (l.length = n) := hr.1
  have HP := Lib.hid H
  have HK := Lib.hid K
  have hcf := H.enters
  have hcg := K.enters
  clear hr H K
  go_enter Try.func151, Try.ntmps151
  go_wp2
  go_loopw [6, 8, 11] (fun v _ i wr => ∃ k : Nat, k ≤ n ∧ i = .int .i64 k ∧ Hid (wr.ownsRow w.heap.size 45 9 v ((l.take k).filter p).length (flat ((l.take k).filter p))) ∧ Hid (Below w.heap.size w wr)) (fun _ _ i _ => n - (intOf i).toNat)
  case atStart => exact ⟨0, Nat.zero_le _, rfl, World.ownsRow_nil _ _ _ _, Below.refl _ _⟩
  case round =>
    obtain ⟨k, hk, rfl, HO, HB⟩ := hrel
    by_cases hlt : k < n
    · obtain ⟨ad, rfl, x0, x1, x2, x3, x4, x5, x6, x7, x8⟩ := at45 (Kd.C_below HR.out HB.out) k hlt
      have HS := Lib.hid (filter_take (p := p) (l := l) (k := k) (by have := HL.out; omega))
      have hfl := filter_len (p := p) l k
      have D1 := Lib.hid (HB.out.alloc HB.out.size (.cells (No.cells (rd_T45 l k)) 45))
      have B1 : Hid ((wr.alloc (.cells (No.cells (rd_T45 l k)) 45)).heap[wr.heap.size]? = some (.cells (No.cells (rd_T45 l k)) 45)) := heap_alloc_new wr _
      have O1 := Lib.hid (own_move (w1 := wr.alloc (.cells (No.cells (rd_T45 l k)) 45)) HO.out (fun j hj => by simpa using heap_alloc_old wr (.cells (No.cells (rd_T45 l k)) 45) (own_lt HO.out j hj)))
      have HC := Lib.hid (HP.out.tells _ (rd_T45 l k) D1.out)
      obtain ⟨b, hq⟩ : ∃ b, p (rd_T45 l k) = b := ⟨_, rfl⟩
      rw [hq] at HC HS
      simp only [No.val] at HC
      simp only [No.cells] at D1 B1 O1 HC
      clear hq HO
      go_wp2_with fail
      with_reducible refine HC.out.mono ?_
      rintro e w2 ⟨rfl, hb⟩
      have D2 := Lib.hid (D1.out.trans (hb.mono D1.out.size))
      have B2 := Lib.hid (blk_below B1.out hb)
      have O2 := Lib.hid (own_move O1.out (fun j hj => hb.block j (own_lt O1.out j hj)))
      clear hb HC x0 x1 x2 x3 x4 x5 x6 x7 x8 D1 B1 O1 HB
      cases b
      · go_wp2
        go_roundw
        case rel => exact ⟨k + 1, by omega, by go_num, by have h := HS.out; rw [if_neg (by decide), List.append_nil] at h; rw [h]; exact O2.out, D2.out⟩
        case measure => simp [intOf]; omega
      · have HM := HK.out.maps w2 (rd_T45 l k) D2.out
        simp only [No.val] at HM
        have HM2 := Lib.hid HM
        clear HM
        have z0 := blk_cell B2.out 0
        have z1 := blk_cell B2.out 1
        have z2 := blk_cell B2.out 2
        have z3 := blk_cell B2.out 3
        have z4 := blk_cell B2.out 4
        have z5 := blk_cell B2.out 5
        have z6 := blk_cell B2.out 6
        have z7 := blk_cell B2.out 7
        have z8 := blk_cell B2.out 8
        go_wp2_with fail
        with_reducible refine HM2.out.mono ?_
        rintro e w3 ⟨rfl, hb⟩
        have D3 := Lib.hid (D2.out.trans (hb.mono D2.out.size))
        have O3 := Lib.hid (own_move O2.out (fun j hj => hb.block j (own_lt O2.out j hj)))
        have hsz : w.heap.size ≤ w3.heap.size := D3.out.size
        clear hb HM2 D2 O2 z0 z1 z2 z3 z4 z5 z6 z7 z8 B2
        go_wp2_with (at_builtin; refine print_append_cells (w0 := w) w.heap.size (by rfl) (.tmp 18) (.tmp 22) 74 45 _ 9 72 (by rfl) Try.underlying74 PO.info45 (by rfl) (by decide) (by decide) _ _ _ (No.cells (rd_T45 l k)).toList (by rfl) (by rfl) (by rfl) (cells_one _) O3.out D3.out hsz (by omega) ?_; intro v1 w4 hown hbel hgrow hat; have O4 := Lib.hid hown; have D4 := Lib.hid hbel; clear hown hbel hgrow hat O3 D3 hsz)
        go_roundw
        case rel =>
          refine ⟨k + 1, by omega, by go_num, ?_, D4.out⟩
          have h := HS.out
          rw [if_pos trivial] at h
          have h4 := O4.out
          rw [h, List.length_append, flat_append, flat_one]
          exact h4
        case measure => simp [intOf]; omega
    · obtain rfl : k = n := by omega
      have HO2 : Hid (wr.ownsRow w.heap.size 45 9 u6 (l.filter p).length (flat (l.filter p))) := by
        have h := HO.out
        rw [List.take_of_length_le (by have := HL.out; omega)] at h
        exact h
      clear HO
      go_wp2
      go_ret
      exact ⟨_, rfl, HO2.out, HB.out⟩
end Go.Proofs.Ytabdjehnglmlpaa
