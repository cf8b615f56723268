/- outbox: Waiting, Due; the closures of Tick and Due. -/
import Derived.Test.YtabdjehnglmlpaaOp
namespace Go.Proofs.Ytabdjehnglmlpaa
open Go.RowKit Go.Proofs.YtabdjehnglmlpaaW.PrintWords
open PO (S45 z45 k45 rd_T45)
set_option linter.unusedVariables false
set_option linter.unusedSimpArgs false

/-- A row is as long as what it holds. -/
theorem own64_len {w : World} {base m c n size : Nat} {e : TypeId} {A : Option Addr} {xs : List Value} (h : w.ownsRow base e size (.slice A m c) n xs) : m = n := by
  rcases h.2 with ⟨h1, h2⟩ | ⟨g, cap, cur, h1, -⟩
  · injection h1 with _ h1 _; omega
  · injection h1 with _ h1 _
theorem waits_tells (w : World) : Tells w 115 #[] waitsB := ⟨fun args W => by go_simp, fun W x _ => by simpa using waits_calls W x⟩
theorem id_maps (w : World) : Maps w 118 #[] (fun x => .int .u64 x.f0) := ⟨fun args W => by go_simp, fun W x _ => by simpa using id_calls W x⟩
theorem same_maps (w : World) : Maps w 153 #[] No.val := ⟨fun args W => by go_simp, fun W x _ => by simpa using same_calls W x⟩

set_option maxRecDepth 100000 in
set_option maxHeartbeats 1000000 in
theorem spent_calls {w : World} {ad : Addr} {now : Int} (n : No) (h : w.cell? ad = some (.int .i64 now)) :
    Calls Try.prog 145 #[No.val n, .pointer (some ad)] w fun e w' => e = .returned (.bool (spentB now n)) ∧ Below w.heap.size w w' := by
  have hlt := World.block_lt_of_cell? w _ h
  have D1 := Lib.hid ((Below.refl w.heap.size w).alloc (Nat.le_refl _) (.cells (No.cells n) 45))
  have B1 : Hid ((w.alloc (.cells (No.cells n) 45)).heap[w.heap.size]? = some (.cells (No.cells n) 45)) := heap_alloc_new w _
  have N1 := Lib.hid ((D1.out.cell hlt).trans h)
  have HW := Lib.hid (fun W => waits_calls W n)
  obtain ⟨b, hb⟩ : ∃ b, waitsB n = b := ⟨_, rfl⟩
  obtain ⟨d, hd⟩ : ∃ d, decide (n.f6 ≤ n.f5) = d := ⟨_, rfl⟩
  obtain ⟨f, hf⟩ : ∃ f, decide (n.f8 ≤ now) = f := ⟨_, rfl⟩
  have HE : Hid (spentB now n = (b && (d && f))) := by unfold spentB; rw [hb, hd, hf]; exact rfl
  rw [HE.out]
  rw [hb] at HW
  simp only [No.val] at HW
  simp only [No.val]
  simp only [No.cells] at D1 B1 N1
  clear h hb HE
  have z0 := blk_cell B1.out 0
  have z1 := blk_cell B1.out 1
  have z2 := blk_cell B1.out 2
  have z3 := blk_cell B1.out 3
  have z4 := blk_cell B1.out 4
  have z5 := blk_cell B1.out 5
  have z6 := blk_cell B1.out 6
  have z7 := blk_cell B1.out 7
  have z8 := blk_cell B1.out 8
  revert HW hd hf
  cases b
  · intro HW hd hf
    go_enter Try.func145, Try.ntmps145
    go_wp2_with fail
    with_reducible refine (HW.out _).mono ?_
    rintro e w2 ⟨rfl, hb⟩
    have D2 := Lib.hid (D1.out.trans (hb.mono D1.out.size))
    clear hb z0 z1 z2 z3 z4 z5 z6 z7 z8
    go_wp2
    go_ret
    exact ⟨rfl, D2.out⟩
  · cases d
    · intro HW hd hf
      go_enter Try.func145, Try.ntmps145
      go_wp2_with fail
      with_reducible refine (HW.out _).mono ?_
      rintro e w2 ⟨rfl, hb⟩
      have D2 := Lib.hid (D1.out.trans (hb.mono D1.out.size))
      have B2 := Lib.hid (blk_below B1.out hb)
      clear hb z0 z1 z2 z3 z4 z5 z6 z7 z8
      have z0 := blk_cell B2.out 0
      have z1 := blk_cell B2.out 1
      have z2 := blk_cell B2.out 2
      have z3 := blk_cell B2.out 3
      have z4 := blk_cell B2.out 4
      have z5 := blk_cell B2.out 5
      have z6 := blk_cell B2.out 6
      have z7 := blk_cell B2.out 7
      have z8 := blk_cell B2.out 8
      go_wp2
      go_ret
      exact ⟨rfl, D2.out⟩
    · intro HW hd hf
      go_enter Try.func145, Try.ntmps145
      go_wp2_with fail
      with_reducible refine (HW.out _).mono ?_
      rintro e w2 ⟨rfl, hb⟩
      have D2 := Lib.hid (D1.out.trans (hb.mono D1.out.size))
      have B2 := Lib.hid (blk_below B1.out hb)
      have n2 := (hb.cell (World.block_lt_of_cell? _ _ N1.out)).trans N1.out
      clear hb z0 z1 z2 z3 z4 z5 z6 z7 z8
      have z0 := blk_cell B2.out 0
      have z1 := blk_cell B2.out 1
      have z2 := blk_cell B2.out 2
      have z3 := blk_cell B2.out 3
      have z4 := blk_cell B2.out 4
      have z5 := blk_cell B2.out 5
      have z6 := blk_cell B2.out 6
      have z7 := blk_cell B2.out 7
      have z8 := blk_cell B2.out 8
      go_wp2
      go_ret
      exact ⟨by rw [← hf]; first | rfl | simp, D2.out⟩
theorem spent_tells {w : World} {ad : Addr} {now : Int} (h : w.cell? ad = some (.int .i64 now)) : Tells w 145 #[.pointer (some ad)] (spentB now) :=
  ⟨fun args W => by go_simp, fun W x hb => spent_calls x ((hb.cell (World.block_lt_of_cell? w _ h)).trans h)⟩

set_option maxRecDepth 100000 in
set_option maxHeartbeats 1000000 in
theorem due_calls {w : World} {ad : Addr} {now : Int} (n : No) (h : w.cell? ad = some (.int .i64 now)) :
    Calls Try.prog 152 #[No.val n, .pointer (some ad)] w fun e w' => e = .returned (.bool (dueB now n)) ∧ Below w.heap.size w w' := by
  have hlt := World.block_lt_of_cell? w _ h
  have D1 := Lib.hid ((Below.refl w.heap.size w).alloc (Nat.le_refl _) (.cells (No.cells n) 45))
  have B1 : Hid ((w.alloc (.cells (No.cells n) 45)).heap[w.heap.size]? = some (.cells (No.cells n) 45)) := heap_alloc_new w _
  have N1 := Lib.hid ((D1.out.cell hlt).trans h)
  have HW := Lib.hid (fun W => waits_calls W n)
  obtain ⟨b, hb⟩ : ∃ b, waitsB n = b := ⟨_, rfl⟩
  obtain ⟨d, hd⟩ : ∃ d, decide (n.f5 < n.f6) = d := ⟨_, rfl⟩
  obtain ⟨f, hf⟩ : ∃ f, decide (n.f8 ≤ now) = f := ⟨_, rfl⟩
  have HE : Hid (dueB now n = (b && (d && f))) := by unfold dueB; rw [hb, hd, hf]; exact rfl
  rw [HE.out]
  rw [hb] at HW
  simp only [No.val] at HW
  simp only [No.val]
  simp only [No.cells] at D1 B1 N1
  clear h hb HE
  have z0 := blk_cell B1.out 0
  have z1 := blk_cell B1.out 1
  have z2 := blk_cell B1.out 2
  have z3 := blk_cell B1.out 3
  have z4 := blk_cell B1.out 4
  have z5 := blk_cell B1.out 5
  have z6 := blk_cell B1.out 6
  have z7 := blk_cell B1.out 7
  have z8 := blk_cell B1.out 8
  revert HW hd hf
  cases b
  · intro HW hd hf
    go_enter Try.func152, Try.ntmps152
    go_wp2_with fail
    with_reducible refine (HW.out _).mono ?_
    rintro e w2 ⟨rfl, hb⟩
    have D2 := Lib.hid (D1.out.trans (hb.mono D1.out.size))
    clear hb z0 z1 z2 z3 z4 z5 z6 z7 z8
    go_wp2
    go_ret
    exact ⟨rfl, D2.out⟩
  · cases d
    · intro HW hd hf
      go_enter Try.func152, Try.ntmps152
      go_wp2_with fail
      with_reducible refine (HW.out _).mono ?_
      rintro e w2 ⟨rfl, hb⟩
      have D2 := Lib.hid (D1.out.trans (hb.mono D1.out.size))
      have B2 := Lib.hid (blk_below B1.out hb)
      clear hb z0 z1 z2 z3 z4 z5 z6 z7 z8
      have z0 := blk_cell B2.out 0
      have z1 := blk_cell B2.out 1
      have z2 := blk_cell B2.out 2
      have z3 := blk_cell B2.out 3
      have z4 := blk_cell B2.out 4
      have z5 := blk_cell B2.out 5
      have z6 := blk_cell B2.out 6
      have z7 := blk_cell B2.out 7
      have z8 := blk_cell B2.out 8
      go_wp2
      go_ret
      exact ⟨rfl, D2.out⟩
    · intro HW hd hf
      go_enter Try.func152, Try.ntmps152
      go_wp2_with fail
      with_reducible refine (HW.out _).mono ?_
      rintro e w2 ⟨rfl, hb⟩
      have D2 := Lib.hid (D1.out.trans (hb.mono D1.out.size))
      have B2 := Lib.hid (blk_below B1.out hb)
      have n2 := (hb.cell (World.block_lt_of_cell? _ _ N1.out)).trans N1.out
      clear hb z0 z1 z2 z3 z4 z5 z6 z7 z8
      have z0 := blk_cell B2.out 0
      have z1 := blk_cell B2.out 1
      have z2 := blk_cell B2.out 2
      have z3 := blk_cell B2.out 3
      have z4 := blk_cell B2.out 4
      have z5 := blk_cell B2.out 5
      have z6 := blk_cell B2.out 6
      have z7 := blk_cell B2.out 7
      have z8 := blk_cell B2.out 8
      go_wp2
      go_ret
      exact ⟨by rw [← hf]; first | rfl | simp, D2.out⟩
theorem due_tells {w : World} {ad : Addr} {now : Int} (h : w.cell? ad = some (.int .i64 now)) : Tells w 152 #[.pointer (some ad)] (dueB now) :=
  ⟨fun args W => by go_simp, fun W x hb => due_calls x ((hb.cell (World.block_lt_of_cell? w _ h)).trans h)⟩

section
variable {B : Nat} {w : World} {g : Nat} {v : Value} {s : Bs}
set_option maxRecDepth 100000 in
set_option maxHeartbeats 1000000 in
theorem Waiting_calls (h : Bx B w g v s) : Calls Try.prog 42 #[.pointer (some ⟨g, 0, none⟩)] w fun e w' => e = .returned (.int .i64 (countW s)) ∧ Below w.heap.size w w' := by
  obtain ⟨A, c, rfl, hc, hC, -⟩ := h.row.reads
  have HB := Lib.hid h
  have hfew := h.snd.few
  have HI := Lib.hid (pick117_calls hC hc (by omega) (waits_tells w) (id_maps w))
  have hle : ((s.2.filter waitsB).map (fun x => x.f0)).length ≤ 128 := by have := List.length_filter_le waitsB s.2; simp only [List.length_map]; omega
  have HE : Hid (((s.2.filter waitsB).map (fun x => x.f0)).length = countW s) := by
    unfold countW
    rw [List.length_map, List.countP_eq_length_filter]; exact rfl
  have x2 := HB.out.cell 2
  clear h hC
  go_enter Try.func42, Try.ntmps42
  go_wp2_with fail
  with_reducible refine (none_bx HB.out).mono ?_
  rintro e w1 ⟨rfl, rfl⟩
  go_wp2_with fail
  with_reducible refine HI.out.mono ?_
  rintro e w2 ⟨v1, rfl, hown, hb⟩
  obtain ⟨A1, m1, c1, rfl⟩ := own_form hown
  obtain rfl := (own64_len hown)
  have HB2 := Lib.hid hb
  clear hb hown
  rw [HE.out]
  go_wp2
  go_ret
  exact ⟨rfl, HB2.out⟩

set_option maxRecDepth 100000 in
set_option maxHeartbeats 1000000 in
theorem Due_calls (h : Bx B w g v s) (now : Int) : Calls Try.prog 97 #[.pointer (some ⟨g, 0, none⟩), .int .i64 now] w fun e w' => ∃ v1, e = .returned v1 ∧ w'.ownsRow w.heap.size 45 9 v1 (dueS s now).length (flat (dueS s now)) ∧ Below w.heap.size w w' := by
  obtain ⟨A, c, rfl, hc, hC, -⟩ := h.row.reads
  have hfew := h.snd.few
  have D0 := Lib.hid ((Below.refl w.heap.size w).alloc (Nat.le_refl _) (.cells #[.int .i64 now] 2))
  have H0 := Lib.hid (h.below D0.out)
  have hid : (w.alloc (.cells #[.int .i64 now] 2)).cell? ⟨w.heap.size, 0, none⟩ = some (.int .i64 now) := (blk_cell (heap_alloc_new w (.cells #[.int .i64 now] 2)) 0).trans rfl
  have HI := Lib.hid (pick151_calls (Kd.C_below hC D0.out) hc (by omega) (due_tells hid) (same_maps _))
  have x2 := H0.out.cell 2
  have HS := Lib.hid (show (w.alloc (.cells #[.int .i64 now] 2)).heap.size = w.heap.size + 1 by simp)
  clear h hC hid
  rw [HS.out] at HI
  go_enter Try.func97, Try.ntmps97
  go_wp2_with fail
  with_reducible refine (none_bx H0.out).mono ?_
  rintro e w1 ⟨rfl, rfl⟩
  go_wp2_with fail
  with_reducible refine HI.out.mono ?_
  rintro e w2 ⟨v1, rfl, hown, hb⟩
  have O2 := Lib.hid (own_weaken hown (Nat.le_succ _))
  have D2 := Lib.hid (D0.out.trans (hb.mono (Nat.le_succ _)))
  clear hb hown
  go_wp2
  go_ret
  exact ⟨_, rfl, O2.out, D2.out⟩
end
end Go.Proofs.Ytabdjehnglmlpaa
