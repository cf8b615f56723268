/- MemberMeets: the walk. -/
import Derived.Test.YtabdjehnglmlpaaMw
namespace Go.Proofs.Ytabdjehnglmlpaa
open Go.RowKit Go.Proofs.YtabdjehnglmlpaaW.PrintWords
set_option linter.unusedVariables false
set_option linter.unusedSimpArgs false
open PM (snd_ quo_ near_ reach_ with_ without_ setn seven bit)

/-- The two numbers in memory, and the two rows, as they are in world W. -/
def Four (w : World) (A : Option Addr) (n : Nat) (l : List Int) (A2 : Option Addr) (n2 : Nat) (l2 : List Int) (x y : Int) (W : World) : Prop :=
  CI W A n l ∧ CI W A2 n2 l2 ∧ W.cell? ⟨w.heap.size, 0, none⟩ = some (.int .u64 x) ∧ W.cell? ⟨w.heap.size + 1, 0, none⟩ = some (.int .u64 y) ∧ w.heap.size + 1 < W.heap.size ∧ Below w.heap.size w W
theorem Four.step {w W W' : World} {A A2 : Option Addr} {n n2 : Nat} {l l2 : List Int} {x y : Int} (h : Four w A n l A2 n2 l2 x y W) (hb : Below W.heap.size W W') : Four w A n l A2 n2 l2 x y W' :=
  ⟨Kd.C_below h.1 hb, Kd.C_below h.2.1 hb, (hb.cell (p := ⟨w.heap.size, 0, none⟩) (by have := h.2.2.2.2.1; show w.heap.size < _; omega)).trans h.2.2.1, (hb.cell (p := ⟨w.heap.size + 1, 0, none⟩) h.2.2.2.2.1).trans h.2.2.2.1, Nat.lt_of_lt_of_le h.2.2.2.2.1 hb.size, h.2.2.2.2.2.trans (hb.mono h.2.2.2.2.2.size)⟩
theorem Four.start {w : World} {A A2 : Option Addr} {n n2 : Nat} {l l2 : List Int} {x y : Int} (h1 : CI w A n l) (h2 : CI w A2 n2 l2) :
    Four w A n l A2 n2 l2 x y ((w.alloc (.cells #[.int .u64 x] 26)).alloc (.cells #[.int .u64 y] 26)) := by
  have b := ((Below.refl w.heap.size w).alloc (Nat.le_refl _) (.cells #[.int .u64 x] 26)).alloc (by simp) (.cells #[.int .u64 y] 26)
  have k1 : ((w.alloc (.cells #[.int .u64 x] 26)).alloc (.cells #[.int .u64 y] 26)).heap[w.heap.size]? = some (.cells #[.int .u64 x] 26 (0, 0)) := (Below.heap_alloc _ _ _ (by simp)).trans (by simpa using heap_alloc_new w (.cells #[.int .u64 x] 26))
  have k2 : ((w.alloc (.cells #[.int .u64 x] 26)).alloc (.cells #[.int .u64 y] 26)).heap[w.heap.size + 1]? = some (.cells #[.int .u64 y] 26 (0, 0)) := by
    have := heap_alloc_new (w.alloc (.cells #[.int .u64 x] 26)) (.cells #[.int .u64 y] 26)
    simpa using this
  exact ⟨Kd.C_below h1 b, Kd.C_below h2 b, (blk_cell k1 0).trans rfl, (blk_cell k2 0).trans rfl, by simp, b⟩

theorem Four.a {w : World} {A A2 : Option Addr} {n n2 : Nat} {l l2 : List Int} {x y : Int} {W : World} (h : Four w A n l A2 n2 l2 x y W) : CI W A n l := h.1
theorem Four.b {w : World} {A A2 : Option Addr} {n n2 : Nat} {l l2 : List Int} {x y : Int} {W : World} (h : Four w A n l A2 n2 l2 x y W) : CI W A2 n2 l2 := h.2.1
theorem Four.kx {w : World} {A A2 : Option Addr} {n n2 : Nat} {l l2 : List Int} {x y : Int} {W : World} (h : Four w A n l A2 n2 l2 x y W) : W.cell? ⟨w.heap.size, 0, none⟩ = some (.int .u64 x) := h.2.2.1
theorem Four.ky {w : World} {A A2 : Option Addr} {n n2 : Nat} {l l2 : List Int} {x y : Int} {W : World} (h : Four w A n l A2 n2 l2 x y W) : W.cell? ⟨w.heap.size + 1, 0, none⟩ = some (.int .u64 y) := h.2.2.2.1
theorem Four.bel {w : World} {A A2 : Option Addr} {n n2 : Nat} {l l2 : List Int} {x y : Int} {W : World} (h : Four w A n l A2 n2 l2 x y W) : Below w.heap.size w W := h.2.2.2.2.2

def MeetsPost (w : World) (e : Ending) (w' : World) : Prop := e = .returned (.bool true) ∧ Below w.heap.size w w'

set_option maxRecDepth 100000 in
set_option maxHeartbeats 2000000 in
theorem MemberMeets_walk {w : World} {A : Option Addr} {n c : Nat} {l : List Int} (hr : Kd.C (Kd.int .i64) w A n l) (hc : n ≤ c) (hy : n * 8 ≤ 140737488351232) (hw : ∀ x ∈ l, (Lit.int .i64 x).wf = true)
    {A2 : Option Addr} {n2 c2 : Nat} {l2 : List Int} (hr2 : Kd.C (Kd.int .i64) w A2 n2 l2) (hc2 : n2 ≤ c2) (hy2 : n2 * 8 ≤ 140737488351232) (hw2 : ∀ x ∈ l2, (Lit.int .i64 x).wf = true)
    (x : Int) (hx : (Lit.int .u64 x).wf = true) (y : Int) (hyy : (Lit.int .u64 y).wf = true) :
    Calls Try.prog 8 #[.slice A n c, .slice A2 n2 c2, .int .u64 x, .int .u64 y] w (fun e w' => e = .returned (.bool true) ∧ Below w.heap.size w w') := by
  show Calls Try.prog 8 _ w (MeetsPost w)
  obtain ⟨x0, x1⟩ := u64_wf hx
  obtain ⟨y0, y1⟩ := u64_wf hyy
  have F0 := Lib.hid (Four.start (x := x) (y := y) hr hr2)
  have HLn : Hid (l.length = n) := hr.1
  clear hr hr2 hw hw2 hx hyy
  by_cases h : n ≤ 100 ∧ n2 ≤ 100
  · obtain ⟨h1, h2⟩ := h
    have HL := Lib.hid (Light_calls F0.out.a hc F0.out.b hc2)
    rw [decide_eq_true (show n ≤ 100 ∧ n2 ≤ 100 from ⟨h1, h2⟩)] at HL
    have HM := Lib.hid (fun (hn : near_ l l2 = true) => meets (x := x) (y := y) hn)
    have HS := Lib.hid (fun (hn : near_ l l2 = true) => show snd_ l = true ∧ snd_ l2 = true by unfold PM.near_ at hn; simp only [Bool.and_eq_true] at hn; exact ⟨hn.1, hn.2.1⟩)
    go_enter Try.func8, Try.ntmps8
    go_wp2_with fail
    with_reducible refine HL.out.mono ?_
    rintro e w1 ⟨rfl, hb⟩
    have F1 := Lib.hid (F0.out.step hb); clear hb F0 HL
    go_wp2_with fail
    with_reducible refine (Near_calls F1.out.a hc F1.out.b hc2 (by omega) (by omega)).mono ?_
    rintro e w2 ⟨rfl, hb⟩
    have F2 := Lib.hid (F1.out.step hb); clear hb F1
    revert HM HS
    cases near_ l l2
    · intro HM HS
      go_wp2_with fail
      with_reducible refine (lives29_calls _).mono ?_
      rintro e w8 ⟨rfl, hb⟩
      have F8 := Lib.hid (F2.out.step hb); clear hb
      go_wp2
      go_ret
      exact ⟨rfl, F8.out.bel⟩
    · intro HM HS
      have hs1 : Hid (snd_ l = true) := (HS.out rfl).1
      have hs2 : Hid (snd_ l2 = true) := (HS.out rfl).2
      have HM2 := Lib.hid (HM.out rfl)
      clear HS HM
      go_wp2_with fail
      with_reducible refine (Reached64 F2.out.a hc (by omega) F2.out.kx x0 x1).mono ?_
      rintro e w3 ⟨rfl, hb⟩
      have F3 := Lib.hid (F2.out.step hb); clear hb F2
      rw [hs1.out, Bool.true_and]
      by_cases hq1 : 2 * l.countP (bit x) > l.length
      · rw [decide_eq_true hq1]
        go_wp2_with fail
        with_reducible refine (Reached65 F3.out.b hc2 (by omega) F3.out.ky y0 y1).mono ?_
        rintro e w4 ⟨rfl, hb⟩
        have F4 := Lib.hid (F3.out.step hb); clear hb F3
        rw [hs2.out, Bool.true_and]
        by_cases hq2 : 2 * l2.countP (bit y) > l2.length
        · rw [decide_eq_true hq2]
          have HM3 := Lib.hid (HM2.out hq1 hq2)
          clear hq1 hq2 HM2
          obtain ⟨r0, r1⟩ := bits_and_range x0 x1 y0 y1
          have HA := Lib.hid (fun i => and_shr x y i x0 x1 y0 y1)
          go_wp2_with fail
          go_loopw [10, 35] (fun _ i wr => ∃ k : Nat, i = .int .i64 k ∧ k ≤ n ∧ Hid (Four w A n l A2 n2 l2 x y wr ∧ ∀ m, m ∈ l.take k → ¬ (m ∈ l2 ∧ bit x m = true ∧ bit y m = true))) (fun _ i _ => n - (intOf i).toNat)
          case atStart => exact ⟨0, rfl, Nat.zero_le _, F4.out, fun m hm => by simp at hm⟩
          case round =>
            obtain ⟨k, rfl, hk, hf⟩ := hrel
            by_cases hlt : k < n
            · obtain ⟨ax, rfl, hx⟩ := Kd.at_int hf.out.1.a k (by omega) (by omega)
              rw [Int.toNat_natCast] at hx
              obtain ⟨m, hm, hm7⟩ := snd_mem hs1.out (rd l k) (rd_mem l k (by have := HLn.out; omega))
              have htk := take_rd l k (by have := HLn.out; omega)
              rw [hm] at hx htk
              have HT := Lib.hid htk
              have hcx := hf.out.1.kx
              have hcy := hf.out.1.ky
              have hmi0 : (0 : Int) ≤ (m : Int) := by omega
              have hmi7 : (m : Int) < 7 := by omega
              have HH := Lib.hid (Has_calls (v := (m : Int)) hf.out.1.b hc2 (by omega))
              have hA := HA.out m
              clear hm htk
              by_cases hin : (m : Int) ∈ l2
              · rw [decide_eq_true hin] at HH
                by_cases hbb : (bit x m && bit y m) = true
                · rw [hbb] at hA
                  have HA2 := Lib.hid hA
                  clear hcx hcy hA
                  go_wp2_with fail
                  with_reducible refine HH.out.mono ?_
                  rintro e w5 ⟨rfl, hb⟩
                  have f5 := hf.out.1.step hb
                  have hcx := f5.kx
                  have hcy := f5.ky
                  have F5 := Lib.hid f5
                  have hA := HA2.out
                  clear hb f5
                  go_wp2_with fail
                  with_reducible refine (lives29_calls _).mono ?_
                  rintro e w8 ⟨rfl, hb⟩
                  have F8 := Lib.hid (F5.out.step hb); clear hb hcx hcy hA
                  go_wp2
                  go_ret
                  exact ⟨rfl, F8.out.bel⟩
                · have hbf : (bit x m && bit y m) = false := by simpa using hbb
                  rw [hbf] at hA
                  have HA2 := Lib.hid hA
                  have HBB := Lib.hid hbb
                  clear hcx hcy hA hbb hbf
                  go_wp2_with fail
                  with_reducible refine HH.out.mono ?_
                  rintro e w5 ⟨rfl, hb⟩
                  have f5 := hf.out.1.step hb
                  have hcx := f5.kx
                  have hcy := f5.ky
                  have F5 := Lib.hid f5
                  have hA := HA2.out
                  clear hb f5
                  go_wp2
                  go_roundw
                  case rel =>
                    refine ⟨k + 1, by go_num, by omega, F5.out, fun j hj => ?_⟩
                    rw [HT.out] at hj
                    rcases List.mem_append.1 hj with hj | hj
                    · exact hf.out.2 j hj
                    · rw [List.mem_singleton.1 hj]
                      rintro ⟨_, ha, hb⟩
                      exact HBB.out (by rw [ha, hb]; rfl)
                  case measure => simp [intOf]; omega
              · rw [decide_eq_false hin] at HH
                have HI := Lib.hid hin
                clear hcx hcy hA hin
                go_wp2_with fail
                with_reducible refine HH.out.mono ?_
                rintro e w5 ⟨rfl, hb⟩
                have F5 := Lib.hid (hf.out.1.step hb)
                clear hb
                go_wp2
                go_roundw
                case rel =>
                  refine ⟨k + 1, by go_num, by omega, F5.out, fun j hj => ?_⟩
                  rw [HT.out] at hj
                  rcases List.mem_append.1 hj with hj | hj
                  · exact hf.out.2 j hj
                  · rw [List.mem_singleton.1 hj]
                    rintro ⟨ha, _⟩
                    exact HI.out ha
                case measure => simp [intOf]; omega
            · exfalso
              obtain ⟨j, j1, j2, j3, j4⟩ := HM3.out
              refine hf.out.2 j ?_ ⟨j2, j3, j4⟩
              rw [List.take_of_length_le (by have := HLn.out; omega)]
              exact j1
        · rw [decide_eq_false hq2]
          go_wp2_with fail
          with_reducible refine (lives29_calls _).mono ?_
          rintro e w8 ⟨rfl, hb⟩
          have F8 := Lib.hid (F4.out.step hb); clear hb
          go_wp2
          go_ret
          exact ⟨rfl, F8.out.bel⟩
      · rw [decide_eq_false hq1]
        go_wp2_with fail
        with_reducible refine (lives29_calls _).mono ?_
        rintro e w8 ⟨rfl, hb⟩
        have F8 := Lib.hid (F3.out.step hb); clear hb
        go_wp2
        go_ret
        exact ⟨rfl, F8.out.bel⟩
  · have HL := Lib.hid (Light_calls F0.out.a hc F0.out.b hc2)
    rw [decide_eq_false h] at HL
    go_enter Try.func8, Try.ntmps8
    go_wp2_with fail
    with_reducible refine HL.out.mono ?_
    rintro e w1 ⟨rfl, hb⟩
    have F1 := Lib.hid (F0.out.step hb); clear hb
    go_wp2_with fail
    with_reducible refine (lives29_calls _).mono ?_
    rintro e w8 ⟨rfl, hb⟩
    have F8 := Lib.hid (F1.out.step hb); clear hb
    go_wp2
    go_ret
    exact ⟨rfl, F8.out.bel⟩

end Go.Proofs.Ytabdjehnglmlpaa
