/- outbox: Put, New; the chapter's example. -/
import Derived.Test.YtabdjehnglmlpaaOu
namespace Go.Proofs.Ytabdjehnglmlpaa
open Go.RowKit Go.Proofs.YtabdjehnglmlpaaW.PrintWords
open PO (S45 z45 k45 rd_T45)
set_option linter.unusedVariables false
set_option linter.unusedSimpArgs false

section
variable {B : Nat} {w : World} {g : Nat} {v : Value} {s : Bs}
theorem Put_calls (h : Bx B w g v s) (n : No) (now : Int) :
    Calls Try.prog 37 #[.pointer (some ⟨g, 0, none⟩), No.val n, .int .i64 now] w fun e w' => ∃ v', e = .returned (.tuple #[.int .u64 (putS s n now).2.1, .int .i64 (putS s n now).2.2]) ∧ BStep B w w' g v v' (putS s n now).1 := by
  have hs := h.snd.putS h.nn n now
  by_cases h1 : instO now = false ∨ fitsB n = false
  · have e : putS s n now = (s, (0, 2)) := if_pos h1
    rw [e]
    cases hi : instO now
    · exact Put_instant h n now hi (fun w' hw => ⟨v, rfl, hw⟩)
    · exact Put_unfit h n now hi (h1.resolve_left (by rw [hi]; decide)) (fun w' hw => ⟨v, rfl, hw⟩)
  · have hi : instO now = true := by cases h2 : instO now; · exact absurd (.inl h2) h1
                                     · rfl
    have hf : fitsB n = true := by cases h2 : fitsB n; · exact absurd (.inr h2) h1
                                   · rfl
    by_cases h2 : 1152921504606846976 ≤ s.1
    · have e : putS s n now = (s, (0, 10)) := by unfold putS; rw [if_neg h1, if_pos h2]
      rw [e]
      exact Put_big h n now hi hf h2 (fun w' hw => ⟨v, rfl, hw⟩)
    · by_cases h3 : 128 ≤ s.2.length ∧ place (fun n => !waitsB n) s.2 = s.2.length
      · have e : putS s n now = (s, (0, 30)) := by unfold putS; rw [if_neg h1, if_neg h2, if_pos h3]
        rw [e]
        exact Put_full h n now hi hf (by omega) h3.1 h3.2 (fun w' hw => ⟨v, rfl, hw⟩)
      · have e : putS s n now = ((s.1 + 1, roomed s.2 ++ [asNew n (s.1 + 1) now]), (s.1 + 1, 0)) := by unfold putS; rw [if_neg h1, if_neg h2, if_neg h3]
        rw [e] at hs ⊢
        exact Put_yes h n now hi hf (by omega) h3 hs (fun v' w' hw => ⟨v', rfl, hw⟩)
end
set_option maxHeartbeats 1000000 in
theorem New_calls (w : World) : Calls Try.prog 36 #[] w fun e w' => e = .returned (.pointer (some ⟨w.heap.size, 0, none⟩)) ∧ Bx w.heap.size w' w.heap.size (.slice none 0 0) (0, []) ∧ Below w.heap.size w w' := by
  have D0 := Lib.hid ((Below.refl w.heap.size w).alloc (Nat.le_refl _) (.cells #[.bool true, .int .u64 0, .slice none 0 0] 133))
  have HX : Hid (Bx w.heap.size (w.alloc (.cells #[.bool true, .int .u64 0, .slice none 0 0] 133)) w.heap.size (.slice none 0 0) (0, [])) :=
    ⟨heap_alloc_new w _, Nat.le_refl _, Semi.nil _ _, ⟨by decide, by decide, (fun n hn => nomatch hn), List.Pairwise.nil⟩, by decide⟩
  go_enter Try.func36, Try.ntmps36
  go_wp2
  go_ret
  exact ⟨rfl, HX.out, D0.out⟩
theorem own26 {w : World} {base n c m : Nat} {A : Option Addr} {fs : List Int} (h : w.ownsRow base 26 1 (.slice A n c) m (nums .u64 fs)) (hm : m = fs.length) : Kd.C (Kd.int .u64) w A n fs := by
  subst hm
  obtain ⟨A', c', e, hr⟩ := own_reads h
  injection e with e1 e2 e3
  subst e1 e2 e3
  exact Kd.C_of_reads (d := (0 : Int)) hr

def n0 : No := ⟨0, 0, 0, 0, 0, 0, 1, 5, 0⟩
def n1 : No := ⟨1, 0, 0, 0, 1, 0, 1, 5, 0⟩
def n2 : No := ⟨1, 0, 0, 0, 1, 1, 1, 10, 5⟩
def n3 : No := ⟨1, 0, 0, 0, 3, 1, 1, 10, 5⟩
theorem val0 : No.val n0 = .agg #[.int .u64 0, .int .u64 0, .int .i64 0, .int .i64 0, .int .i64 0, .int .i64 0, .int .i64 1, .int .i64 5, .int .i64 0] := rfl
theorem val1 : No.val n1 = .agg #[.int .u64 1, .int .u64 0, .int .i64 0, .int .i64 0, .int .i64 1, .int .i64 0, .int .i64 1, .int .i64 5, .int .i64 0] := rfl
theorem val2 : No.val n2 = .agg #[.int .u64 1, .int .u64 0, .int .i64 0, .int .i64 0, .int .i64 1, .int .i64 1, .int .i64 1, .int .i64 10, .int .i64 5] := rfl
theorem val3 : No.val n3 = .agg #[.int .u64 1, .int .u64 0, .int .i64 0, .int .i64 0, .int .i64 3, .int .i64 1, .int .i64 1, .int .i64 10, .int .i64 5] := rfl
theorem lv1 : putS (0, []) n0 0 = ((1, [n1]), (1, 0)) := by decide
theorem lv2 : tryS (1, [n1]) 1 0 = ((1, [n2]), (n2, 0)) := by decide
theorem lv3 : tickS (1, [n2]) 4 = ((1, [n2]), []) := by decide
theorem lv4 : tickS (1, [n2]) 5 = ((1, [n3]), [1]) := by decide
theorem lv5 : getS (1, [n3]) 1 = (n3, true) := by decide

set_option maxRecDepth 100000 in
set_option maxHeartbeats 1000000 in
theorem lives17_calls (w : World) : Calls Try.prog 38 #[] w fun e w' => e = .returned (.bool true) ∧ Below w.heap.size w w' := by
  go_enter Try.func38, Try.ntmps38
  go_wp2_with fail
  with_reducible refine (New_calls w).mono ?_
  rintro e w1 ⟨rfl, hx, hb⟩
  have D1 := Lib.hid hb
  have HP := Put_calls hx n0 0
  rw [lv1] at HP
  rw [val0] at HP
  have HPP := Lib.hid HP
  have HX1 := Lib.hid hx
  clear hb hx HP
  go_wp2_with fail
  with_reducible refine HPP.out.mono ?_
  rintro e w2 ⟨v2, rfl, hs⟩
  have D2 := Lib.hid (D1.out.trans (BStep.base HX1.out hs))
  have X2 := Lib.hid hs.bx
  have HT := Try_calls hs.bx 1 0 (by decide)
  rw [lv2] at HT
  rw [val2] at HT
  have HTT := Lib.hid HT
  clear hs HT HPP HX1
  go_wp2_with fail
  with_reducible refine HTT.out.mono ?_
  rintro e w3 ⟨rfl, hs⟩
  have hs3 := hs.below ((Below.refl _ w3).alloc (Nat.le_refl _) (.cells #[.int .u64 1, .int .u64 0, .int .i64 0, .int .i64 0, .int .i64 1, .int .i64 1, .int .i64 1, .int .i64 10, .int .i64 5] 45))
  have D3 := Lib.hid (D2.out.trans (BStep.base X2.out hs3))
  have X3 := Lib.hid hs3.bx
  have K3 : Hid ((w3.alloc (.cells #[.int .u64 1, .int .u64 0, .int .i64 0, .int .i64 0, .int .i64 1, .int .i64 1, .int .i64 1, .int .i64 10, .int .i64 5] 45)).heap[w3.heap.size]? = some (.cells #[.int .u64 1, .int .u64 0, .int .i64 0, .int .i64 0, .int .i64 1, .int .i64 1, .int .i64 1, .int .i64 10, .int .i64 5] 45)) := heap_alloc_new w3 _
  have hgl : w.heap.size < w3.heap.size := hs.bx.lt
  have hvl : Hid (∀ k, v2.ownBlock = some k → k < w3.heap.size) := fun k hk => (hs.bx.row.base_lt k hk).2
  have HT1 := Lib.hid (Tick_calls X3.out 4)
  rw [lv3] at HT1
  clear hs hs3 HTT X2 D2
  go_wp2_with fail
  with_reducible refine HT1.out.mono ?_
  rintro e w4 ⟨r4, rfl, ho4, hs⟩
  obtain ⟨A4, m4, c4, rfl⟩ := own_form ho4
  obtain rfl : m4 = 0 := own64_len ho4
  have K4 := Lib.hid (hs.mod.blk K3.out (by rintro (e | e); · omega
                                            · have := hvl.out _ e; omega))
  have D4 := Lib.hid (D3.out.trans (BStep.base X3.out hs))
  have X4 := Lib.hid hs.bx
  have HT2 := Lib.hid (Tick_calls X4.out 5)
  rw [lv4] at HT2
  clear hs HT1 X3 D3 K3 ho4
  go_wp2_with fail
  with_reducible refine HT2.out.mono ?_
  rintro e w5 ⟨r5, rfl, ho5, hs⟩
  obtain ⟨A5, m5, c5, rfl⟩ := own_form ho5
  obtain rfl : m5 = 1 := own64_len ho5
  have K5 := Lib.hid (hs.mod.blk K4.out (by rintro (e | e); · omega
                                            · have := hvl.out _ e; omega))
  have C5 := Lib.hid (own26 ho5 rfl)
  have D5 := Lib.hid (D4.out.trans (BStep.base X4.out hs))
  have HG := Get_calls hs.bx 1
  rw [lv5] at HG
  rw [val3] at HG
  have HGG := Lib.hid HG
  clear hs HT2 X4 D4 K4 ho5 HG
  go_wp2_with fail
  with_reducible refine HGG.out.mono ?_
  rintro e w6 ⟨rfl, hb⟩
  have hb6 := hb.alloc hb.size (.cells #[.int .u64 1, .int .u64 0, .int .i64 0, .int .i64 0, .int .i64 3, .int .i64 1, .int .i64 1, .int .i64 10, .int .i64 5] 45)
  have D6 := Lib.hid (D5.out.trans (hb6.mono D5.out.size))
  have K6 := Lib.hid (blk_below K5.out hb6)
  obtain ⟨ax, rfl, hx⟩ := Kd.at_int (Kd.C_below C5.out hb6) 0 (by decide) (by decide)
  have x8 := blk_cell K6.out 8
  have y4 := blk_cell (heap_alloc_new w6 (.cells #[.int .u64 1, .int .u64 0, .int .i64 0, .int .i64 0, .int .i64 3, .int .i64 1, .int .i64 1, .int .i64 10, .int .i64 5] 45)) 4
  clear hb hb6 HGG
  have hx2 : (w6.alloc (.cells #[.int .u64 1, .int .u64 0, .int .i64 0, .int .i64 0, .int .i64 3, .int .i64 1, .int .i64 1, .int .i64 10, .int .i64 5] 45)).cell? ax = some (.int .u64 1) := by
    have h := hx
    rw [show ax.add (0 : Int).toNat = ax from Addr.add_zero' ax] at h
    exact h
  clear hx
  go_wp2
  go_ret
  exact ⟨rfl, D6.out⟩
end Go.Proofs.Ytabdjehnglmlpaa
