/- One text out of Pe, Pf, Pk, Pl, Pn, Po. -/
import Derived.Test.YtabdjehnglmlpaaXa
import Derived.Test.YtabdjehnglmlpaaTa
import Derived.Test.YtabdjehnglmlpaaKh
import Derived.Deep.RegionWith
import Derived.Deep.DeepCutAuto
import Derived.Test.YtabdjehnglmlpaaXg
section
/- What is written of a ticket, and of a reply. -/
namespace Go.Proofs.Ytabdjehnglmlpaa
open Go.RowKit Go.Proofs.YtabdjehnglmlpaaW.PrintWords
set_option linter.unusedVariables false
set_option linter.unusedSimpArgs false

def tkNums (t : Tk) : List Int := [t.id, t.contract, t.state, t.level, t.gen, t.frm, t.left, t.due, t.told]
def tkEnc (t : Tk) : List Int := encNs (tkNums t)
def rpEnc (r : Rp) : List Int := encN r.code 0 ++ (encI r.time ++ (encF (!tkNone r.tk) ++ ((if tkNone r.tk then [] else tkEnc r.tk) ++ (encN r.fired.length 0 ++ (encNs r.fired ++ encNs [r.notice, r.dead])))))

theorem tkSound_pos {t : Tk} (h : tkSound t = true) (ho : t.ok) : 0 ≤ t.contract ∧ 0 ≤ t.state ∧ 0 ≤ t.level ∧ 0 ≤ t.gen ∧ 0 ≤ t.frm ∧ 0 ≤ t.left ∧ 0 ≤ t.due ∧ 0 ≤ t.told ∧ t.contract ≤ 15 ∧ t.state ≤ 4 ∧ t.level ≤ 5 ∧ t.gen ≤ 1152921504606846976 ∧ t.frm ≤ 1125899906842624 ∧ t.left ≤ 1125899906842624 ∧ t.due ≤ 1125899906842624 ∧ t.told ≤ 2147483648 := by
  have h := of_decide_eq_true h
  obtain ⟨-, -, -, -, ⟨g0, -⟩, -⟩ := ho
  obtain ⟨h1, h2, h3, h4, h5, h6, h7, h8⟩ := h
  rcases h8 with ⟨a, b, c, d, e, f, g⟩ | ⟨a, b, c, d, e, f, g⟩ | ⟨a | a, b, c, d, e⟩ <;> refine ⟨?_, ?_, ?_, ?_, ?_, ?_, ?_, ?_, ?_, ?_, ?_, ?_, ?_, ?_, ?_, ?_⟩ <;> omega
theorem tkNums_u64 {t : Tk} (h : tkSound t = true) (ho : t.ok) : U64 (tkNums t) := by
  obtain ⟨p1, p2, p3, p4, p5, p6, p7, p8, q1, q2, q3, q4, q5, q6, q7, q8⟩ := tkSound_pos h ho
  obtain ⟨⟨i0, i1⟩, -⟩ := ho
  intro x hx
  simp only [tkNums, List.mem_cons, List.not_mem_nil, or_false] at hx
  rcases hx with rfl | rfl | rfl | rfl | rfl | rfl | rfl | rfl | rfl <;> constructor <;> omega

set_option maxRecDepth 100000 in
set_option maxHeartbeats 1000000 in
theorem tput_calls {B : Nat} {w : World} {g : Nat} {v : Value} {xs : List Int} (h : Wtr B w g v xs) (t : Tk) (ho : t.ok) (hs : tkSound t = true) (hl : xs.length ≤ 10000) :
    Calls Try.prog 154 #[.pointer (some ⟨g, 0, none⟩), t.val] w fun e w' => e = .returned (.tuple #[]) ∧ ∃ v', WStep B w w' g v v' (xs ++ tkEnc t) := by
  obtain ⟨p1, p2, p3, p4, p5, p6, p7, p8, q1, q2, q3, q4, q5, q6, q7, q8⟩ := tkSound_pos hs ho
  have hu := Lib.hid (tkNums_u64 hs ho)
  have i0 := ho.1.1
  have i1 := ho.1.2
  have W1 := Lib.hid (h.alloc (.cells #[.int .u64 t.id, .int .i64 t.contract, .int .i64 t.state, .int .i64 t.level, .int .u64 t.gen, .int .i64 t.frm, .int .i64 t.left, .int .i64 t.due, .int .i64 t.told] 63))
  have S1 := Lib.hid ((WStep.refl h).alloc (.cells #[.int .u64 t.id, .int .i64 t.contract, .int .i64 t.state, .int .i64 t.level, .int .u64 t.gen, .int .i64 t.frm, .int .i64 t.left, .int .i64 t.due, .int .i64 t.told] 63))
  clear h ho hs
  unfold Tk.val
  go_enter Try.func154, Try.ntmps154
  go_wp2_with fail
  with_reducible refine (WNum_lit (tkNums t) #[.int .u64 t.id, .int .u64 t.contract, .int .u64 t.state, .int .u64 t.level, .int .u64 t.gen, .int .u64 t.frm, .int .u64 t.left, .int .u64 t.due, .int .u64 t.told] 9 (w.heap.size + 1) W1.out (by simp) rfl rfl hu.out (by simp [tkNums]; omega)).mono ?_
  rintro e w2 ⟨rfl, v2, hs2⟩
  have S2 := Lib.hid (S1.out.trans hs2)
  clear hs2
  go_wp2
  go_end0
  exact ⟨rfl, v2, S2.out⟩

theorem C_under {k : IntKind} {w w' : World} {A : Option Addr} {n B : Nat} {xs : List Int} (h : (Kd.int k).C w A n xs) (hA : 0 < n → ∀ ad, A = some ad → ad.block < B) (hb : Below B w w') : (Kd.int k).C w' A n xs := by
  rcases Nat.eq_zero_or_pos n with rfl | hn
  · obtain rfl : xs = [] := List.eq_nil_of_length_eq_zero h.1
    exact ⟨rfl, by decide, fun h => absurd h (by decide)⟩
  · exact C_mod (S := fun k => B ≤ k) h ⟨hb.os, hb.tape, hb.output, hb.size, fun i _ hn => hb.block i (by omega)⟩ (fun ad e hge => by have := hA hn ad e; omega)

theorem U64.two {a b : Int} (a0 : 0 ≤ a) (a1 : a ≤ 18446744073709551615) (b0 : 0 ≤ b) (b1 : b ≤ 18446744073709551615) : U64 [a, b] := fun x hx => by
  simp only [List.mem_cons, List.not_mem_nil, or_false] at hx
  rcases hx with rfl | rfl <;> constructor <;> omega
set_option maxRecDepth 100000 in
set_option maxHeartbeats 4000000 in
theorem rput_calls {B : Nat} {w : World} {g : Nat} {v : Value} {xs : List Int} (h : Wtr B w g v xs) (r : Rp) (ho : r.ok) (hs : rpSound r = true) {A : Option Addr} {n c : Nat} (hf : Kd.C (Kd.int .u64) w A n r.fired) (hA : 0 < n → ∀ ad, A = some ad → ad.block < B) (hl : xs.length ≤ 1000) :
    Calls Try.prog 99 #[.pointer (some ⟨g, 0, none⟩), r.val A n c] w fun e w' => e = .returned (.tuple #[]) ∧ ∃ v', WStep B w w' g v v' (xs ++ rpEnc r) := by
  have hnl : r.fired.length = n := hf.1
  obtain ⟨code, time, tk, fired, notice, dead⟩ := r
  have hso := of_decide_eq_true hs
  obtain ⟨z1, z2, z3, z4, z5, z6, z7, z8⟩ := hso
  obtain ⟨-, -, hk, hfu, ⟨n0, n1⟩, -⟩ := ho
  simp only at z1 z2 z3 z4 z5 z6 z7 z8 hk hfu n0 n1 hnl hf
  have hn64 : n ≤ 64 := by omega
  have hns : ¬ WS g v w.heap.size := by
    rintro (e | e)
    · have := blk_lt h.1; omega
    · have := (h.2.2.lt _ e).2; omega
  have HBK : Hid ((w.alloc (.cells #[.int .i64 code, .int .i64 time, .int .u64 tk.id, .int .i64 tk.contract, .int .i64 tk.state, .int .i64 tk.level, .int .u64 tk.gen, .int .i64 tk.frm, .int .i64 tk.left, .int .i64 tk.due, .int .i64 tk.told, .slice A n c, .int .u64 notice, .int .i64 dead] 66)).heap[w.heap.size]? = some (.cells #[.int .i64 code, .int .i64 time, .int .u64 tk.id, .int .i64 tk.contract, .int .i64 tk.state, .int .i64 tk.level, .int .u64 tk.gen, .int .i64 tk.frm, .int .i64 tk.left, .int .i64 tk.due, .int .i64 tk.told, .slice A n c, .int .u64 notice, .int .i64 dead] 66)) := heap_alloc_new w _
  have S0 := Lib.hid ((WStep.refl h).alloc (.cells #[.int .i64 code, .int .i64 time, .int .u64 tk.id, .int .i64 tk.contract, .int .i64 tk.state, .int .i64 tk.level, .int .u64 tk.gen, .int .i64 tk.frm, .int .i64 tk.left, .int .i64 tk.due, .int .i64 tk.told, .slice A n c, .int .u64 notice, .int .i64 dead] 66))
  have T0 := Lib.hid (WStep.refl (h.alloc (.cells #[.int .i64 code, .int .i64 time, .int .u64 tk.id, .int .i64 tk.contract, .int .i64 tk.state, .int .i64 tk.level, .int .u64 tk.gen, .int .i64 tk.frm, .int .i64 tk.left, .int .i64 tk.due, .int .i64 tk.told, .slice A n c, .int .u64 notice, .int .i64 dead] 66)))
  have HF0 := Lib.hid (C_under (B := B) hf hA ((Below.refl B w).alloc (by have := h.cells.2.2.2; exact this) (.cells #[.int .i64 code, .int .i64 time, .int .u64 tk.id, .int .i64 tk.contract, .int .i64 tk.state, .int .i64 tk.level, .int .u64 tk.gen, .int .i64 tk.frm, .int .i64 tk.left, .int .i64 tk.due, .int .i64 tk.told, .slice A n c, .int .u64 notice, .int .i64 dead] 66)))
  have HBs := h.cells.2.2.2
  have HNone := Lib.hid (fun W => none_calls W tk)
  have HTP := Lib.hid (fun (W : World) (u : Value) (ys : List Int) (hw : Wtr B W g u ys) (hq : tkSound tk = true) (hl : ys.length ≤ 10000) => tput_calls hw tk hk hq hl)
  have HA := Lib.hid hA
  have HFU := Lib.hid hfu
  have HE : Hid (rpEnc ⟨code, time, tk, fired, notice, dead⟩ = encN code 0 ++ (encI time ++ (encF (!tkNone tk) ++ ((if tkNone tk then [] else tkEnc tk) ++ (encN n 0 ++ (encNs fired ++ encNs [notice, dead])))))) := by rw [← hnl]; rfl
  have HNL := Lib.hid hnl
  have hl1 := encN_len code 0
  have hl2 := encI_len time
  have hl3 : (encF (!tkNone tk)).length ≤ 9 := encN_len _ 0
  have hl4 : (tkEnc tk).length ≤ 81 := encNs_len (tkNums tk)
  have hl5 := encN_len (n : Int) 0
  have hl6 : (encNs fired).length ≤ 576 := by have := encNs_len fired; omega
  have Z8 := Lib.hid z8
  have W0 := Lib.hid (h.alloc (.cells #[.int .i64 code, .int .i64 time, .int .u64 tk.id, .int .i64 tk.contract, .int .i64 tk.state, .int .i64 tk.level, .int .u64 tk.gen, .int .i64 tk.frm, .int .i64 tk.left, .int .i64 tk.due, .int .i64 tk.told, .slice A n c, .int .u64 notice, .int .i64 dead] 66))
  clear h hf hA hk hfu hnl hs z8
  simp only [Rp.val]
  unfold Tk.val at HNone HTP
  revert HE Z8 hl3
  cases hno : tkNone tk
  · intro HE hl3 Z8
    have HNo := Lib.hid hno
    clear hno
    simp only [Bool.not_false] at HE hl3
    go_enter Try.func99, Try.ntmps99
    go_wp2_with fail
    with_reducible refine (WNum_lit [code] #[.int .u64 code] 1 (w.heap.size + 1) W0.out (by simp) rfl rfl (U64.one (by omega) (by omega)) (by simp; omega)).mono ?_
    rintro e w1 ⟨rfl, v1, hs⟩
    rw [encNs_one] at hs
    have T1 := Lib.hid (T0.out.trans hs)
    have hbk := T1.out.mod.blk HBK.out hns
    have k1 : w1.cell? ⟨w.heap.size, 1, none⟩ = _ := (blk_cell hbk 1).trans rfl
    clear hs hbk
    go_wp2_with fail
    with_reducible refine (WInt_lit [time] #[.int .i64 time] 1 w1.heap.size T1.out.w rfl rfl rfl (I64.one (by omega) (by omega)) (by simp; omega)).mono ?_
    rintro e w2 ⟨rfl, v2, hs⟩
    rw [encIs_one] at hs
    have T2 := Lib.hid (T1.out.trans hs)
    have hbk := T2.out.mod.blk HBK.out hns
    have k2 : w2.cell? ⟨w.heap.size, 2, none⟩ = _ := (blk_cell hbk 2).trans rfl
    have k3 : w2.cell? ⟨w.heap.size, 3, none⟩ = _ := (blk_cell hbk 3).trans rfl
    have k4 : w2.cell? ⟨w.heap.size, 4, none⟩ = _ := (blk_cell hbk 4).trans rfl
    have k5 : w2.cell? ⟨w.heap.size, 5, none⟩ = _ := (blk_cell hbk 5).trans rfl
    have k6 : w2.cell? ⟨w.heap.size, 6, none⟩ = _ := (blk_cell hbk 6).trans rfl
    have k7 : w2.cell? ⟨w.heap.size, 7, none⟩ = _ := (blk_cell hbk 7).trans rfl
    have k8 : w2.cell? ⟨w.heap.size, 8, none⟩ = _ := (blk_cell hbk 8).trans rfl
    have k9 : w2.cell? ⟨w.heap.size, 9, none⟩ = _ := (blk_cell hbk 9).trans rfl
    have k10 : w2.cell? ⟨w.heap.size, 10, none⟩ = _ := (blk_cell hbk 10).trans rfl
    clear hs hbk k1 T1
    go_wp2_with fail
    with_reducible refine (HNone.out _).mono ?_
    rintro e w3 ⟨rfl, hb⟩
    rw [HNo.out]
    have T3 := Lib.hid (T2.out.below hb)
    have hbk := T3.out.mod.blk HBK.out hns
    have HF := Lib.hid (WFlag_calls (c := 1) (b := true) (T3.out.w.alloc (.cells #[.bool true] 4)) ((blk_cell (heap_alloc_new w3 (.cells #[.bool true] 4)) 0).trans rfl) (by simp only [List.length_append]; omega))
    have T3b := Lib.hid (T3.out.alloc (.cells #[.bool true] 4))
    clear hb hbk k2 k3 k4 k5 k6 k7 k8 k9 k10 T2
    go_wp2_with fail
    with_reducible refine HF.out.mono ?_
    rintro e w4 ⟨rfl, v4, hs⟩
    have T4 := Lib.hid (T3b.out.trans hs)
    have hbk := T4.out.mod.blk HBK.out hns
    have k2 : w4.cell? ⟨w.heap.size, 2, none⟩ = _ := (blk_cell hbk 2).trans rfl
    have k3 : w4.cell? ⟨w.heap.size, 3, none⟩ = _ := (blk_cell hbk 3).trans rfl
    have k4 : w4.cell? ⟨w.heap.size, 4, none⟩ = _ := (blk_cell hbk 4).trans rfl
    have k5 : w4.cell? ⟨w.heap.size, 5, none⟩ = _ := (blk_cell hbk 5).trans rfl
    have k6 : w4.cell? ⟨w.heap.size, 6, none⟩ = _ := (blk_cell hbk 6).trans rfl
    have k7 : w4.cell? ⟨w.heap.size, 7, none⟩ = _ := (blk_cell hbk 7).trans rfl
    have k8 : w4.cell? ⟨w.heap.size, 8, none⟩ = _ := (blk_cell hbk 8).trans rfl
    have k9 : w4.cell? ⟨w.heap.size, 9, none⟩ = _ := (blk_cell hbk 9).trans rfl
    have k10 : w4.cell? ⟨w.heap.size, 10, none⟩ = _ := (blk_cell hbk 10).trans rfl
    clear hs hbk T3 T3b HF
    go_wp2_with fail
    with_reducible refine (HNone.out _).mono ?_
    rintro e w5 ⟨rfl, hb⟩
    rw [HNo.out]
    have T5 := Lib.hid (T4.out.below hb)
    clear hb k2 k3 k4 k5 k6 k7 k8 k9 k10 T4
    have hbk := T5.out.mod.blk HBK.out hns
    have k2 : w5.cell? ⟨w.heap.size, 2, none⟩ = _ := (blk_cell hbk 2).trans rfl
    have k3 : w5.cell? ⟨w.heap.size, 3, none⟩ = _ := (blk_cell hbk 3).trans rfl
    have k4 : w5.cell? ⟨w.heap.size, 4, none⟩ = _ := (blk_cell hbk 4).trans rfl
    have k5 : w5.cell? ⟨w.heap.size, 5, none⟩ = _ := (blk_cell hbk 5).trans rfl
    have k6 : w5.cell? ⟨w.heap.size, 6, none⟩ = _ := (blk_cell hbk 6).trans rfl
    have k7 : w5.cell? ⟨w.heap.size, 7, none⟩ = _ := (blk_cell hbk 7).trans rfl
    have k8 : w5.cell? ⟨w.heap.size, 8, none⟩ = _ := (blk_cell hbk 8).trans rfl
    have k9 : w5.cell? ⟨w.heap.size, 9, none⟩ = _ := (blk_cell hbk 9).trans rfl
    have k10 : w5.cell? ⟨w.heap.size, 10, none⟩ = _ := (blk_cell hbk 10).trans rfl
    clear hbk
    go_wp2_with fail
    with_reducible refine (HTP.out _ _ _ T5.out.w (by have := Z8.out; rcases this with h | h; · cases h
                                                      · exact h) (by simp only [List.length_append]; omega)).mono ?_
    rintro e w6 ⟨rfl, v6, hs⟩
    have T6 := Lib.hid (T5.out.trans hs)
    have hbk := T6.out.mod.blk HBK.out hns
    have k11 : w6.cell? ⟨w.heap.size, 11, none⟩ = _ := (blk_cell hbk 11).trans rfl
    clear hs hbk k2 k3 k4 k5 k6 k7 k8 k9 k10 T5
    go_wp2_with fail
    with_reducible refine (WNum_lit [(n : Int)] #[.int .u64 n] 1 w6.heap.size T6.out.w rfl rfl rfl (U64.one (by omega) (by omega)) (by simp only [List.length_append, List.length_singleton]; omega)).mono ?_
    rintro e w7 ⟨rfl, v7, hs⟩
    rw [encNs_one] at hs
    have T7 := Lib.hid (T6.out.trans hs)
    have hbk := T7.out.mod.blk HBK.out hns
    have k11 : w7.cell? ⟨w.heap.size, 11, none⟩ = _ := (blk_cell hbk 11).trans rfl
    have HFw := Lib.hid (WNum_old (c := c) T7.out.w (C_under HF0.out HA.out (WStep.base W0.out T7.out)) HA.out HFU.out (by have := HNL.out; simp only [List.length_append]; omega))
    clear hs hbk T6
    go_wp2_with fail
    with_reducible refine HFw.out.mono ?_
    rintro e w8 ⟨rfl, v8, hs⟩
    have T8 := Lib.hid (T7.out.trans hs)
    have hbk := T8.out.mod.blk HBK.out hns
    have k12 : w8.cell? ⟨w.heap.size, 12, none⟩ = _ := (blk_cell hbk 12).trans rfl
    have k13 : w8.cell? ⟨w.heap.size, 13, none⟩ = _ := (blk_cell hbk 13).trans rfl
    clear hs hbk T7 HFw k11
    go_wp2_with fail
    with_reducible refine (WNum_lit [notice, dead] #[.int .u64 notice, .int .u64 dead] 2 w8.heap.size T8.out.w rfl rfl rfl (U64.two n0 n1 (by omega) (by omega)) (by simp only [List.length_append, List.length_cons, List.length_nil]; omega)).mono ?_
    rintro e w9 ⟨rfl, v9, hs⟩
    have T9 := Lib.hid (S0.out.trans (T8.out.trans hs))
    clear hs T8
    go_wp2
    go_end0
    refine ⟨rfl, v9, ?_⟩
    have h9 := T9.out
    simp only [List.append_assoc] at h9
    rw [HE.out]
    simpa using h9
  · intro HE hl3 Z8
    have HNo := Lib.hid hno
    clear hno
    simp only [Bool.not_true] at HE hl3
    go_enter Try.func99, Try.ntmps99
    go_wp2_with fail
    with_reducible refine (WNum_lit [code] #[.int .u64 code] 1 (w.heap.size + 1) W0.out (by simp) rfl rfl (U64.one (by omega) (by omega)) (by simp; omega)).mono ?_
    rintro e w1 ⟨rfl, v1, hs⟩
    rw [encNs_one] at hs
    have T1 := Lib.hid (T0.out.trans hs)
    have hbk := T1.out.mod.blk HBK.out hns
    have k1 : w1.cell? ⟨w.heap.size, 1, none⟩ = _ := (blk_cell hbk 1).trans rfl
    clear hs hbk
    go_wp2_with fail
    with_reducible refine (WInt_lit [time] #[.int .i64 time] 1 w1.heap.size T1.out.w rfl rfl rfl (I64.one (by omega) (by omega)) (by simp; omega)).mono ?_
    rintro e w2 ⟨rfl, v2, hs⟩
    rw [encIs_one] at hs
    have T2 := Lib.hid (T1.out.trans hs)
    have hbk := T2.out.mod.blk HBK.out hns
    have k2 : w2.cell? ⟨w.heap.size, 2, none⟩ = _ := (blk_cell hbk 2).trans rfl
    have k3 : w2.cell? ⟨w.heap.size, 3, none⟩ = _ := (blk_cell hbk 3).trans rfl
    have k4 : w2.cell? ⟨w.heap.size, 4, none⟩ = _ := (blk_cell hbk 4).trans rfl
    have k5 : w2.cell? ⟨w.heap.size, 5, none⟩ = _ := (blk_cell hbk 5).trans rfl
    have k6 : w2.cell? ⟨w.heap.size, 6, none⟩ = _ := (blk_cell hbk 6).trans rfl
    have k7 : w2.cell? ⟨w.heap.size, 7, none⟩ = _ := (blk_cell hbk 7).trans rfl
    have k8 : w2.cell? ⟨w.heap.size, 8, none⟩ = _ := (blk_cell hbk 8).trans rfl
    have k9 : w2.cell? ⟨w.heap.size, 9, none⟩ = _ := (blk_cell hbk 9).trans rfl
    have k10 : w2.cell? ⟨w.heap.size, 10, none⟩ = _ := (blk_cell hbk 10).trans rfl
    clear hs hbk k1 T1
    go_wp2_with fail
    with_reducible refine (HNone.out _).mono ?_
    rintro e w3 ⟨rfl, hb⟩
    rw [HNo.out]
    have T3 := Lib.hid (T2.out.below hb)
    have hbk := T3.out.mod.blk HBK.out hns
    have HF := Lib.hid (WFlag_calls (c := 1) (b := false) (T3.out.w.alloc (.cells #[.bool false] 4)) ((blk_cell (heap_alloc_new w3 (.cells #[.bool false] 4)) 0).trans rfl) (by simp only [List.length_append]; omega))
    have T3b := Lib.hid (T3.out.alloc (.cells #[.bool false] 4))
    clear hb hbk k2 k3 k4 k5 k6 k7 k8 k9 k10 T2
    go_wp2_with fail
    with_reducible refine HF.out.mono ?_
    rintro e w4 ⟨rfl, v4, hs⟩
    have T4 := Lib.hid (T3b.out.trans hs)
    have hbk := T4.out.mod.blk HBK.out hns
    have k2 : w4.cell? ⟨w.heap.size, 2, none⟩ = _ := (blk_cell hbk 2).trans rfl
    have k3 : w4.cell? ⟨w.heap.size, 3, none⟩ = _ := (blk_cell hbk 3).trans rfl
    have k4 : w4.cell? ⟨w.heap.size, 4, none⟩ = _ := (blk_cell hbk 4).trans rfl
    have k5 : w4.cell? ⟨w.heap.size, 5, none⟩ = _ := (blk_cell hbk 5).trans rfl
    have k6 : w4.cell? ⟨w.heap.size, 6, none⟩ = _ := (blk_cell hbk 6).trans rfl
    have k7 : w4.cell? ⟨w.heap.size, 7, none⟩ = _ := (blk_cell hbk 7).trans rfl
    have k8 : w4.cell? ⟨w.heap.size, 8, none⟩ = _ := (blk_cell hbk 8).trans rfl
    have k9 : w4.cell? ⟨w.heap.size, 9, none⟩ = _ := (blk_cell hbk 9).trans rfl
    have k10 : w4.cell? ⟨w.heap.size, 10, none⟩ = _ := (blk_cell hbk 10).trans rfl
    clear hs hbk T3 T3b HF
    go_wp2_with fail
    with_reducible refine (HNone.out _).mono ?_
    rintro e w5 ⟨rfl, hb⟩
    rw [HNo.out]
    have T5 := Lib.hid (T4.out.below hb)
    clear hb k2 k3 k4 k5 k6 k7 k8 k9 k10 T4
    have hbk := T5.out.mod.blk HBK.out hns
    have k11 : w5.cell? ⟨w.heap.size, 11, none⟩ = _ := (blk_cell hbk 11).trans rfl
    clear hbk
    go_wp2_with fail
    with_reducible refine (WNum_lit [(n : Int)] #[.int .u64 n] 1 w5.heap.size T5.out.w rfl rfl rfl (U64.one (by omega) (by omega)) (by simp only [List.length_append, List.length_singleton]; omega)).mono ?_
    rintro e w7 ⟨rfl, v7, hs⟩
    rw [encNs_one] at hs
    have T7 := Lib.hid (T5.out.trans hs)
    have hbk := T7.out.mod.blk HBK.out hns
    have k11 : w7.cell? ⟨w.heap.size, 11, none⟩ = _ := (blk_cell hbk 11).trans rfl
    have HFw := Lib.hid (WNum_old (c := c) T7.out.w (C_under HF0.out HA.out (WStep.base W0.out T7.out)) HA.out HFU.out (by have := HNL.out; simp only [List.length_append]; omega))
    clear hs hbk T5
    go_wp2_with fail
    with_reducible refine HFw.out.mono ?_
    rintro e w8 ⟨rfl, v8, hs⟩
    have T8 := Lib.hid (T7.out.trans hs)
    have hbk := T8.out.mod.blk HBK.out hns
    have k12 : w8.cell? ⟨w.heap.size, 12, none⟩ = _ := (blk_cell hbk 12).trans rfl
    have k13 : w8.cell? ⟨w.heap.size, 13, none⟩ = _ := (blk_cell hbk 13).trans rfl
    clear hs hbk T7 HFw k11
    go_wp2_with fail
    with_reducible refine (WNum_lit [notice, dead] #[.int .u64 notice, .int .u64 dead] 2 w8.heap.size T8.out.w rfl rfl rfl (U64.two n0 n1 (by omega) (by omega)) (by simp only [List.length_append, List.length_cons, List.length_nil]; omega)).mono ?_
    rintro e w9 ⟨rfl, v9, hs⟩
    have T9 := Lib.hid (S0.out.trans (T8.out.trans hs))
    clear hs T8
    go_wp2
    go_end0
    refine ⟨rfl, v9, ?_⟩
    have h9 := T9.out
    simp only [List.append_assoc] at h9
    rw [HE.out]
    simpa using h9

end Go.Proofs.Ytabdjehnglmlpaa
end

section
/- reply.Bytes, Refused; the reference's bytes of a reply. -/
namespace Go.Proofs.Ytabdjehnglmlpaa
open Go.RowKit Go.Proofs.YtabdjehnglmlpaaW.PrintWords
set_option linter.unusedVariables false
set_option linter.unusedSimpArgs false

theorem refused_calls (w : World) (code time : Int) :
    Calls Try.prog 63 #[.int .i64 code, .int .i64 time] w fun e w' => e = .returned ((⟨code, time, Tk.zero, [], 0, 0⟩ : Rp).val none 0 0) ∧ Below w.heap.size w w' := by
  go_enter Try.func63, Try.ntmps63
  go_wp2
  refine bodyPost_ret (v := (⟨code, time, Tk.zero, [], 0, 0⟩ : Rp).val none 0 0) (by simp [results, Try.results63, go_sem, Rp.val, Tk.zero]) rfl ⟨rfl, ?_⟩
  exact (Below.refl _ _).alloc (Nat.le_refl _) _

theorem rpEnc_len {r : Rp} (h : rpSound r = true) : (rpEnc r).length ≤ 2000 := by
  have h5 := (of_decide_eq_true h).2.2.2.2.1
  have h1 := encN_len r.code 0
  have h2 := encI_len r.time
  have h3 : (encF (!tkNone r.tk)).length ≤ 9 := encN_len _ 0
  have h4 : (tkEnc r.tk).length ≤ 81 := encNs_len (tkNums r.tk)
  have h6 := encNs_len r.fired
  have h7 := encNs_len [r.notice, r.dead]
  have h8 := encN_len r.fired.length 0
  simp only [List.length_cons, List.length_nil] at h7
  unfold rpEnc
  simp only [List.length_append]
  split <;> (try simp only [List.length_nil]) <;> omega

set_option maxRecDepth 100000 in
set_option maxHeartbeats 2000000 in
theorem rbytes_no (w : World) (r : Rp) (ho : r.ok) (hs : rpSound r = false) (A : Option Addr) (n c : Nat) (hn : r.fired.length = n) (hl : n ≤ 9223372036854775807) :
    Calls Try.prog 98 #[r.val A n c] w fun e w' => e = .returned (.tuple #[.slice none 0 0, .int .i64 2]) ∧ Below w.heap.size w w' := by
  have HS := Lib.hid (fun W => rpS_calls W r ho A n c hn hl)
  have HH := Lib.hid hs
  clear ho hs
  unfold Rp.val at HS
  unfold Rp.val
  go_enter Try.func98, Try.ntmps98
  go_wp2_with fail
  with_reducible refine (HS.out _).mono ?_
  rintro e w1 ⟨rfl, hb⟩
  rw [HH.out]
  have B1 := Lib.hid (((Below.refl w.heap.size w).alloc (Nat.le_refl _) _).trans (hb.mono (by simp)))
  clear hb
  go_wp2
  go_ret2
  exact ⟨rfl, B1.out⟩

set_option maxRecDepth 100000 in
set_option maxHeartbeats 4000000 in
theorem rbytes_yes (w : World) (r : Rp) (ho : r.ok) (hs : rpSound r = true) {A : Option Addr} {n c : Nat} (hf : Kd.C (Kd.int .u64) w A n r.fired) :
    Calls Try.prog 98 #[r.val A n c] w fun e w' => ∃ A' n' c', e = .returned (.tuple #[.slice A' n' c', .int .i64 0]) ∧ n' ≤ c' ∧ Kd.C (Kd.int .u8) w' A' n' (rpEnc r) ∧ Below w.heap.size w w' := by
  have hnl : r.fired.length = n := hf.1
  have hl64 := (of_decide_eq_true hs).2.2.2.2.1
  have HS := Lib.hid (fun W => rpS_calls W r ho A n c hnl (by omega))
  have HP := Lib.hid (fun (W : World) (g : Nat) (v : Value) (B : Nat) (h : Wtr B W g v []) (hC : Kd.C (Kd.int .u64) W A n r.fired) (hA : 0 < n → ∀ ad, A = some ad → ad.block < B) => rput_calls (c := c) h r ho hs hC hA (by simp))
  have HH := Lib.hid hs
  have HF := Lib.hid hf
  have HLn := Lib.hid (rpEnc_len hs)
  have D0 := Lib.hid ((Below.refl w.heap.size w).alloc (Nat.le_refl _) (.cells #[.int .i64 r.code, .int .i64 r.time, .int .u64 r.tk.id, .int .i64 r.tk.contract, .int .i64 r.tk.state, .int .i64 r.tk.level, .int .u64 r.tk.gen, .int .i64 r.tk.frm, .int .i64 r.tk.left, .int .i64 r.tk.due, .int .i64 r.tk.told, .slice A n c, .int .u64 r.notice, .int .i64 r.dead] 66))
  have HBK : Hid ((w.alloc (.cells #[.int .i64 r.code, .int .i64 r.time, .int .u64 r.tk.id, .int .i64 r.tk.contract, .int .i64 r.tk.state, .int .i64 r.tk.level, .int .u64 r.tk.gen, .int .i64 r.tk.frm, .int .i64 r.tk.left, .int .i64 r.tk.due, .int .i64 r.tk.told, .slice A n c, .int .u64 r.notice, .int .i64 r.dead] 66)).heap[w.heap.size]? = some (.cells #[.int .i64 r.code, .int .i64 r.time, .int .u64 r.tk.id, .int .i64 r.tk.contract, .int .i64 r.tk.state, .int .i64 r.tk.level, .int .u64 r.tk.gen, .int .i64 r.tk.frm, .int .i64 r.tk.left, .int .i64 r.tk.due, .int .i64 r.tk.told, .slice A n c, .int .u64 r.notice, .int .i64 r.dead] 66)) := heap_alloc_new w _
  clear ho hs hf hl64
  unfold Rp.val at HS HP
  unfold Rp.val
  go_enter Try.func98, Try.ntmps98
  go_wp2_with fail
  with_reducible refine (HS.out _).mono ?_
  rintro e w1 ⟨rfl, hb⟩
  rw [HH.out]
  have B1 := Lib.hid (D0.out.trans (hb.mono (by simp)))
  have hbk := blk_below HBK.out hb
  have hbk2 := blk_alloc hbk (.cells #[.slice none 0 0] 30)
  have k0 : (w1.alloc (.cells #[.slice none 0 0] 30)).cell? ⟨w.heap.size, 0, none⟩ = _ := (blk_cell hbk2 0).trans rfl
  have k1 : (w1.alloc (.cells #[.slice none 0 0] 30)).cell? ⟨w.heap.size, 1, none⟩ = _ := (blk_cell hbk2 1).trans rfl
  have k2 : (w1.alloc (.cells #[.slice none 0 0] 30)).cell? ⟨w.heap.size, 2, none⟩ = _ := (blk_cell hbk2 2).trans rfl
  have k3 : (w1.alloc (.cells #[.slice none 0 0] 30)).cell? ⟨w.heap.size, 3, none⟩ = _ := (blk_cell hbk2 3).trans rfl
  have k4 : (w1.alloc (.cells #[.slice none 0 0] 30)).cell? ⟨w.heap.size, 4, none⟩ = _ := (blk_cell hbk2 4).trans rfl
  have k5 : (w1.alloc (.cells #[.slice none 0 0] 30)).cell? ⟨w.heap.size, 5, none⟩ = _ := (blk_cell hbk2 5).trans rfl
  have k6 : (w1.alloc (.cells #[.slice none 0 0] 30)).cell? ⟨w.heap.size, 6, none⟩ = _ := (blk_cell hbk2 6).trans rfl
  have k7 : (w1.alloc (.cells #[.slice none 0 0] 30)).cell? ⟨w.heap.size, 7, none⟩ = _ := (blk_cell hbk2 7).trans rfl
  have k8 : (w1.alloc (.cells #[.slice none 0 0] 30)).cell? ⟨w.heap.size, 8, none⟩ = _ := (blk_cell hbk2 8).trans rfl
  have k9 : (w1.alloc (.cells #[.slice none 0 0] 30)).cell? ⟨w.heap.size, 9, none⟩ = _ := (blk_cell hbk2 9).trans rfl
  have k10 : (w1.alloc (.cells #[.slice none 0 0] 30)).cell? ⟨w.heap.size, 10, none⟩ = _ := (blk_cell hbk2 10).trans rfl
  have k11 : (w1.alloc (.cells #[.slice none 0 0] 30)).cell? ⟨w.heap.size, 11, none⟩ = _ := (blk_cell hbk2 11).trans rfl
  have k12 : (w1.alloc (.cells #[.slice none 0 0] 30)).cell? ⟨w.heap.size, 12, none⟩ = _ := (blk_cell hbk2 12).trans rfl
  have k13 : (w1.alloc (.cells #[.slice none 0 0] 30)).cell? ⟨w.heap.size, 13, none⟩ = _ := (blk_cell hbk2 13).trans rfl
  have W1 := Lib.hid (Wtr.new_at w1 (B := w1.heap.size) (Nat.le_refl _) rfl)
  have C1 := Lib.hid (Kd.C_below HF.out (B1.out.alloc B1.out.size (.cells #[.slice none 0 0] 30)))
  have A1 : Hid (0 < n → ∀ ad, A = some ad → ad.block < w1.heap.size) := fun h ad e => Nat.lt_of_lt_of_le (Kd.pos_lt HF.out h ad e) B1.out.size
  have HPP := Lib.hid (HP.out _ _ _ _ W1.out C1.out A1.out)
  have D1 := Lib.hid (B1.out.alloc B1.out.size (.cells #[.slice none 0 0] 30))
  clear hb hbk hbk2 HP HS
  go_wp2_with fail
  with_reducible refine HPP.out.mono ?_
  rintro e w2 ⟨rfl, v2, hs⟩
  rw [List.nil_append] at hs
  have D2 := Lib.hid (B1.out.trans (((Below.refl w1.heap.size w1).alloc (Nat.le_refl _) _).trans (WStep.base W1.out hs) |>.mono B1.out.size))
  have W2 := Lib.hid hs.w
  clear hs HPP k0 k1 k2 k3 k4 k5 k6 k7 k8 k9 k10 k11 k12 k13
  go_wp2_with fail
  with_reducible refine (WBytes_calls W2.out (by have := HLn.out; omega)).mono ?_
  rintro e w3 ⟨v3, rfl, hv, hb⟩
  obtain ⟨A3, n3, c3, rfl, hc3, hC3⟩ := hv.any
  have C3 := Lib.hid hC3
  have D3 := Lib.hid (D2.out.trans (hb.mono D2.out.size))
  clear hv hC3 hb
  go_wp2
  go_ret2
  exact ⟨A3, n3, c3, rfl, hc3, C3.out, D3.out⟩

/-- The reference's bytes of a ticket. -/
theorem rtput_loop (l : List Int) (hu : U64 l) (hl : l.length ≤ 9) (d : Nat) : ∀ (k i : Nat) (acc : List Int), l.length - i = d → i ≤ l.length → d + 100 < k → acc.length ≤ 9 * i →
    PK.curfewref16_Put.l0 k acc l (l.length : Int) (i : Int) = some (acc ++ encNs (l.drop i)) := by
  induction d with
  | zero =>
    intro k i acc hd hi hk ha
    obtain ⟨k, rfl⟩ : ∃ j, k = j + 1 := ⟨k - 1, by omega⟩
    obtain rfl : i = l.length := by omega
    simp only [PK.curfewref16_Put.l0]
    rw [if_neg (by omega), List.drop_length]; simp [encNs]
  | succ d ih =>
    intro k i acc hd hi hk ha
    obtain ⟨k, rfl⟩ : ∃ j, k = j + 1 := ⟨k - 1, by omega⟩
    have hw : wrap64 ((i : Int) + 1) = ((i + 1 : Nat) : Int) := by unfold wrap64; omega
    have hm := hu _ (rd_mem l i (by omega))
    have hen := encN_len (rd l i) 0
    have h := ih k (i + 1) (acc ++ encN (rd l i) 0) (by omega) (by omega) (by omega) (by rw [List.length_append]; omega)
    simp only [PK.curfewref16_Put.l0]
    rw [if_pos (by omega), if_pos (by omega), if_pos (by omega), RefNum_f hm.1 hm.2 k (by omega), Option.bind_some, if_pos (by omega), hw, h, List.append_assoc]
    congr 2
    have hdrop : l.drop i = rd l i :: l.drop (i + 1) := by
      rw [List.drop_eq_getElem_cons (by omega)]
      congr 1
      simp only [rd, Int.toNat_natCast]
      rw [List.getD_eq_getElem?_getD, List.getElem?_eq_getElem (by omega)]; rfl
    rw [hdrop]
    simp [encNs]
theorem rtput_calls (w : World) (t : Tk) (ho : t.ok) (hs : tkSound t = true) :
    Calls Try.prog 156 #[t.val] w fun e w' => ∃ v, e = .returned v ∧ OwnB w' w.heap.size v (tkEnc t) ∧ Below w.heap.size w w' := by
  obtain ⟨p1, p2, p3, p4, p5, p6, p7, p8, q1, q2, q3, q4, q5, q6, q7, q8⟩ := tkSound_pos hs ho
  have hf : PK.curfewref16_Put.f 1000 t.id t.contract t.state t.level t.gen t.frm t.left t.due t.told = some (tkEnc t) := by
    unfold PK.curfewref16_Put.f
    rw [Option.bind_some, u64_id p1 (by omega), u64_id p2 (by omega), u64_id p3 (by omega), u64_id p5 (by omega), u64_id p6 (by omega), u64_id p7 (by omega), u64_id p8 (by omega)]
    have := rtput_loop (tkNums t) (tkNums_u64 hs ho) (by simp [tkNums]) 9 1000 0 [] (by simp [tkNums]) (by omega) (by omega) (by simp)
    rw [List.nil_append, List.drop_zero] at this
    exact this
  refine (PK.curfewref16_Put.calls 1000 t.id t.contract t.state t.level t.gen t.frm t.left t.due t.told (tkEnc t) w hf).mono ?_
  rintro e w' ⟨v, h1, h2, h3⟩
  exact ⟨v, h1, Kd.own_of_R (enc := Value.int .u8) h2, h3⟩

end Go.Proofs.Ytabdjehnglmlpaa
end

section
/- What is read of a reply: the plain function, and the state of its reading. -/
namespace Go.Proofs.Ytabdjehnglmlpaa
open Go.RowKit Go.Proofs.YtabdjehnglmlpaaW.PrintWords
set_option linter.unusedVariables false
set_option linter.unusedSimpArgs false

def rpLoop : Nat → Rs → List Int × Rs
  | 0, s => ([], s)
  | k + 1, s => ((rpLoop k s).1 ++ [(rNum (rpLoop k s).2 18446744073709551615).1], (rNum (rpLoop k s).2 18446744073709551615).2)
theorem rpLoop_step {k : Nat} {s s1 s2 : Rs} {fs : List Int} {n : Int} (h : rpLoop k s = (fs, s1)) (h1 : rNum s1 18446744073709551615 = (n, s2)) : rpLoop (k + 1) s = (fs ++ [n], s2) := by
  show ((rpLoop k s).1 ++ [(rNum (rpLoop k s).2 18446744073709551615).1], (rNum (rpLoop k s).2 18446744073709551615).2) = _
  rw [h]; simp only; rw [h1]
def rpTk (f : Bool) (s : Rs) : (Tk × Bool) × Rs := if f then tkGet s else ((Tk.zero, true), s)
/-- A reply's parts, as they are read. -/
def rpRead (s : Rs) : Rp × Rs :=
  let a0 := rNum s 99
  let a1 := rInt a0.2
  let a2 := rFlag a1.2
  let a3 := rpTk a2.1 a2.2
  let a4 := rNum a3.2 64
  let a5 := rpLoop a4.1.toNat a4.2
  let a6 := rNum a5.2 18446744073709551615
  let a7 := rNum a6.2 128
  (⟨a0.1, a1.1, a3.1.1, a5.1, a6.1, a7.1⟩, a7.2)
theorem rpRead_eq {s s0 s1 s2 s3 s4 s5 s6 s7 : Rs} {n0 n1 n6 n7 : Int} {f ok : Bool} {tk : Tk} {m : Nat} {fs : List Int} (h0 : rNum s 99 = (n0, s0)) (h1 : rInt s0 = (n1, s1)) (h2 : rFlag s1 = (f, s2)) (h3 : rpTk f s2 = ((tk, ok), s3)) (h4 : rNum s3 64 = ((m : Int), s4)) (h5 : rpLoop m s4 = (fs, s5))
    (h6 : rNum s5 18446744073709551615 = (n6, s6)) (h7 : rNum s6 128 = (n7, s7)) : rpRead s = (⟨n0, n1, tk, fs, n6, n7⟩, s7) := by
  simp only [rpRead, h0, h1, h2, h3, h4, Int.toNat_natCast, h5, h6, h7]
/-- A reply that is read; false: none. -/
def rpGet (s : Rs) : (Rp × Bool) × Rs :=
  let q := rpRead s
  if q.2.2 || !rpSound q.1 then ((Rp.zero, false), rFail) else ((q.1, true), q.2)
theorem rNum_bad {s : Rs} (most : Int) (h : s.2 = true) : (rNum s most).2.2 = true := by
  unfold rNum; split
  · rfl
  · exact h
theorem rpLoop_bad {s : Rs} (h : s.2 = true) : ∀ k, (rpLoop k s).2.2 = true
  | 0 => h
  | k + 1 => rNum_bad _ (rpLoop_bad h k)
theorem tkGet_bad {s : Rs} (h : (tkGet s).1.2 = false) : (tkGet s).2.2 = true := by
  unfold tkGet at h ⊢
  simp only at h ⊢
  split at h
  · rename_i hc; rw [if_pos hc]; rfl
  · cases h
theorem rpTk_bad {f : Bool} {s : Rs} (h : (rpTk f s).1.2 = false) : (rpTk f s).2.2 = true := by
  cases f
  · cases h
  · exact tkGet_bad h
theorem rFlag_byt {s : Rs} (h : Byt s.1) : Byt (rFlag s).2.1 := rNum_byt h 1
theorem tkGet_byt {s : Rs} (h : Byt s.1) : Byt (tkGet s).2.1 := by
  unfold tkGet
  simp only
  split
  · exact Byt.nil
  · unfold tkRead
    simp only
    exact rNum_byt (rNum_byt (rNum_byt (rNum_byt (rNum_byt (rNum_byt (rNum_byt (rNum_byt (rNum_byt h _) _) _) _) _) _) _) _) _

def z66 : Array Value := #[.int .i64 0, .int .i64 0, .int .u64 0, .int .i64 0, .int .i64 0, .int .i64 0, .int .u64 0, .int .i64 0, .int .i64 0, .int .i64 0, .int .i64 0, .slice none 0 0, .int .u64 0, .int .i64 0]
theorem info26 : (Try.prog.info? 26).map (fun i => (i.zero, i.size, i.bytes)) = some (some (.int .u64 0), 1, 8) := by kernel_rfl

/-- The state of a reply's reading: the reply's block, the result's, the row of tickets. -/
structure Sf (w0 ws w : World) (g bT bQ : Nat) (cs : Array Value) (xs : List Int) (b : Bool) (v : Value) (fs : List Int) : Prop where
  st : St w0 ws w g bT cs 66 xs b
  qk : w.heap[bQ]? = some (.cells z66 66 (0, 0))
  qge : ws.heap.size ≤ bQ
  qne : bQ ≠ bT
  own : w.ownsRow ws.heap.size 26 1 v fs.length (nums .u64 fs)
section
variable {w0 ws w w' : World} {g bT bQ : Nat} {cs : Array Value} {xs ys : List Int} {b c : Bool} {v v' : Value} {fs fs' : List Int}
theorem Sf.call (h : Sf w0 ws w g bT bQ cs xs b v fs) (hm : Mod (· = g) w w') (hr : Rdr w0 w' g ys c) : Sf w0 ws w' g bT bQ cs ys c v fs :=
  ⟨h.st.call hm hr, hm.blk h.qk (by have := h.qge; have := h.st.old; omega), h.qge, h.qne, own_move h.own (fun k hk => hm.block k (own_lt h.own k hk) (by have := own_base h.own k hk; have := h.st.old; omega))⟩
theorem Sf.quiet (h : Sf w0 ws w g bT bQ cs xs b v fs) (hb : Below w.heap.size w w') : Sf w0 ws w' g bT bQ cs xs b v fs :=
  ⟨h.st.quiet hb, blk_below h.qk hb, h.qge, h.qne, own_move h.own (fun k hk => hb.block k (own_lt h.own k hk))⟩
theorem Sf.drew (h : Sf w0 ws w g bT bQ cs xs b v fs) : Sf w0 ws w.drew g bT bQ cs xs b v fs := h.quiet (Below.refl _ w).drew
theorem Sf.set (h : Sf w0 ws w g bT bQ cs xs b v fs) (i : Nat) (u : Value) : Sf w0 ws (w.setCell ⟨bT, i, none⟩ u) g bT bQ (cs.setIfInBounds i u) xs b v fs :=
  ⟨h.st.set i u, blk_far h.qk h.qne u, h.qge, h.qne, own_setCell h.own (own_ne h.own h.st.tk (by decide)) u⟩
theorem Sf.grow (h : Sf w0 ws w g bT bQ cs xs b v fs) (hg : w.grownBy w' v.ownBlock) (ho : w'.ownsRow ws.heap.size 26 1 v' fs'.length (nums .u64 fs')) : Sf w0 ws w' g bT bQ cs xs b v' fs' := by
  obtain ⟨A, c0, hb, h1, h2, h3⟩ := h.st.rdr
  have hne : some g ≠ v.ownBlock := own_ne h.own hb (by decide)
  exact ⟨⟨h.st.bel.grown hg h.st.bel.size (fun k hk => Nat.le_trans h.st.older (own_base h.own k hk)), ⟨A, c0, blk_grown hb hg hne, h1, h2, h3⟩, h.st.mod.grown hg (fun k hk hlt => by have := own_base h.own k hk; omega), blk_grown h.st.tk hg (own_ne h.own h.st.tk (by decide)), h.st.ge, h.st.old, h.st.older⟩,
    blk_grown h.qk hg (own_ne h.own h.qk (by decide)), h.qge, h.qne, ho⟩
theorem Sf.cell (h : Sf w0 ws w g bT bQ cs xs b v fs) (i : Nat) : w.cell? ⟨bT, i, none⟩ = cs[i]? := blk_cell h.st.tk i
theorem Sf.free (h : Sf w0 ws w g bT bQ cs xs b v fs) (i : Nat) : w.frozen? ⟨bT, i, none⟩ = false := blk_frozen h.st.tk i
theorem Sf.qcell (h : Sf w0 ws w g bT bQ cs xs b v fs) (i : Nat) : w.cell? ⟨bQ, i, none⟩ = z66[i]? := blk_cell h.qk i
theorem Sf.qfree (h : Sf w0 ws w g bT bQ cs xs b v fs) (i : Nat) : w.frozen? ⟨bQ, i, none⟩ = false := blk_frozen h.qk i
/-- The result's block, when it is written. -/
theorem Sf.res (h : Sf w0 ws w g bT bQ cs xs b v fs) : St w0 ws w g bQ z66 66 xs b := ⟨h.st.bel, h.st.rdr, h.st.mod, h.qk, h.qge, h.st.old, h.st.older⟩
theorem Sf.row (h : Sf w0 ws w g bT bQ cs xs b v fs) : ∃ A n c, v = .slice A n c ∧ n ≤ c ∧ n = fs.length ∧ Kd.C (Kd.int .u64) w A n fs := by
  obtain ⟨A, c, e, hr⟩ := own_reads h.own
  subst e
  exact ⟨A, _, c, rfl, own_cap h.own, rfl, Kd.C_of_reads (d := (0 : Int)) hr⟩
end

/-- The state of a reply's reading: the reply's block, the result's, the row of tickets. -/
structure Sg (w0 ws w : World) (g bT bQ : Nat) (cs : Array Value) (xs : List Int) (b : Bool) (v : Value) (fs : List Int) : Prop where
  st : Sr w0 ws w g bT cs 66 xs b
  qk : w.heap[bQ]? = some (.cells z66 66 (0, 0))
  qge : ws.heap.size ≤ bQ
  qne : bQ ≠ bT
  own : w.ownsRow ws.heap.size 26 1 v fs.length (nums .u64 fs)
section
variable {w0 ws w w' : World} {g bT bQ : Nat} {cs : Array Value} {xs ys : List Int} {b c : Bool} {v v' : Value} {fs fs' : List Int}
theorem Sg.call (h : Sg w0 ws w g bT bQ cs xs b v fs) (hm : Mod (· = g) w w') (hr : Ref w0 w' g ys c) : Sg w0 ws w' g bT bQ cs ys c v fs :=
  ⟨h.st.call hm hr, hm.blk h.qk (by have := h.qge; have := h.st.old; omega), h.qge, h.qne, own_move h.own (fun k hk => hm.block k (own_lt h.own k hk) (by have := own_base h.own k hk; have := h.st.old; omega))⟩
theorem Sg.quiet (h : Sg w0 ws w g bT bQ cs xs b v fs) (hb : Below w.heap.size w w') : Sg w0 ws w' g bT bQ cs xs b v fs :=
  ⟨h.st.quiet hb, blk_below h.qk hb, h.qge, h.qne, own_move h.own (fun k hk => hb.block k (own_lt h.own k hk))⟩
theorem Sg.drew (h : Sg w0 ws w g bT bQ cs xs b v fs) : Sg w0 ws w.drew g bT bQ cs xs b v fs := h.quiet (Below.refl _ w).drew
theorem Sg.set (h : Sg w0 ws w g bT bQ cs xs b v fs) (i : Nat) (u : Value) : Sg w0 ws (w.setCell ⟨bT, i, none⟩ u) g bT bQ (cs.setIfInBounds i u) xs b v fs :=
  ⟨h.st.set i u, blk_far h.qk h.qne u, h.qge, h.qne, own_setCell h.own (own_ne h.own h.st.tk (by decide)) u⟩
theorem Sg.grow (h : Sg w0 ws w g bT bQ cs xs b v fs) (hg : w.grownBy w' v.ownBlock) (ho : w'.ownsRow ws.heap.size 26 1 v' fs'.length (nums .u64 fs')) : Sg w0 ws w' g bT bQ cs xs b v' fs' := by
  obtain ⟨A, c0, hb, h1, h2, h3⟩ := h.st.rdr
  have hne : some g ≠ v.ownBlock := own_ne h.own hb (by decide)
  exact ⟨⟨h.st.bel.grown hg h.st.bel.size (fun k hk => Nat.le_trans h.st.older (own_base h.own k hk)), ⟨A, c0, blk_grown hb hg hne, h1, h2, h3⟩, h.st.mod.grown hg (fun k hk hlt => by have := own_base h.own k hk; omega), blk_grown h.st.tk hg (own_ne h.own h.st.tk (by decide)), h.st.ge, h.st.old, h.st.older⟩,
    blk_grown h.qk hg (own_ne h.own h.qk (by decide)), h.qge, h.qne, ho⟩
theorem Sg.cell (h : Sg w0 ws w g bT bQ cs xs b v fs) (i : Nat) : w.cell? ⟨bT, i, none⟩ = cs[i]? := blk_cell h.st.tk i
theorem Sg.free (h : Sg w0 ws w g bT bQ cs xs b v fs) (i : Nat) : w.frozen? ⟨bT, i, none⟩ = false := blk_frozen h.st.tk i
theorem Sg.qcell (h : Sg w0 ws w g bT bQ cs xs b v fs) (i : Nat) : w.cell? ⟨bQ, i, none⟩ = z66[i]? := blk_cell h.qk i
theorem Sg.qfree (h : Sg w0 ws w g bT bQ cs xs b v fs) (i : Nat) : w.frozen? ⟨bQ, i, none⟩ = false := blk_frozen h.qk i
/-- The result's block, when it is written. -/
theorem Sg.res (h : Sg w0 ws w g bT bQ cs xs b v fs) : Sr w0 ws w g bQ z66 66 xs b := ⟨h.st.bel, h.st.rdr, h.st.mod, h.qk, h.qge, h.st.old, h.st.older⟩
theorem Sg.row (h : Sg w0 ws w g bT bQ cs xs b v fs) : ∃ A n c, v = .slice A n c ∧ n ≤ c ∧ n = fs.length ∧ Kd.C (Kd.int .u64) w A n fs := by
  obtain ⟨A, c, e, hr⟩ := own_reads h.own
  subst e
  exact ⟨A, _, c, rfl, own_cap h.own, rfl, Kd.C_of_reads (d := (0 : Int)) hr⟩
end

def IntAt (w0 w : World) (g : Nat) (xs : List Int) (b : Bool) (e : Ending) (w' : World) : Prop :=
  ∃ n ys c, rInt (xs, b) = (n, (ys, c)) ∧ e = .returned (.int .i64 n) ∧ -9223372036854775808 ≤ n ∧ n ≤ 9223372036854775807 ∧ Byt ys ∧ Mod (· = g) w w' ∧ Rdr w0 w' g ys c
theorem Int_step {w0 w : World} {g : Nat} {xs : List Int} {b : Bool} (hB : Below w0.heap.size w0 w) (h : Rdr w0 w g xs b) (hb : Byt xs) :
    Calls Try.prog 23 #[.pointer (some ⟨g, 0, none⟩)] w (IntAt w0 w g xs b) := by
  refine (Int_calls hB h hb).mono fun e w' ⟨h1, h2, h3⟩ => ?_
  have hr := rInt_range (s := (xs, b)) hb
  exact ⟨_, _, _, rfl, h2, hr.1, hr.2, rInt_byt (s := (xs, b)) hb, h1, h3⟩
def FlagAt (w0 w : World) (g : Nat) (xs : List Int) (b : Bool) (e : Ending) (w' : World) : Prop :=
  ∃ n ys c, rFlag (xs, b) = (n, (ys, c)) ∧ e = .returned (.bool n) ∧ Byt ys ∧ Mod (· = g) w w' ∧ Rdr w0 w' g ys c
theorem Flag_step {w0 w : World} {g : Nat} {xs : List Int} {b : Bool} (hB : Below w0.heap.size w0 w) (h : Rdr w0 w g xs b) (hb : Byt xs) :
    Calls Try.prog 85 #[.pointer (some ⟨g, 0, none⟩)] w (FlagAt w0 w g xs b) := by
  refine (Flag_calls hB h hb).mono fun e w' ⟨h1, h2, h3⟩ => ?_
  exact ⟨_, _, _, rfl, h2, rFlag_byt (s := (xs, b)) hb, h1, h3⟩
def TkAt (w0 w : World) (g : Nat) (xs : List Int) (b : Bool) (e : Ending) (w' : World) : Prop :=
  ∃ tk ok ys c, tkGet (xs, b) = ((tk, ok), (ys, c)) ∧ e = .returned (.tuple #[.agg #[.int .u64 tk.id, .int .i64 tk.contract, .int .i64 tk.state, .int .i64 tk.level, .int .u64 tk.gen, .int .i64 tk.frm, .int .i64 tk.left, .int .i64 tk.due, .int .i64 tk.told], .bool ok]) ∧ tk.ok ∧ Byt ys ∧ Mod (· = g) w w' ∧ Rdr w0 w' g ys c
theorem Tk_step {w0 w : World} {g : Nat} {xs : List Int} {b : Bool} (hB : Below w0.heap.size w0 w) (h : Rdr w0 w g xs b) (hb : Byt xs) (hws : w0.heap.size ≤ w.heap.size) :
    Calls Try.prog 155 #[.pointer (some ⟨g, 0, none⟩)] w (TkAt w0 w g xs b) := by
  refine (tread_calls hB h hb hws).mono fun e w' ⟨h1, h2, h3, h4⟩ => ?_
  exact ⟨_, _, _, _, rfl, h1, h2, tkGet_byt (s := (xs, b)) hb, h3, h4⟩
def RIntAt (w0 w : World) (g : Nat) (xs : List Int) (b : Bool) (e : Ending) (w' : World) : Prop :=
  ∃ n ys c, rInt (xs, b) = (n, (ys, c)) ∧ e = .returned (.int .i64 n) ∧ -9223372036854775808 ≤ n ∧ n ≤ 9223372036854775807 ∧ Byt ys ∧ Mod (· = g) w w' ∧ Ref w0 w' g ys c
theorem RInt_step {w0 w : World} {g : Nat} {xs : List Int} {b : Bool} (hB : Below w0.heap.size w0 w) (h : Ref w0 w g xs b) (hb : Byt xs) :
    Calls Try.prog 140 #[.pointer (some ⟨g, 0, none⟩)] w (RIntAt w0 w g xs b) := by
  refine (RInt_calls hB h hb).mono fun e w' ⟨h1, h2, h3⟩ => ?_
  have hr := rInt_range (s := (xs, b)) hb
  exact ⟨_, _, _, rfl, h2, hr.1, hr.2, rInt_byt (s := (xs, b)) hb, h1, h3⟩
def RFlagAt (w0 w : World) (g : Nat) (xs : List Int) (b : Bool) (e : Ending) (w' : World) : Prop :=
  ∃ n ys c, rFlag (xs, b) = (n, (ys, c)) ∧ e = .returned (.bool n) ∧ Byt ys ∧ Mod (· = g) w w' ∧ Ref w0 w' g ys c
theorem RFlag_step {w0 w : World} {g : Nat} {xs : List Int} {b : Bool} (hB : Below w0.heap.size w0 w) (h : Ref w0 w g xs b) (hb : Byt xs) :
    Calls Try.prog 141 #[.pointer (some ⟨g, 0, none⟩)] w (RFlagAt w0 w g xs b) := by
  refine (RFlag_calls hB h hb).mono fun e w' ⟨h1, h2, h3⟩ => ?_
  exact ⟨_, _, _, rfl, h2, rFlag_byt (s := (xs, b)) hb, h1, h3⟩
def RTkAt (w0 w : World) (g : Nat) (xs : List Int) (b : Bool) (e : Ending) (w' : World) : Prop :=
  ∃ tk ok ys c, tkGet (xs, b) = ((tk, ok), (ys, c)) ∧ e = .returned (.tuple #[.agg #[.int .u64 tk.id, .int .i64 tk.contract, .int .i64 tk.state, .int .i64 tk.level, .int .u64 tk.gen, .int .i64 tk.frm, .int .i64 tk.left, .int .i64 tk.due, .int .i64 tk.told], .bool ok]) ∧ tk.ok ∧ Byt ys ∧ Mod (· = g) w w' ∧ Ref w0 w' g ys c
theorem RTk_step {w0 w : World} {g : Nat} {xs : List Int} {b : Bool} (hB : Below w0.heap.size w0 w) (h : Ref w0 w g xs b) (hb : Byt xs) (hws : w0.heap.size ≤ w.heap.size) :
    Calls Try.prog 157 #[.pointer (some ⟨g, 0, none⟩)] w (RTkAt w0 w g xs b) := by
  refine (rtread_calls hB h hb hws).mono fun e w' ⟨h1, h2, h3, h4⟩ => ?_
  exact ⟨_, _, _, _, rfl, h1, h2, tkGet_byt (s := (xs, b)) hb, h3, h4⟩

end Go.Proofs.Ytabdjehnglmlpaa
end

section
/- reply.Read. -/
namespace Go.Proofs.Ytabdjehnglmlpaa
open Go.RowKit Go.Proofs.YtabdjehnglmlpaaW.PrintWords
set_option linter.unusedVariables false
set_option linter.unusedSimpArgs false

def RpPost (w0 ws : World) (g : Nat) (q : (Rp × Bool) × Rs) (e : Ending) (w' : World) : Prop :=
  ∃ A n c, e = .returned (.tuple #[q.1.1.val A n c, .bool q.1.2]) ∧ n ≤ c ∧ (∀ ad, A = some ad → ws.heap.size ≤ ad.block) ∧ Kd.C (Kd.int .u64) w' A n q.1.1.fired ∧ q.1.1.ok ∧ Mod (· = g) ws w' ∧ Rdr w0 w' g q.2.1 q.2.2

theorem rpTk_true (s : Rs) : rpTk true s = tkGet s := by unfold rpTk; rw [if_pos rfl]
theorem rpTk_false (s : Rs) : rpTk false s = ((Tk.zero, true), s) := by unfold rpTk; rw [if_neg (by decide)]
theorem U64.snoc {fs : List Int} {n : Int} (h : U64 fs) (h0 : 0 ≤ n) (h1 : n ≤ 18446744073709551615) : U64 (fs ++ [n]) := fun x hx => by
  rcases List.mem_append.1 hx with hx | hx
  · exact h x hx
  · rw [List.mem_singleton.1 hx]; exact ⟨h0, h1⟩
theorem own64_C {w : World} {base n c m : Nat} {A : Option Addr} {fs : List Int} (h : w.ownsRow base 26 1 (.slice A n c) m (nums .u64 fs)) (hm : m = fs.length := by rfl) : Kd.C (Kd.int .u64) w A n fs := by
  subst hm
  obtain ⟨A', c', e, hr⟩ := own_reads h
  injection e with e1 e2 e3
  subst e1 e2 e3
  exact Kd.C_of_reads (d := (0 : Int)) hr
theorem Rp.zero_ok : Rp.zero.ok := ⟨by decide, by decide, Tk.zero_ok, (fun x hx => nomatch hx), by decide, by decide⟩

set_option maxRecDepth 100000 in
set_option maxHeartbeats 8000000 in
theorem rread_calls {w0 w : World} {g : Nat} {xs : List Int} {b : Bool} (hB : Below w0.heap.size w0 w) (h : Rdr w0 w g xs b) (hb : Byt xs) (hws : w0.heap.size ≤ w.heap.size) :
    Calls Try.prog 100 #[.pointer (some ⟨g, 0, none⟩)] w (RpPost w0 w g (rpGet (xs, b))) := by
  have hg := h.ge
  have hglt := hg.2
  have Z0 := Lib.hid (show St w0 w (w.alloc (.cells #[.int .i64 0, .int .i64 0, .int .u64 0, .int .i64 0, .int .i64 0, .int .i64 0, .int .u64 0, .int .i64 0, .int .i64 0, .int .i64 0, .int .i64 0, .slice none 0 0, .int .u64 0, .int .i64 0] 66)) g w.heap.size z66 66 xs b from
    ⟨hB.alloc hws _, h.alloc _, (Mod.refl _ _).alloc _, heap_alloc_new w _, Nat.le_refl _, hglt, hws⟩)
  have HY := Lib.hid hb
  clear hB h hb hg
  go_enter Try.func100, Try.ntmps100
  go_wp2_with fail
  with_reducible refine (Z0.out.num HY.out 99 (by decide)).mono ?_
  rintro e w1 ⟨n0, y0, b0, hq0, rfl, lo0, hi0, hy0, hm, hr⟩
  have E0 := Lib.hid hq0; have HY0 := Lib.hid hy0; have Z1 := Lib.hid (Z0.out.call hm hr)
  clear hq0 hy0 hm hr Z0
  go_wp2_with fail
  with_reducible refine (Int_step Z1.out.bel Z1.out.rdr HY0.out).mono ?_
  rintro e w2 ⟨n1, y1, b1, hq1, rfl, lo1, hi1, hy1, hm, hr⟩
  have E1 := Lib.hid hq1; have HY1 := Lib.hid hy1
  have hsz : w.heap.size < w2.heap.size := blk_lt (Z1.out.call hm hr).tk
  have Z2 := Lib.hid ((Z1.out.call hm hr).quiet ((Below.refl _ _).alloc (Nat.le_refl _) (.cells #[.int .i64 n0, .int .i64 n1, .int .u64 0, .int .i64 0, .int .i64 0, .int .i64 0, .int .u64 0, .int .i64 0, .int .i64 0, .int .i64 0, .int .i64 0, .slice none 0 0, .int .u64 0, .int .i64 0] 66)))
  have P2 := Lib.hid (show Sf w0 w (w2.alloc (.cells #[.int .i64 n0, .int .i64 n1, .int .u64 0, .int .i64 0, .int .i64 0, .int .i64 0, .int .u64 0, .int .i64 0, .int .i64 0, .int .i64 0, .int .i64 0, .slice none 0 0, .int .u64 0, .int .i64 0] 66)) g w2.heap.size w.heap.size #[.int .i64 n0, .int .i64 n1, .int .u64 0, .int .i64 0, .int .i64 0, .int .i64 0, .int .u64 0, .int .i64 0, .int .i64 0, .int .i64 0, .int .i64 0, .slice none 0 0, .int .u64 0, .int .i64 0] y1 b1 (.slice none 0 0) [] from
    ⟨⟨Z2.out.bel, Z2.out.rdr, Z2.out.mod, heap_alloc_new w2 _, by omega, Z2.out.old, Z2.out.older⟩, Z2.out.tk, Nat.le_refl _, by omega, World.ownsRow_nil _ _ _ _⟩)
  clear hq1 hy1 hm hr Z1 Z2
  go_wp2_with fail
  with_reducible refine (Flag_step P2.out.st.bel P2.out.st.rdr HY1.out).mono ?_
  rintro e w3 ⟨fl, y2, b2, hq2, rfl, hy2, hm, hr⟩
  have E2 := Lib.hid hq2; have HY2 := Lib.hid hy2; have P3 := Lib.hid (P2.out.call hm hr)
  clear hq2 hy2 hm hr P2
  go_upto_if 15 with fail
  go_cut [21] (fun _ wx => ∃ (tk : Tk) (ok : Bool) (ys : List Int) (c : Bool), Hid (rpTk fl (y2, b2) = ((tk, ok), (ys, c))) ∧ Hid tk.ok ∧ Hid (Byt ys) ∧ Hid (Sf w0 w wx g w2.heap.size w.heap.size #[.int .i64 n0, .int .i64 n1, .int .u64 tk.id, .int .i64 tk.contract, .int .i64 tk.state, .int .i64 tk.level, .int .u64 tk.gen, .int .i64 tk.frm, .int .i64 tk.left, .int .i64 tk.due, .int .i64 tk.told, .slice none 0 0, .int .u64 0, .int .i64 0] ys c (.slice none 0 0) []))
  case first =>
    cases fl
    · go_wp2_with fail
      go_meet
      exact ⟨Tk.zero, true, y2, b2, rpTk_false _, Tk.zero_ok, HY2.out, P3.out⟩
    · go_wp2_with fail
      with_reducible refine (Tk_step P3.out.st.bel P3.out.st.rdr HY2.out (by have := P3.out.st.mod.size; omega)).mono ?_
      rintro e w4 ⟨tk, ok, y3, b3, hq3, rfl, htk, hy3, hm, hr⟩
      have E3 := Lib.hid hq3; have HY3 := Lib.hid hy3; have HK := Lib.hid htk; have P4 := Lib.hid (P3.out.call hm hr)
      clear hq3 hy3 hm hr P3 htk
      have c2 := P4.out.cell 2; have f2 := P4.out.free 2
      have c3 := P4.out.cell 3; have f3 := P4.out.free 3
      have c4 := P4.out.cell 4; have f4 := P4.out.free 4
      have c5 := P4.out.cell 5; have f5 := P4.out.free 5
      have c6 := P4.out.cell 6; have f6 := P4.out.free 6
      have c7 := P4.out.cell 7; have f7 := P4.out.free 7
      have c8 := P4.out.cell 8; have f8 := P4.out.free 8
      have c9 := P4.out.cell 9; have f9 := P4.out.free 9
      have c10 := P4.out.cell 10; have f10 := P4.out.free 10
      go_wp2_with fail
      go_meet
      have PF := Lib.hid (((((((((P4.out.set 2 (.int .u64 tk.id)).set 3 (.int .i64 tk.contract)).set 4 (.int .i64 tk.state)).set 5 (.int .i64 tk.level)).set 6 (.int .u64 tk.gen)).set 7 (.int .i64 tk.frm)).set 8 (.int .i64 tk.left)).set 9 (.int .i64 tk.due)).set 10 (.int .i64 tk.told))
      simp only [List.setIfInBounds_toArray, List.set_cons_succ, List.set_cons_zero] at PF
      exact ⟨tk, ok, y3, b3, (rpTk_true _).trans E3.out, HK.out, HY3.out, PF.out⟩
  case rest =>
    clear P3 HY2
    obtain ⟨tk, ok, y3, b3, E3, HK, HY3, P4⟩ := hcut
    go_wp2_with fail
    with_reducible refine (Num_step 64 P4.out.st.bel P4.out.st.rdr HY3.out (by decide)).mono ?_
    rintro e w5 ⟨n4, y4, b4, hq4, rfl, lo4, hi4, hy4, hm, hr⟩
    obtain ⟨m, rfl⟩ := Int.eq_ofNat_of_zero_le lo4
    have E4 := Lib.hid hq4; have HY4 := Lib.hid hy4; have P5 := Lib.hid (P4.out.call hm hr)
    clear hq4 hy4 hm hr P4 HY3
    go_wp2_with fail
    go_loopw [24] (fun i wr => ∃ (k : Nat) (v : Value) (fs ys : List Int) (c : Bool), i = .int .u64 k ∧ k ≤ m ∧ Hid (rpLoop k (y4, b4) = (fs, (ys, c))) ∧ Hid (fs.length = k ∧ U64 fs ∧ Byt ys) ∧ Hid (Sf w0 w wr g w2.heap.size w.heap.size #[.int .i64 n0, .int .i64 n1, .int .u64 tk.id, .int .i64 tk.contract, .int .i64 tk.state, .int .i64 tk.level, .int .u64 tk.gen, .int .i64 tk.frm, .int .i64 tk.left, .int .i64 tk.due, .int .i64 tk.told, v, .int .u64 0, .int .i64 0] ys c v fs)) (fun i _ => m - (intOf i).toNat)
    case atStart => exact ⟨0, _, [], y4, b4, rfl, Nat.zero_le _, rfl, ⟨rfl, (fun x hx => nomatch hx), HY4.out⟩, P5.out⟩
    case round =>
      clear P5 HY4
      obtain ⟨k, v, fs, ys, c, rfl, hk, EL, HL, HP⟩ := hrel
      by_cases hlt : k < m
      · have PD := Lib.hid HP.out.drew
        clear HP
        have c11 := PD.out.cell 11
        have hk64 : k ≤ 64 := by omega
        go_upto_region 7 with fail
        refine wp_region_any (by kernel_rfl) ?_
        try (change wpAny _ _ _ _ _ _ _ (World.drew _))
        refine wpAny_take (i := 0) (v := ?_) rfl (by kernel_rfl) (by kernel_rfl) (by kernel_rfl) (fun _ _ _ h => h) (Or.inl ⟨by rfl, ?_⟩) ?_
        rotate_left
        · intro w; go_simp; try with_reducible rfl
        refine wpAny_take (i := 2) (v := ?_) rfl (by kernel_rfl) (by kernel_rfl) (by kernel_rfl) (fun _ _ _ h => h) (Or.inl ⟨by rfl, ?_⟩) ?_
        rotate_left
        · intro w; go_simp; try with_reducible rfl
        refine wpAny_lay (fun K hK => ?_)
        go_simp
        refine hK _ _ ?_
        clear hK K
        refine wpAny_ready (rs := [1, 3]) (by kernel_rfl) (by simp) ?_
        refine AllReady.cons rfl (fun K hK => ?wa) (AllReady.cons rfl (fun K hK => ?wb) AllReady.nil)
        case' wa =>
          go_simp
          refine hK _ _ ?_
          clear hK K
          refine wpAny_ready (rs := [3]) (by kernel_rfl) (by simp) ?_
          refine AllReady.cons rfl (fun K hK => ?_) AllReady.nil
          go_simp
          go_wp2_with fail
          with_reducible refine (Num_step 18446744073709551615 PD.out.st.bel PD.out.st.rdr HL.out.2.2 (by decide)).mono ?_
          rintro e w7 ⟨n, y7, b7, hq7, rfl, lo7, hi7, hy7, hm, hr⟩
          have E7 := Lib.hid hq7; have HY7 := Lib.hid hy7; have P7 := Lib.hid (PD.out.call hm hr)
          clear hq7 hy7 hm hr c11
          go_wp2_with fail
          refine wpAny_ready (rs := [4]) (by kernel_rfl) (by simp) ?_
          refine AllReady.cons rfl (fun K hK => ?_) AllReady.nil
          go_simp
          refine hK _ _ ?_
          clear hK K
        case' wb =>
          go_simp
          go_wp2_with fail
          with_reducible refine (Num_step 18446744073709551615 PD.out.st.bel PD.out.st.rdr HL.out.2.2 (by decide)).mono ?_
          rintro e w7 ⟨n, y7, b7, hq7, rfl, lo7, hi7, hy7, hm, hr⟩
          have E7 := Lib.hid hq7; have HY7 := Lib.hid hy7; have P7 := Lib.hid (PD.out.call hm hr)
          clear hq7 hy7 hm hr c11
          have c11 := P7.out.cell 11
          go_wp2_with fail
          refine wpAny_ready (rs := [1, 4]) (by kernel_rfl) (by simp) ?_
          refine AllReady.cons rfl (fun K hK => ?wc) (AllReady.cons rfl (fun K hK => ?wd) AllReady.nil)
        case' wc =>
          go_simp
          refine hK _ _ ?_
          clear hK K c11
          refine wpAny_ready (rs := [4]) (by kernel_rfl) (by simp) ?_
          refine AllReady.cons rfl (fun K hK => ?_) AllReady.nil
          go_simp
          refine hK _ _ ?_
          clear hK K
        case' wd =>
          have c11b := (P7.out.quiet ((Below.refl _ _).alloc (Nat.le_refl _) (.cells #[.int .u64 n] 26))).cell 11
          clear c11
          go_simp
          refine hK _ _ ?_
          clear hK K
          refine wpAny_ready (rs := [1]) (by kernel_rfl) (by simp) ?_
          refine AllReady.cons rfl (fun K hK => ?_) AllReady.nil
          go_simp
          refine hK _ _ ?_
          clear hK K
          clear c11b
        all_goals
          refine wpAny_ready (rs := [5]) (by kernel_rfl) (by simp) ?_
          refine AllReady.cons rfl (fun K hK => ?_) AllReady.nil
          refine step_append_cells (w0 := w7) w.heap.size (by rfl) _ _ 64 26 (.int .u64 0) 1 8 (by rfl) Try.underlying64 info26 rfl (by decide) (by decide) v fs.length (nums .u64 fs) [.int .u64 n] (by rfl) (by rfl) rfl (by simp [Value.oneCell']) P7.out.own ((Below.refl w7.heap.size w7).mono P7.out.st.mod.size) P7.out.st.mod.size (by have := HL.out.1; omega) ?_
          intro v8 w8 hown hbel hgrow hat
          obtain ⟨A8, m8, k8, rfl⟩ := own_form hown
          have hown2 : w8.ownsRow w.heap.size 26 1 (.slice A8 m8 k8) (fs ++ [n]).length (nums .u64 (fs ++ [n])) := by
            rw [nums_append, List.length_append]; exact hown
          have P8 := Lib.hid (P7.out.grow hgrow hown2)
          clear hown hbel hgrow hat hown2
          refine hK _ _ ?_
          clear hK K
          refine wpAny_take (i := 6) (v := ?_) rfl (by kernel_rfl) (by kernel_rfl) (by kernel_rfl) (fun _ _ _ h => h) (Or.inl ⟨by rfl, ?_⟩) ?_
          rotate_left
          · intro w; go_simp; try with_reducible rfl
          have f11 := P8.out.free 11
          have c11 := P8.out.cell 11
          refine wpAny_ready (rs := [7]) (by kernel_rfl) (by simp) ?_
          refine AllReady.cons rfl (fun K hK => ?_) AllReady.nil
          go_simp
          refine hK _ _ ?_
          clear hK K
          refine wpAny_done (by kernel_rfl) ?_ _
          go_wp2_with fail
          go_roundw
          case rel => exact ⟨k + 1, .slice A8 m8 k8, fs ++ [n], y7, b7, by go_num, by omega, rpLoop_step EL.out E7.out, ⟨by have := HL.out.1; simp; omega, U64.snoc HL.out.2.1 lo7 hi7, HY7.out⟩, P8.out.set 11 (.slice A8 m8 k8)⟩
          case measure => simp [intOf]; omega
      · obtain rfl : m = k := by omega
        obtain ⟨AF, mf, cf, rfl, hcf, hmf, hCF⟩ := HP.out.row
        clear hCF
        go_wp2_with fail
        with_reducible refine (Num_step 18446744073709551615 HP.out.st.bel HP.out.st.rdr HL.out.2.2 (by decide)).mono ?_
        rintro e w8 ⟨n6, y6, b6, hq6, rfl, lo6, hi6, hy6, hm, hr⟩
        have E6 := Lib.hid hq6; have HY6 := Lib.hid hy6; have P6 := Lib.hid (HP.out.call hm hr)
        clear hq6 hy6 hm hr HP
        go_wp2_with fail
        with_reducible refine (Num_step 128 P6.out.st.bel P6.out.st.rdr HY6.out (by decide)).mono ?_
        rintro e w9 ⟨n7, y7, b7, hq7, rfl, lo7, hi7, hy7, hm, hr⟩
        have U := P6.out.call hm hr
        have c12 := U.cell 12; have f12 := U.free 12; have c13 := U.cell 13; have f13 := U.free 13
        have E7 := Lib.hid hq7; have HY7 := Lib.hid hy7; have P7 := Lib.hid ((U.set 12 (.int .u64 n6)).set 13 (.int .i64 n7))
        clear hq7 hy7 hm hr P6 U HY6
        simp only [List.setIfInBounds_toArray, List.set_cons_succ, List.set_cons_zero] at P7
        have ET := Lib.hid (rpRead_eq E0.out E1.out E2.out E3.out E4.out EL.out E6.out E7.out)
        have OK : Rp.ok ⟨n0, n1, tk, fs, n6, n7⟩ := ⟨⟨by simp only; omega, by simp only; omega⟩, ⟨lo1, hi1⟩, HK.out, HL.out.2.1, ⟨lo6, hi6⟩, ⟨by simp only; omega, by simp only; omega⟩⟩
        have HOK := Lib.hid OK
        have hlf := HL.out.1
        have HTS := Lib.hid (fun W => rpS_calls W ⟨n0, n1, tk, fs, n6, n7⟩ OK AF mf cf hmf.symm (by omega))
        simp only [Rp.val] at HTS
        have BC := Lib.hid (Bad_calls P7.out.st.rdr)
        have HMF := Lib.hid hmf
        have HLF := Lib.hid hlf
        clear OK E0 E1 E2 E3 E4 EL E6 E7 hmf hlf
        revert BC ET P7
        cases b7
        · intro P7 ET BC
          have t0 := P7.out.cell 0
          have t1 := P7.out.cell 1
          have t2 := P7.out.cell 2
          have t3 := P7.out.cell 3
          have t4 := P7.out.cell 4
          have t5 := P7.out.cell 5
          have t6 := P7.out.cell 6
          have t7 := P7.out.cell 7
          have t8 := P7.out.cell 8
          have t9 := P7.out.cell 9
          have t10 := P7.out.cell 10
          have t11 := P7.out.cell 11
          have t12 := P7.out.cell 12
          have t13 := P7.out.cell 13
          cases hs : rpSound ⟨n0, n1, tk, fs, n6, n7⟩
          · have EG : Hid (rpGet (xs, b) = ((Rp.zero, false), rFail)) := by
              show rpGet (xs, b) = _
              unfold rpGet; rw [ET.out]; simp [hs]
            have HS := Lib.hid hs
            clear hs ET
            go_wp2_with fail
            with_reducible refine BC.out.mono ?_
            rintro e w10 ⟨rfl, rfl⟩
            go_wp2_with fail
            with_reducible refine (HTS.out _).mono ?_
            rintro e w11 ⟨rfl, hb⟩
            rw [HS.out]
            have P10 := Lib.hid (P7.out.quiet hb)
            clear hb t0 t1 t2 t3 t4 t5 t6 t7 t8 t9 t10 t11 t12 t13 P7 BC
            go_wp2_with fail
            with_reducible refine (fail_step P10.out.st.rdr).mono ?_
            rintro e w12 ⟨rfl, hm, hr⟩
            have P11 := Lib.hid (P10.out.call hm hr)
            clear hm hr P10
            have q0 : w12.cell? ⟨w.heap.size, 0, none⟩ = some (.int .i64 0) := P11.out.qcell 0; have r0 := P11.out.qfree 0
            have q1 : w12.cell? ⟨w.heap.size, 1, none⟩ = some (.int .i64 0) := P11.out.qcell 1; have r1 := P11.out.qfree 1
            have q2 : w12.cell? ⟨w.heap.size, 2, none⟩ = some (.int .u64 0) := P11.out.qcell 2; have r2 := P11.out.qfree 2
            have q3 : w12.cell? ⟨w.heap.size, 3, none⟩ = some (.int .i64 0) := P11.out.qcell 3; have r3 := P11.out.qfree 3
            have q4 : w12.cell? ⟨w.heap.size, 4, none⟩ = some (.int .i64 0) := P11.out.qcell 4; have r4 := P11.out.qfree 4
            have q5 : w12.cell? ⟨w.heap.size, 5, none⟩ = some (.int .i64 0) := P11.out.qcell 5; have r5 := P11.out.qfree 5
            have q6 : w12.cell? ⟨w.heap.size, 6, none⟩ = some (.int .u64 0) := P11.out.qcell 6; have r6 := P11.out.qfree 6
            have q7 : w12.cell? ⟨w.heap.size, 7, none⟩ = some (.int .i64 0) := P11.out.qcell 7; have r7 := P11.out.qfree 7
            have q8 : w12.cell? ⟨w.heap.size, 8, none⟩ = some (.int .i64 0) := P11.out.qcell 8; have r8 := P11.out.qfree 8
            have q9 : w12.cell? ⟨w.heap.size, 9, none⟩ = some (.int .i64 0) := P11.out.qcell 9; have r9 := P11.out.qfree 9
            have q10 : w12.cell? ⟨w.heap.size, 10, none⟩ = some (.int .i64 0) := P11.out.qcell 10; have r10 := P11.out.qfree 10
            have q11 : w12.cell? ⟨w.heap.size, 11, none⟩ = some (.slice none 0 0) := P11.out.qcell 11; have r11 := P11.out.qfree 11
            have q12 : w12.cell? ⟨w.heap.size, 12, none⟩ = some (.int .u64 0) := P11.out.qcell 12; have r12 := P11.out.qfree 12
            have q13 : w12.cell? ⟨w.heap.size, 13, none⟩ = some (.int .i64 0) := P11.out.qcell 13; have r13 := P11.out.qfree 13
            go_wp2
            have QF := Lib.hid ((((((((((((((P11.out.res.set 0 (.int .i64 0)).set 1 (.int .i64 0)).set 2 (.int .u64 0)).set 3 (.int .i64 0)).set 4 (.int .i64 0)).set 5 (.int .i64 0)).set 6 (.int .u64 0)).set 7 (.int .i64 0)).set 8 (.int .i64 0)).set 9 (.int .i64 0)).set 10 (.int .i64 0)).set 11 (.slice none 0 0)).set 12 (.int .u64 0)).set 13 (.int .i64 0))
            have z0 := (QF.out.cell 0).trans rfl
            have z1 := (QF.out.cell 1).trans rfl
            have z2 := (QF.out.cell 2).trans rfl
            have z3 := (QF.out.cell 3).trans rfl
            have z4 := (QF.out.cell 4).trans rfl
            have z5 := (QF.out.cell 5).trans rfl
            have z6 := (QF.out.cell 6).trans rfl
            have z7 := (QF.out.cell 7).trans rfl
            have z8 := (QF.out.cell 8).trans rfl
            have z9 := (QF.out.cell 9).trans rfl
            have z10 := (QF.out.cell 10).trans rfl
            have z11 := (QF.out.cell 11).trans rfl
            have z12 := (QF.out.cell 12).trans rfl
            have z13 := (QF.out.cell 13).trans rfl
            refine bodyPost_ret (v := .tuple #[.agg #[(.int .i64 0), (.int .i64 0), (.int .u64 0), (.int .i64 0), (.int .i64 0), (.int .i64 0), (.int .u64 0), (.int .i64 0), (.int .i64 0), (.int .i64 0), (.int .i64 0), (.slice none 0 0), (.int .u64 0), (.int .i64 0)], .bool false]) (by simp [results, Try.results100, go_sem, z66, z0, z1, z2, z3, z4, z5, z6, z7, z8, z9, z10, z11, z12, z13]) rfl ?_
            refine ⟨none, 0, 0, ?_, Nat.le_refl _, (fun ad h => nomatch h), ?_, ?_, QF.out.mod, ?_⟩
            · rw [EG.out]; rfl
            · rw [EG.out]; exact nil_reads
            · rw [EG.out]; exact Rp.zero_ok
            · rw [EG.out]; exact QF.out.rdr
          · have EG : Hid (rpGet (xs, b) = ((⟨n0, n1, tk, fs, n6, n7⟩, true), (y7, false))) := by
              show rpGet (xs, b) = _
              unfold rpGet; rw [ET.out]; simp [hs]
            have HS := Lib.hid hs
            clear hs ET
            go_wp2_with fail
            with_reducible refine BC.out.mono ?_
            rintro e w10 ⟨rfl, rfl⟩
            go_wp2_with fail
            with_reducible refine (HTS.out _).mono ?_
            rintro e w11 ⟨rfl, hb⟩
            rw [HS.out]
            have P10 := Lib.hid (P7.out.quiet hb)
            clear hb t0 t1 t2 t3 t4 t5 t6 t7 t8 t9 t10 t11 t12 t13 P7 BC
            have t0 := P10.out.cell 0
            have t1 := P10.out.cell 1
            have t2 := P10.out.cell 2
            have t3 := P10.out.cell 3
            have t4 := P10.out.cell 4
            have t5 := P10.out.cell 5
            have t6 := P10.out.cell 6
            have t7 := P10.out.cell 7
            have t8 := P10.out.cell 8
            have t9 := P10.out.cell 9
            have t10 := P10.out.cell 10
            have t11 := P10.out.cell 11
            have t12 := P10.out.cell 12
            have t13 := P10.out.cell 13
            have q0 : w11.cell? ⟨w.heap.size, 0, none⟩ = some (.int .i64 0) := P10.out.qcell 0; have r0 := P10.out.qfree 0
            have q1 : w11.cell? ⟨w.heap.size, 1, none⟩ = some (.int .i64 0) := P10.out.qcell 1; have r1 := P10.out.qfree 1
            have q2 : w11.cell? ⟨w.heap.size, 2, none⟩ = some (.int .u64 0) := P10.out.qcell 2; have r2 := P10.out.qfree 2
            have q3 : w11.cell? ⟨w.heap.size, 3, none⟩ = some (.int .i64 0) := P10.out.qcell 3; have r3 := P10.out.qfree 3
            have q4 : w11.cell? ⟨w.heap.size, 4, none⟩ = some (.int .i64 0) := P10.out.qcell 4; have r4 := P10.out.qfree 4
            have q5 : w11.cell? ⟨w.heap.size, 5, none⟩ = some (.int .i64 0) := P10.out.qcell 5; have r5 := P10.out.qfree 5
            have q6 : w11.cell? ⟨w.heap.size, 6, none⟩ = some (.int .u64 0) := P10.out.qcell 6; have r6 := P10.out.qfree 6
            have q7 : w11.cell? ⟨w.heap.size, 7, none⟩ = some (.int .i64 0) := P10.out.qcell 7; have r7 := P10.out.qfree 7
            have q8 : w11.cell? ⟨w.heap.size, 8, none⟩ = some (.int .i64 0) := P10.out.qcell 8; have r8 := P10.out.qfree 8
            have q9 : w11.cell? ⟨w.heap.size, 9, none⟩ = some (.int .i64 0) := P10.out.qcell 9; have r9 := P10.out.qfree 9
            have q10 : w11.cell? ⟨w.heap.size, 10, none⟩ = some (.int .i64 0) := P10.out.qcell 10; have r10 := P10.out.qfree 10
            have q11 : w11.cell? ⟨w.heap.size, 11, none⟩ = some (.slice none 0 0) := P10.out.qcell 11; have r11 := P10.out.qfree 11
            have q12 : w11.cell? ⟨w.heap.size, 12, none⟩ = some (.int .u64 0) := P10.out.qcell 12; have r12 := P10.out.qfree 12
            have q13 : w11.cell? ⟨w.heap.size, 13, none⟩ = some (.int .i64 0) := P10.out.qcell 13; have r13 := P10.out.qfree 13
            go_wp2
            have QF := Lib.hid ((((((((((((((P10.out.res.set 0 (.int .i64 n0)).set 1 (.int .i64 n1)).set 2 (.int .u64 tk.id)).set 3 (.int .i64 tk.contract)).set 4 (.int .i64 tk.state)).set 5 (.int .i64 tk.level)).set 6 (.int .u64 tk.gen)).set 7 (.int .i64 tk.frm)).set 8 (.int .i64 tk.left)).set 9 (.int .i64 tk.due)).set 10 (.int .i64 tk.told)).set 11 (.slice AF mf cf)).set 12 (.int .u64 n6)).set 13 (.int .i64 n7))
            have z0 := (QF.out.cell 0).trans rfl
            have z1 := (QF.out.cell 1).trans rfl
            have z2 := (QF.out.cell 2).trans rfl
            have z3 := (QF.out.cell 3).trans rfl
            have z4 := (QF.out.cell 4).trans rfl
            have z5 := (QF.out.cell 5).trans rfl
            have z6 := (QF.out.cell 6).trans rfl
            have z7 := (QF.out.cell 7).trans rfl
            have z8 := (QF.out.cell 8).trans rfl
            have z9 := (QF.out.cell 9).trans rfl
            have z10 := (QF.out.cell 10).trans rfl
            have z11 := (QF.out.cell 11).trans rfl
            have z12 := (QF.out.cell 12).trans rfl
            have z13 := (QF.out.cell 13).trans rfl
            refine bodyPost_ret (v := .tuple #[.agg #[(.int .i64 n0), (.int .i64 n1), (.int .u64 tk.id), (.int .i64 tk.contract), (.int .i64 tk.state), (.int .i64 tk.level), (.int .u64 tk.gen), (.int .i64 tk.frm), (.int .i64 tk.left), (.int .i64 tk.due), (.int .i64 tk.told), (.slice AF mf cf), (.int .u64 n6), (.int .i64 n7)], .bool true]) (by simp [results, Try.results100, go_sem, z66, z0, z1, z2, z3, z4, z5, z6, z7, z8, z9, z10, z11, z12, z13]) rfl ?_
            have hneQ : some w.heap.size ≠ (Value.slice AF mf cf).ownBlock := own_ne P10.out.own P10.out.qk (by decide)
            have CO := (own_setCell (own_setCell (own_setCell (own_setCell (own_setCell (own_setCell (own_setCell (own_setCell (own_setCell (own_setCell (own_setCell (own_setCell (own_setCell (own_setCell P10.out.own (p := ⟨w.heap.size, 0, none⟩) hneQ (.int .i64 n0)) (p := ⟨w.heap.size, 1, none⟩) hneQ (.int .i64 n1)) (p := ⟨w.heap.size, 2, none⟩) hneQ (.int .u64 tk.id)) (p := ⟨w.heap.size, 3, none⟩) hneQ (.int .i64 tk.contract)) (p := ⟨w.heap.size, 4, none⟩) hneQ (.int .i64 tk.state)) (p := ⟨w.heap.size, 5, none⟩) hneQ (.int .i64 tk.level)) (p := ⟨w.heap.size, 6, none⟩) hneQ (.int .u64 tk.gen)) (p := ⟨w.heap.size, 7, none⟩) hneQ (.int .i64 tk.frm)) (p := ⟨w.heap.size, 8, none⟩) hneQ (.int .i64 tk.left)) (p := ⟨w.heap.size, 9, none⟩) hneQ (.int .i64 tk.due)) (p := ⟨w.heap.size, 10, none⟩) hneQ (.int .i64 tk.told)) (p := ⟨w.heap.size, 11, none⟩) hneQ (.slice AF mf cf)) (p := ⟨w.heap.size, 12, none⟩) hneQ (.int .u64 n6)) (p := ⟨w.heap.size, 13, none⟩) hneQ (.int .i64 n7))
            have CQ := Lib.hid (own64_C CO)
            have hfr : ∀ ad, AF = some ad → w.heap.size ≤ ad.block := fun ad h => own_base CO ad.block (by rw [h]; rfl)
            clear CO
            refine ⟨AF, mf, cf, ?_, hcf, hfr, ?_, ?_, QF.out.mod, ?_⟩
            · rw [EG.out]; rfl
            · rw [EG.out]; exact CQ.out
            · rw [EG.out]; exact HOK.out
            · rw [EG.out]; exact QF.out.rdr
        · intro P7 ET BC
          have EG : Hid (rpGet (xs, b) = ((Rp.zero, false), rFail)) := by
            show rpGet (xs, b) = _
            unfold rpGet; rw [ET.out]; simp
          clear ET
          go_wp2_with fail
          with_reducible refine BC.out.mono ?_
          rintro e w10 ⟨rfl, rfl⟩
          go_wp2_with fail
          with_reducible refine (fail_step P7.out.st.rdr).mono ?_
          rintro e w12 ⟨rfl, hm, hr⟩
          have P11 := Lib.hid (P7.out.call hm hr)
          clear hm hr P7 BC
          have q0 : w12.cell? ⟨w.heap.size, 0, none⟩ = some (.int .i64 0) := P11.out.qcell 0; have r0 := P11.out.qfree 0
          have q1 : w12.cell? ⟨w.heap.size, 1, none⟩ = some (.int .i64 0) := P11.out.qcell 1; have r1 := P11.out.qfree 1
          have q2 : w12.cell? ⟨w.heap.size, 2, none⟩ = some (.int .u64 0) := P11.out.qcell 2; have r2 := P11.out.qfree 2
          have q3 : w12.cell? ⟨w.heap.size, 3, none⟩ = some (.int .i64 0) := P11.out.qcell 3; have r3 := P11.out.qfree 3
          have q4 : w12.cell? ⟨w.heap.size, 4, none⟩ = some (.int .i64 0) := P11.out.qcell 4; have r4 := P11.out.qfree 4
          have q5 : w12.cell? ⟨w.heap.size, 5, none⟩ = some (.int .i64 0) := P11.out.qcell 5; have r5 := P11.out.qfree 5
          have q6 : w12.cell? ⟨w.heap.size, 6, none⟩ = some (.int .u64 0) := P11.out.qcell 6; have r6 := P11.out.qfree 6
          have q7 : w12.cell? ⟨w.heap.size, 7, none⟩ = some (.int .i64 0) := P11.out.qcell 7; have r7 := P11.out.qfree 7
          have q8 : w12.cell? ⟨w.heap.size, 8, none⟩ = some (.int .i64 0) := P11.out.qcell 8; have r8 := P11.out.qfree 8
          have q9 : w12.cell? ⟨w.heap.size, 9, none⟩ = some (.int .i64 0) := P11.out.qcell 9; have r9 := P11.out.qfree 9
          have q10 : w12.cell? ⟨w.heap.size, 10, none⟩ = some (.int .i64 0) := P11.out.qcell 10; have r10 := P11.out.qfree 10
          have q11 : w12.cell? ⟨w.heap.size, 11, none⟩ = some (.slice none 0 0) := P11.out.qcell 11; have r11 := P11.out.qfree 11
          have q12 : w12.cell? ⟨w.heap.size, 12, none⟩ = some (.int .u64 0) := P11.out.qcell 12; have r12 := P11.out.qfree 12
          have q13 : w12.cell? ⟨w.heap.size, 13, none⟩ = some (.int .i64 0) := P11.out.qcell 13; have r13 := P11.out.qfree 13
          go_wp2
          have QF := Lib.hid ((((((((((((((P11.out.res.set 0 (.int .i64 0)).set 1 (.int .i64 0)).set 2 (.int .u64 0)).set 3 (.int .i64 0)).set 4 (.int .i64 0)).set 5 (.int .i64 0)).set 6 (.int .u64 0)).set 7 (.int .i64 0)).set 8 (.int .i64 0)).set 9 (.int .i64 0)).set 10 (.int .i64 0)).set 11 (.slice none 0 0)).set 12 (.int .u64 0)).set 13 (.int .i64 0))
          have z0 := (QF.out.cell 0).trans rfl
          have z1 := (QF.out.cell 1).trans rfl
          have z2 := (QF.out.cell 2).trans rfl
          have z3 := (QF.out.cell 3).trans rfl
          have z4 := (QF.out.cell 4).trans rfl
          have z5 := (QF.out.cell 5).trans rfl
          have z6 := (QF.out.cell 6).trans rfl
          have z7 := (QF.out.cell 7).trans rfl
          have z8 := (QF.out.cell 8).trans rfl
          have z9 := (QF.out.cell 9).trans rfl
          have z10 := (QF.out.cell 10).trans rfl
          have z11 := (QF.out.cell 11).trans rfl
          have z12 := (QF.out.cell 12).trans rfl
          have z13 := (QF.out.cell 13).trans rfl
          refine bodyPost_ret (v := .tuple #[.agg #[(.int .i64 0), (.int .i64 0), (.int .u64 0), (.int .i64 0), (.int .i64 0), (.int .i64 0), (.int .u64 0), (.int .i64 0), (.int .i64 0), (.int .i64 0), (.int .i64 0), (.slice none 0 0), (.int .u64 0), (.int .i64 0)], .bool false]) (by simp [results, Try.results100, go_sem, z66, z0, z1, z2, z3, z4, z5, z6, z7, z8, z9, z10, z11, z12, z13]) rfl ?_
          refine ⟨none, 0, 0, ?_, Nat.le_refl _, (fun ad h => nomatch h), ?_, ?_, QF.out.mod, ?_⟩
          · rw [EG.out]; rfl
          · rw [EG.out]; exact nil_reads
          · rw [EG.out]; exact Rp.zero_ok
          · rw [EG.out]; exact QF.out.rdr

end Go.Proofs.Ytabdjehnglmlpaa
end

section
/- What is written of a reply is read back; what is read, written again, is what was read. -/
namespace Go.Proofs.Ytabdjehnglmlpaa
open Go.RowKit Go.Proofs.YtabdjehnglmlpaaW.PrintWords
set_option linter.unusedVariables false
set_option linter.unusedSimpArgs false

theorem encNs_cons (n : Int) (ns : List Int) : encNs (n :: ns) = encN n 0 ++ encNs ns := by simp [encNs]
theorem encNs_app (a b : List Int) : encNs (a ++ b) = encNs a ++ encNs b := by simp [encNs]
theorem tkRead_back {t : Tk} (ho : t.ok) (hs : tkSound t = true) (rest : List Int) : tkRead (tkEnc t ++ rest, false) = (t, (rest, false)) := by
  obtain ⟨p1, p2, p3, p4, p5, p6, p7, p8, q1, q2, q3, q4, q5, q6, q7, q8⟩ := tkSound_pos hs ho
  have i0 := ho.1.1
  have i1 := ho.1.2
  unfold tkEnc tkNums
  simp only [encNs_cons, List.append_assoc]
  rw [show encNs [] = [] from rfl, List.nil_append]
  exact tkRead_eq (rNum_back i0 (by omega) (by omega)) (rNum_back p1 (by omega) (by omega)) (rNum_back p2 (by omega) (by omega)) (rNum_back p3 (by omega) (by omega)) (rNum_back p4 (by omega) (by omega)) (rNum_back p5 (by omega) (by omega)) (rNum_back p6 (by omega) (by omega)) (rNum_back p7 (by omega) (by omega)) (rNum_back p8 (by omega) (by omega))
theorem tkGet_back {t : Tk} (ho : t.ok) (hs : tkSound t = true) (rest : List Int) : tkGet (tkEnc t ++ rest, false) = ((t, true), (rest, false)) := by
  unfold tkGet; rw [tkRead_back ho hs]; simp [hs]
theorem rpTk_back {t : Tk} (ho : t.ok) (hs : tkNone t = true ∨ tkSound t = true) (rest : List Int) : rpTk (!tkNone t) ((if tkNone t then [] else tkEnc t) ++ rest, false) = ((t, true), (rest, false)) := by
  cases hn : tkNone t
  · simp only [Bool.not_false, Bool.false_eq_true, if_false]
    rw [hn] at hs
    unfold rpTk
    rw [if_pos rfl]
    exact tkGet_back ho (hs.resolve_left Bool.false_ne_true) rest
  · have := tkNone_iff.1 hn
    subst this
    simp only [Bool.not_true, if_true, List.nil_append]
    unfold rpTk
    rw [if_neg (by decide)]
theorem rpLoop_back (d : Nat) : ∀ (fs rest : List Int), fs.length = d → U64 fs → rpLoop d (encNs fs ++ rest, false) = (fs, (rest, false)) := by
  induction d with
  | zero => intro fs rest h _; rw [List.eq_nil_of_length_eq_zero h]; rfl
  | succ d ih =>
    intro fs rest h hu
    rcases snoc_or_nil fs with rfl | ⟨gs, n, rfl⟩
    · cases h
    · have hl : gs.length = d := by simpa using h
      have h1 := ih gs (encN n 0 ++ rest) hl (fun x hx => hu x (List.mem_append_left _ hx))
      have hn := hu n (by simp)
      rw [encNs_app, encNs_cons, show encNs [] = [] from rfl, List.append_nil, List.append_assoc]
      exact rpLoop_step h1 (rNum_back hn.1 hn.2 hn.2)
theorem rpRead_back {r : Rp} (ho : r.ok) (hs : rpSound r = true) (rest : List Int) : rpRead (rpEnc r ++ rest, false) = (r, (rest, false)) := by
  obtain ⟨z1, z2, z3, z4, z5, z6, z7, z8⟩ := of_decide_eq_true hs
  obtain ⟨-, -, hk, hu, ⟨n0, n1⟩, -⟩ := ho
  unfold rpEnc
  simp only [encNs_cons, List.append_assoc]
  rw [show encNs [] = [] from rfl, List.nil_append]
  exact rpRead_eq (rNum_back z1 (by omega) z2) (rInt_back (by omega) (by omega)) rFlag_back (rpTk_back hk z8 _) (rNum_back (by omega) (by omega) (by omega)) (rpLoop_back _ _ _ rfl hu) (rNum_back n0 n1 n1) (rNum_back z6 (by omega) z7)
theorem rpGet_back {r : Rp} (ho : r.ok) (hs : rpSound r = true) (rest : List Int) : rpGet (rpEnc r ++ rest, false) = ((r, true), (rest, false)) := by
  unfold rpGet; rw [rpRead_back ho hs]; simp [hs]

/-! What is read, written again. -/
theorem num_enc {xs ys : List Int} {c : Bool} {most n : Int} (hb : Byt xs) (h : rNum (xs, false) most = (n, (ys, c))) (hc : c = false) : encN n 0 ++ ys = xs ∧ Byt ys := by
  have h1 := rNum_enc (xs := xs) (most := most) hb (by rw [h]; exact hc)
  have h2 := rNum_byt (s := (xs, false)) hb most
  rw [h] at h1 h2
  exact ⟨h1, h2⟩
theorem bad_false {s : Rs} {most n : Int} {ys : List Int} (h : rNum s most = (n, (ys, false))) : s.2 = false := by
  cases hs : s.2
  · rfl
  · have := rNum_bad most hs
    rw [h] at this
    cases this
theorem tkRead_enc {xs ys : List Int} {t : Tk} (hb : Byt xs) (h : tkRead (xs, false) = (t, (ys, false))) : tkEnc t ++ ys = xs := by
  unfold tkRead at h
  simp only [Prod.mk.injEq] at h
  obtain ⟨ht, hq⟩ := h
  rcases e0 : rNum (xs, false) 18446744073709551615 with ⟨n0, y0, c0⟩
  rw [e0] at ht hq; simp only at ht hq
  rcases e1 : rNum (y0, c0) 15 with ⟨n1, y1, c1⟩
  rw [e1] at ht hq; simp only at ht hq
  rcases e2 : rNum (y1, c1) 4 with ⟨n2, y2, c2⟩
  rw [e2] at ht hq; simp only at ht hq
  rcases e3 : rNum (y2, c2) 5 with ⟨n3, y3, c3⟩
  rw [e3] at ht hq; simp only at ht hq
  rcases e4 : rNum (y3, c3) 1152921504606846976 with ⟨n4, y4, c4⟩
  rw [e4] at ht hq; simp only at ht hq
  rcases e5 : rNum (y4, c4) 1125899906842624 with ⟨n5, y5, c5⟩
  rw [e5] at ht hq; simp only at ht hq
  rcases e6 : rNum (y5, c5) 1125899906842624 with ⟨n6, y6, c6⟩
  rw [e6] at ht hq; simp only at ht hq
  rcases e7 : rNum (y6, c6) 1125899906842624 with ⟨n7, y7, c7⟩
  rw [e7] at ht hq; simp only at ht hq
  rcases e8 : rNum (y7, c7) 2147483648 with ⟨n8, y8, c8⟩
  rw [e8] at ht hq; simp only at ht hq
  cases hq
  have h7 := bad_false e8; simp only at h7; subst h7
  have h6 := bad_false e7; simp only at h6; subst h6
  have h5 := bad_false e6; simp only at h5; subst h5
  have h4 := bad_false e5; simp only at h4; subst h4
  have h3 := bad_false e4; simp only at h3; subst h3
  have h2 := bad_false e3; simp only at h2; subst h2
  have h1 := bad_false e2; simp only at h1; subst h1
  have h0 := bad_false e1; simp only at h0; subst h0
  obtain ⟨g0, b0⟩ := num_enc hb e0 rfl
  obtain ⟨g1, b1⟩ := num_enc b0 e1 rfl
  obtain ⟨g2, b2⟩ := num_enc b1 e2 rfl
  obtain ⟨g3, b3⟩ := num_enc b2 e3 rfl
  obtain ⟨g4, b4⟩ := num_enc b3 e4 rfl
  obtain ⟨g5, b5⟩ := num_enc b4 e5 rfl
  obtain ⟨g6, b6⟩ := num_enc b5 e6 rfl
  obtain ⟨g7, b7⟩ := num_enc b6 e7 rfl
  obtain ⟨g8, b8⟩ := num_enc b7 e8 rfl
  subst ht
  unfold tkEnc tkNums
  simp only [encNs_cons, List.append_assoc]
  rw [show encNs [] = [] from rfl, List.nil_append, g8, g7, g6, g5, g4, g3, g2, g1, g0]
theorem tkGet_good {xs ys : List Int} {t : Tk} {ok : Bool} (hb : Byt xs) (h : tkGet (xs, false) = ((t, ok), (ys, false))) : tkSound t = true ∧ tkEnc t ++ ys = xs := by
  unfold tkGet at h
  rcases e : tkRead (xs, false) with ⟨u, zs, c⟩
  rw [e] at h
  simp only at h
  split at h
  · simp only [rFail, Prod.mk.injEq] at h
    exact absurd h.2.2 (by decide)
  · rename_i hc
    simp only [Bool.or_eq_true, Bool.not_eq_true', not_or, Bool.not_eq_true, Bool.not_eq_false] at hc
    obtain ⟨hc1, hc2⟩ := hc
    subst hc1
    simp only [Prod.mk.injEq] at h
    obtain ⟨⟨rfl, -⟩, rfl, -⟩ := h
    exact ⟨hc2, tkRead_enc hb e⟩
theorem flag_enc {xs ys : List Int} {f : Bool} (hb : Byt xs) (h : rFlag (xs, false) = (f, (ys, false))) : encF f ++ ys = xs ∧ Byt ys := by
  rcases e : rNum (xs, false) 1 with ⟨n, zs, c⟩
  unfold rFlag at h
  rw [e] at h
  simp only [Prod.mk.injEq] at h
  obtain ⟨rfl, rfl, rfl⟩ := h
  obtain ⟨g, hb'⟩ := num_enc hb e rfl
  have hr := rNum_range (s := (xs, false)) (most := 1) hb (by decide)
  rw [e] at hr
  simp only at hr
  refine ⟨?_, hb'⟩
  rw [← g]
  congr 1
  unfold encF
  rcases (show n = 0 ∨ n = 1 by omega) with rfl | rfl <;> rfl
theorem rFlag_bad {s : Rs} {f : Bool} {ys : List Int} (h : rFlag s = (f, (ys, false))) : s.2 = false := by
  unfold rFlag at h
  simp only [Prod.mk.injEq] at h
  cases hs : s.2
  · rfl
  · have := rNum_bad 1 hs
    rw [h.2] at this
    cases this
theorem int_enc {xs ys : List Int} {n : Int} (hb : Byt xs) (h : rInt (xs, false) = (n, (ys, false))) : encI n ++ ys = xs ∧ Byt ys := by
  have h1 := rInt_enc (xs := xs) hb (by rw [h])
  have h2 := rInt_byt (s := (xs, false)) hb
  rw [h] at h1 h2
  exact ⟨h1, h2⟩
theorem rInt_bad {s : Rs} {n : Int} {ys : List Int} (h : rInt s = (n, (ys, false))) : s.2 = false := by
  cases hs : s.2
  · rfl
  · unfold rInt at h
    split at h
    · simp only [rFail, Prod.mk.injEq] at h; exact absurd h.2.2 (by decide)
    · simp only [Prod.mk.injEq] at h; rw [hs] at h; exact absurd h.2.2 (by decide)
theorem tkNone_sound {t : Tk} (h : tkSound t = true) : tkNone t = false := by
  cases hn : tkNone t
  · rfl
  · have := tkNone_iff.1 hn
    subst this
    exact absurd h (by decide)
theorem tkGet_bad2 {s : Rs} {q : Tk × Bool} {ys : List Int} (h : tkGet s = (q, (ys, false))) : s.2 = false := by
  cases hs : s.2
  · rfl
  · unfold tkGet at h
    have hb : (tkRead s).2.2 = true := by
      unfold tkRead
      simp only
      exact rNum_bad _ (rNum_bad _ (rNum_bad _ (rNum_bad _ (rNum_bad _ (rNum_bad _ (rNum_bad _ (rNum_bad _ (rNum_bad _ hs))))))))
    simp only [hb, Bool.true_or, if_true, rFail, Prod.mk.injEq] at h
    exact absurd h.2.2 (by decide)
theorem rpLoop_good (k : Nat) : ∀ {xs ys fs : List Int}, Byt xs → rpLoop k (xs, false) = (fs, (ys, false)) → fs.length = k ∧ encNs fs ++ ys = xs ∧ Byt ys := by
  induction k with
  | zero =>
    intro xs ys fs hb h
    simp only [rpLoop, Prod.mk.injEq] at h
    obtain ⟨rfl, rfl, -⟩ := h
    exact ⟨rfl, rfl, hb⟩
  | succ k ih =>
    intro xs ys fs hb h
    rcases e : rpLoop k (xs, false) with ⟨gs, zs, c⟩
    rcases e1 : rNum (zs, c) 18446744073709551615 with ⟨n, us, c1⟩
    rw [rpLoop_step e e1] at h
    simp only [Prod.mk.injEq] at h
    obtain ⟨rfl, rfl, rfl⟩ := h
    have hc := bad_false e1
    simp only at hc
    subst hc
    obtain ⟨h1, h2, h3⟩ := ih hb e
    obtain ⟨g, hb'⟩ := num_enc h3 e1 rfl
    refine ⟨by simp [h1], ?_, hb'⟩
    rw [encNs_app, encNs_cons, show encNs [] = [] from rfl, List.append_nil, List.append_assoc, g, h2]
theorem rpLoop_bad2 {k : Nat} {s : Rs} {fs ys : List Int} (h : rpLoop k s = (fs, (ys, false))) : s.2 = false := by
  cases hs : s.2
  · rfl
  · have := rpLoop_bad hs k
    rw [h] at this
    cases this
theorem rpGet_good {xs ys : List Int} {r : Rp} {c : Bool} (hb : Byt xs) (h : rpGet (xs, false) = ((r, true), (ys, c))) : c = false ∧ rpSound r = true ∧ rpEnc r ++ ys = xs := by
  unfold rpGet at h
  rcases e : rpRead (xs, false) with ⟨u, zs, d⟩
  rw [e] at h
  simp only at h
  split at h
  · simp only [Prod.mk.injEq] at h; exact absurd h.1.2 (by decide)
  rename_i hc
  simp only [Bool.or_eq_true, Bool.not_eq_true', not_or, Bool.not_eq_true, Bool.not_eq_false] at hc
  obtain ⟨hd, hs⟩ := hc
  subst hd
  simp only [Prod.mk.injEq] at h
  obtain ⟨⟨rfl, -⟩, rfl, rfl⟩ := h
  refine ⟨rfl, hs, ?_⟩
  unfold rpRead at e
  simp only [Prod.mk.injEq] at e
  obtain ⟨ht, hq⟩ := e
  rcases e0 : rNum (xs, false) 99 with ⟨n0, y0, c0⟩
  rw [e0] at ht hq; simp only at ht hq
  rcases e1 : rInt (y0, c0) with ⟨n1, y1, c1⟩
  rw [e1] at ht hq; simp only at ht hq
  rcases e2 : rFlag (y1, c1) with ⟨f, y2, c2⟩
  rw [e2] at ht hq; simp only at ht hq
  rcases e3 : rpTk f (y2, c2) with ⟨⟨tk, ok⟩, y3, c3⟩
  rw [e3] at ht hq; simp only at ht hq
  rcases e4 : rNum (y3, c3) 64 with ⟨n4, y4, c4⟩
  rw [e4] at ht hq; simp only at ht hq
  rcases e5 : rpLoop n4.toNat (y4, c4) with ⟨fs, y5, c5⟩
  rw [e5] at ht hq; simp only at ht hq
  rcases e6 : rNum (y5, c5) 18446744073709551615 with ⟨n6, y6, c6⟩
  rw [e6] at ht hq; simp only at ht hq
  rcases e7 : rNum (y6, c6) 128 with ⟨n7, y7, c7⟩
  rw [e7] at ht hq; simp only at ht hq
  cases hq
  have h6 := bad_false e7; simp only at h6; subst h6
  have h5 := bad_false e6; simp only at h5; subst h5
  have h4 := rpLoop_bad2 e5; simp only at h4; subst h4
  have h3 := bad_false e4; simp only at h3; subst h3
  have h2 : c2 = false := by
    cases f
    · simp only [rpTk, Bool.false_eq_true, if_false, Prod.mk.injEq] at e3
      exact e3.2.2
    · have e3' : tkGet (y2, c2) = ((tk, ok), (y3, false)) := by
        have := e3; unfold rpTk at this; rw [if_pos rfl] at this; exact this
      exact tkGet_bad2 e3'
  subst h2
  have h1 := rFlag_bad e2; simp only at h1; subst h1
  have h0 := rInt_bad e1; simp only at h0; subst h0
  obtain ⟨g0, b0⟩ := num_enc hb e0 rfl
  obtain ⟨g1, b1⟩ := int_enc b0 e1
  obtain ⟨g2, b2⟩ := flag_enc b1 e2
  have g3 : encF (!tkNone tk) = encF f ∧ (if tkNone tk then [] else tkEnc tk) ++ y3 = y2 ∧ Byt y3 := by
    cases f
    · simp only [rpTk, Bool.false_eq_true, if_false, Prod.mk.injEq] at e3
      obtain ⟨⟨rfl, -⟩, rfl, -⟩ := e3
      exact ⟨rfl, rfl, b2⟩
    · have e3' : tkGet (y2, false) = ((tk, ok), (y3, false)) := by
        have := e3; unfold rpTk at this; rw [if_pos rfl] at this; exact this
      obtain ⟨hts, hen⟩ := tkGet_good b2 e3'
      rw [tkNone_sound hts]
      have hby := tkGet_byt (s := (y2, false)) b2
      rw [e3'] at hby
      exact ⟨rfl, hen, hby⟩
  obtain ⟨g3a, g3b, b3⟩ := g3
  obtain ⟨g4, b4⟩ := num_enc b3 e4 rfl
  have r4 := rNum_range (s := (y3, false)) (most := 64) b3 (by decide)
  rw [e4] at r4
  simp only at r4
  obtain ⟨g5l, g5, b5⟩ := rpLoop_good _ b4 e5
  obtain ⟨g6, b6⟩ := num_enc b5 e6 rfl
  obtain ⟨g7, b7⟩ := num_enc b6 e7 rfl
  subst ht
  have hn4 : ((fs.length : Nat) : Int) = n4 := by rw [g5l]; omega
  unfold rpEnc
  simp only [encNs_cons, List.append_assoc, hn4]
  rw [show encNs [] = [] from rfl, List.nil_append, g7, g6, g5, g4, g3b, g3a, g2, g1, g0]

end Go.Proofs.Ytabdjehnglmlpaa
end

section
/- curfewlaw19.lives: the chapter's example. -/
namespace Go.Proofs.Ytabdjehnglmlpaa
open Go.RowKit Go.Proofs.YtabdjehnglmlpaaW.PrintWords
set_option linter.unusedVariables false
set_option linter.unusedSimpArgs false

theorem rpEnc_byt (r : Rp) : Byt (rpEnc r) := by
  have hN : ∀ ns : List Int, Byt (encNs ns) := fun ns x hx => by
    obtain ⟨n, -, h⟩ := List.mem_flatMap.1 hx
    exact encN_byt (by decide) (by decide) x h
  unfold rpEnc
  refine (encN_byt (by decide) (by decide)).append ((encI_byt _).append ((encF_byt _).append (Byt.append ?_ ((encN_byt (by decide) (by decide)).append ((hN _).append (hN _))))))
  split
  · exact Byt.nil
  · exact hN _

def rp31 : Rp := ⟨31, 0, Tk.zero, [], 0, 0⟩
theorem rp31_ok : rp31.ok := ⟨by decide, by decide, Tk.zero_ok, (fun x hx => nomatch hx), by decide, by decide⟩
theorem rp31_sound : rpSound rp31 = true := by decide
theorem rp31_enc : strOfNums (rpEnc rp31) = ⟨#[1, 31, 0, 0, 0, 0, 0]⟩ := by decide

set_option maxRecDepth 100000 in
set_option maxHeartbeats 2000000 in
theorem lives19_calls (w : World) : Calls Try.prog 57 #[] w fun e w' => e = .returned (.bool true) ∧ Below w.heap.size w w' := by
  have HB := Lib.hid (fun W => rbytes_yes W rp31 rp31_ok rp31_sound (A := none) (n := 0) (c := 0) nil_reads)
  have HR := Lib.hid (fun W => refused_calls W 31 0)
  have HE := Lib.hid rp31_enc
  have HG := Lib.hid (rpGet_back rp31_ok rp31_sound [])
  simp only [rp31, Rp.val, Tk.zero] at HB HR
  go_enter Try.func57, Try.ntmps57
  go_wp2_with fail
  with_reducible refine (HR.out _).mono ?_
  rintro e w1 ⟨rfl, hb⟩
  have B1 := Lib.hid hb; clear hb
  go_wp2_with fail
  with_reducible refine (HB.out _).mono ?_
  rintro e w2 ⟨A2, n2, c2, rfl, hc2, hC2, hb⟩
  have C2 : Hid (Kd.C (Kd.int .u8) w2 A2 n2 (rpEnc rp31)) := hC2
  have B2 := Lib.hid (B1.out.trans (hb.mono B1.out.size))
  clear hC2 hb HB HR
  go_wp2_with fail
  with_reducible refine (Open_any (Below.refl w2.heap.size w2) C2.out hc2).mono ?_
  rintro e w3 ⟨rfl, hR, hb⟩
  have R3 := Lib.hid hR; have B3 := Lib.hid hb
  have C3 := Lib.hid (Kd.C_below C2.out hb)
  clear hR hb
  go_wp2_with fail
  with_reducible refine (rread_calls B3.out R3.out (rpEnc_byt _) B3.out.size).mono ?_
  rintro e w4 ⟨A4, n4, c4, he, -, -, -, -, hm, hr⟩
  have hG := HG.out
  rw [List.append_nil] at hG
  rw [hG] at he
  simp only [rp31, Rp.val, Tk.zero] at he
  subst he
  have B4 := Lib.hid (B2.out.trans ((R3.out.base B3.out hm).mono B2.out.size))
  have hcv := conv_str (c := c2) (w := w4.alloc (.cells #[.int .i64 31, .int .i64 0, .int .u64 0, .int .i64 0, .int .i64 0, .int .i64 0, .int .u64 0, .int .i64 0, .int .i64 0, .int .i64 0, .int .i64 0, .slice A4 n4 c4, .int .u64 0, .int .i64 0] 66)) (A := A2) (n := n2) (xs := rpEnc rp31) (Kd.C_below C2.out ((R3.out.base B3.out hm).alloc (R3.out.base B3.out hm).size _))
  rw [HE.out] at hcv
  clear hm hr hG
  go_wp2
  go_ret
  exact ⟨rfl, B4.out.alloc B4.out.size _⟩

end Go.Proofs.Ytabdjehnglmlpaa
end
