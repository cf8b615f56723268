/- One text out of Pa, Pb, Pc, Pd, Ph, Pi, Pj. -/
import Derived.Test.YtabdjehnglmlpaaQk
import Derived.BigGuardPart
import Derived.Test.YtabdjehnglmlpaaKa
import Derived.Test.YtabdjehnglmlpaaKe
import Derived.Test.YtabdjehnglmlpaaKg
import Derived.Test.YtabdjehnglmlpaaNs
import Derived.Test.YtabdjehnglmlpaaQl
section
/- ticket.Sound and the reference's, by one plain function. -/
namespace Go.Proofs.Ytabdjehnglmlpaa
open Go.RowKit Go.Proofs.YtabdjehnglmlpaaW.PrintWords
set_option linter.unusedVariables false
set_option linter.unusedSimpArgs false

/-- A ticket. -/
structure Tk where
  id : Int
  contract : Int
  state : Int
  level : Int
  gen : Int
  frm : Int
  left : Int
  due : Int
  told : Int
def Tk.zero : Tk := ⟨0, 0, 0, 0, 0, 0, 0, 0, 0⟩
def instB (t : Int) : Bool := decide (0 ≤ t ∧ t ≤ 1125899906842624)
/-- May a ticket be? -/
def tkSound (t : Tk) : Bool :=
  decide (0 ≤ t.contract ∧ t.contract ≤ 15 ∧ 0 ≤ t.level ∧ t.level ≤ 5 ∧ 0 ≤ t.told ∧ t.told ≤ 2147483648 ∧ t.gen ≤ 1152921504606846976 ∧
    ((t.state = 1 ∧ t.gen ≠ 0 ∧ 1 ≤ t.left ∧ 0 ≤ t.frm ∧ t.due ≤ 1125899906842624 ∧ t.frm ≤ t.due ∧ t.left ≤ t.due - t.frm) ∨
     (t.state = 2 ∧ t.gen = 0 ∧ t.due = 0 ∧ 1 ≤ t.left ∧ t.left ≤ 1125899906842624 ∧ 0 ≤ t.frm ∧ t.frm ≤ 1125899906842624) ∨
     ((t.state = 3 ∨ t.state = 4) ∧ t.gen = 0 ∧ t.frm = 0 ∧ t.left = 0 ∧ t.due = 0)))
/-- A ticket's numbers are of their kinds. -/
def Tk.ok (t : Tk) : Prop :=
  (0 ≤ t.id ∧ t.id ≤ 18446744073709551615) ∧ (-9223372036854775808 ≤ t.contract ∧ t.contract ≤ 9223372036854775807) ∧ (-9223372036854775808 ≤ t.state ∧ t.state ≤ 9223372036854775807) ∧ (-9223372036854775808 ≤ t.level ∧ t.level ≤ 9223372036854775807) ∧
  (0 ≤ t.gen ∧ t.gen ≤ 18446744073709551615) ∧ (-9223372036854775808 ≤ t.frm ∧ t.frm ≤ 9223372036854775807) ∧ (-9223372036854775808 ≤ t.left ∧ t.left ≤ 9223372036854775807) ∧ (-9223372036854775808 ≤ t.due ∧ t.due ≤ 9223372036854775807) ∧ (-9223372036854775808 ≤ t.told ∧ t.told ≤ 9223372036854775807)
theorem instB_yes {t : Int} (h : instB t = true) : 0 ≤ t ∧ t ≤ 1125899906842624 := of_decide_eq_true h
theorem instB_no {t : Int} (h : instB t = false) : t < 0 ∨ 1125899906842624 < t := by have := of_decide_eq_false h; omega
theorem retb {a b : Bool} (h : a = b) : Ending.returned (.bool a) = .returned (.bool b) := by rw [h]

set_option maxHeartbeats 1000000 in
theorem inst_calls (w : World) (t : Int) : Calls Try.prog 160 #[.int .i64 t] w fun e w' => e = .returned (.bool (instB t)) ∧ w' = w := by
  by_cases h0 : 0 ≤ t
  · by_cases h1 : t ≤ 1125899906842624
    · have e : instB t = true := decide_eq_true ⟨h0, h1⟩
      have E := Lib.hid e
      clear e
      go_enter Try.func160, Try.ntmps160
      go_wp2
      go_ret
      exact ⟨retb (by rw [E.out]; try simp; try omega), rfl⟩
    · have e : instB t = false := decide_eq_false (by omega)
      have E := Lib.hid e
      clear e
      go_enter Try.func160, Try.ntmps160
      go_wp2
      go_ret
      exact ⟨retb (by rw [E.out]; try simp; try omega), rfl⟩
  · have e : instB t = false := decide_eq_false (by omega)
    have E := Lib.hid e
    clear e
    go_enter Try.func160, Try.ntmps160
    go_wp2
    go_ret
    exact ⟨retb (by rw [E.out]; try simp; try omega), rfl⟩

set_option maxRecDepth 100000 in
set_option maxHeartbeats 4000000 in
theorem tSound_calls (w : World) (t : Tk) (h : t.ok) :
    Calls Try.prog 123 #[.agg #[.int .u64 t.id, .int .i64 t.contract, .int .i64 t.state, .int .i64 t.level, .int .u64 t.gen, .int .i64 t.frm, .int .i64 t.left, .int .i64 t.due, .int .i64 t.told]] w fun e w' => e = .returned (.bool (tkSound t)) ∧ Below w.heap.size w w' := by
  obtain ⟨id, contract, state, level, gen, frm, left, due, told⟩ := t
  obtain ⟨⟨i0, i1⟩, ⟨c0, c1⟩, ⟨s0, s1⟩, ⟨l0, l1⟩, ⟨g0, g1⟩, ⟨f0, f1⟩, ⟨e0, e1⟩, ⟨d0, d1⟩, ⟨t0, t1⟩⟩ := h
  simp only at i0 i1 c0 c1 s0 s1 l0 l1 g0 g1 f0 f1 e0 e1 d0 d1 t0 t1 ⊢
  go_enter Try.func123, Try.ntmps123
  go_wp2_with (go_at_call 160; (with_reducible refine (inst_calls _ _).mono ?_); rintro e w' ⟨rfl, rfl⟩)
  all_goals
    go_ret
    refine ⟨retb ?_, ?_⟩
    rotate_left
    · exact (Below.refl _ _).alloc (Nat.le_refl _) _
  all_goals
    unfold tkSound
    simp only [instB, Bool.not_eq_true', Bool.not_eq_true, Bool.not_eq_false', decide_eq_true_eq, decide_eq_false_iff_not, bne_iff_ne, beq_iff_eq, beq_eq_false_iff_ne, ne_eq] at *
    rw [Bool.eq_iff_iff]
    try unfold wrap64
    simp only [decide_eq_true_eq, Bool.and_eq_true, beq_iff_eq, Bool.false_eq_true, false_iff, true_iff, iff_true, iff_false, not_true_eq_false, false_and, and_false, true_and, and_true, or_false, false_or]
    try omega

end Go.Proofs.Ytabdjehnglmlpaa
end

section
/- reply.Sound, the reference's Sound of a ticket and of a reply, by plain functions. -/
namespace Go.Proofs.Ytabdjehnglmlpaa
open Go.RowKit Go.Proofs.YtabdjehnglmlpaaW.PrintWords
set_option linter.unusedVariables false
set_option linter.unusedSimpArgs false

/-- Is it no ticket? -/
def tkNone (t : Tk) : Bool := t.id == 0 && (t.contract == 0 && (t.state == 0 && (t.level == 0 && (t.gen == 0 && (t.frm == 0 && (t.left == 0 && (t.due == 0 && t.told == 0)))))))
theorem tkNone_iff {t : Tk} : tkNone t = true ↔ t = Tk.zero := by
  obtain ⟨a, b, c, d, e, f, g, h, i⟩ := t
  simp [tkNone, Tk.zero]
theorem run_none (w : World) (t : Tk) :
    (binOp .eql 63 (.agg #[.int .u64 t.id, .int .i64 t.contract, .int .i64 t.state, .int .i64 t.level, .int .u64 t.gen, .int .i64 t.frm, .int .i64 t.left, .int .i64 t.due, .int .i64 t.told])
      (.agg #[.int .u64 0, .int .i64 0, .int .i64 0, .int .i64 0, .int .u64 0, .int .i64 0, .int .i64 0, .int .i64 0, .int .i64 0])).run Try.prog w = .ok (.bool (tkNone t)) w := by
  have h := fun d => PK.eqA63 d w t.id 0 t.contract 0 t.state 0 t.level 0 t.gen 0 t.frm 0 t.left 0 t.due 0 t.told 0
  simp only [binOp]
  simp [Op.equal, Op.maxDepth, h 9998, tkNone]

set_option maxRecDepth 100000 in
set_option maxHeartbeats 4000000 in
theorem rtSound_calls (w : World) (t : Tk) (h : t.ok) :
    Calls Try.prog 124 #[.agg #[.int .u64 t.id, .int .i64 t.contract, .int .i64 t.state, .int .i64 t.level, .int .u64 t.gen, .int .i64 t.frm, .int .i64 t.left, .int .i64 t.due, .int .i64 t.told]] w fun e w' => e = .returned (.bool (tkSound t)) ∧ Below w.heap.size w w' := by
  obtain ⟨id, contract, state, level, gen, frm, left, due, told⟩ := t
  obtain ⟨⟨i0, i1⟩, ⟨c0, c1⟩, ⟨s0, s1⟩, ⟨l0, l1⟩, ⟨g0, g1⟩, ⟨f0, f1⟩, ⟨e0, e1⟩, ⟨d0, d1⟩, ⟨t0, t1⟩⟩ := h
  simp only at i0 i1 c0 c1 s0 s1 l0 l1 g0 g1 f0 f1 e0 e1 d0 d1 t0 t1 ⊢
  go_enter Try.func124, Try.ntmps124
  go_wp2
  all_goals
    go_ret
    refine ⟨retb ?_, ?_⟩
    rotate_left
    · exact (Below.refl _ _).alloc (Nat.le_refl _) _
  all_goals
    unfold tkSound
    simp only [instB, Bool.not_eq_true', Bool.not_eq_true, Bool.not_eq_false', decide_eq_true_eq, decide_eq_false_iff_not, bne_iff_ne, beq_iff_eq, beq_eq_false_iff_ne, ne_eq] at *
    rw [Bool.eq_iff_iff]
    try unfold wrap64
    simp only [decide_eq_true_eq, Bool.and_eq_true, beq_iff_eq, Bool.false_eq_true, false_iff, true_iff, iff_true, iff_false, not_true_eq_false, false_and, and_false, true_and, and_true, or_false, false_or]
    first | omega | (simp; omega) | (simp; done) | skip

end Go.Proofs.Ytabdjehnglmlpaa
end

section
/- reply.Sound and the reference's. -/
namespace Go.Proofs.Ytabdjehnglmlpaa
open Go.RowKit Go.Proofs.YtabdjehnglmlpaaW.PrintWords
set_option linter.unusedVariables false
set_option linter.unusedSimpArgs false

/-- A reply. -/
structure Rp where
  code : Int
  time : Int
  tk : Tk
  fired : List Int
  notice : Int
  dead : Int
def Rp.zero : Rp := ⟨0, 0, Tk.zero, [], 0, 0⟩
/-- May a reply be? -/
def rpSound (r : Rp) : Bool := decide (0 ≤ r.code ∧ r.code ≤ 99 ∧ 0 ≤ r.time ∧ r.time ≤ 1125899906842624 ∧ r.fired.length ≤ 64 ∧ 0 ≤ r.dead ∧ r.dead ≤ 128 ∧ (tkNone r.tk = true ∨ tkSound r.tk = true))
def Rp.ok (r : Rp) : Prop :=
  (-9223372036854775808 ≤ r.code ∧ r.code ≤ 9223372036854775807) ∧ (-9223372036854775808 ≤ r.time ∧ r.time ≤ 9223372036854775807) ∧ r.tk.ok ∧ U64 r.fired ∧ (0 ≤ r.notice ∧ r.notice ≤ 18446744073709551615) ∧ (-9223372036854775808 ≤ r.dead ∧ r.dead ≤ 9223372036854775807)
/-- A reply's value; its row of tickets lies at A. -/
def Rp.val (r : Rp) (A : Option Addr) (n c : Nat) : Value :=
  .agg #[.int .i64 r.code, .int .i64 r.time, .int .u64 r.tk.id, .int .i64 r.tk.contract, .int .i64 r.tk.state, .int .i64 r.tk.level, .int .u64 r.tk.gen, .int .i64 r.tk.frm, .int .i64 r.tk.left, .int .i64 r.tk.due, .int .i64 r.tk.told, .slice A n c, .int .u64 r.notice, .int .i64 r.dead]
def Tk.val (t : Tk) : Value := .agg #[.int .u64 t.id, .int .i64 t.contract, .int .i64 t.state, .int .i64 t.level, .int .u64 t.gen, .int .i64 t.frm, .int .i64 t.left, .int .i64 t.due, .int .i64 t.told]

set_option maxHeartbeats 1000000 in
theorem none_calls (w : World) (t : Tk) : Calls Try.prog 122 #[t.val] w fun e w' => e = .returned (.bool (tkNone t)) ∧ Below w.heap.size w w' := by
  have h := fun W => run_none W t
  unfold Tk.val
  go_enter Try.func122, Try.ntmps122
  go_wp2
  go_ret
  exact ⟨rfl, (Below.refl _ _).alloc (Nat.le_refl _) _⟩

set_option maxRecDepth 100000 in
set_option maxHeartbeats 4000000 in
theorem rpS_calls (w : World) (r : Rp) (h : r.ok) (A : Option Addr) (n c : Nat) (hn : r.fired.length = n) (hl : n ≤ 9223372036854775807) :
    Calls Try.prog 60 #[r.val A n c] w fun e w' => e = .returned (.bool (rpSound r)) ∧ Below w.heap.size w w' := by
  obtain ⟨code, time, tk, fired, notice, dead⟩ := r
  obtain ⟨⟨c0, c1⟩, ⟨t0, t1⟩, hk, -, ⟨n0, n1⟩, ⟨d0, d1⟩⟩ := h
  obtain ⟨id, contract, state, level, gen, frm, left, due, told⟩ := tk
  simp only [Rp.val] at c0 c1 t0 t1 hk n0 n1 d0 d1 hn ⊢
  have HN := Lib.hid (none_calls w ⟨id, contract, state, level, gen, frm, left, due, told⟩)
  have HN2 := Lib.hid (fun W => none_calls W ⟨id, contract, state, level, gen, frm, left, due, told⟩)
  have HS2 := Lib.hid (fun W => tSound_calls W ⟨id, contract, state, level, gen, frm, left, due, told⟩ hk)
  have hblk := heap_alloc_new w (.cells #[.int .i64 code, .int .i64 time, .int .u64 id, .int .i64 contract, .int .i64 state, .int .i64 level, .int .u64 gen, .int .i64 frm, .int .i64 left, .int .i64 due, .int .i64 told, .slice A n c, .int .u64 notice, .int .i64 dead] 66)
  have HBK := Lib.hid hblk
  have HD := Lib.hid ((Below.refl w.heap.size w).alloc (Nat.le_refl _) (.cells #[.int .i64 code, .int .i64 time, .int .u64 id, .int .i64 contract, .int .i64 state, .int .i64 level, .int .u64 gen, .int .i64 frm, .int .i64 left, .int .i64 due, .int .i64 told, .slice A n c, .int .u64 notice, .int .i64 dead] 66))
  have HNl := Lib.hid hn
  have HK := Lib.hid hk
  clear hblk hn hk HN
  simp only [Tk.val] at HN2 HS2
  go_enter Try.func60, Try.ntmps60
  go_wp2_with (first
    | (go_at_call 122; (with_reducible refine (HN2.out _).mono ?_); rintro e w' ⟨rfl, hb⟩; have HB := Lib.hid hb; have hk2 := blk_below HBK.out hb; have k2 := (blk_cell hk2 2).trans rfl; have k3 := (blk_cell hk2 3).trans rfl; have k4 := (blk_cell hk2 4).trans rfl; have k5 := (blk_cell hk2 5).trans rfl; have k6 := (blk_cell hk2 6).trans rfl; have k7 := (blk_cell hk2 7).trans rfl; have k8 := (blk_cell hk2 8).trans rfl; have k9 := (blk_cell hk2 9).trans rfl; have k10 := (blk_cell hk2 10).trans rfl; clear hb hk2)
    | (go_at_call 123; (with_reducible refine (HS2.out _).mono ?_); rintro e w' ⟨rfl, hb⟩; have HB2 := Lib.hid hb; clear hb))
  all_goals
    go_ret
    refine ⟨retb ?_, ?_⟩
    rotate_left
    · first
        | exact HD.out
        | exact HD.out.trans (HB.out.mono HD.out.size)
        | exact (HD.out.trans (HB.out.mono HD.out.size)).trans (HB2.out.mono (HD.out.trans (HB.out.mono HD.out.size)).size)
  all_goals
    have hnl := HNl.out
    try simp only [bne_iff_ne, Bool.not_eq_true, ne_eq] at *
    first
      | (refine (decide_eq_false ?_).symm; rintro ⟨h1, h2, h3, h4, h5, h6, h7, -⟩; simp only at h1 h2 h3 h4 h5 h6 h7; omega)
      | (refine (decide_eq_true ⟨by simp only; omega, by simp only; omega, by simp only; omega, by simp only; omega, by simp only; omega, by simp only; omega, by simp only; omega, Or.inl (by assumption)⟩).symm)
      | (rw [Bool.eq_iff_iff, rpSound, decide_eq_true_eq]; refine ⟨fun h => ⟨by simp only; omega, by simp only; omega, by simp only; omega, by simp only; omega, by simp only; omega, by simp only; omega, by simp only; omega, Or.inr h⟩, fun h => ?_⟩; refine h.2.2.2.2.2.2.2.resolve_left ?_; simp [*])

set_option maxRecDepth 100000 in
set_option maxHeartbeats 4000000 in
theorem rrpS_calls (w : World) (r : Rp) (h : r.ok) (A : Option Addr) (n c : Nat) (hn : r.fired.length = n) (hl : n ≤ 9223372036854775807) :
    Calls Try.prog 61 #[r.val A n c] w fun e w' => e = .returned (.bool (rpSound r)) ∧ Below w.heap.size w w' := by
  obtain ⟨code, time, tk, fired, notice, dead⟩ := r
  obtain ⟨⟨c0, c1⟩, ⟨t0, t1⟩, hk, -, ⟨n0, n1⟩, ⟨d0, d1⟩⟩ := h
  obtain ⟨id, contract, state, level, gen, frm, left, due, told⟩ := tk
  simp only [Rp.val] at c0 c1 t0 t1 hk n0 n1 d0 d1 hn ⊢
  have HN := Lib.hid (none_calls w ⟨id, contract, state, level, gen, frm, left, due, told⟩)
  have HN2 := Lib.hid (fun W => none_calls W ⟨id, contract, state, level, gen, frm, left, due, told⟩)
  have HS2 := Lib.hid (fun W => rtSound_calls W ⟨id, contract, state, level, gen, frm, left, due, told⟩ hk)
  have hblk := heap_alloc_new w (.cells #[.int .i64 code, .int .i64 time, .int .u64 id, .int .i64 contract, .int .i64 state, .int .i64 level, .int .u64 gen, .int .i64 frm, .int .i64 left, .int .i64 due, .int .i64 told, .slice A n c, .int .u64 notice, .int .i64 dead] 66)
  have hrn := fun W => run_none W ⟨id, contract, state, level, gen, frm, left, due, told⟩
  have HBK := Lib.hid hblk
  have HD := Lib.hid ((Below.refl w.heap.size w).alloc (Nat.le_refl _) (.cells #[.int .i64 code, .int .i64 time, .int .u64 id, .int .i64 contract, .int .i64 state, .int .i64 level, .int .u64 gen, .int .i64 frm, .int .i64 left, .int .i64 due, .int .i64 told, .slice A n c, .int .u64 notice, .int .i64 dead] 66))
  have HNl := Lib.hid hn
  have HK := Lib.hid hk
  clear hblk hn hk HN
  simp only [Tk.val] at HN2 HS2
  go_enter Try.func61, Try.ntmps61
  simp only at hrn
  go_wp2_with (go_at_call 124; (with_reducible refine (HS2.out _).mono ?_); rintro e w' ⟨rfl, hb⟩; have HB := Lib.hid hb; have hk2 := blk_below HBK.out hb; have k11 := (blk_cell hk2 11).trans rfl; have k13 := (blk_cell hk2 13).trans rfl; clear hb hk2)
  all_goals
    go_ret
    refine ⟨retb ?_, ?_⟩
    rotate_left
    · first
        | exact HD.out
        | exact HD.out.trans (HB.out.mono HD.out.size)
        | exact (HD.out.trans (HB.out.mono HD.out.size)).trans (HB2.out.mono (HD.out.trans (HB.out.mono HD.out.size)).size)
  all_goals
    have hnl := HNl.out
    try simp only [bne_iff_ne, Bool.not_eq_true, ne_eq] at *
    first
      | (refine (decide_eq_false ?_).symm; rintro ⟨h1, h2, h3, h4, h5, h6, h7, -⟩; simp only at h1 h2 h3 h4 h5 h6 h7; omega)
      | (refine (decide_eq_true ⟨by simp only; omega, by simp only; omega, by simp only; omega, by simp only; omega, by simp only; omega, by simp only; omega, by simp only; omega, Or.inl (by assumption)⟩).symm)
      | (rw [Bool.eq_iff_iff, rpSound, decide_eq_true_eq]; refine ⟨fun h => ⟨by simp only; omega, by simp only; omega, by simp only; omega, by simp only; omega, by simp only; omega, by simp only; omega, by simp only; omega, Or.inr h⟩, fun h => ?_⟩; refine h.2.2.2.2.2.2.2.resolve_left ?_; simp [*])
      | (rw [Bool.eq_iff_iff, rpSound, decide_eq_true_eq, decide_eq_true_eq]; exact ⟨fun h => ⟨by simp only; omega, by simp only; omega, by simp only; omega, by simp only; omega, by simp only; omega, by simp only; omega, by simp only; omega, Or.inl (by assumption)⟩, fun h => h.2.2.2.2.2.2.1⟩)
      | (rw [Bool.eq_iff_iff, rpSound, decide_eq_true_eq, decide_eq_true_eq]; exact ⟨fun h => ⟨by simp only; omega, by simp only; omega, by simp only; omega, by simp only; omega, by simp only; omega, by simp only; omega, by simp only; omega, Or.inr (by assumption)⟩, fun h => h.2.2.2.2.2.2.1⟩)
      | (refine (decide_eq_false ?_).symm; rintro ⟨h1, h2, h3, h4, h5, h6, h7, h8⟩; simp [*] at h8)
      | skip

end Go.Proofs.Ytabdjehnglmlpaa
end

section
/- Two replies: the same? -/
namespace Go.Proofs.Ytabdjehnglmlpaa
open Go.RowKit Go.Proofs.YtabdjehnglmlpaaW.PrintWords
set_option linter.unusedVariables false
set_option linter.unusedSimpArgs false

instance tkDec (t u : Tk) : Decidable (t = u) :=
  decidable_of_iff (t.id = u.id ∧ t.contract = u.contract ∧ t.state = u.state ∧ t.level = u.level ∧ t.gen = u.gen ∧ t.frm = u.frm ∧ t.left = u.left ∧ t.due = u.due ∧ t.told = u.told) (by
    obtain ⟨a, b, c, d, e, f, g, h, i⟩ := t
    obtain ⟨a', b', c', d', e', f', g', h', i'⟩ := u
    simp)
/-- Are two replies the same? -/
def rpEq (r s : Rp) : Bool :=
  decide (r.code = s.code ∧ r.time = s.time ∧ r.tk = s.tk ∧ r.notice = s.notice ∧ r.dead = s.dead ∧ r.fired = s.fired)
theorem rpEq_self (r : Rp) : rpEq r r = true := decide_eq_true ⟨rfl, rfl, rfl, rfl, rfl, rfl⟩
theorem rpEq_iff {r s : Rp} : rpEq r s = true ↔ r = s := by
  unfold rpEq
  rw [decide_eq_true_eq]
  constructor
  · rintro ⟨h1, h2, h3, h4, h5, h6⟩
    cases r; cases s
    simp only at h1 h2 h3 h4 h5 h6
    subst h1 h2 h3 h4 h5 h6
    rfl
  · rintro rfl; exact ⟨rfl, rfl, rfl, rfl, rfl, rfl⟩
theorem ext_rd (xs ys : List Int) (hl : xs.length = ys.length) (i : Nat) : xs.drop i = ys.drop i ↔ ∀ j, i ≤ j → j < xs.length → rd xs j = rd ys j := by
  constructor
  · intro h j hj hlt
    have : (xs.drop i)[j - i]? = (ys.drop i)[j - i]? := by rw [h]
    rw [List.getElem?_drop, List.getElem?_drop, show i + (j - i) = j by omega] at this
    simp only [rd, Int.toNat_natCast, List.getD_eq_getElem?_getD, this]
  · intro h
    apply List.ext_getElem?
    intro k
    rw [List.getElem?_drop, List.getElem?_drop]
    rcases Nat.lt_or_ge (i + k) xs.length with hk | hk
    · have := h (i + k) (by omega) hk
      simp only [rd, Int.toNat_natCast, List.getD_eq_getElem?_getD] at this
      rw [List.getElem?_eq_getElem hk, List.getElem?_eq_getElem (by omega)] at this ⊢
      simpa using this
    · rw [List.getElem?_eq_none hk, List.getElem?_eq_none (by omega)]
theorem drop_step (xs ys : List Int) (i : Nat) (h : i < xs.length) (hl : xs.length = ys.length) : decide (xs.drop i = ys.drop i) = (decide (rd xs i = rd ys i) && decide (xs.drop (i + 1) = ys.drop (i + 1))) := by
  rw [Bool.eq_iff_iff, Bool.and_eq_true, decide_eq_true_eq, decide_eq_true_eq, decide_eq_true_eq, ext_rd _ _ hl, ext_rd _ _ hl]
  constructor
  · intro H; exact ⟨H i (Nat.le_refl _) h, fun j hj => H j (by omega)⟩
  · rintro ⟨H1, H2⟩ j hj hlt
    rcases Nat.eq_or_lt_of_le hj with rfl | hj
    · exact H1
    · exact H2 j hj hlt

theorem eq_loop (d : Nat) : ∀ (k i : Nat) (xs ys : List Int), xs.length = ys.length → xs.length ≤ 1000000 → xs.length - i = d → i ≤ xs.length → d < k →
    PK.slices_Equal_uint64_uint64.l0 k xs ys (xs.length : Int) (i : Int) = some (decide (xs.drop i = ys.drop i)) := by
  induction d with
  | zero =>
    intro k i xs ys hl hb hd hi hk
    obtain ⟨k, rfl⟩ : ∃ j, k = j + 1 := ⟨k - 1, by omega⟩
    obtain rfl : i = xs.length := by omega
    simp only [PK.slices_Equal_uint64_uint64.l0]
    rw [if_neg (by omega), List.drop_length, hl, List.drop_length]; rfl
  | succ d ih =>
    intro k i xs ys hl hb hd hi hk
    obtain ⟨k, rfl⟩ : ∃ j, k = j + 1 := ⟨k - 1, by omega⟩
    have h := ih k (i + 1) xs ys hl hb (by omega) (by omega) (by omega)
    have hw : wrap64 ((i : Int) + 1) = ((i + 1 : Nat) : Int) := by unfold wrap64; omega
    simp only [PK.slices_Equal_uint64_uint64.l0]
    rw [if_pos (by omega), if_pos (by omega), if_pos (by omega), if_pos (by omega), drop_step xs ys i (by omega) hl]
    by_cases hs : rd xs (i : Int) = rd ys (i : Int)
    · rw [if_pos hs, hw, h, decide_eq_true hs, Bool.true_and]
    · rw [if_neg hs, decide_eq_false hs, Bool.false_and]

theorem tkEq_b (t u : Tk) : (t.id == u.id && (t.contract == u.contract && (t.state == u.state && (t.level == u.level && (t.gen == u.gen && (t.frm == u.frm && (t.left == u.left && (t.due == u.due && (t.told == u.told))))))))) = decide (t = u) := by
  obtain ⟨a, b, c, d, e, f, g, h, i⟩ := t
  obtain ⟨a', b', c', d', e', f', g', h', i'⟩ := u
  rw [Bool.eq_iff_iff]
  simp

theorem Same_f (r s : Rp) (hb : r.fired.length ≤ 200) (hc : s.fired.length ≤ 200) : PK.reply_Same.f 1000 r.code r.time r.tk.id r.tk.contract r.tk.state r.tk.level r.tk.gen r.tk.frm r.tk.left r.tk.due r.tk.told r.fired r.notice r.dead s.code s.time s.tk.id s.tk.contract s.tk.state s.tk.level s.tk.gen s.tk.frm s.tk.left s.tk.due s.tk.told s.fired s.notice s.dead = some (rpEq r s) := by
  unfold PK.reply_Same.f
  rw [tkEq_b]
  by_cases h1 : r.code = s.code
  · rw [if_pos h1]
    by_cases h2 : r.time = s.time
    · rw [if_pos h2]
      by_cases h3 : r.tk = s.tk
      · rw [if_pos (decide_eq_true h3)]
        by_cases h4 : r.notice = s.notice
        · rw [if_pos h4]
          by_cases h5 : r.dead = s.dead
          · rw [if_pos h5]
            unfold PK.slices_Equal_uint64_uint64.f
            by_cases h6 : r.fired.length = s.fired.length
            · rw [if_pos (by omega)]
              have := eq_loop r.fired.length 1000 0 r.fired s.fired h6 (by omega) rfl (by omega) (by omega)
              rw [show ((0 : Nat) : Int) = 0 from rfl] at this
              rw [this, List.drop_zero, List.drop_zero, Option.bind_some]
              congr 1
              unfold rpEq
              rw [Bool.eq_iff_iff, decide_eq_true_eq, decide_eq_true_eq]
              exact ⟨fun h => ⟨h1, h2, h3, h4, h5, h⟩, fun h => h.2.2.2.2.2⟩
            · rw [if_neg (by omega), Option.bind_some]
              congr 1
              exact (decide_eq_false (fun h => h6 (by rw [h.2.2.2.2.2]))).symm
          · rw [if_neg h5]; congr 1; exact (decide_eq_false (fun h => h5 h.2.2.2.2.1)).symm
        · rw [if_neg h4]; congr 1; exact (decide_eq_false (fun h => h4 h.2.2.2.1)).symm
      · rw [if_neg (by simpa using h3)]; congr 1; exact (decide_eq_false (fun h => h3 h.2.2.1)).symm
    · rw [if_neg h2]; congr 1; exact (decide_eq_false (fun h => h2 h.2.1)).symm
  · rw [if_neg h1]; congr 1; exact (decide_eq_false (fun h => h1 h.1)).symm

theorem req_loop (d : Nat) : ∀ (k i : Nat) (r s : Rp), r.fired.length = s.fired.length → r.fired.length ≤ 1000000 → r.fired.length - i = d → i ≤ r.fired.length → d < k →
    PK.curfewref19_Same.l0 k (i : Int) r.code r.time r.tk.id r.tk.contract r.tk.state r.tk.level r.tk.gen r.tk.frm r.tk.left r.tk.due r.tk.told r.fired r.notice r.dead s.code s.time s.tk.id s.tk.contract s.tk.state s.tk.level s.tk.gen s.tk.frm s.tk.left s.tk.due s.tk.told s.fired s.notice s.dead = some (decide (r.fired.drop i = s.fired.drop i)) := by
  induction d with
  | zero =>
    intro k i r s hl hb hd hi hk
    obtain ⟨k, rfl⟩ : ∃ j, k = j + 1 := ⟨k - 1, by omega⟩
    obtain rfl : i = r.fired.length := by omega
    simp only [PK.curfewref19_Same.l0]
    rw [if_neg (by omega), List.drop_length, hl, List.drop_length]; rfl
  | succ d ih =>
    intro k i r s hl hb hd hi hk
    obtain ⟨k, rfl⟩ : ∃ j, k = j + 1 := ⟨k - 1, by omega⟩
    have h := ih k (i + 1) r s hl hb (by omega) (by omega) (by omega)
    have hw : wrap64 ((i : Int) + 1) = ((i + 1 : Nat) : Int) := by unfold wrap64; omega
    simp only [PK.curfewref19_Same.l0]
    rw [if_pos (by omega), if_pos (by omega), if_pos (by omega), drop_step r.fired s.fired i (by omega) hl]
    by_cases hs : rd r.fired (i : Int) = rd s.fired (i : Int)
    · rw [if_pos hs, hw, h, decide_eq_true hs, Bool.true_and]
    · rw [if_neg hs, decide_eq_false hs, Bool.false_and]
theorem tkNe_b (t u : Tk) : (!(t.id == u.id) || (!(t.contract == u.contract) || (!(t.state == u.state) || (!(t.level == u.level) || (!(t.gen == u.gen) || (!(t.frm == u.frm) || (!(t.left == u.left) || (!(t.due == u.due) || (!(t.told == u.told)))))))))) = !decide (t = u) := by
  rw [← tkEq_b]
  simp only [Bool.not_and]
theorem j0_true (k : Nat) (r s : Rp) : PK.curfewref19_Same.j0 (k + 1) true r.code r.time r.tk.id r.tk.contract r.tk.state r.tk.level r.tk.gen r.tk.frm r.tk.left r.tk.due r.tk.told r.fired r.notice r.dead s.code s.time s.tk.id s.tk.contract s.tk.state s.tk.level s.tk.gen s.tk.frm s.tk.left s.tk.due s.tk.told s.fired s.notice s.dead = some false := by
  simp only [PK.curfewref19_Same.j0]; rw [if_pos trivial]
theorem rSame_f (r s : Rp) (hb : r.fired.length ≤ 200) (hc : s.fired.length ≤ 200) : PK.curfewref19_Same.f 1000 r.code r.time r.tk.id r.tk.contract r.tk.state r.tk.level r.tk.gen r.tk.frm r.tk.left r.tk.due r.tk.told r.fired r.notice r.dead s.code s.time s.tk.id s.tk.contract s.tk.state s.tk.level s.tk.gen s.tk.frm s.tk.left s.tk.due s.tk.told s.fired s.notice s.dead = some (rpEq r s) := by
  unfold PK.curfewref19_Same.f
  rw [tkNe_b]
  have J := j0_true 999 r s
  rw [show 999 + 1 = 1000 from rfl] at J
  by_cases h1 : r.code = s.code
  · rw [if_pos h1]
    by_cases h2 : r.time = s.time
    · rw [if_pos h2]
      by_cases h3 : r.tk = s.tk
      · rw [if_neg (by simpa using h3)]
        by_cases h4 : r.notice = s.notice
        · rw [if_pos h4]
          by_cases h5 : r.dead = s.dead
          · rw [if_pos h5]
            by_cases h6 : r.fired.length = s.fired.length
            · rw [show ((r.fired.length : Int) != (s.fired.length : Int)) = false by rw [h6]; simp, show (1000 : Nat) = 999 + 1 from rfl]
              simp only [PK.curfewref19_Same.j0]
              rw [if_neg (by decide)]
              have := req_loop r.fired.length 999 0 r s h6 (by omega) rfl (by omega) (by omega)
              rw [show ((0 : Nat) : Int) = 0 from rfl] at this
              rw [this, List.drop_zero, List.drop_zero]
              congr 1
              unfold rpEq
              rw [Bool.eq_iff_iff, decide_eq_true_eq, decide_eq_true_eq]
              exact ⟨fun h => ⟨h1, h2, h3, h4, h5, h⟩, fun h => h.2.2.2.2.2⟩
            · rw [show ((r.fired.length : Int) != (s.fired.length : Int)) = true by rw [bne_iff_ne]; omega, J]
              congr 1
              exact (decide_eq_false (fun h => h6 (by rw [h.2.2.2.2.2]))).symm
          · rw [if_neg h5, J]; congr 1; exact (decide_eq_false (fun h => h5 h.2.2.2.2.1)).symm
        · rw [if_neg h4, J]; congr 1; exact (decide_eq_false (fun h => h4 h.2.2.2.1)).symm
      · rw [if_pos (by simpa using h3), J]; congr 1; exact (decide_eq_false (fun h => h3 h.2.2.1)).symm
    · rw [if_neg h2, J]; congr 1; exact (decide_eq_false (fun h => h2 h.2.1)).symm
  · rw [if_neg h1, J]; congr 1; exact (decide_eq_false (fun h => h1 h.1)).symm

section
variable {w : World} {r s : Rp} {A A2 : Option Addr} {n c n2 c2 : Nat}
theorem rpSame_calls (hr : Kd.C (Kd.int .u64) w A n r.fired) (hc : n ≤ c) (hn : n ≤ 200) (hr2 : Kd.C (Kd.int .u64) w A2 n2 s.fired) (hc2 : n2 ≤ c2) (hn2 : n2 ≤ 200) :
    Calls Try.prog 62 #[r.val A n c, s.val A2 n2 c2] w fun e w' => e = .returned (.bool (rpEq r s)) ∧ Below w.heap.size w w' := by
  obtain rfl : r.fired.length = n := hr.1
  obtain rfl : s.fired.length = n2 := hr2.1
  exact PK.reply_Same.calls 1000 _ _ _ _ _ _ _ _ _ _ _ A c r.fired _ _ _ _ _ _ _ _ _ _ _ _ _ A2 c2 s.fired _ _ _ w hr hc hr2 hc2 (Same_f r s hn hn2)
theorem rrpSame_calls (hr : Kd.C (Kd.int .u64) w A n r.fired) (hc : n ≤ c) (hn : n ≤ 200) (hr2 : Kd.C (Kd.int .u64) w A2 n2 s.fired) (hc2 : n2 ≤ c2) (hn2 : n2 ≤ 200) :
    Calls Try.prog 59 #[r.val A n c, s.val A2 n2 c2] w fun e w' => e = .returned (.bool (rpEq r s)) ∧ Below w.heap.size w w' := by
  obtain rfl : r.fired.length = n := hr.1
  obtain rfl : s.fired.length = n2 := hr2.1
  exact PK.curfewref19_Same.calls 1000 _ _ _ _ _ _ _ _ _ _ _ A c r.fired _ _ _ _ _ _ _ _ _ _ _ _ _ A2 c2 s.fired _ _ _ w hr hc hr2 hc2 (rSame_f r s hn hn2)
theorem rpLight_calls (hr : Kd.C (Kd.int .u64) w A n r.fired) (hc : n ≤ c) :
    Calls Try.prog 56 #[r.val A n c] w fun e w' => e = .returned (.bool (decide (n ≤ 200))) ∧ Below w.heap.size w w' := by
  obtain rfl : r.fired.length = n := hr.1
  have e : decide (r.fired.length ≤ 200) = decide ((r.fired.length : Int) ≤ 200) := by rw [Bool.eq_iff_iff, decide_eq_true_eq, decide_eq_true_eq]; omega
  rw [e]
  exact PK.curfewlaw19_Light.calls _ _ _ _ _ _ _ _ _ _ _ A c r.fired _ _ _ w hr hc rfl
end

end Go.Proofs.Ytabdjehnglmlpaa
end

section
/- What is read of a ticket. -/
namespace Go.Proofs.Ytabdjehnglmlpaa
open Go.RowKit Go.Proofs.YtabdjehnglmlpaaW.PrintWords
set_option linter.unusedVariables false
set_option linter.unusedSimpArgs false

/-- A ticket's numbers, as they are read. -/
def tkRead (s : Rs) : Tk × Rs :=
  let a0 := rNum s 18446744073709551615
  let a1 := rNum a0.2 15
  let a2 := rNum a1.2 4
  let a3 := rNum a2.2 5
  let a4 := rNum a3.2 1152921504606846976
  let a5 := rNum a4.2 1125899906842624
  let a6 := rNum a5.2 1125899906842624
  let a7 := rNum a6.2 1125899906842624
  let a8 := rNum a7.2 2147483648
  (⟨a0.1, a1.1, a2.1, a3.1, a4.1, a5.1, a6.1, a7.1, a8.1⟩, a8.2)
/-- A ticket that is read; false: none. -/
def tkGet (s : Rs) : (Tk × Bool) × Rs :=
  let q := tkRead s
  if q.2.2 || !tkSound q.1 then ((Tk.zero, false), rFail) else ((q.1, true), q.2)

theorem Mod.fresh {S : Nat → Prop} {a w : World} (h : Mod S a w) {p : Addr} (hp : a.heap.size ≤ p.block) (u : Value) : Mod S a (w.setCell p u) :=
  ⟨h.os, h.tape, h.output, by simpa using h.size, fun k hk hn => (Below.heap_setCell w p u k (by omega)).trans (h.block k hk hn)⟩
theorem below_fresh {B : Nat} {a w : World} (h : Below B a w) {p : Addr} (hp : B ≤ p.block) (u : Value) : Below B a (w.setCell p u) :=
  ⟨h.os, h.tape, h.output, by simpa using h.size, fun k hk => (Below.heap_setCell w p u k (by omega)).trans (h.block k hk)⟩
theorem Rdr.far {w0 w : World} {g : Nat} {xs : List Int} {bad : Bool} (h : Rdr w0 w g xs bad) {p : Addr} (hp : p.block ≠ g) (u : Value) : Rdr w0 (w.setCell p u) g xs bad := by
  obtain ⟨A, c, hb, hg, hc, hr⟩ := h
  exact ⟨A, c, blk_far hb (Ne.symm hp) u, hg, hc, hr⟩
theorem Rdr.alloc {w0 w : World} {g : Nat} {xs : List Int} {bad : Bool} (h : Rdr w0 w g xs bad) (o : Obj) : Rdr w0 (w.alloc o) g xs bad := by
  obtain ⟨A, c, hb, hg, hc, hr⟩ := h
  exact ⟨A, c, blk_alloc hb o, hg, hc, hr⟩

/-- What a call of Num comes to. -/
def NumAt (w0 w : World) (g : Nat) (xs : List Int) (b : Bool) (most : Int) (e : Ending) (w' : World) : Prop :=
  ∃ n ys c, rNum (xs, b) most = (n, (ys, c)) ∧ e = .returned (.int .u64 n) ∧ 0 ≤ n ∧ n ≤ most ∧ Byt ys ∧ Mod (· = g) w w' ∧ Rdr w0 w' g ys c
theorem Num_step {w0 w : World} {g : Nat} {xs : List Int} {b : Bool} (most : Int) (hB : Below w0.heap.size w0 w) (h : Rdr w0 w g xs b) (hb : Byt xs) (h0 : 0 ≤ most) :
    Calls Try.prog 22 #[.pointer (some ⟨g, 0, none⟩), .int .u64 most] w (NumAt w0 w g xs b most) := by
  refine (Num_calls (most := most) hB h hb).mono fun e w' ⟨h1, h2, h3⟩ => ?_
  have hr := rNum_range (s := (xs, b)) (most := most) hb h0
  exact ⟨_, _, _, rfl, h2, hr.1, hr.2.1, rNum_byt (s := (xs, b)) hb most, h1, h3⟩

/-- The state of a reading: what began at ws has turned the reader alone, and made blocks of its own. -/
structure St (w0 ws w : World) (g bT : Nat) (cs : Array Value) (t : Nat) (xs : List Int) (b : Bool) : Prop where
  bel : Below w0.heap.size w0 w
  rdr : Rdr w0 w g xs b
  mod : Mod (· = g) ws w
  tk : w.heap[bT]? = some (.cells cs t (0, 0))
  ge : ws.heap.size ≤ bT
  old : g < ws.heap.size
  older : w0.heap.size ≤ ws.heap.size
section
variable {w0 ws w w' : World} {g bT : Nat} {cs : Array Value} {t : Nat} {xs ys : List Int} {b c : Bool}
theorem St.call (h : St w0 ws w g bT cs t xs b) (hm : Mod (· = g) w w') (hr : Rdr w0 w' g ys c) : St w0 ws w' g bT cs t ys c :=
  ⟨h.rdr.base h.bel hm, hr, h.mod.trans hm (fun _ _ e => e), hm.blk h.tk (by have := h.ge; have := h.old; omega), h.ge, h.old, h.older⟩
theorem St.quiet (h : St w0 ws w g bT cs t xs b) (hb : Below w.heap.size w w') : St w0 ws w' g bT cs t xs b :=
  ⟨h.bel.trans (hb.mono h.bel.size), h.rdr.keep (Mod.of_below (S := fun _ => False) hb) (fun h => h), h.mod.trans (Mod.of_below (S := fun _ => False) hb) (fun _ _ h => h.elim), blk_below h.tk hb, h.ge, h.old, h.older⟩
theorem St.set (h : St w0 ws w g bT cs t xs b) (i : Nat) (u : Value) : St w0 ws (w.setCell ⟨bT, i, none⟩ u) g bT (cs.setIfInBounds i u) t xs b :=
  ⟨below_fresh h.bel (by have := h.ge; have := h.older; simp only; omega) u, h.rdr.far (by have := h.ge; have := h.old; simp only; omega) u, h.mod.fresh h.ge u, blk_set h.tk i u, h.ge, h.old, h.older⟩
theorem St.far (h : St w0 ws w g bT cs t xs b) {p : Addr} (hp : ws.heap.size ≤ p.block) (hn : p.block ≠ bT) (u : Value) : St w0 ws (w.setCell p u) g bT cs t xs b :=
  ⟨below_fresh h.bel (by have := h.older; omega) u, h.rdr.far (by have := h.old; omega) u, h.mod.fresh hp u, blk_far h.tk (Ne.symm hn) u, h.ge, h.old, h.older⟩
theorem St.cell (h : St w0 ws w g bT cs t xs b) (i : Nat) : w.cell? ⟨bT, i, none⟩ = cs[i]? := blk_cell h.tk i
theorem St.free (h : St w0 ws w g bT cs t xs b) (i : Nat) : w.frozen? ⟨bT, i, none⟩ = false := blk_frozen h.tk i
theorem St.num (h : St w0 ws w g bT cs t xs b) (hb : Byt xs) (most : Int) (h0 : 0 ≤ most) : Calls Try.prog 22 #[.pointer (some ⟨g, 0, none⟩), .int .u64 most] w (NumAt w0 w g xs b most) := Num_step most h.bel h.rdr hb h0
end

/-- The closure of ticket.Read. -/
theorem tnum_calls {w0 w : World} {g : Nat} {xs : List Int} {b : Bool} {ad : Addr} (most : Int) (hB : Below w0.heap.size w0 w) (h : Rdr w0 w g xs b) (hb : Byt xs) (h0 : 0 ≤ most) (h1 : most ≤ 9223372036854775807) (hc : w.cell? ad = some (.pointer (some ⟨g, 0, none⟩))) :
    Calls Try.prog 164 #[.int .u64 most, .pointer (some ad)] w fun e w' => ∃ n ys c, rNum (xs, b) most = (n, (ys, c)) ∧ e = .returned (.int .i64 n) ∧ 0 ≤ n ∧ n ≤ most ∧ Byt ys ∧ Mod (· = g) w w' ∧ Rdr w0 w' g ys c := by
  have HN := Lib.hid (Num_step most hB h hb h0)
  clear hB h hb
  go_enter Try.func164, Try.ntmps164
  go_wp2_with fail
  with_reducible refine HN.out.mono ?_
  rintro e w' ⟨n, ys, c, hq, rfl, n0, n1, hy, hm, hr⟩
  have HQ := Lib.hid hq; have HY := Lib.hid hy; have HM := Lib.hid hm; have HR := Lib.hid hr
  clear hq hy hm hr
  go_wp2
  go_ret
  exact ⟨n, ys, c, HQ.out, rfl, n0, n1, HY.out, HM.out, HR.out⟩

theorem fail_step {w0 w : World} {g : Nat} {xs : List Int} {b : Bool} (h : Rdr w0 w g xs b) :
    Calls Try.prog 132 #[.pointer (some ⟨g, 0, none⟩)] w fun e w' => e = .returned (.tuple #[]) ∧ Mod (· = g) w w' ∧ Rdr w0 w' g [] true := by
  refine (Fail_calls h).mono ?_
  rintro e w' ⟨rfl, rfl⟩
  exact ⟨rfl, Mod.fail w g, h.fail⟩

end Go.Proofs.Ytabdjehnglmlpaa
end

section
/- ticket.Read. -/
namespace Go.Proofs.Ytabdjehnglmlpaa
open Go.RowKit Go.Proofs.YtabdjehnglmlpaaW.PrintWords
set_option linter.unusedVariables false
set_option linter.unusedSimpArgs false

def TkPost (w0 ws : World) (g : Nat) (q : (Tk × Bool) × Rs) (e : Ending) (w' : World) : Prop :=
  e = .returned (.tuple #[q.1.1.val, .bool q.1.2]) ∧ q.1.1.ok ∧ Mod (· = g) ws w' ∧ Rdr w0 w' g q.2.1 q.2.2

theorem Tk.zero_ok : Tk.zero.ok := by unfold Tk.ok Tk.zero; decide
theorem tkRead_eq {s s0 s1 s2 s3 s4 s5 s6 s7 s8 : Rs} {n0 n1 n2 n3 n4 n5 n6 n7 n8 : Int} (h0 : rNum s 18446744073709551615 = (n0, s0)) (h1 : rNum s0 15 = (n1, s1)) (h2 : rNum s1 4 = (n2, s2)) (h3 : rNum s2 5 = (n3, s3)) (h4 : rNum s3 1152921504606846976 = (n4, s4)) (h5 : rNum s4 1125899906842624 = (n5, s5)) (h6 : rNum s5 1125899906842624 = (n6, s6)) (h7 : rNum s6 1125899906842624 = (n7, s7)) (h8 : rNum s7 2147483648 = (n8, s8)) :
    tkRead s = (⟨n0, n1, n2, n3, n4, n5, n6, n7, n8⟩, s8) := by
  simp only [tkRead, h0, h1, h2, h3, h4, h5, h6, h7, h8]

set_option maxRecDepth 100000 in
set_option maxHeartbeats 4000000 in
theorem tread_calls {w0 w : World} {g : Nat} {xs : List Int} {b : Bool} (hB : Below w0.heap.size w0 w) (h : Rdr w0 w g xs b) (hb : Byt xs) (hws : w0.heap.size ≤ w.heap.size) :
    Calls Try.prog 155 #[.pointer (some ⟨g, 0, none⟩)] w (TkPost w0 w g (tkGet (xs, b))) := by
  have hg := h.ge
  have hglt := hg.2
  -- the box of the reader, and the result's block
  have S0 := Lib.hid (show St w0 w ((w.alloc (.cells #[.pointer (some ⟨g, 0, none⟩)] 24)).alloc (.cells #[.int .u64 0, .int .i64 0, .int .i64 0, .int .i64 0, .int .u64 0, .int .i64 0, .int .i64 0, .int .i64 0, .int .i64 0] 63)) g w.heap.size #[.pointer (some ⟨g, 0, none⟩)] 24 xs b from
    ⟨(hB.alloc hws _).alloc (by simp; omega) _, (h.alloc _).alloc _, (((Mod.refl _ _).alloc _).alloc _), blk_alloc (heap_alloc_new w _) _, Nat.le_refl _, hglt, hws⟩)
  have Z0 := Lib.hid (show ((w.alloc (.cells #[.pointer (some ⟨g, 0, none⟩)] 24)).alloc (.cells #[.int .u64 0, .int .i64 0, .int .i64 0, .int .i64 0, .int .u64 0, .int .i64 0, .int .i64 0, .int .i64 0, .int .i64 0] 63)).heap[w.heap.size + 1]? = some (.cells #[.int .u64 0, .int .i64 0, .int .i64 0, .int .i64 0, .int .u64 0, .int .i64 0, .int .i64 0, .int .i64 0, .int .i64 0] 63) by
    have := heap_alloc_new (w.alloc (.cells #[.pointer (some ⟨g, 0, none⟩)] 24)) (.cells #[.int .u64 0, .int .i64 0, .int .i64 0, .int .i64 0, .int .u64 0, .int .i64 0, .int .i64 0, .int .i64 0, .int .i64 0] 63)
    simpa using this)
  have HY := Lib.hid hb
  clear hB h hb hg
  go_enter Try.func155, Try.ntmps155
  go_wp2_with fail
  have hq : w.heap.size + 1 ≠ w.heap.size := by omega
  have Q0 := Lib.hid (show St w0 w _ g (w.heap.size + 1) _ 63 xs b from ⟨S0.out.bel, S0.out.rdr, S0.out.mod, Z0.out, by omega, S0.out.old, S0.out.older⟩)
  clear Z0
  with_reducible refine (S0.out.num HY.out 18446744073709551615 (by decide)).mono ?_
  rintro e w1 ⟨n0, y0, b0, hq0, rfl, lo0, hi0, hy0, hm, hr⟩
  have E0 := Lib.hid hq0; have HY0 := Lib.hid hy0
  have S1 := Lib.hid ((S0.out.call hm hr).quiet ((Below.refl _ _).alloc (Nat.le_refl _) (.cells #[.int .u64 n0, .int .i64 0, .int .i64 0, .int .i64 0, .int .u64 0, .int .i64 0, .int .i64 0, .int .i64 0, .int .i64 0] 63)))
  have Q1 := Lib.hid ((Q0.out.call hm hr).quiet ((Below.refl _ _).alloc (Nat.le_refl _) (.cells #[.int .u64 n0, .int .i64 0, .int .i64 0, .int .i64 0, .int .u64 0, .int .i64 0, .int .i64 0, .int .i64 0, .int .i64 0] 63)))
  have hs1 : w.heap.size + 1 < w1.heap.size := blk_lt (Q0.out.call hm hr).tk
  have T1 := Lib.hid (show St w0 w _ g w1.heap.size _ 63 y0 b0 from ⟨S1.out.bel, S1.out.rdr, S1.out.mod, heap_alloc_new w1 (.cells #[.int .u64 n0, .int .i64 0, .int .i64 0, .int .i64 0, .int .u64 0, .int .i64 0, .int .i64 0, .int .i64 0, .int .i64 0] 63), by omega, S1.out.old, S1.out.older⟩)
  have kR := S1.out.cell 0
  clear hq0 hy0 hm hr S0 Q0
  go_wp2_with fail
  with_reducible refine (tnum_calls 15 S1.out.bel S1.out.rdr HY0.out (by decide) (by decide) kR).mono ?_
  rintro e w2 ⟨n1, y1, b1, hq1, rfl, lo1, hi1, hy1, hm, hr⟩
  have E1 := Lib.hid hq1; have HY1 := Lib.hid hy1
  have T2 := Lib.hid (T1.out.call hm hr)
  have S2 := Lib.hid (S1.out.call hm hr)
  have Q2 := Lib.hid (Q1.out.call hm hr)
  clear hq1 hy1 hm hr S1 Q1 T1 kR
  have kR := S2.out.cell 0
  go_wp2_with fail
  with_reducible refine (tnum_calls 4 S2.out.bel S2.out.rdr HY1.out (by decide) (by decide) kR).mono ?_
  rintro e w3 ⟨n2, y2, b2, hq2, rfl, lo2, hi2, hy2, hm, hr⟩
  have E2 := Lib.hid hq2; have HY2 := Lib.hid hy2
  have T3 := Lib.hid (T2.out.call hm hr)
  have S3 := Lib.hid (S2.out.call hm hr)
  have Q3 := Lib.hid (Q2.out.call hm hr)
  clear hq2 hy2 hm hr S2 Q2 T2 kR
  have kR := S3.out.cell 0
  go_wp2_with fail
  with_reducible refine (tnum_calls 5 S3.out.bel S3.out.rdr HY2.out (by decide) (by decide) kR).mono ?_
  rintro e w4 ⟨n3, y3, b3, hq3, rfl, lo3, hi3, hy3, hm, hr⟩
  have E3 := Lib.hid hq3; have HY3 := Lib.hid hy3
  have T4 := Lib.hid (((((((T3.out.call hm hr).set 1 (.int .i64 n1))).set 2 (.int .i64 n2))).set 3 (.int .i64 n3)))
  have S4 := Lib.hid ((((S3.out.call hm hr).far (p := ⟨w1.heap.size, 1, none⟩) (by simp only; omega) (by simp only; omega) (.int .i64 n1)).far (p := ⟨w1.heap.size, 2, none⟩) (by simp only; omega) (by simp only; omega) (.int .i64 n2)).far (p := ⟨w1.heap.size, 3, none⟩) (by simp only; omega) (by simp only; omega) (.int .i64 n3))
  have Q4 := Lib.hid ((((Q3.out.call hm hr).far (p := ⟨w1.heap.size, 1, none⟩) (by simp only; omega) (by simp only; omega) (.int .i64 n1)).far (p := ⟨w1.heap.size, 2, none⟩) (by simp only; omega) (by simp only; omega) (.int .i64 n2)).far (p := ⟨w1.heap.size, 3, none⟩) (by simp only; omega) (by simp only; omega) (.int .i64 n3))
  have U := T3.out.call hm hr
  have c1 := U.cell 1; have f1 := U.free 1
  have c2 := U.cell 2; have f2 := U.free 2
  have c3 := U.cell 3; have f3 := U.free 3
  clear U
  clear hq3 hy3 hm hr S3 Q3 T3 kR
  have kR := S4.out.cell 0
  go_wp2_with fail
  with_reducible refine (S4.out.num HY3.out 1152921504606846976 (by decide)).mono ?_
  rintro e w5 ⟨n4, y4, b4, hq4, rfl, lo4, hi4, hy4, hm, hr⟩
  have E4 := Lib.hid hq4; have HY4 := Lib.hid hy4
  have T5 := Lib.hid (((T4.out.call hm hr).set 4 (.int .u64 n4)))
  have S5 := Lib.hid ((S4.out.call hm hr).far (p := ⟨w1.heap.size, 4, none⟩) (by simp only; omega) (by simp only; omega) (.int .u64 n4))
  have Q5 := Lib.hid ((Q4.out.call hm hr).far (p := ⟨w1.heap.size, 4, none⟩) (by simp only; omega) (by simp only; omega) (.int .u64 n4))
  have U := T4.out.call hm hr
  have c4 := U.cell 4; have f4 := U.free 4
  clear U
  clear hq4 hy4 hm hr S4 Q4 T4 kR
  have kR := S5.out.cell 0
  go_wp2_with fail
  with_reducible refine (tnum_calls 1125899906842624 S5.out.bel S5.out.rdr HY4.out (by decide) (by decide) kR).mono ?_
  rintro e w6 ⟨n5, y5, b5, hq5, rfl, lo5, hi5, hy5, hm, hr⟩
  have E5 := Lib.hid hq5; have HY5 := Lib.hid hy5
  have T6 := Lib.hid (T5.out.call hm hr)
  have S6 := Lib.hid (S5.out.call hm hr)
  have Q6 := Lib.hid (Q5.out.call hm hr)
  clear hq5 hy5 hm hr S5 Q5 T5 kR
  have kR := S6.out.cell 0
  go_wp2_with fail
  with_reducible refine (tnum_calls 1125899906842624 S6.out.bel S6.out.rdr HY5.out (by decide) (by decide) kR).mono ?_
  rintro e w7 ⟨n6, y6, b6, hq6, rfl, lo6, hi6, hy6, hm, hr⟩
  have E6 := Lib.hid hq6; have HY6 := Lib.hid hy6
  have T7 := Lib.hid (T6.out.call hm hr)
  have S7 := Lib.hid (S6.out.call hm hr)
  have Q7 := Lib.hid (Q6.out.call hm hr)
  clear hq6 hy6 hm hr S6 Q6 T6 kR
  have kR := S7.out.cell 0
  go_wp2_with fail
  with_reducible refine (tnum_calls 1125899906842624 S7.out.bel S7.out.rdr HY6.out (by decide) (by decide) kR).mono ?_
  rintro e w8 ⟨n7, y7, b7, hq7, rfl, lo7, hi7, hy7, hm, hr⟩
  have E7 := Lib.hid hq7; have HY7 := Lib.hid hy7
  have T8 := Lib.hid (((((((T7.out.call hm hr).set 5 (.int .i64 n5))).set 6 (.int .i64 n6))).set 7 (.int .i64 n7)))
  have S8 := Lib.hid ((((S7.out.call hm hr).far (p := ⟨w1.heap.size, 5, none⟩) (by simp only; omega) (by simp only; omega) (.int .i64 n5)).far (p := ⟨w1.heap.size, 6, none⟩) (by simp only; omega) (by simp only; omega) (.int .i64 n6)).far (p := ⟨w1.heap.size, 7, none⟩) (by simp only; omega) (by simp only; omega) (.int .i64 n7))
  have Q8 := Lib.hid ((((Q7.out.call hm hr).far (p := ⟨w1.heap.size, 5, none⟩) (by simp only; omega) (by simp only; omega) (.int .i64 n5)).far (p := ⟨w1.heap.size, 6, none⟩) (by simp only; omega) (by simp only; omega) (.int .i64 n6)).far (p := ⟨w1.heap.size, 7, none⟩) (by simp only; omega) (by simp only; omega) (.int .i64 n7))
  have U := T7.out.call hm hr
  have c5 := U.cell 5; have f5 := U.free 5
  have c6 := U.cell 6; have f6 := U.free 6
  have c7 := U.cell 7; have f7 := U.free 7
  clear U
  clear hq7 hy7 hm hr S7 Q7 T7 kR
  have kR := S8.out.cell 0
  go_wp2_with fail
  with_reducible refine (tnum_calls 2147483648 S8.out.bel S8.out.rdr HY7.out (by decide) (by decide) kR).mono ?_
  rintro e w9 ⟨n8, y8, b8, hq8, rfl, lo8, hi8, hy8, hm, hr⟩
  have E8 := Lib.hid hq8; have HY8 := Lib.hid hy8
  have T9 := Lib.hid (((T8.out.call hm hr).set 8 (.int .i64 n8)))
  have S9 := Lib.hid ((S8.out.call hm hr).far (p := ⟨w1.heap.size, 8, none⟩) (by simp only; omega) (by simp only; omega) (.int .i64 n8))
  have Q9 := Lib.hid ((Q8.out.call hm hr).far (p := ⟨w1.heap.size, 8, none⟩) (by simp only; omega) (by simp only; omega) (.int .i64 n8))
  have U := T8.out.call hm hr
  have c8 := U.cell 8; have f8 := U.free 8
  clear U
  clear hq8 hy8 hm hr S8 Q8 T8 kR
  have kR := S9.out.cell 0
  have ET := Lib.hid (tkRead_eq E0.out E1.out E2.out E3.out E4.out E5.out E6.out E7.out E8.out)
  clear E0 E1 E2 E3 E4 E5 E6 E7 E8 HY0 HY1 HY2 HY3 HY4 HY5 HY6 HY7
  have OK : Tk.ok ⟨n0, n1, n2, n3, n4, n5, n6, n7, n8⟩ := ⟨⟨by simp only; omega, by simp only; omega⟩, ⟨by simp only; omega, by simp only; omega⟩, ⟨by simp only; omega, by simp only; omega⟩, ⟨by simp only; omega, by simp only; omega⟩, ⟨by simp only; omega, by simp only; omega⟩, ⟨by simp only; omega, by simp only; omega⟩, ⟨by simp only; omega, by simp only; omega⟩, ⟨by simp only; omega, by simp only; omega⟩, ⟨by simp only; omega, by simp only; omega⟩⟩
  have HOK := Lib.hid OK
  have HTS := Lib.hid (fun W => tSound_calls W ⟨n0, n1, n2, n3, n4, n5, n6, n7, n8⟩ OK)
  clear OK
  have BC := Lib.hid (Bad_calls S9.out.rdr)
  revert BC ET Q9 S9 T9
  cases b8
  · intro T9 S9 Q9 ET BC
    have t0 := T9.out.cell 0
    have t1 := T9.out.cell 1
    have t2 := T9.out.cell 2
    have t3 := T9.out.cell 3
    have t4 := T9.out.cell 4
    have t5 := T9.out.cell 5
    have t6 := T9.out.cell 6
    have t7 := T9.out.cell 7
    have t8 := T9.out.cell 8
    cases hs : tkSound ⟨n0, n1, n2, n3, n4, n5, n6, n7, n8⟩
    · have EG : Hid (tkGet (xs, b) = ((Tk.zero, false), rFail)) := by
        show tkGet (xs, b) = _
        unfold tkGet; rw [ET.out]; simp [hs]
      have HS := Lib.hid hs
      clear hs ET
      go_wp2_with fail
      with_reducible refine BC.out.mono ?_
      rintro e w10 ⟨rfl, rfl⟩
      go_wp2_with fail
      with_reducible refine (HTS.out _).mono ?_
      rintro e w11 ⟨rfl, hb⟩
      rw [HS.out]
      have S10 := Lib.hid (S9.out.quiet hb); have Q10 := Lib.hid (Q9.out.quiet hb)
      clear hb kR t0 t1 t2 t3 t4 t5 t6 t7 t8 S9 Q9 T9 BC
      have kR := S10.out.cell 0
      go_wp2_with fail
      with_reducible refine (fail_step S10.out.rdr).mono ?_
      rintro e w12 ⟨rfl, hm, hr⟩
      have Q11 := Lib.hid (Q10.out.call hm hr)
      clear hm hr S10 Q10 kR
      have q0 := Q11.out.cell 0; have r0 := Q11.out.free 0
      have q1 := Q11.out.cell 1; have r1 := Q11.out.free 1
      have q2 := Q11.out.cell 2; have r2 := Q11.out.free 2
      have q3 := Q11.out.cell 3; have r3 := Q11.out.free 3
      have q4 := Q11.out.cell 4; have r4 := Q11.out.free 4
      have q5 := Q11.out.cell 5; have r5 := Q11.out.free 5
      have q6 := Q11.out.cell 6; have r6 := Q11.out.free 6
      have q7 := Q11.out.cell 7; have r7 := Q11.out.free 7
      have q8 := Q11.out.cell 8; have r8 := Q11.out.free 8
      go_wp2
      have QF := Lib.hid (((((((((Q11.out.set 0 (.int .u64 0)).set 1 (.int .i64 0)).set 2 (.int .i64 0)).set 3 (.int .i64 0)).set 4 (.int .u64 0)).set 5 (.int .i64 0)).set 6 (.int .i64 0)).set 7 (.int .i64 0)).set 8 (.int .i64 0))
      have z0 := (QF.out.cell 0).trans rfl
      have z1 := (QF.out.cell 1).trans rfl
      have z2 := (QF.out.cell 2).trans rfl
      have z3 := (QF.out.cell 3).trans rfl
      have z4 := (QF.out.cell 4).trans rfl
      have z5 := (QF.out.cell 5).trans rfl
      have z6 := (QF.out.cell 6).trans rfl
      have z7 := (QF.out.cell 7).trans rfl
      have z8 := (QF.out.cell 8).trans rfl
      refine bodyPost_ret (v := .tuple #[.agg #[.int .u64 0, .int .i64 0, .int .i64 0, .int .i64 0, .int .u64 0, .int .i64 0, .int .i64 0, .int .i64 0, .int .i64 0], .bool false]) (by simp [results, Try.results155, go_sem, z0, z1, z2, z3, z4, z5, z6, z7, z8]) rfl ⟨?_, ?_, QF.out.mod, ?_⟩
      · rw [EG.out]; rfl
      · rw [EG.out]; exact Tk.zero_ok
      · rw [EG.out]; exact QF.out.rdr
    · have EG : Hid (tkGet (xs, b) = ((⟨n0, n1, n2, n3, n4, n5, n6, n7, n8⟩, true), (y8, false))) := by
        show tkGet (xs, b) = _
        unfold tkGet; rw [ET.out]; simp [hs]
      have HS := Lib.hid hs
      clear hs ET
      go_wp2_with fail
      with_reducible refine BC.out.mono ?_
      rintro e w10 ⟨rfl, rfl⟩
      go_wp2_with fail
      with_reducible refine (HTS.out _).mono ?_
      rintro e w11 ⟨rfl, hb⟩
      rw [HS.out]
      have S10 := Lib.hid (S9.out.quiet hb); have Q10 := Lib.hid (Q9.out.quiet hb); have T10 := Lib.hid (T9.out.quiet hb)
      clear hb kR t0 t1 t2 t3 t4 t5 t6 t7 t8 S9 Q9 T9 BC
      have t0 := T10.out.cell 0
      have t1 := T10.out.cell 1
      have t2 := T10.out.cell 2
      have t3 := T10.out.cell 3
      have t4 := T10.out.cell 4
      have t5 := T10.out.cell 5
      have t6 := T10.out.cell 6
      have t7 := T10.out.cell 7
      have t8 := T10.out.cell 8
      have q0 := Q10.out.cell 0; have r0 := Q10.out.free 0
      have q1 := Q10.out.cell 1; have r1 := Q10.out.free 1
      have q2 := Q10.out.cell 2; have r2 := Q10.out.free 2
      have q3 := Q10.out.cell 3; have r3 := Q10.out.free 3
      have q4 := Q10.out.cell 4; have r4 := Q10.out.free 4
      have q5 := Q10.out.cell 5; have r5 := Q10.out.free 5
      have q6 := Q10.out.cell 6; have r6 := Q10.out.free 6
      have q7 := Q10.out.cell 7; have r7 := Q10.out.free 7
      have q8 := Q10.out.cell 8; have r8 := Q10.out.free 8
      go_wp2
      have QF := Lib.hid (((((((((Q10.out.set 0 (.int .u64 n0)).set 1 (.int .i64 n1)).set 2 (.int .i64 n2)).set 3 (.int .i64 n3)).set 4 (.int .u64 n4)).set 5 (.int .i64 n5)).set 6 (.int .i64 n6)).set 7 (.int .i64 n7)).set 8 (.int .i64 n8))
      have z0 := (QF.out.cell 0).trans rfl
      have z1 := (QF.out.cell 1).trans rfl
      have z2 := (QF.out.cell 2).trans rfl
      have z3 := (QF.out.cell 3).trans rfl
      have z4 := (QF.out.cell 4).trans rfl
      have z5 := (QF.out.cell 5).trans rfl
      have z6 := (QF.out.cell 6).trans rfl
      have z7 := (QF.out.cell 7).trans rfl
      have z8 := (QF.out.cell 8).trans rfl
      refine bodyPost_ret (v := .tuple #[.agg #[.int .u64 n0, .int .i64 n1, .int .i64 n2, .int .i64 n3, .int .u64 n4, .int .i64 n5, .int .i64 n6, .int .i64 n7, .int .i64 n8], .bool true]) (by simp [results, Try.results155, go_sem, z0, z1, z2, z3, z4, z5, z6, z7, z8]) rfl ⟨?_, ?_, QF.out.mod, ?_⟩
      · rw [EG.out]; rfl
      · rw [EG.out]; exact HOK.out
      · rw [EG.out]; exact QF.out.rdr
  · intro T9 S9 Q9 ET BC
    have EG : Hid (tkGet (xs, b) = ((Tk.zero, false), rFail)) := by
      show tkGet (xs, b) = _
      unfold tkGet; rw [ET.out]; simp
    clear ET
    go_wp2_with fail
    with_reducible refine BC.out.mono ?_
    rintro e w10 ⟨rfl, rfl⟩
    go_wp2_with fail
    with_reducible refine (fail_step S9.out.rdr).mono ?_
    rintro e w12 ⟨rfl, hm, hr⟩
    have Q11 := Lib.hid (Q9.out.call hm hr)
    clear hm hr S9 Q9 T9 BC kR
    have q0 := Q11.out.cell 0; have r0 := Q11.out.free 0
    have q1 := Q11.out.cell 1; have r1 := Q11.out.free 1
    have q2 := Q11.out.cell 2; have r2 := Q11.out.free 2
    have q3 := Q11.out.cell 3; have r3 := Q11.out.free 3
    have q4 := Q11.out.cell 4; have r4 := Q11.out.free 4
    have q5 := Q11.out.cell 5; have r5 := Q11.out.free 5
    have q6 := Q11.out.cell 6; have r6 := Q11.out.free 6
    have q7 := Q11.out.cell 7; have r7 := Q11.out.free 7
    have q8 := Q11.out.cell 8; have r8 := Q11.out.free 8
    go_wp2
    have QF := Lib.hid (((((((((Q11.out.set 0 (.int .u64 0)).set 1 (.int .i64 0)).set 2 (.int .i64 0)).set 3 (.int .i64 0)).set 4 (.int .u64 0)).set 5 (.int .i64 0)).set 6 (.int .i64 0)).set 7 (.int .i64 0)).set 8 (.int .i64 0))
    have z0 := (QF.out.cell 0).trans rfl
    have z1 := (QF.out.cell 1).trans rfl
    have z2 := (QF.out.cell 2).trans rfl
    have z3 := (QF.out.cell 3).trans rfl
    have z4 := (QF.out.cell 4).trans rfl
    have z5 := (QF.out.cell 5).trans rfl
    have z6 := (QF.out.cell 6).trans rfl
    have z7 := (QF.out.cell 7).trans rfl
    have z8 := (QF.out.cell 8).trans rfl
    refine bodyPost_ret (v := .tuple #[.agg #[.int .u64 0, .int .i64 0, .int .i64 0, .int .i64 0, .int .u64 0, .int .i64 0, .int .i64 0, .int .i64 0, .int .i64 0], .bool false]) (by simp [results, Try.results155, go_sem, z0, z1, z2, z3, z4, z5, z6, z7, z8]) rfl ⟨?_, ?_, QF.out.mod, ?_⟩
    · rw [EG.out]; rfl
    · rw [EG.out]; exact Tk.zero_ok
    · rw [EG.out]; exact QF.out.rdr


end Go.Proofs.Ytabdjehnglmlpaa
end

section
/- The reference's Read of a ticket. -/
namespace Go.Proofs.Ytabdjehnglmlpaa
open Go.RowKit Go.Proofs.YtabdjehnglmlpaaW.PrintWords
set_option linter.unusedVariables false
set_option linter.unusedSimpArgs false

theorem Ref.far {w0 w : World} {g : Nat} {xs : List Int} {bad : Bool} (h : Ref w0 w g xs bad) {p : Addr} (hp : p.block ≠ g) (u : Value) : Ref w0 (w.setCell p u) g xs bad := by
  obtain ⟨A, c, hb, hg, hc, hr⟩ := h
  exact ⟨A, c, blk_far hb (Ne.symm hp) u, hg, hc, hr⟩
theorem Ref.alloc {w0 w : World} {g : Nat} {xs : List Int} {bad : Bool} (h : Ref w0 w g xs bad) (o : Obj) : Ref w0 (w.alloc o) g xs bad := by
  obtain ⟨A, c, hb, hg, hc, hr⟩ := h
  exact ⟨A, c, blk_alloc hb o, hg, hc, hr⟩
/-- What a call of the reference's Num comes to. -/
def RNumAt (w0 w : World) (g : Nat) (xs : List Int) (b : Bool) (most : Int) (e : Ending) (w' : World) : Prop :=
  ∃ n ys c, rNum (xs, b) most = (n, (ys, c)) ∧ e = .returned (.int .u64 n) ∧ 0 ≤ n ∧ n ≤ most ∧ Byt ys ∧ Mod (· = g) w w' ∧ Ref w0 w' g ys c
theorem RNum_step {w0 w : World} {g : Nat} {xs : List Int} {b : Bool} (most : Int) (hB : Below w0.heap.size w0 w) (h : Ref w0 w g xs b) (hb : Byt xs) (h0 : 0 ≤ most) :
    Calls Try.prog 133 #[.pointer (some ⟨g, 0, none⟩), .int .u64 most] w (RNumAt w0 w g xs b most) := by
  refine (RNum_calls (most := most) hB h hb).mono fun e w' ⟨h1, h2, h3⟩ => ?_
  have hr := rNum_range (s := (xs, b)) (most := most) hb h0
  exact ⟨_, _, _, rfl, h2, hr.1, hr.2.1, rNum_byt (s := (xs, b)) hb most, h1, h3⟩
theorem rfail_step {w0 w : World} {g : Nat} {xs : List Int} {b : Bool} (h : Ref w0 w g xs b) :
    Calls Try.prog 134 #[.pointer (some ⟨g, 0, none⟩)] w fun e w' => e = .returned (.tuple #[]) ∧ Mod (· = g) w w' ∧ Ref w0 w' g [] true := by
  refine (RFail_post h).mono ?_
  rintro e w' ⟨h1, h2, h3⟩
  exact ⟨h2, h1, h3⟩

/-- The state of a reading of the reference's. -/
structure Sr (w0 ws w : World) (g bT : Nat) (cs : Array Value) (t : Nat) (xs : List Int) (b : Bool) : Prop where
  bel : Below w0.heap.size w0 w
  rdr : Ref w0 w g xs b
  mod : Mod (· = g) ws w
  tk : w.heap[bT]? = some (.cells cs t (0, 0))
  ge : ws.heap.size ≤ bT
  old : g < ws.heap.size
  older : w0.heap.size ≤ ws.heap.size
section
variable {w0 ws w w' : World} {g bT : Nat} {cs : Array Value} {t : Nat} {xs ys : List Int} {b c : Bool}
theorem Sr.call (h : Sr w0 ws w g bT cs t xs b) (hm : Mod (· = g) w w') (hr : Ref w0 w' g ys c) : Sr w0 ws w' g bT cs t ys c :=
  ⟨h.rdr.base h.bel hm, hr, h.mod.trans hm (fun _ _ e => e), hm.blk h.tk (by have := h.ge; have := h.old; omega), h.ge, h.old, h.older⟩
theorem Sr.quiet (h : Sr w0 ws w g bT cs t xs b) (hb : Below w.heap.size w w') : Sr w0 ws w' g bT cs t xs b :=
  ⟨h.bel.trans (hb.mono h.bel.size), h.rdr.keep (Mod.of_below (S := fun _ => False) hb) (fun h => h), h.mod.trans (Mod.of_below (S := fun _ => False) hb) (fun _ _ h => h.elim), blk_below h.tk hb, h.ge, h.old, h.older⟩
theorem Sr.set (h : Sr w0 ws w g bT cs t xs b) (i : Nat) (u : Value) : Sr w0 ws (w.setCell ⟨bT, i, none⟩ u) g bT (cs.setIfInBounds i u) t xs b :=
  ⟨below_fresh h.bel (by have := h.ge; have := h.older; simp only; omega) u, h.rdr.far (by have := h.ge; have := h.old; simp only; omega) u, h.mod.fresh h.ge u, blk_set h.tk i u, h.ge, h.old, h.older⟩
theorem Sr.far (h : Sr w0 ws w g bT cs t xs b) {p : Addr} (hp : ws.heap.size ≤ p.block) (hn : p.block ≠ bT) (u : Value) : Sr w0 ws (w.setCell p u) g bT cs t xs b :=
  ⟨below_fresh h.bel (by have := h.older; omega) u, h.rdr.far (by have := h.old; omega) u, h.mod.fresh hp u, blk_far h.tk (Ne.symm hn) u, h.ge, h.old, h.older⟩
theorem Sr.cell (h : Sr w0 ws w g bT cs t xs b) (i : Nat) : w.cell? ⟨bT, i, none⟩ = cs[i]? := blk_cell h.tk i
theorem Sr.free (h : Sr w0 ws w g bT cs t xs b) (i : Nat) : w.frozen? ⟨bT, i, none⟩ = false := blk_frozen h.tk i
theorem Sr.num (h : Sr w0 ws w g bT cs t xs b) (hb : Byt xs) (most : Int) (h0 : 0 ≤ most) : Calls Try.prog 133 #[.pointer (some ⟨g, 0, none⟩), .int .u64 most] w (RNumAt w0 w g xs b most) := RNum_step most h.bel h.rdr hb h0
theorem Sr.wrong (h : Sr w0 ws w g bT cs t xs b) : w.cell? ⟨g, 1, none⟩ = some (.bool b) := by obtain ⟨_, _, _, h1, _⟩ := h.rdr.cells; exact h1
end
def RTkPost (w0 ws : World) (g : Nat) (q : (Tk × Bool) × Rs) (e : Ending) (w' : World) : Prop :=
  e = .returned (.tuple #[q.1.1.val, .bool q.1.2]) ∧ q.1.1.ok ∧ Mod (· = g) ws w' ∧ Ref w0 w' g q.2.1 q.2.2

set_option maxRecDepth 100000 in
set_option maxHeartbeats 4000000 in
theorem rtread_calls {w0 w : World} {g : Nat} {xs : List Int} {b : Bool} (hB : Below w0.heap.size w0 w) (h : Ref w0 w g xs b) (hb : Byt xs) (hws : w0.heap.size ≤ w.heap.size) :
    Calls Try.prog 157 #[.pointer (some ⟨g, 0, none⟩)] w (RTkPost w0 w g (tkGet (xs, b))) := by
  have hg := h.ge
  have hglt := hg.2
  have Q0 := Lib.hid (show Sr w0 w ((w.alloc (.cells #[.int .u64 0, .int .i64 0, .int .i64 0, .int .i64 0, .int .u64 0, .int .i64 0, .int .i64 0, .int .i64 0, .int .i64 0] 63)).alloc (.cells #[.int .u64 0, .int .i64 0, .int .i64 0, .int .i64 0, .int .u64 0, .int .i64 0, .int .i64 0, .int .i64 0, .int .i64 0] 63)) g w.heap.size #[.int .u64 0, .int .i64 0, .int .i64 0, .int .i64 0, .int .u64 0, .int .i64 0, .int .i64 0, .int .i64 0, .int .i64 0] 63 xs b from
    ⟨(hB.alloc hws _).alloc (by simp; omega) _, (h.alloc _).alloc _, (((Mod.refl _ _).alloc _).alloc _), blk_alloc (heap_alloc_new w _) _, Nat.le_refl _, hglt, hws⟩)
  have Z0 := Lib.hid (show ((w.alloc (.cells #[.int .u64 0, .int .i64 0, .int .i64 0, .int .i64 0, .int .u64 0, .int .i64 0, .int .i64 0, .int .i64 0, .int .i64 0] 63)).alloc (.cells #[.int .u64 0, .int .i64 0, .int .i64 0, .int .i64 0, .int .u64 0, .int .i64 0, .int .i64 0, .int .i64 0, .int .i64 0] 63)).heap[w.heap.size + 1]? = some (.cells #[.int .u64 0, .int .i64 0, .int .i64 0, .int .i64 0, .int .u64 0, .int .i64 0, .int .i64 0, .int .i64 0, .int .i64 0] 63) by
    have := heap_alloc_new (w.alloc (.cells #[.int .u64 0, .int .i64 0, .int .i64 0, .int .i64 0, .int .u64 0, .int .i64 0, .int .i64 0, .int .i64 0, .int .i64 0] 63)) (.cells #[.int .u64 0, .int .i64 0, .int .i64 0, .int .i64 0, .int .u64 0, .int .i64 0, .int .i64 0, .int .i64 0, .int .i64 0] 63)
    simpa using this)
  have hq : w.heap.size ≠ w.heap.size + 1 := by omega
  have hq' : w.heap.size + 1 ≠ w.heap.size := by omega
  have T0 := Lib.hid (show Sr w0 w _ g (w.heap.size + 1) _ 63 xs b from ⟨Q0.out.bel, Q0.out.rdr, Q0.out.mod, Z0.out, by omega, Q0.out.old, Q0.out.older⟩)
  have HY := Lib.hid hb
  clear hB h hb hg Z0
  go_enter Try.func157, Try.ntmps157
  go_wp2_with fail
  with_reducible refine (T0.out.num HY.out 18446744073709551615 (by decide)).mono ?_
  rintro e w1 ⟨n0, y0, b0, hq0, rfl, lo0, hi0, hy0, hm, hr⟩
  have E0 := Lib.hid hq0; have HY0 := Lib.hid hy0
  have U := T0.out.call hm hr
  have c0 := U.cell 0; have f0 := U.free 0
  clear U
  have T1 := Lib.hid ((T0.out.call hm hr).set 0 (.int .u64 n0))
  have Q1 := Lib.hid ((Q0.out.call hm hr).far (p := ⟨w.heap.size + 1, 0, none⟩) (by simp only; omega) (by simp only; omega) (.int .u64 n0))
  clear hq0 hy0 hm hr T0 Q0
  go_wp2_with fail
  with_reducible refine (T1.out.num HY0.out 15 (by decide)).mono ?_
  rintro e w2 ⟨n1, y1, b1, hq1, rfl, lo1, hi1, hy1, hm, hr⟩
  have E1 := Lib.hid hq1; have HY1 := Lib.hid hy1
  have U := T1.out.call hm hr
  have c1 := U.cell 1; have f1 := U.free 1
  clear U
  have T2 := Lib.hid ((T1.out.call hm hr).set 1 (.int .i64 n1))
  have Q2 := Lib.hid ((Q1.out.call hm hr).far (p := ⟨w.heap.size + 1, 1, none⟩) (by simp only; omega) (by simp only; omega) (.int .i64 n1))
  clear hq1 hy1 hm hr T1 Q1
  go_wp2_with fail
  with_reducible refine (T2.out.num HY1.out 4 (by decide)).mono ?_
  rintro e w3 ⟨n2, y2, b2, hq2, rfl, lo2, hi2, hy2, hm, hr⟩
  have E2 := Lib.hid hq2; have HY2 := Lib.hid hy2
  have U := T2.out.call hm hr
  have c2 := U.cell 2; have f2 := U.free 2
  clear U
  have T3 := Lib.hid ((T2.out.call hm hr).set 2 (.int .i64 n2))
  have Q3 := Lib.hid ((Q2.out.call hm hr).far (p := ⟨w.heap.size + 1, 2, none⟩) (by simp only; omega) (by simp only; omega) (.int .i64 n2))
  clear hq2 hy2 hm hr T2 Q2
  go_wp2_with fail
  with_reducible refine (T3.out.num HY2.out 5 (by decide)).mono ?_
  rintro e w4 ⟨n3, y3, b3, hq3, rfl, lo3, hi3, hy3, hm, hr⟩
  have E3 := Lib.hid hq3; have HY3 := Lib.hid hy3
  have U := T3.out.call hm hr
  have c3 := U.cell 3; have f3 := U.free 3
  clear U
  have T4 := Lib.hid ((T3.out.call hm hr).set 3 (.int .i64 n3))
  have Q4 := Lib.hid ((Q3.out.call hm hr).far (p := ⟨w.heap.size + 1, 3, none⟩) (by simp only; omega) (by simp only; omega) (.int .i64 n3))
  clear hq3 hy3 hm hr T3 Q3
  go_wp2_with fail
  with_reducible refine (T4.out.num HY3.out 1152921504606846976 (by decide)).mono ?_
  rintro e w5 ⟨n4, y4, b4, hq4, rfl, lo4, hi4, hy4, hm, hr⟩
  have E4 := Lib.hid hq4; have HY4 := Lib.hid hy4
  have U := T4.out.call hm hr
  have c4 := U.cell 4; have f4 := U.free 4
  clear U
  have T5 := Lib.hid ((T4.out.call hm hr).set 4 (.int .u64 n4))
  have Q5 := Lib.hid ((Q4.out.call hm hr).far (p := ⟨w.heap.size + 1, 4, none⟩) (by simp only; omega) (by simp only; omega) (.int .u64 n4))
  clear hq4 hy4 hm hr T4 Q4
  go_wp2_with fail
  with_reducible refine (T5.out.num HY4.out 1125899906842624 (by decide)).mono ?_
  rintro e w6 ⟨n5, y5, b5, hq5, rfl, lo5, hi5, hy5, hm, hr⟩
  have E5 := Lib.hid hq5; have HY5 := Lib.hid hy5
  have U := T5.out.call hm hr
  have c5 := U.cell 5; have f5 := U.free 5
  clear U
  have T6 := Lib.hid ((T5.out.call hm hr).set 5 (.int .i64 n5))
  have Q6 := Lib.hid ((Q5.out.call hm hr).far (p := ⟨w.heap.size + 1, 5, none⟩) (by simp only; omega) (by simp only; omega) (.int .i64 n5))
  clear hq5 hy5 hm hr T5 Q5
  go_wp2_with fail
  with_reducible refine (T6.out.num HY5.out 1125899906842624 (by decide)).mono ?_
  rintro e w7 ⟨n6, y6, b6, hq6, rfl, lo6, hi6, hy6, hm, hr⟩
  have E6 := Lib.hid hq6; have HY6 := Lib.hid hy6
  have U := T6.out.call hm hr
  have c6 := U.cell 6; have f6 := U.free 6
  clear U
  have T7 := Lib.hid ((T6.out.call hm hr).set 6 (.int .i64 n6))
  have Q7 := Lib.hid ((Q6.out.call hm hr).far (p := ⟨w.heap.size + 1, 6, none⟩) (by simp only; omega) (by simp only; omega) (.int .i64 n6))
  clear hq6 hy6 hm hr T6 Q6
  go_wp2_with fail
  with_reducible refine (T7.out.num HY6.out 1125899906842624 (by decide)).mono ?_
  rintro e w8 ⟨n7, y7, b7, hq7, rfl, lo7, hi7, hy7, hm, hr⟩
  have E7 := Lib.hid hq7; have HY7 := Lib.hid hy7
  have U := T7.out.call hm hr
  have c7 := U.cell 7; have f7 := U.free 7
  clear U
  have T8 := Lib.hid ((T7.out.call hm hr).set 7 (.int .i64 n7))
  have Q8 := Lib.hid ((Q7.out.call hm hr).far (p := ⟨w.heap.size + 1, 7, none⟩) (by simp only; omega) (by simp only; omega) (.int .i64 n7))
  clear hq7 hy7 hm hr T7 Q7
  go_wp2_with fail
  with_reducible refine (T8.out.num HY7.out 2147483648 (by decide)).mono ?_
  rintro e w9 ⟨n8, y8, b8, hq8, rfl, lo8, hi8, hy8, hm, hr⟩
  have E8 := Lib.hid hq8; have HY8 := Lib.hid hy8
  have U := T8.out.call hm hr
  have c8 := U.cell 8; have f8 := U.free 8
  clear U
  have T9 := Lib.hid ((T8.out.call hm hr).set 8 (.int .i64 n8))
  have Q9 := Lib.hid ((Q8.out.call hm hr).far (p := ⟨w.heap.size + 1, 8, none⟩) (by simp only; omega) (by simp only; omega) (.int .i64 n8))
  clear hq8 hy8 hm hr T8 Q8
  have ET := Lib.hid (tkRead_eq E0.out E1.out E2.out E3.out E4.out E5.out E6.out E7.out E8.out)
  clear E0 E1 E2 E3 E4 E5 E6 E7 E8 HY0 HY1 HY2 HY3 HY4 HY5 HY6 HY7
  have OK : Tk.ok ⟨n0, n1, n2, n3, n4, n5, n6, n7, n8⟩ := ⟨⟨by simp only; omega, by simp only; omega⟩, ⟨by simp only; omega, by simp only; omega⟩, ⟨by simp only; omega, by simp only; omega⟩, ⟨by simp only; omega, by simp only; omega⟩, ⟨by simp only; omega, by simp only; omega⟩, ⟨by simp only; omega, by simp only; omega⟩, ⟨by simp only; omega, by simp only; omega⟩, ⟨by simp only; omega, by simp only; omega⟩, ⟨by simp only; omega, by simp only; omega⟩⟩
  have HOK := Lib.hid OK
  have HTS := Lib.hid (fun W => rtSound_calls W ⟨n0, n1, n2, n3, n4, n5, n6, n7, n8⟩ OK)
  have WR := T9.out.wrong
  clear OK
  revert WR ET Q9 T9
  cases b8
  · intro T9 Q9 ET WR
    have t0 := T9.out.cell 0
    have t1 := T9.out.cell 1
    have t2 := T9.out.cell 2
    have t3 := T9.out.cell 3
    have t4 := T9.out.cell 4
    have t5 := T9.out.cell 5
    have t6 := T9.out.cell 6
    have t7 := T9.out.cell 7
    have t8 := T9.out.cell 8
    cases hs : tkSound ⟨n0, n1, n2, n3, n4, n5, n6, n7, n8⟩
    · have EG : Hid (tkGet (xs, b) = ((Tk.zero, false), rFail)) := by
        show tkGet (xs, b) = _
        unfold tkGet; rw [ET.out]; simp [hs]
      have HS := Lib.hid hs
      clear hs ET
      go_wp2_with fail
      with_reducible refine (HTS.out _).mono ?_
      rintro e w11 ⟨rfl, hb⟩
      rw [HS.out]
      have Q10 := Lib.hid (Q9.out.quiet hb)
      clear hb WR t0 t1 t2 t3 t4 t5 t6 t7 t8 Q9 T9
      go_wp2_with fail
      with_reducible refine (rfail_step Q10.out.rdr).mono ?_
      rintro e w12 ⟨rfl, hm, hr⟩
      have Q11 := Lib.hid (Q10.out.call hm hr)
      clear hm hr Q10
      have q0 := Q11.out.cell 0; have r0 := Q11.out.free 0
      have q1 := Q11.out.cell 1; have r1 := Q11.out.free 1
      have q2 := Q11.out.cell 2; have r2 := Q11.out.free 2
      have q3 := Q11.out.cell 3; have r3 := Q11.out.free 3
      have q4 := Q11.out.cell 4; have r4 := Q11.out.free 4
      have q5 := Q11.out.cell 5; have r5 := Q11.out.free 5
      have q6 := Q11.out.cell 6; have r6 := Q11.out.free 6
      have q7 := Q11.out.cell 7; have r7 := Q11.out.free 7
      have q8 := Q11.out.cell 8; have r8 := Q11.out.free 8
      go_wp2
      have QF := Lib.hid (((((((((Q11.out.set 0 (.int .u64 0)).set 1 (.int .i64 0)).set 2 (.int .i64 0)).set 3 (.int .i64 0)).set 4 (.int .u64 0)).set 5 (.int .i64 0)).set 6 (.int .i64 0)).set 7 (.int .i64 0)).set 8 (.int .i64 0))
      have z0 := (QF.out.cell 0).trans rfl
      have z1 := (QF.out.cell 1).trans rfl
      have z2 := (QF.out.cell 2).trans rfl
      have z3 := (QF.out.cell 3).trans rfl
      have z4 := (QF.out.cell 4).trans rfl
      have z5 := (QF.out.cell 5).trans rfl
      have z6 := (QF.out.cell 6).trans rfl
      have z7 := (QF.out.cell 7).trans rfl
      have z8 := (QF.out.cell 8).trans rfl
      refine bodyPost_ret (v := .tuple #[.agg #[.int .u64 0, .int .i64 0, .int .i64 0, .int .i64 0, .int .u64 0, .int .i64 0, .int .i64 0, .int .i64 0, .int .i64 0], .bool false]) (by simp [results, Try.results157, go_sem, z0, z1, z2, z3, z4, z5, z6, z7, z8]) rfl ⟨?_, ?_, QF.out.mod, ?_⟩
      · rw [EG.out]; rfl
      · rw [EG.out]; exact Tk.zero_ok
      · rw [EG.out]; exact QF.out.rdr
    · have EG : Hid (tkGet (xs, b) = ((⟨n0, n1, n2, n3, n4, n5, n6, n7, n8⟩, true), (y8, false))) := by
        show tkGet (xs, b) = _
        unfold tkGet; rw [ET.out]; simp [hs]
      have HS := Lib.hid hs
      clear hs ET
      go_wp2_with fail
      with_reducible refine (HTS.out _).mono ?_
      rintro e w11 ⟨rfl, hb⟩
      rw [HS.out]
      have Q10 := Lib.hid (Q9.out.quiet hb); have T10 := Lib.hid (T9.out.quiet hb)
      clear hb WR t0 t1 t2 t3 t4 t5 t6 t7 t8 Q9 T9
      have t0 := T10.out.cell 0
      have t1 := T10.out.cell 1
      have t2 := T10.out.cell 2
      have t3 := T10.out.cell 3
      have t4 := T10.out.cell 4
      have t5 := T10.out.cell 5
      have t6 := T10.out.cell 6
      have t7 := T10.out.cell 7
      have t8 := T10.out.cell 8
      have q0 := Q10.out.cell 0; have r0 := Q10.out.free 0
      have q1 := Q10.out.cell 1; have r1 := Q10.out.free 1
      have q2 := Q10.out.cell 2; have r2 := Q10.out.free 2
      have q3 := Q10.out.cell 3; have r3 := Q10.out.free 3
      have q4 := Q10.out.cell 4; have r4 := Q10.out.free 4
      have q5 := Q10.out.cell 5; have r5 := Q10.out.free 5
      have q6 := Q10.out.cell 6; have r6 := Q10.out.free 6
      have q7 := Q10.out.cell 7; have r7 := Q10.out.free 7
      have q8 := Q10.out.cell 8; have r8 := Q10.out.free 8
      go_wp2
      have QF := Lib.hid (((((((((Q10.out.set 0 (.int .u64 n0)).set 1 (.int .i64 n1)).set 2 (.int .i64 n2)).set 3 (.int .i64 n3)).set 4 (.int .u64 n4)).set 5 (.int .i64 n5)).set 6 (.int .i64 n6)).set 7 (.int .i64 n7)).set 8 (.int .i64 n8))
      have z0 := (QF.out.cell 0).trans rfl
      have z1 := (QF.out.cell 1).trans rfl
      have z2 := (QF.out.cell 2).trans rfl
      have z3 := (QF.out.cell 3).trans rfl
      have z4 := (QF.out.cell 4).trans rfl
      have z5 := (QF.out.cell 5).trans rfl
      have z6 := (QF.out.cell 6).trans rfl
      have z7 := (QF.out.cell 7).trans rfl
      have z8 := (QF.out.cell 8).trans rfl
      refine bodyPost_ret (v := .tuple #[.agg #[.int .u64 n0, .int .i64 n1, .int .i64 n2, .int .i64 n3, .int .u64 n4, .int .i64 n5, .int .i64 n6, .int .i64 n7, .int .i64 n8], .bool true]) (by simp [results, Try.results157, go_sem, z0, z1, z2, z3, z4, z5, z6, z7, z8]) rfl ⟨?_, ?_, QF.out.mod, ?_⟩
      · rw [EG.out]; rfl
      · rw [EG.out]; exact HOK.out
      · rw [EG.out]; exact QF.out.rdr
  · intro T9 Q9 ET WR
    have EG : Hid (tkGet (xs, b) = ((Tk.zero, false), rFail)) := by
      show tkGet (xs, b) = _
      unfold tkGet; rw [ET.out]; simp
    clear ET
    go_wp2_with fail
    with_reducible refine (rfail_step Q9.out.rdr).mono ?_
    rintro e w12 ⟨rfl, hm, hr⟩
    have Q11 := Lib.hid (Q9.out.call hm hr)
    clear hm hr Q9 T9 WR
    have q0 := Q11.out.cell 0; have r0 := Q11.out.free 0
    have q1 := Q11.out.cell 1; have r1 := Q11.out.free 1
    have q2 := Q11.out.cell 2; have r2 := Q11.out.free 2
    have q3 := Q11.out.cell 3; have r3 := Q11.out.free 3
    have q4 := Q11.out.cell 4; have r4 := Q11.out.free 4
    have q5 := Q11.out.cell 5; have r5 := Q11.out.free 5
    have q6 := Q11.out.cell 6; have r6 := Q11.out.free 6
    have q7 := Q11.out.cell 7; have r7 := Q11.out.free 7
    have q8 := Q11.out.cell 8; have r8 := Q11.out.free 8
    go_wp2
    have QF := Lib.hid (((((((((Q11.out.set 0 (.int .u64 0)).set 1 (.int .i64 0)).set 2 (.int .i64 0)).set 3 (.int .i64 0)).set 4 (.int .u64 0)).set 5 (.int .i64 0)).set 6 (.int .i64 0)).set 7 (.int .i64 0)).set 8 (.int .i64 0))
    have z0 := (QF.out.cell 0).trans rfl
    have z1 := (QF.out.cell 1).trans rfl
    have z2 := (QF.out.cell 2).trans rfl
    have z3 := (QF.out.cell 3).trans rfl
    have z4 := (QF.out.cell 4).trans rfl
    have z5 := (QF.out.cell 5).trans rfl
    have z6 := (QF.out.cell 6).trans rfl
    have z7 := (QF.out.cell 7).trans rfl
    have z8 := (QF.out.cell 8).trans rfl
    refine bodyPost_ret (v := .tuple #[.agg #[.int .u64 0, .int .i64 0, .int .i64 0, .int .i64 0, .int .u64 0, .int .i64 0, .int .i64 0, .int .i64 0, .int .i64 0], .bool false]) (by simp [results, Try.results157, go_sem, z0, z1, z2, z3, z4, z5, z6, z7, z8]) rfl ⟨?_, ?_, QF.out.mod, ?_⟩
    · rw [EG.out]; rfl
    · rw [EG.out]; exact Tk.zero_ok
    · rw [EG.out]; exact QF.out.rdr

end Go.Proofs.Ytabdjehnglmlpaa
end
