/- outbox: arguments opened: a notice, a row of notices, a state. -/
import Derived.Test.YtabdjehnglmlpaaOi
import Derived.Deep.Slices
import Derived.SizedLaws
import Derived.OpenShut
namespace Go.Proofs.Ytabdjehnglmlpaa
open Go.RowKit Go.Proofs.YtabdjehnglmlpaaW.PrintWords
open Go.ChangeShapes Go.WideShapes
open PO (S45 z45 k45 rd_T45)
set_option linter.unusedVariables false
set_option linter.unusedSimpArgs false

theorem wfu {x : Int} (h : (Lit.int .u64 x).wf = true) : 0 ≤ x ∧ x ≤ 18446744073709551615 := by
  simp only [Lit.wf, Bool.and_eq_true, decide_eq_true_eq] at h
  simp [IntKind.max, IntKind.min, IntKind.signed, IntKind.bits] at h
  omega
theorem wfi {x : Int} (h : (Lit.int .i64 x).wf = true) : -9223372036854775808 ≤ x ∧ x ≤ 9223372036854775807 := by
  simp only [Lit.wf, Bool.and_eq_true, decide_eq_true_eq] at h
  simp [IntKind.max, IntKind.min, IntKind.signed, IntKind.bits] at h
  omega
theorem wf8 {x : Int} (h : (Lit.int .u8 x).wf = true) : 0 ≤ x ∧ x ≤ 255 := by
  simp only [Lit.wf, Bool.and_eq_true, decide_eq_true_eq] at h
  simp [IntKind.max, IntKind.min, IntKind.signed, IntKind.bits] at h
  omega
instance : Inhabited S45 := ⟨z45⟩
/-- A notice's numbers are of their kinds. -/
def No.ok (n : S45) : Prop := (0 ≤ n.f0 ∧ n.f0 ≤ 18446744073709551615) ∧ (0 ≤ n.f1 ∧ n.f1 ≤ 18446744073709551615) ∧ (-9223372036854775808 ≤ n.f2 ∧ n.f2 ≤ 9223372036854775807) ∧ (-9223372036854775808 ≤ n.f3 ∧ n.f3 ≤ 9223372036854775807) ∧ (-9223372036854775808 ≤ n.f4 ∧ n.f4 ≤ 9223372036854775807) ∧ (-9223372036854775808 ≤ n.f5 ∧ n.f5 ≤ 9223372036854775807) ∧ (-9223372036854775808 ≤ n.f6 ∧ n.f6 ≤ 9223372036854775807) ∧ (-9223372036854775808 ≤ n.f7 ∧ n.f7 ≤ 9223372036854775807) ∧ (-9223372036854775808 ≤ n.f8 ∧ n.f8 ≤ 9223372036854775807)
theorem cellsOf45 : Try.prog.cellsOf 45 = 9 := by kernel_rfl
theorem c3 : Try.prog.cellsOf 3 = 1 := by kernel_rfl
theorem c26 : Try.prog.cellsOf 26 = 1 := by kernel_rfl
theorem c2 : Try.prog.cellsOf 2 = 1 := by kernel_rfl
theorem c74 : Try.prog.cellsOf 74 = 1 := by kernel_rfl
theorem cellsOf76 : Try.prog.cellsOf 76 = 2 := by kernel_rfl
section
variable {H : Type} {enc : TypeId × Value → H} {w : World} {base : Nat} {spare : Nat → Bool} {held : Bool}
set_option maxRecDepth 100000 in
theorem no_cells {fuel : Nat} {v0 v1 v2 v3 v4 v5 v6 v7 v8 : Value} {y : DataW H × List MemPlace} (h : DataW.trod enc Try.prog w base spare held fuel 45 [v0, v1, v2, v3, v4, v5, v6, v7, v8] = some y) :
    ∃ n : No, v0 = .int .u64 n.f0 ∧ v1 = .int .u64 n.f1 ∧ v2 = .int .i64 n.f2 ∧ v3 = .int .i64 n.f3 ∧ v4 = .int .i64 n.f4 ∧ v5 = .int .i64 n.f5 ∧ v6 = .int .i64 n.f6 ∧ v7 = .int .i64 n.f7 ∧ v8 = .int .i64 n.f8 ∧ No.ok n := by
  obtain ⟨xs, k, hk, hxy, _, hxl, hg⟩ := DataW.trod_struct Try.underlying45 h
  match xs, hxl with
  | [y0, y1, y2, y3, y4, y5, y6, y7, y8], _ =>
    have g0 := hg 0 _ rfl
    have g1 := hg 1 _ rfl
    have g2 := hg 2 _ rfl
    have g3 := hg 3 _ rfl
    have g4 := hg 4 _ rfl
    have g5 := hg 5 _ rfl
    have g6 := hg 6 _ rfl
    have g7 := hg 7 _ rfl
    have g8 := hg 8 _ rfl
    simp [c3, c26, c2] at g0 g1 g2 g3 g4 g5 g6 g7 g8
    obtain ⟨n0, e0, -, w0⟩ := DataW.trod_int Try.underlying26 g0
    obtain ⟨n1, e1, -, w1⟩ := DataW.trod_int Try.underlying26 g1
    obtain ⟨n2, e2, -, w2⟩ := DataW.trod_int Try.underlying3 g2
    obtain ⟨n3, e3, -, w3⟩ := DataW.trod_int Try.underlying3 g3
    obtain ⟨n4, e4, -, w4⟩ := DataW.trod_int Try.underlying3 g4
    obtain ⟨n5, e5, -, w5⟩ := DataW.trod_int Try.underlying3 g5
    obtain ⟨n6, e6, -, w6⟩ := DataW.trod_int Try.underlying3 g6
    obtain ⟨n7, e7, -, w7⟩ := DataW.trod_int Try.underlying2 g7
    obtain ⟨n8, e8, -, w8⟩ := DataW.trod_int Try.underlying2 g8
    simp only [List.cons.injEq, and_true] at e0 e1 e2 e3 e4 e5 e6 e7 e8
    exact ⟨⟨n0, n1, n2, n3, n4, n5, n6, n7, n8⟩, e0, e1, e2, e3, e4, e5, e6, e7, e8, wfu w0, wfu w1, wfi w2, wfi w3, wfi w4, wfi w5, wfi w6, wfi w7, wfi w8⟩
set_option maxRecDepth 100000 in
/-- A notice by value, opened. -/
theorem no_open {r : Reach} {b0 : Nat} {v : Value} {d : DataW H} {p : List MemPlace} (hv : Value.okWide Try.prog w r b0 45 v) (h : DataW.Trod enc Try.prog w base spare held 45 v d p) : ∃ n : No, v = No.val n ∧ No.ok n := by
  obtain ⟨cs, rfl, hsz⟩ := okWide_struct Try.underlying45 hv
  obtain ⟨l⟩ := cs
  match l, hsz.trans cellsOf45 with
  | [v0, v1, v2, v3, v4, v5, v6, v7, v8], _ =>
    obtain ⟨fuel, hf⟩ := h
    obtain ⟨n, rfl, rfl, rfl, rfl, rfl, rfl, rfl, rfl, rfl, ho⟩ := no_cells hf
    exact ⟨n, rfl, ho⟩
set_option maxRecDepth 100000 in
/-- A row of notices, opened. -/
theorem nos_open {fuel : Nat} {A : Option Addr} {len cap : Nat} {x : DataW H × List MemPlace}
    (h : DataW.trod enc Try.prog w base spare held fuel 74 [.slice A len cap] = some x) : len ≤ cap ∧ ∃ l : List No, Kd.C k45 w A len l ∧ ∀ y ∈ l, No.ok y := by
  rcases Go.Deep.open_slice Try.underlying74 h with ⟨h0, -⟩ | ⟨a, len', cap', m, n, D, Pl, he, hb, hl, hm, hmm, rfl, hx⟩
  · simp only [List.cons.injEq, Value.slice.injEq, and_true] at h0
    obtain ⟨rfl, rfl, rfl⟩ := h0
    exact ⟨Nat.le_refl _, [], Kd.C_nil _ _, fun y hy => by cases hy⟩
  · simp only [List.cons.injEq, Value.slice.injEq, and_true] at he
    obtain ⟨rfl, rfl, rfl⟩ := he
    have hlm : len ≤ m := by rw [hmm]; split <;> omega
    rw [cellsOf45] at hx
    have each : ∀ i, i < m → ∃ p : No, (∀ t u, (No.cells p).toList[t]? = some u → w.cell? (a.add (i * 9 + t)) = some u) ∧ No.ok p := by
      intro i hi
      obtain ⟨cs', h1, h2⟩ := hx i hi
      obtain ⟨_, hlen, hcell⟩ := World.cells?_some h1
      match cs', hlen with
      | [v0, v1, v2, v3, v4, v5, v6, v7, v8], _ =>
        obtain ⟨p, rfl, rfl, rfl, rfl, rfl, rfl, rfl, rfl, rfl, ho⟩ := no_cells h2
        refine ⟨p, fun t u hu => ?_, ho⟩
        have ht : t < 9 := (List.getElem?_eq_some_iff.1 hu).1
        have q := hcell t ht
        rw [Go.Deep.add_add] at q
        rw [q, ← hu]
        rfl
    obtain ⟨V, hV⟩ := Go.Deep.choose_lt each
    refine ⟨hl, (List.range len).map V, ⟨by simp, by have : cap ≤ 2 ^ 63 - 1 := hm; omega, fun _ => ⟨a, rfl, fun j p hp => ?_⟩⟩, fun y hy => ?_⟩
    · rw [List.getElem?_map] at hp
      obtain ⟨i, hi, rfl⟩ := Option.map_eq_some_iff.1 hp
      obtain ⟨hj, hji⟩ := List.getElem?_eq_some_iff.1 hi
      rw [List.getElem_range] at hji
      subst hji
      rw [List.length_range] at hj
      exact ⟨(No.cells (V j)).toList, rfl, PO.k45_mk w (V j), fun t u hu => (hV j (by omega)).1 t u hu⟩
    · obtain ⟨i, hi, rfl⟩ := List.mem_map.1 hy
      have := List.mem_range.1 hi
      exact (hV i (by omega)).2
set_option maxRecDepth 100000 in
/-- A state by value, opened. -/
theorem st_open {r : Reach} {b0 : Nat} {v : Value} {d : DataW H} {p : List MemPlace} (hv : Value.okWide Try.prog w r b0 76 v) (h : DataW.Trod enc Try.prog w base spare held 76 v d p) :
    ∃ x : Bs × Option Addr × Nat, v = .agg #[.int .u64 x.1.1, .slice x.2.1 x.1.2.length x.2.2] ∧ (0 ≤ x.1.1 ∧ x.1.1 ≤ 18446744073709551615) ∧ x.1.2.length ≤ x.2.2 ∧ Kd.C k45 w x.2.1 x.1.2.length x.1.2 ∧ ∀ y ∈ x.1.2, No.ok y := by
  obtain ⟨cs, rfl, hsz⟩ := okWide_struct Try.underlying76 hv
  obtain ⟨l⟩ := cs
  match l, hsz.trans cellsOf76 with
  | [v0, v1], _ =>
    obtain ⟨fuel, hf⟩ := h
    obtain ⟨xs, k, hk, hxy, _, hxl, hg⟩ := DataW.trod_struct Try.underlying76 hf
    match xs, hxl with
    | [y0, y1], _ =>
      have g0 := hg 0 _ rfl
      have g1 := hg 1 _ rfl
      simp [c26, c74, Value.cells] at g0 g1
      obtain ⟨n0, e0, -, w0⟩ := DataW.trod_int Try.underlying26 g0
      simp only [List.cons.injEq, and_true] at e0
      subst e0
      obtain ⟨A, n, c, rfl⟩ : ∃ A n c, v1 = .slice A n c := by
        rcases Go.Deep.open_slice Try.underlying74 g1 with ⟨h0, -⟩ | ⟨a, len', cap', m, n, D, Pl, he, -⟩
        · simp only [List.cons.injEq, and_true] at h0; exact ⟨_, _, _, h0⟩
        · simp only [List.cons.injEq, and_true] at he; exact ⟨_, _, _, he⟩
      obtain ⟨hc, l, hC, ho⟩ := nos_open g1
      obtain rfl : l.length = n := hC.1
      exact ⟨((n0, l), A, c), rfl, wfu w0, hc, hC, ho⟩
end
end Go.Proofs.Ytabdjehnglmlpaa
