/- The asks: rows of structs, opened; what an ask leaves. -/
import Derived.Test.YtabdjehnglmlpaaRa
import Derived.Test.YtabdjehnglmlpaaQk
import Derived.Deep.Slices
import Derived.Lib.SmallJoins
namespace Go.Proofs.Ytabdjehnglmlpaa
open Go.RowKit Go.Proofs.YtabdjehnglmlpaaW.PrintWords
open Go.ChangeShapes Go.WideShapes
set_option linter.unusedVariables false
set_option linter.unusedSimpArgs false

structure S104 where
  f0 : Int
  f1 : Int
  f2 : Int
def z104 : S104 := ⟨0, 0, 0⟩
instance : Inhabited S104 := ⟨z104⟩
def k104 : Kd S104 := Kd.iso (Kd.pair (Kd.int .i64) (Kd.pair (Kd.int .i64) (Kd.int .u64))) (fun x : S104 => (x.f0, x.f1, x.f2))
theorem k104_open {w : World} {x : S104} {cs : List Value} (h : k104.K w x cs) : cs = [.int .i64 x.f0, .int .i64 x.f1, .int .u64 x.f2] := by
  obtain ⟨_, _, rfl, rfl, ⟨_, _, rfl, rfl, rfl⟩⟩ := h
  exact rfl
theorem k104_mk (w : World) (x : S104)  : k104.K w x [.int .i64 x.f0, .int .i64 x.f1, .int .u64 x.f2] := ⟨[.int .i64 x.f0], [.int .i64 x.f1, .int .u64 x.f2], rfl, rfl, ⟨[.int .i64 x.f1], [.int .u64 x.f2], rfl, rfl, rfl⟩⟩
def rd104 (xs : List S104) (i : Nat) : S104 := xs.getD i z104
theorem at104 {w : World} {A : Option Addr} {n : Nat} {xs : List S104} (h : Kd.C k104 w A n xs) (i : Nat) (h1 : i < n) : ∃ ad, A = some ad ∧ w.cell? (ad.add (i * 3)) = some (.int .i64 (rd104 xs i).f0) ∧ w.cell? ⟨(ad.add (i * 3)).block, (ad.add (i * 3)).off + 1, none⟩ = some (.int .i64 (rd104 xs i).f1) ∧ w.cell? ⟨(ad.add (i * 3)).block, (ad.add (i * 3)).off + 2, none⟩ = some (.int .u64 (rd104 xs i).f2) := by
  obtain ⟨ad, c, e, _, hK, hc0⟩ := Kd.C_get h z104 (i : Int) (by omega) (by omega)
  rw [Int.toNat_natCast] at hK hc0
  have hc : ∀ j u, c[j]? = some u → w.cell? (ad.add (i * 3 + j)) = some u := hc0
  obtain rfl := k104_open hK
  exact ⟨ad, e, hc 0 _ rfl, by rw [← add_field _ _ 1 (by omega)]; exact hc 1 _ rfl, by rw [← add_field _ _ 2 (by omega)]; exact hc 2 _ rfl⟩

theorem cellsOf104 : Try.prog.cellsOf 104 = 3 := by kernel_rfl
def Ask.ok (x : S104) : Prop := (Lit.int .i64 x.f0).wf = true ∧ (Lit.int .i64 x.f1).wf = true ∧ (Lit.int .u64 x.f2).wf = true

set_option maxRecDepth 100000 in
theorem asks_open {H : Type} {enc : TypeId × Value → H} {w : World} {base : Nat} {spare : Nat → Bool} {held : Bool} {fuel : Nat} {A : Option Addr} {len cap : Nat} {x : DataW H × List MemPlace}
    (h : DataW.trod enc Try.prog w base spare held fuel 102 [.slice A len cap] = some x) : len ≤ cap ∧ ∃ l : List S104, Kd.C k104 w A len l ∧ ∀ y ∈ l, Ask.ok y := by
  rcases Go.Deep.open_slice Try.underlying102 h with ⟨h0, -⟩ | ⟨a, len', cap', m, n, D, Pl, he, hb, hl, hm, hmm, rfl, hx⟩
  · simp only [List.cons.injEq, Value.slice.injEq, and_true] at h0
    obtain ⟨rfl, rfl, rfl⟩ := h0
    exact ⟨Nat.le_refl _, [], nil_reads, fun y hy => by cases hy⟩
  · simp only [List.cons.injEq, Value.slice.injEq, and_true] at he
    obtain ⟨rfl, rfl, rfl⟩ := he
    have hlm : len ≤ m := by rw [hmm]; split <;> omega
    rw [cellsOf104] at hx
    have each : ∀ i, i < m → ∃ p : S104, w.cell? (a.add (i * 3)) = some (.int .i64 p.f0) ∧ w.cell? (a.add (i * 3 + 1)) = some (.int .i64 p.f1) ∧ w.cell? (a.add (i * 3 + 2)) = some (.int .u64 p.f2) ∧ Ask.ok p := by
      intro i hi
      obtain ⟨cs', h1, h2⟩ := hx i hi
      obtain ⟨_, hlen, hcell⟩ := World.cells?_some h1
      obtain ⟨xs, k, hk, hxy, _, hxl, hf⟩ := DataW.trod_struct Try.underlying104 h2
      match xs, hxl, cs', hlen with
      | [y0, y1, y2], _, [v0, v1, v2], _ =>
        have g0 := hf 0 _ rfl
        have g1 := hf 1 _ rfl
        have g2 := hf 2 _ rfl
        have c3 : Try.prog.cellsOf 3 = 1 := by kernel_rfl
        have c26 : Try.prog.cellsOf 26 = 1 := by kernel_rfl
        simp [c3, c26] at g0 g1 g2
        obtain ⟨n0, e0, -, w0⟩ := DataW.trod_int Try.underlying3 g0
        obtain ⟨n1, e1, -, w1⟩ := DataW.trod_int Try.underlying3 g1
        obtain ⟨n2, e2, -, w2⟩ := DataW.trod_int Try.underlying26 g2
        have q0 := hcell 0 (by omega)
        have q1 := hcell 1 (by omega)
        have q2 := hcell 2 (by omega)
        rw [Go.Deep.add_add] at q0 q1 q2
        simp only [List.cons.injEq, and_true] at e0 e1 e2
        subst e0 e1 e2
        exact ⟨⟨n0, n1, n2⟩, by simpa using q0, by simpa using q1, by simpa using q2, w0, w1, w2⟩
    obtain ⟨V, hV⟩ := Go.Deep.choose_lt each
    refine ⟨hl, (List.range len).map V, ⟨by simp, by have : cap ≤ 2 ^ 63 - 1 := hm; omega, fun _ => ⟨a, rfl, fun j p hp => ?_⟩⟩, fun y hy => ?_⟩
    · rw [List.getElem?_map] at hp
      obtain ⟨i, hi, rfl⟩ := Option.map_eq_some_iff.1 hp
      obtain ⟨hj, hji⟩ := List.getElem?_eq_some_iff.1 hi
      rw [List.getElem_range] at hji
      subst hji
      rw [List.length_range] at hj
      obtain ⟨a0, a1, a2, -⟩ := hV j (by omega)
      refine ⟨[.int .i64 (V j).f0, .int .i64 (V j).f1, .int .u64 (V j).f2], rfl, k104_mk w (V j), fun t u hu => ?_⟩
      match t, hu with
      | 0, hu => cases hu; exact a0
      | 1, hu => cases hu; exact a1
      | 2, hu => cases hu; exact a2
    · obtain ⟨i, hi, rfl⟩ := List.mem_map.1 hy
      have := List.mem_range.1 hi
      exact (hV i (by omega)).2.2.2

theorem ask_byt {s : Rs} (hb : Byt s.1) (k N M : Int) : Byt (ask s k N M).1 := by
  unfold ask
  split
  · exact rInt_byt hb
  split
  · exact rNum_byt hb 1
  split
  · exact (rText_byt hb N).2
  split
  · exact (rRaw_byt hb N).2
  split
  · exact Byt.nil
  · exact rNum_byt hb M
theorem ask_len {s : Rs} (hb : Byt s.1) (k N M : Int) : (ask s k N M).1.length ≤ s.1.length := by
  unfold ask
  split
  · exact rInt_len s hb
  split
  · exact rNum_len s hb 1
  split
  · exact rText_len s hb N
  split
  · exact (rRaw_len s N).1
  split
  · exact Nat.zero_le _
  · exact rNum_len s hb M

end Go.Proofs.Ytabdjehnglmlpaa
