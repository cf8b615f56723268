/- Items: rows of structs with a text, opened; what is light; what is written is read back. -/
import Derived.Test.YtabdjehnglmlpaaSa
import Derived.Test.YtabdjehnglmlpaaNq
import Derived.Test.YtabdjehnglmlpaaQk
import Derived.Deep.Slices
namespace Go.Proofs.Ytabdjehnglmlpaa
open Go.RowKit Go.Proofs.YtabdjehnglmlpaaW.PrintWords
open Go.ChangeShapes Go.WideShapes
set_option linter.unusedVariables false
set_option linter.unusedSimpArgs false
open PM (S97 k97 z97 k97_mk rd_T97)

instance : Inhabited S97 := ⟨z97⟩
def Item.okP (x : S97) : Prop := ((Lit.int .i64 x.f0).wf = true ∧ (Lit.int .u64 x.f1).wf = true ∧ (Lit.int .i64 x.f2).wf = true)
theorem Item.okP.ok {x : S97} (h : Item.okP x) : Item.ok x := by
  obtain ⟨-, h1, h2⟩ := h
  simp only [Lit.wf, Bool.and_eq_true, decide_eq_true_eq] at h1 h2
  have a := h1.2; have b := h2.1; have c := h2.2; have d := h1.1
  simp [IntKind.max, IntKind.min, IntKind.signed, IntKind.bits] at a b c d
  exact ⟨by omega, by omega, by omega, by omega⟩
theorem cellsOf97 : Try.prog.cellsOf 97 = 5 := by kernel_rfl
set_option maxRecDepth 100000 in
theorem items_open {H : Type} {enc : TypeId × Value → H} {w : World} {base : Nat} {spare : Nat → Bool} {held : Bool} {fuel : Nat} {A : Option Addr} {len cap : Nat} {x : DataW H × List MemPlace}
    (h : DataW.trod enc Try.prog w base spare held fuel 93 [.slice A len cap] = some x) : len ≤ cap ∧ ∃ l : List S97, Kd.C k97 w A len l ∧ ∀ y ∈ l, Item.okP y := by
  rcases Go.Deep.open_slice Try.underlying93 h with ⟨h0, -⟩ | ⟨a, len', cap', m, n, D, Pl, he, hb, hl, hm, hmm, rfl, hx⟩
  · simp only [List.cons.injEq, Value.slice.injEq, and_true] at h0
    obtain ⟨rfl, rfl, rfl⟩ := h0
    exact ⟨Nat.le_refl _, [], nil_reads, fun y hy => by cases hy⟩
  · simp only [List.cons.injEq, Value.slice.injEq, and_true] at he
    obtain ⟨rfl, rfl, rfl⟩ := he
    have hlm : len ≤ m := by rw [hmm]; split <;> omega
    rw [cellsOf97] at hx
    have each : ∀ i, i < m → ∃ p : S97, w.cell? (a.add (i * 5)) = some (.int .i64 p.f0) ∧ w.cell? (a.add (i * 5 + 1)) = some (.int .u64 p.f1) ∧ w.cell? (a.add (i * 5 + 2)) = some (.int .i64 p.f2) ∧ w.cell? (a.add (i * 5 + 3)) = some (.bool p.f3) ∧ w.cell? (a.add (i * 5 + 4)) = some (.string p.f4) ∧ Item.okP p := by
      intro i hi
      obtain ⟨cs', h1, h2⟩ := hx i hi
      obtain ⟨_, hlen, hcell⟩ := World.cells?_some h1
      obtain ⟨xs, k, hk, hxy, _, hxl, hf⟩ := DataW.trod_struct Try.underlying97 h2
      match xs, hxl, cs', hlen with
      | [y0, y1, y2, y3, y4], _, [v0, v1, v2, v3, v4], _ =>
        have g0 := hf 0 _ rfl
        have g1 := hf 1 _ rfl
        have g2 := hf 2 _ rfl
        have g3 := hf 3 _ rfl
        have g4 := hf 4 _ rfl
        have c3 : Try.prog.cellsOf 3 = 1 := by kernel_rfl
        have c26 : Try.prog.cellsOf 26 = 1 := by kernel_rfl
        have c2 : Try.prog.cellsOf 2 = 1 := by kernel_rfl
        have c4 : Try.prog.cellsOf 4 = 1 := by kernel_rfl
        have c9 : Try.prog.cellsOf 9 = 1 := by kernel_rfl
        simp [c3, c26, c2, c4, c9] at g0 g1 g2 g3 g4
        obtain ⟨n0, e0, -, w0⟩ := DataW.trod_int Try.underlying3 g0
        obtain ⟨n1, e1, -, w1⟩ := DataW.trod_int Try.underlying26 g1
        obtain ⟨n2, e2, -, w2⟩ := DataW.trod_int Try.underlying2 g2
        obtain ⟨n3, e3, -⟩ := DataW.trod_bool Try.underlying4 g3
        obtain ⟨n4, e4, -, w4⟩ := DataW.trod_string Try.underlying9 g4
        have q0 := hcell 0 (by omega)
        have q1 := hcell 1 (by omega)
        have q2 := hcell 2 (by omega)
        have q3 := hcell 3 (by omega)
        have q4 := hcell 4 (by omega)
        rw [Go.Deep.add_add] at q0 q1 q2 q3 q4
        simp only [List.cons.injEq, and_true] at e0 e1 e2 e3 e4
        subst e0 e1 e2 e3 e4
        exact ⟨⟨n0, n1, n2, n3, n4⟩, by simpa using q0, by simpa using q1, by simpa using q2, by simpa using q3, by simpa using q4, w0, w1, w2⟩
    obtain ⟨V, hV⟩ := Go.Deep.choose_lt each
    refine ⟨hl, (List.range len).map V, ⟨by simp, by have : cap ≤ 2 ^ 63 - 1 := hm; omega, fun _ => ⟨a, rfl, fun j p hp => ?_⟩⟩, fun y hy => ?_⟩
    · rw [List.getElem?_map] at hp
      obtain ⟨i, hi, rfl⟩ := Option.map_eq_some_iff.1 hp
      obtain ⟨hj, hji⟩ := List.getElem?_eq_some_iff.1 hi
      rw [List.getElem_range] at hji
      subst hji
      rw [List.length_range] at hj
      obtain ⟨a0, a1, a2, a3, a4, -⟩ := hV j (by omega)
      refine ⟨[.int .i64 (V j).f0, .int .u64 (V j).f1, .int .i64 (V j).f2, .bool (V j).f3, .string (V j).f4], rfl, k97_mk w (V j), fun t u hu => ?_⟩
      match t, hu with
      | 0, hu => cases hu; exact a0
      | 1, hu => cases hu; exact a1
      | 2, hu => cases hu; exact a2
      | 3, hu => cases hu; exact a3
      | 4, hu => cases hu; exact a4
    · obtain ⟨i, hi, rfl⟩ := List.mem_map.1 hy
      have := List.mem_range.1 hi
      exact (hV i (by omega)).2.2.2.2.2

def light_ (l : List S97) : Bool := decide (l.length ≤ 200) && l.all fun x => decide (x.f4.size ≤ 1000)
theorem rd97_drop (l : List S97) (i : Nat) (h : i < l.length) : l.drop i = rd_T97 l i :: l.drop (i + 1) := by
  rw [List.drop_eq_getElem_cons h]
  congr 1
  show _ = l.getD i z97
  rw [List.getD_eq_getElem?_getD, List.getElem?_eq_getElem h]; rfl
theorem light_loop (l : List S97) (hl : l.length ≤ 1000) (d : Nat) : ∀ (k i : Nat), l.length - i = d → i ≤ l.length → d < k →
    PM.curfewlaw01_light.l0 k l (l.length : Int) (i : Int) = some ((l.drop i).all fun x => decide (x.f4.size ≤ 1000)) := by
  induction d with
  | zero =>
    intro k i hd hi hk
    obtain ⟨k, rfl⟩ : ∃ j, k = j + 1 := ⟨k - 1, by omega⟩
    obtain rfl : i = l.length := by omega
    simp only [PM.curfewlaw01_light.l0]
    rw [if_neg (by omega), List.drop_length]; rfl
  | succ d ih =>
    intro k i hd hi hk
    obtain ⟨k, rfl⟩ : ∃ j, k = j + 1 := ⟨k - 1, by omega⟩
    have h := ih k (i + 1) (by omega) (by omega) (by omega)
    have hw : wrap64 ((i : Int) + 1) = ((i + 1 : Nat) : Int) := by unfold wrap64; omega
    simp only [PM.curfewlaw01_light.l0]
    rw [if_pos (by omega), if_pos (by omega), if_pos (by omega), rd97_drop l i (by omega), List.all_cons]
    by_cases hs : ((rd_T97 l i).f4.size : Int) > 1000
    · rw [if_pos hs, decide_eq_false (by omega)]; rfl
    · rw [if_neg hs, hw, h, decide_eq_true (by omega)]; rfl
theorem light_f (l : List S97) (k : Nat) (hk : 1000 < k) : PM.curfewlaw01_light.f k l = some (light_ l) := by
  unfold PM.curfewlaw01_light.f light_
  by_cases h : (l.length : Int) > 200
  · rw [if_pos h, decide_eq_false (by omega)]; rfl
  · have := light_loop l (by omega) l.length k 0 rfl (Nat.zero_le _) (by omega)
    rw [if_neg h, decide_eq_true (by omega), Bool.true_and]
    exact this
theorem light_calls {w : World} {A : Option Addr} {n c : Nat} {l : List S97} (hr : Kd.C k97 w A n l) (hc : n ≤ c) :
    Calls Try.prog 75 #[.slice A n c] w fun e w' => e = .returned (.bool (light_ l)) ∧ Below w.heap.size w w' := by
  obtain rfl : l.length = n := hr.1
  exact PM.curfewlaw01_light.calls 2000 A c l _ w hr hc (light_f l 2000 (by decide))

theorem bytesOf_byt (s : ByteArray) : Byt (bytesOf s) := by
  intro x hx
  unfold bytesOf at hx
  obtain ⟨b, -, rfl⟩ := List.mem_map.1 hx
  have := b.toNat_lt
  omega
theorem itemEnc_byt (x : S97) : Byt (itemEnc x) := by
  unfold itemEnc
  split
  · exact encI_byt _
  split
  · exact encF_byt _
  split
  · exact (encN_byt (by decide) (by decide)).append (bytesOf_byt _)
  split
  · exact bytesOf_byt _
  · exact encN_byt (by decide) (by decide)
theorem itemEnc_len (x : S97) (h : x.f4.size ≤ 1000) : (itemEnc x).length ≤ 1009 := by
  have h1 := encI_len x.f2
  have h2 := encN_len (if x.f3 then 1 else 0) 0
  have h3 := encN_len (x.f4.size : Int) 0
  have h4 := bytesOf_length x.f4
  have h5 := encN_len x.f1 0
  unfold itemEnc encF
  split
  · omega
  split
  · omega
  split
  · rw [List.length_append]; omega
  split
  · omega
  · omega

end Go.Proofs.Ytabdjehnglmlpaa
