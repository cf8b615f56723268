/- A writer and a row beside it: what QuillWrites leans on. -/
import Derived.Test.YtabdjehnglmlpaaSc
namespace Go.Proofs.Ytabdjehnglmlpaa
open Go.RowKit Go.Proofs.YtabdjehnglmlpaaW.PrintWords
set_option linter.unusedVariables false
set_option linter.unusedSimpArgs false
open PM (S97 k97 z97 k97_mk rd_T97)

/-- A writer at g, and a row of bytes apart from it. -/
structure Two (B : Nat) (W : World) (g : Nat) (v : Value) (xs : List Int) (vw : Value) (ys : List Int) : Prop where
  wtr : Wtr B W g v xs
  own : OwnB W B vw ys
  apart : ∀ k, vw.ownBlock = some k → v.ownBlock ≠ some k
section
variable {B : Nat} {W W' : World} {g : Nat} {v v' : Value} {xs xs' : List Int} {vw vw' : Value} {ys ys' : List Int}
theorem Two.write (h : Two B W g v xs vw ys) (hs : WStep B W W' g v v' xs') : Two B W' g v' xs' vw ys :=
  ⟨hs.w, h.own.keep hs.mod (fun k hk => by
    rintro (e | e)
    · subst e; exact own_ne h.own h.wtr.1 (by decide) hk.symm
    · exact h.apart k hk e), fun k hk e => by
    rcases hs.2.2 with h2 | ⟨b, h2, hb⟩
    · exact h.apart k hk (h2.symm.trans e)
    · rw [h2] at e
      injection e with e
      have := own_lt h.own k hk
      omega⟩
theorem Two.want (h : Two B W g v xs vw ys) (hg : W.grownBy W' vw.ownBlock) (ho : OwnB W' B vw' ys') (hat : vw'.ownBlock = vw.ownBlock ∨ ∃ b, vw'.ownBlock = some b ∧ W.heap.size ≤ b) : Two B W' g v xs vw' ys' := by
  have hap : v.ownBlock = none ∨ v.ownBlock ≠ vw.ownBlock := by
    cases hv : v.ownBlock with
    | none => exact .inl rfl
    | some k => exact .inr (fun e => h.apart k e.symm hv)
  refine ⟨⟨blk_grown h.wtr.1 hg (own_ne h.own h.wtr.1 (by decide)), h.wtr.2.1, own_other h.wtr.2.2 hg hap⟩, ho, fun k hk e => ?_⟩
  rcases hat with h2 | ⟨b, h2, hb⟩
  · exact h.apart k (h2.symm.trans hk) e
  · rw [h2] at hk
    injection hk with hk
    have := own_lt h.wtr.2.2 k e
    omega
theorem Two.below (h : Two B W g v xs vw ys) (hb : Below W.heap.size W W') : Two B W' g v xs vw ys :=
  ⟨h.wtr.below hb, own_move h.own (fun k hk => hb.block k (own_lt h.own k hk)), h.apart⟩
theorem Two.alloc (h : Two B W g v xs vw ys) (o : Obj) : Two B (W.alloc o) g v xs vw ys := h.below ((Below.refl _ _).alloc (Nat.le_refl _) o)
theorem Two.drew (h : Two B W g v xs vw ys) : Two B W.drew g v xs vw ys := ⟨h.wtr, h.own, h.apart⟩
/-- A row appended to lies from the base on. -/
theorem Two.grown (h : Two B W g v xs vw ys) (hg : W.grownBy W' vw.ownBlock) : Below B W W' :=
  (Below.refl B W).grown hg h.wtr.cells.2.2.2 (own_base h.own)
end

theorem WNum_none {w : World} {g : Nat} {A : Option Addr} {c : Nat} :
    Calls Try.prog 24 #[.pointer (some ⟨g, 0, none⟩), .slice A 0 c] w fun e w' => e = .returned (.tuple #[]) ∧ w' = w := by
  go_enter Try.func24, Try.ntmps24
  go_wp2
  refine wp_loop_rounds 1 ?_
  rw [rounds_succ]
  go_wp2
  go_end0
  exact ⟨rfl, rfl⟩
theorem WInt_none {w : World} {g : Nat} {A : Option Addr} {c : Nat} :
    Calls Try.prog 25 #[.pointer (some ⟨g, 0, none⟩), .slice A 0 c] w fun e w' => e = .returned (.tuple #[]) ∧ w' = w := by
  go_enter Try.func25, Try.ntmps25
  go_wp2
  refine wp_loop_rounds 1 ?_
  rw [rounds_succ]
  go_wp2
  go_end0
  exact ⟨rfl, rfl⟩
theorem Kd.pos_lt {k : IntKind} {w : World} {A : Option Addr} {m : Nat} {ns : List Int} (h : Kd.C (Kd.int k) w A m ns) (hm : 0 < m) : ∀ ad, A = some ad → ad.block < w.heap.size := by
  obtain ⟨ad, rfl, hc⟩ := Kd.at_int h 0 (by omega) (by omega)
  intro ad' e
  injection e with e
  subst e
  have := World.block_lt_of_cell? w _ hc
  rwa [block_add] at this
/-- Num of numbers that lie in an elder world. -/
theorem WNum_old {B : Nat} {w : World} {g : Nat} {v : Value} {xs ns : List Int} {A : Option Addr} {m c : Nat} (h : Wtr B w g v xs) (hr : Kd.C (Kd.int .u64) w A m ns) (hA : 0 < m → ∀ ad, A = some ad → ad.block < B) (hu : U64 ns)
    (hl : xs.length + 9 * ns.length ≤ 100000000) :
    Calls Try.prog 24 #[.pointer (some ⟨g, 0, none⟩), .slice A m c] w fun e w' => e = .returned (.tuple #[]) ∧ ∃ v', WStep B w w' g v v' (xs ++ encNs ns) := by
  rcases Nat.eq_zero_or_pos m with rfl | hm
  · obtain rfl : ns = [] := List.eq_nil_of_length_eq_zero hr.1
    refine WNum_none.mono ?_
    rintro e w' ⟨rfl, rfl⟩
    exact ⟨rfl, v, by simpa [encNs] using WStep.refl h⟩
  · refine WNum_calls h hr (fun ad e => ?_) hu hl
    have := hA hm ad e
    rintro (e' | e')
    · have := h.2.1; omega
    · have := own_base h.2.2 _ e'; omega
theorem WInt_old {B : Nat} {w : World} {g : Nat} {v : Value} {xs ns : List Int} {A : Option Addr} {m c : Nat} (h : Wtr B w g v xs) (hr : Kd.C (Kd.int .i64) w A m ns) (hA : 0 < m → ∀ ad, A = some ad → ad.block < B) (hu : I64 ns)
    (hl : xs.length + 9 * ns.length ≤ 100000000) :
    Calls Try.prog 25 #[.pointer (some ⟨g, 0, none⟩), .slice A m c] w fun e w' => e = .returned (.tuple #[]) ∧ ∃ v', WStep B w w' g v v' (xs ++ encIs ns) := by
  rcases Nat.eq_zero_or_pos m with rfl | hm
  · obtain rfl : ns = [] := List.eq_nil_of_length_eq_zero hr.1
    refine WInt_none.mono ?_
    rintro e w' ⟨rfl, rfl⟩
    exact ⟨rfl, v, by simpa [encIs] using WStep.refl h⟩
  · refine WInt_calls h hr (fun ad e => ?_) hu hl
    have := hA hm ad e
    rintro (e' | e')
    · have := h.2.1; omega
    · have := own_base h.2.2 _ e'; omega

theorem u64_of_wf {xs : List Int} (h : ∀ x ∈ xs, (Lit.int .u64 x).wf = true) : U64 xs := fun x hx => by
  have := h x hx
  simp only [Lit.wf, Bool.and_eq_true, decide_eq_true_eq] at this
  exact ⟨this.1, by have h2 := this.2; simpa [IntKind.max, IntKind.signed, IntKind.bits] using h2⟩
theorem i64_of_wf {xs : List Int} (h : ∀ x ∈ xs, (Lit.int .i64 x).wf = true) : I64 xs := fun x hx => by
  have := h x hx
  simp only [Lit.wf, Bool.and_eq_true, decide_eq_true_eq] at this
  have h1 := this.1
  have h2 := this.2
  simp [IntKind.max, IntKind.min, IntKind.signed, IntKind.bits] at h1 h2
  exact ⟨h1, h2⟩
theorem flat_take (l : List S97) (k : Nat) (h : ∀ x ∈ l, x.f4.size ≤ 1000) (hk : k ≤ 200) : ((l.take k).flatMap itemEnc).length ≤ 201800 := by
  have h1 := flat_len (l.take k) (fun x hx => h x (List.mem_of_mem_take hx))
  rw [List.length_take] at h1; omega

theorem ownB_C {w : World} {base n c : Nat} {A : Option Addr} {xs : List Int} (h : OwnB w base (.slice A n c) xs) : Kd.C (Kd.int .u8) w A n xs := by
  obtain ⟨A', c', h1, -, h2⟩ := h.reads
  injection h1 with h1 h3 h4
  subst h1 h3
  exact h2

end Go.Proofs.Ytabdjehnglmlpaa
