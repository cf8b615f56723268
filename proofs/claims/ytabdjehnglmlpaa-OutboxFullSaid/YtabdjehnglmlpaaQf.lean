/- quill.Reader's calls that make memory: Open, Raw, Text. -/
import Derived.Test.YtabdjehnglmlpaaQe
namespace Go.Proofs.Ytabdjehnglmlpaa
open Go.RowKit Go.Proofs.YtabdjehnglmlpaaW.PrintWords
set_option linter.unusedVariables false
set_option linter.unusedSimpArgs false

section
variable {S S' : Nat → Prop} {a b c w w' : World}
theorem Mod.trans (h : Mod S a b) (k : Mod S' b c) (hs : ∀ i, i < a.heap.size → S' i → S i) : Mod S a c :=
  ⟨k.os.trans h.os, k.tape.trans h.tape, k.output.trans h.output, Nat.le_trans h.size k.size, fun i hi hn =>
    (k.block i (Nat.lt_of_lt_of_le hi h.size) (fun e => hn (hs i hi e))).trans (h.block i hi hn)⟩
theorem Mod.mono (h : Mod S a b) (hs : ∀ i, S i → S' i) : Mod S' a b := ⟨h.os, h.tape, h.output, h.size, fun i hi hn => h.block i hi (fun e => hn (hs i e))⟩
theorem Mod.of_below (h : Below a.heap.size a b) : Mod S a b := ⟨h.os, h.tape, h.output, h.size, fun i hi _ => h.block i hi⟩
theorem Mod.below {B : Nat} (h : Mod S a b) (hB : B ≤ a.heap.size) (hs : ∀ i, i < B → ¬ S i) : Below B a b := ⟨h.os, h.tape, h.output, h.size, fun i hi => h.block i (by omega) (hs i hi)⟩
theorem Mod.blk {g : Nat} {o : Obj} (h : Mod S a b) (hb : a.heap[g]? = some o) (hn : ¬ S g) : b.heap[g]? = some o := (h.block g (blk_lt hb) hn).trans hb
theorem Mod.cell {p : Addr} (h : Mod S a b) (hp : p.block < a.heap.size) (hn : ¬ S p.block) : b.cell? p = a.cell? p := World.cell?_of_block (h.block p.block hp hn)
theorem Mod.frozen {p : Addr} (h : Mod S a b) (hp : p.block < a.heap.size) (hn : ¬ S p.block) : b.frozen? p = a.frozen? p := World.frozen?_of_block (h.block p.block hp hn)
theorem Mod.alloc (h : Mod S a b) (o : Obj) : Mod S a (b.alloc o) :=
  ⟨h.os, h.tape, h.output, by simpa using Nat.le_succ_of_le h.size, fun i hi hn => (Below.heap_alloc b o i (Nat.lt_of_lt_of_le hi h.size)).trans (h.block i hi hn)⟩
theorem Mod.drew (h : Mod S a b) : Mod S a b.drew := ⟨h.os, h.tape, h.output, h.size, h.block⟩
theorem Mod.grown {row : Option Nat} (h : Mod S a b) (hg : b.grownBy c row) (hr : ∀ k, row = some k → k < a.heap.size → S k) : Mod S a c :=
  ⟨hg.os.trans h.os, hg.tape.trans h.tape, hg.output.trans h.output, Nat.le_trans h.size hg.size, fun i hi hn =>
    (hg.block i (Nat.lt_of_lt_of_le hi h.size) (fun e => hn (hr i e.symm hi))).trans (h.block i hi hn)⟩
theorem Below.mod_trans {B : Nat} (h : Below B a b) (k : Mod S b c) (hB : B ≤ a.heap.size) (hs : ∀ i, i < B → ¬ S i) : Below B a c :=
  h.trans (k.below (Nat.le_trans hB h.size) hs)
end

theorem Rdr.ge {w0 w : World} {g : Nat} {xs : List Int} {bad : Bool} (h : Rdr w0 w g xs bad) : w0.heap.size ≤ g ∧ g < w.heap.size := by
  obtain ⟨A, c, hb, hg, _⟩ := h
  exact ⟨hg, blk_lt hb⟩
/-- A reader's call keeps the elder world. -/
theorem Rdr.base {w0 w w' : World} {g : Nat} {xs : List Int} {bad : Bool} (h : Rdr w0 w g xs bad) (hB : Below w0.heap.size w0 w) (hm : Mod (· = g) w w') : Below w0.heap.size w0 w' :=
  Below.mod_trans hB hm (Nat.le_refl _) (fun i hi e => by have := h.ge; omega)
theorem Rdr.keep {w0 w w' : World} {g : Nat} {xs : List Int} {bad : Bool} {S : Nat → Prop} (h : Rdr w0 w g xs bad) (hm : Mod S w w') (hn : ¬ S g) : Rdr w0 w' g xs bad := by
  obtain ⟨A, c, hb, hg, hc, hr⟩ := h
  exact ⟨A, c, hm.blk hb hn, hg, hc, hr⟩

theorem OwnB.keep {w w' : World} {base : Nat} {v : Value} {xs : List Int} {S : Nat → Prop} (h : OwnB w base v xs) (hm : Mod S w w') (hn : ∀ k, v.ownBlock = some k → ¬ S k) : OwnB w' base v xs :=
  own_move h (fun k hk => hm.block k (h.lt k hk).2 (hn k hk))
theorem OwnB.lower {w : World} {base base' : Nat} {v : Value} {xs : List Int} (h : OwnB w base v xs) (hb : base' ≤ base) : OwnB w base' v xs := own_weaken h hb
theorem OwnB.nil (w : World) (base : Nat) : OwnB w base (.slice none 0 0) [] := World.ownsRow_nil w base 5 1
theorem OwnB.reads {w : World} {base : Nat} {v : Value} {xs : List Int} (h : OwnB w base v xs) : ∃ A c, v = .slice A xs.length c ∧ xs.length ≤ c ∧ Kd.C (Kd.int .u8) w A xs.length xs := by
  have hR : (Kd.int .u8).R 5 w base (fun _ => True) v xs := Kd.R_of_own (enc := Value.int .u8) h (fun _ _ => trivial)
  exact Kd.R_reads hR

theorem OwnB.any {w : World} {base : Nat} {v : Value} {xs : List Int} (h : OwnB w base v xs) : ∃ A n c, v = .slice A n c ∧ n ≤ c ∧ Kd.C (Kd.int .u8) w A n xs := by
  obtain ⟨A, c, h1, h2, h3⟩ := h.reads
  exact ⟨A, _, c, h1, h2, h3⟩
theorem nil_reads {w : World} {α : Type} {d : Kd α} : d.C w none ([] : List α).length [] := ⟨rfl, by simp, fun h => absurd h (by simp)⟩
theorem len_reads {w : World} {α : Type} {d : Kd α} {A : Option Addr} {xs : List α} (h : d.C w A xs.length xs) : xs.length ≤ 9223372036854775807 := h.2.1

set_option maxHeartbeats 1000000 in
theorem Open_calls {w0 w : World} {A : Option Addr} {c : Nat} {xs : List Int} (hB : Below w0.heap.size w0 w) (hr : Kd.C (Kd.int .u8) w0 A xs.length xs) (hc : xs.length ≤ c) :
    Calls Try.prog 21 #[.slice A xs.length c] w fun e w' => e = .returned (.pointer (some ⟨w.heap.size, 0, none⟩)) ∧ Rdr w0 w' w.heap.size xs false ∧ Below w.heap.size w w' := by
  have hz := hB.size
  have HR := Lib.hid hr
  have HC := Lib.hid hc
  clear hr hc hB
  go_enter Try.func21, Try.ntmps21
  go_wp2
  go_ret
  refine ⟨rfl, ⟨A, c, by simpa using heap_alloc_new w _, hz, HC.out, HR.out⟩, (Below.refl _ _).alloc (Nat.le_refl _) _⟩

theorem Open_any {w0 w : World} {A : Option Addr} {n c : Nat} {xs : List Int} (hB : Below w0.heap.size w0 w) (hr : Kd.C (Kd.int .u8) w0 A n xs) (hc : n ≤ c) :
    Calls Try.prog 21 #[.slice A n c] w fun e w' => e = .returned (.pointer (some ⟨w.heap.size, 0, none⟩)) ∧ Rdr w0 w' w.heap.size xs false ∧ Below w.heap.size w w' := by
  obtain rfl : xs.length = n := hr.1
  exact Open_calls hB hr hc
/-- A reader over bytes that lie in the world as it is now. -/
theorem Open_here {w : World} {A : Option Addr} {n c H : Nat} {xs : List Int} (hr : Kd.C (Kd.int .u8) w A n xs) (hc : n ≤ c) (hH : w.heap.size = H) :
    Calls Try.prog 21 #[.slice A n c] w fun e w' => e = .returned (.pointer (some ⟨H, 0, none⟩)) ∧ ∃ w0, w0.heap.size = H ∧ Below w0.heap.size w0 w' ∧ Rdr w0 w' H xs false ∧ Below w.heap.size w w' := by
  subst hH
  refine (Open_any (Below.refl _ _) hr hc).mono ?_
  rintro e w' ⟨rfl, h1, h2⟩
  exact ⟨rfl, w, rfl, h2, h1, h2⟩
theorem Clone_any {w : World} {A : Option Addr} {n c : Nat} {xs : List Int} (hr : Kd.C (Kd.int .u8) w A n xs) (hc : n ≤ c) (hl : n ≤ 140737488355232) :
    Calls Try.prog 105 #[.slice A n c] w fun e w' => ∃ v, e = .returned v ∧ OwnB w' w.heap.size v xs ∧ Below w.heap.size w w' := by
  obtain rfl : xs.length = n := hr.1
  exact Clone_calls hr hc hl

theorem cut_head {w : World} {A : Option Addr} {c m : Nat} {xs : List Int} (hr : Kd.C (Kd.int .u8) w A xs.length xs) (hc : xs.length ≤ c) (hm : m ≤ xs.length) :
    (∀ W : World, (Instr.slice 22 (.slice A xs.length c) none (some (.int .i64 (m : Int))) none).run Try.prog W = .ok (.slice A m c) W) ∧
      Kd.C (Kd.int .u8) w A m (xs.take m) := by
  obtain ⟨i0, hi, hz⟩ := Option.map_eq_some_iff.1 info5
  have h1 := cut_to (P := Try.prog) 22 5 .i64 Try.underlying22 hi A xs.length c (m : Int) (by omega) (by omega) hc
  have h2 := Kd.C_take (m := m) hr hm
  rw [show (xs.take m).length = m by rw [List.length_take]; omega] at h2
  exact ⟨h1, h2⟩
theorem cut_tail {w : World} {A : Option Addr} {c m : Nat} {xs : List Int} (hr : Kd.C (Kd.int .u8) w A xs.length xs) (hc : xs.length ≤ c) (hm : m ≤ xs.length) :
    ∃ A', (∀ W : World, (Instr.slice 22 (.slice A xs.length c) (some (.int .i64 (m : Int))) none none).run Try.prog W = .ok (.slice A' (xs.drop m).length (c - m)) W) ∧
      Kd.C (Kd.int .u8) w A' (xs.drop m).length (xs.drop m) := by
  obtain ⟨i0, hi, hz⟩ := Option.map_eq_some_iff.1 info5
  simp only [Prod.mk.injEq] at hz
  have h1 := cut_from (P := Try.prog) 22 5 .i64 Try.underlying22 hi 1 hz.2.1 A xs.length c (m : Int) (by omega) (by omega)
  have h2 := Kd.C_drop (m := m) hr hm hc
  rw [show (xs.drop m).length = xs.length - m from List.length_drop] at h2 ⊢
  exact ⟨_, h1, h2⟩

def RawPost (w0 w : World) (g : Nat) (s : List Int × Rs) (e : Ending) (w' : World) : Prop :=
  ∃ v, e = .returned v ∧ OwnB w' w.heap.size v s.1 ∧ Mod (· = g) w w' ∧ Rdr w0 w' g s.2.1 s.2.2

set_option maxHeartbeats 2000000 in
set_option maxRecDepth 100000 in
theorem Raw_calls {w0 w : World} {g : Nat} {xs : List Int} {bad : Bool} {n : Int} (hB : Below w0.heap.size w0 w) (h : Rdr w0 w g xs bad) (hl : xs.length ≤ 140737488355232) :
    Calls Try.prog 87 #[.pointer (some ⟨g, 0, none⟩), .int .i64 n] w (RawPost w0 w g (rRaw (xs, bad) n)) := by
  have hh := h
  by_cases hn : n < 0 ∨ n > xs.length
  · have e : rRaw (xs, bad) n = ([], rFail) := by unfold rRaw; rw [if_pos hn]
    rw [e]
    have H := Lib.hid (Mod.fail w g)
    have F := Lib.hid h.fail
    rcases hn with hn | hn
    · clear e h
      go_enter Try.func87, Try.ntmps87
      go_wp2_with (first
        | (go_at_call 28; refine (Left_calls hh).mono ?_; rintro e w' ⟨rfl, rfl⟩)
        | (go_at_call 132; refine (Fail_calls hh).mono ?_; rintro e w' ⟨rfl, rfl⟩))
      go_ret
      exact ⟨_, rfl, OwnB.nil _ _, H.out, F.out⟩
    · clear e h
      go_enter Try.func87, Try.ntmps87
      go_wp2_with (first
        | (go_at_call 28; refine (Left_calls hh).mono ?_; rintro e w' ⟨rfl, rfl⟩)
        | (go_at_call 132; refine (Fail_calls hh).mono ?_; rintro e w' ⟨rfl, rfl⟩))
      go_ret
      exact ⟨_, rfl, OwnB.nil _ _, H.out, F.out⟩
  · have e : rRaw (xs, bad) n = (xs.take n.toNat, (xs.drop n.toNat, bad)) := by unfold rRaw; rw [if_neg hn]
    rw [e]
    obtain ⟨m, rfl⟩ : ∃ m : Nat, n = m := ⟨n.toNat, by omega⟩
    have hm1 : (m : Int) ≤ xs.length := by omega
    rw [Int.toNat_natCast]
    obtain ⟨A, c, hb, hg, hc, hr0, hr⟩ := h.head hB
    obtain ⟨hcut1, hC1⟩ := cut_head (m := m) hr hc (by omega)
    obtain ⟨A2, hcut2, hC2⟩ := cut_tail (m := m) hr0 hc (by omega)
    have e0 : w.cell? ⟨g, 0, none⟩ = some (.slice A xs.length c) := (blk_cell hb 0).trans rfl
    have f0 : w.frozen? ⟨g, 0, none⟩ = false := blk_frozen hb 0
    have hlt := blk_lt hb
    have HC := Lib.hid (Clone_any (c := c) hC1 (by omega) (by omega))
    have HB := Lib.hid hb
    have HR := Lib.hid hC2
    have HN := Lib.hid hn
    clear e h hn hb hC1 hC2 hr hr0 hB
    go_enter Try.func87, Try.ntmps87
    go_wp2_with (first
      | (go_at_call 28; refine (Left_calls hh).mono ?_; rintro e w' ⟨rfl, rfl⟩)
      | (go_at_call 105; refine HC.out.mono ?_; rintro e w' ⟨v, rfl, hv, hbel⟩; have e1 : w'.cell? ⟨g, 0, none⟩ = some (.slice A xs.length c) := (hbel.cell (p := ⟨g, 0, none⟩) hlt).trans e0; have f1 : w'.frozen? ⟨g, 0, none⟩ = false := (hbel.frozen (p := ⟨g, 0, none⟩) hlt).trans f0; have HV := Lib.hid hv; have HBel := Lib.hid hbel; clear hv hbel e0 f0 HC))
    go_ret
    have hb1 := (HBel.out.block g hlt).trans HB.out
    refine ⟨_, rfl, ?_, Mod.setCell (S := (· = g)) (Mod.of_below HBel.out) (p := ⟨g, 0, none⟩) rfl _, ⟨A2, c - m, by simpa using blk_set hb1 0 _, hg, by simp only [List.length_drop]; omega, HR.out⟩⟩
    exact OwnB.keep (S := (· = g)) HV.out (Mod.setCell (S := (· = g)) (Mod.refl _ _) (p := ⟨g, 0, none⟩) rfl _) (fun k hk e => by have := (HV.out.lt k hk).1; omega)

end Go.Proofs.Ytabdjehnglmlpaa
