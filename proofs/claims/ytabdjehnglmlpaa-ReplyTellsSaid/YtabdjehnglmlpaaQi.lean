/- quill.Writer's calls: Num, Int. -/
import Derived.Test.YtabdjehnglmlpaaQh
namespace Go.Proofs.Ytabdjehnglmlpaa
open Go.RowKit Go.Proofs.YtabdjehnglmlpaaW.PrintWords
set_option linter.unusedVariables false
set_option linter.unusedSimpArgs false

/-- A row that is read lies outside S. -/
def Out (S : Nat → Prop) (A : Option Addr) : Prop := ∀ ad, A = some ad → ¬ S ad.block
theorem Out.none (S : Nat → Prop) : Out S none := fun _ h => by cases h
theorem block_add (a : Addr) (n : Nat) : (a.add n).block = a.block := by unfold Addr.add; split <;> rfl

theorem C_mod {k : IntKind} {w w' : World} {A : Option Addr} {n : Nat} {xs : List Int} {S : Nat → Prop} (h : (Kd.int k).C w A n xs) (hm : Mod S w w') (ho : Out S A) : (Kd.int k).C w' A n xs := by
  refine ⟨h.1, h.2.1, fun hn => ?_⟩
  obtain ⟨ad, e, hc⟩ := h.2.2 hn
  refine ⟨ad, e, fun j p hj => ?_⟩
  obtain ⟨cs, h1, h2, h3⟩ := hc j p hj
  refine ⟨cs, h1, h2, fun i u hu => ?_⟩
  have h4 := h3 i u hu
  have hlt : (ad.add (j * (Kd.int k).sz + i)).block < w.heap.size := World.block_lt_of_cell? w _ h4
  have hb : (ad.add (j * (Kd.int k).sz + i)).block = ad.block := block_add _ _
  rw [hm.cell hlt (by rw [hb]; exact ho ad e)]
  exact h4
theorem lit_reads (w : World) (k : IntKind) (e : TypeId) (xs : List Int) (hl : xs.length ≤ 9223372036854775807) :
    (Kd.int k).C (w.alloc (.cells (nums k xs).toArray e)) (some ⟨w.heap.size, 0, none⟩) xs.length xs := by
  refine ⟨rfl, hl, fun hn => ⟨_, rfl, fun j p hj => ⟨[.int k p], rfl, rfl, fun i u hu => ?_⟩⟩⟩
  have hi : i = 0 := by
    rcases i with _ | i
    · rfl
    · simp at hu
  subst hi
  have hu' : u = .int k p := by simpa using hu.symm
  subst hu'
  have hadd : (⟨w.heap.size, 0, none⟩ : Addr).add (j * (Kd.int k).sz + 0) = ⟨w.heap.size, j, none⟩ := by
    show (⟨w.heap.size, 0, none⟩ : Addr).add (j * 1 + 0) = _
    unfold Addr.add; split <;> simp_all
  rw [hadd, cell_of_row _ _ j _ e (0, 0) (heap_alloc_new w _)]
  simp [nums, hj]

theorem lit_any (w : World) (k : IntKind) (e : TypeId) (xs : List Int) (cs : Array Value) (n H : Nat) (hcs : cs = (nums k xs).toArray) (hn : xs.length = n) (hH : w.heap.size = H) (hl : n ≤ 9223372036854775807) :
    (Kd.int k).C (w.alloc (.cells cs e)) (some ⟨H, 0, none⟩) n xs := by
  subst hcs; subst hn; subst hH
  exact lit_reads w k e xs hl
theorem WStep.mod {B : Nat} {w w1 : World} {g : Nat} {v v1 : Value} {xs : List Int} (h : WStep B w w1 g v v1 xs) : Mod (WS g v) w w1 := h.2.1

def encNs (ns : List Int) : List Int := ns.flatMap fun n => encN n 0
def U64 (ns : List Int) : Prop := ∀ n ∈ ns, 0 ≤ n ∧ n ≤ 18446744073709551615
theorem encNs_len (ns : List Int) : (encNs ns).length ≤ 9 * ns.length := by
  induction ns with
  | nil => simp [encNs]
  | cons n ns ih =>
    have := encN_len n 0
    simp only [encNs, List.flatMap_cons, List.length_append, List.length_cons] at ih ⊢
    omega
theorem encNs_take (ns : List Int) (i : Nat) (h : i < ns.length) : encNs (ns.take (i + 1)) = encNs (ns.take i) ++ encN (rd ns i) 0 := by
  rw [take_rd ns i h]; simp [encNs]
theorem rd_mem (ns : List Int) (i : Nat) (h : i < ns.length) : rd ns i ∈ ns := by
  simp only [rd, Int.toNat_natCast]
  rw [List.getD_eq_getElem?_getD, List.getElem?_eq_getElem h]
  exact List.getElem_mem h

set_option maxRecDepth 100000 in
set_option maxHeartbeats 2000000 in
theorem WNum_calls {B : Nat} {w : World} {g : Nat} {v : Value} {xs ns : List Int} {A : Option Addr} {m c : Nat} (h : Wtr B w g v xs) (hr : Kd.C (Kd.int .u64) w A m ns) (ho : Out (WS g v) A) (hu : U64 ns)
    (hl : xs.length + 9 * ns.length ≤ 100000000) :
    Calls Try.prog 24 #[.pointer (some ⟨g, 0, none⟩), .slice A m c] w fun e w' => e = .returned (.tuple #[]) ∧ ∃ v', WStep B w w' g v v' (xs ++ encNs ns) := by
  have hm : ns.length = m := hr.1
  have hmx : m ≤ 9223372036854775807 := hr.2.1
  have HW := Lib.hid h
  have HR := Lib.hid hr
  have HO := Lib.hid ho
  have HU := Lib.hid hu
  have HM := Lib.hid hm
  clear h hr ho hu hm
  go_enter Try.func24, Try.ntmps24
  go_wp2
  go_loopw [5, 10] (fun _ i wr => ∃ (i0 : Nat) (v2 : Value), i = .int .i64 i0 ∧ i0 ≤ m ∧ Hid (WStep B w wr g v v2 (xs ++ encNs (ns.take i0)))) (fun _ i _ => m - (intOf i).toNat)
  case atStart => exact ⟨0, v, rfl, Nat.zero_le _, by unfold Hid; simpa [encNs] using WStep.refl HW.out⟩
  case round =>
    obtain ⟨i0, v2, rfl, hi0, hst⟩ := hrel
    by_cases hlt : i0 < m
    · have hr2 := C_mod HR.out hst.out.mod HO.out
      obtain ⟨ad, rfl, hc⟩ := Kd.at_int hr2 i0 (by omega) (by omega)
      rw [Int.toNat_natCast] at hc
      have hin := HU.out _ (rd_mem ns i0 (by have := HM.out; omega))
      have hen := encNs_take ns i0 (by have := HM.out; omega)
      have hlen : (xs ++ encNs (ns.take i0)).length ≤ 100000000 := by
        have h1 := encNs_len (ns.take i0)
        rw [List.length_take] at h1
        rw [List.length_append]
        omega
      revert hen
      generalize rd ns i0 = N1 at hc hin ⊢
      intro hen
      obtain ⟨n0, n1⟩ := hin
      have HN := Lib.hid (Wnumber_calls (mark := 0) hst.out.1 n0 n1 (by omega) (by omega) hlen)
      have HE := Lib.hid hen
      clear hen hr2 hlen
      go_wp2_with (go_at_call 104; refine HN.out.mono ?_; rintro e w' ⟨rfl, v3, hs3⟩; have HS := Lib.hid hs3; clear hs3)
      go_roundw
      case rel => exact ⟨i0 + 1, v3, by go_num, by omega, by rw [HE.out, ← List.append_assoc]; exact hst.out.trans HS.out⟩
      case measure => simp [intOf]; omega
    · go_wp2
      go_end0
      have hi : i0 = m := by omega
      subst hi
      refine ⟨rfl, v2, ?_⟩
      have h2 := hst.out
      rw [List.take_of_length_le (by have := HM.out; omega)] at h2
      exact h2

def encIs (ns : List Int) : List Int := ns.flatMap encI
def I64 (ns : List Int) : Prop := ∀ n ∈ ns, -9223372036854775808 ≤ n ∧ n ≤ 9223372036854775807
theorem encIs_len (ns : List Int) : (encIs ns).length ≤ 9 * ns.length := by
  induction ns with
  | nil => simp [encIs]
  | cons n ns ih =>
    have := encI_len n
    simp only [encIs, List.flatMap_cons, List.length_append, List.length_cons] at ih ⊢
    omega
theorem encIs_take (ns : List Int) (i : Nat) (h : i < ns.length) : encIs (ns.take (i + 1)) = encIs (ns.take i) ++ encI (rd ns i) := by
  rw [take_rd ns i h]; simp [encIs]

set_option maxRecDepth 100000 in
set_option maxHeartbeats 2000000 in
theorem WInt_calls {B : Nat} {w : World} {g : Nat} {v : Value} {xs ns : List Int} {A : Option Addr} {m c : Nat} (h : Wtr B w g v xs) (hr : Kd.C (Kd.int .i64) w A m ns) (ho : Out (WS g v) A) (hu : I64 ns)
    (hl : xs.length + 9 * ns.length ≤ 100000000) :
    Calls Try.prog 25 #[.pointer (some ⟨g, 0, none⟩), .slice A m c] w fun e w' => e = .returned (.tuple #[]) ∧ ∃ v', WStep B w w' g v v' (xs ++ encIs ns) := by
  have hm : ns.length = m := hr.1
  have hmx : m ≤ 9223372036854775807 := hr.2.1
  have HW := Lib.hid h
  have HR := Lib.hid hr
  have HO := Lib.hid ho
  have HU := Lib.hid hu
  have HM := Lib.hid hm
  clear h hr ho hu hm
  go_enter Try.func25, Try.ntmps25
  go_wp2
  go_loopw [5, 10] (fun _ i wr => ∃ (i0 : Nat) (v2 : Value), i = .int .i64 i0 ∧ i0 ≤ m ∧ Hid (WStep B w wr g v v2 (xs ++ encIs (ns.take i0)))) (fun _ i _ => m - (intOf i).toNat)
  case atStart => exact ⟨0, v, rfl, Nat.zero_le _, by unfold Hid; simpa [encIs] using WStep.refl HW.out⟩
  case round =>
    obtain ⟨i0, v2, rfl, hi0, hst⟩ := hrel
    by_cases hlt : i0 < m
    · have hr2 := C_mod HR.out hst.out.mod HO.out
      obtain ⟨ad, rfl, hc⟩ := Kd.at_int hr2 i0 (by omega) (by omega)
      rw [Int.toNat_natCast] at hc
      have hin := HU.out _ (rd_mem ns i0 (by have := HM.out; omega))
      have hen := encIs_take ns i0 (by have := HM.out; omega)
      have hlen : (xs ++ encIs (ns.take i0)).length ≤ 100000000 := by
        have h1 := encIs_len (ns.take i0)
        rw [List.length_take] at h1
        rw [List.length_append]
        omega
      revert hen
      generalize rd ns i0 = N1 at hc hin ⊢
      intro hen
      obtain ⟨n0, n1⟩ := hin
      clear hr2
      by_cases hneg : N1 < 0
      · have e1 : encI N1 = encN (-1 - N1) 128 := by unfold encI; rw [if_pos hneg]
        rw [e1] at hen
        have HN := Lib.hid (Wnumber_calls (n := -1 - N1) (mark := 128) hst.out.1 (by omega) (by omega) (by omega) (by omega) hlen)
        have HE := Lib.hid hen
        clear hen hlen e1
        go_wp2_with (go_at_call 104; refine HN.out.mono ?_; rintro e w' ⟨rfl, v3, hs3⟩; have HS := Lib.hid hs3; clear hs3)
        go_roundw
        case rel => exact ⟨i0 + 1, v3, by go_num, by omega, by rw [HE.out, ← List.append_assoc]; exact hst.out.trans HS.out⟩
        case measure => simp [intOf]; omega
      · have e1 : encI N1 = encN N1 0 := by unfold encI; rw [if_neg hneg]
        rw [e1] at hen
        have HN := Lib.hid (Wnumber_calls (n := N1) (mark := 0) hst.out.1 (by omega) (by omega) (by omega) (by omega) hlen)
        have HE := Lib.hid hen
        clear hen hlen e1
        go_wp2_with (go_at_call 104; refine HN.out.mono ?_; rintro e w' ⟨rfl, v3, hs3⟩; have HS := Lib.hid hs3; clear hs3)
        go_roundw
        case rel => exact ⟨i0 + 1, v3, by go_num, by omega, by rw [HE.out, ← List.append_assoc]; exact hst.out.trans HS.out⟩
        case measure => simp [intOf]; omega
    · go_wp2
      go_end0
      have hi : i0 = m := by omega
      subst hi
      refine ⟨rfl, v2, ?_⟩
      have h2 := hst.out
      rw [List.take_of_length_le (by have := HM.out; omega)] at h2
      exact h2

end Go.Proofs.Ytabdjehnglmlpaa
