/- outbox: small calls, and the first place where something is so. -/
import Derived.Test.YtabdjehnglmlpaaOg
import Derived.Test.YtabdjehnglmlpaaQh
namespace Go.Proofs.Ytabdjehnglmlpaa
open Go.RowKit Go.Proofs.YtabdjehnglmlpaaW.PrintWords
open PO (S45 z45 k45 rd_T45)
set_option linter.unusedVariables false
set_option linter.unusedSimpArgs false

/-- A notice as a value. -/
def No.val (n : S45) : Value := .agg #[.int .u64 n.f0, .int .u64 n.f1, .int .i64 n.f2, .int .i64 n.f3, .int .i64 n.f4, .int .i64 n.f5, .int .i64 n.f6, .int .i64 n.f7, .int .i64 n.f8]
/-- Its cells. -/
def No.cells (n : S45) : Array Value := #[.int .u64 n.f0, .int .u64 n.f1, .int .i64 n.f2, .int .i64 n.f3, .int .i64 n.f4, .int .i64 n.f5, .int .i64 n.f6, .int .i64 n.f7, .int .i64 n.f8]

theorem waits_calls (w : World) (n : S45) : Calls Try.prog 115 #[No.val n] w fun e w' => e = .returned (.bool (waitsB n)) ∧ Below w.heap.size w w' :=
  PO.outbox_waits.calls _ _ _ _ _ _ _ _ _ _ w rfl
theorem id_calls (w : World) (n : S45) : Calls Try.prog 118 #[No.val n] w fun e w' => e = .returned (.int .u64 n.f0) ∧ Below w.heap.size w w' :=
  PO.outbox_id.calls _ _ _ _ _ _ _ _ _ _ w rfl
theorem same_calls (w : World) (n : S45) : Calls Try.prog 153 #[No.val n] w fun e w' => e = .returned (No.val n) ∧ Below w.heap.size w w' :=
  PO.outbox_same.calls _ _ _ _ _ _ _ _ _ _ _ _ _ _ _ _ _ _ w rfl
theorem instO_f (t : Int) : PO.outbox_instant.f t = some (instO t) := by
  unfold PO.outbox_instant.f instO
  split <;> congr 1 <;> rw [eq_comm] <;> simp <;> omega
theorem oinst_calls (w : World) (t : Int) : Calls Try.prog 111 #[.int .i64 t] w fun e w' => e = .returned (.bool (instO t)) ∧ Below w.heap.size w w' :=
  (PO.outbox_instant.calls t _ w (instO_f t)).mono fun _ _ h => ⟨h.1, h.2.below⟩
theorem fits_f (n : S45) : PO.outbox_fits.f n.f0 n.f1 n.f2 n.f3 n.f4 n.f5 n.f6 n.f7 n.f8 = some (fitsB n) := by
  unfold PO.outbox_fits.f fitsB
  repeat' split
  all_goals (congr 1; rw [eq_comm]; simp only [decide_eq_decide, decide_eq_false_iff_not]; omega)
theorem fits_calls (w : World) (n : S45) : Calls Try.prog 112 #[No.val n] w fun e w' => e = .returned (.bool (fitsB n)) ∧ Below w.heap.size w w' :=
  PO.outbox_fits.calls _ _ _ _ _ _ _ _ _ _ w (fits_f n)

/-- What is read of place i. -/
theorem at45 {w : World} {A : Option Addr} {n : Nat} {xs : List S45} (h : Kd.C k45 w A n xs) (i : Nat) (h1 : i < n) : ∃ ad, A = some ad ∧
    w.cell? (ad.add (i * 9)) = some (.int .u64 (rd_T45 xs i).f0) ∧ w.cell? ⟨(ad.add (i * 9)).block, (ad.add (i * 9)).off + 1, none⟩ = some (.int .u64 (rd_T45 xs i).f1) ∧ w.cell? ⟨(ad.add (i * 9)).block, (ad.add (i * 9)).off + 2, none⟩ = some (.int .i64 (rd_T45 xs i).f2) ∧ w.cell? ⟨(ad.add (i * 9)).block, (ad.add (i * 9)).off + 3, none⟩ = some (.int .i64 (rd_T45 xs i).f3) ∧ w.cell? ⟨(ad.add (i * 9)).block, (ad.add (i * 9)).off + 4, none⟩ = some (.int .i64 (rd_T45 xs i).f4) ∧ w.cell? ⟨(ad.add (i * 9)).block, (ad.add (i * 9)).off + 5, none⟩ = some (.int .i64 (rd_T45 xs i).f5) ∧ w.cell? ⟨(ad.add (i * 9)).block, (ad.add (i * 9)).off + 6, none⟩ = some (.int .i64 (rd_T45 xs i).f6) ∧ w.cell? ⟨(ad.add (i * 9)).block, (ad.add (i * 9)).off + 7, none⟩ = some (.int .i64 (rd_T45 xs i).f7) ∧ w.cell? ⟨(ad.add (i * 9)).block, (ad.add (i * 9)).off + 8, none⟩ = some (.int .i64 (rd_T45 xs i).f8) := by
  have h2 := PO.at_T45 h (i : Int) (by omega) (by omega)
  rw [Int.toNat_natCast] at h2
  exact h2
theorem place_step {p : No → Bool} {l : List No} {k : Nat} (hk : k < l.length) (hn : ∀ j, j < k → p (rd_T45 l j) = false) : (p (rd_T45 l k) = true → place p l = k) := by
  intro h
  unfold place
  rw [rd_get hk] at h
  refine (List.findIdx_eq hk).2 ⟨h, fun j hj => ?_⟩
  have := hn j hj
  rwa [rd_get (by omega)] at this
theorem place_none {p : No → Bool} {l : List No} (hn : ∀ j, j < l.length → p (rd_T45 l j) = false) : place p l = l.length := by
  unfold place
  rw [List.findIdx_eq_length]
  intro x hx
  obtain ⟨j, hj, rfl⟩ := List.mem_iff_getElem.1 hx
  have := hn j hj
  rw [rd_get hj] at this
  exact this

/-- A function value that tells of a notice whether p is so, in any world behind w. -/
structure Tells (w : World) (fid : Nat) (caps : Array Value) (p : No → Bool) : Prop where
  enters : ∀ (args : Array Value) (W : World), (callFunc fid args).run Try.prog W = .ok (.enter fid args) W
  tells : ∀ (W : World) (x : No), Below w.heap.size w W → Calls Try.prog fid (#[No.val x] ++ caps) W fun e W' => e = .returned (.bool (p x)) ∧ Below W.heap.size W W'

set_option maxRecDepth 100000 in
set_option maxHeartbeats 2000000 in
theorem IndexFunc_calls {w : World} {A : Option Addr} {n c : Nat} {l : List No} (hr : Kd.C k45 w A n l) (hc : n ≤ c) {fid : Nat} {caps : Array Value} {p : No → Bool} (H : Tells w fid caps p) :
    Calls Try.prog 113 #[.slice A n c, .func (.func fid) #[] caps] w fun e w' => e = .returned (.int .i64 (placeI p l)) ∧ Below w.heap.size w w' := by
  have HR := Lib.hid hr
  have HL : Hid (l.length = n) := hr.1
  have hn63 : n ≤ 9223372036854775807 := hr.2.1
  have HP := Lib.hid H
  have hcf := H.enters
  clear hr H
  go_enter Try.func113, Try.ntmps113
  go_wp2
  go_loopw [5, 8] (fun _ i wr => ∃ k : Nat, k ≤ n ∧ i = .int .i64 k ∧ Hid (∀ j, j < k → p (rd_T45 l j) = false) ∧ Hid (Below w.heap.size w wr)) (fun _ i _ => n - (intOf i).toNat)
  case atStart => exact ⟨0, Nat.zero_le _, rfl, (fun j hj => absurd hj (by omega)), Below.refl _ _⟩
  case round =>
    obtain ⟨k, hk, rfl, HN, HB⟩ := hrel
    by_cases hlt : k < n
    · obtain ⟨ad, rfl, x0, x1, x2, x3, x4, x5, x6, x7, x8⟩ := at45 (Kd.C_below HR.out HB.out) k hlt
      have HC := Lib.hid (HP.out.tells _ (rd_T45 l k) HB.out)
      have HN1 := Lib.hid (place_step (p := p) (l := l) (k := k) (by have := HL.out; omega) HN.out)
      simp only [No.val] at HC
      have hq : ∃ b, p (rd_T45 l k) = b := ⟨_, rfl⟩
      obtain ⟨b, hq⟩ := hq
      rw [hq] at HC HN1
      have HQ := Lib.hid hq
      clear hq
      go_wp2_with fail
      with_reducible refine HC.out.mono ?_
      rintro e w2 ⟨rfl, hb⟩
      have B2 := Lib.hid (HB.out.trans (hb.mono HB.out.size))
      clear hb HC x0 x1 x2 x3 x4 x5 x6 x7 x8
      cases b
      · go_wp2
        go_roundw
        case rel => exact ⟨k + 1, by omega, by go_num, (fun j hj => (Nat.lt_or_eq_of_le (Nat.lt_succ_iff.1 hj)).elim (HN.out j) (fun e => e ▸ HQ.out)), B2.out⟩
        case measure => simp [intOf]; omega
      · have hpl := HN1.out rfl
        have hpi : Hid (placeI p l = (k : Int)) := by unfold placeI; rw [hpl, if_pos (by have := HL.out; omega)]; exact rfl
        clear hpl
        go_wp2
        go_ret
        exact ⟨by rw [hpi.out]; rfl, B2.out⟩
    · obtain rfl : k = n := by omega
      have hpi : Hid (placeI p l = -1) := by
        unfold placeI
        rw [place_none (fun j hj => HN.out j (by have := HL.out; omega)), if_neg (by omega)]; exact rfl
      go_wp2
      go_ret
      exact ⟨by rw [hpi.out]; rfl, HB.out⟩
end Go.Proofs.Ytabdjehnglmlpaa
