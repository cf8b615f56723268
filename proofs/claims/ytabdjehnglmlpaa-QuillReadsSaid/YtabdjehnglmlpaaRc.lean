/- QuillReads: the walk. -/
import Derived.Test.YtabdjehnglmlpaaRb
namespace Go.Proofs.Ytabdjehnglmlpaa
open Go.RowKit Go.Proofs.YtabdjehnglmlpaaW.PrintWords
set_option linter.unusedVariables false
set_option linter.unusedSimpArgs false

theorem ask_wf {x : S104} (h : Ask.ok x) : x.f1 ≤ 9223372036854775807 := by
  have h2 := h.2.1
  simp only [Lit.wf, Bool.and_eq_true, decide_eq_true_eq] at h2
  have h3 := h2.2
  simpa [IntKind.max, IntKind.signed, IntKind.bits] using h3
theorem rd104_mem (l : List S104) (k : Nat) (h : k < l.length) : rd104 l k ∈ l := by
  unfold rd104
  rw [List.getD_eq_getElem?_getD, List.getElem?_eq_getElem h]
  exact List.getElem_mem h

theorem Ref.new' {w0 w : World} {A : Option Addr} {n c : Nat} {xs : List Int} (hB : Below w0.heap.size w0 w) (hr : Kd.C (Kd.int .u8) w0 A n xs) (hc : n ≤ c) :
    Ref w0 (w.alloc (.cells #[.slice A n c, .bool false] 89)) w.heap.size xs false := by
  obtain rfl : xs.length = n := hr.1
  exact ⟨A, c, by simpa using heap_alloc_new w _, hB.size, hc, hr⟩

set_option maxRecDepth 100000 in
set_option maxHeartbeats 8000000 in
theorem QuillReads_small {w : World} {A : Option Addr} {n c : Nat} {xs : List Int} (hr : Kd.C (Kd.int .u8) w A n xs) (hc : n ≤ c) (hn : n ≤ 3000) (hb : Byt xs)
    {A2 : Option Addr} {n2 c2 : Nat} {l : List S104} (hr2 : Kd.C k104 w A2 n2 l) (hc2 : n2 ≤ c2) (hn2 : n2 ≤ 200) (hw2 : ∀ x ∈ l, Ask.ok x) :
    Calls Try.prog 11 #[.slice A n c, .slice A2 n2 c2] w fun e w' => e = .returned (.bool true) ∧ Below w.heap.size w w' := by
  have R0 := Lib.hid hr
  have T0 := Lib.hid hr2
  have HW := Lib.hid hw2
  have HY := Lib.hid hb
  have HLn : Hid (xs.length = n) := hr.1
  have HL2 : Hid (l.length = n2) := hr2.1
  obtain ⟨H, hH⟩ : ∃ H, w.heap.size = H := ⟨_, rfl⟩
  have HH := Lib.hid hH
  have hO := Lib.hid (Open_any (Below.refl w.heap.size w) R0.out hc)
  clear hr hr2 hw2 hb hH
  go_enter Try.func11, Try.ntmps11
  go_wp2_with fail
  with_reducible refine hO.out.mono ?_
  rintro e w1 ⟨rfl, hR, hb⟩
  have R1 := Lib.hid hR
  have B1 := Lib.hid hb
  have D1 : Hid (Duo w (w1.alloc (.cells #[.slice A n c, .bool false] 89)) w.heap.size w1.heap.size xs false xs false) :=
    ⟨B1.out.alloc B1.out.size _, R1.out.keep ((Mod.refl (fun _ => False) w1).alloc _) (fun h => h), Ref.new' B1.out R0.out hc, by have := R1.out.ge.2; omega⟩
  clear hO hR hb
  go_wp2_with fail
  go_loopw [25] (fun i wr => ∃ (k : Nat) (ys : List Int) (b : Bool), i = .int .i64 k ∧ k ≤ n2 ∧ Hid (Duo w wr w.heap.size w1.heap.size ys b ys b) ∧ Hid (Byt ys ∧ ys.length ≤ 3000)) (fun i _ => n2 - (intOf i).toNat)
  case atStart => exact ⟨0, xs, false, rfl, Nat.zero_le _, D1.out, HY.out, by have := HLn.out; omega⟩
  case round =>
    obtain ⟨k, ys, b, rfl, hk, HD, HB⟩ := hrel
    by_cases hlt : k < n2
    · obtain ⟨ad, rfl, a0, a1, a2⟩ := at104 (Kd.C_below T0.out HD.out.base) k hlt
      have hok := Lib.hid (HW.out _ (rd104_mem l k (by have := HL2.out; omega)))
      have hyl := HB.out.2
      have HYb := Lib.hid HB.out.1
      obtain ⟨⟨zs, zb⟩, hz⟩ : ∃ q, ask (ys, b) (rd104 l k).f0 (rd104 l k).f1 (rd104 l k).f2 = q := ⟨_, rfl⟩
      have hzb : Hid (Byt zs ∧ zs.length ≤ 3000) := by
        have h1 := ask_byt (s := (ys, b)) HYb.out (rd104 l k).f0 (rd104 l k).f1 (rd104 l k).f2
        have h2 := ask_len (s := (ys, b)) HYb.out (rd104 l k).f0 (rd104 l k).f1 (rd104 l k).f2
        rw [hz] at h1 h2
        exact ⟨h1, Nat.le_trans h2 hyl⟩
      have HRD : Hid (∀ (W : World), Duo w W w.heap.size w1.heap.size ys b ys b → Calls Try.prog 80 #[.pointer (some ⟨w.heap.size, 0, none⟩), .pointer (some ⟨w1.heap.size, 0, none⟩), .agg #[.int .i64 (rd104 l k).f0, .int .i64 (rd104 l k).f1, .int .u64 (rd104 l k).f2]] W (ReadPost w W w.heap.size w1.heap.size (zs, zb))) := fun W hD => by
        have := read_calls (k := (rd104 l k).f0) (N := (rd104 l k).f1) (M := (rd104 l k).f2) hD HYb.out hyl (ask_wf hok.out)
        rw [hz] at this
        exact this
      revert HRD
      generalize (rd104 l k).f0 = F0 at a0 ⊢
      generalize (rd104 l k).f1 = F1 at a1 ⊢
      generalize (rd104 l k).f2 = F2 at a2 ⊢
      intro HRD
      clear hz hok HYb
      have DD := Lib.hid (HD.out.alloc (.cells #[.int .i64 F0, .int .i64 F1, .int .u64 F2] 104)).drew
      go_upto_region 7 with fail
      go_cut [59] (fun s59 wx => s59 = .bool false ∧ Hid (Duo w wx w.heap.size w1.heap.size zs zb zs zb))
      case first =>
        have h8 := heap_alloc_new wr (.cells #[.int .i64 F0, .int .i64 F1, .int .u64 F2] 104)
        have c0 : (wr.alloc (.cells #[.int .i64 F0, .int .i64 F1, .int .u64 F2] 104)).cell? ⟨wr.heap.size, 0, none⟩ = some (.int .i64 F0) := (blk_cell h8 0).trans rfl
        have c1 : (wr.alloc (.cells #[.int .i64 F0, .int .i64 F1, .int .u64 F2] 104)).cell? ⟨wr.heap.size, 1, none⟩ = some (.int .i64 F1) := (blk_cell h8 1).trans rfl
        have c2 : (wr.alloc (.cells #[.int .i64 F0, .int .i64 F1, .int .u64 F2] 104)).cell? ⟨wr.heap.size, 2, none⟩ = some (.int .u64 F2) := (blk_cell h8 2).trans rfl
        clear h8
        go_region_with (first
          | (go_at_call 80; (with_reducible refine (HRD.out _ DD.out).mono ?_); rintro e w2 ⟨rfl, hm, hD⟩; obtain ⟨A5, c5, f0, f1, -, -, -, -⟩ := Ref.cells hD.rf; have D2 := Lib.hid hD; simp only at f0 f1; clear hm hD)
          | (go_at_call 28; (with_reducible refine (Left_calls D2.out.rd).mono ?_); rintro e w3 ⟨rfl, rfl⟩)
          | (go_at_call 26; (with_reducible refine (Bad_calls D2.out.rd).mono ?_); rintro e w3 ⟨rfl, rfl⟩)
          | (go_at_call 81; (with_reducible refine (End_post D2.out.rd).mono ?_); rintro e w3 ⟨rfl, rfl⟩)
          | (go_at_call 82; (with_reducible refine (REnd_calls D2.out.rf).mono ?_); rintro e w3 ⟨rfl, rfl⟩))
        all_goals (go_wp2_with fail; go_meet; exact ⟨rfl, D2⟩)
      case rest =>
        obtain ⟨rfl, D2⟩ := hcut
        clear HRD DD HD
        go_wp2
        go_roundw
        case rel => exact ⟨k + 1, zs, zb, by go_num, by omega, D2, hzb⟩
        case measure => simp [intOf]; omega
    · go_wp2_with fail
      with_reducible refine (lives01_calls _).mono ?_
      rintro e w8 ⟨rfl, hb⟩
      have B8 := Lib.hid (HD.out.base.trans (hb.mono HD.out.base.size)); clear hb
      go_wp2
      go_ret
      exact ⟨rfl, B8.out⟩

end Go.Proofs.Ytabdjehnglmlpaa
