/- QuillBack: the walk. -/
import Derived.Test.YtabdjehnglmlpaaSb
import Derived.Test.YtabdjehnglmlpaaQl
namespace Go.Proofs.Ytabdjehnglmlpaa
open Go.RowKit Go.Proofs.YtabdjehnglmlpaaW.PrintWords
set_option linter.unusedVariables false
set_option linter.unusedSimpArgs false
open PM (S97 k97 z97 k97_mk rd_T97)

theorem strOfNums_bytesOf (s : ByteArray) : strOfNums (bytesOf s) = s := by
  unfold strOfNums bytesOf
  rw [List.map_map]
  have e : ((fun n : Int => UInt8.ofNat n.toNat) ∘ fun b : UInt8 => (b.toNat : Int)) = id := by funext b; simp
  rw [e, List.map_id]

section
variable {w0 w : World} {g : Nat} {rest : List Int}
theorem IntBack {n : Int} (hB : Below w0.heap.size w0 w) (h : Rdr w0 w g (encI n ++ rest) false) (hb : Byt (encI n ++ rest)) (h0 : -9223372036854775808 ≤ n) (h1 : n ≤ 9223372036854775807) :
    Calls Try.prog 23 #[.pointer (some ⟨g, 0, none⟩)] w (RdPost w0 w g (.int .i64 n) (rest, false)) := by
  have := Int_calls hB h hb; rw [rInt_back h0 h1] at this; exact this
theorem NumBack {n : Int} (hB : Below w0.heap.size w0 w) (h : Rdr w0 w g (encN n 0 ++ rest) false) (hb : Byt (encN n 0 ++ rest)) (h0 : 0 ≤ n) (h1 : n ≤ 18446744073709551615) :
    Calls Try.prog 22 #[.pointer (some ⟨g, 0, none⟩), .int .u64 n] w (RdPost w0 w g (.int .u64 n) (rest, false)) := by
  have := Num_calls (most := n) hB h hb; rw [rNum_back h0 h1 (Int.le_refl _)] at this; exact this
theorem FlagBack {b : Bool} (hB : Below w0.heap.size w0 w) (h : Rdr w0 w g (encF b ++ rest) false) (hb : Byt (encF b ++ rest)) :
    Calls Try.prog 85 #[.pointer (some ⟨g, 0, none⟩)] w (RdPost w0 w g (.bool b) (rest, false)) := by
  have := Flag_calls hB h hb; rw [rFlag_back] at this; exact this
theorem TextBack {s : ByteArray} (hB : Below w0.heap.size w0 w) (h : Rdr w0 w g (encN s.size 0 ++ bytesOf s ++ rest) false) (hb : Byt (encN s.size 0 ++ bytesOf s ++ rest)) (hl : (encN s.size 0 ++ bytesOf s ++ rest).length ≤ 1000000) :
    Calls Try.prog 86 #[.pointer (some ⟨g, 0, none⟩), .int .i64 s.size] w fun e w' => e = .returned (.string s) ∧ Mod (· = g) w w' ∧ Rdr w0 w' g rest false := by
  have hs : s.size ≤ 1000000 := by have := bytesOf_length s; simp only [List.length_append] at hl; omega
  refine (Text_calls (most := s.size) hB h hb (by omega) (by omega)).mono fun e w' h => ?_
  have e1 : rText (encN s.size 0 ++ bytesOf s ++ rest, false) s.size = (bytesOf s, (rest, false)) := by
    have := rText_back (s := bytesOf s) (rest := rest) (most := s.size) (bad := false) (by rw [bytesOf_length]; omega) (by rw [bytesOf_length]; omega)
    rw [bytesOf_length] at this
    exact this
  rw [e1] at h
  obtain ⟨h1, h2, h3⟩ := h
  refine ⟨?_, h2, h3⟩
  rw [h1]
  simp only [strOfNums_bytesOf]
theorem RawBack {s : ByteArray} (hB : Below w0.heap.size w0 w) (h : Rdr w0 w g (bytesOf s ++ rest) false) (hl : (bytesOf s ++ rest).length ≤ 1000000) :
    Calls Try.prog 87 #[.pointer (some ⟨g, 0, none⟩), .int .i64 s.size] w fun e w' => ∃ A n c, e = .returned (.slice A n c) ∧ (convert 22 9 (.slice A n c)).run Try.prog w' = .ok (.string s) w' ∧ Mod (· = g) w w' ∧ Rdr w0 w' g rest false := by
  refine (Raw_calls (n := s.size) hB h (by omega)).mono fun e w' h => ?_
  have e1 : rRaw (bytesOf s ++ rest, false) s.size = (bytesOf s, (rest, false)) := by
    have := rRaw_back (s := bytesOf s) (rest := rest) (bad := false)
    rw [bytesOf_length] at this
    exact this
  rw [e1] at h
  obtain ⟨v, h1, h2, h3, h4⟩ := h
  obtain ⟨A, n, c, rfl, hc, hC⟩ := h2.any
  have hcv := conv_str (c := c) hC
  rw [strOfNums_bytesOf] at hcv
  exact ⟨A, n, c, h1, hcv, h3, h4⟩
end

theorem at97 {w : World} {A : Option Addr} {n : Nat} {xs : List S97} (h : Kd.C k97 w A n xs) (k : Nat) (h1 : k < n) : ∃ ad, A = some ad ∧ w.cell? (ad.add (k * 5)) = some (.int .i64 (rd_T97 xs k).f0) ∧ w.cell? ⟨(ad.add (k * 5)).block, (ad.add (k * 5)).off + 1, none⟩ = some (.int .u64 (rd_T97 xs k).f1) ∧ w.cell? ⟨(ad.add (k * 5)).block, (ad.add (k * 5)).off + 2, none⟩ = some (.int .i64 (rd_T97 xs k).f2) ∧ w.cell? ⟨(ad.add (k * 5)).block, (ad.add (k * 5)).off + 3, none⟩ = some (.bool (rd_T97 xs k).f3) ∧ w.cell? ⟨(ad.add (k * 5)).block, (ad.add (k * 5)).off + 4, none⟩ = some (.string (rd_T97 xs k).f4) := by
  have := PM.at_T97 h (k : Int) (by omega) (by omega)
  rw [Int.toNat_natCast] at this
  exact this
theorem rd97_mem (l : List S97) (k : Nat) (h : k < l.length) : rd_T97 l k ∈ l := by
  show l.getD k z97 ∈ l
  rw [List.getD_eq_getElem?_getD, List.getElem?_eq_getElem h]
  exact List.getElem_mem h
theorem take97 (l : List S97) (k : Nat) (h : k < l.length) : (l.take (k + 1)).flatMap itemEnc = (l.take k).flatMap itemEnc ++ itemEnc (rd_T97 l k) := by
  have e : rd_T97 l k = l[k] := by
    show l.getD k z97 = _
    rw [List.getD_eq_getElem?_getD, List.getElem?_eq_getElem h]; rfl
  rw [List.take_succ_eq_append_getElem h, List.flatMap_append, e]; simp
theorem drop97 (l : List S97) (k : Nat) (h : k < l.length) : (l.drop k).flatMap itemEnc = itemEnc (rd_T97 l k) ++ (l.drop (k + 1)).flatMap itemEnc := by
  rw [rd97_drop l k h, List.flatMap_cons]
theorem flat_byt (l : List S97) : Byt (l.flatMap itemEnc) := by
  intro x hx
  obtain ⟨y, -, hy⟩ := List.mem_flatMap.1 hx
  exact itemEnc_byt y x hy
theorem flat_len (l : List S97) (h : ∀ x ∈ l, x.f4.size ≤ 1000) : (l.flatMap itemEnc).length ≤ 1009 * l.length := by
  induction l with
  | nil => simp
  | cons x l ih =>
    have h1 := itemEnc_len x (h x List.mem_cons_self)
    have h2 := ih (fun y hy => h y (List.mem_cons_of_mem _ hy))
    rw [List.flatMap_cons, List.length_append, List.length_cons]; omega
theorem Rdr.past {w0 w w' : World} {g : Nat} {xs : List Int} {bad : Bool} (h : Rdr w0 w g xs bad) (hm : Mod (fun _ => False) w w') : Rdr w0 w' g xs bad := h.keep hm (fun h => h)
theorem light_is {l : List S97} (h : light_ l = true) : l.length ≤ 200 ∧ ∀ x ∈ l, x.f4.size ≤ 1000 := by
  unfold light_ at h
  rw [Bool.and_eq_true] at h
  refine ⟨of_decide_eq_true h.1, fun x hx => ?_⟩
  exact of_decide_eq_true (List.all_eq_true.1 h.2 x hx)

set_option maxRecDepth 100000 in
set_option maxHeartbeats 8000000 in
theorem QuillBack_small {w : World} {A : Option Addr} {n c : Nat} {l : List S97} (hr : Kd.C k97 w A n l) (hc : n ≤ c) (hw : ∀ x ∈ l, Item.okP x) (hlt : light_ l = true) :
    Calls Try.prog 13 #[.slice A n c] w fun e w' => e = .returned (.bool true) ∧ Below w.heap.size w w' := by
  have T0 := Lib.hid hr
  have HW := Lib.hid hw
  have HLn : Hid (l.length = n) := hr.1
  obtain ⟨hl2, hsz⟩ := light_is hlt
  have HSZ := Lib.hid hsz
  have hn2 : n ≤ 200 := by have := hr.1; omega
  have HL := light_calls hr hc
  rw [hlt] at HL
  have HLL := Lib.hid HL
  clear hr hw hsz HL hlt
  go_enter Try.func13, Try.ntmps13
  go_wp2_with fail
  with_reducible refine HLL.out.mono ?_
  rintro e w1 ⟨rfl, hb⟩
  have B1 := Lib.hid hb
  have T1 := Lib.hid (Kd.C_below T0.out hb)
  have W1 := Lib.hid (Wtr.new_at w1 (B := w1.heap.size) (Nat.le_refl _) rfl)
  have D1 := Lib.hid ((Below.refl w1.heap.size w1).alloc (Nat.le_refl _) (.cells #[.slice none 0 0] 30))
  clear hb T0 HLL
  go_wp2_with fail
  go_loopw [16] (fun i wr => ∃ (k : Nat) (v : Value), i = .int .i64 k ∧ k ≤ n ∧ Hid (Wtr w1.heap.size wr w1.heap.size v ((l.take k).flatMap itemEnc)) ∧ Hid (Below w1.heap.size w1 wr)) (fun i _ => n - (intOf i).toNat)
  case atStart => exact ⟨0, _, rfl, Nat.zero_le _, W1.out, D1.out⟩
  case round =>
    obtain ⟨k, v, rfl, hk, HWk, HB⟩ := hrel
    by_cases hlt : k < n
    · obtain ⟨ad, rfl, a0, a1, a2, a3, a4⟩ := at97 (Kd.C_below T1.out HB.out) k hlt
      have hkl : k < l.length := by have := HLn.out; omega
      have hmem := rd97_mem l k hkl
      have ho := Lib.hid (HW.out _ hmem).ok
      have hs4 := HSZ.out _ hmem
      have htk := Lib.hid (take97 l k hkl)
      have hfl : ((l.take k).flatMap itemEnc).length ≤ 5000000 := by
        have h1 := flat_len (l.take k) (fun x hx => HSZ.out x (List.mem_of_mem_take hx))
        rw [List.length_take] at h1; omega
      have HWA := Lib.hid (HWk.out.alloc (.cells #[.int .i64 (rd_T97 l k).f0, .int .u64 (rd_T97 l k).f1, .int .i64 (rd_T97 l k).f2, .bool (rd_T97 l k).f3, .string (rd_T97 l k).f4] 97))
      have DA := Lib.hid (HB.out.alloc HB.out.size (.cells #[.int .i64 (rd_T97 l k).f0, .int .u64 (rd_T97 l k).f1, .int .i64 (rd_T97 l k).f2, .bool (rd_T97 l k).f3, .string (rd_T97 l k).f4] 97))
      have HC := Lib.hid (write_calls HWA.out hfl ho.out hs4)
      clear hmem hkl
      go_wp2_with fail
      with_reducible refine HC.out.mono ?_
      rintro e w2 ⟨A2, n2, c2, v2, rfl, -, -, hs⟩
      have DB := Lib.hid (DA.out.trans (WStep.base HWA.out hs))
      rw [← htk.out] at hs
      have HW2 := Lib.hid hs.w
      clear hs HC DA HWA HWk HB
      go_wp2
      go_roundw
      case rel => exact ⟨k + 1, v2, by go_num, by omega, HW2.out, DB.out⟩
      case measure => simp [intOf]; omega
    · obtain rfl : k = n := by omega
      have e1 : l.take k = l := List.take_of_length_le (by have := HLn.out; omega)
      rw [e1] at HWk
      have hfl : (l.flatMap itemEnc).length ≤ 201800 := by
        have h1 := flat_len l HSZ.out
        omega
      clear e1 W1 D1
      go_wp2_with fail
      with_reducible refine (WBytes_calls HWk.out (by omega)).mono ?_
      rintro e w2 ⟨vb, rfl, hv, hb⟩
      obtain ⟨A2, n2, c2, rfl, hc2, hC2⟩ := hv.any
      have CB := Lib.hid hC2
      have B2 := Lib.hid (B1.out.trans ((HB.out.trans (hb.mono HB.out.size)).mono B1.out.size))
      have T2 := Lib.hid (Kd.C_below (Kd.C_below T1.out HB.out) hb)
      clear hv hb hC2 HWk HB T1 B1
      go_wp2_with fail
      with_reducible refine (Open_any (Below.refl w2.heap.size w2) CB.out hc2).mono ?_
      rintro e w3 ⟨rfl, hR, hb⟩
      have R3 := Lib.hid hR
      have B3 := Lib.hid hb
      clear hR hb CB
      go_wp2_with fail
      go_loopw [27] (fun i wr => ∃ (j : Nat), i = .int .i64 j ∧ j ≤ k ∧ Hid (Rdr w2 wr w2.heap.size ((l.drop j).flatMap itemEnc) false) ∧ Hid (Below w2.heap.size w2 wr)) (fun i _ => k - (intOf i).toNat)
      case atStart => exact ⟨0, rfl, Nat.zero_le _, R3.out, B3.out⟩
      case round =>
        clear R3 B3
        obtain ⟨m, rfl, hk, HR, HB⟩ := hrel
        by_cases hlt2 : m < k
        · obtain ⟨ad, rfl, a0, a1, a2, a3, a4⟩ := at97 (Kd.C_below T2.out HB.out) m hlt2
          have hkl : m < l.length := by have := HLn.out; omega
          have hmem := rd97_mem l m hkl
          have ho := (HW.out _ hmem).ok
          have hbyt := flat_byt (l.drop m)
          have hlen : ((l.drop m).flatMap itemEnc).length ≤ 1000000 := by
            have h1 := flat_len (l.drop m) (fun x hx => HSZ.out x (List.mem_of_mem_drop hx))
            rw [List.length_drop] at h1; omega
          rw [drop97 l m hkl] at HR hbyt hlen
          obtain ⟨rest, hrest⟩ : ∃ rest, (l.drop (m + 1)).flatMap itemEnc = rest := ⟨_, rfl⟩
          rw [hrest] at HR hbyt hlen
          have hrest' := Lib.hid hrest
          obtain ⟨i0, i1, i2, i3⟩ := ho
          have hz0 := (HR.out.ge).2
          clear hmem hkl hrest
          generalize rd_T97 l m = X at *
          obtain ⟨F0, F1, F2, F3, F4⟩ := X
          simp only at a0 a1 a2 a3 a4 i0 i1 i2 i3
          have h8 := heap_alloc_new wr (.cells #[.int .i64 F0, .int .u64 F1, .int .i64 F2, .bool F3, .string F4] 97)
          have hz : wr.heap.size < (wr.alloc (.cells #[.int .i64 F0, .int .u64 F1, .int .i64 F2, .bool F3, .string F4] 97)).heap.size := by simp
          have hgne : wr.heap.size ≠ w2.heap.size := by omega
          have BD := Lib.hid ((HB.out.alloc HB.out.size (.cells #[.int .i64 F0, .int .u64 F1, .int .i64 F2, .bool F3, .string F4] 97)).drew)
          have RD := Lib.hid ((HR.out.past ((Mod.refl (fun _ => False) wr).alloc (.cells #[.int .i64 F0, .int .u64 F1, .int .i64 F2, .bool F3, .string F4] 97))).drew)
          have c0 : (wr.alloc (.cells #[.int .i64 F0, .int .u64 F1, .int .i64 F2, .bool F3, .string F4] 97)).cell? ⟨wr.heap.size, 0, none⟩ = some (.int .i64 F0) := (blk_cell h8 0).trans rfl
          have c1 : (wr.alloc (.cells #[.int .i64 F0, .int .u64 F1, .int .i64 F2, .bool F3, .string F4] 97)).cell? ⟨wr.heap.size, 1, none⟩ = some (.int .u64 F1) := (blk_cell h8 1).trans rfl
          have c2 : (wr.alloc (.cells #[.int .i64 F0, .int .u64 F1, .int .i64 F2, .bool F3, .string F4] 97)).cell? ⟨wr.heap.size, 2, none⟩ = some (.int .i64 F2) := (blk_cell h8 2).trans rfl
          have c3 : (wr.alloc (.cells #[.int .i64 F0, .int .u64 F1, .int .i64 F2, .bool F3, .string F4] 97)).cell? ⟨wr.heap.size, 3, none⟩ = some (.bool F3) := (blk_cell h8 3).trans rfl
          have c4 : (wr.alloc (.cells #[.int .i64 F0, .int .u64 F1, .int .i64 F2, .bool F3, .string F4] 97)).cell? ⟨wr.heap.size, 4, none⟩ = some (.string F4) := (blk_cell h8 4).trans rfl
          have HYB := Lib.hid hbyt
          clear h8 HR HB hbyt
          by_cases k1 : F0 = 1
          · subst k1
            change Hid (Rdr _ _ _ (encI F2 ++ rest) false) at RD
            change Hid (Byt (encI F2 ++ rest)) at HYB
            change (encI F2 ++ rest).length ≤ 1000000 at hlen
            go_wp2_with fail
            go_region_with (go_at_call 23; (with_reducible refine (IntBack BD.out RD.out HYB.out i2 i3).mono ?_); rintro e w3 ⟨hm, rfl, hr⟩; have R3 := Lib.hid hr; have B3 := Lib.hid (RD.out.base BD.out hm); have d3 : w3.cell? ⟨wr.heap.size, 2, none⟩ = some (.int .i64 F2) := (hm.cell (p := ⟨wr.heap.size, 2, none⟩) hz hgne).trans c2; clear hr hm)
            all_goals
              go_wp2_with fail
              with_reducible refine (Bad_calls R3.out).mono ?_
              rintro e w4 ⟨rfl, rfl⟩
              go_wp2
              go_roundw
              case rel => exact ⟨m + 1, by go_num, by omega, by rw [hrest'.out]; exact R3.out, B3.out⟩
              case measure => simp [intOf]; omega
          by_cases k2 : F0 = 2
          · subst k2
            change Hid (Rdr _ _ _ (encF F3 ++ rest) false) at RD
            change Hid (Byt (encF F3 ++ rest)) at HYB
            change (encF F3 ++ rest).length ≤ 1000000 at hlen
            go_wp2_with fail
            go_region_with (go_at_call 85; (with_reducible refine (FlagBack BD.out RD.out HYB.out).mono ?_); rintro e w3 ⟨hm, rfl, hr⟩; have R3 := Lib.hid hr; have B3 := Lib.hid (RD.out.base BD.out hm); have d3 : w3.cell? ⟨wr.heap.size, 3, none⟩ = some (.bool F3) := (hm.cell (p := ⟨wr.heap.size, 3, none⟩) hz hgne).trans c3; clear hr hm)
            all_goals
              go_wp2_with fail
              with_reducible refine (Bad_calls R3.out).mono ?_
              rintro e w4 ⟨rfl, rfl⟩
              go_wp2
              go_roundw
              case rel => exact ⟨m + 1, by go_num, by omega, by rw [hrest'.out]; exact R3.out, B3.out⟩
              case measure => simp [intOf]; omega
          by_cases k3 : F0 = 3
          · subst k3
            change Hid (Rdr _ _ _ (encN F4.size 0 ++ bytesOf F4 ++ rest) false) at RD
            change Hid (Byt (encN F4.size 0 ++ bytesOf F4 ++ rest)) at HYB
            change (encN F4.size 0 ++ bytesOf F4 ++ rest).length ≤ 1000000 at hlen
            go_wp2_with fail
            go_region_with (go_at_call 86; (with_reducible refine (TextBack BD.out RD.out HYB.out hlen).mono ?_); rintro e w3 ⟨rfl, hm, hr⟩; have R3 := Lib.hid hr; have B3 := Lib.hid (RD.out.base BD.out hm); have d3 : w3.cell? ⟨wr.heap.size, 4, none⟩ = some (.string F4) := (hm.cell (p := ⟨wr.heap.size, 4, none⟩) hz hgne).trans c4; clear hr hm)
            all_goals
              go_wp2_with fail
              with_reducible refine (Bad_calls R3.out).mono ?_
              rintro e w4 ⟨rfl, rfl⟩
              go_wp2
              go_roundw
              case rel => exact ⟨m + 1, by go_num, by omega, by rw [hrest'.out]; exact R3.out, B3.out⟩
              case measure => simp [intOf]; omega
          by_cases k4 : F0 = 4
          · subst k4
            change Hid (Rdr _ _ _ (bytesOf F4 ++ rest) false) at RD
            change Hid (Byt (bytesOf F4 ++ rest)) at HYB
            change (bytesOf F4 ++ rest).length ≤ 1000000 at hlen
            go_wp2_with fail
            go_region_with (go_at_call 87; (with_reducible refine (RawBack BD.out RD.out hlen).mono ?_); rintro e w3 ⟨A5, n5, c5, rfl, hcv, hm, hr⟩; have R3 := Lib.hid hr; have B3 := Lib.hid (RD.out.base BD.out hm); have d3 : w3.cell? ⟨wr.heap.size, 4, none⟩ = some (.string F4) := (hm.cell (p := ⟨wr.heap.size, 4, none⟩) hz hgne).trans c4; clear hr hm)
            all_goals
              go_wp2_with fail
              with_reducible refine (Bad_calls R3.out).mono ?_
              rintro e w4 ⟨rfl, rfl⟩
              go_wp2
              go_roundw
              case rel => exact ⟨m + 1, by go_num, by omega, by rw [hrest'.out]; exact R3.out, B3.out⟩
              case measure => simp [intOf]; omega
          have hen : itemEnc ⟨F0, F1, F2, F3, F4⟩ = encN F1 0 := by unfold itemEnc; simp only; rw [if_neg k1, if_neg k2, if_neg k3, if_neg k4]
          rw [hen] at RD HYB hlen
          have e1 : (F0 == 1) = false := beq_eq_false_iff_ne.mpr k1
          have e2 : (F0 == 2) = false := beq_eq_false_iff_ne.mpr k2
          have e3 : (F0 == 3) = false := beq_eq_false_iff_ne.mpr k3
          have e4 : (F0 == 4) = false := beq_eq_false_iff_ne.mpr k4
          clear hen
          go_wp2_with fail
          go_region_with (go_at_call 22; (with_reducible refine (NumBack BD.out RD.out HYB.out i0 i1).mono ?_); rintro e w3 ⟨hm, rfl, hr⟩; have R3 := Lib.hid hr; have B3 := Lib.hid (RD.out.base BD.out hm); have d3 : w3.cell? ⟨wr.heap.size, 1, none⟩ = some (.int .u64 F1) := (hm.cell (p := ⟨wr.heap.size, 1, none⟩) hz hgne).trans c1; clear hr hm)
          all_goals
            go_wp2_with fail
            with_reducible refine (Bad_calls R3.out).mono ?_
            rintro e w4 ⟨rfl, rfl⟩
            go_wp2
            go_roundw
            case rel => exact ⟨m + 1, by go_num, by omega, by rw [hrest'.out]; exact R3.out, B3.out⟩
            case measure => simp [intOf]; omega
        · obtain rfl : m = k := by omega
          have e1 : l.drop m = [] := List.drop_eq_nil_of_le (by have := HLn.out; omega)
          rw [e1] at HR
          have HE := Lib.hid (End_post (xs := []) (bad := false) HR.out)
          clear e1
          go_wp2_with fail
          with_reducible refine HE.out.mono ?_
          rintro e w4 ⟨rfl, rfl⟩
          go_wp2_with fail
          with_reducible refine (lives01_calls _).mono ?_
          rintro e w5 ⟨rfl, hb⟩
          have B5 := Lib.hid (B2.out.trans ((HB.out.trans (hb.mono HB.out.size)).mono B2.out.size)); clear hb
          go_wp2
          go_ret
          exact ⟨rfl, B5.out⟩

theorem QuillBack_dark {w : World} {A : Option Addr} {n c : Nat} {l : List S97} (hr : Kd.C k97 w A n l) (hc : n ≤ c) (hlt : light_ l = false) :
    Calls Try.prog 13 #[.slice A n c] w fun e w' => e = .returned (.bool true) ∧ Below w.heap.size w w' := by
  have HL := light_calls hr hc
  rw [hlt] at HL
  have HLL := Lib.hid HL
  clear hr HL hlt
  go_enter Try.func13, Try.ntmps13
  go_wp2_with fail
  with_reducible refine HLL.out.mono ?_
  rintro e w1 ⟨rfl, hb⟩
  have B1 := Lib.hid hb
  clear hb
  go_wp2_with fail
  with_reducible refine (lives01_calls _).mono ?_
  rintro e w8 ⟨rfl, hb⟩
  have B8 := Lib.hid (B1.out.trans (hb.mono B1.out.size)); clear hb
  go_wp2
  go_ret
  exact ⟨rfl, B8.out⟩

theorem QuillBack_walk {w : World} {A : Option Addr} {n c : Nat} {l : List S97} (hr : Kd.C k97 w A n l) (hc : n ≤ c) (hw : ∀ x ∈ l, Item.okP x) :
    Calls Try.prog 13 #[.slice A n c] w fun e w' => e = .returned (.bool true) ∧ Below w.heap.size w w' := by
  cases h : light_ l
  · exact QuillBack_dark hr hc h
  · exact QuillBack_small hr hc hw h

end Go.Proofs.Ytabdjehnglmlpaa
