/- QuillWrites: the walk. -/
import Derived.Test.YtabdjehnglmlpaaTa
import Derived.Deep.RegionWith
import Derived.Deep.DeepCutAuto
namespace Go.Proofs.Ytabdjehnglmlpaa
open Go.RowKit Go.Proofs.YtabdjehnglmlpaaW.PrintWords
set_option linter.unusedVariables false
set_option linter.unusedSimpArgs false
open PM (S97 k97 z97 k97_mk rd_T97)

set_option maxRecDepth 100000 in
set_option maxHeartbeats 8000000 in
theorem QuillWrites_small {w : World} {A : Option Addr} {n c : Nat} {l : List S97} (hr : Kd.C k97 w A n l) (hc : n ≤ c) (hw : ∀ x ∈ l, Item.okP x) (hlt : light_ l = true)
    {A2 : Option Addr} {n2 c2 : Nat} {ns : List Int} (hr2 : Kd.C (Kd.int .u64) w A2 n2 ns) (hu : U64 ns) (hn2 : n2 ≤ 100)
    {A3 : Option Addr} {n3 c3 : Nat} {ms : List Int} (hr3 : Kd.C (Kd.int .i64) w A3 n3 ms) (hv : I64 ms) (hn3 : n3 ≤ 100) :
    Calls Try.prog 10 #[.slice A n c, .slice A2 n2 c2, .slice A3 n3 c3] w fun e w' => e = .returned (.bool true) ∧ Below w.heap.size w w' := by
  have T0 := Lib.hid hr
  have HW := Lib.hid hw
  have HLn : Hid (l.length = n) := hr.1
  have HL2 : Hid (ns.length = n2) := hr2.1
  have HL3 : Hid (ms.length = n3) := hr3.1
  have HU := Lib.hid hu
  have HV := Lib.hid hv
  have N0 := Lib.hid hr2
  have I0 := Lib.hid hr3
  have P2 : Hid (0 < n2 → ∀ ad, A2 = some ad → ad.block < w.heap.size) := fun h => Kd.pos_lt hr2 h
  have P3 : Hid (0 < n3 → ∀ ad, A3 = some ad → ad.block < w.heap.size) := fun h => Kd.pos_lt hr3 h
  obtain ⟨hl2, hsz⟩ := light_is hlt
  have HSZ := Lib.hid hsz
  have hn1 : n ≤ 200 := by have := hr.1; omega
  have HL := light_calls hr hc
  rw [hlt] at HL
  have HLL := Lib.hid HL
  have b2 : decide (100 < (n2 : Int)) = false := decide_eq_false (by omega)
  have b3 : decide (100 < (n3 : Int)) = false := decide_eq_false (by omega)
  clear hr hw hsz HL hlt hr2 hr3 hu hv
  go_enter Try.func10, Try.ntmps10
  go_wp2_with fail
  with_reducible refine HLL.out.mono ?_
  rintro e w1 ⟨rfl, hb⟩
  have B1 := Lib.hid hb
  have T1 := Lib.hid (Kd.C_below T0.out hb)
  have N1 := Lib.hid (Kd.C_below N0.out hb)
  have I1 := Lib.hid (Kd.C_below I0.out hb)
  have W1 := Lib.hid ((Wtr.new_at w1 (B := w1.heap.size) (Nat.le_refl _) rfl).alloc (.cells #[.slice none 0 0] 30))
  have M1 := Lib.hid (Wtr.new_at (w1.alloc (.cells #[.slice none 0 0] 30)) (B := w1.heap.size) (H := w1.heap.size + 1) (by simp) (by simp))
  have D1 := Lib.hid (((Below.refl w1.heap.size w1).alloc (Nat.le_refl _) (.cells #[.slice none 0 0] 30)).alloc (by simp) (.cells #[.slice none 0 0] 30))
  clear hb T0 N0 I0 HLL
  go_wp2_with fail
  go_loopw [9, 33] (fun vw i wr => ∃ (k : Nat) (v : Value), i = .int .i64 k ∧ k ≤ n ∧ Hid (Two w1.heap.size wr w1.heap.size v ((l.take k).flatMap itemEnc) vw ((l.take k).flatMap itemEnc)) ∧ Hid (Wtr w1.heap.size wr (w1.heap.size + 1) (.slice none 0 0) []) ∧ Hid (Below w1.heap.size w1 wr)) (fun _ i _ => n - (intOf i).toNat)
  case atStart => exact ⟨0, _, rfl, Nat.zero_le _, ⟨W1.out, OwnB.nil _ _, fun k hk => by simp [Value.ownBlock] at hk⟩, M1.out, D1.out⟩
  case round =>
    obtain ⟨k, v, rfl, hk, HT, HM, HB⟩ := hrel
    by_cases hlt : k < n
    · obtain ⟨ad, rfl, a0, a1, a2, a3, a4⟩ := at97 (Kd.C_below T1.out HB.out) k hlt
      have hkl : k < l.length := by have := HLn.out; omega
      have hmem := rd97_mem l k hkl
      have ho := Lib.hid (HW.out _ hmem).ok
      have hs4 := HSZ.out _ hmem
      have htk := Lib.hid (take97 l k hkl)
      have hfl : ((l.take k).flatMap itemEnc).length ≤ 201800 := flat_take l k HSZ.out (by omega)
      have hfe : (itemEnc (rd_T97 l k)).length ≤ 1009 := itemEnc_len _ hs4
      have HTA := Lib.hid (HT.out.alloc (.cells #[.int .i64 (rd_T97 l k).f0, .int .u64 (rd_T97 l k).f1, .int .i64 (rd_T97 l k).f2, .bool (rd_T97 l k).f3, .string (rd_T97 l k).f4] 97))
      have HMA := Lib.hid (HM.out.alloc (.cells #[.int .i64 (rd_T97 l k).f0, .int .u64 (rd_T97 l k).f1, .int .i64 (rd_T97 l k).f2, .bool (rd_T97 l k).f3, .string (rd_T97 l k).f4] 97))
      have DA := Lib.hid (HB.out.alloc HB.out.size (.cells #[.int .i64 (rd_T97 l k).f0, .int .u64 (rd_T97 l k).f1, .int .i64 (rd_T97 l k).f2, .bool (rd_T97 l k).f3, .string (rd_T97 l k).f4] 97))
      have HC := Lib.hid (write_calls HTA.out.wtr (by omega) ho.out hs4)
      clear hmem hkl
      go_wp2_with fail
      with_reducible refine HC.out.mono ?_
      rintro e w2 ⟨A4, n4, c4, v2, rfl, -, hC4, hs⟩
      have DB := Lib.hid (DA.out.trans (WStep.base HTA.out.wtr hs))
      have M2 := Lib.hid (HMA.out.beside HTA.out.wtr (by omega) (fun k hk => by simp [Value.ownBlock] at hk) hs)
      have T2 := Lib.hid (HTA.out.write hs)
      have R4 := Lib.hid (Kd.reads_of_C (d := (0 : Int)) hC4)
      have hn4 : (itemEnc (rd_T97 l k)).length = n4 := hC4.1
      have hBs : w1.heap.size ≤ w2.heap.size := DB.out.size
      clear hs HC DA HTA HMA HT HB hC4 HM
      go_wp2_with (at_builtin; refine print_append_row (w0 := w2) w1.heap.size (by rfl) _ _ 22 5 .u8 1 (by rfl) Try.underlying22 info5 (by decide) _ ((l.take k).flatMap itemEnc) (itemEnc (rd_T97 l k)) A4 n4 c4 (by rfl) (by rfl) T2.out.own R4.out (Below.refl _ _) hBs (by omega) ?_; intro v1 w3 hown hbel hgrow hat; obtain ⟨A5, m5, c5, rfl⟩ := own_form hown; have T3 := Lib.hid (T2.out.want hgrow hown hat); have D3 := Lib.hid (DB.out.trans (T2.out.grown hgrow)); have M3 := Lib.hid (show Wtr w1.heap.size w3 (w1.heap.size + 1) (.slice none 0 0) [] from ⟨blk_grown M2.out.1 hgrow (own_ne T2.out.own M2.out.1 (by decide)), M2.out.2.1, OwnB.nil _ _⟩); clear hown hbel hgrow hat)
      go_roundw
      case rel => exact ⟨k + 1, v2, by go_num, by omega, by rw [htk.out]; exact T3.out, M3.out, D3.out⟩
      case measure => simp [intOf]; omega
    · obtain rfl : k = n := by omega
      have e1 : l.take k = l := List.take_of_length_le (by have := HLn.out; omega)
      rw [e1] at HT
      have hfl : (l.flatMap itemEnc).length ≤ 201800 := by rw [← e1]; exact flat_take l k HSZ.out hn1
      clear e1 W1 D1 M1 T1 HW HSZ
      generalize l.flatMap itemEnc = E at HT hfl
      obtain ⟨Av, mv, cv, rfl⟩ := own_form HT.out.own
      have hlv : E.length = mv := by
        obtain ⟨A', c', h1, -, -⟩ := HT.out.own.reads
        injection h1 with _ h1 _
        exact h1.symm
      have HTD := Lib.hid HT.out.drew
      have HMD := Lib.hid HM.out.drew
      have HBD := Lib.hid HB.out.drew
      clear HT HM HB
      obtain ⟨SE, hSE⟩ : ∃ s, strOfNums E = s := ⟨_, rfl⟩
      have HSE := Lib.hid hSE
      have HLV := Lib.hid hlv
      have hcv0 := conv_str (c := cv) (ownB_C HTD.out.own)
      rw [hSE] at hcv0
      clear hSE hlv
      go_upto_region 10 with fail
      go_cut [52] (fun s52 wx => s52 = .bool false ∧ Hid (Wtr w1.heap.size wx (w1.heap.size + 1) (.slice none 0 0) []) ∧ Hid (Below w1.heap.size w1 wx))
      case first =>
        go_region_with (first
          | (go_at_call 27; (with_reducible refine (WBytes_calls HTD.out.wtr (by omega)).mono ?_); rintro e w7 ⟨v7, rfl, hv, hb⟩; obtain ⟨A7, n7, c7, rfl, hc7, hC7⟩ := hv.any; have hcv := conv_str (c := c7) hC7; rw [HSE.out] at hcv; have hcv2 := conv_str (c := cv) (ownB_C (HTD.out.below hb).own); rw [HSE.out] at hcv2; have T7 := Lib.hid (HTD.out.below hb); have M7 := Lib.hid (HMD.out.below hb); have B7 := Lib.hid (HBD.out.trans (hb.mono HBD.out.size)); clear hv hC7 hb)
          | (go_at_call 77; (with_reducible refine (WLen_calls T7.out.wtr).mono ?_); rintro e w8 ⟨rfl, rfl⟩; rw [HLV.out]))
        all_goals (go_wp2_with fail; go_meet; exact ⟨rfl, M7, B7⟩)
      case rest =>
        clear HTD HMD HBD hcv0 HSE HLV
        obtain ⟨rfl, MA, BA⟩ := hcut
        have hP2 : 0 < n2 → ∀ ad, A2 = some ad → ad.block < w1.heap.size := fun h ad e => Nat.lt_of_lt_of_le (P2.out h ad e) B1.out.size
        have hP3 : 0 < n3 → ∀ ad, A3 = some ad → ad.block < w1.heap.size := fun h ad e => Nat.lt_of_lt_of_le (P3.out h ad e) B1.out.size
        have HNm := Lib.hid (WNum_old (c := c2) MA.out (Kd.C_below N1.out BA.out) hP2 HU.out (by have := HL2.out; simp; omega))
        have HP3 := Lib.hid hP3
        clear hP2 hP3
        go_wp2_with fail
        with_reducible refine HNm.out.mono ?_
        rintro e w5 ⟨rfl, v5, hs⟩
        rw [List.nil_append] at hs
        have hl5 : (encNs ns).length ≤ 900 := by have := encNs_len ns; have := HL2.out; omega
        have D5 := Lib.hid (BA.out.trans (WStep.base MA.out hs))
        have HIn := Lib.hid (WInt_old (c := c3) hs.w (Kd.C_below I1.out D5.out) HP3.out HV.out (by have := HL3.out; omega))
        have S5 := Lib.hid hs
        clear hs HNm HP3
        go_wp2_with fail
        with_reducible refine HIn.out.mono ?_
        rintro e w6 ⟨rfl, v6, hs⟩
        have hl6 : (encIs ms).length ≤ 900 := by have := encIs_len ms; have := HL3.out; omega
        have D6 := Lib.hid (D5.out.trans (WStep.base S5.out.w hs))
        have M6 := Lib.hid hs.w
        have N6 := Lib.hid (Kd.C_below N1.out D6.out)
        have I6 := Lib.hid (Kd.C_below I1.out D6.out)
        clear hs HIn S5 D5 MA BA P2 P3
        have T6 : Hid (Two w1.heap.size w6 (w1.heap.size + 1) v6 (encNs ns ++ encIs ms) (.slice none 0 0) []) := ⟨M6.out, OwnB.nil _ _, fun k hk => by simp [Value.ownBlock] at hk⟩
        obtain ⟨X, hX⟩ : ∃ X, encNs ns ++ encIs ms = X := ⟨_, rfl⟩
        have hXl : X.length ≤ 1800 := by rw [← hX, List.length_append]; omega
        rw [hX] at T6
        have HX := Lib.hid hX
        clear hX M6
        go_wp2_with fail
        go_loopw [12, 59] (fun ve i wr => ∃ (j : Nat), i = .int .i64 j ∧ j ≤ n2 ∧ Hid (Two w1.heap.size wr (w1.heap.size + 1) v6 X ve (encNs (ns.take j))) ∧ Hid (Below w1.heap.size w1 wr)) (fun _ i _ => n2 - (intOf i).toNat)
        case atStart => exact ⟨0, rfl, Nat.zero_le _, by unfold Hid; simpa [encNs] using T6.out, D6.out⟩
        case round =>
          clear T6 N6 I6 D6
          obtain ⟨j, rfl, hj, HT, HB⟩ := hrel
          by_cases hlt2 : j < n2
          · obtain ⟨ad, rfl, hcell⟩ := Kd.at_int (Kd.C_below N1.out HB.out) j (by omega) (by omega)
            rw [Int.toNat_natCast] at hcell
            have hin := HU.out _ (rd_mem ns j (by have := HL2.out; omega))
            have hen := Lib.hid (encNs_take ns j (by have := HL2.out; omega))
            have hlen : (encNs (ns.take j)).length ≤ 900 := by have h1 := encNs_len (ns.take j); rw [List.length_take] at h1; omega
            revert hen
            generalize rd ns j = N1' at hcell hin ⊢
            intro hen
            obtain ⟨i0, i1⟩ := hin
            have hel := encN_len N1' 0
            go_wp2_with fail
            with_reducible refine (RefNum_calls i0 i1).mono ?_
            rintro e w3 ⟨v3, rfl, hv, hb⟩
            obtain ⟨A4, n4, c4, rfl, -, hC4⟩ := Kd_any (w := w) hv
            have T2 := Lib.hid (HT.out.below hb)
            have DB := Lib.hid (HB.out.trans (hb.mono HB.out.size))
            have R4 := Lib.hid (Kd.reads_of_C (d := (0 : Int)) hC4)
            have hn4 : (encN N1' 0).length = n4 := hC4.1
            have hBs : w1.heap.size ≤ w3.heap.size := DB.out.size
            clear hv hb hC4 HT HB
            go_wp2_with (at_builtin; refine print_append_row (w0 := w3) w1.heap.size (by rfl) _ _ 22 5 .u8 1 (by rfl) Try.underlying22 info5 (by decide) _ (encNs (ns.take j)) (encN N1' 0) A4 n4 c4 (by rfl) (by rfl) T2.out.own R4.out (Below.refl _ _) hBs (by omega) ?_; intro v1 w4 hown hbel hgrow hat; obtain ⟨A5, m5, c5, rfl⟩ := own_form hown; have T3 := Lib.hid (T2.out.want hgrow hown hat); have D3 := Lib.hid (DB.out.trans (T2.out.grown hgrow)); clear hown hbel hgrow hat)
            go_roundw
            case rel => exact ⟨j + 1, by go_num, by omega, by rw [hen.out]; exact T3.out, D3.out⟩
            case measure => simp [intOf]; omega
          · obtain rfl : j = n2 := by omega
            have e1 : ns.take j = ns := List.take_of_length_le (by have := HL2.out; omega)
            rw [e1] at HT
            clear e1
            go_wp2_with fail
            go_loopw [12, 70] (fun ve i wr => ∃ (q : Nat), i = .int .i64 q ∧ q ≤ n3 ∧ Hid (Two w1.heap.size wr (w1.heap.size + 1) v6 X ve (encNs ns ++ encIs (ms.take q))) ∧ Hid (Below w1.heap.size w1 wr)) (fun _ i _ => n3 - (intOf i).toNat)
            case atStart => exact ⟨0, rfl, Nat.zero_le _, by unfold Hid; simpa [encIs] using HT.out, HB.out⟩
            case round =>
              clear HT HB
              obtain ⟨q, rfl, hq, HT, HB⟩ := hrel
              by_cases hlt3 : q < n3
              · obtain ⟨ad, rfl, hcell⟩ := Kd.at_int (Kd.C_below I1.out HB.out) q (by omega) (by omega)
                rw [Int.toNat_natCast] at hcell
                have hin := HV.out _ (rd_mem ms q (by have := HL3.out; omega))
                have hen := Lib.hid (encIs_take ms q (by have := HL3.out; omega))
                have hlen : (encNs ns ++ encIs (ms.take q)).length ≤ 1800 := by have h1 := encIs_len (ms.take q); rw [List.length_take] at h1; rw [List.length_append]; omega
                revert hen
                generalize rd ms q = N1' at hcell hin ⊢
                intro hen
                obtain ⟨i0, i1⟩ := hin
                have hel := encI_len N1'
                go_wp2_with fail
                with_reducible refine (RefInt_calls i0 i1).mono ?_
                rintro e w3 ⟨v3, rfl, hv, hb⟩
                obtain ⟨A4, n4, c4, rfl, -, hC4⟩ := Kd_any (w := w) hv
                have T2 := Lib.hid (HT.out.below hb)
                have DB := Lib.hid (HB.out.trans (hb.mono HB.out.size))
                have R4 := Lib.hid (Kd.reads_of_C (d := (0 : Int)) hC4)
                have hn4 : (encI N1').length = n4 := hC4.1
                have hBs : w1.heap.size ≤ w3.heap.size := DB.out.size
                clear hv hb hC4 HT HB
                go_wp2_with (at_builtin; refine print_append_row (w0 := w3) w1.heap.size (by rfl) _ _ 22 5 .u8 1 (by rfl) Try.underlying22 info5 (by decide) _ (encNs ns ++ encIs (ms.take q)) (encI N1') A4 n4 c4 (by rfl) (by rfl) T2.out.own R4.out (Below.refl _ _) hBs (by omega) ?_; intro v1 w4 hown hbel hgrow hat; obtain ⟨A5, m5, c5, rfl⟩ := own_form hown; have T3 := Lib.hid (T2.out.want hgrow hown hat); have D3 := Lib.hid (DB.out.trans (T2.out.grown hgrow)); clear hown hbel hgrow hat)
                go_roundw
                case rel => exact ⟨q + 1, by go_num, by omega, by rw [hen.out, ← List.append_assoc]; exact T3.out, D3.out⟩
                case measure => simp [intOf]; omega
              · obtain rfl : q = n3 := by omega
                have e2 : ms.take q = ms := List.take_of_length_le (by have := HL3.out; omega)
                rw [e2, HX.out] at HT
                clear e2
                obtain ⟨Av, mv, cv, rfl⟩ := own_form HT.out.own
                have HTD := Lib.hid HT.out.drew
                have HBD := Lib.hid HB.out.drew
                clear HT HB
                obtain ⟨SE, hSE⟩ : ∃ s, strOfNums X = s := ⟨_, rfl⟩
                have HSE := Lib.hid hSE
                have hcv0 := conv_str (c := cv) (ownB_C HTD.out.own)
                rw [hSE] at hcv0
                clear hSE
                go_wp2_with fail
                go_region_with (first
                  | (go_at_call 27; (with_reducible refine (WBytes_calls HTD.out.wtr (by omega)).mono ?_); rintro e w7 ⟨v7, rfl, hv, hb⟩; obtain ⟨A7, n7, c7, rfl, hc7, hC7⟩ := hv.any; have hcv := conv_str (c := c7) hC7; rw [HSE.out] at hcv; have hcv2 := conv_str (c := cv) (ownB_C (HTD.out.below hb).own); rw [HSE.out] at hcv2; have B7 := Lib.hid (HBD.out.trans (hb.mono HBD.out.size)); clear hv hC7 hb)
                  | (go_at_call 20; (with_reducible refine (lives01_calls _).mono ?_); rintro e w8 ⟨rfl, hb⟩; have B8 := Lib.hid (B7.out.trans (hb.mono B7.out.size)); clear hb))
                all_goals
                  go_wp2
                  go_ret
                  exact ⟨rfl, B1.out.trans (B8.out.mono B1.out.size)⟩

set_option maxRecDepth 100000 in
set_option maxHeartbeats 1000000 in
theorem QuillWrites_dark {w : World} {A : Option Addr} {n c : Nat} {l : List S97} (hr : Kd.C k97 w A n l) (hc : n ≤ c) (hlt : light_ l = false)
    {A2 : Option Addr} {n2 c2 : Nat} {A3 : Option Addr} {n3 c3 : Nat} :
    Calls Try.prog 10 #[.slice A n c, .slice A2 n2 c2, .slice A3 n3 c3] w fun e w' => e = .returned (.bool true) ∧ Below w.heap.size w w' := by
  have HL := light_calls hr hc
  rw [hlt] at HL
  have HLL := Lib.hid HL
  clear hr HL hlt
  go_enter Try.func10, Try.ntmps10
  go_wp2_with fail
  with_reducible refine HLL.out.mono ?_
  rintro e w1 ⟨rfl, hb⟩
  have B1 := Lib.hid hb
  clear hb
  go_wp2_with fail
  with_reducible refine (lives01_calls _).mono ?_
  rintro e w8 ⟨rfl, hb⟩
  have B8 := Lib.hid (B1.out.trans (hb.mono B1.out.size)); clear hb
  go_wp2
  go_ret
  exact ⟨rfl, B8.out⟩

set_option maxRecDepth 100000 in
set_option maxHeartbeats 1000000 in
theorem QuillWrites_many {w : World} {A : Option Addr} {n c : Nat} {l : List S97} (hr : Kd.C k97 w A n l) (hc : n ≤ c) (hlt : light_ l = true)
    {A2 : Option Addr} {n2 c2 : Nat} {A3 : Option Addr} {n3 c3 : Nat} (h2 : n2 ≤ 9223372036854775807) (h3 : n3 ≤ 9223372036854775807) (hm : 100 < n2 ∨ 100 < n3) :
    Calls Try.prog 10 #[.slice A n c, .slice A2 n2 c2, .slice A3 n3 c3] w fun e w' => e = .returned (.bool true) ∧ Below w.heap.size w w' := by
  have HL := light_calls hr hc
  rw [hlt] at HL
  have HLL := Lib.hid HL
  clear hr HL hlt
  by_cases k2 : 100 < n2
  · have b2 : decide (100 < (n2 : Int)) = true := decide_eq_true (by omega)
    clear hm
    go_enter Try.func10, Try.ntmps10
    go_wp2_with fail
    with_reducible refine HLL.out.mono ?_
    rintro e w1 ⟨rfl, hb⟩
    have B1 := Lib.hid hb
    clear hb
    go_wp2_with fail
    with_reducible refine (lives01_calls _).mono ?_
    rintro e w8 ⟨rfl, hb⟩
    have B8 := Lib.hid (B1.out.trans (hb.mono B1.out.size)); clear hb
    go_wp2
    go_ret
    exact ⟨rfl, B8.out⟩
  · have k3 : 100 < n3 := by omega
    have b2 : decide (100 < (n2 : Int)) = false := decide_eq_false (by omega)
    have b3 : decide (100 < (n3 : Int)) = true := decide_eq_true (by omega)
    clear hm
    go_enter Try.func10, Try.ntmps10
    go_wp2_with fail
    with_reducible refine HLL.out.mono ?_
    rintro e w1 ⟨rfl, hb⟩
    have B1 := Lib.hid hb
    clear hb
    go_wp2_with fail
    with_reducible refine (lives01_calls _).mono ?_
    rintro e w8 ⟨rfl, hb⟩
    have B8 := Lib.hid (B1.out.trans (hb.mono B1.out.size)); clear hb
    go_wp2
    go_ret
    exact ⟨rfl, B8.out⟩

theorem QuillWrites_walk {w : World} {A : Option Addr} {n c : Nat} {l : List S97} (hr : Kd.C k97 w A n l) (hc : n ≤ c) (hw : ∀ x ∈ l, Item.okP x)
    {A2 : Option Addr} {n2 c2 : Nat} {ns : List Int} (hr2 : Kd.C (Kd.int .u64) w A2 n2 ns) (hc2 : n2 ≤ c2) (hy2 : n2 * 8 ≤ 140737488351232) (hw2 : ∀ x ∈ ns, (Lit.int .u64 x).wf = true)
    {A3 : Option Addr} {n3 c3 : Nat} {ms : List Int} (hr3 : Kd.C (Kd.int .i64) w A3 n3 ms) (hc3 : n3 ≤ c3) (hy3 : n3 * 8 ≤ 140737488351232) (hw3 : ∀ x ∈ ms, (Lit.int .i64 x).wf = true) :
    Calls Try.prog 10 #[.slice A n c, .slice A2 n2 c2, .slice A3 n3 c3] w fun e w' => e = .returned (.bool true) ∧ Below w.heap.size w w' := by
  cases h : light_ l
  · exact QuillWrites_dark hr hc h
  · by_cases hm : 100 < n2 ∨ 100 < n3
    · exact QuillWrites_many hr hc h (by omega) (by omega) hm
    · exact QuillWrites_small hr hc hw h hr2 (u64_of_wf hw2) (by omega) hr3 (i64_of_wf hw3) (by omega)

end Go.Proofs.Ytabdjehnglmlpaa
