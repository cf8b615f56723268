/- One text out of Ps, Pv. -/
import Derived.Test.YtabdjehnglmlpaaXb
import Derived.Test.YtabdjehnglmlpaaXd
import Derived.Test.YtabdjehnglmlpaaXg
section
/- ReplyWrites: the walk. -/
namespace Go.Proofs.Ytabdjehnglmlpaa
open Go.RowKit Go.Proofs.YtabdjehnglmlpaaW.PrintWords
set_option linter.unusedVariables false
set_option linter.unusedSimpArgs false

theorem C_keep {k : IntKind} {w w' : World} {A : Option Addr} {n : Nat} {xs : List Int} {S : Nat → Prop} (h : (Kd.int k).C w A n xs) (hm : Mod S w w') (hA : 0 < n → ∀ ad, A = some ad → ¬ S ad.block) : (Kd.int k).C w' A n xs := by
  rcases Nat.eq_zero_or_pos n with rfl | hn
  · obtain rfl : xs = [] := List.eq_nil_of_length_eq_zero h.1
    exact ⟨rfl, by decide, fun h => absurd h (by decide)⟩
  · exact C_mod h hm (hA hn)
set_option maxRecDepth 100000 in
set_option maxHeartbeats 8000000 in
theorem ReplyWrites_sound {w : World} (r : Rp) (ho : r.ok) (hs : rpSound r = true) {A : Option Addr} {n c : Nat} (hf : Kd.C (Kd.int .u64) w A n r.fired) (hc : n ≤ c)
    {A2 : Option Addr} {n2 c2 : Nat} {xs : List Int} (hr2 : Kd.C (Kd.int .u8) w A2 n2 xs) (hc2 : n2 ≤ c2) (hn2 : n2 ≤ 1000) (hb : Byt xs) :
    Calls Try.prog 18 #[r.val A n c, .slice A2 n2 c2] w fun e w' => e = .returned (.bool true) ∧ Below w.heap.size w w' := by
  have h64 := (of_decide_eq_true hs).2.2.2.2.1
  have hnl : r.fired.length = n := hf.1
  have hn64 : n ≤ 64 := by omega
  have b2 : decide (1000 < (n2 : Int)) = false := decide_eq_false (by omega)
  have D0 := Lib.hid ((Below.refl w.heap.size w).alloc (Nat.le_refl _) (.cells #[.int .i64 r.code, .int .i64 r.time, .int .u64 r.tk.id, .int .i64 r.tk.contract, .int .i64 r.tk.state, .int .i64 r.tk.level, .int .u64 r.tk.gen, .int .i64 r.tk.frm, .int .i64 r.tk.left, .int .i64 r.tk.due, .int .i64 r.tk.told, .slice A n c, .int .u64 r.notice, .int .i64 r.dead] 66))
  have K0 : Hid ((w.alloc (.cells #[.int .i64 r.code, .int .i64 r.time, .int .u64 r.tk.id, .int .i64 r.tk.contract, .int .i64 r.tk.state, .int .i64 r.tk.level, .int .u64 r.tk.gen, .int .i64 r.tk.frm, .int .i64 r.tk.left, .int .i64 r.tk.due, .int .i64 r.tk.told, .slice A n c, .int .u64 r.notice, .int .i64 r.dead] 66)).heap[w.heap.size]? = some (.cells #[.int .i64 r.code, .int .i64 r.time, .int .u64 r.tk.id, .int .i64 r.tk.contract, .int .i64 r.tk.state, .int .i64 r.tk.level, .int .u64 r.tk.gen, .int .i64 r.tk.frm, .int .i64 r.tk.left, .int .i64 r.tk.due, .int .i64 r.tk.told, .slice A n c, .int .u64 r.notice, .int .i64 r.dead] 66)) := heap_alloc_new w _
  have HLi := rpLight_calls (r := r) (w := w.alloc (.cells #[.int .i64 r.code, .int .i64 r.time, .int .u64 r.tk.id, .int .i64 r.tk.contract, .int .i64 r.tk.state, .int .i64 r.tk.level, .int .u64 r.tk.gen, .int .i64 r.tk.frm, .int .i64 r.tk.left, .int .i64 r.tk.due, .int .i64 r.tk.told, .slice A n c, .int .u64 r.notice, .int .i64 r.dead] 66)) (Kd.C_below hf D0.out) hc
  rw [decide_eq_true (show n ≤ 200 by omega)] at HLi
  have HL := Lib.hid HLi
  have HBy := Lib.hid (fun W (h : Kd.C (Kd.int .u64) W A n r.fired) => rbytes_yes W r ho hs h (c := c))
  have HRS := Lib.hid (fun W => rrpS_calls W r ho A n c hnl (by omega))
  have HPut := Lib.hid (fun (W : World) (g : Nat) (v : Value) (B : Nat) (h : Wtr B W g v []) (hC : Kd.C (Kd.int .u64) W A n r.fired) (hA : 0 < n → ∀ ad, A = some ad → ad.block < B) => rput_calls (c := c) h r ho hs hC hA (by simp))
  have HRp := Lib.hid (fun W (h : Kd.C (Kd.int .u64) W A n r.fired) => rrput_calls W r ho hs h (c := c))
  have HG := Lib.hid (rpGet_back ho hs xs)
  have HLe := Lib.hid (rpEnc_len hs)
  have HS := Lib.hid hs
  have HF := Lib.hid hf
  have HM := Lib.hid hr2
  have HY := Lib.hid ((rpEnc_byt r).append hb)
  have HLx : Hid (xs.length = n2) := hr2.1
  clear HLi ho hs hf hr2 hb
  simp only [Rp.val] at HL HBy HRS HPut HRp
  simp only [Rp.val]
  go_enter Try.func18, Try.ntmps18
  go_wp2_with fail
  with_reducible refine HL.out.mono ?_
  rintro e w1 ⟨rfl, hb⟩
  have D1 := Lib.hid (D0.out.trans (hb.mono D0.out.size))
  have K1 := Lib.hid (blk_below K0.out hb)
  have x0 := blk_cell K1.out 0
  have x1 := blk_cell K1.out 1
  have x2 := blk_cell K1.out 2
  have x3 := blk_cell K1.out 3
  have x4 := blk_cell K1.out 4
  have x5 := blk_cell K1.out 5
  have x6 := blk_cell K1.out 6
  have x7 := blk_cell K1.out 7
  have x8 := blk_cell K1.out 8
  have x9 := blk_cell K1.out 9
  have x10 := blk_cell K1.out 10
  have x11 := blk_cell K1.out 11
  have x12 := blk_cell K1.out 12
  have x13 := blk_cell K1.out 13
  clear hb HL D0 K0
  go_wp2_with fail
  with_reducible refine (HBy.out _ (Kd.C_below HF.out D1.out)).mono ?_
  rintro e w2 ⟨A4, n4, c4, rfl, hc4, hC4, hb⟩
  have D2 := Lib.hid (D1.out.trans (hb.mono D1.out.size))
  have K2 := Lib.hid (blk_below K1.out hb)
  have B4 := Lib.hid hC4
  have hn4 : (rpEnc r).length = n4 := hC4.1
  clear hb hC4 HBy D1 K1 x0 x1 x2 x3 x4 x5 x6 x7 x8 x9 x10 x11 x12 x13
  have x0 := blk_cell K2.out 0
  have x1 := blk_cell K2.out 1
  have x2 := blk_cell K2.out 2
  have x3 := blk_cell K2.out 3
  have x4 := blk_cell K2.out 4
  have x5 := blk_cell K2.out 5
  have x6 := blk_cell K2.out 6
  have x7 := blk_cell K2.out 7
  have x8 := blk_cell K2.out 8
  have x9 := blk_cell K2.out 9
  have x10 := blk_cell K2.out 10
  have x11 := blk_cell K2.out 11
  have x12 := blk_cell K2.out 12
  have x13 := blk_cell K2.out 13
  go_wp2_with fail
  with_reducible refine (HRS.out _).mono ?_
  rintro e w3 ⟨rfl, hb⟩
  rw [HS.out]
  have D3 := Lib.hid (D2.out.trans (hb.mono D2.out.size))
  have W3 := Lib.hid (Wtr.new_at w3 (B := w3.heap.size) (Nat.le_refl _) rfl)
  have D3a := Lib.hid (D3.out.alloc D3.out.size (.cells #[.slice none 0 0] 30))
  have K3 := Lib.hid (blk_alloc (blk_below K2.out hb) (.cells #[.slice none 0 0] 30))
  have C3 := Lib.hid (Kd.C_below B4.out (hb.alloc hb.size (.cells #[.slice none 0 0] 30)))
  have A4l : Hid (0 < n4 → ∀ ad, A4 = some ad → ad.block < w3.heap.size) := fun h ad e => Nat.lt_of_lt_of_le (Kd.pos_lt B4.out h ad e) hb.size
  have A1 : Hid (0 < n → ∀ ad, A = some ad → ad.block < w3.heap.size) := fun h ad e => Nat.lt_of_lt_of_le (Kd.pos_lt HF.out h ad e) D3.out.size
  have HPP := Lib.hid (HPut.out _ _ _ _ W3.out (Kd.C_below HF.out D3a.out) A1.out)
  have hsz3 : w.heap.size < w3.heap.size := Nat.lt_of_lt_of_le (blk_lt K2.out) hb.size
  clear hb HRS HPut D2 K2 B4 A1 x0 x1 x2 x3 x4 x5 x6 x7 x8 x9 x10 x11 x12 x13
  have x0 := blk_cell K3.out 0
  have x1 := blk_cell K3.out 1
  have x2 := blk_cell K3.out 2
  have x3 := blk_cell K3.out 3
  have x4 := blk_cell K3.out 4
  have x5 := blk_cell K3.out 5
  have x6 := blk_cell K3.out 6
  have x7 := blk_cell K3.out 7
  have x8 := blk_cell K3.out 8
  have x9 := blk_cell K3.out 9
  have x10 := blk_cell K3.out 10
  have x11 := blk_cell K3.out 11
  have x12 := blk_cell K3.out 12
  have x13 := blk_cell K3.out 13
  go_wp2_with fail
  with_reducible refine HPP.out.mono ?_
  rintro e w4 ⟨rfl, v4, hs4⟩
  rw [List.nil_append] at hs4
  have hb4 : Below w3.heap.size (w3.alloc (.cells #[.slice none 0 0] 30)) w4 := WStep.base W3.out hs4
  have D4 := Lib.hid (D3a.out.trans (hb4.mono D3.out.size))
  have W4 := Lib.hid hs4.w
  have K4 := Lib.hid ((hb4.block _ hsz3).trans K3.out)
  have C4 := Lib.hid (C_under C3.out A4l.out hb4)
  have hsz4 : w3.heap.size < w4.heap.size := blk_lt W4.out.1
  have HO : Hid ((w4.alloc (.cells #[] 5)).ownsRow w4.heap.size 5 1 (.slice (some ⟨w4.heap.size, 0, none⟩) 0 0) ([] : List Int).length (nums .u8 [])) := World.ownsRow_made w4 #[] 0 (Nat.le_refl _) (by decide) rfl
  have HB : Hid (Below w4.heap.size w4 (w4.alloc (.cells #[] 5))) := (Below.refl _ w4).alloc (Nat.le_refl _) _
  have HR : Hid (ReadsInt (w4.alloc (.cells #[] 5)) .u8 A4 n4 (rpEnc r)) := Kd.reads_of_C (d := (0 : Int)) (Kd.C_below C4.out HB.out)
  have hle := HLe.out
  have hlx : xs.length ≤ 1000 := by have := HLx.out; omega
  clear hs4 hb4 HPP W3 D3 D3a K3 C3 A4l x0 x1 x2 x3 x4 x5 x6 x7 x8 x9 x10 x11 x12 x13
  go_wp2_with (first
    | (at_builtin; refine print_append_row (w0 := w4) w4.heap.size (by rfl) (.tmp 40) (.tmp 41) 22 5 .u8 1 (by rfl) Try.underlying22 info5 (by decide) (.slice (some ⟨w4.heap.size, 0, none⟩) 0 0) [] (rpEnc r) A4 n4 c4 (by rfl) (by rfl) HO.out HR.out HB.out (by simp) (by simp; omega) ?_; intro v5 w5 hown hbel hgrow hat; obtain ⟨A5, m5, c5, rfl⟩ := own_form hown; have O5 : Hid (OwnB w5 w4.heap.size (.slice A5 m5 c5) (rpEnc r)) := (by simp only [List.nil_append] at hown; exact hown); have B5 := Lib.hid hbel; have M5 : Hid (ReadsInt w5 .u8 A2 n2 xs) := Kd.reads_of_C (d := (0 : Int)) (Kd.C_below HM.out (D4.out.trans (hbel.mono D4.out.size))); clear hown hbel hgrow hat)
    | (at_builtin; refine print_append_row (w0 := w4) w4.heap.size (by rfl) (.tmp 42) (.tmp 43) 22 5 .u8 1 (by rfl) Try.underlying22 info5 (by decide) (.slice A5 m5 c5) (rpEnc r) xs A2 n2 c2 (by rfl) (by rfl) O5.out M5.out B5.out B5.out.size (by omega) ?_; intro v6 w6 hown hbel hgrow hat; obtain ⟨A6, m6, c6, rfl⟩ := own_form hown; have O6 : Hid (OwnB w6 w4.heap.size (.slice A6 m6 c6) (rpEnc r ++ xs)) := hown; have B6 := Lib.hid hbel; clear hown hbel hgrow hat))
  have hle6 : m6 ≤ c6 := own_le O6.out
  with_reducible refine (Open_any (Below.refl w6.heap.size w6) (ownB_C O6.out) hle6).mono ?_
  rintro e w7 ⟨rfl, hR, hb⟩
  have R7 := Lib.hid hR
  have B7 := Lib.hid hb
  have B47 := Lib.hid (B6.out.trans (hb.mono B6.out.size))
  have hsz6 : w4.heap.size ≤ w6.heap.size := B6.out.size
  have D7 := Lib.hid (D4.out.trans (B47.out.mono D4.out.size))
  have W7 := Lib.hid (W4.out.below B47.out)
  have K7 := Lib.hid (blk_below K4.out B47.out)
  have C7 := Lib.hid (Kd.C_below C4.out B47.out)
  have V4 : Hid (∀ k, v4.ownBlock = some k → ¬ k = w6.heap.size) := fun k hk e => by have := own_lt W4.out.2.2 k hk; omega
  have A47 : Hid (0 < n4 → ∀ ad, A4 = some ad → ¬ ad.block = w6.heap.size) := fun h ad e e' => by have := Kd.pos_lt C4.out h ad e; omega
  clear hR hb B5 O5 M5 HO HB HR W4 K4 C4 D4 B6
  go_wp2_with fail
  have HRd := rread_calls B7.out R7.out HY.out B7.out.size
  rw [HG.out] at HRd
  have HRD := Lib.hid HRd
  clear HRd
  with_reducible refine HRD.out.mono ?_
  rintro e w8 ⟨A8, n8, c8, rfl, hc8, -, hC8, -, hm, hr⟩
  have hn8 : n8 ≤ 64 := by have := hC8.1; simp only at this; omega
  have D8 := Lib.hid ((D7.out.trans (hm.below D7.out.size (fun i hi e => by omega))).alloc ((D7.out.trans (hm.below D7.out.size (fun i hi e => by omega))).size) (.cells #[.int .i64 r.code, .int .i64 r.time, .int .u64 r.tk.id, .int .i64 r.tk.contract, .int .i64 r.tk.state, .int .i64 r.tk.level, .int .u64 r.tk.gen, .int .i64 r.tk.frm, .int .i64 r.tk.left, .int .i64 r.tk.due, .int .i64 r.tk.told, .slice A8 n8 c8, .int .u64 r.notice, .int .i64 r.dead] 66)).drew
  have W8 := Lib.hid (((W7.out.keep hm (by omega) V4.out).alloc (.cells #[.int .i64 r.code, .int .i64 r.time, .int .u64 r.tk.id, .int .i64 r.tk.contract, .int .i64 r.tk.state, .int .i64 r.tk.level, .int .u64 r.tk.gen, .int .i64 r.tk.frm, .int .i64 r.tk.left, .int .i64 r.tk.due, .int .i64 r.tk.told, .slice A8 n8 c8, .int .u64 r.notice, .int .i64 r.dead] 66)).drew)
  have KB := Lib.hid (show (w8.alloc (.cells #[.int .i64 r.code, .int .i64 r.time, .int .u64 r.tk.id, .int .i64 r.tk.contract, .int .i64 r.tk.state, .int .i64 r.tk.level, .int .u64 r.tk.gen, .int .i64 r.tk.frm, .int .i64 r.tk.left, .int .i64 r.tk.due, .int .i64 r.tk.told, .slice A8 n8 c8, .int .u64 r.notice, .int .i64 r.dead] 66)).drew.heap[w.heap.size]? = _ from blk_alloc (hm.blk K7.out (by omega)) (.cells #[.int .i64 r.code, .int .i64 r.time, .int .u64 r.tk.id, .int .i64 r.tk.contract, .int .i64 r.tk.state, .int .i64 r.tk.level, .int .u64 r.tk.gen, .int .i64 r.tk.frm, .int .i64 r.tk.left, .int .i64 r.tk.due, .int .i64 r.tk.told, .slice A8 n8 c8, .int .u64 r.notice, .int .i64 r.dead] 66))
  have K9 : Hid ((w8.alloc (.cells #[.int .i64 r.code, .int .i64 r.time, .int .u64 r.tk.id, .int .i64 r.tk.contract, .int .i64 r.tk.state, .int .i64 r.tk.level, .int .u64 r.tk.gen, .int .i64 r.tk.frm, .int .i64 r.tk.left, .int .i64 r.tk.due, .int .i64 r.tk.told, .slice A8 n8 c8, .int .u64 r.notice, .int .i64 r.dead] 66)).drew.heap[w8.heap.size]? = some (.cells #[.int .i64 r.code, .int .i64 r.time, .int .u64 r.tk.id, .int .i64 r.tk.contract, .int .i64 r.tk.state, .int .i64 r.tk.level, .int .u64 r.tk.gen, .int .i64 r.tk.frm, .int .i64 r.tk.left, .int .i64 r.tk.due, .int .i64 r.tk.told, .slice A8 n8 c8, .int .u64 r.notice, .int .i64 r.dead] 66)) := heap_alloc_new w8 _
  have C4 := Lib.hid (Kd.C_below (C_keep C7.out hm A47.out) (((Below.refl w8.heap.size w8).alloc (Nat.le_refl _) (.cells #[.int .i64 r.code, .int .i64 r.time, .int .u64 r.tk.id, .int .i64 r.tk.contract, .int .i64 r.tk.state, .int .i64 r.tk.level, .int .u64 r.tk.gen, .int .i64 r.tk.frm, .int .i64 r.tk.left, .int .i64 r.tk.due, .int .i64 r.tk.told, .slice A8 n8 c8, .int .u64 r.notice, .int .i64 r.dead] 66)).drew))
  have F8 := Lib.hid (Kd.C_below hC8 (((Below.refl w8.heap.size w8).alloc (Nat.le_refl _) (.cells #[.int .i64 r.code, .int .i64 r.time, .int .u64 r.tk.id, .int .i64 r.tk.contract, .int .i64 r.tk.state, .int .i64 r.tk.level, .int .u64 r.tk.gen, .int .i64 r.tk.frm, .int .i64 r.tk.left, .int .i64 r.tk.due, .int .i64 r.tk.told, .slice A8 n8 c8, .int .u64 r.notice, .int .i64 r.dead] 66)).drew))
  have R8 := Lib.hid ((hr.alloc (.cells #[.int .i64 r.code, .int .i64 r.time, .int .u64 r.tk.id, .int .i64 r.tk.contract, .int .i64 r.tk.state, .int .i64 r.tk.level, .int .u64 r.tk.gen, .int .i64 r.tk.frm, .int .i64 r.tk.left, .int .i64 r.tk.due, .int .i64 r.tk.told, .slice A8 n8 c8, .int .u64 r.notice, .int .i64 r.dead] 66)).drew)
  have FA := Lib.hid (Kd.C_below HF.out D8.out)
  have SN : Hid (Elder (w8.alloc (.cells #[.int .i64 r.code, .int .i64 r.time, .int .u64 r.tk.id, .int .i64 r.tk.contract, .int .i64 r.tk.state, .int .i64 r.tk.level, .int .u64 r.tk.gen, .int .i64 r.tk.frm, .int .i64 r.tk.left, .int .i64 r.tk.due, .int .i64 r.tk.told, .slice A8 n8 c8, .int .u64 r.notice, .int .i64 r.dead] 66)).drew (w8.alloc (.cells #[.int .i64 r.code, .int .i64 r.time, .int .u64 r.tk.id, .int .i64 r.tk.contract, .int .i64 r.tk.state, .int .i64 r.tk.level, .int .u64 r.tk.gen, .int .i64 r.tk.frm, .int .i64 r.tk.left, .int .i64 r.tk.due, .int .i64 r.tk.told, .slice A8 n8 c8, .int .u64 r.notice, .int .i64 r.dead] 66)).drew) := Below.refl _ _
  clear hm hr hC8 HRD D7 W7 K7 C7 V4 A47 R7 B7 B47 O6 HY HG HM
  obtain ⟨SE, hSE⟩ : ∃ s, strOfNums (rpEnc r) = s := ⟨_, rfl⟩
  have HSE := Lib.hid hSE
  clear hSE
  simp only [Rp.val]
  go_wp2_with fail
  refine wp_elder (Elder (w8.alloc (.cells #[.int .i64 r.code, .int .i64 r.time, .int .u64 r.tk.id, .int .i64 r.tk.contract, .int .i64 r.tk.state, .int .i64 r.tk.level, .int .u64 r.tk.gen, .int .i64 r.tk.frm, .int .i64 r.tk.left, .int .i64 r.tk.due, .int .i64 r.tk.told, .slice A8 n8 c8, .int .u64 r.notice, .int .i64 r.dead] 66)).drew) (by kernel_rfl) ?_
  refine wpAnyH_take (i := 0) (v := ?_) rfl (by kernel_rfl) (by kernel_rfl) (by kernel_rfl) (fun _ _ _ h => h) (Or.inl ⟨by rfl, ?_⟩) SN.out ?_
  rotate_left
  · intro w' hw'
    clear hw'
    go_simp; try with_reducible rfl
  refine wpAnyH_take (i := 1) (v := ?_) rfl (by kernel_rfl) (by kernel_rfl) (by kernel_rfl) (fun _ _ _ h => h) (Or.inl ⟨by rfl, ?_⟩) SN.out ?_
  rotate_left
  · intro w' hw'
    clear hw'
    go_simp; try with_reducible rfl
  refine wpAnyH_take (i := 2) (v := ?_) rfl (by kernel_rfl) (by kernel_rfl) (by kernel_rfl) (fun _ _ _ h => h) (Or.inl ⟨by rfl, ?_⟩) SN.out ?_
  rotate_left
  · intro w' hw'
    clear hw'
    go_simp; try with_reducible rfl
  refine wpAnyH_take (i := 3) (v := ?_) rfl (by kernel_rfl) (by kernel_rfl) (by kernel_rfl) (fun _ _ _ h => h) (Or.inl ⟨by rfl, ?_⟩) SN.out ?_
  rotate_left
  · intro w' hw'
    clear hw'
    go_simp; try with_reducible rfl
  refine wpAnyH_lay (fun K hK => ?_)
  go_simp
  refine hK _ _ ?_
  clear hK K
  refine wpAnyH_take (i := 4) (v := ?_) rfl (by kernel_rfl) (by kernel_rfl) (by kernel_rfl) (fun _ _ _ h => h) (Or.inl ⟨by rfl, ?_⟩) SN.out ?_
  rotate_left
  · intro w' hw'
    have hcv := conv_str (c := c4) (Kd.C_below C4.out hw')
    rw [HSE.out] at hcv
    clear hw'
    go_simp; try with_reducible rfl
  refine wpAnyH_take (i := 5) (v := ?_) rfl (by kernel_rfl) (by kernel_rfl) (by kernel_rfl) (fun _ _ _ h => h) (Or.inl ⟨by rfl, ?_⟩) SN.out ?_
  rotate_left
  · intro w' hw'
    have hk := blk_below KB.out hw'
    have x0 := blk_cell hk 0
    have x1 := blk_cell hk 1
    have x2 := blk_cell hk 2
    have x3 := blk_cell hk 3
    have x4 := blk_cell hk 4
    have x5 := blk_cell hk 5
    have x6 := blk_cell hk 6
    have x7 := blk_cell hk 7
    have x8 := blk_cell hk 8
    have x9 := blk_cell hk 9
    have x10 := blk_cell hk 10
    have x11 := blk_cell hk 11
    have x12 := blk_cell hk 12
    have x13 := blk_cell hk 13
    clear hw'
    go_simp; try with_reducible rfl
  refine wpAnyH_lay (fun K hK => ?_)
  go_simp
  refine hK _ _ ?_
  clear hK K
  refine wpAnyH_alone (k := 6) (by kernel_rfl) rfl (fun K hK => ?_)
  go_simp
  go_wp2_with fail
  with_reducible refine (HRp.out _ FA.out).mono ?_
  rintro e w9 ⟨v9, rfl, hv, hb⟩
  obtain ⟨A9, n9, c9, rfl, -, hC9⟩ := hv.any
  have hcv := conv_str (c := c9) hC9
  rw [HSE.out] at hcv
  have SN1 := Lib.hid (show Elder _ w9 from hb)
  clear hv hC9 hb
  refine hK _ _ ⟨SN1.out, ?_⟩
  clear hK K
  refine wpAnyH_alone (k := 7) (by kernel_rfl) rfl (fun K hK => ?_)
  go_simp
  refine hK _ _ ⟨SN1.out, ?_⟩
  clear hK K
  refine wpAnyH_take (i := 8) (v := ?_) rfl (by kernel_rfl) (by kernel_rfl) (by kernel_rfl) (fun _ _ _ h => h) (Or.inl ⟨by rfl, ?_⟩) SN1.out ?_
  rotate_left
  · intro w' hw'
    clear hw'
    go_simp; try with_reducible rfl
  refine wpAnyH_take (i := 9) (v := ?_) rfl (by kernel_rfl) (by kernel_rfl) (by kernel_rfl) (fun _ _ _ h => h) (Or.inl ⟨by rfl, ?_⟩) SN1.out ?_
  rotate_left
  · intro w' hw'
    clear hw'
    go_simp; try with_reducible rfl
  refine wpAnyH_take (i := 10) (v := ?_) rfl (by kernel_rfl) (by kernel_rfl) (by kernel_rfl) (fun _ _ _ h => h) (Or.inl ⟨by rfl, ?_⟩) SN1.out ?_
  rotate_left
  · intro w' hw'
    clear hw'
    go_simp; try with_reducible rfl
  refine wpAnyH_take (i := 13) (v := ?_) rfl (by kernel_rfl) (by kernel_rfl) (by kernel_rfl) (fun _ _ _ h => h) (Or.inl ⟨by rfl, ?_⟩) SN1.out ?_
  rotate_left
  · intro w' hw'
    clear hw'
    go_simp; try with_reducible rfl
  refine wpAnyH_lay (fun K hK => ?_)
  go_simp
  refine hK _ _ ?_
  clear hK K
  refine wpAnyH_take (i := 14) (v := ?_) rfl (by kernel_rfl) (by kernel_rfl) (by kernel_rfl) (fun _ _ _ h => h) (Or.inl ⟨by rfl, ?_⟩) SN1.out ?_
  rotate_left
  · intro w' hw'
    have hcv := conv_str (c := c4) (Kd.C_below C4.out hw')
    rw [HSE.out] at hcv
    clear hw'
    go_simp; try with_reducible rfl
  refine wpAnyH_lay (fun K hK => ?_)
  go_simp
  refine hK _ _ ?_
  clear hK K
  have W9 := Lib.hid (W8.out.below SN1.out)
  refine wpAnyH_alone (k := 11) (by kernel_rfl) rfl (fun K hK => ?_)
  go_simp
  go_wp2_with fail
  with_reducible refine (WBytes_calls W9.out (by have := HLe.out; omega)).mono ?_
  rintro e w10 ⟨v10, rfl, hv, hb⟩
  obtain ⟨A10, n10, c10, rfl, -, hC10⟩ := hv.any
  have hcw := conv_str (c := c10) hC10
  rw [HSE.out] at hcw
  have SN2 := Lib.hid (show Elder _ w10 from SN1.out.trans (hb.mono SN1.out.size))
  clear hv hC10 hb
  refine hK _ _ ⟨SN2.out, ?_⟩
  clear hK K
  refine wpAnyH_alone (k := 12) (by kernel_rfl) rfl (fun K hK => ?_)
  go_simp
  refine hK _ _ ⟨SN2.out, ?_⟩
  clear hK K
  refine wpAnyH_take (i := 15) (v := ?_) rfl (by kernel_rfl) (by kernel_rfl) (by kernel_rfl) (fun _ _ _ h => h) (Or.inl ⟨by rfl, ?_⟩) SN2.out ?_
  rotate_left
  · intro w' hw'
    clear hw'
    go_simp; try with_reducible rfl
  refine wpAnyH_take (i := 16) (v := ?_) rfl (by kernel_rfl) (by kernel_rfl) (by kernel_rfl) (fun _ _ _ h => h) (Or.inl ⟨by rfl, ?_⟩) SN2.out ?_
  rotate_left
  · intro w' hw'
    clear hw'
    go_simp; try with_reducible rfl
  refine wpAnyH_take (i := 17) (v := ?_) rfl (by kernel_rfl) (by kernel_rfl) (by kernel_rfl) (fun _ _ _ h => h) (Or.inl ⟨by rfl, ?_⟩) SN2.out ?_
  rotate_left
  · intro w' hw'
    clear hw'
    go_simp; try with_reducible rfl
  refine wpAnyH_take (i := 18) (v := ?_) rfl (by kernel_rfl) (by kernel_rfl) (by kernel_rfl) (fun _ _ _ h => h) (Or.inl ⟨by rfl, ?_⟩) SN2.out ?_
  rotate_left
  · intro w' hw'
    clear hw'
    go_simp; try with_reducible rfl
  refine wpAnyH_take (i := 19) (v := ?_) rfl (by kernel_rfl) (by kernel_rfl) (by kernel_rfl) (fun _ _ _ h => h) (Or.inl ⟨by rfl, ?_⟩) SN2.out ?_
  rotate_left
  · intro w' hw'
    clear hw'
    go_simp; try with_reducible rfl
  refine wpAnyH_take (i := 20) (v := ?_) rfl (by kernel_rfl) (by kernel_rfl) (by kernel_rfl) (fun _ _ _ h => h) (Or.inl ⟨by rfl, ?_⟩) SN2.out ?_
  rotate_left
  · intro w' hw'
    clear hw'
    go_simp; try with_reducible rfl
  refine wpAnyH_lay (fun K hK => ?_)
  go_simp
  refine hK _ _ ?_
  clear hK K
  refine wpAnyH_take (i := 21) (v := ?_) rfl (by kernel_rfl) (by kernel_rfl) (by kernel_rfl) (fun _ _ _ h => h) (Or.inl ⟨by rfl, ?_⟩) SN2.out ?_
  rotate_left
  · intro w' hw'
    have hk := blk_below K9.out hw'
    have x0 := blk_cell hk 0
    have x1 := blk_cell hk 1
    have x2 := blk_cell hk 2
    have x3 := blk_cell hk 3
    have x4 := blk_cell hk 4
    have x5 := blk_cell hk 5
    have x6 := blk_cell hk 6
    have x7 := blk_cell hk 7
    have x8 := blk_cell hk 8
    have x9 := blk_cell hk 9
    have x10 := blk_cell hk 10
    have x11 := blk_cell hk 11
    have x12 := blk_cell hk 12
    have x13 := blk_cell hk 13
    clear hw'
    go_simp; try with_reducible rfl
  refine wpAnyH_take (i := 22) (v := ?_) rfl (by kernel_rfl) (by kernel_rfl) (by kernel_rfl) (fun _ _ _ h => h) (Or.inl ⟨by rfl, ?_⟩) SN2.out ?_
  rotate_left
  · intro w' hw'
    have hk := blk_below KB.out hw'
    have x0 := blk_cell hk 0
    have x1 := blk_cell hk 1
    have x2 := blk_cell hk 2
    have x3 := blk_cell hk 3
    have x4 := blk_cell hk 4
    have x5 := blk_cell hk 5
    have x6 := blk_cell hk 6
    have x7 := blk_cell hk 7
    have x8 := blk_cell hk 8
    have x9 := blk_cell hk 9
    have x10 := blk_cell hk 10
    have x11 := blk_cell hk 11
    have x12 := blk_cell hk 12
    have x13 := blk_cell hk 13
    clear hw'
    go_simp; try with_reducible rfl
  refine wpAnyH_lay (fun K hK => ?_)
  go_simp
  refine hK _ _ ?_
  clear hK K
  have HSa := Lib.hid (rrpSame_calls (r := r) (s := r) (c := c8) (c2 := c) (Kd.C_below F8.out SN2.out) hc8 (by omega) (Kd.C_below FA.out SN2.out) hc (by omega))
  simp only [Rp.val, rpEq_self] at HSa
  refine wpAnyH_alone (k := 23) (by kernel_rfl) rfl (fun K hK => ?_)
  go_simp
  go_wp2_with fail
  with_reducible refine (HSa.out).mono ?_
  rintro e w11 ⟨rfl, hb⟩
  have SN3 := Lib.hid (show Elder _ w11 from SN2.out.trans (hb.mono SN2.out.size))
  clear hb
  refine hK _ _ ⟨SN3.out, ?_⟩
  clear hK K
  refine wpAnyH_take (i := 24) (v := ?_) rfl (by kernel_rfl) (by kernel_rfl) (by kernel_rfl) (fun _ _ _ h => h) (Or.inl ⟨by rfl, ?_⟩) SN3.out ?_
  rotate_left
  · intro w' hw'
    clear hw'
    go_simp; try with_reducible rfl
  refine wpAnyH_take (i := 25) (v := ?_) rfl (by kernel_rfl) (by kernel_rfl) (by kernel_rfl) (fun _ _ _ h => h) (Or.inl ⟨by rfl, ?_⟩) SN3.out ?_
  rotate_left
  · intro w' hw'
    clear hw'
    go_simp; try with_reducible rfl
  refine wpAnyH_take (i := 26) (v := ?_) rfl (by kernel_rfl) (by kernel_rfl) (by kernel_rfl) (fun _ _ _ h => h) (Or.inl ⟨by rfl, ?_⟩) SN3.out ?_
  rotate_left
  · intro w' hw'
    clear hw'
    go_simp; try with_reducible rfl
  refine wpAnyH_take (i := 28) (v := ?_) rfl (by kernel_rfl) (by kernel_rfl) (by kernel_rfl) (fun _ _ _ h => h) (Or.inl ⟨by rfl, ?_⟩) SN3.out ?_
  rotate_left
  · intro w' hw'
    clear hw'
    go_simp; try with_reducible rfl
  refine wpAnyH_take (i := 29) (v := ?_) rfl (by kernel_rfl) (by kernel_rfl) (by kernel_rfl) (fun _ _ _ h => h) (Or.inl ⟨by rfl, ?_⟩) SN3.out ?_
  rotate_left
  · intro w' hw'
    clear hw'
    go_simp; try with_reducible rfl
  refine wpAnyH_lay (fun K hK => ?_)
  go_simp
  refine hK _ _ ?_
  clear hK K
  have R9 := Lib.hid (R8.out.keep (Mod.of_below (S := fun _ => False) SN3.out) (fun h => h))
  refine wpAnyH_alone (k := 27) (by kernel_rfl) rfl (fun K hK => ?_)
  go_simp
  go_wp2_with fail
  with_reducible refine (Left_calls R9.out).mono ?_
  rintro e w12 ⟨rfl, rfl⟩
  rw [HLx.out]
  refine hK _ _ ⟨SN3.out, ?_⟩
  clear hK K
  refine wpAnyH_take (i := 30) (v := ?_) rfl (by kernel_rfl) (by kernel_rfl) (by kernel_rfl) (fun _ _ _ h => h) (Or.inl ⟨by rfl, ?_⟩) SN3.out ?_
  rotate_left
  · intro w' hw'
    clear hw'
    go_simp; try with_reducible rfl
  refine wpAnyH_take (i := 31) (v := ?_) rfl (by kernel_rfl) (by kernel_rfl) (by kernel_rfl) (fun _ _ _ h => h) (Or.inl ⟨by rfl, ?_⟩) SN3.out ?_
  rotate_left
  · intro w' hw'
    clear hw'
    go_simp; try with_reducible rfl
  refine wpAnyH_take (i := 32) (v := ?_) rfl (by kernel_rfl) (by kernel_rfl) (by kernel_rfl) (fun _ _ _ h => h) (Or.inl ⟨by rfl, ?_⟩) SN3.out ?_
  rotate_left
  · intro w' hw'
    clear hw'
    go_simp; try with_reducible rfl
  refine wpAnyH_lay (fun K hK => ?_)
  go_simp
  refine hK _ _ ?_
  clear hK K
  refine wpAnyH_alone (k := 33) (by kernel_rfl) rfl (fun K hK => ?_)
  go_simp
  go_wp2_with fail
  with_reducible refine (lives19_calls _).mono ?_
  rintro e w13 ⟨rfl, hb⟩
  have SN4 := Lib.hid (show Elder _ w13 from SN3.out.trans (hb.mono SN3.out.size))
  clear hb
  refine hK _ _ ⟨SN4.out, ?_⟩
  clear hK K
  refine wpAnyH_take (i := 34) (v := ?_) rfl (by kernel_rfl) (by kernel_rfl) (by kernel_rfl) (fun _ _ _ h => h) (Or.inl ⟨by rfl, ?_⟩) SN4.out ?_
  rotate_left
  · intro w' hw'
    clear hw'
    go_simp; try with_reducible rfl
  refine wpAnyH_take (i := 35) (v := ?_) rfl (by kernel_rfl) (by kernel_rfl) (by kernel_rfl) (fun _ _ _ h => h) (Or.inl ⟨by rfl, ?_⟩) SN4.out ?_
  rotate_left
  · intro w' hw'
    clear hw'
    go_simp; try with_reducible rfl
  refine wpAnyH_lay (fun K hK => ?_)
  go_simp
  refine hK _ _ ?_
  clear hK K
  refine wpAnyH_done (by kernel_rfl) ?_ _
  go_wp2
  go_ret
  exact ⟨rfl, D8.out.trans (SN4.out.mono D8.out.size)⟩

end Go.Proofs.Ytabdjehnglmlpaa
end

section
/- ReplyWrites: the other ways, and all together. -/
namespace Go.Proofs.Ytabdjehnglmlpaa
open Go.RowKit Go.Proofs.YtabdjehnglmlpaaW.PrintWords
set_option linter.unusedVariables false
set_option linter.unusedSimpArgs false

def bx (r : Rp) (A : Option Addr) (n c : Nat) : Obj := .cells #[.int .i64 r.code, .int .i64 r.time, .int .u64 r.tk.id, .int .i64 r.tk.contract, .int .i64 r.tk.state, .int .i64 r.tk.level, .int .u64 r.tk.gen, .int .i64 r.tk.frm, .int .i64 r.tk.left, .int .i64 r.tk.due, .int .i64 r.tk.told, .slice A n c, .int .u64 r.notice, .int .i64 r.dead] 66

set_option maxRecDepth 100000 in
set_option maxHeartbeats 2000000 in
theorem ReplyWrites_bad {w : World} (r : Rp) (ho : r.ok) (hs : rpSound r = false) {A : Option Addr} {n c : Nat} (hf : Kd.C (Kd.int .u64) w A n r.fired) (hc : n ≤ c) (hn : n ≤ 200)
    {A2 : Option Addr} {n2 c2 : Nat} (hn2 : n2 ≤ 1000) :
    Calls Try.prog 18 #[r.val A n c, .slice A2 n2 c2] w fun e w' => e = .returned (.bool true) ∧ Below w.heap.size w w' := by
  have hnl : r.fired.length = n := hf.1
  have b2 : decide (1000 < (n2 : Int)) = false := decide_eq_false (by omega)
  have D0 := Lib.hid ((Below.refl w.heap.size w).alloc (Nat.le_refl _) (bx r A n c))
  have K0 : Hid ((w.alloc (bx r A n c)).heap[w.heap.size]? = some (bx r A n c)) := heap_alloc_new w _
  have HLi := rpLight_calls (r := r) (w := w.alloc (bx r A n c)) (Kd.C_below hf D0.out) hc
  rw [decide_eq_true (show n ≤ 200 by omega)] at HLi
  have HL := Lib.hid HLi
  have HBy := Lib.hid (fun W => rbytes_no W r ho hs A n c hnl (by omega))
  have HRS := Lib.hid (fun W => rrpS_calls W r ho A n c hnl (by omega))
  have HS := Lib.hid hs
  clear HLi ho hs hf
  simp only [Rp.val, bx] at HL HBy HRS D0 K0
  simp only [Rp.val]
  go_enter Try.func18, Try.ntmps18
  go_wp2_with fail
  with_reducible refine HL.out.mono ?_
  rintro e w1 ⟨rfl, hb⟩
  have D1 := Lib.hid (D0.out.trans (hb.mono D0.out.size))
  have K1 := Lib.hid (blk_below K0.out hb)
  have x0 := blk_cell K1.out 0
  have x1 := blk_cell K1.out 1
  have x2 := blk_cell K1.out 2
  have x3 := blk_cell K1.out 3
  have x4 := blk_cell K1.out 4
  have x5 := blk_cell K1.out 5
  have x6 := blk_cell K1.out 6
  have x7 := blk_cell K1.out 7
  have x8 := blk_cell K1.out 8
  have x9 := blk_cell K1.out 9
  have x10 := blk_cell K1.out 10
  have x11 := blk_cell K1.out 11
  have x12 := blk_cell K1.out 12
  have x13 := blk_cell K1.out 13
  clear hb HL D0 K0
  go_wp2_with fail
  with_reducible refine (HBy.out _).mono ?_
  rintro e w2 ⟨rfl, hb⟩
  have D2 := Lib.hid (D1.out.trans (hb.mono D1.out.size))
  have K2 := Lib.hid (blk_below K1.out hb)
  clear hb HBy D1 K1 x0 x1 x2 x3 x4 x5 x6 x7 x8 x9 x10 x11 x12 x13
  have x0 := blk_cell K2.out 0
  have x1 := blk_cell K2.out 1
  have x2 := blk_cell K2.out 2
  have x3 := blk_cell K2.out 3
  have x4 := blk_cell K2.out 4
  have x5 := blk_cell K2.out 5
  have x6 := blk_cell K2.out 6
  have x7 := blk_cell K2.out 7
  have x8 := blk_cell K2.out 8
  have x9 := blk_cell K2.out 9
  have x10 := blk_cell K2.out 10
  have x11 := blk_cell K2.out 11
  have x12 := blk_cell K2.out 12
  have x13 := blk_cell K2.out 13
  go_wp2_with fail
  with_reducible refine (HRS.out _).mono ?_
  rintro e w3 ⟨rfl, hb⟩
  rw [HS.out]
  have D3 := Lib.hid (D2.out.trans (hb.mono D2.out.size))
  clear hb
  go_wp2_with fail
  with_reducible refine (lives19_calls _).mono ?_
  rintro e w6 ⟨rfl, hb⟩
  have B6 := Lib.hid (D3.out.trans (hb.mono D3.out.size)); clear hb
  go_wp2
  go_ret
  exact ⟨rfl, B6.out⟩

set_option maxRecDepth 100000 in
set_option maxHeartbeats 2000000 in
theorem ReplyWrites_long {w : World} (r : Rp) {A : Option Addr} {n c : Nat} (hf : Kd.C (Kd.int .u64) w A n r.fired) (hc : n ≤ c)
    {A2 : Option Addr} {n2 c2 : Nat} (hn : 200 < n ∨ 1000 < n2) :
    Calls Try.prog 18 #[r.val A n c, .slice A2 n2 c2] w fun e w' => e = .returned (.bool true) ∧ Below w.heap.size w w' := by
  have D0 := Lib.hid ((Below.refl w.heap.size w).alloc (Nat.le_refl _) (bx r A n c))
  have HL := Lib.hid (rpLight_calls (r := r) (w := w.alloc (bx r A n c)) (Kd.C_below hf D0.out) hc)
  clear hf
  by_cases hl : n ≤ 200
  · have b2 : decide (1000 < (n2 : Int)) = true := decide_eq_true (by omega)
    rw [decide_eq_true hl] at HL
    simp only [Rp.val, bx] at HL D0
    simp only [Rp.val]
    go_enter Try.func18, Try.ntmps18
    go_wp2_with fail
    with_reducible refine HL.out.mono ?_
    rintro e w1 ⟨rfl, hb⟩
    have D1 := Lib.hid (D0.out.trans (hb.mono D0.out.size))
    clear hb
    go_wp2_with fail
    with_reducible refine (lives19_calls _).mono ?_
    rintro e w6 ⟨rfl, hb⟩
    have B6 := Lib.hid (D1.out.trans (hb.mono D1.out.size)); clear hb
    go_wp2
    go_ret
    exact ⟨rfl, B6.out⟩
  · rw [decide_eq_false hl] at HL
    simp only [Rp.val, bx] at HL D0
    simp only [Rp.val]
    go_enter Try.func18, Try.ntmps18
    go_wp2_with fail
    with_reducible refine HL.out.mono ?_
    rintro e w1 ⟨rfl, hb⟩
    have D1 := Lib.hid (D0.out.trans (hb.mono D0.out.size))
    clear hb
    go_wp2_with fail
    with_reducible refine (lives19_calls _).mono ?_
    rintro e w6 ⟨rfl, hb⟩
    have B6 := Lib.hid (D1.out.trans (hb.mono D1.out.size)); clear hb
    go_wp2
    go_ret
    exact ⟨rfl, B6.out⟩

section
variable {H : Type} {enc : TypeId × Value → H} {w : World} {base : Nat} {held : Bool}
set_option maxRecDepth 100000 in
/-- A reply by value, opened into one. -/
theorem rp_open1 {r : Reach} {b0 : Nat} {v : Value} {d : DataW H} {p : List MemPlace} (hv : Value.okWide Try.prog w r b0 66 v) (h : DataW.Trod enc Try.prog w base (fun _ => true) held 66 v d p) :
    ∃ x : Rp × Option Addr × Nat × Nat, v = x.1.val x.2.1 x.2.2.1 x.2.2.2 ∧ (x.1.ok ∧ x.2.2.1 ≤ x.2.2.2 ∧ Kd.C (Kd.int .u64) w x.2.1 x.2.2.1 x.1.fired) := by
  obtain ⟨r, A, n, c, e, h1, h2, h3⟩ := rp_open hv h
  exact ⟨(r, A, n, c), e, h1, h2, h3⟩
end
theorem ReplyWrites_walk {w : World} {x : Rp × Option Addr × Nat × Nat} (h : x.1.ok ∧ x.2.2.1 ≤ x.2.2.2 ∧ Kd.C (Kd.int .u64) w x.2.1 x.2.2.1 x.1.fired)
    {A : Option Addr} {n c : Nat} {xs : List Int} (hr : Kd.C (Kd.int .u8) w A n xs) (hc : n ≤ c) (hy : n * 1 ≤ 140737488351232) (hw : ∀ x ∈ xs, (Lit.int .u8 x).wf = true) :
    Calls Try.prog 18 #[x.1.val x.2.1 x.2.2.1 x.2.2.2, .slice A n c] w fun e w' => e = .returned (.bool true) ∧ Below w.heap.size w w' := by
  by_cases hb : 200 < x.2.2.1 ∨ 1000 < n
  · exact ReplyWrites_long x.1 h.2.2 h.2.1 hb
  · rw [not_or] at hb
    cases hs : rpSound x.1
    · exact ReplyWrites_bad x.1 h.1 hs h.2.2 h.2.1 (by omega) (by omega)
    · exact ReplyWrites_sound x.1 h.1 hs h.2.2 h.2.1 hr hc (by omega) (byt_of_wf hw)

end Go.Proofs.Ytabdjehnglmlpaa
end
