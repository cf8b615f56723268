/- QuillNobody: the walk. -/
import Derived.Test.YtabdjehnglmlpaaTd
import Derived.Deep.RegionWith
namespace Go.Proofs.Ytabdjehnglmlpaa
open Go.RowKit Go.Proofs.YtabdjehnglmlpaaW.PrintWords
set_option linter.unusedVariables false
set_option linter.unusedSimpArgs false
open PM (S97 k97)

theorem Rdr.plain (w : World) : Rdr w (w.alloc (.cells #[.slice none 0 0, .bool false] 118)) w.heap.size [] false :=
  ⟨none, 0, heap_alloc_new w _, Nat.le_refl _, Nat.le_refl _, nil_reads⟩

theorem Open_nil (w : World) : Calls Try.prog 21 #[.slice none 0 0] w fun e w' => e = .returned (.pointer (some ⟨w.heap.size, 0, none⟩)) ∧ Rdr w w' w.heap.size [] false ∧ Below w.heap.size w w' :=
  Open_any (n := 0) (c := 0) (Below.refl _ _) (nil_reads (d := Kd.int .u8)) (Nat.le_refl 0)

set_option maxRecDepth 100000 in
set_option maxHeartbeats 4000000 in
theorem QuillNobody_walk {w : World} {x : S97} (hxs : Item.okP x ∧ x.f4.size ≤ 9223372036854775807) (most : Int) (hm : (Lit.int .u64 most).wf = true) (n : Int) (hn : (Lit.int .i64 n).wf = true) :
    Calls Try.prog 14 #[.agg #[.int .i64 x.f0, .int .u64 x.f1, .int .i64 x.f2, .bool x.f3, .string x.f4], .int .u64 most, .int .i64 n] w fun e w' => e = .returned (.bool true) ∧ Below w.heap.size w w' := by
  obtain ⟨hx, hz⟩ := hxs
  have hn1 : n ≤ 9223372036854775807 := (wf_i64' hn).2
  have hm1 := wf_u64' hm
  have ho := Lib.hid hx.ok
  have D1 := Lib.hid ((Below.refl w.heap.size w).alloc (Nat.le_refl _) (.cells #[.int .i64 x.f0, .int .u64 x.f1, .int .i64 x.f2, .bool x.f3, .string x.f4] 97))
  clear hx hm hn
  by_cases hs : 1000 < x.f4.size
  · go_enter Try.func14, Try.ntmps14
    go_wp2_with (go_at_call 20; (with_reducible refine (lives01_calls _).mono ?_); rintro e w9 ⟨rfl, hb⟩; have B9 := Lib.hid hb; clear hb)
    go_ret
    exact ⟨rfl, D1.out.trans (B9.out.mono (by simp))⟩
  · have hs' : x.f4.size ≤ 1000 := by omega
    have HWN := Lib.hid (fun W => write_nil (w := W) ho.out hs')
    clear ho hs'
    go_enter Try.func14, Try.ntmps14
    go_wp2_with fail
    with_reducible refine (HWN.out _).mono ?_
    rintro e w1 ⟨⟨A, m, c, rfl⟩, hb⟩
    have D2 := Lib.hid (D1.out.trans (hb.mono (by simp)))
    have R2 := Lib.hid (Rdr.plain w1)
    have B2 := Lib.hid ((Below.refl w1.heap.size w1).alloc (Nat.le_refl _) (.cells #[.slice none 0 0, .bool false] 118))
    clear hb HWN
    have E2 := Lib.hid (show Calls Try.prog 81 #[.pointer (some ⟨w1.heap.size, 0, none⟩)] (w1.alloc (.cells #[.slice none 0 0, .bool false] 118)) fun e w' => e = .returned (.int .i64 0) ∧ w' = w1.alloc (.cells #[.slice none 0 0, .bool false] 118) from End_calls R2.out)
    have N2 := Lib.hid (show Calls Try.prog 22 #[.pointer (some ⟨w1.heap.size, 0, none⟩), .int .u64 most] (w1.alloc (.cells #[.slice none 0 0, .bool false] 118)) (RdPost w1 (w1.alloc (.cells #[.slice none 0 0, .bool false] 118)) w1.heap.size (.int .u64 0) ([], true)) from Num_calls B2.out R2.out Byt.nil)
    clear R2
    go_wp2_with (first
      | (go_at_call 77; (with_reducible refine (WLen_nil _).mono ?_); rintro e w' ⟨rfl, rfl⟩)
      | (go_at_call 27; (with_reducible refine (WBytes_nil _).mono ?_); rintro e w' ⟨rfl, rfl⟩)
      | (go_at_call_of 22 (Value.pointer none); (with_reducible refine (Num_nil _ _).mono ?_); rintro e w' ⟨rfl, rfl⟩)
      | (go_at_call 23; (with_reducible refine (Int_nil _).mono ?_); rintro e w' ⟨rfl, rfl⟩)
      | (go_at_call 85; (with_reducible refine (Flag_nil _).mono ?_); rintro e w' ⟨rfl, rfl⟩)
      | (go_at_call 86; (with_reducible refine (Text_nil _ _ hn1).mono ?_); rintro e w' ⟨rfl, rfl⟩)
      | (go_at_call 87; (with_reducible refine (Raw_nil _ _).mono ?_); rintro e w' ⟨rfl, rfl⟩)
      | (go_at_call_of 26 (Value.pointer none); (with_reducible refine (Bad_nil _).mono ?_); rintro e w' ⟨rfl, rfl⟩)
      | (go_at_call 28; (with_reducible refine (Left_nil _).mono ?_); rintro e w' ⟨rfl, rfl⟩)
      | (go_at_call_of 81 (Value.pointer none); (with_reducible refine (End_nil _).mono ?_); rintro e w' ⟨rfl, rfl⟩))
    go_wp2_with fail
    with_reducible refine E2.out.mono ?_
    rintro e w2 ⟨rfl, rfl⟩
    go_wp2_with fail
    with_reducible refine N2.out.mono ?_
    rintro e w3 ⟨hm3, rfl, hr3⟩
    have B3 := Lib.hid (B2.out.trans (hm3.below B2.out.size (fun i hi e => by omega)))
    have R3 := Lib.hid hr3
    clear hm3 hr3
    go_wp2_with fail
    with_reducible refine (Bad_calls R3.out).mono ?_
    rintro e w4 ⟨rfl, rfl⟩
    go_wp2_with fail
    with_reducible refine (Open_nil _).mono ?_
    rintro e w5 ⟨rfl, hr5, hb⟩
    have B5 := Lib.hid (B3.out.trans (hb.mono B3.out.size))
    have E5 := Lib.hid (show Calls Try.prog 81 #[.pointer (some ⟨w4.heap.size, 0, none⟩)] w5 fun e w' => e = .returned (.int .i64 0) ∧ w' = w5 from End_calls hr5)
    clear hr5 hb
    go_wp2_with fail
    with_reducible refine E5.out.mono ?_
    rintro e w6 ⟨rfl, rfl⟩
    go_wp2_with fail
    with_reducible refine (lives01_calls _).mono ?_
    rintro e w7 ⟨rfl, hb⟩
    have B7 := Lib.hid (B5.out.trans (hb.mono B5.out.size))
    clear hb
    go_wp2
    go_ret
    exact ⟨rfl, D2.out.trans (B7.out.mono D2.out.size)⟩

set_option maxRecDepth 100000 in
/-- An item by value, opened. -/
theorem item_open {H : Type} {enc : TypeId × Value → H} {w : World} {base : Nat} {spare : Nat → Bool} {held : Bool} {r : Reach} {b0 : Nat} {v : Value} {d : DataW H} {p : List MemPlace}
    (hv : Value.okWide Try.prog w r b0 97 v) (h : DataW.Trod enc Try.prog w base spare held 97 v d p) :
    ∃ x : S97, v = .agg #[.int .i64 x.f0, .int .u64 x.f1, .int .i64 x.f2, .bool x.f3, .string x.f4] ∧ Item.okP x ∧ x.f4.size ≤ 9223372036854775807 := by
  obtain ⟨cs, rfl, hsz⟩ := Go.WideShapes.okWide_struct Try.underlying97 hv
  obtain ⟨l⟩ := cs
  match l, hsz.trans cellsOf97 with
  | [v0, v1, v2, v3, v4], _ =>
    obtain ⟨fuel, hf⟩ := h
    obtain ⟨xs, k, hk, hxy, _, hxl, hg⟩ := DataW.trod_struct Try.underlying97 hf
    match xs, hxl with
    | [y0, y1, y2, y3, y4], _ =>
      have g0 := hg 0 _ rfl
      have g1 := hg 1 _ rfl
      have g2 := hg 2 _ rfl
      have g3 := hg 3 _ rfl
      have g4 := hg 4 _ rfl
      have c3 : Try.prog.cellsOf 3 = 1 := by kernel_rfl
      have c26 : Try.prog.cellsOf 26 = 1 := by kernel_rfl
      have c2 : Try.prog.cellsOf 2 = 1 := by kernel_rfl
      have c4 : Try.prog.cellsOf 4 = 1 := by kernel_rfl
      have c9 : Try.prog.cellsOf 9 = 1 := by kernel_rfl
      simp [c3, c26, c2, c4, c9, Value.cells] at g0 g1 g2 g3 g4
      obtain ⟨n0, e0, -, w0⟩ := DataW.trod_int Try.underlying3 g0
      obtain ⟨n1, e1, -, w1⟩ := DataW.trod_int Try.underlying26 g1
      obtain ⟨n2, e2, -, w2⟩ := DataW.trod_int Try.underlying2 g2
      obtain ⟨n3, e3, -⟩ := DataW.trod_bool Try.underlying4 g3
      obtain ⟨n4, e4, -, w4⟩ := DataW.trod_string Try.underlying9 g4
      simp only [List.cons.injEq, and_true] at e0 e1 e2 e3 e4
      subst e0 e1 e2 e3 e4
      exact ⟨⟨n0, n1, n2, n3, n4⟩, rfl, ⟨w0, w1, w2⟩, w4⟩

end Go.Proofs.Ytabdjehnglmlpaa
