/- curfewlaw01.lives: the chapter's example. -/
import Derived.Test.YtabdjehnglmlpaaQj
namespace Go.Proofs.Ytabdjehnglmlpaa
open Go.RowKit Go.Proofs.YtabdjehnglmlpaaW.PrintWords
set_option linter.unusedVariables false
set_option linter.unusedSimpArgs false

theorem Wtr.new (w : World) {B : Nat} (hB : B ≤ w.heap.size) : Wtr B (w.alloc (.cells #[.slice none 0 0] 30)) w.heap.size (.slice none 0 0) [] :=
  ⟨by simpa using heap_alloc_new w _, hB, World.ownsRow_nil _ _ _ _⟩
theorem WS.nil_below {B g : Nat} {w w' : World} (h : Mod (WS g (.slice none 0 0)) w w') (hB : B ≤ w.heap.size) (hg : B ≤ g) : Below B w w' :=
  h.below hB (fun i hi => by
    rintro (e | e)
    · omega
    · simp [Value.ownBlock] at e)
/-- Whatever a writer's call turns lies from its base on. -/
theorem WStep.base {B : Nat} {w w' : World} {g : Nat} {v v' : Value} {xs ys : List Int} (h : Wtr B w g v xs) (k : WStep B w w' g v v' ys) : Below B w w' :=
  k.2.1.below h.cells.2.2.2 (fun i hi => by
    rintro (e | e)
    · have := h.2.1; omega
    · have := (h.2.2.lt _ e).1; omega)

set_option maxRecDepth 100000 in
set_option maxHeartbeats 400000 in
theorem lives01_calls (w : World) : Calls Try.prog 20 #[] w fun e w' => e = .returned (.bool true) ∧ Below w.heap.size w w' := by
  have HW := Lib.hid (Wtr.new w (Nat.le_refl _))
  have HB := Lib.hid ((Below.refl w.heap.size w).alloc (Nat.le_refl _) (.cells #[.slice none 0 0] 30))
  go_enter Try.func20, Try.ntmps20
  go_wp2_with (first
    | (go_at_call 24; (with_reducible refine (WNum_lit [300] #[.int .u64 300] 1 _ HW.out (by simp) rfl rfl (U64.one (by decide) (by decide)) (by decide)).mono ?_); rintro e w1 ⟨rfl, v1, hs⟩; have HS1 := Lib.hid hs; clear hs)
    | (go_at_call 25; (with_reducible refine (WInt_lit [-300] #[.int .i64 (-300)] 1 _ HS1.out.w (by simp) rfl rfl (I64.one (by decide) (by decide)) (by decide)).mono ?_); rintro e w2 ⟨rfl, v2, hs⟩; have HS2 : Hid (WStep w.heap.size _ w2 w.heap.size _ v2 [2, 1, 44, 130, 1, 43]) := WStep.trans HS1.out hs; clear hs)
    | (go_at_call 21; (with_reducible refine (Open_here (lit_any w2 .u8 5 [2, 1, 44] #[.int .u8 2, .int .u8 1, .int .u8 44] 3 _ rfl rfl rfl (by decide)) (Nat.le_refl _) (World.size_alloc _ _)).mono ?_); rintro e w3 ⟨rfl, w0, hw0, hb0, hr, hb⟩; have HR := Lib.hid hr; have HB3 := Lib.hid hb0; have HW3 := Lib.hid ((HS2.out.alloc (.cells #[.int .u8 2, .int .u8 1, .int .u8 44] 5)).below hb); have HW0 := Lib.hid hw0; clear hr hb hb0 hw0)
    | (go_at_call 27; (with_reducible refine (WBytes_calls HW3.out.w (by decide)).mono ?_); rintro e w4 ⟨v4, rfl, hv, hb⟩; obtain ⟨A4, n4, c4, rfl, hc4, hC4⟩ := hv.any; have hcv : (convert 22 9 (.slice A4 n4 c4)).run Try.prog w4 = .ok (.string ⟨#[2, 1, 44, 130, 1, 43]⟩) w4 := conv_str (c := c4) hC4; have HB4 := Lib.hid hb; have HR4 := Lib.hid (HR.out.keep (Mod.of_below (S := fun _ => False) hb) (fun h => h)); clear hv hC4 hb)
    | (go_at_call 22; (with_reducible refine (Num_calls (most := 300) (HB3.out.trans (HB4.out.mono HB3.out.size)) HR4.out (Byt.cons (by decide) (by decide) (Byt.cons (by decide) (by decide) (Byt.cons (by decide) (by decide) Byt.nil)))).mono ?_); rintro e w5 ⟨hm, rfl, hr⟩; have HM5 := Lib.hid hm; have HR5 := Lib.hid hr; clear hm hr)
    | (go_at_call 81; (with_reducible refine (End_calls HR5.out).mono ?_); rintro e w6 ⟨rfl, rfl⟩))
  go_ret
  have s1 : w.heap.size + 1 ≤ w2.heap.size := by have := HS2.out.mod.size; simpa using this
  have k1 := HB.out.trans (WStep.base HW.out HW3.out)
  have k2 := k1.trans (HB4.out.mono (Nat.le_trans (by omega) k1.size))
  exact ⟨rfl, k2.trans (HM5.out.below k2.size (fun i hi e => by omega))⟩

end Go.Proofs.Ytabdjehnglmlpaa
