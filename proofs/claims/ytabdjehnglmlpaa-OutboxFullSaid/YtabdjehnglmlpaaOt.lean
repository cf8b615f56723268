/- outbox: Put, where room is made and what is left at the end. -/
import Derived.Test.YtabdjehnglmlpaaOs
import Derived.Test.YtabdjehnglmlpaaOo
namespace Go.Proofs.Ytabdjehnglmlpaa
open Go.RowKit Go.Proofs.YtabdjehnglmlpaaW.PrintWords
open PO (S45 z45 k45 rd_T45)
set_option linter.unusedVariables false
set_option linter.unusedSimpArgs false

section
variable {P : Program} {md : Region.Mode} {ops : Array Oper} {Q : Exit → Act → World → Prop} {S : World → Prop} {fuel : Nat} {listed : Array Bool} {a : Act} {w : World}
/-- Two operations come up. -/
theorem wpAnyH_two {k j : Nat} {o o' : Oper} (hr : Region.ready md ops listed = [k, j]) (ho : ops[k]? = some o) (ho' : ops[j]? = some o')
    (h : ∀ K : Act → World → Prop, (∀ a w, (S w ∧ wpAnyH P md ops Q S fuel (listed.setIfInBounds k true) a w) → K a w) → if Region.wanted o (yielded ops a.tmps) = true then Oper.wp P o a w K Q else K (a.put o.dst undef) w)
    (h' : ∀ K : Act → World → Prop, (∀ a w, (S w ∧ wpAnyH P md ops Q S fuel (listed.setIfInBounds j true) a w) → K a w) → if Region.wanted o' (yielded ops a.tmps) = true then Oper.wp P o' a w K Q else K (a.put o'.dst undef) w) :
    wpAnyH P md ops Q S (fuel + 1) listed a w := by
  refine wpAnyH_all hr (by simp) (fun i hi => ?_)
  rw [List.mem_cons, List.mem_singleton] at hi
  rcases hi with rfl | rfl
  · exact wpOp_step ho (fun K' hK => h K' (fun a w hh => hK a w hh))
  · exact wpOp_step ho' (fun K' hK => h' K' (fun a w hh => hK a w hh))
end
theorem Mod.young {S : Nat → Prop} {a w : World} (h : Mod S a w) {p : Addr} (hp : a.heap.size ≤ p.block) (u : Value) : Mod S a (w.setCell p u) :=
  ⟨h.os, h.tape, h.output, by simpa [World.setCell] using h.size, fun i hi hn => (Below.heap_setCell w p u i (by omega)).trans (h.block i hi hn)⟩
theorem Snd.roomed {s : Bs} (h : Snd s) : Snd (s.1, roomed s.2) :=
  ⟨h.top, Nat.le_trans (roomed_sub s.2).length_le h.few, fun n hn => h.each n ((roomed_sub s.2).subset hn), h.up.sublist (roomed_sub s.2)⟩
section
variable {B : Nat} {w wx w5 : World} {g bn : Nat} {v v1 v2 : Value} {t : Int} {l : List No} {m : No}
/-- The world behind 'b.last++' and what is stored into the notice's box. -/
def put2 (wx : World) (g bn : Nat) (t now : Int) : World := ((((wx.setCell ⟨g, 1, none⟩ (.int .u64 (t + 1))).setCell ⟨bn, 0, none⟩ (.int .u64 (t + 1))).setCell ⟨bn, 4, none⟩ (.int .i64 1)).setCell ⟨bn, 5, none⟩ (.int .i64 0)).setCell ⟨bn, 8, none⟩ (.int .i64 now)
theorem put2_blk {now : Int} (h : wx.heap[g]? = some (.cells #[.bool true, .int .u64 t, v1] 133 (0, 0))) (hb : g ≠ bn) : (put2 wx g bn t now).heap[g]? = some (.cells #[.bool true, .int .u64 (t + 1), v1] 133 (0, 0)) := by
  unfold put2
  refine blk_far (blk_far (blk_far (blk_far ?_ hb _) hb _) hb _) hb _
  simpa using blk_set h 1 (.int .u64 (t + 1))
theorem put2_box {now : Int} {n : No} (h : wx.heap[bn]? = some (.cells (No.cells n) 45 (0, 0))) (hb : g ≠ bn) : (put2 wx g bn t now).heap[bn]? = some (.cells (No.cells (asNew n (t + 1) now)) 45 (0, 0)) := by
  unfold put2
  have h1 := blk_far h (p := ⟨g, 1, none⟩) (fun e => hb e.symm) (.int .u64 (t + 1))
  have h2 := blk_set (blk_set (blk_set (blk_set h1 0 (.int .u64 (t + 1))) 4 (.int .i64 1)) 5 (.int .i64 0)) 8 (.int .i64 now)
  simpa [No.cells, asNew] using h2
theorem put2_row {now : Int} (h : Semi wx B v1 l) (hg : v1.ownBlock ≠ some g) (hb : v1.ownBlock ≠ some bn) : Semi (put2 wx g bn t now) B v1 l := by
  refine h.move (fun k hk => ?_)
  have h1 : k ≠ g := fun e => hg (by rw [hk, e])
  have h2 : k ≠ bn := fun e => hb (by rw [hk, e])
  unfold put2
  rw [Below.heap_setCell _ _ _ _ h2, Below.heap_setCell _ _ _ _ h2, Below.heap_setCell _ _ _ _ h2, Below.heap_setCell _ _ _ _ h2, Below.heap_setCell _ _ _ _ h1]
theorem put_final {now : Int} (BS : BStep B w wx g v v1 (t, l)) (hgw : g < w.heap.size) (hbn : w.heap.size ≤ bn) (hgrow : (put2 wx g bn t now).drew.grownBy w5 v1.ownBlock) (hsemi : Semi w5 B v2 (l ++ [m]))
    (hat : v2.ownBlock = v1.ownBlock ∨ ∃ b, v2.ownBlock = some b ∧ (put2 wx g bn t now).drew.heap.size ≤ b) (hsnd : Snd (t + 1, l ++ [m])) : BStep B w (w5.setCell ⟨g, 2, none⟩ v2) g v v2 (t + 1, l ++ [m]) := by
  have hb : g ≠ bn := by omega
  have m1 : Mod (WS g v) w (put2 wx g bn t now).drew := by
    unfold put2
    exact (((((Mod.setCell BS.mod (p := ⟨g, 1, none⟩) (.inl rfl) _).young (p := ⟨bn, 0, none⟩) hbn _).young (p := ⟨bn, 4, none⟩) hbn _).young (p := ⟨bn, 5, none⟩) hbn _).young (p := ⟨bn, 8, none⟩) hbn _).drew
  have m2 : Mod (WS g v) w w5 := Mod.grown m1 hgrow (fun k hk hlt => by
    rcases BS.fresh with h | ⟨b, h, hbb⟩
    · exact .inr (h.symm.trans hk)
    · rw [h] at hk; injection hk with hk; omega)
  have hblk : w5.heap[g]? = some (.cells #[.bool true, .int .u64 (t + 1), v1] 133 (0, 0)) := blk_grown (blk_drew (put2_blk BS.bx.blk hb)) hgrow BS.bx.ne
  have hne := hsemi.ne hblk (by decide)
  refine ⟨⟨by simpa using blk_set hblk 2 v2, BS.bx.ge, hsemi.move (fun k hk => Below.heap_setCell w5 _ _ k (fun e => hne (by rw [hk, e]))), hsnd, by have := BS.bx.nn; show 0 ≤ t + 1; simp only at this; omega⟩, Mod.setCell m2 (.inl rfl) _, ?_⟩
  rcases hat with h | ⟨b, h, hbb⟩
  · rcases BS.fresh with h2 | ⟨b, h2, hbb⟩
    · exact .inl (h.trans h2)
    · exact .inr ⟨b, h.trans h2, hbb⟩
  · exact .inr ⟨b, h, by have := m1.size; omega⟩
/-- Room has been made. -/
theorem cut_final {cap kk i : Nat} (HB : Bx B w g (.slice (some ⟨kk, 0, none⟩) l.length cap) (t, l)) (D : Below w.heap.size w wx) (hb : Below wx.heap.size wx w5) (hsemi : Semi w5 B v1 (l.eraseIdx i))
    (hat : v1.ownBlock = some kk ∨ ∃ b, v1.ownBlock = some b ∧ wx.heap.size ≤ b) (hsnd : Snd (t, l.eraseIdx i)) : BStep B w (w5.setCell ⟨g, 2, none⟩ v1) g (.slice (some ⟨kk, 0, none⟩) l.length cap) v1 (t, l.eraseIdx i) := by
  have D5 := D.trans (hb.mono D.size)
  have hblk := blk_below HB.blk D5
  have hne := hsemi.ne hblk (by decide)
  refine ⟨⟨by simpa using blk_set hblk 2 v1, HB.ge, hsemi.move (fun k hk => Below.heap_setCell w5 _ _ k (fun e => hne (by rw [hk, e]))), hsnd, HB.nn⟩, Mod.setCell (Mod.of_below D5) (.inl rfl) _, ?_⟩
  rcases hat with h | ⟨b, h, hbb⟩
  · exact .inl h
  · exact .inr ⟨b, h, by have := D.size; omega⟩
end
end Go.Proofs.Ytabdjehnglmlpaa
