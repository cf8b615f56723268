/- outbox: a box; where a notice lies; Get. -/
import Derived.Test.YtabdjehnglmlpaaOi
namespace Go.Proofs.Ytabdjehnglmlpaa
open Go.RowKit Go.Proofs.YtabdjehnglmlpaaW.PrintWords
open PO (S45 z45 k45 rd_T45)
set_option linter.unusedVariables false
set_option linter.unusedSimpArgs false

/-- A box at block g, its row's value v, its state s. -/
structure Bx (B : Nat) (W : World) (g : Nat) (v : Value) (s : Bs) : Prop where
  blk : W.heap[g]? = some (.cells #[.bool true, .int .u64 s.1, v] 133 (0, 0))
  ge : B ≤ g
  row : Semi W B v s.2
  snd : Snd s
  nn : 0 ≤ s.1
/-- What a call on a box comes to. -/
structure BStep (B : Nat) (w w' : World) (g : Nat) (v v' : Value) (s' : Bs) : Prop where
  bx : Bx B w' g v' s'
  mod : Mod (WS g v) w w'
  fresh : WFresh w v v'
theorem Bx.lt {B : Nat} {W : World} {g : Nat} {v : Value} {s : Bs} (h : Bx B W g v s) : g < W.heap.size := blk_lt h.blk
theorem Semi.ne {B : Nat} {W : World} {g t : Nat} {v : Value} {l : List No} {cs : Array Value} (h : Semi W B v l) (hb : W.heap[g]? = some (.cells cs t (0, 0))) (ht : (45 : Nat) ≠ t) : some g ≠ v.ownBlock := by
  rcases h with ⟨rfl, -⟩ | ⟨g', cap, cur, rfl, h2, h3, r⟩
  · simp [Value.ownBlock]
  · intro e
    injection e with e
    obtain rfl : g = g' := e
    rw [hb] at h3
    injection h3 with h3
    injection h3 with _ h3
    exact ht h3.symm
theorem Bx.ne {B : Nat} {W : World} {g : Nat} {v : Value} {s : Bs} (h : Bx B W g v s) : some g ≠ v.ownBlock := h.row.ne h.blk (by decide)
theorem Bx.below {B : Nat} {W W' : World} {g : Nat} {v : Value} {s : Bs} (h : Bx B W g v s) (hb : Below W.heap.size W W') : Bx B W' g v s :=
  ⟨blk_below h.blk hb, h.ge, h.row.move (fun k hk => hb.block k (h.row.base_lt k hk).2), h.snd, h.nn⟩
theorem Bx.drew {B : Nat} {W : World} {g : Nat} {v : Value} {s : Bs} (h : Bx B W g v s) : Bx B W.drew g v s := h.below (Below.refl _ _).drew
theorem Bx.keep {B : Nat} {W W' : World} {g : Nat} {v : Value} {s : Bs} {S : Nat → Prop} (h : Bx B W g v s) (hm : Mod S W W') (hg : ¬ S g) (hv : ∀ k, v.ownBlock = some k → ¬ S k) : Bx B W' g v s :=
  ⟨hm.blk h.blk hg, h.ge, h.row.move (fun k hk => hm.block k (h.row.base_lt k hk).2 (hv k hk)), h.snd, h.nn⟩
theorem Bx.cell {B : Nat} {W : World} {g : Nat} {v : Value} {s : Bs} (h : Bx B W g v s) (i : Nat) : W.cell? ⟨g, i, none⟩ = (#[.bool true, .int .u64 s.1, v] : Array Value)[i]? := blk_cell h.blk i
theorem Bx.free {B : Nat} {W : World} {g : Nat} {v : Value} {s : Bs} (h : Bx B W g v s) (i : Nat) : W.frozen? ⟨g, i, none⟩ = false := blk_frozen h.blk i
theorem BStep.refl {B : Nat} {w : World} {g : Nat} {v : Value} {s : Bs} (h : Bx B w g v s) : BStep B w w g v v s := ⟨h, Mod.refl _ _, WFresh.refl _ _⟩
theorem BStep.of_below {B : Nat} {w w' : World} {g : Nat} {v : Value} {s : Bs} (h : Bx B w g v s) (hb : Below w.heap.size w w') : BStep B w w' g v v s := ⟨h.below hb, Mod.of_below hb, WFresh.refl _ _⟩
theorem BStep.trans {B : Nat} {w w1 w2 : World} {g : Nat} {v v1 v2 : Value} {s t : Bs} (h : BStep B w w1 g v v1 s) (k : BStep B w1 w2 g v1 v2 t) : BStep B w w2 g v v2 t := by
  refine ⟨k.bx, h.mod.trans k.mod ?_, h.fresh.trans k.fresh h.mod.size⟩
  rintro i hi (rfl | e)
  · exact .inl rfl
  · rcases h.fresh with h2 | ⟨b, h2, hb⟩
    · exact .inr (h2.symm.trans e)
    · rw [h2] at e; injection e with e; omega
theorem BStep.below {B : Nat} {w w1 w2 : World} {g : Nat} {v v1 : Value} {s : Bs} (h : BStep B w w1 g v v1 s) (hb : Below w1.heap.size w1 w2) : BStep B w w2 g v v1 s := h.trans (BStep.of_below h.bx hb)
/-- What is elder than the box stays. -/
theorem BStep.base {B : Nat} {w w1 : World} {g : Nat} {v v1 : Value} {s t : Bs} (h : Bx B w g v s) (k : BStep B w w1 g v v1 t) : Below B w w1 :=
  k.mod.below (by have := h.ge; have := h.lt; omega) (fun i hi e => by
    rcases e with e | e
    · have := h.ge; omega
    · have := (h.row.base_lt i e).1; omega)

theorem none_box {w : World} {g : Nat} {b : Bool} (h : w.cell? ⟨g, 0, none⟩ = some (.bool b)) :
    Calls Try.prog 110 #[.pointer (some ⟨g, 0, none⟩)] w fun e w' => e = .returned (.bool (!b)) ∧ w' = w := by
  go_enter Try.func110, Try.ntmps110
  go_wp2
  go_ret
  exact ⟨rfl, rfl⟩
theorem none_nil (w : World) : Calls Try.prog 110 #[.pointer none] w fun e w' => e = .returned (.bool true) ∧ w' = w := by
  go_enter Try.func110, Try.ntmps110
  go_wp2
  go_ret
  exact ⟨rfl, rfl⟩
theorem none_bx {B : Nat} {w : World} {g : Nat} {v : Value} {s : Bs} (h : Bx B w g v s) : Calls Try.prog 110 #[.pointer (some ⟨g, 0, none⟩)] w fun e w' => e = .returned (.bool false) ∧ w' = w :=
  none_box (b := true) (h.cell 0)

/-- The closure of at. -/
theorem at158_calls {w : World} {ad : Addr} {id : Int} (n : No) (h : w.cell? ad = some (.int .u64 id)) :
    Calls Try.prog 158 #[No.val n, .pointer (some ad)] w fun e w' => e = .returned (.bool (isId id n)) ∧ Below w.heap.size w w' := by
  have hlt := World.block_lt_of_cell? w _ h
  have hne : w.heap.size ≠ ad.block := by omega
  have HB : Hid (Below w.heap.size w (w.alloc (.cells (No.cells n) 45))) := (Below.refl _ w).alloc (Nat.le_refl _) _
  have h1 : (w.alloc (.cells (No.cells n) 45)).cell? ad = some (.int .u64 id) := (HB.out.cell hlt).trans h
  simp only [No.cells] at HB h1
  simp only [No.val]
  clear h
  go_enter Try.func158, Try.ntmps158
  go_wp2
  go_ret
  exact ⟨rfl, HB.out⟩
theorem at158_tells {w : World} {ad : Addr} {id : Int} (h : w.cell? ad = some (.int .u64 id)) : Tells w 158 #[.pointer (some ad)] (isId id) := by
  refine ⟨fun args W => ?_, fun W x hb => at158_calls x ((hb.cell (World.block_lt_of_cell? w _ h)).trans h)⟩
  go_simp
  try rfl
end Go.Proofs.Ytabdjehnglmlpaa
