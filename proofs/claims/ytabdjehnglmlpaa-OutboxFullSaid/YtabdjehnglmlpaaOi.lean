/- outbox: a box in memory, its notices' row. -/
import Derived.Test.YtabdjehnglmlpaaOh
import Derived.ArgAppend
namespace Go.Proofs.Ytabdjehnglmlpaa
open Go.RowKit Go.Proofs.YtabdjehnglmlpaaW.PrintWords
open PO (S45 z45 k45 rd_T45)
set_option linter.unusedVariables false
set_option linter.unusedSimpArgs false

/-- The cells of many notices. -/
def flat (l : List No) : List Value := l.flatMap fun n => (No.cells n).toList
theorem flat_cons (n : No) (l : List No) : flat (n :: l) = (No.cells n).toList ++ flat l := by simp [flat]
theorem flat_append (a b : List No) : flat (a ++ b) = flat a ++ flat b := by simp [flat]
theorem flat_one (n : No) : flat [n] = (No.cells n).toList := by simp [flat]
theorem cells_len (n : No) : (No.cells n).toList.length = 9 := rfl
theorem flat_len (l : List No) : (flat l).length = l.length * 9 := by
  induction l with
  | nil => rfl
  | cons n l ih => rw [flat_cons, List.length_append, ih, cells_len, List.length_cons]; omega
theorem rd_cons (n : No) (l : List No) (i : Nat) : rd_T45 (n :: l) ((i + 1 : Nat) : Int) = rd_T45 l (i : Int) := by
  unfold PO.rd_T45; rw [Int.toNat_natCast, Int.toNat_natCast]; simp
theorem flat_get (l : List No) : ∀ (i j : Nat), i < l.length → j < 9 → (flat l)[i * 9 + j]? = (No.cells (rd_T45 l i)).toList[j]? := by
  induction l with
  | nil => intro i j h; simp at h
  | cons n l ih =>
    intro i j hi hj
    rw [flat_cons]
    cases i with
    | zero => rw [List.getElem?_append_left (by rw [cells_len]; omega), show 0 * 9 + j = j by omega]; rfl
    | succ i =>
      rw [List.getElem?_append_right (by rw [cells_len]; omega), cells_len, show (i + 1) * 9 + j - 9 = i * 9 + j by omega, rd_cons]
      exact ih i j (by simpa using hi) hj
theorem flat_ext {l : List No} {xs : List Value} (hl : xs.length = l.length * 9) (h : ∀ a b, a < l.length → b < 9 → xs[a * 9 + b]? = (No.cells (rd_T45 l a)).toList[b]?) : xs = flat l := by
  apply List.ext_getElem?
  intro q
  rcases Nat.lt_or_ge q (l.length * 9) with hq | hq
  · rw [show q = q / 9 * 9 + q % 9 by omega, h _ _ (by omega) (by omega), flat_get _ _ _ (by omega) (by omega)]
  · rw [List.getElem?_eq_none (by omega), List.getElem?_eq_none (by rw [flat_len]; omega)]
theorem flat_take (l : List No) (i : Nat) (h : i ≤ l.length) : (flat l).take (i * 9) = flat (l.take i) := by
  have h1 : flat l = flat (l.take i) ++ flat (l.drop i) := by rw [← flat_append, List.take_append_drop]
  rw [h1, List.take_left' (by rw [flat_len, List.length_take]; omega)]
theorem flat_drop (l : List No) (i : Nat) (h : i ≤ l.length) : (flat l).drop (i * 9) = flat (l.drop i) := by
  have h1 : flat l = flat (l.take i) ++ flat (l.drop i) := by rw [← flat_append, List.take_append_drop]
  rw [h1, List.drop_left' (by rw [flat_len, List.length_take]; omega)]
theorem rd_set {l : List No} {i a : Nat} {m : No} (hi : i < l.length) : rd_T45 (l.set i m) (a : Int) = if a = i then m else rd_T45 l a := by
  unfold PO.rd_T45
  rw [Int.toNat_natCast, List.getD_eq_getElem?_getD, List.getElem?_set, List.getD_eq_getElem?_getD]
  by_cases h : i = a
  · subst h; simp [hi]
  · rw [if_neg h, if_neg (fun e => h e.symm)]
/-- One cell of one notice is written. -/
theorem flat_set1 {l : List No} {i : Nat} {m : No} (hi : i < l.length) (j : Nat) (hj : j < 9) (v : Value) (hm : (No.cells m).toList = (No.cells (rd_T45 l i)).toList.set j v) : (flat l).set (i * 9 + j) v = flat (l.set i m) := by
  refine flat_ext (by rw [List.length_set, flat_len, List.length_set]) fun a b ha hb => ?_
  rw [List.length_set] at ha
  rw [List.getElem?_set, rd_set hi]
  by_cases h : a = i
  · subst h
    rw [if_pos rfl, hm, List.getElem?_set]
    by_cases hb2 : j = b
    · subst hb2
      rw [if_pos rfl, if_pos rfl, if_pos (by rw [flat_len]; omega), if_pos (by rw [cells_len]; omega)]
    · rw [if_neg (by omega), if_neg hb2, flat_get _ _ _ ha hb]
  · rw [if_neg (by omega), if_neg h, flat_get _ _ _ ha hb]
/-- All nine cells of one notice are written. -/
theorem flat_set9 {l : List No} {i : Nat} {m : No} (hi : i < l.length) :
    (((((((((flat l).set (i * 9) (.int .u64 m.f0)).set (i * 9 + 1) (.int .u64 m.f1)).set (i * 9 + 2) (.int .i64 m.f2)).set (i * 9 + 3) (.int .i64 m.f3)).set (i * 9 + 4) (.int .i64 m.f4)).set (i * 9 + 5) (.int .i64 m.f5)).set (i * 9 + 6) (.int .i64 m.f6)).set (i * 9 + 7) (.int .i64 m.f7)).set (i * 9 + 8) (.int .i64 m.f8) = flat (l.set i m) := by
  refine flat_ext (by simp only [List.length_set, flat_len]) fun a b ha hb => ?_
  rw [List.length_set] at ha
  have hL := flat_len l
  rw [rd_set hi]
  by_cases h : a = i
  · subst h
    rw [if_pos rfl]
    obtain rfl | rfl | rfl | rfl | rfl | rfl | rfl | rfl | rfl : b = 0 ∨ b = 1 ∨ b = 2 ∨ b = 3 ∨ b = 4 ∨ b = 5 ∨ b = 6 ∨ b = 7 ∨ b = 8 := by omega
    all_goals (simp only [List.getElem?_set, List.length_set, hL, Nat.add_zero])
    · rw [if_neg (by omega), if_neg (by omega), if_neg (by omega), if_neg (by omega), if_neg (by omega), if_neg (by omega), if_neg (by omega), if_neg (by omega), if_pos trivial, if_pos (by omega)]; rfl
    · rw [if_neg (by omega), if_neg (by omega), if_neg (by omega), if_neg (by omega), if_neg (by omega), if_neg (by omega), if_neg (by omega), if_pos trivial, if_pos (by omega)]; rfl
    · rw [if_neg (by omega), if_neg (by omega), if_neg (by omega), if_neg (by omega), if_neg (by omega), if_neg (by omega), if_pos trivial, if_pos (by omega)]; rfl
    · rw [if_neg (by omega), if_neg (by omega), if_neg (by omega), if_neg (by omega), if_neg (by omega), if_pos trivial, if_pos (by omega)]; rfl
    · rw [if_neg (by omega), if_neg (by omega), if_neg (by omega), if_neg (by omega), if_pos trivial, if_pos (by omega)]; rfl
    · rw [if_neg (by omega), if_neg (by omega), if_neg (by omega), if_pos trivial, if_pos (by omega)]; rfl
    · rw [if_neg (by omega), if_neg (by omega), if_pos trivial, if_pos (by omega)]; rfl
    · rw [if_neg (by omega), if_pos trivial, if_pos (by omega)]; rfl
    · rw [if_pos trivial, if_pos (by omega)]; rfl
  · rw [if_neg h]
    simp only [List.getElem?_set, List.length_set, hL]
    rw [if_neg (by omega), if_neg (by omega), if_neg (by omega), if_neg (by omega), if_neg (by omega), if_neg (by omega), if_neg (by omega), if_neg (by omega), if_neg (by omega)]
    exact flat_get _ _ _ ha hb

/-- A row of notices of one's own, whose value may end before its block does. -/
def Semi (w : World) (base : Nat) (v : Value) (l : List No) : Prop :=
  (v = .slice none 0 0 ∧ l = []) ∨
  ∃ g cap cur, v = .slice (some ⟨g, 0, none⟩) l.length cap ∧ base ≤ g ∧ w.heap[g]? = some (.cells cur 45 (0, 0)) ∧ l.length ≤ cap ∧ cap ≤ maxLen ∧ (cap * 9 ≤ cur.size ∧ (cur.size = cap * 9 ∨ l.length = cap)) ∧ cur.toList.take (l.length * 9) = flat l
theorem Semi.of_own {w : World} {base n : Nat} {v : Value} {l : List No} (h : w.ownsRow base 45 9 v n (flat l)) : Semi w base v l := by
  have hn : l.length = n := by have := h.1; rw [flat_len] at this; omega
  subst hn
  rcases h.2 with ⟨h1, h2⟩ | ⟨g, cap, cur, h1, h2, h3, h4, h5, h6, h7⟩
  · exact .inl ⟨h1, List.eq_nil_of_length_eq_zero h2⟩
  · exact .inr ⟨g, cap, cur, h1, h2, h3, h4, h5, ⟨by omega, .inl h6⟩, h7⟩
theorem Semi.nil (w : World) (base : Nat) : Semi w base (.slice none 0 0) [] := .inl ⟨rfl, rfl⟩
theorem Semi.slice {w : World} {base : Nat} {v : Value} {l : List No} (h : Semi w base v l) : ∃ A c, v = .slice A l.length c ∧ l.length ≤ c := by
  rcases h with ⟨rfl, rfl⟩ | ⟨g, cap, cur, rfl, h2, h3, h4, -⟩
  · exact ⟨_, 0, rfl, Nat.le_refl _⟩
  · exact ⟨_, cap, rfl, h4⟩
theorem Semi.move {w w' : World} {base : Nat} {v : Value} {l : List No} (h : Semi w base v l) (hm : ∀ k, v.ownBlock = some k → w'.heap[k]? = w.heap[k]?) : Semi w' base v l := by
  rcases h with h | ⟨g, cap, cur, rfl, h2, h3, r⟩
  · exact .inl h
  · exact .inr ⟨g, cap, cur, rfl, h2, (hm g rfl).trans h3, r⟩
theorem Semi.base_lt {w : World} {base : Nat} {v : Value} {l : List No} (h : Semi w base v l) : ∀ k, v.ownBlock = some k → base ≤ k ∧ k < w.heap.size := by
  intro k hk
  rcases h with ⟨rfl, -⟩ | ⟨g, cap, cur, rfl, h2, h3, r⟩
  · cases hk
  · injection hk with hk
    obtain rfl : g = k := hk
    exact ⟨h2, blk_lt h3⟩
theorem Semi.lower {w : World} {base base' : Nat} {v : Value} {l : List No} (h : Semi w base v l) (hb : base' ≤ base) : Semi w base' v l := by
  rcases h with h | ⟨g, cap, cur, rfl, h2, r⟩
  · exact .inl h
  · exact .inr ⟨g, cap, cur, rfl, by omega, r⟩
theorem Semi.reads {w : World} {base : Nat} {v : Value} {l : List No} (h : Semi w base v l) : ∃ A c, v = .slice A l.length c ∧ l.length ≤ c ∧ Kd.C k45 w A l.length l ∧ (∀ ad, A = some ad → ad = ⟨ad.block, 0, none⟩ ∧ v.ownBlock = some ad.block) := by
  rcases h with ⟨rfl, rfl⟩ | ⟨g, cap, cur, rfl, h2, h3, h4, h5, h6, h7⟩
  · exact ⟨_, 0, rfl, Nat.le_refl _, Kd.C_nil _ _, fun ad e => nomatch e⟩
  · refine ⟨_, cap, rfl, h4, ⟨rfl, by simp only [maxLen] at h5; omega, fun _ => ⟨_, rfl, fun j p hj => ⟨(No.cells p).toList, rfl, PO.k45_mk w p, fun i u hi => ?_⟩⟩⟩, fun ad e => by injection e with e; subst e; exact ⟨rfl, rfl⟩⟩
    have hjl := (List.getElem?_eq_some_iff.1 hj).1
    have hi9 : i < 9 := (List.getElem?_eq_some_iff.1 hi).1
    have hp : rd_T45 l j = p := by
      unfold PO.rd_T45
      rw [Int.toNat_natCast, List.getD_eq_getElem?_getD, hj]; rfl
    have h8 := flat_get l j i hjl hi9
    rw [hp, hi, ← h7, List.getElem?_take_of_lt (by omega)] at h8
    have h9 := blk_cell h3 (j * 9 + i)
    show w.cell? ((⟨g, 0, none⟩ : Addr).add (j * 9 + i)) = some u
    rw [Addr.add_lit, Nat.zero_add, h9]
    simpa using h8
theorem Semi.own_or {w : World} {base : Nat} {v : Value} {l : List No} (h : Semi w base v l) : w.ownsRow base 45 9 v l.length (flat l) ∨ ∃ g, v = .slice (some ⟨g, 0, none⟩) l.length l.length := by
  rcases h with ⟨rfl, rfl⟩ | ⟨g, cap, cur, rfl, h2, h3, h4, h5, ⟨h6, h8⟩, h7⟩
  · exact .inl (World.ownsRow_nil _ _ _ _)
  · rcases h8 with h8 | h8
    · exact .inl ⟨flat_len l, .inr ⟨g, cap, cur, rfl, h2, h3, h4, h5, h8, h7⟩⟩
    · exact .inr ⟨g, by rw [h8]⟩
/-- The cells of a row that is read. -/
theorem flat_reads {w : World} {A : Option Addr} {n : Nat} {l : List No} (h : Kd.C k45 w A n l) (h0 : 0 < n) : ∃ ad, A = some ad ∧ ∀ j u, (flat l)[j]? = some u → w.cell? (ad.add j) = some u := by
  obtain ⟨ad, e, hc⟩ := h.2.2 h0
  refine ⟨ad, e, fun j u hj => ?_⟩
  have hj2 := (List.getElem?_eq_some_iff.1 hj).1
  rw [flat_len] at hj2
  have hlt : j / 9 < l.length := by omega
  obtain ⟨c, h9, hK, hcell⟩ := hc (j / 9) _ (List.getElem?_eq_getElem hlt)
  obtain rfl := PO.k45_open hK
  have h1 := flat_get l (j / 9) (j % 9) hlt (by omega)
  rw [show j / 9 * 9 + j % 9 = j by omega, hj, rd_get hlt] at h1
  have h2 := hcell (j % 9) u h1.symm
  have h3 : w.cell? (ad.add (j / 9 * 9 + j % 9)) = some u := h2
  rwa [show j / 9 * 9 + j % 9 = j by omega] at h3
theorem info45 : (Try.prog.info? 45).map (fun i => (i.zero, i.size, i.bytes)) = some (some (.agg #[.int .u64 0, .int .u64 0, .int .i64 0, .int .i64 0, .int .i64 0, .int .i64 0, .int .i64 0, .int .i64 0, .int .i64 0]), 9, 72) := PO.info45
theorem cells_one (n : No) : ∀ u ∈ (No.cells n).toList, u.oneCell' = true := by
  intro u hu
  simp only [No.cells, List.mem_cons, List.not_mem_nil, or_false] at hu
  rcases hu with rfl | rfl | rfl | rfl | rfl | rfl | rfl | rfl | rfl <;> simp [Value.oneCell']
section
variable {ops : Array Oper} {o : Oper} {a : Act} {K : Act → World → Prop} {Q : Exit → Act → World → Prop}
set_option maxRecDepth 100000 in
/-- 'append(l, n)' as one step of a region. -/
theorem semi_append_step {W : World} (base : Nat) (hw : Region.wanted o (yielded ops a.tmps) = true) (s x : Operand)
    (ho : o.op = .call { callee := .builtin .append, args := #[s, x], argTypes := #[74, 74] }) {v : Value} {l : List No} (m : No) (hs : a.eval s = v) (hx : a.eval x = .slice (some ⟨W.heap.size, 0, none⟩) 1 1)
    (HO : Semi W base v l) (hbase : base ≤ W.heap.size) (hl : l.length ≤ 1000)
    (h : ∀ v1 w1, Semi w1 base v1 (l ++ [m]) → W.grownBy w1 v.ownBlock → (v1.ownBlock = v.ownBlock ∨ ∃ b, v1.ownBlock = some b ∧ W.heap.size ≤ b) → K (a.put o.dst v1) w1) :
    if Region.wanted o (yielded ops a.tmps) = true then Oper.wp Try.prog o a (W.alloc (.cells (No.cells m) 45)) K Q else K (a.put o.dst undef) (W.alloc (.cells (No.cells m) 45)) := by
  have hfin : ∀ {w1 : World} {v1 : Value} {b : Nat}, w1.ownsRow b 45 9 v1 (l.length + 1) (flat l ++ (No.cells m).toList) → base ≤ b → Semi w1 base v1 (l ++ [m]) := fun ho hb => by
    rw [← flat_one, ← flat_append] at ho
    exact (Semi.of_own ho).lower hb
  rcases HO.own_or with hown | ⟨g, rfl⟩
  · exact step_append_cells (w0 := W) base hw s x 74 45 _ 9 72 ho Try.underlying74 info45 (by rfl) (by decide) (by decide) v l.length (flat l) (No.cells m).toList hs hx (cells_len m) (cells_one m) hown
      ⟨rfl, rfl, rfl, Nat.le_refl _, fun _ _ => rfl⟩ hbase (by omega) (fun v1 w1 h1 h2 h3 h4 => h v1 w1 (hfin h1 (Nat.le_refl _)) h3 h4)
  · obtain ⟨A, c, he, hc, hC, hA⟩ := HO.reads
    injection he with he1 he2 he3
    subst he1
    obtain ⟨i0, hi, hzz⟩ := Option.map_eq_some_iff.1 info45
    simp only [Prod.mk.injEq] at hzz
    obtain ⟨hz0, hz1, hz2⟩ := hzz
    rw [if_pos hw]
    have hC' := Kd.C_below hC ((Below.refl _ W).alloc (Nat.le_refl _) (.cells (No.cells m) 45))
    obtain ⟨v1, w1, hr, hown, hg⟩ := run_append_arg_grows (P := Try.prog) (W.alloc (.cells (No.cells m) 45)) 74 o.type 45 i0 _ 9 72 Try.underlying74 hi hz0 hz1 hz2 (by rfl) (by decide)
      ⟨g, 0, none⟩ l.length l.length (flat l) (flat_len l) (fun j u hj => by
        have h0 : 0 < l.length := by have := (List.getElem?_eq_some_iff.1 hj).1; rw [flat_len] at this; omega
        obtain ⟨ad, e, hh⟩ := flat_reads hC' h0
        injection e with e; subst e
        exact hh j u hj) ⟨W.heap.size, 0, none⟩ 1 1 (No.cells m).toList (by rw [cells_len]) (by simpa using World.news_of_block (cs := No.cells m) (t := 45) (fr := (0, 0)) (heap_alloc_new W (.cells (No.cells m) 45))) (by omega) (by simp only [maxLen]; omega) (by omega)
    unfold Oper.wp execOp
    simp only [ho, resolve, invoke, builtin, Sem.run_bind, Sem.run_pure, Result.andThen_ok, List.map_toArray, List.map_cons, List.map_nil, hs, hx, hr]
    have hg2 : W.grownBy w1 (some g) := by
      have h1 := World.grownBy.trans (World.grownBy_alloc W (.cells (No.cells m) 45) none) hg
      exact ⟨h1.os, h1.tape, h1.output, h1.size, fun k hk _ => h1.block k hk (by simp)⟩
    refine h v1 w1 (hfin hown (by simp; omega)) hg2 (.inr ?_)
    rcases hown.2 with ⟨-, h0⟩ | ⟨b, cap, cur, rfl, hb, -⟩
    · omega
    · exact ⟨b, rfl, by simp at hb; omega⟩
set_option maxRecDepth 100000 in
/-- 'append(l[:i:i], l[i+1:]...)' as one step of a region. -/
theorem semi_cut_step {W : World} (base : Nat) (hw : Region.wanted o (yielded ops a.tmps) = true) (s x : Operand)
    (ho : o.op = .call { callee := .builtin .append, args := #[s, x], argTypes := #[74, 74] }) {l : List No} {g cap i c : Nat} {ax : Addr} (HO : Semi W base (.slice (some ⟨g, 0, none⟩) l.length cap) l) (hi : i < l.length)
    (hs : a.eval s = .slice (some ⟨g, 0, none⟩) i i) (hx : a.eval x = .slice (some ax) (l.length - (i + 1)) c) (hax : i + 1 < l.length → ax = ⟨g, (i + 1) * 9, none⟩) (hbase : base ≤ W.heap.size) (hl : l.length ≤ 1000)
    (h : ∀ v1 w1, Semi w1 base v1 (l.eraseIdx i) → Below W.heap.size W w1 → (v1.ownBlock = some g ∨ ∃ b, v1.ownBlock = some b ∧ W.heap.size ≤ b) → K (a.put o.dst v1) w1) :
    if Region.wanted o (yielded ops a.tmps) = true then Oper.wp Try.prog o a W K Q else K (a.put o.dst undef) W := by
  obtain ⟨i0, hi0, hzz⟩ := Option.map_eq_some_iff.1 info45
  simp only [Prod.mk.injEq] at hzz
  obtain ⟨hz0, hz1, hz2⟩ := hzz
  rw [if_pos hw, List.eraseIdx_eq_take_drop_succ] at *
  rcases Nat.lt_or_ge (i + 1) l.length with hlt | hge
  · obtain rfl := hax hlt
    obtain ⟨A, c2, he, hc, hC, hA⟩ := HO.reads
    injection he with he1 he2 he3
    subst he1
    have hcell : ∀ j u, (flat l)[j]? = some u → W.cell? ⟨g, j, none⟩ = some u := fun j u hj => by
      obtain ⟨ad, e, hh⟩ := flat_reads hC (by omega)
      injection e with e; subst e
      have := hh j u hj
      rwa [Addr.add_lit, Nat.zero_add] at this
    obtain ⟨v1, w1, hr, hown, hg⟩ := run_append_arg_grows (P := Try.prog) W 74 o.type 45 i0 _ 9 72 Try.underlying74 hi0 hz0 hz1 hz2 (by rfl) (by decide)
      ⟨g, 0, none⟩ i i (flat (l.take i)) (by rw [flat_len, List.length_take]; omega) (fun j u hj => by
        have hj2 := (List.getElem?_eq_some_iff.1 hj).1
        rw [flat_len, List.length_take] at hj2
        rw [Addr.add_lit, Nat.zero_add]
        refine hcell j u ?_
        rw [← flat_take l i (by omega), List.getElem?_take_of_lt (by omega)] at hj
        exact hj) ⟨g, (i + 1) * 9, none⟩ (l.length - (i + 1)) c (flat (l.drop (i + 1))) (by rw [flat_len, List.length_drop]) (fun j u hj => by
        rw [Addr.add_lit]
        refine hcell _ u ?_
        rw [← flat_drop l (i + 1) (by omega), List.getElem?_drop] at hj
        exact hj) (by omega) (by simp only [maxLen]; omega) (by omega)
    unfold Oper.wp execOp
    simp only [ho, resolve, invoke, builtin, Sem.run_bind, Sem.run_pure, Result.andThen_ok, List.map_toArray, List.map_cons, List.map_nil, hs, hx, hr]
    rw [← flat_append] at hown
    refine h v1 w1 ((Semi.of_own hown).lower (by omega)) ⟨hg.os, hg.tape, hg.output, hg.size, fun k hk => hg.block k hk (by simp)⟩ (.inr ?_)
    rcases hown.2 with ⟨-, h0⟩ | ⟨b, cap', cur, rfl, hb, -⟩
    · omega
    · exact ⟨b, rfl, hb⟩
  · have hd : l.drop (i + 1) = [] := List.drop_eq_nil_of_le hge
    have hm : l.length - (i + 1) = 0 := by omega
    have hrun := run_append_room_cells (P := Try.prog) W 74 o.type 45 i0 Try.underlying74 hi0 g 0 i i ax 0 c [] (by simp) (fun j u hj => by simp at hj) (fun u hu => by simp at hu) (by omega) (fun j hj => by simp at hj) (fun j hj => by simp at hj)
    rw [hm] at hx
    unfold Oper.wp execOp
    simp only [ho, resolve, invoke, builtin, Sem.run_bind, Sem.run_pure, Result.andThen_ok, List.map_toArray, List.map_cons, List.map_nil, hs, hx, hrun]
    rw [hd, List.append_nil] at h
    refine h (.slice (some ⟨g, 0, none⟩) (i + 0) i) W ?_ (Below.refl _ _) (.inl rfl)
    rcases HO with ⟨e, -⟩ | ⟨g', cap', cur, e, h2, h3, h4, h5, ⟨h6, -⟩, h7⟩
    · cases e
    · injection e with e1 e2 e3
      injection e1 with e1
      injection e1 with e1 _ _
      subst e1 e3
      have hlen : (l.take i).length = i := by rw [List.length_take]; omega
      refine .inr ⟨g, i, cur, by rw [hlen]; rfl, h2, h3, by omega, by omega, ⟨by omega, .inr hlen⟩, ?_⟩
      rw [hlen, ← flat_take l i (by omega), ← h7, List.take_take]
      congr 1
      omega
end
/-- One cell of one notice is written: the row then. -/
theorem Semi.set1 {w : World} {base cap g : Nat} {l : List No} {i : Nat} {m : No} (h : Semi w base (.slice (some ⟨g, 0, none⟩) l.length cap) l) (hi : i < l.length) (j : Nat) (hj : j < 9) (v : Value) (hm : (No.cells m).toList = (No.cells (rd_T45 l i)).toList.set j v) :
    Semi (w.setCell ⟨g, i * 9 + j, none⟩ v) base (.slice (some ⟨g, 0, none⟩) l.length cap) (l.set i m) := by
  rcases h with ⟨e, -⟩ | ⟨g', cap', cur, e, h2, h3, h4, h5, ⟨h6, h8⟩, h7⟩
  · cases e
  · injection e with e1 e2 e3
    injection e1 with e1
    injection e1 with e1 _ _
    subst e1 e3
    refine .inr ⟨g, cap, cur.setIfInBounds (i * 9 + j) v, by rw [List.length_set], h2, blk_set h3 _ _, by rw [List.length_set]; exact h4, h5, by rw [List.length_set, Array.size_setIfInBounds]; exact ⟨h6, h8⟩, ?_⟩
    rw [List.length_set, Array.toList_setIfInBounds, List.take_set, h7]
    exact flat_set1 hi j hj v hm
/-- All nine are written. -/
theorem Semi.set9 {w : World} {base cap g : Nat} {l : List No} {i : Nat} {m : No} (h : Semi w base (.slice (some ⟨g, 0, none⟩) l.length cap) l) (hi : i < l.length) :
    Semi (((((((((w.setCell ⟨g, i * 9, none⟩ (.int .u64 m.f0)).setCell ⟨g, i * 9 + 1, none⟩ (.int .u64 m.f1)).setCell ⟨g, i * 9 + 2, none⟩ (.int .i64 m.f2)).setCell ⟨g, i * 9 + 3, none⟩ (.int .i64 m.f3)).setCell ⟨g, i * 9 + 4, none⟩ (.int .i64 m.f4)).setCell ⟨g, i * 9 + 5, none⟩ (.int .i64 m.f5)).setCell ⟨g, i * 9 + 6, none⟩ (.int .i64 m.f6)).setCell ⟨g, i * 9 + 7, none⟩ (.int .i64 m.f7)).setCell ⟨g, i * 9 + 8, none⟩ (.int .i64 m.f8))
      base (.slice (some ⟨g, 0, none⟩) l.length cap) (l.set i m) := by
  rcases h with ⟨e, -⟩ | ⟨g', cap', cur, e, h2, h3, h4, h5, ⟨h6, h8⟩, h7⟩
  · cases e
  · injection e with e1 e2 e3
    injection e1 with e1
    injection e1 with e1 _ _
    subst e1 e3
    refine .inr ⟨g, cap, _, by rw [List.length_set], h2, blk_set (blk_set (blk_set (blk_set (blk_set (blk_set (blk_set (blk_set (blk_set h3 _ _) _ _) _ _) _ _) _ _) _ _) _ _) _ _) _ _, by rw [List.length_set]; exact h4, h5, ?_, ?_⟩
    · rw [List.length_set]; simp only [Array.size_setIfInBounds]; exact ⟨h6, h8⟩
    · rw [List.length_set]
      simp only [Array.toList_setIfInBounds, List.take_set, h7]
      exact flat_set9 hi
end Go.Proofs.Ytabdjehnglmlpaa
