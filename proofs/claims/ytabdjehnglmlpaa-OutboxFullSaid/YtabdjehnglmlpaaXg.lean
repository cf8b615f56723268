/- One text out of Ga, Gb, Gc. -/
import Derived.Deep.RegionWith
import Derived.Test.YtabdjehnglmlpaaWWords
import Derived.StillTail
import Derived.StillTailTactics
import Derived.OrdersHeld
section
/- A region that draws its order, met step by step: the values laid out; an append of a row that is read. -/
namespace Go.Proofs.Ytabdjehnglmlpaa
open Go.RowKit Go.Proofs.YtabdjehnglmlpaaW.PrintWords
/-- The values laid out before a region goes on. -/
theorem wpAny_lay {P : Program} {md : Region.Mode} {ops : Array Oper} {Q : Exit → Act → World → Prop} {fuel : Nat} {listed : Array Bool} {a : Act} {w : World}
    (h : ∀ K : Act → World → Prop, (∀ a w, wpAny P md ops Q fuel listed a w → K a w) → K a w) : wpAny P md ops Q fuel listed a w := h _ (fun _ _ h => h)
/-- What comes of the one way that goes on. -/
def OnlyN (G : Act → World → Prop) : Exit → Act → World → Prop := fun e a w => match e with
  | .normal => G a w
  | _ => False
theorem wp_only {P : Program} {o : Oper} {a : Act} {w : World} {K K' : Act → World → Prop} {Q : Exit → Act → World → Prop} (h : o.wp P a w K (OnlyN K')) (hk : ∀ a w, K a w → K' a w) : o.wp P a w K' Q := by
  unfold Oper.wp at *
  generalize (execOp a.eval o).run P w = r at *
  cases r with
  | ok n w' =>
    cases n <;> simp only [Oper.upon] at h ⊢ <;>
      first
        | exact hk _ _ h
        | exact Calls.mono h (fun e w'' he => by
            cases e
            · exact hk _ _ he
            · exact he.elim
            · obtain ⟨_, _, h⟩ := he; exact h.elim)
        | exact Rows.mono h (fun _ _ he => hk _ _ he)
  | halt x w' => cases x <;> simp only [Oper.upon] at h ⊢ <;> first | exact h | exact h.elim
theorem wpList_one {P : Program} {ops : Array Oper} {o : Oper} {a : Act} {w : World} {K : Act → World → Prop} {Q : Exit → Act → World → Prop} (hgd : Region.wanted o (yielded ops a.tmps) = true) (h : wpList P ops (OnlyN K) [o] a w) :
    if Region.wanted o (yielded ops a.tmps) = true then Oper.wp P o a w K Q else K (a.put o.dst undef) w := by
  rw [if_pos hgd]
  unfold wpList at h
  rw [if_pos hgd] at h
  rcases h with h | ⟨-, _, _, h⟩
  · exact wp_only h (fun a w hn => hn)
  · exact h.elim
section
variable {P : Program} {ops : Array Oper} {o : Oper} {a : Act} {K : Act → World → Prop} {Q : Exit → Act → World → Prop}
theorem step_append_row {w0 W : World} (base : Nat) (hgd : o.guard = none) (s x : Operand) (t e : TypeId) (k : IntKind) (bytes : Nat)
    (ho : o.op = .call { callee := .builtin .append, args := #[s, x], argTypes := #[t, t] })
    (ht : P.underlying t = some (.slice e)) (hinfo : (P.info? e).map (fun i => (i.zero, i.size, i.bytes)) = some (some (.int k 0), 1, bytes)) (hb0 : 0 < bytes)
    (v : Value) (xs ys : List Int) (A : Option Addr) (m c : Nat) (hs : a.eval s = v) (hx : a.eval x = .slice A m c)
    (HO : W.ownsRow base e 1 v xs.length (nums k xs)) (HR : ReadsInt W k A m ys) (HB : Below base w0 W) (hbase : base ≤ W.heap.size) (hl : (xs.length + m) * bytes ≤ 140737488355328)
    (h : ∀ v1 w1, w1.ownsRow base e 1 v1 (xs ++ ys).length (nums k (xs ++ ys)) → Below base w0 w1 → W.grownBy w1 v.ownBlock → (v1.ownBlock = v.ownBlock ∨ ∃ b, v1.ownBlock = some b ∧ W.heap.size ≤ b) → K (a.put o.dst v1) w1) :
    if Region.wanted o (yielded ops a.tmps) = true then Oper.wp P o a W K Q else K (a.put o.dst undef) W := by
  refine wpList_one (by unfold Region.wanted; rw [hgd]) ?_
  exact print_append_row (rest := []) (Q := OnlyN K) base hgd s x t e k bytes ho ht hinfo hb0 v xs ys A m c hs hx HO HR HB hbase hl (fun v1 w1 h1 h2 h3 h4 => h v1 w1 h1 h2 h3 h4)
end
end Go.Proofs.Ytabdjehnglmlpaa
end

section
/- A region that draws its order, part by part: what only reads up to an operation that all later ones wait for. -/
namespace Go.Proofs.Ytabdjehnglmlpaa

section
variable {P : Program} {ops : Array Oper} {md : Region.Mode} {w : World}

/-- The first k operations are through. -/
def upto (m k : Nat) : Array Bool := Array.ofFn fun i : Fin m => decide (i.val < k)
/-- As if all from n on were through. -/
def marked (n : Nat) (listed : Array Bool) : Array Bool := Array.ofFn fun i : Fin listed.size => listed[i] || decide (n ≤ i.val)

theorem marked_size (n : Nat) (listed : Array Bool) : (marked n listed).size = listed.size := by simp [marked]
theorem marked_getD {n : Nat} {listed : Array Bool} {i : Nat} (d : Bool) (hi : i < listed.size) : (marked n listed).getD i d = (listed.getD i d || decide (n ≤ i)) := by
  simp [marked, Array.getD, hi]
theorem upto_getD {m k i : Nat} (d : Bool) (hi : i < m) : (upto m k).getD i d = decide (i < k) := by
  simp [upto, Array.getD, hi]
theorem upto_size (m k : Nat) : (upto m k).size = m := by simp [upto]

/-- Every operation of the part is waited for by a later one of it or by n; every operation behind n waits for one from n on; each of the part waits for earlier ones alone. -/
def partB (md : Region.Mode) (ops : Array Oper) (k n : Nat) : Bool :=
  decide (n < ops.size) &&
  ((List.range n).all fun i => decide (i < k) || (List.range (n + 1)).any fun j => decide (i < j) && Region.waitsFor md ops j i) &&
  ((List.range ops.size).all fun t => decide (t ≤ n) || (List.range t).any fun s => decide (n ≤ s) && Region.waitsFor md ops t s) &&
  ((List.range n).all fun i => match ops[i]? with
    | some o => o.after.all fun e => !Region.binds md e || decide (e.on < i)
    | none => true)

/-- None from n on comes up before the part is through. -/
theorem part_blocked {k n : Nat} (hB : partB md ops k n = true) {listed : Array Bool} (inv : HeadInv md ops n listed) :
    ∀ (d i : Nat), n - i = d → i < n → k ≤ i → listed.getD i true = false → ∀ t, n ≤ t → t ∉ Region.ready md ops listed := by
  simp only [partB, Bool.and_eq_true, decide_eq_true_eq] at hB
  obtain ⟨⟨⟨hn, h1⟩, h2⟩, -⟩ := hB
  have gate : ∀ (d i : Nat), n - i = d → i < n → k ≤ i → listed.getD i true = false → n ∉ Region.ready md ops listed := by
    intro d
    induction d using Nat.strongRecOn with
    | _ d ih =>
      intro i hd hi hk hun hr
      have h3 := List.all_eq_true.1 h1 i (List.mem_range.2 hi)
      rw [Bool.or_eq_true, decide_eq_true_eq] at h3
      rcases h3 with h3 | h3
      · omega
      obtain ⟨j, hj, hj2⟩ := List.any_eq_true.1 h3
      simp only [Bool.and_eq_true, decide_eq_true_eq] at hj2
      obtain ⟨oj, hoj, e, he, hb, hon⟩ := Region.waitsFor_spec hj2.2
      have hjn := List.mem_range.1 hj
      rcases Nat.lt_or_ge j n with hlt | hge
      · cases hl : listed.getD j false with
        | true =>
          have h4 := inv.closed j oj hoj hl e he hb
          rw [hon, getD_both hun] at h4
          cases h4
        | false => exact ih (n - j) (by omega) j rfl hlt (by omega) (getD_in (by rw [inv.size]; omega) hl) hr
      · obtain rfl : j = n := by omega
        obtain ⟨_, o', ho', hall⟩ := mem_ready.1 hr
        obtain rfl : oj = o' := Option.some.inj (hoj.symm.trans ho')
        have h4 := hall e he hb
        rw [hon, getD_both hun] at h4
        cases h4
  intro d i hd hi hk hun t ht hr
  rcases Nat.eq_or_lt_of_le ht with rfl | hlt
  · exact gate d i hd hi hk hun hr
  · obtain ⟨_, ot, hot, hall⟩ := mem_ready.1 hr
    have hts : t < ops.size := (Array.getElem?_eq_some_iff.1 hot).1
    have h3 := List.all_eq_true.1 h2 t (List.mem_range.2 hts)
    rw [Bool.or_eq_true, decide_eq_true_eq] at h3
    rcases h3 with h3 | h3
    · omega
    obtain ⟨s, hs, hs2⟩ := List.any_eq_true.1 h3
    simp only [Bool.and_eq_true, decide_eq_true_eq] at hs2
    obtain ⟨o', ho', e, he, hb, hon⟩ := Region.waitsFor_spec hs2.2
    obtain rfl : o' = ot := Option.some.inj (ho'.symm.trans hot)
    have h4 := hall e he hb
    have hst := List.mem_range.1 hs
    rw [hon, getD_both (inv.tail s hs2.1 (by omega))] at h4
    cases h4

/-- An operation of the part comes up under the mark just where it does without. -/
theorem part_ready {k n : Nat} (hB : partB md ops k n = true) {listed : Array Bool} (inv : HeadInv md ops n listed) {i : Nat} (hi : i < n) :
    i ∈ Region.ready md ops (marked n listed) ↔ i ∈ Region.ready md ops listed := by
  simp only [partB, Bool.and_eq_true, decide_eq_true_eq] at hB
  obtain ⟨⟨⟨hn, -⟩, -⟩, h3⟩ := hB
  have hs : i < listed.size := by rw [inv.size]; omega
  rw [mem_ready, mem_ready, marked_getD _ hs, decide_eq_false (by omega : ¬ n ≤ i), Bool.or_false]
  refine and_congr Iff.rfl ⟨?_, ?_⟩
  all_goals
    rintro ⟨o, ho, hall⟩
    refine ⟨o, ho, fun e he hb => ?_⟩
    have h4 := List.all_eq_true.1 h3 i (List.mem_range.2 hi)
    rw [ho] at h4
    simp only [Array.all_eq_true_iff_forall_mem, Bool.or_eq_true, Bool.not_eq_true', decide_eq_true_eq] at h4
    have h5 : e.on < i := (h4 e he).resolve_left (by rw [hb]; decide)
    have h6 := hall e he hb
    have h7 : e.on < listed.size := by rw [inv.size]; omega
    first
      | (rw [marked_getD _ h7, decide_eq_false (by omega : ¬ n ≤ e.on), Bool.or_false] at h6; exact h6)
      | (rw [marked_getD _ h7, decide_eq_false (by omega : ¬ n ≤ e.on), Bool.or_false]; exact h6)
theorem marked_set {n i : Nat} {listed : Array Bool} : (marked n listed).setIfInBounds i true = marked n (listed.setIfInBounds i true) := by
  apply Array.ext_getElem?
  intro j
  rcases Nat.lt_or_ge j listed.size with hj | hj
  · rw [Array.getElem?_setIfInBounds]
    by_cases hij : i = j
    · subst hij
      simp [marked, hj]
    · simp [marked, hj, hij]
  · rw [Array.getElem?_eq_none (by simp [marked]; omega), Array.getElem?_eq_none (by simp [marked]; omega)]

theorem wpAny_part_go {k n g : Nat} (hB : partB md ops k n = true) {Q : Exit → Act → World → Prop} :
    ∀ (f : Nat) (listed : Array Bool) (a : Act), HeadInv md ops n listed → (∀ i, i < k → listed.getD i true = true) →
      f = ((List.range n).filter fun i => !listed.getD i true).length →
      wpAnyS P md ops w (fun a' => wpAny P md ops Q g (upto ops.size n) a' w) f (marked n listed) a → wpAny P md ops Q (f + g) listed a w := by
  have hn : n < ops.size := by
    simp only [partB, Bool.and_eq_true, decide_eq_true_eq] at hB
    exact hB.1.1.1
  intro f
  induction f with
  | zero =>
    intro listed a inv hk hf h
    have hall : ∀ i, i < n → listed.getD i true = true := fun i hi => by
      have h1 := List.eq_nil_of_length_eq_zero hf.symm
      have h2 := (List.filter_eq_nil_iff.1 h1) i (List.mem_range.2 hi)
      simpa using h2
    have he : listed = upto ops.size n := by
      apply Array.ext_getElem?
      intro j
      rcases Nat.lt_or_ge j ops.size with hj | hj
      · have hj' : j < listed.size := by rw [inv.size]; exact hj
        rcases Nat.lt_or_ge j n with hjn | hjn
        · have := hall j hjn
          simp [upto, hj, hj', hjn] at this ⊢
          exact this
        · have := inv.tail j hjn hj
          simp [upto, hj, hj', Nat.not_lt.2 hjn] at this ⊢
          exact this
      · rw [Array.getElem?_eq_none (by rw [inv.size]; exact hj), Array.getElem?_eq_none (by rw [upto_size]; exact hj)]
    rw [Nat.zero_add, he]
    exact h.2
  | succ f ih =>
    intro listed a inv hk hf h
    obtain ⟨i0, hi0⟩ : ∃ i, i ∈ (List.range n).filter fun i => !listed.getD i true := by
      cases hl : (List.range n).filter fun i => !listed.getD i true with
      | nil => rw [hl] at hf; cases hf
      | cons x l => exact ⟨x, List.mem_cons_self⟩
    rw [List.mem_filter, List.mem_range, Bool.not_eq_true'] at hi0
    obtain ⟨hi0n, hi0u⟩ := hi0
    have hk0 : k ≤ i0 := by
      rcases Nat.lt_or_ge i0 k with h1 | h1
      · rw [hk i0 h1] at hi0u; cases hi0u
      · exact h1
    have blocked := part_blocked hB inv _ i0 rfl hi0n hk0 hi0u
    have below : ∀ j ∈ Region.ready md ops listed, j < n := fun j hj => by
      rcases Nat.lt_or_ge j n with h1 | h1
      · exact h1
      · exact absurd hj (blocked j h1)
    rw [show f + 1 + g = (f + g) + 1 by omega]
    refine ⟨fun h0 => ?_, fun j hj => ?_⟩
    · -- nothing comes up: then nothing is left of the part
      exfalso
      have all : ∀ j, j < n → listed.getD j true = true := by
        intro j
        induction j using Nat.strongRecOn with
        | _ j ihj =>
          intro hj
          cases hl : listed.getD j true with
          | true => rfl
          | false =>
            obtain ⟨o, ho⟩ : ∃ o, ops[j]? = some o := ⟨_, Array.getElem?_eq_getElem (by omega)⟩
            have hr : j ∈ Region.ready md ops listed := mem_ready.2 ⟨hl, o, ho, fun e he hb => by
              have h3 := hB
              simp only [partB, Bool.and_eq_true, decide_eq_true_eq] at h3
              have h4 := List.all_eq_true.1 h3.2 j (List.mem_range.2 hj)
              rw [ho] at h4
              simp only [Array.all_eq_true_iff_forall_mem, Bool.or_eq_true, Bool.not_eq_true', decide_eq_true_eq] at h4
              have h5 : e.on < j := (h4 e he).resolve_left (by rw [hb]; decide)
              have h6 := ihj e.on h5 (by omega)
              have h7 : e.on < listed.size := by rw [inv.size]; omega
              simp [Array.getD, h7] at h6 ⊢
              exact h6⟩
            rw [h0] at hr
            cases hr
      rw [all i0 hi0n] at hi0u
      cases hi0u
    · have hjn := below j hj
      have hjm := (part_ready hB inv hjn).2 hj
      have h1 := h.2 j hjm
      rw [marked_set] at h1
      refine wpOp_of_stOp (fun a' h2 => ?_) h1
      have hju := (mem_ready.1 hj).1
      refine ih (listed.setIfInBounds j true) a' (inv.set hj hjn) (fun i hi => ?_) ?_ h2
      · by_cases hij : j = i
        · subst hij; rw [hk j hi] at hju; cases hju
        · rw [getD_set_ne true hij]; exact hk i hi
      · have e1 : ((List.range n).filter fun i => !(listed.setIfInBounds j true).getD i true) = ((List.range n).filter fun i => !listed.getD i true).erase j := by
          rw [List.Nodup.erase_eq_filter (List.Pairwise.filter _ List.nodup_range), List.filter_filter]
          apply List.filter_congr
          intro i hi
          by_cases hij : j = i
          · subst hij
            have hjs : j < listed.size := by rw [inv.size]; have := List.mem_range.1 hi; omega
            simp [Array.getD, hjs]
          · rw [getD_set_ne true hij]
            have : (i != j) = true := by simpa using Ne.symm hij
            rw [this, Bool.true_and]
        rw [e1, List.length_erase_of_mem (List.mem_filter.2 ⟨List.mem_range.2 hjn, by rw [hju]; rfl⟩), ← hf]
        omega

theorem still_lex {Q : Act → Prop} (hs : Region.noSelect ops = true) (l : List Oper) : ∀ (k : Nat) (listed : Array Bool) (a : Act), (∀ j, j < l.length → l[j]? = ops[k + j]?) →
    Region.lexFrom md ops l.length k listed = true → wpStill P ops w Q l a → wpAnyS P md ops w Q l.length listed a := by
  induction l with
  | nil => intro k listed a _ hx h; exact ⟨List.isEmpty_iff.1 hx, h⟩
  | cons o l ih =>
    intro k listed a hl hx h
    have ho : ops[k]? = some o := (hl 0 (by simp)).symm
    rw [List.length_cons] at hx ⊢
    unfold Region.lexFrom at hx
    rw [Bool.and_eq_true, Bool.and_eq_true] at hx
    have hst : stOp P ops w k (wpStill P ops w Q l) a := by unfold stOp; rw [ho]; exact h
    obtain ⟨v, hy, hK⟩ := yieldsAt_of_stOp ho hst
    refine wpAnyS_first ho (Region.noSelect_spec hs) l.length listed a (Region.free_spec ho hx.1.2) (by simpa using hx.1.1) hy ?_
    refine ih (k + 1) _ _ (fun j hj => ?_) hx.2 hK
    have := hl (j + 1) (by simp; omega)
    rw [show k + 1 + j = k + (j + 1) by omega]
    simpa using this

/-- The part from k to n, where all only reads (or calls quietly) in the world as it stands: in the order of the text. -/
theorem wpAny_part {k n g f : Nat} {Q : Exit → Act → World → Prop} {a : Act} {l : List Oper} (hl : ops = l.toArray) (hs : Region.noSelect ops = true) (hB : partB md ops k n = true) (hkn : k ≤ n)
    (hx : Region.lexFrom md ops (n - k) k (marked n (upto ops.size k)) = true) (hc : (List.range n).all (fun i => match ops[i]? with | some o => o.after.all fun e => !Region.binds md e || decide (e.on < i) | none => true) = true)
    (h : wpStill P ops w (fun a' => wpAny P md ops Q g (upto ops.size n) a' w) ((l.drop k).take (n - k)) a) (hf : f = n - k + g) : wpAny P md ops Q f (upto ops.size k) a w := by
  subst hf
  have hn : n < ops.size := by
    simp only [partB, Bool.and_eq_true, decide_eq_true_eq] at hB
    exact hB.1.1.1
  have hlen : ((l.drop k).take (n - k)).length = n - k := by
    rw [List.length_take, List.length_drop]
    have : ops.size = l.length := by rw [hl]; simp
    omega
  have inv : HeadInv md ops n (upto ops.size k) := by
    refine ⟨upto_size _ _, fun j oj hj hlj e he hb => ?_, fun t ht hts => by rw [upto_getD _ hts]; exact decide_eq_false (by omega)⟩
    have hjs : j < ops.size := (Array.getElem?_eq_some_iff.1 hj).1
    rw [upto_getD _ hjs, decide_eq_true_eq] at hlj
    have h4 := List.all_eq_true.1 hc j (List.mem_range.2 (by omega))
    rw [hj] at h4
    simp only [Array.all_eq_true_iff_forall_mem, Bool.or_eq_true, Bool.not_eq_true', decide_eq_true_eq] at h4
    have h5 : e.on < j := (h4 e he).resolve_left (by rw [hb]; decide)
    rw [upto_getD _ (by omega : e.on < ops.size)]
    exact decide_eq_true (by omega)
  refine wpAny_part_go hB (n - k) (upto ops.size k) a inv (fun i hi => by rw [upto_getD _ (by omega)]; exact decide_eq_true hi) ?_ ?_
  · have e1 : ((List.range n).filter fun i => !(upto ops.size k).getD i true) = List.range' k (n - k) := by
      have e2 : ((List.range n).filter fun i => !(upto ops.size k).getD i true) = (List.range n).filter fun i => decide (k ≤ i) := by
        apply List.filter_congr
        intro i hi
        rw [upto_getD _ (by have := List.mem_range.1 hi; omega)]
        by_cases h1 : i < k
        · rw [decide_eq_true h1, decide_eq_false (by omega)]; rfl
        · rw [decide_eq_false h1, decide_eq_true (by omega)]; rfl
      rw [e2, show n = k + (n - k) by omega, List.range_add, List.filter_append]
      have e3 : (List.range k).filter (fun i => decide (k ≤ i)) = [] := List.filter_eq_nil_iff.2 (fun i hi => by have := List.mem_range.1 hi; simp; omega)
      rw [e3, List.nil_append, List.filter_eq_self.2 (fun i hi => by obtain ⟨j, -, rfl⟩ := List.mem_map.1 hi; simp), show k + (n - k) - k = n - k by omega, List.range'_eq_map_range]
    rw [e1, List.length_range']
  · have h1 := still_lex (md := md) hs ((l.drop k).take (n - k)) k (marked n (upto ops.size k)) a (fun j hj => by
      rw [hlen] at hj
      rw [List.getElem?_take_of_lt hj, List.getElem?_drop, hl]
      simp) (by rw [hlen]; exact hx) h
    rw [hlen] at h1
    exact h1
/-- The last part. -/
theorem wpAny_last {k f : Nat} {Q : Exit → Act → World → Prop} {a : Act} {l : List Oper} (hl : ops = l.toArray) (hs : Region.noSelect ops = true)
    (hx : Region.lexFrom md ops (ops.size - k) k (upto ops.size k) = true) (h : wpStill P ops w (fun a' => Q .normal a' w) (l.drop k) a) (hf : f = ops.size - k) : wpAny P md ops Q f (upto ops.size k) a w := by
  subst hf
  have hlen : (l.drop k).length = ops.size - k := by rw [List.length_drop, hl]; simp
  have h1 := still_lex (md := md) hs (l.drop k) k (upto ops.size k) a (fun j hj => by rw [List.getElem?_drop, hl]; simp) (by rw [hlen]; exact hx) h
  rw [hlen] at h1
  exact wpAny_of_still (Q := fun a' => Q .normal a' w) (fun _ h => h) _ _ _ h1
theorem upto_zero (m : Nat) : Array.replicate m false = upto m 0 := by
  apply Array.ext_getElem?
  intro i
  rcases Nat.lt_or_ge i m with h | h
  · simp [upto, h]
  · rw [Array.getElem?_eq_none (by simpa using h), Array.getElem?_eq_none (by rw [upto_size]; exact h)]
theorem upto_set {m k : Nat} : (upto m k).setIfInBounds k true = upto m (k + 1) := by
  apply Array.ext_getElem?
  intro i
  rcases Nat.lt_or_ge i m with h | h
  · rw [Array.getElem?_setIfInBounds]
    by_cases hk : k = i
    · subst hk; simp [upto, h]
    · have : decide (i < k) = decide (i < k + 1) := by rw [decide_eq_decide]; omega
      simp [upto, h, hk, this]
  · rw [Array.getElem?_eq_none (by simp [upto]; omega), Array.getElem?_eq_none (by rw [upto_size]; exact h)]
/-- A region that draws, from its beginning. -/
theorem wp_parts {id f : Nat} {Q : Exit → Act → World → Prop} {a : Act} {w : World} {l : List Oper} (hm : P.follows .mixedOrders = true) (hf : f = l.length) (h : wpAny P .any l.toArray Q f (upto l.toArray.size 0) a w.drew) : (Code.region id l.toArray true).wp P Q a w := by
  subst hf
  refine wp_region_any hm ?_
  rw [upto_zero]
  exact h
/-- The operation that stands alone behind a part. -/
theorem wpAny_gate {k f : Nat} {Q : Exit → Act → World → Prop} {a : Act} {o : Oper} (hr : Region.ready md ops (upto ops.size k) = [k]) (ho : ops[k]? = some o)
    (h : ∀ K : Act → World → Prop, (∀ a w, wpAny P md ops Q f (upto ops.size (k + 1)) a w → K a w) → if Region.wanted o (yielded ops a.tmps) = true then Oper.wp P o a w K Q else K (a.put o.dst undef) w) :
    wpAny P md ops Q (f + 1) (upto ops.size k) a w := by
  refine wpAny_ready hr (by simp) (AllReady.cons ho (fun K hK => h K (fun a w h1 => hK a w ?_)) AllReady.nil)
  rw [upto_set]
  exact h1

end
end Go.Proofs.Ytabdjehnglmlpaa
end

section
/- A region that draws its order, where what is read of the elder world stays: met operation by operation. -/
namespace Go.Proofs.Ytabdjehnglmlpaa
open Go.RowKit
/-- Nothing elder than W has turned since W. -/
def Elder (W w : World) : Prop := Below W.heap.size W w
section
variable {P : Program} {md : Region.Mode} {ops : Array Oper} {Q : Exit → Act → World → Prop} {S : World → Prop} {fuel : Nat} {listed : Array Bool} {a : Act} {w : World}
/-- The values laid out before a region goes on. -/
theorem wpAnyH_lay (h : ∀ K : Act → World → Prop, (∀ a w, wpAnyH P md ops Q S fuel listed a w → K a w) → K a w) : wpAnyH P md ops Q S fuel listed a w := h _ (fun _ _ h => h)
/-- One operation alone comes up. -/
theorem wpAnyH_alone {k : Nat} {o : Oper} (hr : Region.ready md ops listed = [k]) (ho : ops[k]? = some o)
    (h : ∀ K : Act → World → Prop, (∀ a w, (S w ∧ wpAnyH P md ops Q S fuel (listed.setIfInBounds k true) a w) → K a w) → if Region.wanted o (yielded ops a.tmps) = true then Oper.wp P o a w K Q else K (a.put o.dst undef) w) :
    wpAnyH P md ops Q S (fuel + 1) listed a w := by
  refine wpAnyH_all hr (by simp) (fun i hi => ?_)
  rw [List.mem_singleton] at hi
  subst hi
  exact wpOp_step ho (fun K' hK => h K' (fun a w hh => hK a w hh))
/-- The beginning, at the world behind the draw. -/
theorem wp_elder {id : Nat} (S : World → Prop) (hm : P.follows .mixedOrders = true) (h : wpAnyH P .any ops Q S ops.size (Array.replicate ops.size false) a w.drew) : (Code.region id ops true).wp P Q a w := wp_region_held hm h
end
end Go.Proofs.Ytabdjehnglmlpaa
end
