/- outbox, plainly: what each call tells, and that a state stays one that may be. -/
import Derived.Test.YtabdjehnglmlpaaOa
namespace Go.Proofs.Ytabdjehnglmlpaa
open PO (S45 z45 rd_T45)
set_option linter.unusedVariables false

/-- A notice. -/
abbrev No := S45
/-- A box's state: the last ID, the notices. -/
abbrev Bs := Int × List No
theorem no_ext {a b : No} (h0 : a.f0 = b.f0) (h1 : a.f1 = b.f1) (h2 : a.f2 = b.f2) (h3 : a.f3 = b.f3) (h4 : a.f4 = b.f4) (h5 : a.f5 = b.f5) (h6 : a.f6 = b.f6) (h7 : a.f7 = b.f7) (h8 : a.f8 = b.f8) : a = b := by
  cases a; cases b; simp_all
instance noDec (t u : S45) : Decidable (t = u) :=
  if h : t.f0 = u.f0 ∧ t.f1 = u.f1 ∧ t.f2 = u.f2 ∧ t.f3 = u.f3 ∧ t.f4 = u.f4 ∧ t.f5 = u.f5 ∧ t.f6 = u.f6 ∧ t.f7 = u.f7 ∧ t.f8 = u.f8 then
    isTrue (no_ext h.1 h.2.1 h.2.2.1 h.2.2.2.1 h.2.2.2.2.1 h.2.2.2.2.2.1 h.2.2.2.2.2.2.1 h.2.2.2.2.2.2.2.1 h.2.2.2.2.2.2.2.2)
  else isFalse (fun e => h (by subst e; exact ⟨rfl, rfl, rfl, rfl, rfl, rfl, rfl, rfl, rfl⟩))

def instO (t : Int) : Bool := decide (0 ≤ t ∧ t ≤ 1125899906842624)
def fitsB (n : No) : Bool := decide (1 ≤ n.f6 ∧ n.f6 ≤ 8 ∧ 1 ≤ n.f7 ∧ n.f7 ≤ 1048576 ∧ 0 ≤ n.f2 ∧ n.f2 ≤ 5 ∧ 0 ≤ n.f3 ∧ n.f3 ≤ 7)
def standsB (n : No) : Bool := decide (0 ≤ n.f5 ∧ n.f5 ≤ n.f6 ∧ 0 ≤ n.f8 ∧ n.f8 ≤ 1125899906842624 ∧ (n.f4 = 1 ∨ (n.f4 = 2 ∧ 1 ≤ n.f5) ∨ (n.f4 = 3 ∧ n.f5 = n.f6)))
def waitsB (n : No) : Bool := n.f4 == 1
def spentB (now : Int) (n : No) : Bool := waitsB n && (decide (n.f6 ≤ n.f5) && decide (n.f8 ≤ now))
def dueB (now : Int) (n : No) : Bool := waitsB n && (decide (n.f5 < n.f6) && decide (n.f8 ≤ now))
def soundFrom (top : Int) : Int → List No → Bool
  | _, [] => true
  | last, n :: l => decide (last < n.f0 ∧ n.f0 ≤ top) && (fitsB n && (standsB n && soundFrom top n.f0 l))
def soundB (s : Bs) : Bool := decide (s.1 ≤ 1152921504606846976 ∧ s.2.length ≤ 128) && soundFrom s.1 0 s.2

/-- The first place where p is so; as many as there are if nowhere. -/
def place (p : No → Bool) (l : List No) : Nat := l.findIdx p
theorem place_le (p : No → Bool) (l : List No) : place p l ≤ l.length := List.findIdx_le_length
/-- The same as Go tells it. -/
def placeI (p : No → Bool) (l : List No) : Int := if place p l < l.length then (place p l : Int) else -1

def isId (id : Int) (n : No) : Bool := n.f0 == id
def countW (s : Bs) : Nat := s.2.countP waitsB
def asNew (n : No) (id now : Int) : No := ⟨id, n.f1, n.f2, n.f3, 1, 0, n.f6, n.f7, now⟩
/-- The notices with room for one. -/
def roomed (l : List No) : List No := if l.length < 128 then l else l.eraseIdx (place (fun n => !waitsB n) l)
def putS (s : Bs) (n : No) (now : Int) : Bs × (Int × Int) :=
  if instO now = false ∨ fitsB n = false then (s, (0, 2))
  else if 1152921504606846976 ≤ s.1 then (s, (0, 10))
  else if 128 ≤ s.2.length ∧ place (fun n => !waitsB n) s.2 = s.2.length then (s, (0, 30))
  else ((s.1 + 1, roomed s.2 ++ [asNew n (s.1 + 1) now]), (s.1 + 1, 0))
def getS (s : Bs) (id : Int) : No × Bool := if place (isId id) s.2 < s.2.length then (rd_T45 s.2 (place (isId id) s.2), true) else (z45, false)
def tried (now : Int) (n : No) : No := ⟨n.f0, n.f1, n.f2, n.f3, n.f4, n.f5 + 1, n.f6, min (2 * n.f7) 1048576, min now (1125899906842624 - n.f7) + n.f7⟩
def tryS (s : Bs) (id now : Int) : Bs × (No × Int) :=
  if place (isId id) s.2 < s.2.length then
    let n := rd_T45 s.2 (place (isId id) s.2)
    if waitsB n = false ∨ n.f6 ≤ n.f5 then (s, (z45, 33))
    else if now < n.f8 then (s, (z45, 52))
    else ((s.1, s.2.set (place (isId id) s.2) (tried now n)), (tried now n, 0))
  else (s, (z45, 31))
def acked (n : No) : No := ⟨n.f0, n.f1, n.f2, n.f3, 2, n.f5, n.f6, n.f7, n.f8⟩
def ackS (s : Bs) (id : Int) : Bs × (No × Int) :=
  if place (isId id) s.2 < s.2.length then
    let n := rd_T45 s.2 (place (isId id) s.2)
    if waitsB n = false ∨ n.f5 = 0 then (s, (z45, 33))
    else ((s.1, s.2.set (place (isId id) s.2) (acked n)), (acked n, 0))
  else (s, (z45, 31))
def deadN (n : No) : No := ⟨n.f0, n.f1, n.f2, n.f3, 3, n.f5, n.f6, n.f7, n.f8⟩
def tickN (now : Int) (n : No) : No := if spentB now n then deadN n else n
def tickS (s : Bs) (now : Int) : Bs × List Int := ((s.1, s.2.map (tickN now)), (s.2.filter (spentB now)).map (fun n => n.f0))
def dueS (s : Bs) (now : Int) : List No := s.2.filter (dueB now)

/-- A state that may be, as a sentence. -/
structure Snd (s : Bs) : Prop where
  top : s.1 ≤ 1152921504606846976
  few : s.2.length ≤ 128
  each : ∀ n ∈ s.2, 0 < n.f0 ∧ n.f0 ≤ s.1 ∧ fitsB n = true ∧ standsB n = true
  up : s.2.Pairwise (fun a b => a.f0 < b.f0)
theorem soundFrom_iff (top : Int) : ∀ (l : List No) (last : Int), soundFrom top last l = true ↔ (∀ n ∈ l, last < n.f0 ∧ n.f0 ≤ top ∧ fitsB n = true ∧ standsB n = true) ∧ l.Pairwise (fun a b => a.f0 < b.f0)
  | [], last => by simp [soundFrom]
  | n :: l, last => by
    simp only [soundFrom, Bool.and_eq_true, decide_eq_true_eq, soundFrom_iff top l n.f0, List.pairwise_cons, List.mem_cons, forall_eq_or_imp]
    constructor
    · rintro ⟨⟨h1, h2⟩, h3, h4, h5, h6⟩
      exact ⟨⟨⟨h1, h2, h3, h4⟩, fun m hm => ⟨by have := (h5 m hm).1; omega, (h5 m hm).2⟩⟩, fun m hm => (h5 m hm).1, h6⟩
    · rintro ⟨⟨⟨h1, h2, h3, h4⟩, h5⟩, h6, h7⟩
      exact ⟨⟨h1, h2⟩, h3, h4, fun m hm => ⟨h6 m hm, (h5 m hm).2⟩, h7⟩
theorem soundB_iff (s : Bs) : soundB s = true ↔ Snd s := by
  unfold soundB
  rw [Bool.and_eq_true, decide_eq_true_eq, soundFrom_iff]
  exact ⟨fun ⟨⟨h1, h2⟩, h3, h4⟩ => ⟨h1, h2, h3, h4⟩, fun h => ⟨⟨h.top, h.few⟩, h.each, h.up⟩⟩

theorem rd_get {l : List No} {i : Nat} (h : i < l.length) : rd_T45 l (i : Int) = l[i] := by
  unfold PO.rd_T45
  rw [Int.toNat_natCast, List.getD_eq_getElem?_getD, List.getElem?_eq_getElem h, Option.getD_some]
theorem rd_mem45 {l : List No} {i : Nat} (h : i < l.length) : rd_T45 l (i : Int) ∈ l := by rw [rd_get h]; exact List.getElem_mem h
theorem Snd.at {s : Bs} (h : Snd s) {i : Nat} (hi : i < s.2.length) : 0 < (rd_T45 s.2 i).f0 ∧ (rd_T45 s.2 i).f0 ≤ s.1 ∧ fitsB (rd_T45 s.2 i) = true ∧ standsB (rd_T45 s.2 i) = true := h.each _ (rd_mem45 hi)
theorem pairwise_set {l : List No} (h : l.Pairwise (fun a b => a.f0 < b.f0)) {i : Nat} (hi : i < l.length) {m : No} (hm : m.f0 = (rd_T45 l i).f0) : (l.set i m).Pairwise (fun a b => a.f0 < b.f0) := by
  rw [← List.pairwise_map (f := fun n : No => n.f0) (R := fun a b => a < b)] at h ⊢
  rw [List.map_set, hm, rd_get hi]
  have : (l.map fun n : No => n.f0).set i l[i].f0 = l.map fun n : No => n.f0 := by
    apply List.ext_getElem (by simp)
    intro j h1 h2
    rw [List.getElem_set]
    split
    · rename_i e; subst e; simp
    · rfl
  rw [this]
  exact h
theorem Snd.set {s : Bs} (h : Snd s) {i : Nat} (hi : i < s.2.length) {m : No} (h0 : m.f0 = (rd_T45 s.2 i).f0) (hf : fitsB m = true) (hs : standsB m = true) : Snd (s.1, s.2.set i m) := by
  refine ⟨h.top, by simpa using h.few, fun n hn => ?_, pairwise_set h.up hi h0⟩
  rcases List.mem_or_eq_of_mem_set hn with hn | rfl
  · exact h.each n hn
  · have := h.at hi
    exact ⟨by rw [h0]; exact this.1, by rw [h0]; exact this.2.1, hf, hs⟩
theorem tried_fits {now : Int} {n : No} (hf : fitsB n = true) : fitsB (tried now n) = true := by
  have h := of_decide_eq_true hf
  exact decide_eq_true ⟨h.1, h.2.1, by show 1 ≤ min (2 * n.f7) 1048576; omega, by show min (2 * n.f7) 1048576 ≤ 1048576; omega, h.2.2.2.2⟩
theorem tried_stands {now : Int} {n : No} (hf : fitsB n = true) (hs : standsB n = true) (hw : waitsB n = true) (ht : n.f5 < n.f6) (hn : n.f8 ≤ now) : standsB (tried now n) = true := by
  have h := of_decide_eq_true hs
  have h2 := of_decide_eq_true hf
  have h3 : n.f4 = 1 := by simpa [waitsB] using hw
  refine decide_eq_true ⟨by show 0 ≤ n.f5 + 1; omega, by show n.f5 + 1 ≤ n.f6; omega, ?_, ?_, .inl h3⟩
  · show 0 ≤ min now (1125899906842624 - n.f7) + n.f7; omega
  · show min now (1125899906842624 - n.f7) + n.f7 ≤ 1125899906842624; omega
theorem Snd.tryS {s : Bs} (h : Snd s) (id now : Int) : Snd (tryS s id now).1 := by
  unfold Ytabdjehnglmlpaa.tryS
  split
  · rename_i hi
    have ha := h.at hi
    simp only
    split
    · exact h
    · rename_i hc
      simp only [not_or, Bool.not_eq_false, Int.not_le] at hc
      split
      · exact h
      · rename_i hn
        exact h.set hi rfl (tried_fits ha.2.2.1) (tried_stands ha.2.2.1 ha.2.2.2 hc.1 hc.2 (by omega))
  · exact h
theorem Snd.ackS {s : Bs} (h : Snd s) (id : Int) : Snd (ackS s id).1 := by
  unfold Ytabdjehnglmlpaa.ackS
  split
  · rename_i hi
    have ha := h.at hi
    simp only
    split
    · exact h
    · rename_i hc
      simp only [not_or, Bool.not_eq_false] at hc
      have hs := of_decide_eq_true ha.2.2.2
      exact h.set hi rfl ha.2.2.1 (decide_eq_true ⟨hs.1, hs.2.1, hs.2.2.1, hs.2.2.2.1, .inr (.inl ⟨rfl, by have := hs.1; have := hc.2; show 1 ≤ (rd_T45 s.2 _).f5; omega⟩)⟩)
  · exact h
theorem tickN_id (now : Int) (n : No) : (tickN now n).f0 = n.f0 := by unfold tickN; split <;> rfl
theorem Snd.tickS {s : Bs} (h : Snd s) (now : Int) : Snd (tickS s now).1 := by
  refine ⟨h.top, by simpa [Ytabdjehnglmlpaa.tickS] using h.few, fun n hn => ?_, ?_⟩
  · obtain ⟨m, hm, rfl⟩ := List.mem_map.1 hn
    have ha := h.each m hm
    rw [tickN_id]
    refine ⟨ha.1, ha.2.1, ?_⟩
    unfold tickN
    split
    · rename_i hc
      simp only [spentB, Bool.and_eq_true, decide_eq_true_eq] at hc
      have hs := of_decide_eq_true ha.2.2.2
      exact ⟨ha.2.2.1, decide_eq_true ⟨hs.1, hs.2.1, hs.2.2.1, hs.2.2.2.1, .inr (.inr ⟨rfl, by have := hs.2.1; have := hc.2.1; show m.f5 = m.f6; omega⟩)⟩⟩
    · exact ha.2.2
  · show (s.2.map (tickN now)).Pairwise _
    rw [List.pairwise_map]
    exact h.up.imp (fun {a b} hab => by rw [tickN_id, tickN_id]; exact hab)
theorem roomed_sub (l : List No) : (roomed l).Sublist l := by
  unfold roomed
  split
  · exact List.Sublist.refl _
  · exact List.eraseIdx_sublist ..
theorem roomed_len {l : List No} (h : l.length ≤ 128) (hp : ¬ (128 ≤ l.length ∧ place (fun n => !waitsB n) l = l.length)) : (roomed l).length < 128 := by
  unfold roomed
  split
  · assumption
  · rename_i hl
    have := place_le (fun n => !waitsB n) l
    rw [List.length_eraseIdx_of_lt (by omega)]
    omega
theorem Snd.putS {s : Bs} (h : Snd s) (h0 : 0 ≤ s.1) (n : No) (now : Int) : Snd (putS s n now).1 := by
  unfold Ytabdjehnglmlpaa.putS
  split
  · exact h
  · rename_i hc
    simp only [not_or, Bool.not_eq_false] at hc
    split
    · exact h
    · rename_i ht
      split
      · exact h
      · rename_i hr
        have hl := roomed_len h.few hr
        have hf := of_decide_eq_true hc.2
        have hi := of_decide_eq_true hc.1
        refine ⟨by simp only; omega, by simp only [List.length_append, List.length_singleton]; omega, fun m hm => ?_, ?_⟩
        · rcases List.mem_append.1 hm with hm | hm
          · have ha := h.each m ((roomed_sub s.2).subset hm)
            exact ⟨ha.1, by have := ha.2.1; simp only; omega, ha.2.2⟩
          · obtain rfl := List.mem_singleton.1 hm
            exact ⟨by show 0 < s.1 + 1; omega, by show s.1 + 1 ≤ s.1 + 1; omega, decide_eq_true hf, decide_eq_true ⟨by show (0 : Int) ≤ 0; omega, by show 0 ≤ n.f6; omega, hi.1, hi.2, .inl rfl⟩⟩
        · rw [List.pairwise_append]
          refine ⟨h.up.sublist (roomed_sub s.2), List.pairwise_singleton .., fun a ha b hb => ?_⟩
          obtain rfl := List.mem_singleton.1 hb
          have := (h.each a ((roomed_sub s.2).subset ha)).2.1
          show a.f0 < s.1 + 1
          omega
end Go.Proofs.Ytabdjehnglmlpaa
