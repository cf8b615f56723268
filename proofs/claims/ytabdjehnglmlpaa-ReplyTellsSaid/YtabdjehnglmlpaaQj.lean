/- quill.Writer's calls: Raw, Len, Bytes, Flag, Text. -/
import Derived.Test.YtabdjehnglmlpaaQi
namespace Go.Proofs.Ytabdjehnglmlpaa
open Go.RowKit Go.Proofs.YtabdjehnglmlpaaW.PrintWords
set_option linter.unusedVariables false
set_option linter.unusedSimpArgs false

set_option maxHeartbeats 1000000 in
theorem WLen_calls {B : Nat} {w : World} {g : Nat} {v : Value} {xs : List Int} (h : Wtr B w g v xs) :
    Calls Try.prog 77 #[.pointer (some ⟨g, 0, none⟩)] w fun e w' => e = .returned (.int .i64 xs.length) ∧ w' = w := by
  obtain ⟨A, c, rfl, -, -⟩ := h.2.2.reads
  obtain ⟨c0, f0, -, -⟩ := h.cells
  clear h
  go_enter Try.func77, Try.ntmps77
  go_wp2
  go_ret
  exact ⟨rfl, rfl⟩

set_option maxHeartbeats 1000000 in
theorem WBytes_calls {B : Nat} {w : World} {g : Nat} {v : Value} {xs : List Int} (h : Wtr B w g v xs) (hl : xs.length ≤ 140737488355232) :
    Calls Try.prog 27 #[.pointer (some ⟨g, 0, none⟩)] w fun e w' => ∃ v, e = .returned v ∧ OwnB w' w.heap.size v xs ∧ Below w.heap.size w w' := by
  obtain ⟨A, c, rfl, hc, hC⟩ := h.2.2.reads
  obtain ⟨c0, f0, -, -⟩ := h.cells
  have HC := Lib.hid (Clone_calls (c := c) hC hc hl)
  clear h hC
  go_enter Try.func27, Try.ntmps27
  go_wp2_with (go_at_call 105; refine HC.out.mono ?_; rintro e w' ⟨v, rfl, hv, hb⟩; have HV := Lib.hid hv; have HB := Lib.hid hb; clear hv hb)
  go_ret
  exact ⟨_, rfl, HV.out, HB.out⟩

set_option maxHeartbeats 1000000 in
theorem WRaw_calls {B : Nat} {w : World} {g : Nat} {v : Value} {xs ys : List Int} {A : Option Addr} {m c : Nat} (h : Wtr B w g v xs) (hr : Kd.C (Kd.int .u8) w A m ys) (hl : xs.length + m ≤ 100000000) :
    Calls Try.prog 139 #[.pointer (some ⟨g, 0, none⟩), .slice A m c] w fun e w' => e = .returned (.tuple #[]) ∧ ∃ v', WStep B w w' g v v' (xs ++ ys) := by
  obtain ⟨A2, m2, c2, rfl⟩ := h.form
  obtain ⟨c0, f0, hlt, hBs⟩ := h.cells
  have HW := Lib.hid h
  have HR := Lib.hid (Kd.reads_of_C (d := (0 : Int)) hr)
  clear h hr
  go_enter Try.func139, Try.ntmps139
  go_wp2_with (at_builtin; refine print_append_row (w0 := w) B (by rfl) _ _ 22 5 .u8 1 (by rfl) Try.underlying22 info5 (by decide) (.slice A2 m2 c2) xs ys A m c (by rfl) (by rfl) HW.out.2.2 HR.out (Below.refl _ _) hBs (by omega) ?_; intro v1 w1 hown hbel hgrow hat; obtain ⟨A3, m3, k3, rfl⟩ := own_form hown; obtain ⟨c1, f1⟩ := HW.out.after hgrow; have HS := Lib.hid (HW.out.put hown hgrow hat); clear hown hbel hgrow hat)
  go_end0
  exact ⟨rfl, _, HS.out⟩

theorem Wtr.alloc {B : Nat} {w : World} {g : Nat} {v : Value} {xs : List Int} (h : Wtr B w g v xs) (o : Obj) : Wtr B (w.alloc o) g v xs :=
  ⟨(Below.heap_alloc w o g (blk_lt h.1)).trans h.1, h.2.1, World.ownsRow.alloc h.2.2 o⟩
theorem WStep.alloc {B : Nat} {w w1 : World} {g : Nat} {v v1 : Value} {xs : List Int} (h : WStep B w w1 g v v1 xs) (o : Obj) : WStep B w (w1.alloc o) g v v1 xs :=
  ⟨h.1.alloc o, h.2.1.alloc o, h.2.2⟩
theorem Wtr.below {B : Nat} {w w' : World} {g : Nat} {v : Value} {xs : List Int} (h : Wtr B w g v xs) (hb : Below w.heap.size w w') : Wtr B w' g v xs :=
  ⟨(hb.block g (blk_lt h.1)).trans h.1, h.2.1, own_move h.2.2 (fun k hk => hb.block k (h.2.2.lt k hk).2)⟩
theorem WStep.below {B : Nat} {w w1 w2 : World} {g : Nat} {v v1 : Value} {xs : List Int} (h : WStep B w w1 g v v1 xs) (hb : Below w1.heap.size w1 w2) : WStep B w w2 g v v1 xs :=
  ⟨h.1.below hb, h.2.1.trans (Mod.of_below (S := WS g v) hb) (fun _ _ h => h), h.2.2⟩
theorem Wtr.out {B : Nat} {w : World} {g : Nat} {v : Value} {xs : List Int} (h : Wtr B w g v xs) : Out (WS g v) (some ⟨w.heap.size, 0, none⟩) := by
  intro ad e
  injection e with e
  subst e
  rintro (e | e)
  · have := blk_lt h.1; simp only at e; omega
  · have := (h.2.2.lt _ e).2; simp only at this; omega
/-- Num of numbers that are written out. -/
theorem WNum_lit {B : Nat} {W : World} {g : Nat} {v : Value} {xs : List Int} (ns : List Int) (cs : Array Value) (m H : Nat) (h : Wtr B W g v xs) (hH : W.heap.size = H) (hcs : cs = (nums .u64 ns).toArray) (hm : ns.length = m) (hu : U64 ns) (hl : xs.length + 9 * ns.length ≤ 100000000) :
    Calls Try.prog 24 #[.pointer (some ⟨g, 0, none⟩), .slice (some ⟨H, 0, none⟩) m m] (W.alloc (.cells cs 26)) fun e w' => e = .returned (.tuple #[]) ∧ ∃ v', WStep B W w' g v v' (xs ++ encNs ns) := by
  subst hcs; subst hm; subst hH
  refine (WNum_calls (h.alloc _) (lit_reads W .u64 26 ns (by omega)) h.out hu hl).mono ?_
  rintro e w' ⟨rfl, v', hs⟩
  exact ⟨rfl, v', WStep.trans ((WStep.refl h).alloc _) hs⟩
theorem WInt_lit {B : Nat} {W : World} {g : Nat} {v : Value} {xs : List Int} (ns : List Int) (cs : Array Value) (m H : Nat) (h : Wtr B W g v xs) (hH : W.heap.size = H) (hcs : cs = (nums .i64 ns).toArray) (hm : ns.length = m) (hu : I64 ns) (hl : xs.length + 9 * ns.length ≤ 100000000) :
    Calls Try.prog 25 #[.pointer (some ⟨g, 0, none⟩), .slice (some ⟨H, 0, none⟩) m m] (W.alloc (.cells cs 2)) fun e w' => e = .returned (.tuple #[]) ∧ ∃ v', WStep B W w' g v v' (xs ++ encIs ns) := by
  subst hcs; subst hm; subst hH
  refine (WInt_calls (h.alloc _) (lit_reads W .i64 2 ns (by omega)) h.out hu hl).mono ?_
  rintro e w' ⟨rfl, v', hs⟩
  exact ⟨rfl, v', WStep.trans ((WStep.refl h).alloc _) hs⟩
theorem encNs_one (n : Int) : encNs [n] = encN n 0 := by simp [encNs]
theorem encIs_one (n : Int) : encIs [n] = encI n := by simp [encIs]
theorem U64.one {n : Int} (h0 : 0 ≤ n) (h1 : n ≤ 18446744073709551615) : U64 [n] := fun x hx => by rw [List.mem_singleton.1 hx]; exact ⟨h0, h1⟩
theorem I64.one {n : Int} (h0 : -9223372036854775808 ≤ n) (h1 : n ≤ 9223372036854775807) : I64 [n] := fun x hx => by rw [List.mem_singleton.1 hx]; exact ⟨h0, h1⟩

set_option maxRecDepth 100000 in
set_option maxHeartbeats 2000000 in
theorem WFlag_calls {B : Nat} {w : World} {g : Nat} {v : Value} {xs : List Int} {ad : Addr} {b : Bool} {c : Nat} (h : Wtr B w g v xs) (hr : w.cell? ad = some (.bool b)) (hl : xs.length ≤ 10000000) :
    Calls Try.prog 135 #[.pointer (some ⟨g, 0, none⟩), .slice (some ad) 1 c] w fun e w' => e = .returned (.tuple #[]) ∧ ∃ v', WStep B w w' g v v' (xs ++ encF b) := by
  have HN := Lib.hid (WNum_lit [if b then 1 else 0] #[.int .u64 (if b then 1 else 0)] 1 _ h rfl rfl rfl (U64.one (by split <;> decide) (by split <;> decide)) (by simp; omega))
  have HF : Hid (encNs [if b then 1 else 0] = encF b) := encNs_one _
  clear h
  go_enter Try.func135, Try.ntmps135
  go_wp2
  cases b
  all_goals
    simp only [if_true, if_false, Bool.false_eq_true] at HN HF
    refine wp_loop_rounds 2 ?_
    rw [rounds_succ]
    go_wp2_with (go_at_call 24; refine HN.out.mono ?_; rintro e w' ⟨rfl, v3, hs3⟩; have HS := Lib.hid hs3; clear hs3)
    rw [rounds_succ]
    go_wp2
    go_end0
    exact ⟨rfl, v3, by rw [← HF.out]; exact HS.out⟩

set_option maxRecDepth 100000 in
set_option maxHeartbeats 2000000 in
theorem WText_calls {B : Nat} {w : World} {g : Nat} {v : Value} {xs : List Int} {s : ByteArray} (h : Wtr B w g v xs) (hl : xs.length + s.size ≤ 10000000) :
    Calls Try.prog 137 #[.pointer (some ⟨g, 0, none⟩), .string s] w fun e w' => e = .returned (.tuple #[]) ∧ ∃ v', WStep B w w' g v v' (xs ++ (encN s.size 0 ++ bytesOf s)) := by
  have HN := Lib.hid (WNum_lit [(s.size : Int)] #[.int .u64 s.size] 1 _ h rfl rfl rfl (U64.one (by omega) (by omega)) (by simp; omega))
  have kb := fun W => print_bytes (P := Try.prog) 9 22 5 Try.underlying9 Try.underlying22 Try.underlying5 s W
  have hsz : (s.size : Int) ≤ 10000000 := by omega
  clear h
  go_enter Try.func137, Try.ntmps137
  go_wp2_with (first
    | (go_at_call 24; refine HN.out.mono ?_; rintro e w1 ⟨rfl, v3, hs3⟩; have HS := Lib.hid hs3; have HB := Lib.hid (bytes_below (Below.refl w1.heap.size w1) (Nat.le_refl _) 5 s); clear hs3)
    | (go_at_call 139; refine (WRaw_calls (HS.out.below HB.out).1 (Kd.C_of_reads (d := (0 : Int)) (bytes_reads w1 5 s (by omega))) (by have := encNs_len [(s.size : Int)]; simp only [List.length_append, List.length_singleton] at this ⊢; omega)).mono ?_; rintro e w2 ⟨rfl, v4, hs4⟩; have HS2 := Lib.hid hs4; clear hs4))
  go_end0
  refine ⟨rfl, v4, ?_⟩
  have := WStep.trans (HS.out.below HB.out) HS2.out
  rw [encNs_one, List.append_assoc] at this
  exact this

end Go.Proofs.Ytabdjehnglmlpaa
