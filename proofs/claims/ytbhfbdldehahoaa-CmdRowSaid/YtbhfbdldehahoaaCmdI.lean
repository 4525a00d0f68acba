/- Commands: what the laws share: string(b), the command that is known. -/
import Derived.Test.YtbhfbdldehahoaaCmdH
import Derived.Test.YtbhfbdldehahoaaOpen
import Derived.Laws.BytesArg
namespace Go.Proofs.Ytbhfbdldehahoaa
open Go.RowKit
set_option linter.unusedVariables false
set_option linter.unusedSimpArgs false
namespace Cm
theorem conv_cells {P : Program} (w : World) {src dst e : TypeId} (A : Option Addr) (n c : Nat) (xs : List Int) (hs : P.underlying src = some (.slice e)) (he : P.underlying e = some (.int .u8)) (hd : P.underlying dst = some .string)
    (hlen : xs.length = n) (hA : 0 < n → ∃ b off, A = some ⟨b, off, none⟩ ∧ ∀ i, i < n → w.cell? ⟨b, off + i, none⟩ = some (.int .u8 (xs.getD i 0))) :
    (convert src dst (.slice A n c)).run P w = .ok (.string (strOfNums xs)) w := by
  by_cases hn : 0 < n
  · obtain ⟨b, off, rfl, hc⟩ := hA hn
    exact run_convert_bytes_arg w src e hs he b off n c xs hlen hc dst hd
  · obtain rfl : n = 0 := by omega
    obtain rfl : xs = [] := by simpa using hlen
    cases A with
    | none => exact run_convert_bytes_nil w src e hs he 0 c dst hd
    | some a =>
      rw [run_convert_bytes_string w src dst e _ 0 c hs he hd, run_bytesToString w a 0 c [] (by unfold loadCells loadCellsFrom; simp [Sem.run_pure])]
      rfl
/-- A slice of bytes: its cells. -/
structure Sl (w : World) (base : Nat) (A : Option Addr) (n c : Nat) (l : List Int) : Prop where
  len : l.length = n
  le : n ≤ c
  cap : c ≤ 9223372036854775807
  rd : 0 < n → ∃ b off, A = some ⟨b, off, none⟩ ∧ base ≤ b ∧ b < w.heap.size ∧ ∀ i, i < n → w.cell? ⟨b, off + i, none⟩ = some (.int .u8 (l.getD i 0))
theorem cell_kept {w w' : World} {b off : Nat} (h : w.grownBy w' none) (hb : b < w.heap.size) : w'.cell? ⟨b, off, none⟩ = w.cell? ⟨b, off, none⟩ := by
  simp only [World.cell?]
  rw [h.block b hb (by simp)]
theorem Sl.kept {w w' : World} {base n c : Nat} {A : Option Addr} {l : List Int} (h : Sl w base A n c l) (hg : w.grownBy w' none) : Sl w' base A n c l := by
  refine ⟨h.len, h.le, h.cap, fun hn => ?_⟩
  obtain ⟨b, off, e, h1, h2, h3⟩ := h.rd hn
  exact ⟨b, off, e, h1, Nat.lt_of_lt_of_le h2 hg.size, fun i hi => (cell_kept hg h2).trans (h3 i hi)⟩
theorem Sl.conv {P : Program} {w : World} {base n c : Nat} {A : Option Addr} {l : List Int} {src dst e : TypeId} (h : Sl w base A n c l) (hs : P.underlying src = some (.slice e)) (he : P.underlying e = some (.int .u8)) (hd : P.underlying dst = some .string) :
    (convert src dst (.slice A n c)).run P w = .ok (.string (strOfNums l)) w :=
  conv_cells w A n c l hs he hd h.len fun hn => by
    obtain ⟨b, off, e, h1, h2, h3⟩ := h.rd hn
    exact ⟨b, off, e, h3⟩
theorem Sl.of_own {w : World} {base : Nat} {e : TypeId} {A : Option Addr} {c n : Nat} {l : List Int} (h : w.ownsRow base e 1 (.slice A n c) n (nums .u8 l)) : Sl w base A n c l := by
  have hl := own_len h
  rcases h.2 with ⟨h2, h3⟩ | ⟨g, cap, cur, h2, hb, hg, hn, hm, _⟩
  · injection h2 with v1 v2 v3
    subst v1 v3
    exact ⟨hl, by omega, by omega, fun hn => absurd hn (by omega)⟩
  · injection h2 with v1 v2 v3
    subst v1 v3
    refine ⟨hl, by omega, by unfold maxLen at hm; omega, fun h0 => ?_⟩
    obtain ⟨A', c', hv, hr⟩ := own_rd h
    injection hv with w1 w2 w3
    subst w1 w3
    obtain ⟨b, off, e1, hlt, hc⟩ := hr h0
    have e4 : g = b := by injection e1 with e2; injection e2
    subst e4
    exact ⟨_, off, e1, hb, hlt, hc⟩
theorem put_bytes (c : Cd) (h : right c) : ∀ x ∈ put c, 0 ≤ x ∧ x ≤ 255 := by
  intro x hx
  unfold right at h
  unfold put at hx
  by_cases h1 : c.op = 1
  · simp [h1] at hx h; omega
  by_cases h2 : c.op = 2
  · simp [h2] at hx h; omega
  by_cases h3 : c.op = 3
  · simp [h3] at hx h; omega
  by_cases h4 : c.op = 4
  · simp [h4] at hx h; omega
  by_cases h6 : c.op = 6 ∨ c.op = 8
  · simp [h1, h2, h3, h4, h6] at hx
    simp [h1, h2, h3, h4] at h
    omega
  · simp [h1, h2, h3, h4, h6] at hx
    simp [h1, h2, h3, h4] at h
    omega
theorem getD_bytes {l : List Int} (h : ∀ x ∈ l, 0 ≤ x ∧ x ≤ 255) (i : Nat) : 0 ≤ l.getD i 0 ∧ l.getD i 0 ≤ 255 := by
  rw [List.getD_eq_getElem?_getD]
  cases hx : l[i]? with
  | none => simp
  | some x => exact h x (List.mem_of_getElem? hx)
/-- Put's contract. -/
theorem put_sl (w : World) (c : Cd) (hr : right c) (r0 : -9223372036854775808 ≤ c.words) (r1 : c.words ≤ 9223372036854775807) (r2 : -9223372036854775808 ≤ c.many) (r3 : c.many ≤ 9223372036854775807) :
    Calls Try.prog 11 #[c.v] w fun e w' => ∃ A cp, e = .returned (.tuple #[.slice A (put c).length cp, .int .i64 0]) ∧ Sl w' w.heap.size A (put c).length cp (put c) ∧ w.grownBy w' none := by
  refine (put_yes w c hr r0 r1 r2 r3).mono ?_
  rintro e w' ⟨A, cp, rfl, hown, hg⟩
  exact ⟨A, cp, rfl, Sl.of_own hown, hg⟩
theorem read_sl (w : World) {base : Nat} (A : Option Addr) (n c : Nat) (l : List Int) (i : Int) (h : Sl w base A n c l) (hb : ∀ x ∈ l, 0 ≤ x ∧ x ≤ 255) :
    Calls Try.prog 7 #[.slice A n c, .int .i64 i] w fun e w' => e = .returned (res (readV n (fun i => l.getD i 0) i).1 (readV n (fun i => l.getD i 0) i).2.1 (readV n (fun i => l.getD i 0) i).2.2) ∧ w.grownBy w' none :=
  read_any w A n c (fun i => l.getD i 0) i h.le h.cap (fun hn => by
    obtain ⟨b, off, e, h1, h2, h3⟩ := h.rd hn
    exact ⟨b, off, e, h2, h3⟩) (fun i hi => getD_bytes hb i)
set_option maxRecDepth 100000 in
set_option maxHeartbeats 2000000 in
theorem one_any (w : World) : Calls Try.prog 10 #[] w fun e w' => e = .returned (.bool true) ∧ w.grownBy w' none := by
  go_enter Try.func10, Try.ntmps10
  go_wp2_with fail
  refine (put_sl _ ⟨6, 0, 0, 0, 0, 0, 258⟩ (by unfold right; simp) (by simp) (by simp) (by simp) (by simp)).mono ?_
  have hp : put ⟨6, 0, 0, 0, 0, 0, 258⟩ = [6, 1, 2] := by simp [put]
  rw [hp]
  rintro e w1 ⟨A, cp, rfl, hs, hg⟩
  replace hs : Sl w1 w.heap.size A 3 cp [6, 1, 2] := hs
  go_wp2_with fail
  refine (read_sl _ A 3 cp [6, 1, 2] 0 hs (by simp)).mono ?_
  have hv : readV 3 (fun i => [(6 : Int), 1, 2].getD i 0) 0 = (⟨6, 0, 0, 0, 0, 0, 258⟩, 3, 0) := by
    have hd : dec (fun i => [(6 : Int), 1, 2].getD i 0) 0 = ⟨6, 0, 0, 0, 0, 0, 258⟩ := by simp [dec]
    have hn : need 6 = 2 := by simp [need]
    have hr : right ⟨6, 0, 0, 0, 0, 0, 258⟩ := by simp [right]
    unfold readV
    rw [if_neg (by simp), if_neg (by simp), if_neg (by simp)]
    simp only [Int.toNat_zero, hd]
    rw [if_neg (by simp [need]), if_pos (by rw [hd]; exact hr)]
    simp [need]
  rw [hv]
  rintro e w2 ⟨rfl, hg2⟩
  have hcv := ((hs.kept hg2).kept (gb_alloc (gb_refl w2 none) (.cells #[.int .i64 6, .int .i64 0, .int .i64 0, .int .i64 0, .int .i64 0, .int .i64 0, .int .i64 258] 24))).conv Try.underlying22 Try.underlying5 Try.underlying9
  have hso : strOfNums [6, 1, 2] = ⟨#[6, 1, 2]⟩ := by rfl
  rw [hso] at hcv
  go_wp2_with fail
  go_ret
  exact ⟨rfl, gb_alloc (gb_trans hg hg2) _⟩
theorem bz_str {l : List Int} (h : ∀ x ∈ l, 0 ≤ x ∧ x ≤ 255) : bz (strOfNums l) = fun i => l.getD i 0 := by
  funext i
  unfold bz strOfNums
  rw [List.getD_eq_getElem?_getD]
  simp only [List.getElem?_toArray, List.getElem?_map]
  cases hx : l[i]? with
  | none => rfl
  | some x =>
    have := h x (List.mem_of_getElem? hx)
    simp
    omega
theorem sl_in {w : World} {A : Option Addr} {n c : Nat} {z : Nat → Int} (hn : n ≤ c) (hc : c ≤ maxLen) (h : Rd w w.heap.size A n (fun i => .int .u8 (z i))) (hz : ∀ i, i < n → 0 ≤ z i ∧ z i ≤ 255) :
    ∃ l : List Int, Sl w 0 A n c l ∧ ∀ x ∈ l, 0 ≤ x ∧ x ≤ 255 := by
  refine ⟨(List.range n).map z, ⟨by simp, hn, by unfold maxLen at hc; omega, fun h0 => ?_⟩, ?_⟩
  · obtain ⟨b, off, e, hlt, hcell⟩ := h h0
    refine ⟨b, off, e, by omega, hlt, fun i hi => ?_⟩
    rw [hcell i hi]
    simp [List.getD_eq_getElem?_getD, hi]
  · intro x hx
    simp at hx
    obtain ⟨i, hi, rfl⟩ := hx
    exact hz i hi
end Cm
end Go.Proofs.Ytbhfbdldehahoaa
