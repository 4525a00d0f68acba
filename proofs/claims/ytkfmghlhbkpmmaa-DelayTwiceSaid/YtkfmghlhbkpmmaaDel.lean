/- Contracts of package delay: a ring that keeps the last sixteen. -/
import Derived.Test.YtkfmghlhbkpmmaaMore
namespace Go.Proofs.Ytkfmghlhbkpmmaa
open Go.RowKit
set_option linter.unusedVariables false
namespace Dly
abbrev ptr (b : Nat) : Value := .pointer (some ⟨b, 0, none⟩)
/-- The cells of a delay. -/
def cells (ticks : Int) (count : Nat) (ring : List Int) : List Value := .bool true :: .int .i64 ticks :: .int .i64 count :: ring.map (fun x => .int .u8 x)
theorem cells_ring (ticks : Int) (count : Nat) (ring : List Int) (i : Nat) (h : i < ring.length) : (cells ticks count ring)[3 + i]? = some (.int .u8 (ring.getD i 0)) := by
  have e : 3 + i = i + 1 + 1 + 1 := by omega
  rw [e]
  simp [cells, h]
theorem cells_set (ticks : Int) (count : Nat) (ring : List Int) (i : Nat) (x : Int) : (cells ticks count ring).set (3 + i) (.int .u8 x) = cells ticks count (ring.set i x) := by
  have e : 3 + i = i + 1 + 1 + 1 := by omega
  rw [e]
  simp [cells, List.map_set]
theorem cells_one (ticks : Int) (count : Nat) (ring : List Int) : (cells ticks count ring).toArray.all (·.oneCell') = true := by
  simp [cells, Value.oneCell']
theorem cells_count (ticks : Int) (count c : Nat) (ring : List Int) : (cells ticks count ring).set 2 (.int .i64 c) = cells ticks c ring := by
  simp [cells]

/-- The delay at block b has t ticks, and has been handed these. -/
def At (w : World) (b : Nat) (t : Int) (h : List Int) : Prop := ∃ ring : List Int, ring.length = 16 ∧ Blk w b 36 (cells t h.length ring) ∧ ∀ i, i < h.length → h.length ≤ i + 16 → ring.getD (i % 16) 0 = h.getD i 0
theorem At.kept {w w' : World} {b : Nat} {t : Int} {h : List Int} {r : Option Nat} (hA : At w b t h) (hg : w.grownBy w' r) (hr : some b ≠ r) : At w' b t h := by
  obtain ⟨ring, h1, h2, h3⟩ := hA
  exact ⟨ring, h1, h2.kept hg hr, h3⟩
theorem At.lt {w : World} {b : Nat} {t : Int} {h : List Int} (hA : At w b t h) : b < w.heap.size := by
  obtain ⟨ring, _, h2, _⟩ := hA
  exact h2.lt
/-- What is seen t ticks later. -/
def seen (h : List Int) (t : Nat) : Int := if h.length ≤ t then 0 else h.getD (h.length - 1 - t) 0

set_option maxHeartbeats 400000 in
theorem none_nil (w : World) : Calls Try.prog 12 #[.pointer none] w fun e w' => e = .returned (.bool true) ∧ w = w' := by
  go_enter Try.func12, Try.ntmps12
  go_wp2
  go_ret
  exact ⟨rfl, rfl⟩
set_option maxHeartbeats 400000 in
theorem none_made (w : World) (b : Nat) (m : Bool) (hc : w.cell? ⟨b, 0, none⟩ = some (.bool m)) : Calls Try.prog 12 #[ptr b] w fun e w' => e = .returned (.bool (!m)) ∧ w = w' := by
  go_enter Try.func12, Try.ntmps12
  go_wp2
  go_ret
  exact ⟨rfl, rfl⟩
set_option maxHeartbeats 400000 in
theorem last_any (w : World) (b : Nat) (t : Int) (h : List Int) (hA : At w b t h) : Calls Try.prog 10 #[ptr b] w fun e w' => e = .returned (.int .i64 (h.length : Int)) ∧ w = w' := by
  obtain ⟨ring, hl, hB, hr⟩ := hA
  have hc0 := hB.cell 0 _ rfl
  have hc1 := hB.cell 1 _ rfl
  have hc2 := hB.cell 2 _ rfl
  have H := Lib.hid hB
  clear hB hr
  go_enter Try.func10, Try.ntmps10
  go_wp2
  go_ret
  exact ⟨rfl, rfl⟩
set_option maxHeartbeats 400000 in
theorem last_nil (w : World) : Calls Try.prog 10 #[.pointer none] w fun e w' => e = .returned (.int .i64 0) ∧ w = w' := by
  go_enter Try.func10, Try.ntmps10
  go_wp2
  go_ret
  exact ⟨rfl, rfl⟩
set_option maxHeartbeats 400000 in
theorem last_zero (w : World) (b : Nat) (hc : w.cell? ⟨b, 0, none⟩ = some (.bool false)) : Calls Try.prog 10 #[ptr b] w fun e w' => e = .returned (.int .i64 0) ∧ w = w' := by
  go_enter Try.func10, Try.ntmps10
  go_wp2
  go_ret
  exact ⟨rfl, rfl⟩
set_option maxHeartbeats 400000 in
theorem ticks_any (w : World) (b : Nat) (t : Int) (h : List Int) (hA : At w b t h) : Calls Try.prog 11 #[ptr b] w fun e w' => e = .returned (.int .i64 t) ∧ w = w' := by
  obtain ⟨ring, hl, hB, hr⟩ := hA
  have hc0 := hB.cell 0 _ rfl
  have hc1 := hB.cell 1 _ rfl
  have hc2 := hB.cell 2 _ rfl
  have H := Lib.hid hB
  clear hB hr
  go_enter Try.func11, Try.ntmps11
  go_wp2
  go_ret
  exact ⟨rfl, rfl⟩
set_option maxHeartbeats 400000 in
theorem ticks_nil (w : World) : Calls Try.prog 11 #[.pointer none] w fun e w' => e = .returned (.int .i64 0) ∧ w = w' := by
  go_enter Try.func11, Try.ntmps11
  go_wp2
  go_ret
  exact ⟨rfl, rfl⟩
set_option maxHeartbeats 400000 in
theorem ticks_zero (w : World) (b : Nat) (hc : w.cell? ⟨b, 0, none⟩ = some (.bool false)) : Calls Try.prog 11 #[ptr b] w fun e w' => e = .returned (.int .i64 0) ∧ w = w' := by
  go_enter Try.func11, Try.ntmps11
  go_wp2
  go_ret
  exact ⟨rfl, rfl⟩

set_option maxHeartbeats 1000000 in
theorem see_early (w : World) (b t c : Nat) (ring : List Int) (l : Int) (hl : ring.length = 16) (hB : Blk w b 36 (cells t c ring)) (ht : t ≤ 15) (hc : c < 4611686018427387904) (hlt : c < t) :
    Calls Try.prog 8 #[ptr b, .int .u8 l] w fun e w' => e = .returned (.int .u8 0) ∧ Blk w' b 36 (cells t (c + 1) (ring.set (c % 16) l)) ∧ w.grownBy w' (some b) := by
  have hc0 := hB.cell 0 _ rfl
  have hc1 := hB.cell 1 _ rfl
  have hc2 := hB.cell 2 _ rfl
  have hcr := hB.cell (3 + c % 16) _ (cells_ring t c ring (c % 16) (by omega))
  have hf1 := hB.free 1
  have hf2 := hB.free 2
  have hfr := hB.free (3 + c % 16)
  have hlt := hB.lt
  have H := Lib.hid hB
  clear hB
  go_enter Try.func8, Try.ntmps8
  go_wp2_with (first | (go_at_call 12; refine (none_made _ _ true (by simpa using hc0)).mono ?_; rintro e w' ⟨rfl, rfl⟩) | go_in)
  go_region
  go_wp2
  go_region
  go_upto_region 6 with (fail)
  refine forget_world (fun w' => Blk w' b 36 (cells t (c + 1) (ring.set (c % 16) l)) ∧ w.grownBy w' (some b)) ⟨?_, ?_⟩ ?_
  · rw [← cells_count t c (c + 1), ← cells_set]
    exact ((H.out.set _ _).set _ _).drew.drew
  · exact gb_drew (gb_drew (gb_set (gb_set (gb_refl _ _) _ _) _ _))
  rintro w2 ⟨hB2, hg2⟩
  go_wp2
  go_ret
  exact ⟨rfl, hB2, hg2⟩
set_option maxHeartbeats 1000000 in
theorem see_late (w : World) (b t c : Nat) (ring : List Int) (l : Int) (hl : ring.length = 16) (hB : Blk w b 36 (cells t c ring)) (ht : t ≤ 15) (hc : c < 4611686018427387904) (hge : t ≤ c) :
    Calls Try.prog 8 #[ptr b, .int .u8 l] w fun e w' => e = .returned (.int .u8 ((ring.set (c % 16) l).getD ((c - t) % 16) 0)) ∧ Blk w' b 36 (cells t (c + 1) (ring.set (c % 16) l)) ∧ w.grownBy w' (some b) := by
  have hc0 := hB.cell 0 _ rfl
  have hc1 := hB.cell 1 _ rfl
  have hc2 := hB.cell 2 _ rfl
  have hcr := hB.cell (3 + c % 16) _ (cells_ring t c ring (c % 16) (by omega))
  have hf1 := hB.free 1
  have hf2 := hB.free 2
  have hfr := hB.free (3 + c % 16)
  have hlt := hB.lt
  have H := Lib.hid hB
  clear hB
  go_enter Try.func8, Try.ntmps8
  go_wp2_with (first | (go_at_call 12; refine (none_made _ _ true (by simpa using hc0)).mono ?_; rintro e w' ⟨rfl, rfl⟩) | go_in)
  go_region
  go_wp2
  go_region
  go_upto_region 6 with (fail)
  refine forget_world (fun w' => Blk w' b 36 (cells t (c + 1) (ring.set (c % 16) l)) ∧ w.grownBy w' (some b)) ⟨?_, ?_⟩ ?_
  · rw [← cells_count t c (c + 1), ← cells_set]
    exact ((H.out.set _ _).set _ _).drew.drew
  · exact gb_drew (gb_drew (gb_set (gb_set (gb_refl _ _) _ _) _ _))
  rintro w2 ⟨hB2, hg2⟩
  have hd := hB2.cell (3 + (c - t) % 16) _ (cells_ring t (c + 1) _ ((c - t) % 16) (by simp; omega))
  go_wp2
  go_ret
  exact ⟨rfl, hB2, hg2⟩

theorem getD_set_eq (l : List Int) (i : Nat) (x : Int) (h : i < l.length) : (l.set i x).getD i 0 = x := by
  simp [List.getD_eq_getElem?_getD, h]
theorem getD_set_ne (l : List Int) (i j : Nat) (x : Int) (h : i ≠ j) : (l.set i x).getD j 0 = l.getD j 0 := by
  simp [List.getD_eq_getElem?_getD, h]
theorem getD_append_old (h : List Int) (x : Int) (i : Nat) (hi : i < h.length) : (h ++ [x]).getD i 0 = h.getD i 0 := by
  simp [List.getD_eq_getElem?_getD, List.getElem?_append_left hi]
theorem getD_append_new (h : List Int) (x : Int) : (h ++ [x]).getD h.length 0 = x := by
  simp [List.getD_eq_getElem?_getD]
theorem ring_next {ring h : List Int} (l : Int) (hl : ring.length = 16) (hr : ∀ i, i < h.length → h.length ≤ i + 16 → ring.getD (i % 16) 0 = h.getD i 0) :
    ∀ i, i < (h ++ [l]).length → (h ++ [l]).length ≤ i + 16 → (ring.set (h.length % 16) l).getD (i % 16) 0 = (h ++ [l]).getD i 0 := by
  intro i hi hi'
  simp only [List.length_append, List.length_cons, List.length_nil] at hi hi'
  by_cases e : i = h.length
  · subst e
    rw [getD_set_eq _ _ _ (by omega), getD_append_new]
  · rw [getD_set_ne _ _ _ _ (by omega), getD_append_old _ _ _ (by omega)]
    exact hr i (by omega) (by omega)
theorem see_any (w : World) (b t : Nat) (h : List Int) (l : Int) (hA : At w b t h) (ht : t ≤ 15) (hc : h.length < 4611686018427387904) :
    Calls Try.prog 8 #[ptr b, .int .u8 l] w fun e w' => e = .returned (.int .u8 (seen (h ++ [l]) t)) ∧ At w' b t (h ++ [l]) ∧ w.grownBy w' (some b) := by
  obtain ⟨ring, hl, hB, hr⟩ := hA
  have hn := ring_next l hl hr
  by_cases hlt : h.length < t
  · refine (see_early w b t h.length ring l hl hB ht hc hlt).mono ?_
    rintro e w' ⟨rfl, hB', hg⟩
    refine ⟨by rw [show seen (h ++ [l]) t = 0 by unfold seen; rw [if_pos (by simp; omega)]], ⟨_, by simpa using hl, by simpa using hB', hn⟩, hg⟩
  · refine (see_late w b t h.length ring l hl hB ht hc (by omega)).mono ?_
    rintro e w' ⟨rfl, hB', hg⟩
    refine ⟨?_, ⟨_, by simpa using hl, by simpa using hB', hn⟩, hg⟩
    rw [hn (h.length - t) (by simp; omega) (by simp; omega)]
    unfold seen
    rw [if_neg (by simp; omega)]
    simp
set_option maxHeartbeats 400000 in
theorem see_nil (w : World) (l : Int) : Calls Try.prog 8 #[.pointer none, .int .u8 l] w fun e w' => e = .returned (.int .u8 0) ∧ w = w' := by
  go_enter Try.func8, Try.ntmps8
  go_wp2
  go_ret
  exact ⟨rfl, rfl⟩
set_option maxHeartbeats 400000 in
theorem see_zero (w : World) (b : Nat) (l : Int) (hc : w.cell? ⟨b, 0, none⟩ = some (.bool false)) : Calls Try.prog 8 #[ptr b, .int .u8 l] w fun e w' => e = .returned (.int .u8 0) ∧ w = w' := by
  go_enter Try.func8, Try.ntmps8
  go_wp2
  go_ret
  exact ⟨rfl, rfl⟩
/-- A new one. -/
theorem at_new (w : World) (t : Int) : At (w.alloc (.cells (cells t 0 (List.replicate 16 0)).toArray 36)) w.heap.size t [] :=
  ⟨List.replicate 16 0, rfl, Blk.new w 36 _, fun i hi => absurd hi (by simp)⟩
set_option maxHeartbeats 400000 in
theorem new_yes (w : World) (t : Int) (h0 : 0 ≤ t) (h1 : t ≤ 15) :
    Calls Try.prog 5 #[.int .i64 t] w fun e w' => e = .returned (.tuple #[ptr w.heap.size, .int .i64 0]) ∧ w' = w.alloc (.cells (cells t 0 (List.replicate 16 0)).toArray 36) := by
  have d1 : decide (t < 0) = false := by simp; omega
  have d2 : decide (16 ≤ t) = false := by simp; omega
  go_enter Try.func5, Try.ntmps5
  go_wp2
  go_ret2
  exact ⟨rfl, rfl⟩
set_option maxHeartbeats 400000 in
theorem new_no (w : World) (t : Int) (h : t < 0 ∨ 15 < t) :
    Calls Try.prog 5 #[.int .i64 t] w fun e w' => e = .returned (.tuple #[.pointer none, .int .i64 2]) ∧ w = w' := by
  rcases h with h | h
  · have d1 : decide (t < 0) = true := by simpa using h
    go_enter Try.func5, Try.ntmps5
    go_wp2
    go_ret2
    exact ⟨rfl, rfl⟩
  · have d1 : decide (t < 0) = false := by simp; omega
    have d2 : decide (16 ≤ t) = true := by simp; omega
    go_enter Try.func5, Try.ntmps5
    go_wp2
    go_ret2
    exact ⟨rfl, rfl⟩
set_option maxHeartbeats 400000 in
theorem clear_nil (w : World) : Calls Try.prog 7 #[.pointer none] w fun e w' => e = .returned (.tuple #[]) ∧ w = w' := by
  go_enter Try.func7, Try.ntmps7
  go_wp2
  go_end0
  exact ⟨rfl, rfl⟩
set_option maxHeartbeats 400000 in
theorem clear_zero (w : World) (b : Nat) (hc : w.cell? ⟨b, 0, none⟩ = some (.bool false)) : Calls Try.prog 7 #[ptr b] w fun e w' => e = .returned (.tuple #[]) ∧ w = w' := by
  go_enter Try.func7, Try.ntmps7
  go_wp2
  go_end0
  exact ⟨rfl, rfl⟩
set_option maxHeartbeats 1000000 in
theorem clear_any (w : World) (b : Nat) (t : Int) (h : List Int) (hA : At w b t h) :
    Calls Try.prog 7 #[ptr b] w fun e w' => e = .returned (.tuple #[]) ∧ At w' b t [] ∧ w.grownBy w' (some b) := by
  obtain ⟨ring, hl, hB, hr⟩ := hA
  have hc0 := hB.cell 0 _ rfl
  have hc1 := hB.cell 1 _ rfl
  have hs : (cells t h.length ring).toArray.size = 19 := by simp [cells, hl]
  have H := Lib.hid hB
  have HS := Lib.hid hs
  clear hB hr hs
  go_enter Try.func7, Try.ntmps7
  go_wp2_with (first | (go_at_call 12; refine (none_made _ _ true (by simpa using hc0)).mono ?_; rintro e w' ⟨rfl, rfl⟩) | (refine wpList_store_row rfl 36 (.tmp 11) (.tmp 10) rfl b (cells t 0 (List.replicate 16 0)).toArray rfl rfl 36 _ H.out (by kernel_rfl) (by rw [HS.out]; simp [cells]) (cells_one _ _ _) ?_) | go_in)
  go_end0
  refine ⟨rfl, ⟨List.replicate 16 0, rfl, ?_, fun i hi => absurd hi (by simp)⟩, ?_⟩
  · exact setRow_heap _ _ _ _ _ _ H.out
  · exact ⟨rfl, rfl, rfl, by simp, fun k _ hk => setRow_other _ _ _ _ (by intro e; exact hk (by rw [e]))⟩
end Dly
end Go.Proofs.Ytkfmghlhbkpmmaa
