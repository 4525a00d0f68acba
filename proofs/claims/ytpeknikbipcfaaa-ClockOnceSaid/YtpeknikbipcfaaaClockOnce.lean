/- ClockOnce: the plain laws of places, and the walk. -/
import Derived.Test.YtpeknikbipcfaaaClkO
import Derived.Test.YtpeknikbipcfaaaOpen
namespace Go.Proofs.Ytpeknikbipcfaaa
open Go.ChangeShapes Go.WideShapes Go.ChangeAt Go.RowKit
set_option linter.unusedVariables false
attribute [local go_sem] max2_i64 min2_i64 max_two' min_two'
namespace clockOnceW
open Clk
/-- A step of less than a frame: the place and the frame behind it. -/
theorem mod_step (S L j : Int) (hL : 0 < L) (h0 : 0 ≤ j) (h1 : j < L) :
    (S % L + j < L → (S + j) % L = S % L + j ∧ (S + j) / L = S / L) ∧ (L ≤ S % L + j → (S + j) % L = S % L + j - L ∧ (S + j) / L = S / L + 1) := by
  have e := Int.emod_add_mul_ediv S L
  have e0 := Int.emod_nonneg S (show L ≠ 0 by omega)
  have e1 := Int.emod_lt_of_pos S hL
  constructor
  · intro h
    have := (Int.ediv_emod_unique (a := S + j) (b := L) (r := S % L + j) (q := S / L) hL).2 ⟨by omega, by omega, by omega⟩
    exact ⟨this.2, this.1⟩
  · intro h
    have hd : L * (S / L + 1) = L * (S / L) + L := by rw [Int.mul_add, Int.mul_one]
    have := (Int.ediv_emod_unique (a := S + j) (b := L) (r := S % L + j - L) (q := S / L + 1) hL).2 ⟨by omega, by omega, by omega⟩
    exact ⟨this.2, this.1⟩
/-- What a slip comes to: 0, 1 or 2 places. -/
def go (s : Int) : Int := 1 + max (-1) (min s 1)
theorem go_range (s : Int) : 0 ≤ go s ∧ go s ≤ 2 := by unfold go; omega
theorem at_next (S L s : Int) (hL : 8 ≤ L) (hS : 0 ≤ S) : tAt (S % L) L s = (S + go s) % L := by
  obtain ⟨g0, g1⟩ := go_range s
  obtain ⟨m1, m2⟩ := mod_step S L (go s) (by omega) g0 (by omega)
  have e1 := Int.emod_lt_of_pos S (show 0 < L by omega)
  unfold tAt
  unfold go at *
  split
  · rw [(m2 (by omega)).1]; omega
  · rw [(m1 (by omega)).1]; omega
theorem frame_next (S L s : Int) (hL : 8 ≤ L) (hS : 0 ≤ S) : tFrame (S % L) L (S / L) s = (S + go s) / L := by
  obtain ⟨g0, g1⟩ := go_range s
  obtain ⟨m1, m2⟩ := mod_step S L (go s) (by omega) g0 (by omega)
  have e1 := Int.emod_lt_of_pos S (show 0 < L by omega)
  unfold tFrame
  unfold go at *
  split
  · rw [(m2 (by omega)).2]
  · rw [(m1 (by omega)).2]
/-- Which places were passed: just the next ones, as many as the slip says. -/
theorem passed_next (S L s j : Int) (hL : 8 ≤ L) (hS : 0 ≤ S) (h0 : 0 ≤ j) (h1 : j ≤ go s) :
    passed (tAt (S % L) L s) (tLast (S % L) L s) L ((S + 1 + j) % L) = decide (j < go s) := by
  obtain ⟨g0, g1⟩ := go_range s
  obtain ⟨m1, m2⟩ := mod_step S L (1 + j) (by omega) (by omega) (by omega)
  rw [show S + 1 + j = S + (1 + j) by omega]
  have e0 := Int.emod_nonneg S (show L ≠ 0 by omega)
  have e1 := Int.emod_lt_of_pos S (show 0 < L by omega)
  generalize S % L = a at *
  generalize hr : (S + (1 + j)) % L = r at *
  have hr' : (a + (1 + j) < L ∧ r = a + (1 + j)) ∨ (L ≤ a + (1 + j) ∧ r = a + (1 + j) - L) := by
    by_cases h : a + (1 + j) < L
    · exact .inl ⟨h, (m1 h).1⟩
    · exact .inr ⟨by omega, (m2 (by omega)).1⟩
  clear m1 m2 hr
  unfold passed tAt tLast
  unfold go at *
  generalize max (-1) (min s 1) = x at *
  by_cases hov : a + 1 + x ≥ L
  · simp only [if_pos hov]
    split
    · symm; rw [decide_eq_false_iff_not]; omega
    · rw [decide_eq_decide]; omega
  · simp only [if_neg hov]
    split
    · symm; rw [decide_eq_false_iff_not]; omega
    · rw [decide_eq_decide]; omega
set_option maxHeartbeats 400000 in
theorem long_list (w : World) (n0 : Int) (A : Option Addr) (len cap : Nat) (hlen : 600 < len) (hm : len ≤ maxLen) :
    Calls Try.prog 4 #[.int .i64 n0, .slice A len cap] w fun e w' => e = .returned (.bool true) ∧ Below w.heap.size w w' := by
  unfold maxLen at hm
  obtain ⟨m, hm', HM, h0, h1⟩ := masked 8 (by omega) n0 255 (by decide)
  clear HM
  obtain ⟨L, hL, l0, l1⟩ : ∃ L, 8 + m = L ∧ 8 ≤ L ∧ L ≤ 263 := ⟨_, rfl, by omega, by omega⟩
  have d1 : decide ((600 : Int) < (len : Int)) = true := by simp; omega
  go_enter Try.func4, Try.ntmps4
  go_wp2_with fail
  refine (new_yes _ L (by omega) (by omega)).mono ?_
  rintro e w1 ⟨rfl, rfl⟩
  go_wp2_with fail
  go_ret
  exact ⟨rfl, (Below.refl w.heap.size w).alloc (Nat.le_refl _) _⟩

set_option maxHeartbeats 2000000 in
theorem walk_any (w : World) (n0 : Int) (A : Option Addr) (len cap : Nat) (z : Nat → Int) (hlen : len ≤ 600) (hr : Rd w w.heap.size A len (fun i => .int .i64 (z i))) (hz : ∀ i, i < len → -9223372036854775808 ≤ z i ∧ z i ≤ 9223372036854775807) :
    Calls Try.prog 4 #[.int .i64 n0, .slice A len cap] w fun e w' => e = .returned (.bool true) ∧ Below w.heap.size w w' := by
  obtain ⟨m, hm', HM, h0, h1⟩ := masked 8 (by omega) n0 255 (by decide)
  clear HM
  obtain ⟨L, hL, l0, l1⟩ : ∃ L, 8 + m = L ∧ 8 ≤ L ∧ L ≤ 263 := ⟨_, rfl, by omega, by omega⟩
  have d1 : decide ((600 : Int) < (len : Int)) = false := by simp; omega
  have HR := Lib.hid hr
  have HZ := Lib.hid hz
  clear hr hz
  go_enter Try.func4, Try.ntmps4
  go_wp2_with fail
  refine (new_yes _ L (by omega) (by omega)).mono ?_
  rintro e w1 ⟨rfl, rfl⟩
  have HB := Blk.new w 46 (cells 0 (-1) L 0)
  have HW := (Below.refl w.heap.size w).alloc (Nat.le_refl _) (.cells (cells 0 (-1) L 0).toArray 46)
  go_wp2_with fail
  go_loopw [7, 8, 9] (fun nx sm i wr => ∃ (k : Nat) (S last : Int), k ≤ len ∧ 0 ≤ S ∧ S ≤ 2 * k ∧ nx = .int .i64 (S + 1) ∧ sm = .int .i64 S ∧ i = .int .i64 k ∧
      Blk wr w.heap.size 46 (cells (S % L) last L (S / L)) ∧ Below w.heap.size w wr) (fun _ _ i _ => len - (intOf i).toNat)
  case atStart => exact ⟨0, 0, -1, Nat.zero_le _, by omega, by omega, rfl, rfl, rfl, by simpa using HB, HW⟩
  case round =>
    obtain ⟨k, S, last, hk, s0, s1, rfl, rfl, rfl, hB, hW⟩ := hrel
    clear HB HW
    by_cases hlt : k < len
    · obtain ⟨b, off, rfl, hb, hc⟩ := HR.out (by omega)
      have hcell : wr.cell? ⟨b, off + k, none⟩ = some (.int .i64 (z k)) := (hW.cell (p := ⟨b, off + k, none⟩) hb).trans (hc k hlt)
      clear hc
      obtain ⟨z0, z1⟩ := HZ.out k hlt
      obtain ⟨g, hg, g0, g1⟩ : ∃ g, max (-1) (min (z k) 1) = g ∧ -1 ≤ g ∧ g ≤ 1 := ⟨_, rfl, by omega, by omega⟩
      have hgo : go (z k) = 1 + g := by unfold go; rw [hg]
      have e1 := at_next S L (z k) l0 s0
      have e2 := frame_next S L (z k) l0 s0
      have e3 := passed_next S L (z k)
      rw [hgo, show S + (1 + g) = S + 1 + g by omega] at e1 e2
      rw [hgo] at e3
      have E1 := Lib.hid e1
      have E2 := Lib.hid e2
      have E3 := Lib.hid e3
      have q0 : 0 ≤ S % L := Int.emod_nonneg _ (by omega)
      have q1 : S % L < L := Int.emod_lt_of_pos _ (by omega)
      have q2 : 0 ≤ S / L := Int.ediv_nonneg s0 (by omega)
      have q3 : S / L ≤ S := Int.ediv_le_self _ s0
      clear e1 e2 e3 hgo
      go_wp2_with fail
      refine (tick_any _ _ _ _ _ _ _ hB (by omega) (by omega) q0 q1 q2 (by omega)).mono ?_
      rintro e w2 ⟨rfl, hB2, hg2⟩
      rw [E1.out, E2.out] at hB2
      obtain ⟨l', hl'⟩ : ∃ l', tLast (S % L) L (z k) = l' := ⟨_, rfl⟩
      have hp := E3.out
      rw [E1.out] at hp
      rw [hl'] at hB2 hp
      have HP := Lib.hid hp
      have hW2 := hW.trans (gb_below hg2 (by have := hW.size; omega) (by intro k hk; cases hk; exact Nat.le_refl _))
      clear E1 E2 E3 hl' hp hg2 hB hW q0 q1 q2 q3
      go_wp2_with fail
      go_loopw [7, 11] (fun nx n wi => ∃ j : Int, 0 ≤ j ∧ j ≤ 1 + g ∧ nx = .int .i64 (S + 1 + j) ∧ n = .int .i64 j ∧
          Blk wi w.heap.size 46 (cells ((S + 1 + g) % L) l' L ((S + 1 + g) / L)) ∧ Below w.heap.size w wi) (fun _ n _ => 4 - (intOf n).toNat)
      case atStart => exact ⟨0, by omega, by omega, by go_num, rfl, hB2, hW2⟩
      case round =>
        obtain ⟨j, j0, j1, rfl, rfl, hB3, hW3⟩ := hrel
        clear hB2 hW2
        have hpj := HP.out j (by omega) (by omega) (by omega) (by omega)
        go_wp2_with fail
        refine (passed_any _ _ _ _ _ _ _ hB3 (by omega) (by omega)).mono ?_
        rw [hpj]
        rintro e w4 ⟨rfl, hs⟩
        replace hB3 := hB3.kept (gb_same hs none) (by simp)
        replace hW3 := hW3.trans (hs.below w.heap.size)
        clear hs hpj
        by_cases hj : j < 1 + g
        · have dj : decide (j < 1 + g) = true := by simpa using hj
          rw [dj]
          go_wp2_with fail
          go_roundw
          case rel => exact ⟨j + 1, by omega, by omega, by go_num, rfl, hB3, hW3⟩
          case measure => simp [intOf]; omega
        · have dj : decide (j < 1 + g) = false := by simpa using hj
          rw [dj]
          obtain rfl : j = 1 + g := by omega
          go_wp2_with fail
          have y0 : 0 ≤ S + 1 + g := by omega
          rw [show S + 1 + (1 + g) = S + 1 + g + 1 by omega]
          have hcS := hB3.cell 0 _ rfl
          go_quiet ((first | (go_at_call 14; exact q_eq (pos_any _ _ _ _ _ _ (hB3.drewN _) (by omega))) | (go_at_call 15; exact q_eq (frame_any _ _ _ _ _ _ (hB3.drewN _) (by omega)))))
          go_wp2_with fail
          go_roundw
          case rel => exact ⟨k + 1, S + 1 + g, l', by omega, by omega, by omega, by go_num, rfl, by go_num, hB3.drewN _, hW3.trans (((Same.refl _).drewN _).below _)⟩
          case measure => simp [intOf]; omega
    · obtain rfl : k = len := by omega
      go_wp2_with fail
      refine (one_any _).mono ?_
      rintro e w2 ⟨rfl, hb2⟩
      go_wp2_with fail
      go_ret
      exact ⟨rfl, hW.trans (hb2.mono hW.size)⟩
theorem walk {H : Type} {enc : TypeId × Value → H} (base : Nat) (W : World) (v0 : Value) (d0 : DataW H) (p0 : List MemPlace) (v1 : Value) (d1 : DataW H) (p1 : List MemPlace)
    (o0 : Value.okWide Try.prog W .any base 3 v0) (o1 : Value.okWide Try.prog W .any base 25 v1)
    (h0 : DataW.Trod enc Try.prog W 0 (fun _ => true) true 3 v0 d0 p0) (h1 : DataW.Trod enc Try.prog W 0 (fun _ => true) true 25 v1 d1 p1) :
    Calls Try.prog 4 #[v0, v1] W fun e w' => e = .returned (.bool true) ∧ Below W.heap.size W w' := by
  obtain ⟨n0, rfl, rfl, rfl, wn⟩ := open_int Try.underlying3 o0 h0
  obtain ⟨A, len, cap, z, rfl, hl, hm, hr, hz⟩ := open_rd Try.underlying25 Try.underlying3 (by kernel_rfl) o1 h1
  by_cases h : len ≤ 600
  · exact walk_any W n0 A len cap z h hr (fun i hi => wf_i64 (hz i hi))
  · exact long_list W n0 A len cap (by omega) (by omega)
end clockOnceW
end Go.Proofs.Ytpeknikbipcfaaa
