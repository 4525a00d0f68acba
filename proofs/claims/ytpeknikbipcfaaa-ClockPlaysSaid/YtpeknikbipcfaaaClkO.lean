/- The clock statements' own check 'one': a clock that slips. -/
import Derived.Test.YtpeknikbipcfaaaClk
import Derived.Test.YtpeknikbipcfaaaClkR
import Derived.Test.YtpeknikbipcfaaaClkS
import Derived.Test.YtpeknikbipcfaaaClkA
namespace Go.Proofs.Ytpeknikbipcfaaa
open Go.RowKit
namespace Clk
set_option maxHeartbeats 1000000 in
theorem one_any (w : World) : Calls Try.prog 10 #[] w fun e w' => e = .returned (.bool true) ∧ Below w.heap.size w w' := by
  have v1 : passed 0 (-1) 10 0 = true := by decide
  have v2 : tAt 9 10 1 = 1 := by decide
  have v3 : tLast 9 10 1 = -1 := by decide
  have v4 : tFrame 9 10 0 1 = 1 := by decide
  have v5 : passed 1 (-1) 10 0 = true := by decide
  have v6 : passed 1 (-1) 10 1 = true := by decide
  have v7 : passed 1 (-1) 10 2 = false := by decide
  have v8 : apartV 1 9 10 = 2 := by decide
  go_enter Try.func10, Try.ntmps10
  go_wp2_with fail
  refine (new_yes _ 10 (by omega) (by omega)).mono ?_
  rintro e w1 ⟨rfl, rfl⟩
  have HB := Blk.new w 46 (cells 0 (-1) 10 0)
  have HW := (Below.refl w.heap.size w).alloc (Nat.le_refl _) (.cells (cells 0 (-1) 10 0).toArray 46)
  go_wp2_with fail
  refine (passed_any _ _ _ _ _ _ _ HB (by omega) (by omega)).mono ?_
  rintro e w1 ⟨rfl, hs⟩
  replace HB := HB.kept (gb_same hs none) (by simp)
  replace HW := HW.trans (hs.below w.heap.size)
  clear hs
  go_wp2_with fail
  go_loopw [3] (fun i wr => ∃ k : Nat, k ≤ 9 ∧ i = .int .i64 k ∧ Blk wr w.heap.size 46 (cells k (k - 1) 10 0) ∧ Below w.heap.size w wr) (fun i _ => 9 - (intOf i).toNat)
  case atStart => exact ⟨0, by omega, rfl, HB, HW⟩
  case round =>
    obtain ⟨k, hk, rfl, HB', HW'⟩ := hrel
    clear HB HW
    by_cases hlt : k < 9
    · have u1 : tAt k 10 0 = k + 1 := by unfold tAt; rw [if_neg (by omega)]; omega
      have u2 : tLast k 10 0 = k := by unfold tLast; rw [if_neg (by omega)]
      have u3 : tFrame k 10 0 0 = 0 := by unfold tFrame; rw [if_neg (by omega)]
      have HB1 := HB'
      go_wp2_with fail
      refine (tick_any _ _ _ _ _ _ _ HB1 (by omega) (by omega) (by omega) (by omega) (by omega) (by omega)).mono ?_
      rintro e w2 ⟨rfl, hB2, hg⟩
      rw [u1, u2, u3] at hB2
      have HW2 := HW'.trans (gb_below hg (by have := HW'.size; omega) (by intro k hk; cases hk; exact Nat.le_refl _))
      clear u1 u2 u3 HB1 HB' HW' hg
      go_wp2_with fail
      go_roundw
      case rel =>
        have e : (((k + 1 : Nat) : Int) - 1) = k := by omega
        exact ⟨k + 1, by omega, by go_num, by rw [e]; exact hB2, HW2⟩
      case measure => simp [intOf]; omega
    · obtain rfl : k = 9 := by omega
      replace HB' : Blk wr w.heap.size 46 (cells 9 8 10 0) := HB'
      go_wp2_with fail
      refine (pos_any _ _ _ _ _ _ HB' (by omega)).mono ?_
      rintro e w2 ⟨rfl, rfl⟩
      go_wp2_with fail
      refine (tick_any _ _ _ _ _ _ _ HB' (by omega) (by omega) (by omega) (by omega) (by omega) (by omega)).mono ?_
      rintro e w2 ⟨rfl, hB2, hg⟩
      rw [v2, v3, v4] at hB2
      replace hB2 : Blk w2 w.heap.size 46 (cells 1 (-1) 10 1) := hB2
      have HW2 := HW'.trans (gb_below hg (by have := HW'.size; omega) (by intro k hk; cases hk; exact Nat.le_refl _))
      clear HB' HW' hg
      go_wp2_with fail
      refine (pos_any _ _ _ _ _ _ hB2 (by omega)).mono ?_
      rintro e w3 ⟨rfl, rfl⟩
      go_wp2_with fail
      refine (passed_any _ _ _ _ _ _ _ hB2 (by omega) (by omega)).mono ?_
      rintro e w3 ⟨rfl, hs⟩
      replace hB2 := hB2.kept (gb_same hs none) (by simp)
      replace HW2 := HW2.trans (hs.below w.heap.size)
      clear hs
      go_wp2_with fail
      refine (passed_any _ _ _ _ _ _ _ hB2 (by omega) (by omega)).mono ?_
      rintro e w3 ⟨rfl, hs⟩
      replace hB2 := hB2.kept (gb_same hs none) (by simp)
      replace HW2 := HW2.trans (hs.below w.heap.size)
      clear hs
      go_wp2_with fail
      refine (passed_any _ _ _ _ _ _ _ hB2 (by omega) (by omega)).mono ?_
      rintro e w3 ⟨rfl, hs⟩
      replace hB2 := hB2.kept (gb_same hs none) (by simp)
      replace HW2 := HW2.trans (hs.below w.heap.size)
      clear hs
      go_wp2_with fail
      refine (frame_any _ _ _ _ _ _ hB2 (by omega)).mono ?_
      rintro e w3 ⟨rfl, rfl⟩
      go_wp2_with fail
      refine (apart_in _ _ _ _ (by omega) (by omega) (by omega) (by omega) (by omega)).mono ?_
      rintro e w3 ⟨rfl, rfl⟩
      go_wp2_with fail
      go_ret
      exact ⟨rfl, HW2⟩
end Clk
end Go.Proofs.Ytpeknikbipcfaaa
