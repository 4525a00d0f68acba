/- Contracts of Apart: the clock's, and the reference's. -/
import Derived.Test.YtpeknikbipcfaaaClk
namespace Go.Proofs.Ytpeknikbipcfaaa
open Go.RowKit
namespace Clk
/-- How far one place is ahead of another. -/
def apartV (a b long : Int) : Int := if 2 * (a - b) > long then a - b - long else if 2 * (a - b) ≤ -long then a - b + long else a - b
theorem tdiv_neg (n : Int) (h : 0 ≤ n) : Int.tdiv (-(n + 1)) 2 = -((n + 1) / 2) := by
  rw [Int.neg_tdiv, Int.tdiv_eq_ediv_of_nonneg (by omega)]

set_option maxHeartbeats 1000000 in
theorem apart_in (w : World) (a b long : Int) (ha : 0 ≤ a) (hb : 0 ≤ b) (ha' : a < long) (hb' : b < long) (hl : long ≤ 1048576) :
    Calls Try.prog 8 #[.int .i64 a, .int .i64 b, .int .i64 long] w fun e w' => e = .returned (.int .i64 (apartV a b long)) ∧ w = w' := by
  have d1 : decide (a < 0) = false := by simp; omega
  have d2 : decide (b < 0) = false := by simp; omega
  have d3 : decide (long ≤ a) = false := by simp; omega
  have d4 : decide (long ≤ b) = false := by simp; omega
  have ht : (long + 1).tdiv 2 = (long + 1) / 2 := Int.tdiv_eq_ediv_of_nonneg (by omega)
  go_enter Try.func8, Try.ntmps8
  go_wp2
  all_goals
    go_ret
    first
    | exact ⟨ret_int (by unfold apartV; omega), rfl⟩
theorem apart_out_aux (w : World) (a b long : Int) (d1 : decide (a < 0) = true ∨ (decide (a < 0) = false ∧ (decide (b < 0) = true ∨ (decide (b < 0) = false ∧ (decide (long ≤ a) = true ∨ (decide (long ≤ a) = false ∧ decide (long ≤ b) = true)))))) :
    Calls Try.prog 8 #[.int .i64 a, .int .i64 b, .int .i64 long] w fun e w' => e = .returned (.int .i64 0) ∧ w = w' := by
  rcases d1 with d1 | ⟨d1, d2 | ⟨d2, d3 | ⟨d3, d4⟩⟩⟩
  all_goals
    go_enter Try.func8, Try.ntmps8
    go_wp2
    go_ret
    exact ⟨rfl, rfl⟩
theorem apart_out (w : World) (a b long : Int) (h : a < 0 ∨ b < 0 ∨ long ≤ a ∨ long ≤ b) :
    Calls Try.prog 8 #[.int .i64 a, .int .i64 b, .int .i64 long] w fun e w' => e = .returned (.int .i64 0) ∧ w = w' :=
  apart_out_aux w a b long (by simp only [decide_eq_true_eq, decide_eq_false_iff_not]; omega)

set_option maxHeartbeats 1000000 in
theorem rapart_in (w : World) (a b long : Int) (ha : 0 ≤ a) (hb : 0 ≤ b) (ha' : a < long) (hb' : b < long) (hl : long ≤ 1048576) :
    Calls Try.prog 9 #[.int .i64 a, .int .i64 b, .int .i64 long] w fun e w' => e = .returned (.int .i64 (apartV a b long)) ∧ w = w' := by
  have d0 : decide (long < 1) = false := by simp; omega
  have d1 : decide (a < 0) = false := by simp; omega
  have d2 : decide (b < 0) = false := by simp; omega
  have d3 : decide (long ≤ a) = false := by simp; omega
  have d4 : decide (long ≤ b) = false := by simp; omega
  go_enter Try.func9, Try.ntmps9
  go_wp2
  all_goals
    go_ret
    first
    | exact ⟨ret_int (by unfold apartV; omega), rfl⟩
theorem rapart_out_aux (w : World) (a b long : Int) (d0 : decide (long < 1) = true ∨ (decide (long < 1) = false ∧ (decide (a < 0) = true ∨ (decide (a < 0) = false ∧ (decide (b < 0) = true ∨ (decide (b < 0) = false ∧ (decide (long ≤ a) = true ∨ (decide (long ≤ a) = false ∧ decide (long ≤ b) = true)))))))) :
    Calls Try.prog 9 #[.int .i64 a, .int .i64 b, .int .i64 long] w fun e w' => e = .returned (.int .i64 0) ∧ w = w' := by
  rcases d0 with d0 | ⟨d0, d1 | ⟨d1, d2 | ⟨d2, d3 | ⟨d3, d4⟩⟩⟩⟩
  all_goals
    go_enter Try.func9, Try.ntmps9
    go_wp2
    go_ret
    exact ⟨rfl, rfl⟩
theorem rapart_out (w : World) (a b long : Int) (h : a < 0 ∨ b < 0 ∨ long ≤ a ∨ long ≤ b) :
    Calls Try.prog 9 #[.int .i64 a, .int .i64 b, .int .i64 long] w fun e w' => e = .returned (.int .i64 0) ∧ w = w' :=
  rapart_out_aux w a b long (by simp only [decide_eq_true_eq, decide_eq_false_iff_not]; omega)
end Clk
end Go.Proofs.Ytpeknikbipcfaaa
