/- The reference's clock: Tick and Passed, by value. -/
import Derived.Test.YtpeknikbipcfaaaClkR
namespace Go.Proofs.Ytpeknikbipcfaaa
open Go.RowKit
attribute [local go_sem] max2_i64 min2_i64 max_two' min_two'
set_option linter.unusedVariables false
namespace Clk
abbrev ragg (at_ last long frame : Int) : Value := .agg #[.int .i64 at_, .int .i64 last, .int .i64 long, .int .i64 frame]
theorem bel_of_new {w : World} (o : Obj) : Below w.heap.size w (w.alloc o) := (Below.refl _ _).alloc (Nat.le_refl _) _
set_option maxHeartbeats 1000000 in
theorem rtick_any (w : World) (at_ last long frame s : Int) (h1 : 0 < long) (h2 : long ≤ 1048576) (h3 : 0 ≤ at_) (h4 : at_ < long) (h5 : 0 ≤ frame) (h6 : frame < 4611686018427387904) :
    Calls Try.prog 20 #[ragg at_ last long frame, .int .i64 s] w fun e w' => e = .returned (ragg (tAt at_ long s) (tLast at_ long s) long (tFrame at_ long frame s)) ∧ w.grownBy w' none := by
  by_cases hov : long ≤ at_ + 1 + max (-1) (min s 1)
  · have e1 : tAt at_ long s = at_ + 1 + max (-1) (min s 1) - long := by unfold tAt; rw [if_pos hov]
    have e2 : tLast at_ long s = at_ - long := by unfold tLast; rw [if_pos hov]
    have e3 : tFrame at_ long frame s = frame + 1 := by unfold tFrame; rw [if_pos hov]
    rw [e1, e2, e3]
    clear e1 e2 e3
    go_enter Try.func20, Try.ntmps20
    go_wp2
    refine bodyPost_ret (v := ragg (at_ + 1 + max (-1) (min s 1) - long) (at_ - long) long (frame + 1)) (by simp [results, Try.results20, go_sem]) rfl ⟨rfl, ?_⟩
    exact gb_alloc (gb_alloc (gb_refl _ _) _) _
  · have e1 : tAt at_ long s = at_ + 1 + max (-1) (min s 1) := by unfold tAt; rw [if_neg hov]
    have e2 : tLast at_ long s = at_ := by unfold tLast; rw [if_neg hov]
    have e3 : tFrame at_ long frame s = frame := by unfold tFrame; rw [if_neg hov]
    rw [e1, e2, e3]
    clear e1 e2 e3
    go_enter Try.func20, Try.ntmps20
    go_wp2
    refine bodyPost_ret (v := ragg (at_ + 1 + max (-1) (min s 1)) at_ long frame) (by simp [results, Try.results20, go_sem]) rfl ⟨rfl, ?_⟩
    exact gb_alloc (gb_alloc (gb_refl _ _) _) _
set_option maxHeartbeats 1000000 in
theorem rpassed_any (w : World) (at_ last long frame p : Int) (h1 : 0 < long) (h2 : long ≤ 1048576) :
    Calls Try.prog 22 #[ragg at_ last long frame, .int .i64 p] w fun e w' => e = .returned (.bool (passed at_ last long p)) ∧ w.grownBy w' none := by
  by_cases c1 : p < 0 ∨ long ≤ p
  · have HP := Lib.hid (passed_no (at_ := at_) (last := last) (long := long) (p := p) (by omega))
    rcases c1 with c1 | c1
    · have d1 : decide (p < 0) = true := by simpa using c1
      go_enter Try.func22, Try.ntmps22
      go_wp2
      go_ret
      exact ⟨by rw [HP.out]; rfl, gb_alloc (gb_refl _ _) _⟩
    · have d1 : decide (p < 0) = false := by simp; omega
      have d2 : decide (long ≤ p) = true := by simpa using c1
      go_enter Try.func22, Try.ntmps22
      go_wp2
      go_ret
      exact ⟨by rw [HP.out]; rfl, gb_alloc (gb_refl _ _) _⟩
  · have d1 : decide (p < 0) = false := by simp; omega
    have d2 : decide (long ≤ p) = false := by simp; omega
    have b1 : 0 ≤ p := by omega
    have b2 : p < long := by omega
    have HP : Hid (passed at_ last long p = decide ((p > last ∧ p ≤ at_) ∨ (p - long > last ∧ p - long ≤ at_))) := by
      by_cases c3 : at_ = last
      · show passed at_ last long p = _
        rw [passed_no (by omega)]; symm; rw [decide_eq_false_iff_not]; omega
      · exact passed_in (by omega)
    clear c1
    go_enter Try.func22, Try.ntmps22
    go_wp2
    all_goals
      go_ret
      refine ⟨ret_bool ?_, gb_alloc (gb_refl _ _) _⟩
      rw [HP.out]
      first
      | (symm; rw [decide_eq_true_eq]; omega)
      | (symm; rw [decide_eq_false_iff_not]; omega)
      | (rw [decide_eq_decide]; omega)
end Clk
end Go.Proofs.Ytpeknikbipcfaaa
