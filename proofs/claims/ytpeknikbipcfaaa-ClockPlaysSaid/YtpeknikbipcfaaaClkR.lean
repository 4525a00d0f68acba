/- Contracts of package clock: the readers. -/
import Derived.Test.YtpeknikbipcfaaaClk
namespace Go.Proofs.Ytpeknikbipcfaaa
open Go.RowKit
attribute [local go_sem] max2_i64 min2_i64 max_two' min_two'
namespace Clk

set_option maxHeartbeats 400000 in
theorem pos_any (w : World) (b : Nat) (at_ last long frame : Int) (hB : Blk w b 46 (cells at_ last long frame)) (h1 : 0 < long) :
    Calls Try.prog 14 #[ptr b] w fun e w' => e = .returned (.int .i64 at_) ∧ w = w' := by
  have hc0 := hB.cell 0 _ rfl
  have hc2 := hB.cell 2 _ rfl
  have hc3 := hB.cell 3 _ rfl
  have hz : (long == 0) = false := by simp; omega
  have H := Lib.hid hB
  clear hB
  go_enter Try.func14, Try.ntmps14
  go_wp2
  go_ret
  exact ⟨rfl, rfl⟩
set_option maxHeartbeats 400000 in
theorem pos_zero (w : World) (b : Nat) (hc2 : w.cell? ⟨b, 2, none⟩ = some (.int .i64 0)) :
    Calls Try.prog 14 #[ptr b] w fun e w' => e = .returned (.int .i64 0) ∧ w = w' := by
  go_enter Try.func14, Try.ntmps14
  go_wp2
  go_ret
  exact ⟨rfl, rfl⟩
set_option maxHeartbeats 400000 in
theorem pos_nil (w : World) :
    Calls Try.prog 14 #[.pointer none] w fun e w' => e = .returned (.int .i64 0) ∧ w = w' := by
  go_enter Try.func14, Try.ntmps14
  go_wp2
  go_ret
  exact ⟨rfl, rfl⟩

set_option maxHeartbeats 400000 in
theorem long_any (w : World) (b : Nat) (at_ last long frame : Int) (hB : Blk w b 46 (cells at_ last long frame)) (h1 : 0 < long) :
    Calls Try.prog 21 #[ptr b] w fun e w' => e = .returned (.int .i64 long) ∧ w = w' := by
  have hc0 := hB.cell 0 _ rfl
  have hc2 := hB.cell 2 _ rfl
  have hc3 := hB.cell 3 _ rfl
  have hz : (long == 0) = false := by simp; omega
  have H := Lib.hid hB
  clear hB
  go_enter Try.func21, Try.ntmps21
  go_wp2
  go_ret
  exact ⟨rfl, rfl⟩
set_option maxHeartbeats 400000 in
theorem long_zero (w : World) (b : Nat) (hc2 : w.cell? ⟨b, 2, none⟩ = some (.int .i64 0)) :
    Calls Try.prog 21 #[ptr b] w fun e w' => e = .returned (.int .i64 0) ∧ w = w' := by
  go_enter Try.func21, Try.ntmps21
  go_wp2
  go_ret
  exact ⟨rfl, rfl⟩
set_option maxHeartbeats 400000 in
theorem long_nil (w : World) :
    Calls Try.prog 21 #[.pointer none] w fun e w' => e = .returned (.int .i64 0) ∧ w = w' := by
  go_enter Try.func21, Try.ntmps21
  go_wp2
  go_ret
  exact ⟨rfl, rfl⟩

set_option maxHeartbeats 400000 in
theorem frame_any (w : World) (b : Nat) (at_ last long frame : Int) (hB : Blk w b 46 (cells at_ last long frame)) (h1 : 0 < long) :
    Calls Try.prog 15 #[ptr b] w fun e w' => e = .returned (.int .i64 frame) ∧ w = w' := by
  have hc0 := hB.cell 0 _ rfl
  have hc2 := hB.cell 2 _ rfl
  have hc3 := hB.cell 3 _ rfl
  have hz : (long == 0) = false := by simp; omega
  have H := Lib.hid hB
  clear hB
  go_enter Try.func15, Try.ntmps15
  go_wp2
  go_ret
  exact ⟨rfl, rfl⟩
set_option maxHeartbeats 400000 in
theorem frame_zero (w : World) (b : Nat) (hc2 : w.cell? ⟨b, 2, none⟩ = some (.int .i64 0)) :
    Calls Try.prog 15 #[ptr b] w fun e w' => e = .returned (.int .i64 0) ∧ w = w' := by
  go_enter Try.func15, Try.ntmps15
  go_wp2
  go_ret
  exact ⟨rfl, rfl⟩
set_option maxHeartbeats 400000 in
theorem frame_nil (w : World) :
    Calls Try.prog 15 #[.pointer none] w fun e w' => e = .returned (.int .i64 0) ∧ w = w' := by
  go_enter Try.func15, Try.ntmps15
  go_wp2
  go_ret
  exact ⟨rfl, rfl⟩

/-- Passed, as the code tells it. -/
def passed (at_ last long p : Int) : Bool := if p < 0 ∨ p ≥ long ∨ at_ = last then false else decide ((p > last ∧ p ≤ at_) ∨ (p - long > last ∧ p - long ≤ at_))
theorem passed_no {at_ last long p : Int} (h : p < 0 ∨ p ≥ long ∨ at_ = last) : passed at_ last long p = false := by unfold passed; rw [if_pos h]
theorem passed_in {at_ last long p : Int} (h : ¬ (p < 0 ∨ p ≥ long ∨ at_ = last)) : passed at_ last long p = decide ((p > last ∧ p ≤ at_) ∨ (p - long > last ∧ p - long ≤ at_)) := by unfold passed; rw [if_neg h]

set_option maxHeartbeats 1000000 in
theorem passed_any (w : World) (b : Nat) (at_ last long frame p : Int) (hB : Blk w b 46 (cells at_ last long frame)) (h1 : 0 < long) (h2 : long ≤ 1048576) :
    Calls Try.prog 13 #[ptr b, .int .i64 p] w fun e w' => e = .returned (.bool (passed at_ last long p)) ∧ Same w w' := by
  have hc0 := hB.cell 0 _ rfl
  have hc1 := hB.cell 1 _ rfl
  have hc2 := hB.cell 2 _ rfl
  have hz : (long == 0) = false := by simp; omega
  have H := Lib.hid hB
  clear hB
  by_cases c1 : p < 0
  · have HP := Lib.hid (passed_no (at_ := at_) (last := last) (long := long) (p := p) (.inl c1))
    have d1 : decide (p < 0) = true := by simpa using c1
    clear c1
    go_enter Try.func13, Try.ntmps13
    go_wp2
    go_quiet ((go_at_call 24; exact q_eq (none_pos _ _ _ h1 (by simpa using hc2))))
    go_wp2
    go_ret
    exact ⟨by rw [HP.out]; rfl, by repeat (first | exact Same.refl _ | apply Same.drewN | apply Same.drew)⟩
  have d1 : decide (p < 0) = false := by simpa using c1
  by_cases c2 : long ≤ p
  · have HP := Lib.hid (passed_no (at_ := at_) (last := last) (long := long) (p := p) (.inr (.inl c2)))
    have d2 : decide (long ≤ p) = true := by simpa using c2
    clear c1 c2
    go_enter Try.func13, Try.ntmps13
    go_wp2
    go_quiet ((go_at_call 24; exact q_eq (none_pos _ _ _ h1 (by simpa using hc2))))
    go_wp2
    go_ret
    exact ⟨by rw [HP.out]; rfl, by repeat (first | exact Same.refl _ | apply Same.drewN | apply Same.drew)⟩
  have d2 : decide (long ≤ p) = false := by simpa using c2
  by_cases c3 : at_ = last
  · have HP := Lib.hid (passed_no (at_ := at_) (last := last) (long := long) (p := p) (.inr (.inr c3)))
    subst c3
    clear c1 c2
    go_enter Try.func13, Try.ntmps13
    go_wp2
    go_quiet ((go_at_call 24; exact q_eq (none_pos _ _ _ h1 (by simpa using hc2))))
    go_wp2
    go_ret
    exact ⟨by rw [HP.out]; rfl, by repeat (first | exact Same.refl _ | apply Same.drewN | apply Same.drew)⟩
  have hne : (last == at_) = false := by simp; omega
  have HP := Lib.hid (passed_in (at_ := at_) (last := last) (long := long) (p := p) (by omega))
  by_cases e1 : last < p
  · by_cases e2 : p ≤ at_
    · have HD := Lib.hid (show decide ((p > last ∧ p ≤ at_) ∨ (p - long > last ∧ p - long ≤ at_)) = true by simp; omega)
      have g1 : decide (last < p) = true := by simpa using e1
      have g2 : decide (p ≤ at_) = true := by simpa using e2
      clear c1 c2 c3 e1 e2
      go_enter Try.func13, Try.ntmps13
      go_wp2
      go_quiet ((go_at_call 24; exact q_eq (none_pos _ _ _ h1 (by simpa using hc2))))
      go_wp2
      go_quiet (fail)
      go_wp2
      go_ret
      exact ⟨by rw [HP.out, HD.out]; rfl, by repeat (first | exact Same.refl _ | apply Same.drewN | apply Same.drew)⟩
    · have g1 : decide (last < p) = true := by simpa using e1
      have g2 : decide (p ≤ at_) = false := by simpa using e2
      by_cases e3 : last < p - long
      · have g3 : decide (last < p - long) = true := by simpa using e3
        by_cases e4 : p - long ≤ at_
        · have g4 : decide (p - long ≤ at_) = true := by simpa using e4
          have HD := Lib.hid (show decide ((p > last ∧ p ≤ at_) ∨ (p - long > last ∧ p - long ≤ at_)) = true by simp; omega)
          have b1 : 0 ≤ p := by omega
          have b2 : p < long := by omega
          clear c1 c2 c3 e1 e2 e3 e4
          go_enter Try.func13, Try.ntmps13
          go_wp2
          go_quiet ((go_at_call 24; exact q_eq (none_pos _ _ _ h1 (by simpa using hc2))))
          go_wp2
          go_quiet (fail)
          go_wp2
          go_ret
          exact ⟨by rw [HP.out, HD.out]; rfl, by repeat (first | exact Same.refl _ | apply Same.drewN | apply Same.drew)⟩
        · have g4 : decide (p - long ≤ at_) = false := by simpa using e4
          have HD := Lib.hid (show decide ((p > last ∧ p ≤ at_) ∨ (p - long > last ∧ p - long ≤ at_)) = false by simp; omega)
          have b1 : 0 ≤ p := by omega
          have b2 : p < long := by omega
          clear c1 c2 c3 e1 e2 e3 e4
          go_enter Try.func13, Try.ntmps13
          go_wp2
          go_quiet ((go_at_call 24; exact q_eq (none_pos _ _ _ h1 (by simpa using hc2))))
          go_wp2
          go_quiet (fail)
          go_wp2
          go_ret
          exact ⟨by rw [HP.out, HD.out]; rfl, by repeat (first | exact Same.refl _ | apply Same.drewN | apply Same.drew)⟩
      · have g3 : decide (last < p - long) = false := by simpa using e3
        have HD := Lib.hid (show decide ((p > last ∧ p ≤ at_) ∨ (p - long > last ∧ p - long ≤ at_)) = false by simp; omega)
        have b1 : 0 ≤ p := by omega
        have b2 : p < long := by omega
        clear c1 c2 c3 e1 e2 e3
        go_enter Try.func13, Try.ntmps13
        go_wp2
        go_quiet ((go_at_call 24; exact q_eq (none_pos _ _ _ h1 (by simpa using hc2))))
        go_wp2
        go_quiet (fail)
        go_wp2
        go_ret
        exact ⟨by rw [HP.out, HD.out]; rfl, by repeat (first | exact Same.refl _ | apply Same.drewN | apply Same.drew)⟩
  · have g1 : decide (last < p) = false := by simpa using e1
    have g3 : decide (last < p - long) = false := by simp; omega
    have HD := Lib.hid (show decide ((p > last ∧ p ≤ at_) ∨ (p - long > last ∧ p - long ≤ at_)) = false by simp; omega)
    have b1 : 0 ≤ p := by omega
    have b2 : p < long := by omega
    clear c1 c2 c3 e1
    go_enter Try.func13, Try.ntmps13
    go_wp2
    go_quiet ((go_at_call 24; exact q_eq (none_pos _ _ _ h1 (by simpa using hc2))))
    go_wp2
    go_quiet (fail)
    go_wp2
    go_ret
    exact ⟨by rw [HP.out, HD.out]; rfl, by repeat (first | exact Same.refl _ | apply Same.drewN | apply Same.drew)⟩
end Clk
end Go.Proofs.Ytpeknikbipcfaaa
