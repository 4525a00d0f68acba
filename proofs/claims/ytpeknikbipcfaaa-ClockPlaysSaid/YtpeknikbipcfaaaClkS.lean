/- Contracts of package clock: Set, Enter, New, fits, Apart. -/
import Derived.Test.YtpeknikbipcfaaaClk
namespace Go.Proofs.Ytpeknikbipcfaaa
open Go.RowKit
attribute [local go_sem] max2_i64 min2_i64 max_two' min_two'
namespace Clk

/-- fits, as a Bool. -/
def fitsB (n : Int) : Bool := decide (8 ≤ n ∧ n ≤ 1048576)
set_option maxHeartbeats 400000 in
theorem fits_any (w : World) (n : Int) : Calls Try.prog 23 #[.int .i64 n] w fun e w' => e = .returned (.bool (fitsB n)) ∧ w = w' := by
  by_cases h : 8 ≤ n
  · have hd : decide (8 ≤ n) = true := by simpa using h
    have HF := Lib.hid (show fitsB n = decide (n ≤ 1048576) by unfold fitsB; simp [h])
    clear h
    go_enter Try.func23, Try.ntmps23
    go_wp2
    go_ret
    exact ⟨by rw [HF.out]; rfl, rfl⟩
  · have hd : decide (8 ≤ n) = false := by simpa using h
    have HF := Lib.hid (show fitsB n = false by unfold fitsB; simp [h])
    clear h
    go_enter Try.func23, Try.ntmps23
    go_wp2
    go_ret
    exact ⟨by rw [HF.out]; rfl, rfl⟩
theorem fits_yes (w : World) (n : Int) (h : 8 ≤ n) (h' : n ≤ 1048576) : Calls Try.prog 23 #[.int .i64 n] w fun e w' => e = .returned (.bool true) ∧ w = w' :=
  (fits_any w n).mono fun _ _ ⟨he, hw⟩ => ⟨by rw [he, show fitsB n = true by unfold fitsB; simp [h, h']], hw⟩
theorem fits_no (w : World) (n : Int) (h : n < 8 ∨ 1048576 < n) : Calls Try.prog 23 #[.int .i64 n] w fun e w' => e = .returned (.bool false) ∧ w = w' :=
  (fits_any w n).mono fun _ _ ⟨he, hw⟩ => ⟨by rw [he, show fitsB n = false by unfold fitsB; simp; omega], hw⟩

set_option maxHeartbeats 1000000 in
theorem set_any (w : World) (b : Nat) (at_ last long frame p : Int) (hB : Blk w b 46 (cells at_ last long frame)) (h1 : 0 < long) (h2 : long ≤ 1048576) :
    Calls Try.prog 18 #[ptr b, .int .i64 p] w fun e w' => e = .returned (.tuple #[]) ∧
      Blk w' b 46 (cells (max 0 (min p (long - 1))) (max 0 (min p (long - 1))) long frame) ∧ w.grownBy w' (some b) := by
  have hc0 := hB.cell 0 _ rfl
  have hc1 := hB.cell 1 _ rfl
  have hc2 := hB.cell 2 _ rfl
  have hc3 := hB.cell 3 _ rfl
  have hf0 := hB.free 0
  have hf1 := hB.free 1
  have hf2 := hB.free 2
  have hf3 := hB.free 3
  have hz : (long == 0) = false := by simp; omega
  have hlt := hB.lt
  have H := Lib.hid hB
  clear hB
  go_enter Try.func18, Try.ntmps18
  go_wp2
  go_end0
  exact ⟨rfl, (H.out.set 0 _).set 1 _, gb_set (gb_set (gb_refl _ _) _ _) _ _⟩
set_option maxHeartbeats 400000 in
theorem set_zero (w : World) (b : Nat) (p : Int) (hc2 : w.cell? ⟨b, 2, none⟩ = some (.int .i64 0)) :
    Calls Try.prog 18 #[ptr b, .int .i64 p] w fun e w' => e = .returned (.tuple #[]) ∧ w = w' := by
  go_enter Try.func18, Try.ntmps18
  go_wp2
  (try simp only [Exit.inBlock, Exit.then])
  exact bodyPost_ret (results_none rfl _ _ _) rfl ⟨rfl, rfl⟩
set_option maxHeartbeats 400000 in
theorem set_nil (w : World) (p : Int) :
    Calls Try.prog 18 #[.pointer none, .int .i64 p] w fun e w' => e = .returned (.tuple #[]) ∧ w = w' := by
  go_enter Try.func18, Try.ntmps18
  go_wp2
  (try simp only [Exit.inBlock, Exit.then])
  exact bodyPost_ret (results_none rfl _ _ _) rfl ⟨rfl, rfl⟩

set_option maxHeartbeats 1000000 in
theorem enter_yes (w : World) (b : Nat) (at_ last long frame p n : Int) (hB : Blk w b 46 (cells at_ last long frame)) (h1 : 0 < long)
    (g1 : 8 ≤ n) (g2 : n ≤ 1048576) (g3 : 0 ≤ p) (g4 : p < n) :
    Calls Try.prog 19 #[ptr b, .int .i64 p, .int .i64 n] w fun e w' => e = .returned (.int .i64 0) ∧
      Blk w' b 46 (cells p p n frame) ∧ w.grownBy w' (some b) := by
  have d1 : decide (p < 0) = false := by simp; omega
  have d2 : decide (n ≤ p) = false := by simp; omega
  have hc0 := hB.cell 0 _ rfl
  have hc1 := hB.cell 1 _ rfl
  have hc2 := hB.cell 2 _ rfl
  have hc3 := hB.cell 3 _ rfl
  have hf0 := hB.free 0
  have hf1 := hB.free 1
  have hf2 := hB.free 2
  have hf3 := hB.free 3
  have hz : (long == 0) = false := by simp; omega
  have hlt := hB.lt
  have H := Lib.hid hB
  clear hB
  go_enter Try.func19, Try.ntmps19
  go_wp2_with (first | (go_at_call 23; refine (fits_yes _ _ g1 g2).mono ?_; rintro e w' ⟨rfl, rfl⟩) | go_in)
  go_ret
  exact ⟨rfl, ((H.out.set 2 _).set 0 _).set 1 _, gb_set (gb_set (gb_set (gb_refl _ _) _ _) _ _) _ _⟩
set_option maxHeartbeats 1000000 in
theorem enter_no (w : World) (b : Nat) (at_ last long frame p n : Int) (hB : Blk w b 46 (cells at_ last long frame)) (h1 : 0 < long)
    (g : ¬ (8 ≤ n ∧ n ≤ 1048576 ∧ 0 ≤ p ∧ p < n)) :
    Calls Try.prog 19 #[ptr b, .int .i64 p, .int .i64 n] w fun e w' => e = .returned (.int .i64 2) ∧ w = w' := by
  have hc0 := hB.cell 0 _ rfl
  have hc1 := hB.cell 1 _ rfl
  have hc2 := hB.cell 2 _ rfl
  have hc3 := hB.cell 3 _ rfl
  have hf0 := hB.free 0
  have hf1 := hB.free 1
  have hf2 := hB.free 2
  have hf3 := hB.free 3
  have hz : (long == 0) = false := by simp; omega
  have hlt := hB.lt
  have H := Lib.hid hB
  clear hB
  by_cases c1 : n < 8 ∨ 1048576 < n
  · have C := Lib.hid c1
    clear g c1
    go_enter Try.func19, Try.ntmps19
    go_wp2_with (first | (go_at_call 23; refine (fits_no _ _ C.out).mono ?_; rintro e w' ⟨rfl, rfl⟩) | go_in)
    go_ret
    exact ⟨rfl, rfl⟩
  · have g1 : 8 ≤ n := by omega
    have g2 : n ≤ 1048576 := by omega
    by_cases c2 : p < 0
    · have d1 : decide (p < 0) = true := by simp; omega
      clear g c1
      go_enter Try.func19, Try.ntmps19
      go_wp2_with (first | (go_at_call 23; refine (fits_yes _ _ g1 g2).mono ?_; rintro e w' ⟨rfl, rfl⟩) | go_in)
      go_ret
      exact ⟨rfl, rfl⟩
    · have d1 : decide (p < 0) = false := by simp; omega
      have d2 : decide (n ≤ p) = true := by simp; omega
      clear g c1
      go_enter Try.func19, Try.ntmps19
      go_wp2_with (first | (go_at_call 23; refine (fits_yes _ _ g1 g2).mono ?_; rintro e w' ⟨rfl, rfl⟩) | go_in)
      go_ret
      exact ⟨rfl, rfl⟩
set_option maxHeartbeats 400000 in
theorem enter_zero (w : World) (b : Nat) (p n : Int) (hc2 : w.cell? ⟨b, 2, none⟩ = some (.int .i64 0)) :
    Calls Try.prog 19 #[ptr b, .int .i64 p, .int .i64 n] w fun e w' => e = .returned (.int .i64 1) ∧ w = w' := by
  go_enter Try.func19, Try.ntmps19
  go_wp2
  go_ret
  exact ⟨rfl, rfl⟩
set_option maxHeartbeats 400000 in
theorem enter_nil (w : World) (p n : Int) :
    Calls Try.prog 19 #[.pointer none, .int .i64 p, .int .i64 n] w fun e w' => e = .returned (.int .i64 1) ∧ w = w' := by
  go_enter Try.func19, Try.ntmps19
  go_wp2
  go_ret
  exact ⟨rfl, rfl⟩

set_option maxHeartbeats 400000 in
theorem new_yes (w : World) (n : Int) (g1 : 8 ≤ n) (g2 : n ≤ 1048576) :
    Calls Try.prog 11 #[.int .i64 n] w fun e w' => e = .returned (.tuple #[ptr w.heap.size, .int .i64 0]) ∧ w' = w.alloc (.cells (cells 0 (-1) n 0).toArray 46) := by
  go_enter Try.func11, Try.ntmps11
  go_wp2_with (first | (go_at_call 23; refine (fits_yes _ _ g1 g2).mono ?_; rintro e w' ⟨rfl, rfl⟩) | go_in)
  go_ret2
  exact ⟨rfl, rfl⟩
set_option maxHeartbeats 400000 in
theorem new_no (w : World) (n : Int) (g : n < 8 ∨ 1048576 < n) :
    Calls Try.prog 11 #[.int .i64 n] w fun e w' => e = .returned (.tuple #[.pointer none, .int .i64 2]) ∧ w = w' := by
  have C := Lib.hid g
  clear g
  go_enter Try.func11, Try.ntmps11
  go_wp2_with (first | (go_at_call 23; refine (fits_no _ _ C.out).mono ?_; rintro e w' ⟨rfl, rfl⟩) | go_in)
  go_ret2
  exact ⟨rfl, rfl⟩
end Clk
end Go.Proofs.Ytpeknikbipcfaaa
