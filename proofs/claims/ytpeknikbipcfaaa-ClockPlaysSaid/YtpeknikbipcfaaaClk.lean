/- Contracts of package clock. -/
import Derived.Test.YtpeknikbipcfaaaBase
namespace Go.Proofs.Ytpeknikbipcfaaa
open Go.RowKit
attribute [local go_sem] max2_i64 min2_i64 max_two' min_two'

namespace Clk
/-- The cells of a clock. -/
abbrev cells (at_ last long frame : Int) : List Value := [.int .i64 at_, .int .i64 last, .int .i64 long, .int .i64 frame]
abbrev ptr (b : Nat) : Value := .pointer (some ⟨b, 0, none⟩)

set_option maxHeartbeats 400000 in
theorem none_nil (w : World) : Calls Try.prog 24 #[.pointer none] w fun e w' => e = .returned (.bool true) ∧ w = w' := by
  go_enter Try.func24, Try.ntmps24
  go_wp2
  go_ret
  exact ⟨rfl, rfl⟩
set_option maxHeartbeats 400000 in
theorem none_pos (w : World) (b : Nat) (n : Int) (hn : 0 < n) (hc : w.cell? ⟨b, 2, none⟩ = some (.int .i64 n)) : Calls Try.prog 24 #[ptr b] w fun e w' => e = .returned (.bool false) ∧ w = w' := by
  have hz : (n == 0) = false := by simp; omega
  go_enter Try.func24, Try.ntmps24
  go_wp2
  go_ret
  exact ⟨rfl, rfl⟩
set_option maxHeartbeats 400000 in
theorem none_zero (w : World) (b : Nat) (hc : w.cell? ⟨b, 2, none⟩ = some (.int .i64 0)) : Calls Try.prog 24 #[ptr b] w fun e w' => e = .returned (.bool true) ∧ w = w' := by
  go_enter Try.func24, Try.ntmps24
  go_wp2
  go_ret
  exact ⟨rfl, rfl⟩

/-- What Tick makes of a place, and of the frames. -/
def tAt (at_ long s : Int) : Int := if at_ + 1 + max (-1) (min s 1) ≥ long then at_ + 1 + max (-1) (min s 1) - long else at_ + 1 + max (-1) (min s 1)
def tLast (at_ long s : Int) : Int := if at_ + 1 + max (-1) (min s 1) ≥ long then at_ - long else at_
def tFrame (at_ long frame s : Int) : Int := if at_ + 1 + max (-1) (min s 1) ≥ long then frame + 1 else frame

set_option maxHeartbeats 1000000 in
theorem tick_any (w : World) (b : Nat) (at_ last long frame s : Int) (hB : Blk w b 46 (cells at_ last long frame))
   (h1 : 0 < long) (h2 : long ≤ 1048576) (h3 : 0 ≤ at_) (h4 : at_ < long) (h5 : 0 ≤ frame) (h6 : frame < 4611686018427387904) :
    Calls Try.prog 12 #[ptr b, .int .i64 s] w fun e w' => e = .returned (.tuple #[]) ∧
      Blk w' b 46 (cells (tAt at_ long s) (tLast at_ long s) long (tFrame at_ long frame s)) ∧ w.grownBy w' (some b) := by
  have hc0 := hB.cell 0 _ rfl
  have hc1 := hB.cell 1 _ rfl
  have hc2 := hB.cell 2 _ rfl
  have hc3 := hB.cell 3 _ rfl
  have hf0 := hB.free 0
  have hf1 := hB.free 1
  have hf2 := hB.free 2
  have hf3 := hB.free 3
  have hz : (long == 0) = false := by simp; omega
  have hlt := hB.lt
  by_cases hov : long ≤ at_ + 1 + max (-1) (min s 1)
  · have e1 : tAt at_ long s = at_ + 1 + max (-1) (min s 1) - long := by unfold tAt; rw [if_pos hov]
    have e2 : tLast at_ long s = at_ - long := by unfold tLast; rw [if_pos hov]
    have e3 : tFrame at_ long frame s = frame + 1 := by unfold tFrame; rw [if_pos hov]
    rw [e1, e2, e3]
    clear e1 e2 e3
    have H := Lib.hid hB
    clear hB
    go_enter Try.func12, Try.ntmps12
    go_wp2
    go_region
    go_wp2
    go_region
    go_wp2
    go_region
    go_wp2
    go_region
    go_wp2
    go_end0
    refine ⟨rfl, ?_, ?_⟩
    · exact ((((H.out.set 3 _).set 0 _).set 1 _).alloc _).drew.drew.drew.drew
    · exact gb_drew (gb_drew (gb_drew (gb_drew (gb_alloc (gb_set (gb_set (gb_set (gb_refl _ _) _ _) _ _) _ _) _))))
  · have e1 : tAt at_ long s = at_ + 1 + max (-1) (min s 1) := by unfold tAt; rw [if_neg hov]
    have e2 : tLast at_ long s = at_ := by unfold tLast; rw [if_neg hov]
    have e3 : tFrame at_ long frame s = frame := by unfold tFrame; rw [if_neg hov]
    rw [e1, e2, e3]
    clear e1 e2 e3
    have H := Lib.hid hB
    clear hB
    go_enter Try.func12, Try.ntmps12
    go_wp2
    go_region
    go_wp2
    go_region
    go_wp2
    go_end0
    refine ⟨rfl, ?_, ?_⟩
    · exact (((H.out.set 0 _).set 1 _).alloc _).drew.drew
    · exact gb_drew (gb_drew (gb_alloc (gb_set (gb_set (gb_refl _ _) _ _) _ _) _))
end Clk
end Go.Proofs.Ytpeknikbipcfaaa
