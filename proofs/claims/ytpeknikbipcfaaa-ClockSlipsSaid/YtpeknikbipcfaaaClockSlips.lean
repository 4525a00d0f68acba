/- ClockSlips: any slips may be, or not, as the document says: the walk. -/
import Derived.Test.YtpeknikbipcfaaaClkO
import Derived.Test.YtpeknikbipcfaaaClkL
namespace Go.Proofs.Ytpeknikbipcfaaa
open Go.ChangeShapes Go.WideShapes Go.ChangeAt Go.RowKit
set_option linter.unusedVariables false
namespace clockSlipsW
open Clk
set_option maxHeartbeats 400000 in
theorem long_list (w : World) (A : Option Addr) (len cap : Nat) (gap : Int) (hlen : 300 < len) (hm : len ≤ maxLen) :
    Calls Try.prog 5 #[.slice A len cap, .int .i64 gap] w fun e w' => e = .returned (.bool true) ∧ Below w.heap.size w w' := by
  unfold maxLen at hm
  have d1 : decide ((300 : Int) < (len : Int)) = true := by simp; omega
  go_enter Try.func5, Try.ntmps5
  go_wp2_with fail
  go_ret
  exact ⟨rfl, Below.refl w.heap.size w⟩
set_option maxHeartbeats 400000 in
theorem walk_any (w : World) (A : Option Addr) (len cap : Nat) (gap : Int) (z : Nat → Int) (hlen : len ≤ 300) (hr : Rd w w.heap.size A len (fun i => .int .i64 (z i))) :
    Calls Try.prog 5 #[.slice A len cap, .int .i64 gap] w fun e w' => e = .returned (.bool true) ∧ Below w.heap.size w w' := by
  have d1 : decide ((300 : Int) < (len : Int)) = false := by simp; omega
  have HR := Lib.hid hr
  clear hr
  go_enter Try.func5, Try.ntmps5
  go_wp2_with fail
  refine (slips_any _ _ _ _ _ z _ (by omega) HR.out).mono ?_
  rintro e w1 ⟨b, rfl, hb, rfl⟩
  have HB := Lib.hid hb
  clear hb
  go_wp2_with fail
  refine (rslips_any _ _ _ _ _ z _ (by omega) HR.out).mono ?_
  rintro e w1 ⟨b', rfl, hb', rfl⟩
  obtain rfl : b' = b := by rw [Bool.eq_iff_iff, hb', HB.out]
  clear HB hb'
  go_wp2_with fail
  refine (one_any _).mono ?_
  rintro e w1 ⟨rfl, hbel⟩
  go_wp2_with fail
  go_ret
  exact ⟨rfl, hbel⟩
theorem walk {H : Type} {enc : TypeId × Value → H} (base : Nat) (W : World) (v0 : Value) (d0 : DataW H) (p0 : List MemPlace) (v1 : Value) (d1 : DataW H) (p1 : List MemPlace)
    (o0 : Value.okWide Try.prog W .any base 25 v0) (o1 : Value.okWide Try.prog W .any base 3 v1)
    (h0 : DataW.Trod enc Try.prog W 0 (fun _ => true) true 25 v0 d0 p0) (h1 : DataW.Trod enc Try.prog W 0 (fun _ => true) true 3 v1 d1 p1) :
    Calls Try.prog 5 #[v0, v1] W fun e w' => e = .returned (.bool true) ∧ Below W.heap.size W w' := by
  obtain ⟨g, rfl, rfl, rfl, wn⟩ := open_int Try.underlying3 o1 h1
  obtain ⟨A, len, cap, z, rfl, hl, hm, hr, hz⟩ := open_rd Try.underlying25 Try.underlying3 (by kernel_rfl) o0 h0
  by_cases h : len ≤ 300
  · exact walk_any W A len cap g z h hr
  · exact long_list W A len cap g (by omega) (by omega)
end clockSlipsW
end Go.Proofs.Ytpeknikbipcfaaa
