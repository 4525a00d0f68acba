/- ClockApart: any two places are as far apart as the document says: the walk. No condition of its own. -/
import Derived.Test.YtpeknikbipcfaaaClkO
import Derived.ProofKit
namespace Go.Proofs.Ytpeknikbipcfaaa
open Go.ChangeShapes Go.WideShapes Go.ChangeAt Go.RowKit
set_option linter.unusedVariables false
namespace clockApartW
open Clk
theorem both (a b long : Int) (h0 : 0 ≤ long) (h1 : long ≤ 1048575) : ∃ r, 
    (∀ w, Calls Try.prog 8 #[.int .i64 a, .int .i64 b, .int .i64 long] w fun e w' => e = .returned (.int .i64 r) ∧ w = w') ∧
    (∀ w, Calls Try.prog 9 #[.int .i64 a, .int .i64 b, .int .i64 long] w fun e w' => e = .returned (.int .i64 r) ∧ w = w') := by
  by_cases h : 0 ≤ a ∧ 0 ≤ b ∧ a < long ∧ b < long
  · exact ⟨apartV a b long, fun w => apart_in w a b long (by omega) (by omega) (by omega) (by omega) (by omega), fun w => rapart_in w a b long (by omega) (by omega) (by omega) (by omega) (by omega)⟩
  · exact ⟨0, fun w => apart_out w a b long (by omega), fun w => rapart_out w a b long (by omega)⟩
set_option maxHeartbeats 400000 in
theorem walk_any (w : World) (a b long : Int) :
    Calls Try.prog 3 #[.int .i64 a, .int .i64 b, .int .i64 long] w fun e w' => e = .returned (.bool true) ∧ Below w.heap.size w w' := by
  obtain ⟨m, hm, HM, h0, h1⟩ := masked 20 (by omega) long 1048575 (by decide)
  obtain ⟨r, ha, hb⟩ := both a b m h0 h1
  clear HM
  have HA := Lib.hid ha
  have HB := Lib.hid hb
  clear ha hb
  go_enter Try.func3, Try.ntmps3
  go_wp2_with fail
  refine (HA.out _).mono ?_
  rintro e w1 ⟨rfl, rfl⟩
  go_wp2_with fail
  refine (HB.out _).mono ?_
  rintro e w1 ⟨rfl, rfl⟩
  go_wp2_with fail
  refine (one_any _).mono ?_
  rintro e w1 ⟨rfl, hbel⟩
  go_wp2_with fail
  go_ret
  exact ⟨rfl, hbel⟩
theorem walk {H : Type} {enc : TypeId × Value → H} (base : Nat) (W : World) (v0 : Value) (d0 : DataW H) (p0 : List MemPlace) (v1 : Value) (d1 : DataW H) (p1 : List MemPlace) (v2 : Value) (d2 : DataW H) (p2 : List MemPlace)
    (o0 : Value.okWide Try.prog W .any base 3 v0) (o1 : Value.okWide Try.prog W .any base 3 v1) (o2 : Value.okWide Try.prog W .any base 3 v2)
    (h0 : DataW.Trod enc Try.prog W 0 (fun _ => true) true 3 v0 d0 p0) (h1 : DataW.Trod enc Try.prog W 0 (fun _ => true) true 3 v1 d1 p1) (h2 : DataW.Trod enc Try.prog W 0 (fun _ => true) true 3 v2 d2 p2) :
    Calls Try.prog 3 #[v0, v1, v2] W fun e w' => e = .returned (.bool true) ∧ Below W.heap.size W w' := by
  obtain ⟨a, rfl, rfl, rfl, wa⟩ := open_int Try.underlying3 o0 h0
  obtain ⟨b, rfl, rfl, rfl, wb⟩ := open_int Try.underlying3 o1 h1
  obtain ⟨l, rfl, rfl, rfl, wl⟩ := open_int Try.underlying3 o2 h2
  exact walk_any W a b l
end clockApartW
end Go.Proofs.Ytpeknikbipcfaaa
