/- ClockNobody: a clock that nobody made has no place: the walk. -/
import Derived.Test.YtpeknikbipcfaaaClkO
import Derived.Test.YtpeknikbipcfaaaClkL
namespace Go.Proofs.Ytpeknikbipcfaaa
open Go.ChangeShapes Go.WideShapes Go.ChangeAt Go.RowKit
set_option linter.unusedVariables false
namespace clockNobodyW
open Clk
set_option maxHeartbeats 400000 in
theorem tick_zero (w : World) (b : Nat) (s : Int) (hc2 : w.cell? ⟨b, 2, none⟩ = some (.int .i64 0)) : Calls Try.prog 12 #[ptr b, .int .i64 s] w fun e w' => e = .returned (.tuple #[]) ∧ w = w' := by
  go_enter Try.func12, Try.ntmps12
  go_wp2
  (try simp only [Exit.inBlock, Exit.then])
  exact bodyPost_ret (results_none rfl _ _ _) rfl ⟨rfl, rfl⟩
set_option maxHeartbeats 400000 in
theorem tick_nil (w : World) (s : Int) : Calls Try.prog 12 #[.pointer none, .int .i64 s] w fun e w' => e = .returned (.tuple #[]) ∧ w = w' := by
  go_enter Try.func12, Try.ntmps12
  go_wp2
  (try simp only [Exit.inBlock, Exit.then])
  exact bodyPost_ret (results_none rfl _ _ _) rfl ⟨rfl, rfl⟩
set_option maxHeartbeats 1000000 in
theorem passed_zero (w : World) (b : Nat) (p : Int) (hc2 : w.cell? ⟨b, 2, none⟩ = some (.int .i64 0)) : Calls Try.prog 13 #[ptr b, .int .i64 p] w fun e w' => e = .returned (.bool false) ∧ Same w w' := by
  go_enter Try.func13, Try.ntmps13
  go_wp2
  go_quiet ((go_at_call 24; exact q_eq (none_zero _ _ (by simpa using hc2))))
  go_wp2
  go_ret
  exact ⟨rfl, by repeat (first | exact Same.refl _ | apply Same.drewN | apply Same.drew)⟩
set_option maxHeartbeats 1000000 in
theorem passed_nil (w : World) (p : Int) : Calls Try.prog 13 #[.pointer none, .int .i64 p] w fun e w' => e = .returned (.bool false) ∧ Same w w' := by
  go_enter Try.func13, Try.ntmps13
  go_wp2
  go_quiet ((go_at_call 24; exact q_eq (none_nil _)))
  go_wp2
  go_ret
  exact ⟨rfl, by repeat (first | exact Same.refl _ | apply Same.drewN | apply Same.drew)⟩
set_option maxHeartbeats 1000000 in
theorem walk_any (w : World) (p : Int) :
    Calls Try.prog 7 #[.int .i64 p] w fun e w' => e = .returned (.bool true) ∧ Below w.heap.size w w' := by
  go_enter Try.func7, Try.ntmps7
  go_wp2_with fail
  go_loopw [3] (fun i wr => ∃ k : Nat, k ≤ 2 ∧ i = .int .i64 k ∧ Below w.heap.size w wr) (fun i _ => 2 - (intOf i).toNat)
  case atStart => exact ⟨0, by omega, rfl, Below.refl _ _⟩
  case round =>
    obtain ⟨k, hk, rfl, hW⟩ := hrel
    have hs := hW.size
    by_cases h0 : k = 0
    · subst h0
      have HW := hW.alloc hs (.cells #[.int .i64 0, .int .i64 0, .int .i64 0, .int .i64 0] 46)
      go_wp2_with fail
      refine (tick_zero _ _ _ (by simp)).mono ?_
      rintro e w1 ⟨rfl, rfl⟩
      go_wp2_with fail
      refine (set_zero _ _ _ (by simp)).mono ?_
      rintro e w1 ⟨rfl, rfl⟩
      go_wp2_with fail
      refine (pos_zero _ _ (by simp)).mono ?_
      rintro e w1 ⟨rfl, rfl⟩
      go_wp2_with fail
      refine (long_zero _ _ (by simp)).mono ?_
      rintro e w1 ⟨rfl, rfl⟩
      go_wp2_with fail
      refine (frame_zero _ _ (by simp)).mono ?_
      rintro e w1 ⟨rfl, rfl⟩
      go_wp2_with fail
      refine (passed_zero _ _ _ (by simp)).mono ?_
      rintro e w1 ⟨rfl, n1, rfl⟩
      go_wp2_with fail
      refine (passed_zero _ _ _ (by simp)).mono ?_
      rintro e w1 ⟨rfl, n2, rfl⟩
      go_wp2_with fail
      refine (enter_zero _ _ _ _ (by simp)).mono ?_
      rintro e w1 ⟨rfl, rfl⟩
      go_wp2_with fail
      go_roundw
      case rel => exact ⟨1, by omega, rfl, HW.trans (((Same.refl _).drewN _).below _)⟩
      case measure => simp [intOf]
    · by_cases h1 : k = 1
      · subst h1
        have HW := hW.alloc hs (.cells #[.int .i64 0, .int .i64 0, .int .i64 0, .int .i64 0] 46)
        go_wp2_with fail
        refine (tick_nil _ _).mono ?_
        rintro e w1 ⟨rfl, rfl⟩
        go_wp2_with fail
        refine (set_nil _ _).mono ?_
        rintro e w1 ⟨rfl, rfl⟩
        go_wp2_with fail
        refine (pos_nil _).mono ?_
        rintro e w1 ⟨rfl, rfl⟩
        go_wp2_with fail
        refine (long_nil _).mono ?_
        rintro e w1 ⟨rfl, rfl⟩
        go_wp2_with fail
        refine (frame_nil _).mono ?_
        rintro e w1 ⟨rfl, rfl⟩
        go_wp2_with fail
        refine (passed_nil _ _).mono ?_
        rintro e w1 ⟨rfl, n1, rfl⟩
        go_wp2_with fail
        refine (passed_nil _ _).mono ?_
        rintro e w1 ⟨rfl, n2, rfl⟩
        go_wp2_with fail
        refine (enter_nil _ _ _).mono ?_
        rintro e w1 ⟨rfl, rfl⟩
        go_wp2_with fail
        go_roundw
        case rel => exact ⟨2, by omega, rfl, HW.trans (((Same.refl _).drewN _).below _)⟩
        case measure => simp [intOf]
      · obtain rfl : k = 2 := by omega
        go_wp2_with fail
        refine (apart_out _ _ _ _ (by omega)).mono ?_
        rintro e w1 ⟨rfl, rfl⟩
        go_wp2_with fail
        refine (slips_any _ 0 _ _ _ (fun _ => 0) _ (by omega) (fun h => absurd h (by omega))).mono ?_
        rintro e w1 ⟨b, rfl, hb, rfl⟩
        obtain rfl : b = true := hb.2 (fun i hi => absurd hi (by omega))
        clear hb
        go_wp2_with fail
        refine (one_any _).mono ?_
        rintro e w1 ⟨rfl, hbel⟩
        go_wp2_with fail
        go_ret
        exact ⟨rfl, hW.trans (hbel.mono hs)⟩
theorem walk {H : Type} {enc : TypeId × Value → H} (base : Nat) (W : World) (v0 : Value) (d0 : DataW H) (p0 : List MemPlace)
    (o0 : Value.okWide Try.prog W .any base 3 v0)
    (h0 : DataW.Trod enc Try.prog W 0 (fun _ => true) true 3 v0 d0 p0) :
    Calls Try.prog 7 #[v0] W fun e w' => e = .returned (.bool true) ∧ Below W.heap.size W w' := by
  obtain ⟨g, rfl, rfl, rfl, wn⟩ := open_int Try.underlying3 o0 h0
  exact walk_any W g
end clockNobodyW
end Go.Proofs.Ytpeknikbipcfaaa
