/- Commands: the reference's Clean and long. -/
import Derived.Test.YtbhfbdldehahoaaCmdF
namespace Go.Proofs.Ytbhfbdldehahoaa
open Go.RowKit
set_option linter.unusedVariables false
set_option linter.unusedSimpArgs false
namespace Cm
attribute [local go_sem] alloc_drewN' setCell_drewN'
set_option maxRecDepth 100000 in
set_option maxHeartbeats 2000000 in
theorem rclean1 (w : World) (addr words cand many bits at_ : Int) :
    Calls Try.prog 15 #[Cd.v ⟨1, addr, words, cand, many, bits, at_⟩] w fun e w' => e = .returned (Cd.v ⟨1, addr, words, cand, many, 0, 0⟩) ∧ w.grownBy w' none := by
  go_enter Try.func15, Try.ntmps15
  go_upto_region 4 with (fail)
  go_region
  go_wp2_with fail
  refine bodyPost_ret (v := Cd.v ⟨1, addr, words, cand, many, 0, 0⟩) (by simp [results, Try.results15, go_sem]) rfl ⟨rfl, ?_⟩
  repeat (with_reducible (first | exact gb_refl _ _ | apply gb_drewN | apply gb_drew | apply gb_alloc | (refine gb_setNew ?_ (by simp <;> omega) _)))
set_option maxRecDepth 100000 in
set_option maxHeartbeats 2000000 in
theorem rclean2 (w : World) (addr words cand many bits at_ : Int) :
    Calls Try.prog 15 #[Cd.v ⟨2, addr, words, cand, many, bits, at_⟩] w fun e w' => e = .returned (Cd.v ⟨2, addr, words, 0, many, 0, 0⟩) ∧ w.grownBy w' none := by
  go_enter Try.func15, Try.ntmps15
  go_upto_region 6 with (fail)
  go_region
  go_wp2_with fail
  refine bodyPost_ret (v := Cd.v ⟨2, addr, words, 0, many, 0, 0⟩) (by simp [results, Try.results15, go_sem]) rfl ⟨rfl, ?_⟩
  repeat (with_reducible (first | exact gb_refl _ _ | apply gb_drewN | apply gb_drew | apply gb_alloc | (refine gb_setNew ?_ (by simp <;> omega) _)))
set_option maxRecDepth 100000 in
set_option maxHeartbeats 2000000 in
theorem rclean3 (w : World) (addr words cand many bits at_ : Int) :
    Calls Try.prog 15 #[Cd.v ⟨3, addr, words, cand, many, bits, at_⟩] w fun e w' => e = .returned (Cd.v ⟨3, 0, words, 0, many, 0, 0⟩) ∧ w.grownBy w' none := by
  go_enter Try.func15, Try.ntmps15
  go_upto_region 8 with (fail)
  go_region
  go_wp2_with fail
  refine bodyPost_ret (v := Cd.v ⟨3, 0, words, 0, many, 0, 0⟩) (by simp [results, Try.results15, go_sem]) rfl ⟨rfl, ?_⟩
  repeat (with_reducible (first | exact gb_refl _ _ | apply gb_drewN | apply gb_drew | apply gb_alloc | (refine gb_setNew ?_ (by simp <;> omega) _)))
set_option maxRecDepth 100000 in
set_option maxHeartbeats 2000000 in
theorem rclean4 (w : World) (addr words cand many bits at_ : Int) :
    Calls Try.prog 15 #[Cd.v ⟨4, addr, words, cand, many, bits, at_⟩] w fun e w' => e = .returned (Cd.v ⟨4, 0, 0, 0, 0, bits, 0⟩) ∧ w.grownBy w' none := by
  go_enter Try.func15, Try.ntmps15
  go_wp2_with fail
  refine bodyPost_ret (v := Cd.v ⟨4, 0, 0, 0, 0, bits, 0⟩) (by simp [results, Try.results15, go_sem]) rfl ⟨rfl, ?_⟩
  repeat (with_reducible (first | exact gb_refl _ _ | apply gb_drewN | apply gb_drew | apply gb_alloc | (refine gb_setNew ?_ (by simp <;> omega) _)))
set_option maxRecDepth 100000 in
set_option maxHeartbeats 2000000 in
theorem rclean6 (w : World) (addr words cand many bits at_ : Int) :
    Calls Try.prog 15 #[Cd.v ⟨6, addr, words, cand, many, bits, at_⟩] w fun e w' => e = .returned (Cd.v ⟨6, 0, 0, 0, 0, 0, at_⟩) ∧ w.grownBy w' none := by
  go_enter Try.func15, Try.ntmps15
  go_wp2_with fail
  refine bodyPost_ret (v := Cd.v ⟨6, 0, 0, 0, 0, 0, at_⟩) (by simp [results, Try.results15, go_sem]) rfl ⟨rfl, ?_⟩
  repeat (with_reducible (first | exact gb_refl _ _ | apply gb_drewN | apply gb_drew | apply gb_alloc | (refine gb_setNew ?_ (by simp <;> omega) _)))
set_option maxRecDepth 100000 in
set_option maxHeartbeats 2000000 in
theorem rclean8 (w : World) (addr words cand many bits at_ : Int) :
    Calls Try.prog 15 #[Cd.v ⟨8, addr, words, cand, many, bits, at_⟩] w fun e w' => e = .returned (Cd.v ⟨8, 0, 0, 0, 0, 0, at_⟩) ∧ w.grownBy w' none := by
  go_enter Try.func15, Try.ntmps15
  go_wp2_with fail
  refine bodyPost_ret (v := Cd.v ⟨8, 0, 0, 0, 0, 0, at_⟩) (by simp [results, Try.results15, go_sem]) rfl ⟨rfl, ?_⟩
  repeat (with_reducible (first | exact gb_refl _ _ | apply gb_drewN | apply gb_drew | apply gb_alloc | (refine gb_setNew ?_ (by simp <;> omega) _)))
set_option maxRecDepth 100000 in
set_option maxHeartbeats 2000000 in
theorem rclean_stay (w : World) (op addr words cand many bits at_ : Int) (h1 : op ≠ 1) (h2 : op ≠ 2) (h3 : op ≠ 3) (h4 : op ≠ 4) (h6 : op ≠ 6) (h8 : op ≠ 8) :
    Calls Try.prog 15 #[Cd.v ⟨op, addr, words, cand, many, bits, at_⟩] w fun e w' => e = .returned (Cd.v ⟨op, 0, 0, 0, 0, 0, 0⟩) ∧ w.grownBy w' none := by
  have d1 : (op == 1) = false := by simpa using h1
  have d2 : (op == 2) = false := by simpa using h2
  have d3 : (op == 3) = false := by simpa using h3
  have d4 : (op == 4) = false := by simpa using h4
  have d6 : (op == 6) = false := by simpa using h6
  have d8 : (op == 8) = false := by simpa using h8
  clear h1 h2 h3 h4 h6 h8
  go_enter Try.func15, Try.ntmps15
  go_wp2_with fail
  refine bodyPost_ret (v := Cd.v ⟨op, 0, 0, 0, 0, 0, 0⟩) (by simp [results, Try.results15, go_sem]) rfl ⟨rfl, ?_⟩
  repeat (with_reducible (first | exact gb_refl _ _ | apply gb_drewN | apply gb_drew | apply gb_alloc | (refine gb_setNew ?_ (by simp <;> omega) _)))
theorem rclean_any (w : World) (c : Cd) : Calls Try.prog 15 #[c.v] w fun e w' => e = .returned (clean c).v ∧ w.grownBy w' none := by
  obtain ⟨op, addr, words, cand, many, bits, at_⟩ := c
  by_cases h1 : op = 1
  · subst h1; simpa [clean] using rclean1 w addr words cand many bits at_
  by_cases h2 : op = 2
  · subst h2; simpa [clean] using rclean2 w addr words cand many bits at_
  by_cases h3 : op = 3
  · subst h3; simpa [clean] using rclean3 w addr words cand many bits at_
  by_cases h4 : op = 4
  · subst h4; simpa [clean] using rclean4 w addr words cand many bits at_
  by_cases h6 : op = 6
  · subst h6; simpa [clean] using rclean6 w addr words cand many bits at_
  by_cases h8 : op = 8
  · subst h8; simpa [clean] using rclean8 w addr words cand many bits at_
  simpa [clean, h1, h2, h3, h4, h6, h8] using rclean_stay w op addr words cand many bits at_ h1 h2 h3 h4 h6 h8
set_option maxHeartbeats 1000000 in
theorem long0 (w : World) : Calls Try.prog 19 #[.int .i64 0] w fun e w' => e = .returned (.int .i64 1) ∧ ∃ k O, w' = (w.alloc O).drewN k := by
  go_enter Try.func19, Try.ntmps19
  go_wp2
  go_ret
  exact ⟨rfl, 0, _, rfl⟩
set_option maxHeartbeats 1000000 in
theorem long1 (w : World) : Calls Try.prog 19 #[.int .i64 1] w fun e w' => e = .returned (.int .i64 5) ∧ ∃ k O, w' = (w.alloc O).drewN k := by
  go_enter Try.func19, Try.ntmps19
  go_wp2
  go_ret
  exact ⟨rfl, 0, _, rfl⟩
set_option maxHeartbeats 1000000 in
theorem long2 (w : World) : Calls Try.prog 19 #[.int .i64 2] w fun e w' => e = .returned (.int .i64 4) ∧ ∃ k O, w' = (w.alloc O).drewN k := by
  go_enter Try.func19, Try.ntmps19
  go_wp2
  go_ret
  exact ⟨rfl, 0, _, rfl⟩
set_option maxHeartbeats 1000000 in
theorem long3 (w : World) : Calls Try.prog 19 #[.int .i64 3] w fun e w' => e = .returned (.int .i64 3) ∧ ∃ k O, w' = (w.alloc O).drewN k := by
  go_enter Try.func19, Try.ntmps19
  go_wp2
  go_ret
  exact ⟨rfl, 0, _, rfl⟩
set_option maxHeartbeats 1000000 in
theorem long4 (w : World) : Calls Try.prog 19 #[.int .i64 4] w fun e w' => e = .returned (.int .i64 2) ∧ ∃ k O, w' = (w.alloc O).drewN k := by
  go_enter Try.func19, Try.ntmps19
  go_wp2
  go_ret
  exact ⟨rfl, 0, _, rfl⟩
set_option maxHeartbeats 1000000 in
theorem long5 (w : World) : Calls Try.prog 19 #[.int .i64 5] w fun e w' => e = .returned (.int .i64 1) ∧ ∃ k O, w' = (w.alloc O).drewN k := by
  go_enter Try.func19, Try.ntmps19
  go_wp2
  go_ret
  exact ⟨rfl, 0, _, rfl⟩
set_option maxHeartbeats 1000000 in
theorem long6 (w : World) : Calls Try.prog 19 #[.int .i64 6] w fun e w' => e = .returned (.int .i64 3) ∧ ∃ k O, w' = (w.alloc O).drewN k := by
  go_enter Try.func19, Try.ntmps19
  go_wp2
  go_ret
  exact ⟨rfl, 0, _, rfl⟩
set_option maxHeartbeats 1000000 in
theorem long7 (w : World) : Calls Try.prog 19 #[.int .i64 7] w fun e w' => e = .returned (.int .i64 1) ∧ ∃ k O, w' = (w.alloc O).drewN k := by
  go_enter Try.func19, Try.ntmps19
  go_wp2
  go_ret
  exact ⟨rfl, 0, _, rfl⟩
set_option maxHeartbeats 1000000 in
theorem long8 (w : World) : Calls Try.prog 19 #[.int .i64 8] w fun e w' => e = .returned (.int .i64 3) ∧ ∃ k O, w' = (w.alloc O).drewN k := by
  go_enter Try.func19, Try.ntmps19
  go_wp2
  go_ret
  exact ⟨rfl, 0, _, rfl⟩
theorem long_any (w : World) (o : Int) (h0 : 0 ≤ o) (h8 : o ≤ 8) : Calls Try.prog 19 #[.int .i64 o] w fun e w' => e = .returned (.int .i64 (need o + 1)) ∧ ∃ k O, w' = (w.alloc O).drewN k := by
  obtain rfl | rfl | rfl | rfl | rfl | rfl | rfl | rfl | rfl : o = 0 ∨ o = 1 ∨ o = 2 ∨ o = 3 ∨ o = 4 ∨ o = 5 ∨ o = 6 ∨ o = 7 ∨ o = 8 := by omega
  · exact long0 w
  · exact long1 w
  · exact long2 w
  · exact long3 w
  · exact long4 w
  · exact long5 w
  · exact long6 w
  · exact long7 w
  · exact long8 w
end Cm
end Go.Proofs.Ytbhfbdldehahoaa
