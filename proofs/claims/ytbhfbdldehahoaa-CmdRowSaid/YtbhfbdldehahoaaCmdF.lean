/- Commands: the reference's Right and Clean, Own. -/
import Derived.Test.YtbhfbdldehahoaaCmdE
namespace Go.Proofs.Ytbhfbdldehahoaa
open Go.RowKit
set_option linter.unusedVariables false
set_option linter.unusedSimpArgs false
namespace Cm
set_option maxRecDepth 100000 in
set_option maxHeartbeats 1000000 in
theorem own_any (w : World) (c : Cd) : Calls Try.prog 9 #[c.v] w fun e w' => e = .returned c.v ∧ w.grownBy w' none := by
  go_enter Try.func9, Try.ntmps9
  go_wp2_with fail
  refine bodyPost_ret (v := c.v) (by simp [results, Try.results9, go_sem]) rfl ⟨rfl, ?_⟩
  repeat (with_reducible (first | exact gb_refl _ _ | apply gb_drewN | apply gb_drew | apply gb_alloc | (refine gb_setNew ?_ (by simp <;> omega) _)))
set_option maxRecDepth 100000 in
set_option maxHeartbeats 2000000 in
theorem rright_1 (w : World) (addr words cand many bits at_ : Int)  (r0 : -9223372036854775808 ≤ words) (r1 : words ≤ 9223372036854775807) :
    Calls Try.prog 12 #[Cd.v ⟨1, addr, words, cand, many, bits, at_⟩] w (BoolPost (right ⟨1, addr, words, cand, many, bits, at_⟩) w) := by
  go_enter Try.func12, Try.ntmps12
  go_wp2_with fail
  all_goals
    first
    | go_ret
      refine ⟨_, rfl, ?_, gb_alloc (gb_refl _ _) _⟩
      unfold right
      simp at *
      (try unfold wrap64 at *)
      omega
    | go_outline
set_option maxRecDepth 100000 in
set_option maxHeartbeats 2000000 in
theorem rright_2 (w : World) (addr words cand many bits at_ : Int)  (r0 : -9223372036854775808 ≤ words) (r1 : words ≤ 9223372036854775807) :
    Calls Try.prog 12 #[Cd.v ⟨2, addr, words, cand, many, bits, at_⟩] w (BoolPost (right ⟨2, addr, words, cand, many, bits, at_⟩) w) := by
  go_enter Try.func12, Try.ntmps12
  go_wp2_with fail
  all_goals
    first
    | go_ret
      refine ⟨_, rfl, ?_, gb_alloc (gb_refl _ _) _⟩
      unfold right
      simp at *
      (try unfold wrap64 at *)
      omega
    | go_outline
set_option maxRecDepth 100000 in
set_option maxHeartbeats 2000000 in
theorem rright_3 (w : World) (addr words cand many bits at_ : Int)  (r0 : -9223372036854775808 ≤ words) (r1 : words ≤ 9223372036854775807) :
    Calls Try.prog 12 #[Cd.v ⟨3, addr, words, cand, many, bits, at_⟩] w (BoolPost (right ⟨3, addr, words, cand, many, bits, at_⟩) w) := by
  go_enter Try.func12, Try.ntmps12
  go_wp2_with fail
  all_goals
    first
    | go_ret
      refine ⟨_, rfl, ?_, gb_alloc (gb_refl _ _) _⟩
      unfold right
      simp at *
      (try unfold wrap64 at *)
      omega
    | go_outline
set_option maxRecDepth 100000 in
set_option maxHeartbeats 2000000 in
theorem rright_4 (w : World) (addr words cand many bits at_ : Int)  (r0 : -9223372036854775808 ≤ words) (r1 : words ≤ 9223372036854775807) :
    Calls Try.prog 12 #[Cd.v ⟨4, addr, words, cand, many, bits, at_⟩] w (BoolPost (right ⟨4, addr, words, cand, many, bits, at_⟩) w) := by
  go_enter Try.func12, Try.ntmps12
  go_wp2_with fail
  all_goals
    first
    | go_ret
      refine ⟨_, rfl, ?_, gb_alloc (gb_refl _ _) _⟩
      unfold right
      simp at *
      (try unfold wrap64 at *)
      omega
    | go_outline
set_option maxRecDepth 100000 in
set_option maxHeartbeats 2000000 in
theorem rright_6 (w : World) (addr words cand many bits at_ : Int)  (r0 : -9223372036854775808 ≤ words) (r1 : words ≤ 9223372036854775807) :
    Calls Try.prog 12 #[Cd.v ⟨6, addr, words, cand, many, bits, at_⟩] w (BoolPost (right ⟨6, addr, words, cand, many, bits, at_⟩) w) := by
  go_enter Try.func12, Try.ntmps12
  go_wp2_with fail
  all_goals
    first
    | go_ret
      refine ⟨_, rfl, ?_, gb_alloc (gb_refl _ _) _⟩
      unfold right
      simp at *
      (try unfold wrap64 at *)
      omega
    | go_outline
set_option maxRecDepth 100000 in
set_option maxHeartbeats 2000000 in
theorem rright_8 (w : World) (addr words cand many bits at_ : Int)  (r0 : -9223372036854775808 ≤ words) (r1 : words ≤ 9223372036854775807) :
    Calls Try.prog 12 #[Cd.v ⟨8, addr, words, cand, many, bits, at_⟩] w (BoolPost (right ⟨8, addr, words, cand, many, bits, at_⟩) w) := by
  go_enter Try.func12, Try.ntmps12
  go_wp2_with fail
  all_goals
    first
    | go_ret
      refine ⟨_, rfl, ?_, gb_alloc (gb_refl _ _) _⟩
      unfold right
      simp at *
      (try unfold wrap64 at *)
      omega
    | go_outline
set_option maxRecDepth 100000 in
set_option maxHeartbeats 2000000 in
theorem rright_stay (w : World) (op addr words cand many bits at_ : Int) (h : op = 0 ∨ op = 5 ∨ op = 7) (r0 : -9223372036854775808 ≤ words) (r1 : words ≤ 9223372036854775807) :
    Calls Try.prog 12 #[Cd.v ⟨op, addr, words, cand, many, bits, at_⟩] w (BoolPost (right ⟨op, addr, words, cand, many, bits, at_⟩) w) := by
  have HO := Lib.hid h
  clear h
  go_enter Try.func12, Try.ntmps12
  go_wp2_with fail
  all_goals
    first
    | go_ret
      refine ⟨_, rfl, ?_, gb_alloc (gb_refl _ _) _⟩
      unfold right
      simp at *
      (try unfold wrap64 at *)
      omega
    | go_outline
set_option maxRecDepth 100000 in
set_option maxHeartbeats 2000000 in
theorem rright_out (w : World) (op addr words cand many bits at_ : Int) (h : op < 0 ∨ 8 < op) :
    Calls Try.prog 12 #[Cd.v ⟨op, addr, words, cand, many, bits, at_⟩] w (BoolPost (right ⟨op, addr, words, cand, many, bits, at_⟩) w) := by
  rcases h with h | h
  · have d1 : decide (op < 0) = true := by simpa using h
    go_enter Try.func12, Try.ntmps12
    go_wp2_with fail
    go_ret
    exact ⟨_, rfl, by unfold right; simp; omega, gb_alloc (gb_refl _ _) _⟩
  · have d1 : decide (op < 0) = false := by simp; omega
    have d2 : decide (8 < op) = true := by simpa using h
    go_enter Try.func12, Try.ntmps12
    go_wp2_with fail
    go_ret
    exact ⟨_, rfl, by unfold right; simp; omega, gb_alloc (gb_refl _ _) _⟩
theorem rright_any (w : World) (c : Cd) (r0 : -9223372036854775808 ≤ c.words) (r1 : c.words ≤ 9223372036854775807) :
    Calls Try.prog 12 #[c.v] w (BoolPost (right c) w) := by
  obtain ⟨op, addr, words, cand, many, bits, at_⟩ := c
  by_cases h : op < 0 ∨ 8 < op
  · exact rright_out w op addr words cand many bits at_ h
  by_cases h2 : op = 0 ∨ op = 5 ∨ op = 7
  · exact rright_stay w op addr words cand many bits at_ h2 r0 r1
  obtain rfl | rfl | rfl | rfl | rfl | rfl : op = 1 ∨ op = 2 ∨ op = 3 ∨ op = 4 ∨ op = 6 ∨ op = 8 := by omega
  · exact rright_1 w addr words cand many bits at_ r0 r1
  · exact rright_2 w addr words cand many bits at_ r0 r1
  · exact rright_3 w addr words cand many bits at_ r0 r1
  · exact rright_4 w addr words cand many bits at_ r0 r1
  · exact rright_6 w addr words cand many bits at_ r0 r1
  · exact rright_8 w addr words cand many bits at_ r0 r1
end Cm
end Go.Proofs.Ytbhfbdldehahoaa
