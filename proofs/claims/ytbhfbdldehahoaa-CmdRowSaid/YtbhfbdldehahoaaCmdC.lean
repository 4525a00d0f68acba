/- Commands: Clean, the code's. -/
import Derived.Test.YtbhfbdldehahoaaCmd
namespace Go.Proofs.Ytbhfbdldehahoaa
open Go.RowKit
set_option linter.unusedVariables false
namespace Cm
/-- A command without what does not count. -/
def clean (c : Cd) : Cd := ⟨c.op, if c.op = 1 ∨ c.op = 2 then c.addr else 0, if c.op = 1 ∨ c.op = 2 ∨ c.op = 3 then c.words else 0, if c.op = 1 then c.cand else 0,
  if c.op = 1 ∨ c.op = 2 ∨ c.op = 3 then c.many else 0, if c.op = 4 then c.bits else 0, if c.op = 6 ∨ c.op = 8 then c.at_ else 0⟩
set_option maxRecDepth 100000 in
set_option maxHeartbeats 2000000 in
theorem clean1 (w : World) (addr words cand many bits at_ : Int) :
    Calls Try.prog 14 #[Cd.v ⟨1, addr, words, cand, many, bits, at_⟩] w fun e w' => e = .returned (Cd.v ⟨1, addr, words, cand, many, 0, 0⟩) ∧ w.grownBy w' none := by
  go_enter Try.func14, Try.ntmps14
  go_wp2_with fail
  refine (bytes1 _ _ (by go_simp)).mono ?_
  rintro e w1 ⟨rfl, n1, rfl⟩
  go_wp2_with fail
  refine (bytes1 _ _ (by go_simp)).mono ?_
  rintro e w1 ⟨rfl, n2, rfl⟩
  go_wp2_with fail
  refine wp_loop_rounds 5 ?_
  rw [rounds_succ]
  go_wp2_with fail
  rw [rounds_succ]
  go_wp2_with fail
  rw [rounds_succ]
  go_wp2_with fail
  rw [rounds_succ]
  go_wp2_with fail
  rw [rounds_succ]
  go_wp2_with fail
  refine (goes_no _ _ 1 (by go_simp) (by omega) (by omega)).mono ?_
  rintro e w1 ⟨rfl, n3, rfl⟩
  go_wp2_with fail
  refine bodyPost_ret (v := Cd.v ⟨1, addr, words, cand, many, 0, 0⟩) (by simp [results, Try.results14, go_sem]) rfl ⟨rfl, ?_⟩
  repeat (with_reducible (first | exact gb_refl _ _ | apply gb_drewN | apply gb_drew | apply gb_alloc | (refine gb_setNew ?_ (by simp <;> omega) _)))
set_option maxRecDepth 100000 in
set_option maxHeartbeats 2000000 in
theorem clean2 (w : World) (addr words cand many bits at_ : Int) :
    Calls Try.prog 14 #[Cd.v ⟨2, addr, words, cand, many, bits, at_⟩] w fun e w' => e = .returned (Cd.v ⟨2, addr, words, 0, many, 0, 0⟩) ∧ w.grownBy w' none := by
  go_enter Try.func14, Try.ntmps14
  go_wp2_with fail
  refine (bytes2 _ _ (by go_simp)).mono ?_
  rintro e w1 ⟨rfl, n1, rfl⟩
  go_wp2_with fail
  refine (bytes2 _ _ (by go_simp)).mono ?_
  rintro e w1 ⟨rfl, n2, rfl⟩
  go_wp2_with fail
  refine wp_loop_rounds 4 ?_
  rw [rounds_succ]
  go_wp2_with fail
  rw [rounds_succ]
  go_wp2_with fail
  rw [rounds_succ]
  go_wp2_with fail
  rw [rounds_succ]
  go_wp2_with fail
  refine (goes_no _ _ 2 (by go_simp) (by omega) (by omega)).mono ?_
  rintro e w1 ⟨rfl, n3, rfl⟩
  go_wp2_with fail
  refine bodyPost_ret (v := Cd.v ⟨2, addr, words, 0, many, 0, 0⟩) (by simp [results, Try.results14, go_sem]) rfl ⟨rfl, ?_⟩
  repeat (with_reducible (first | exact gb_refl _ _ | apply gb_drewN | apply gb_drew | apply gb_alloc | (refine gb_setNew ?_ (by simp <;> omega) _)))
set_option maxRecDepth 100000 in
set_option maxHeartbeats 2000000 in
theorem clean3 (w : World) (addr words cand many bits at_ : Int) :
    Calls Try.prog 14 #[Cd.v ⟨3, addr, words, cand, many, bits, at_⟩] w fun e w' => e = .returned (Cd.v ⟨3, 0, words, 0, many, 0, 0⟩) ∧ w.grownBy w' none := by
  go_enter Try.func14, Try.ntmps14
  go_wp2_with fail
  refine (bytes3 _ _ (by go_simp)).mono ?_
  rintro e w1 ⟨rfl, n1, rfl⟩
  go_wp2_with fail
  refine (bytes3 _ _ (by go_simp)).mono ?_
  rintro e w1 ⟨rfl, n2, rfl⟩
  go_wp2_with fail
  refine wp_loop_rounds 3 ?_
  rw [rounds_succ]
  go_wp2_with fail
  rw [rounds_succ]
  go_wp2_with fail
  rw [rounds_succ]
  go_wp2_with fail
  refine (goes_no _ _ 3 (by go_simp) (by omega) (by omega)).mono ?_
  rintro e w1 ⟨rfl, n3, rfl⟩
  go_wp2_with fail
  refine bodyPost_ret (v := Cd.v ⟨3, 0, words, 0, many, 0, 0⟩) (by simp [results, Try.results14, go_sem]) rfl ⟨rfl, ?_⟩
  repeat (with_reducible (first | exact gb_refl _ _ | apply gb_drewN | apply gb_drew | apply gb_alloc | (refine gb_setNew ?_ (by simp <;> omega) _)))
set_option maxRecDepth 100000 in
set_option maxHeartbeats 2000000 in
theorem clean4 (w : World) (addr words cand many bits at_ : Int) :
    Calls Try.prog 14 #[Cd.v ⟨4, addr, words, cand, many, bits, at_⟩] w fun e w' => e = .returned (Cd.v ⟨4, 0, 0, 0, 0, bits, 0⟩) ∧ w.grownBy w' none := by
  go_enter Try.func14, Try.ntmps14
  go_wp2_with fail
  refine (bytes4 _ _ (by go_simp)).mono ?_
  rintro e w1 ⟨rfl, n1, rfl⟩
  go_wp2_with fail
  refine (bytes4 _ _ (by go_simp)).mono ?_
  rintro e w1 ⟨rfl, n2, rfl⟩
  go_wp2_with fail
  refine wp_loop_rounds 2 ?_
  rw [rounds_succ]
  go_wp2_with fail
  rw [rounds_succ]
  go_wp2_with fail
  refine (goes_no _ _ 4 (by go_simp) (by omega) (by omega)).mono ?_
  rintro e w1 ⟨rfl, n3, rfl⟩
  go_wp2_with fail
  refine bodyPost_ret (v := Cd.v ⟨4, 0, 0, 0, 0, bits, 0⟩) (by simp [results, Try.results14, go_sem]) rfl ⟨rfl, ?_⟩
  repeat (with_reducible (first | exact gb_refl _ _ | apply gb_drewN | apply gb_drew | apply gb_alloc | (refine gb_setNew ?_ (by simp <;> omega) _)))
set_option maxRecDepth 100000 in
set_option maxHeartbeats 2000000 in
theorem clean_go (w : World) (op addr words cand many bits at_ : Int) (h : op = 6 ∨ op = 8) :
    Calls Try.prog 14 #[Cd.v ⟨op, addr, words, cand, many, bits, at_⟩] w fun e w' => e = .returned (Cd.v ⟨op, 0, 0, 0, 0, 0, at_⟩) ∧ w.grownBy w' none := by
  go_enter Try.func14, Try.ntmps14
  go_wp2_with fail
  refine (bytes_none _ _ op (by go_simp) (by omega) (by omega) (by omega) (by omega)).mono ?_
  rintro e w1 ⟨rfl, rfl⟩
  go_wp2_with fail
  refine (bytes_none _ _ op (by go_simp) (by omega) (by omega) (by omega) (by omega)).mono ?_
  rintro e w1 ⟨rfl, rfl⟩
  go_wp2_with fail
  refine wp_loop_rounds 1 ?_
  rw [rounds_succ]
  go_wp2_with fail
  refine (goes_yes _ _ op (by go_simp) h).mono ?_
  rintro e w1 ⟨rfl, n3, rfl⟩
  go_wp2_with fail
  refine bodyPost_ret (v := Cd.v ⟨op, 0, 0, 0, 0, 0, at_⟩) (by simp [results, Try.results14, go_sem]) rfl ⟨rfl, ?_⟩
  repeat (with_reducible (first | exact gb_refl _ _ | apply gb_drewN | apply gb_drew | apply gb_alloc | (refine gb_setNew ?_ (by simp <;> omega) _)))
set_option maxRecDepth 100000 in
set_option maxHeartbeats 2000000 in
theorem clean_stay (w : World) (op addr words cand many bits at_ : Int) (h1 : op ≠ 1) (h2 : op ≠ 2) (h3 : op ≠ 3) (h4 : op ≠ 4) (h6 : op ≠ 6) (h8 : op ≠ 8) :
    Calls Try.prog 14 #[Cd.v ⟨op, addr, words, cand, many, bits, at_⟩] w fun e w' => e = .returned (Cd.v ⟨op, 0, 0, 0, 0, 0, 0⟩) ∧ w.grownBy w' none := by
  go_enter Try.func14, Try.ntmps14
  go_wp2_with fail
  refine (bytes_none _ _ op (by go_simp) h1 h2 h3 h4).mono ?_
  rintro e w1 ⟨rfl, rfl⟩
  go_wp2_with fail
  refine (bytes_none _ _ op (by go_simp) h1 h2 h3 h4).mono ?_
  rintro e w1 ⟨rfl, rfl⟩
  go_wp2_with fail
  refine wp_loop_rounds 1 ?_
  rw [rounds_succ]
  go_wp2_with fail
  refine (goes_no _ _ op (by go_simp) h6 h8).mono ?_
  rintro e w1 ⟨rfl, n3, rfl⟩
  go_wp2_with fail
  refine bodyPost_ret (v := Cd.v ⟨op, 0, 0, 0, 0, 0, 0⟩) (by simp [results, Try.results14, go_sem]) rfl ⟨rfl, ?_⟩
  repeat (with_reducible (first | exact gb_refl _ _ | apply gb_drewN | apply gb_drew | apply gb_alloc | (refine gb_setNew ?_ (by simp <;> omega) _)))
theorem clean_any (w : World) (c : Cd) : Calls Try.prog 14 #[c.v] w fun e w' => e = .returned (clean c).v ∧ w.grownBy w' none := by
  obtain ⟨op, addr, words, cand, many, bits, at_⟩ := c
  by_cases h1 : op = 1
  · subst h1; simpa [clean] using clean1 w addr words cand many bits at_
  by_cases h2 : op = 2
  · subst h2; simpa [clean] using clean2 w addr words cand many bits at_
  by_cases h3 : op = 3
  · subst h3; simpa [clean] using clean3 w addr words cand many bits at_
  by_cases h4 : op = 4
  · subst h4; simpa [clean] using clean4 w addr words cand many bits at_
  by_cases h5 : op = 6 ∨ op = 8
  · have e : clean ⟨op, addr, words, cand, many, bits, at_⟩ = ⟨op, 0, 0, 0, 0, 0, at_⟩ := by simp [clean, h1, h2, h3, h4, h5]
    rw [e]
    exact clean_go w op addr words cand many bits at_ h5
  · have e : clean ⟨op, addr, words, cand, many, bits, at_⟩ = ⟨op, 0, 0, 0, 0, 0, 0⟩ := by simp [clean, h1, h2, h3, h4, h5]
    rw [e]
    exact clean_stay w op addr words cand many bits at_ h1 h2 h3 h4 (fun h => h5 (.inl h)) (fun h => h5 (.inr h))
end Cm
end Go.Proofs.Ytbhfbdldehahoaa
