/- Commands: the reference's Put. -/
import Derived.Test.YtbhfbdldehahoaaCmdI
import Derived.Laws.Concat
namespace Go.Proofs.Ytbhfbdldehahoaa
open Go.RowKit
set_option linter.unusedVariables false
set_option linter.unusedSimpArgs false
namespace Cm
theorem str_app (l m : List Int) : strOfNums l ++ strOfNums m = strOfNums (l ++ m) := by
  apply ByteArray.ext
  simp [strOfNums, ByteArray.data_append]
theorem add_str {P : Program} (w : World) (l m : List Int) (h : l.length + m.length ≤ 1000) : (Op.stringOp .add (strOfNums l) (strOfNums m)).run P w = .ok (.string (strOfNums (l ++ m))) w := by
  rw [run_string_add_sum w _ _ (by rw [strOfNums_size, strOfNums_size]; omega), str_app]
theorem add_str0 {P : Program} (w : World) (m : List Int) (h : m.length ≤ 1000) : (Op.stringOp .add ⟨#[]⟩ (strOfNums m)).run P w = .ok (.string (strOfNums m)) w := by
  have := add_str (P := P) w [] m (by simpa using h)
  simpa [strOfNums] using this
theorem one_str (w : World) (b : Nat) (x : Int) (hb : b = w.heap.size) :
    (convert 22 9 (.slice (some ⟨b, 0, none⟩) 1 1)).run Try.prog (w.alloc (.cells #[.int .u8 x] 5)) = .ok (.string (strOfNums [x])) (w.alloc (.cells #[.int .u8 x] 5)) := by
  subst hb
  refine conv_cells _ _ 1 1 [x] Try.underlying22 Try.underlying5 Try.underlying9 rfl fun _ => ⟨_, 0, rfl, fun i hi => ?_⟩
  obtain rfl : i = 0 := by omega
  exact (Blk.new w 5 [.int .u8 x]).cell 0 _ rfl
attribute [-go_sem] run_string_add_if
attribute [local go_sem high] add_str add_str0 one_str
attribute [local go_sem] alloc_drewN' setCell_drewN'
set_option maxRecDepth 100000 in
set_option maxHeartbeats 4000000 in
theorem rput1 (w : World) (addr words cand many bits at_ : Int) (g1 : 1 ≤ words) (g2 : words ≤ 8) (g3 : 1 ≤ many) (g4 : many ≤ 4) (g5 : 0 ≤ addr) (g6 : addr ≤ 64 - words) (g7 : 0 ≤ cand) (g8 : cand ≤ many - 1) :
    Calls Try.prog 16 #[Cd.v ⟨1, addr, words, cand, many, bits, at_⟩] w fun e w' => e = .returned (.string (strOfNums [1, addr, words, cand, many])) ∧ w.grownBy w' none := by
  go_enter Try.func16, Try.ntmps16
  go_wp2_with fail
  refine wp_loop_rounds 6 ?_
  rw [rounds_succ]
  go_wp2_with fail
  rw [rounds_succ]
  go_wp2_with fail
  rw [rounds_succ]
  go_wp2_with fail
  rw [rounds_succ]
  go_wp2_with fail
  rw [rounds_succ]
  go_wp2_with fail
  rw [rounds_succ]
  go_wp2_with fail
  go_ret
  refine ⟨rfl, ?_⟩
  repeat (with_reducible (first | exact gb_refl _ _ | apply gb_drewN | apply gb_drew | apply gb_alloc | (refine gb_setNew ?_ (by simp <;> omega) _)))
set_option maxRecDepth 100000 in
set_option maxHeartbeats 4000000 in
theorem rput2 (w : World) (addr words cand many bits at_ : Int) (g1 : 1 ≤ words) (g2 : words ≤ 8) (g3 : 1 ≤ many) (g4 : many ≤ 4) (g5 : 0 ≤ addr) (g6 : addr ≤ 64 - words) :
    Calls Try.prog 16 #[Cd.v ⟨2, addr, words, cand, many, bits, at_⟩] w fun e w' => e = .returned (.string (strOfNums [2, addr, words, many])) ∧ w.grownBy w' none := by
  go_enter Try.func16, Try.ntmps16
  go_wp2_with fail
  refine wp_loop_rounds 5 ?_
  rw [rounds_succ]
  go_wp2_with fail
  rw [rounds_succ]
  go_wp2_with fail
  rw [rounds_succ]
  go_wp2_with fail
  rw [rounds_succ]
  go_wp2_with fail
  rw [rounds_succ]
  go_wp2_with fail
  go_ret
  refine ⟨rfl, ?_⟩
  repeat (with_reducible (first | exact gb_refl _ _ | apply gb_drewN | apply gb_drew | apply gb_alloc | (refine gb_setNew ?_ (by simp <;> omega) _)))
set_option maxRecDepth 100000 in
set_option maxHeartbeats 4000000 in
theorem rput3 (w : World) (addr words cand many bits at_ : Int) (g1 : 1 ≤ words) (g2 : words ≤ 8) (g3 : 1 ≤ many) (g4 : many ≤ 4) :
    Calls Try.prog 16 #[Cd.v ⟨3, addr, words, cand, many, bits, at_⟩] w fun e w' => e = .returned (.string (strOfNums [3, words, many])) ∧ w.grownBy w' none := by
  go_enter Try.func16, Try.ntmps16
  go_wp2_with fail
  refine wp_loop_rounds 4 ?_
  rw [rounds_succ]
  go_wp2_with fail
  rw [rounds_succ]
  go_wp2_with fail
  rw [rounds_succ]
  go_wp2_with fail
  rw [rounds_succ]
  go_wp2_with fail
  go_ret
  refine ⟨rfl, ?_⟩
  repeat (with_reducible (first | exact gb_refl _ _ | apply gb_drewN | apply gb_drew | apply gb_alloc | (refine gb_setNew ?_ (by simp <;> omega) _)))
set_option maxRecDepth 100000 in
set_option maxHeartbeats 4000000 in
theorem rput4 (w : World) (addr words cand many bits at_ : Int) (g1 : 1 ≤ bits) (g2 : bits ≤ 100) :
    Calls Try.prog 16 #[Cd.v ⟨4, addr, words, cand, many, bits, at_⟩] w fun e w' => e = .returned (.string (strOfNums [4, bits])) ∧ w.grownBy w' none := by
  go_enter Try.func16, Try.ntmps16
  go_wp2_with fail
  refine wp_loop_rounds 3 ?_
  rw [rounds_succ]
  go_wp2_with fail
  rw [rounds_succ]
  go_wp2_with fail
  rw [rounds_succ]
  go_wp2_with fail
  go_ret
  refine ⟨rfl, ?_⟩
  repeat (with_reducible (first | exact gb_refl _ _ | apply gb_drewN | apply gb_drew | apply gb_alloc | (refine gb_setNew ?_ (by simp <;> omega) _)))
set_option maxRecDepth 100000 in
set_option maxHeartbeats 4000000 in
theorem rput6 (w : World) (addr words cand many bits at_ : Int) (g1 : 0 ≤ at_) (g2 : at_ ≤ 1023) :
    Calls Try.prog 16 #[Cd.v ⟨6, addr, words, cand, many, bits, at_⟩] w fun e w' => e = .returned (.string (strOfNums [6, at_ / 256, at_ % 256])) ∧ w.grownBy w' none := by
  obtain ⟨q, hq, eq, q0, q1⟩ : ∃ q, at_.tdiv 256 = q ∧ Hid (q = at_ / 256) ∧ 0 ≤ q ∧ q ≤ 3 := ⟨_, rfl, Int.tdiv_eq_ediv_of_nonneg g1, by rw [Int.tdiv_eq_ediv_of_nonneg g1]; omega, by rw [Int.tdiv_eq_ediv_of_nonneg g1]; omega⟩
  obtain ⟨m, hm, em, m0, m1⟩ : ∃ m, at_.tmod 256 = m ∧ Hid (m = at_ % 256) ∧ 0 ≤ m ∧ m ≤ 255 := ⟨_, rfl, Int.tmod_eq_emod_of_nonneg g1, by rw [Int.tmod_eq_emod_of_nonneg g1]; omega, by rw [Int.tmod_eq_emod_of_nonneg g1]; omega⟩
  rw [← show q = at_ / 256 from eq, ← show m = at_ % 256 from em]
  clear eq em
  go_enter Try.func16, Try.ntmps16
  go_wp2_with fail
  refine wp_loop_rounds 4 ?_
  rw [rounds_succ]
  go_wp2_with fail
  rw [rounds_succ]
  go_wp2_with fail
  rw [rounds_succ]
  go_wp2_with fail
  rw [rounds_succ]
  go_wp2_with fail
  go_ret
  refine ⟨rfl, ?_⟩
  repeat (with_reducible (first | exact gb_refl _ _ | apply gb_drewN | apply gb_drew | apply gb_alloc | (refine gb_setNew ?_ (by simp <;> omega) _)))
set_option maxRecDepth 100000 in
set_option maxHeartbeats 4000000 in
theorem rput8 (w : World) (addr words cand many bits at_ : Int) (g1 : 0 ≤ at_) (g2 : at_ ≤ 1023) :
    Calls Try.prog 16 #[Cd.v ⟨8, addr, words, cand, many, bits, at_⟩] w fun e w' => e = .returned (.string (strOfNums [8, at_ / 256, at_ % 256])) ∧ w.grownBy w' none := by
  obtain ⟨q, hq, eq, q0, q1⟩ : ∃ q, at_.tdiv 256 = q ∧ Hid (q = at_ / 256) ∧ 0 ≤ q ∧ q ≤ 3 := ⟨_, rfl, Int.tdiv_eq_ediv_of_nonneg g1, by rw [Int.tdiv_eq_ediv_of_nonneg g1]; omega, by rw [Int.tdiv_eq_ediv_of_nonneg g1]; omega⟩
  obtain ⟨m, hm, em, m0, m1⟩ : ∃ m, at_.tmod 256 = m ∧ Hid (m = at_ % 256) ∧ 0 ≤ m ∧ m ≤ 255 := ⟨_, rfl, Int.tmod_eq_emod_of_nonneg g1, by rw [Int.tmod_eq_emod_of_nonneg g1]; omega, by rw [Int.tmod_eq_emod_of_nonneg g1]; omega⟩
  rw [← show q = at_ / 256 from eq, ← show m = at_ % 256 from em]
  clear eq em
  go_enter Try.func16, Try.ntmps16
  go_wp2_with fail
  refine wp_loop_rounds 4 ?_
  rw [rounds_succ]
  go_wp2_with fail
  rw [rounds_succ]
  go_wp2_with fail
  rw [rounds_succ]
  go_wp2_with fail
  rw [rounds_succ]
  go_wp2_with fail
  go_ret
  refine ⟨rfl, ?_⟩
  repeat (with_reducible (first | exact gb_refl _ _ | apply gb_drewN | apply gb_drew | apply gb_alloc | (refine gb_setNew ?_ (by simp <;> omega) _)))
set_option maxRecDepth 100000 in
set_option maxHeartbeats 4000000 in
theorem rput_stay (w : World) (op addr words cand many bits at_ : Int) (h : op = 0 ∨ op = 5 ∨ op = 7) :
    Calls Try.prog 16 #[Cd.v ⟨op, addr, words, cand, many, bits, at_⟩] w fun e w' => e = .returned (.string (strOfNums [op])) ∧ w.grownBy w' none := by
  rcases h with rfl | rfl | rfl
  all_goals
    go_enter Try.func16, Try.ntmps16
    go_wp2_with fail
    refine wp_loop_rounds 2 ?_
    rw [rounds_succ]
    go_wp2_with fail
    rw [rounds_succ]
    go_wp2_with fail
    go_ret
    refine ⟨rfl, ?_⟩
    repeat (with_reducible (first | exact gb_refl _ _ | apply gb_drewN | apply gb_drew | apply gb_alloc | (refine gb_setNew ?_ (by simp <;> omega) _)))
theorem rput_any (w : World) (c : Cd) (hr : right c) : Calls Try.prog 16 #[c.v] w fun e w' => e = .returned (.string (strOfNums (put c))) ∧ w.grownBy w' none := by
  obtain ⟨op, addr, words, cand, many, bits, at_⟩ := c
  have h := hr
  unfold right at h
  dsimp only at h
  by_cases h1 : op = 1
  · subst h1; exact rput1 w addr words cand many bits at_ (by omega) (by omega) (by omega) (by omega) (by omega) (by omega) (by omega) (by omega)
  by_cases h2 : op = 2
  · subst h2; exact rput2 w addr words cand many bits at_ (by omega) (by omega) (by omega) (by omega) (by omega) (by omega)
  by_cases h3 : op = 3
  · subst h3; exact rput3 w addr words cand many bits at_ (by omega) (by omega) (by omega) (by omega)
  by_cases h4 : op = 4
  · subst h4; exact rput4 w addr words cand many bits at_ (by omega) (by omega)
  by_cases h6 : op = 6
  · subst h6; exact rput6 w addr words cand many bits at_ (by omega) (by omega)
  by_cases h8 : op = 8
  · subst h8; exact rput8 w addr words cand many bits at_ (by omega) (by omega)
  · have e : put ⟨op, addr, words, cand, many, bits, at_⟩ = [op] := by simp [put, h1, h2, h3, h4, h6, h8]
    rw [e]
    exact rput_stay w op addr words cand many bits at_ (by omega)
theorem right_yes (w : World) (c : Cd) (hr : right c) (r0 : -9223372036854775808 ≤ c.words) (r1 : c.words ≤ 9223372036854775807) (r2 : -9223372036854775808 ≤ c.many) (r3 : c.many ≤ 9223372036854775807) :
    Calls Try.prog 13 #[c.v] w fun e w' => e = .returned (.bool true) ∧ w.grownBy w' none :=
  (right_any w c r0 r1 r2 r3).mono fun _ _ ⟨b, he, hb, hg⟩ => ⟨by rw [he, hb.2 hr], hg⟩
theorem right_not (w : World) (c : Cd) (hr : ¬ right c) (r0 : -9223372036854775808 ≤ c.words) (r1 : c.words ≤ 9223372036854775807) (r2 : -9223372036854775808 ≤ c.many) (r3 : c.many ≤ 9223372036854775807) :
    Calls Try.prog 13 #[c.v] w fun e w' => e = .returned (.bool false) ∧ w.grownBy w' none :=
  (right_any w c r0 r1 r2 r3).mono fun _ _ ⟨b, he, hb, hg⟩ => ⟨by rw [he]; cases b; rfl; exact absurd (hb.1 rfl) hr, hg⟩
theorem rright_yes (w : World) (c : Cd) (hr : right c) (r0 : -9223372036854775808 ≤ c.words) (r1 : c.words ≤ 9223372036854775807) :
    Calls Try.prog 12 #[c.v] w fun e w' => e = .returned (.bool true) ∧ w.grownBy w' none :=
  (rright_any w c r0 r1).mono fun _ _ ⟨b, he, hb, hg⟩ => ⟨by rw [he, hb.2 hr], hg⟩
theorem rright_not (w : World) (c : Cd) (hr : ¬ right c) (r0 : -9223372036854775808 ≤ c.words) (r1 : c.words ≤ 9223372036854775807) :
    Calls Try.prog 12 #[c.v] w fun e w' => e = .returned (.bool false) ∧ w.grownBy w' none :=
  (rright_any w c r0 r1).mono fun _ _ ⟨b, he, hb, hg⟩ => ⟨by rw [he]; cases b; rfl; exact absurd (hb.1 rfl) hr, hg⟩
theorem put_not (w : World) (c : Cd) (hr : ¬ right c) (r0 : -9223372036854775808 ≤ c.words) (r1 : c.words ≤ 9223372036854775807) (r2 : -9223372036854775808 ≤ c.many) (r3 : c.many ≤ 9223372036854775807) :
    Calls Try.prog 11 #[c.v] w fun e w' => e = .returned (.tuple #[.slice none 0 0, .int .i64 2]) ∧ w.grownBy w' none :=
  put_no w c.op c.addr c.words c.cand c.many c.bits c.at_ hr r0 r1 r2 r3
end Cm
end Go.Proofs.Ytbhfbdldehahoaa
