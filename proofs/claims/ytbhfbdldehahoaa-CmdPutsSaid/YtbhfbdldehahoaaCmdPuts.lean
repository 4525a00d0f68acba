/- CmdPuts. -/
import Derived.Test.YtbhfbdldehahoaaCmdO
namespace Go.Proofs.Ytbhfbdldehahoaa
open Go.ChangeShapes Go.WideShapes Go.ChangeAt Go.RowKit Go.Proofs.Ytbhfbdldehahoaa.Cm
set_option linter.unusedVariables false
set_option linter.unusedSimpArgs false
namespace cmdPutsW
set_option maxRecDepth 100000 in
set_option maxHeartbeats 4000000 in
theorem walk_not (w : World) (c : Cd) (hr : ¬ right c) (r0 : -9223372036854775808 ≤ c.words) (r1 : c.words ≤ 9223372036854775807) (r2 : -9223372036854775808 ≤ c.many) (r3 : c.many ≤ 9223372036854775807) :
    Calls Try.prog 4 #[c.v] w fun e w' => e = .returned (.bool true) ∧ Below w.heap.size w w' := by
  have HR := Lib.hid hr
  clear hr
  have hB0 := Blk.new w 24 c.cells
  go_enter Try.func4, Try.ntmps4
  go_wp2_with fail
  refine (own_any _ c).mono ?_
  rintro e w1 ⟨rfl, hg1⟩
  have hB1 := (hB0.kept hg1 (by simp)).alloc (.cells #[.int .i64 c.op, .int .i64 c.addr, .int .i64 c.words, .int .i64 c.cand, .int .i64 c.many, .int .i64 c.bits, .int .i64 c.at_] 28)
  have hR1 := Blk.new w1 28 c.cells
  have hW1 := gb_alloc (gb_trans (gb_alloc (gb_refl w none) _) hg1) (.cells #[.int .i64 c.op, .int .i64 c.addr, .int .i64 c.words, .int .i64 c.cand, .int .i64 c.many, .int .i64 c.bits, .int .i64 c.at_] 28)
  clear hB0 hg1
  have cb0 := hB1.cell 0 _ rfl
  have cb1 := hB1.cell 1 _ rfl
  have cb2 := hB1.cell 2 _ rfl
  have cb3 := hB1.cell 3 _ rfl
  have cb4 := hB1.cell 4 _ rfl
  have cb5 := hB1.cell 5 _ rfl
  have cb6 := hB1.cell 6 _ rfl
  have cr0 := hR1.cell 0 _ rfl
  have cr1 := hR1.cell 1 _ rfl
  have cr2 := hR1.cell 2 _ rfl
  have cr3 := hR1.cell 3 _ rfl
  have cr4 := hR1.cell 4 _ rfl
  have cr5 := hR1.cell 5 _ rfl
  have cr6 := hR1.cell 6 _ rfl
  go_upto_region 2 with (fail)
  refine forget_world (fun w' => Blk w' w.heap.size 24 c.cells ∧ Blk w' w1.heap.size 28 c.cells ∧ w.grownBy w' none) ⟨hB1, hR1, hW1⟩ ?_
  rintro w2 ⟨hB2, hR2, hW2⟩
  clear cb0 cr0 cb1 cr1 cb2 cr2 cb3 cr3 cb4 cr4 cb5 cr5 cb6 cr6 hB1 hR1 hW1
  have cb0 := hB2.cell 0 _ rfl
  have cb1 := hB2.cell 1 _ rfl
  have cb2 := hB2.cell 2 _ rfl
  have cb3 := hB2.cell 3 _ rfl
  have cb4 := hB2.cell 4 _ rfl
  have cb5 := hB2.cell 5 _ rfl
  have cb6 := hB2.cell 6 _ rfl
  go_wp2_with fail
  refine (put_not _ c HR.out r0 r1 r2 r3).mono ?_
  rintro e w3 ⟨rfl, hg3⟩
  have hB3 := hB2.kept hg3 (by simp)
  have hR3 := hR2.kept hg3 (by simp)
  have hW3 := gb_trans hW2 hg3
  clear cb0 cb1 cb2 cb3 cb4 cb5 cb6 hB2 hR2 hW2 hg3
  have cr0 := hR3.cell 0 _ rfl
  have cr1 := hR3.cell 1 _ rfl
  have cr2 := hR3.cell 2 _ rfl
  have cr3 := hR3.cell 3 _ rfl
  have cr4 := hR3.cell 4 _ rfl
  have cr5 := hR3.cell 5 _ rfl
  have cr6 := hR3.cell 6 _ rfl
  go_wp2_with fail
  refine (rright_not _ c HR.out r0 r1).mono ?_
  rintro e w4 ⟨rfl, hg4⟩
  have hB4 := hB3.kept hg4 (by simp)
  have hR4 := hR3.kept hg4 (by simp)
  have hW4 := gb_trans hW3 hg4
  clear cr0 cr1 cr2 cr3 cr4 cr5 cr6 hB3 hR3 hW3 hg4
  go_upto_region 4 with (fail)
  have hc0 := fun x : New w4 => (hB4.kept x.ok (by simp)).cell 0 _ rfl
  have hc1 := fun x : New w4 => (hB4.kept x.ok (by simp)).cell 1 _ rfl
  have hc2 := fun x : New w4 => (hB4.kept x.ok (by simp)).cell 2 _ rfl
  have hc3 := fun x : New w4 => (hB4.kept x.ok (by simp)).cell 3 _ rfl
  have hc4 := fun x : New w4 => (hB4.kept x.ok (by simp)).cell 4 _ rfl
  have hc5 := fun x : New w4 => (hB4.kept x.ok (by simp)).cell 5 _ rfl
  have hc6 := fun x : New w4 => (hB4.kept x.ok (by simp)).cell 6 _ rfl
  have hq0 := fun x : New w4 => (hR4.kept x.ok (by simp)).cell 0 _ rfl
  have hq1 := fun x : New w4 => (hR4.kept x.ok (by simp)).cell 1 _ rfl
  have hq2 := fun x : New w4 => (hR4.kept x.ok (by simp)).cell 2 _ rfl
  have hq3 := fun x : New w4 => (hR4.kept x.ok (by simp)).cell 3 _ rfl
  have hq4 := fun x : New w4 => (hR4.kept x.ok (by simp)).cell 4 _ rfl
  have hq5 := fun x : New w4 => (hR4.kept x.ok (by simp)).cell 5 _ rfl
  have hq6 := fun x : New w4 => (hR4.kept x.ok (by simp)).cell 6 _ rfl
  clear hB4 hR4
  haveI hnw := new_ne w4
  refine new_start fun x => ?_
  refine wp_region_later (by kernel_rfl) (by kernel_rfl) ?_
  repeat (go_big_quiet_step ((first | (go_at_call 13; exact new_gb (right_not _ c HR.out r0 r1 r2 r3)) | (go_at_call 14; exact new_gb (clean_any _ c)) | (go_at_call 9; exact new_gb (own_any _ (clean c))) | (go_at_call 15; exact new_gb (rclean_any _ c)) | (go_at_call 10; exact new_gb (one_any _)))))
  refine wpQuiet_nil ?_
  intro _ hw'
  obtain ⟨y, hw''⟩ := hw'
  subst hw''
  go_wp2_with fail
  go_ret
  exact ⟨rfl, below_of_gb (gb_trans hW4 y.ok)⟩
set_option maxRecDepth 100000 in
set_option maxHeartbeats 4000000 in
theorem walk_yes (w : World) (c : Cd) (hr : right c) (r0 : -9223372036854775808 ≤ c.words) (r1 : c.words ≤ 9223372036854775807) (r2 : -9223372036854775808 ≤ c.many) (r3 : c.many ≤ 9223372036854775807) :
    Calls Try.prog 4 #[c.v] w fun e w' => e = .returned (.bool true) ∧ Below w.heap.size w w' := by
  have HR := Lib.hid hr
  clear hr
  have hB0 := Blk.new w 24 c.cells
  go_enter Try.func4, Try.ntmps4
  go_wp2_with fail
  refine (own_any _ c).mono ?_
  rintro e w1 ⟨rfl, hg1⟩
  have hB1 := (hB0.kept hg1 (by simp)).alloc (.cells #[.int .i64 c.op, .int .i64 c.addr, .int .i64 c.words, .int .i64 c.cand, .int .i64 c.many, .int .i64 c.bits, .int .i64 c.at_] 28)
  have hR1 := Blk.new w1 28 c.cells
  have hW1 := gb_alloc (gb_trans (gb_alloc (gb_refl w none) _) hg1) (.cells #[.int .i64 c.op, .int .i64 c.addr, .int .i64 c.words, .int .i64 c.cand, .int .i64 c.many, .int .i64 c.bits, .int .i64 c.at_] 28)
  clear hB0 hg1
  have cb0 := hB1.cell 0 _ rfl
  have cb1 := hB1.cell 1 _ rfl
  have cb2 := hB1.cell 2 _ rfl
  have cb3 := hB1.cell 3 _ rfl
  have cb4 := hB1.cell 4 _ rfl
  have cb5 := hB1.cell 5 _ rfl
  have cb6 := hB1.cell 6 _ rfl
  have cr0 := hR1.cell 0 _ rfl
  have cr1 := hR1.cell 1 _ rfl
  have cr2 := hR1.cell 2 _ rfl
  have cr3 := hR1.cell 3 _ rfl
  have cr4 := hR1.cell 4 _ rfl
  have cr5 := hR1.cell 5 _ rfl
  have cr6 := hR1.cell 6 _ rfl
  go_upto_region 2 with (fail)
  refine forget_world (fun w' => Blk w' w.heap.size 24 c.cells ∧ Blk w' w1.heap.size 28 c.cells ∧ w.grownBy w' none) ⟨hB1, hR1, hW1⟩ ?_
  rintro w2 ⟨hB2, hR2, hW2⟩
  clear cb0 cr0 cb1 cr1 cb2 cr2 cb3 cr3 cb4 cr4 cb5 cr5 cb6 cr6 hB1 hR1 hW1
  have cb0 := hB2.cell 0 _ rfl
  have cb1 := hB2.cell 1 _ rfl
  have cb2 := hB2.cell 2 _ rfl
  have cb3 := hB2.cell 3 _ rfl
  have cb4 := hB2.cell 4 _ rfl
  have cb5 := hB2.cell 5 _ rfl
  have cb6 := hB2.cell 6 _ rfl
  go_wp2_with fail
  refine (put_sl _ c HR.out r0 r1 r2 r3).mono ?_
  rintro e w3 ⟨A, cp, rfl, hs, hg3⟩
  have hB3 := hB2.kept hg3 (by simp)
  have hR3 := hR2.kept hg3 (by simp)
  have hW3 := gb_trans hW2 hg3
  clear cb0 cb1 cb2 cb3 cb4 cb5 cb6 hB2 hR2 hW2 hg3
  have cr0 := hR3.cell 0 _ rfl
  have cr1 := hR3.cell 1 _ rfl
  have cr2 := hR3.cell 2 _ rfl
  have cr3 := hR3.cell 3 _ rfl
  have cr4 := hR3.cell 4 _ rfl
  have cr5 := hR3.cell 5 _ rfl
  have cr6 := hR3.cell 6 _ rfl
  go_wp2_with fail
  refine (rright_yes _ c HR.out r0 r1).mono ?_
  rintro e w4 ⟨rfl, hg4⟩
  have hB4 := hB3.kept hg4 (by simp)
  have hR4 := hR3.kept hg4 (by simp)
  have hW4 := gb_trans hW3 hg4
  have hs4 := hs.kept hg4
  have hcv := fun x : New w4 => (hs4.kept x.ok).conv Try.underlying22 Try.underlying5 Try.underlying9
  have hsz := hs4.len
  have hpos : ((put c).length == 0) = false := by
    have : put c ≠ [] := by unfold put; repeat (split <;> try simp)
    simp [this]
  generalize hpp : put c = pp at hcv hsz hpos
  clear cr0 cr1 cr2 cr3 cr4 cr5 cr6 hB3 hR3 hW3 hg4
  go_upto_region 4 with (fail)
  have hc0 := fun x : New w4 => (hB4.kept x.ok (by simp)).cell 0 _ rfl
  have hc1 := fun x : New w4 => (hB4.kept x.ok (by simp)).cell 1 _ rfl
  have hc2 := fun x : New w4 => (hB4.kept x.ok (by simp)).cell 2 _ rfl
  have hc3 := fun x : New w4 => (hB4.kept x.ok (by simp)).cell 3 _ rfl
  have hc4 := fun x : New w4 => (hB4.kept x.ok (by simp)).cell 4 _ rfl
  have hc5 := fun x : New w4 => (hB4.kept x.ok (by simp)).cell 5 _ rfl
  have hc6 := fun x : New w4 => (hB4.kept x.ok (by simp)).cell 6 _ rfl
  have hq0 := fun x : New w4 => (hR4.kept x.ok (by simp)).cell 0 _ rfl
  have hq1 := fun x : New w4 => (hR4.kept x.ok (by simp)).cell 1 _ rfl
  have hq2 := fun x : New w4 => (hR4.kept x.ok (by simp)).cell 2 _ rfl
  have hq3 := fun x : New w4 => (hR4.kept x.ok (by simp)).cell 3 _ rfl
  have hq4 := fun x : New w4 => (hR4.kept x.ok (by simp)).cell 4 _ rfl
  have hq5 := fun x : New w4 => (hR4.kept x.ok (by simp)).cell 5 _ rfl
  have hq6 := fun x : New w4 => (hR4.kept x.ok (by simp)).cell 6 _ rfl
  clear hB4 hR4
  haveI hnw := new_ne w4
  refine new_start fun x => ?_
  refine wp_region_later (by kernel_rfl) (by kernel_rfl) ?_
  repeat (go_big_quiet_step ((first | (go_at_call 13; exact new_gb (right_yes _ c HR.out r0 r1 r2 r3)) | (go_at_call 14; exact new_gb (clean_any _ c)) | (go_at_call 9; exact new_gb (own_any _ (clean c))) | (go_at_call 15; exact new_gb (rclean_any _ c)) | (go_at_call 16; exact new_gb (rput_any _ c HR.out)) | (go_at_call 10; exact new_gb (one_any _)))))
  refine wpQuiet_nil ?_
  intro _ hw'
  obtain ⟨y, hw''⟩ := hw'
  subst hw''
  go_wp2_with fail
  go_ret
  exact ⟨rfl, below_of_gb (gb_trans hW4 y.ok)⟩
theorem walk {H : Type} {enc : TypeId × Value → H} (base : Nat) (W : World) (v0 : Value) (d0 : DataW H) (p0 : List MemPlace)
    (o0 : Value.okWide Try.prog W .any base 24 v0)
    (h0 : DataW.Trod enc Try.prog W 0 (fun _ => true) true 24 v0 d0 p0) :
    Calls Try.prog 4 #[v0] W fun e w' => e = .returned (.bool true) ∧ Below W.heap.size W w' := by
  obtain ⟨c, rfl, _, _, f2, _, f4, _, _⟩ := open_cd Try.underlying24 (by kernel_rfl) (by kernel_rfl) Try.underlying3 Try.underlying3 Try.underlying3 Try.underlying3 Try.underlying3 Try.underlying3 Try.underlying3 o0 h0
  by_cases hr : right c
  · exact walk_yes W c hr f2.1 f2.2 f4.1 f4.2
  · exact walk_not W c hr f2.1 f2.2 f4.1 f4.2
end cmdPutsW
end Go.Proofs.Ytbhfbdldehahoaa
