/- Images: the reference's two and Right. -/
import Derived.Test.YtifnmnchpgbimaaImgR
import Derived.Laws.Concat
namespace Go.Proofs.Ytifnmnchpgbimaa
open Go.RowKit
set_option linter.unusedVariables false
set_option linter.unusedSimpArgs false
namespace Im
open Cm
attribute [local go_sem] alloc_drewN' setCell_drewN'
theorem conv2 (w : World) (x y : Int) :
    (convert 23 9 (.slice (some ⟨w.heap.size, 0, none⟩) 2 2)).run Try.prog (w.alloc (.cells #[.int .u8 x, .int .u8 y] 5)) = .ok (.string (strOfNums [x, y])) (w.alloc (.cells #[.int .u8 x, .int .u8 y] 5)) := by
  refine conv_cells _ _ 2 2 [x, y] Try.underlying23 Try.underlying5 Try.underlying9 rfl fun _ => ⟨_, 0, rfl, fun i hi => ?_⟩
  have hB := Blk.new w 5 [.int .u8 x, .int .u8 y]
  obtain rfl | rfl : i = 0 ∨ i = 1 := by omega
  · exact hB.cell 0 _ rfl
  · exact hB.cell 1 _ rfl
set_option maxRecDepth 100000 in
set_option maxHeartbeats 1000000 in
theorem rtwo_eq (w : World) (n : Int) (h0 : 0 ≤ n) (h1 : n ≤ 65535) :
    Calls Try.prog 19 #[.int .i64 n] w fun e w' => e = .returned (.string (strOfNums [n / 256, n % 256])) ∧ w.alloc (.cells #[.int .u8 (n / 256), .int .u8 (n % 256)] 5) = w' := by
  have hcv := conv2 w (n / 256) (n % 256)
  go_enter Try.func19, Try.ntmps19
  go_wp2_with fail
  go_ret
  exact ⟨rfl, rfl⟩
theorem rtwo_any (w : World) (n : Int) (h0 : 0 ≤ n) (h1 : n ≤ 65535) :
    Calls Try.prog 19 #[.int .i64 n] w fun e w' => e = .returned (.string (strOfNums [n / 256, n % 256])) ∧ w.grownBy w' none :=
  (rtwo_eq w n h0 h1).mono fun _ _ ⟨he, hw⟩ => ⟨he, by rw [← hw]; exact gb_alloc (gb_refl w none) _⟩
set_option maxRecDepth 100000 in
set_option maxHeartbeats 2000000 in
theorem rright_any (w : World) (m : Mg) (s : ByteArray) (n : Nat) (hs : s.size = n) :
    Calls Try.prog 8 #[.int .i64 m.who, .agg #[.int .i64 m.e0, .int .i64 m.e1], .string s] w (BoolPost (right m n) w) := by
  have hc0 : ∀ x : New (w.alloc (.cells #[.int .i64 m.e0, .int .i64 m.e1] 22)), x.w.cell? ⟨w.heap.size, 0, none⟩ = some (.int .i64 m.e0) := fun x => ((Blk.new w 22 [.int .i64 m.e0, .int .i64 m.e1]).kept x.ok (by simp)).cell 0 _ rfl
  have hc1 : ∀ x : New (w.alloc (.cells #[.int .i64 m.e0, .int .i64 m.e1] 22)), x.w.cell? ⟨w.heap.size, 1, none⟩ = some (.int .i64 m.e1) := fun x => ((Blk.new w 22 [.int .i64 m.e0, .int .i64 m.e1]).kept x.ok (by simp)).cell 1 _ rfl
  go_enter Try.func8, Try.ntmps8
  go_upto_region 1 with (fail)
  refine new_start fun x => ?_
  go_wp2_with (first | fail | go_in)
  all_goals
    go_ret
    refine ⟨_, rfl, ?_, new_end _⟩
    clear hc0 hc1
    unfold right
    simp at *
    (try unfold wrap64 at *)
    omega
theorem rright_yes (w : World) (m : Mg) (s : ByteArray) (n : Nat) (hs : s.size = n) (h : right m n) : Calls Try.prog 8 #[.int .i64 m.who, .agg #[.int .i64 m.e0, .int .i64 m.e1], .string s] w fun e w' => e = .returned (.bool true) ∧ w.grownBy w' none := bool_yes (rright_any w m s n hs) h
theorem rright_not (w : World) (m : Mg) (s : ByteArray) (n : Nat) (hs : s.size = n) (h : ¬ right m n) : Calls Try.prog 8 #[.int .i64 m.who, .agg #[.int .i64 m.e0, .int .i64 m.e1], .string s] w fun e w' => e = .returned (.bool false) ∧ w.grownBy w' none := bool_not (rright_any w m s n hs) h
end Im
end Go.Proofs.Ytifnmnchpgbimaa
