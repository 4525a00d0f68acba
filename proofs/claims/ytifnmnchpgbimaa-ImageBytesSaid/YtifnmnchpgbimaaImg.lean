/- Images: the words, and the contracts of within, Right, of, two, Equal, HasPrefix, Same. -/
import Derived.Test.YtifnmnchpgbimaaCrc
import Derived.Test.YtifnmnchpgbimaaMore
import Derived.Lib.SmallJoins
namespace Go.Proofs.Ytifnmnchpgbimaa
open Go.RowKit
set_option linter.unusedVariables false
set_option linter.unusedSimpArgs false
namespace Im
open Cm
/-- An image's numbers. -/
structure Mg where
  who : Int
  e0 : Int
  e1 : Int
abbrev Mg.cells (m : Mg) (s : Value) : List Value := [.int .i64 m.who, .int .i64 m.e0, .int .i64 m.e1, s]
abbrev Mg.v (m : Mg) (s : Value) : Value := .agg #[.int .i64 m.who, .int .i64 m.e0, .int .i64 m.e1, s]
/-- An image of n bytes of code may be. -/
def right (m : Mg) (n : Nat) : Prop := 0 ≤ m.who ∧ m.who < 16 ∧ n ≤ 1024 ∧ 0 ≤ m.e0 ∧ m.e0 < n ∧ 0 ≤ m.e1 ∧ m.e1 < n
def BoolPost (p : Prop) (w : World) (e : Ending) (w' : World) : Prop := ∃ b : Bool, e = .returned (.bool b) ∧ (b = true ↔ p) ∧ w.grownBy w' none
theorem bool_yes {f : FuncId} {args : Array Value} {p : Prop} {w : World} (h : Calls Try.prog f args w (BoolPost p w)) (hp : p) : Calls Try.prog f args w fun e w' => e = .returned (.bool true) ∧ w.grownBy w' none :=
  h.mono fun _ _ ⟨b, he, hb, hg⟩ => ⟨by rw [he, hb.2 hp], hg⟩
theorem bool_not {f : FuncId} {args : Array Value} {p : Prop} {w : World} (h : Calls Try.prog f args w (BoolPost p w)) (hp : ¬ p) : Calls Try.prog f args w fun e w' => e = .returned (.bool false) ∧ w.grownBy w' none :=
  h.mono fun _ _ ⟨b, he, hb, hg⟩ => ⟨by rw [he]; cases b; rfl; exact absurd (hb.1 rfl) hp, hg⟩
set_option maxHeartbeats 400000 in
theorem within_any (w : World) (n b : Int) : Calls Try.prog 18 #[.int .i64 n, .int .i64 b] w fun e w' => e = .returned (.bool (decide (0 ≤ n ∧ n < b))) ∧ w.grownBy w' none := by
  by_cases h : 0 ≤ n
  · have hd : decide (0 ≤ n) = true := by simpa using h
    have HF := Lib.hid (show decide (0 ≤ n ∧ n < b) = decide (n < b) by simp [h])
    clear h
    go_enter Try.func18, Try.ntmps18
    go_wp2
    go_ret
    exact ⟨by rw [HF.out]; rfl, gb_refl _ _⟩
  · have hd : decide (0 ≤ n) = false := by simpa using h
    have HF := Lib.hid (show decide (0 ≤ n ∧ n < b) = false by simp [h])
    clear h
    go_enter Try.func18, Try.ntmps18
    go_wp2
    go_ret
    exact ⟨by rw [HF.out]; rfl, gb_refl _ _⟩
set_option maxRecDepth 100000 in
set_option maxHeartbeats 2000000 in
theorem right_any (w : World) (m : Mg) (A : Option Addr) (n c : Nat) :
    Calls Try.prog 9 #[m.v (.slice A n c)] w (BoolPost (right m n) w) := by
  have hc0 : ∀ x : New (w.alloc (.cells #[.int .i64 m.who, .int .i64 m.e0, .int .i64 m.e1, .slice A n c] 25)), x.w.cell? ⟨w.heap.size, 0, none⟩ = some (.int .i64 m.who) := fun x => ((Blk.new w 25 (m.cells (.slice A n c))).kept x.ok (by simp)).cell 0 _ rfl
  have hc1 : ∀ x : New (w.alloc (.cells #[.int .i64 m.who, .int .i64 m.e0, .int .i64 m.e1, .slice A n c] 25)), x.w.cell? ⟨w.heap.size, 1, none⟩ = some (.int .i64 m.e0) := fun x => ((Blk.new w 25 (m.cells (.slice A n c))).kept x.ok (by simp)).cell 1 _ rfl
  have hc2 : ∀ x : New (w.alloc (.cells #[.int .i64 m.who, .int .i64 m.e0, .int .i64 m.e1, .slice A n c] 25)), x.w.cell? ⟨w.heap.size, 2, none⟩ = some (.int .i64 m.e1) := fun x => ((Blk.new w 25 (m.cells (.slice A n c))).kept x.ok (by simp)).cell 2 _ rfl
  have hc3 : ∀ x : New (w.alloc (.cells #[.int .i64 m.who, .int .i64 m.e0, .int .i64 m.e1, .slice A n c] 25)), x.w.cell? ⟨w.heap.size, 3, none⟩ = some (.slice A n c) := fun x => ((Blk.new w 25 (m.cells (.slice A n c))).kept x.ok (by simp)).cell 3 _ rfl
  go_enter Try.func9, Try.ntmps9
  go_upto_region 1 with (fail)
  refine new_start fun x => ?_
  go_wp2_with (first | (go_at_call 18; refine (new_gb (within_any _ _ _)).mono ?_; rintro e w' ⟨rfl, x, rfl⟩) | go_in)
  all_goals
    go_ret
    refine ⟨_, rfl, ?_, new_end _⟩
    clear hc0 hc1 hc2 hc3
    unfold right
    simp at *
    (try unfold wrap64 at *)
    omega
theorem right_yes (w : World) (m : Mg) (A : Option Addr) (n c : Nat) (h : right m n) : Calls Try.prog 9 #[m.v (.slice A n c)] w fun e w' => e = .returned (.bool true) ∧ w.grownBy w' none := bool_yes (right_any w m A n c) h
theorem right_not (w : World) (m : Mg) (A : Option Addr) (n c : Nat) (h : ¬ right m n) : Calls Try.prog 9 #[m.v (.slice A n c)] w fun e w' => e = .returned (.bool false) ∧ w.grownBy w' none := bool_not (right_any w m A n c) h
end Im
end Go.Proofs.Ytifnmnchpgbimaa
