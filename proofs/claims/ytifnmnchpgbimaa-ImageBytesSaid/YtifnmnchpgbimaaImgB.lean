/- Images: the contracts of Equal, HasPrefix, Same. -/
import Derived.Test.YtifnmnchpgbimaaImgA
namespace Go.Proofs.Ytifnmnchpgbimaa
open Go.RowKit
set_option linter.unusedVariables false
set_option linter.unusedSimpArgs false
namespace Im
open Cm
attribute [local go_sem] alloc_drewN' setCell_drewN'
theorem str_inj {l m : List Int} (hl : ∀ x ∈ l, 0 ≤ x ∧ x ≤ 255) (hm : ∀ x ∈ m, 0 ≤ x ∧ x ≤ 255) (h : strOfNums l = strOfNums m) : l = m := by
  have hlen : l.length = m.length := by
    have := congrArg ByteArray.size h
    rw [strOfNums_size, strOfNums_size] at this
    exact this
  apply List.ext_getElem hlen
  intro i h1 h2
  have e1 := congrFun (bz_str hl) i
  have e2 := congrFun (bz_str hm) i
  rw [h] at e1
  rw [e1] at e2
  simpa [List.getD_eq_getElem?_getD, List.getElem?_eq_getElem h1, List.getElem?_eq_getElem h2] using e2
theorem str_eq (l m : List Int) (hl : ∀ x ∈ l, 0 ≤ x ∧ x ≤ 255) (hm : ∀ x ∈ m, 0 ≤ x ∧ x ≤ 255) : ((strOfNums l).toList == (strOfNums m).toList) = decide (l = m) := by
  by_cases h : l = m
  · subst h; simp
  · rw [decide_eq_false h]
    refine beq_eq_false_iff_ne.2 (fun e => h (str_inj hl hm ?_))
    rw [ByteArray.toList_eq, ByteArray.toList_eq] at e
    exact ByteArray.ext (Array.toList_inj.1 e)
/-- Two arrays of two numbers. -/
theorem eq_pair (w : World) (a b c d : Int) : (Op.equalIn 10000 22 (.agg #[.int .i64 a, .int .i64 b]) (.agg #[.int .i64 c, .int .i64 d])).run Try.prog w = .ok (decide (a = c ∧ b = d)) w := by
  rw [show (10000 : Nat) = 9998 + 1 + 1 by rfl, Op.equalIn]
  simp [Sem.run_bind, run_underlying Try.underlying22, List.range', go_sem, Try.underlying3]
  by_cases h1 : a = c
  · by_cases h2 : b = d
    · simp [h1, h2]
    · simp [h1, h2]
  · simp [h1]
attribute [local go_sem high] eq_pair
set_option maxRecDepth 100000 in
set_option maxHeartbeats 1000000 in
theorem equal_any (w : World) {b1 b2 : Nat} (A1 : Option Addr) (n1 c1 : Nat) (l1 : List Int) (A2 : Option Addr) (n2 c2 : Nat) (l2 : List Int) (h1 : Sl w b1 A1 n1 c1 l1) (h2 : Sl w b2 A2 n2 c2 l2)
    (k1 : ∀ x ∈ l1, 0 ≤ x ∧ x ≤ 255) (k2 : ∀ x ∈ l2, 0 ≤ x ∧ x ≤ 255) :
    Calls Try.prog 22 #[.slice A1 n1 c1, .slice A2 n2 c2] w fun e w' => e = .returned (.bool (decide (l1 = l2))) ∧ w = w' := by
  have HE := Lib.hid (str_eq l1 l2 k1 k2)
  have cv1 := h1.conv Try.underlying23 Try.underlying5 Try.underlying9
  have cv2 := h2.conv Try.underlying23 Try.underlying5 Try.underlying9
  clear h1 h2 k1 k2
  go_enter Try.func22, Try.ntmps22
  go_wp2_with fail
  go_ret
  exact ⟨by rw [← HE.out]; rfl, rfl⟩
set_option maxRecDepth 100000 in
set_option maxHeartbeats 1000000 in
theorem prefix_any (w : World) {b1 b2 : Nat} (A1 : Option Addr) (n1 c1 : Nat) (l1 : List Int) (A2 : Option Addr) (c2 : Nat) (l2 : List Int) (h1 : Sl w b1 A1 n1 c1 l1) (h2 : Sl w b2 A2 2 c2 l2)
    (k1 : ∀ x ∈ l1, 0 ≤ x ∧ x ≤ 255) (k2 : ∀ x ∈ l2, 0 ≤ x ∧ x ≤ 255) (hn : 2 ≤ n1) :
    Calls Try.prog 21 #[.slice A1 n1 c1, .slice A2 2 c2] w fun e w' => e = .returned (.bool (decide (l1.take 2 = l2))) ∧ w = w' := by
  obtain ⟨b, off, rfl, _⟩ := h1.rd (by omega)
  have ht := h1.take 2 hn
  have hle := h1.le
  have hcp := h1.cap
  have d1 : decide ((2 : Int) ≤ n1) = true := by simp; omega
  go_enter Try.func21, Try.ntmps21
  go_wp2_with fail
  refine (equal_any w _ _ _ (l1.take 2) _ _ _ l2 ht h2 (fun x hx => k1 x (List.mem_of_mem_take hx)) k2).mono ?_
  rintro e w1 ⟨rfl, rfl⟩
  go_wp2_with fail
  go_ret
  exact ⟨rfl, rfl⟩
set_option maxRecDepth 100000 in
set_option maxHeartbeats 2000000 in
theorem same_yes (w : World) {b1 b2 : Nat} (m : Mg) (A1 : Option Addr) (n1 c1 : Nat) (A2 : Option Addr) (n2 c2 : Nat) (l : List Int) (h1 : Sl w b1 A1 n1 c1 l) (h2 : Sl w b2 A2 n2 c2 l) (k : ∀ x ∈ l, 0 ≤ x ∧ x ≤ 255) :
    Calls Try.prog 16 #[m.v (.slice A1 n1 c1), m.v (.slice A2 n2 c2)] w fun e w' => e = .returned (.bool true) ∧ w.grownBy w' none := by
  have hB1 := (Blk.new w 25 (m.cells (.slice A1 n1 c1))).alloc (.cells #[.int .i64 m.who, .int .i64 m.e0, .int .i64 m.e1, .slice A2 n2 c2] 25)
  have hB2 := Blk.new (w.alloc (.cells #[.int .i64 m.who, .int .i64 m.e0, .int .i64 m.e1, .slice A1 n1 c1] 25)) 25 (m.cells (.slice A2 n2 c2))
  have hg := gb_alloc (gb_alloc (gb_refl w none) (.cells #[.int .i64 m.who, .int .i64 m.e0, .int .i64 m.e1, .slice A1 n1 c1] 25)) (.cells #[.int .i64 m.who, .int .i64 m.e0, .int .i64 m.e1, .slice A2 n2 c2] 25)
  go_enter Try.func16, Try.ntmps16
  go_upto_region 1 with (fail)
  refine forget_world (fun w' => Blk w' w.heap.size 25 (m.cells (.slice A1 n1 c1)) ∧ Blk w' (w.heap.size + 1) 25 (m.cells (.slice A2 n2 c2)) ∧ w.grownBy w' none) ⟨hB1, by simpa using hB2, hg⟩ ?_
  rintro w1 ⟨hC1, hC2, hg1⟩
  have p0 := hC1.cell 0 _ rfl
  have p1 := hC1.cell 1 _ rfl
  have p2 := hC1.cell 2 _ rfl
  have p3 := hC1.cell 3 _ rfl
  have q0 := hC2.cell 0 _ rfl
  have q1 := hC2.cell 1 _ rfl
  have q2 := hC2.cell 2 _ rfl
  have q3 := hC2.cell 3 _ rfl
  have s1 := h1.kept hg1
  have s2 := h2.kept hg1
  clear hB1 hB2 hg hC1 hC2 h1 h2
  go_wp2_with fail
  refine (equal_any w1 _ _ _ l _ _ _ l s1 s2 k k).mono ?_
  rintro e w2 ⟨rfl, rfl⟩
  go_wp2_with fail
  go_ret
  exact ⟨by simp, hg1⟩
end Im
end Go.Proofs.Ytifnmnchpgbimaa
