/- Commands: the words, and the contracts of within, bytes, goes, message, Right; the reference's Right. -/
import Derived.Test.YtbhfbdldehahoaaIn
import Derived.Test.YtbhfbdldehahoaaMore
namespace Go.Proofs.Ytbhfbdldehahoaa
open Go.RowKit
set_option linter.unusedVariables false
namespace Cm
/-- A command's numbers. -/
structure Cd where
  op : Int
  addr : Int
  words : Int
  cand : Int
  many : Int
  bits : Int
  at_ : Int
abbrev Cd.cells (c : Cd) : List Value := [.int .i64 c.op, .int .i64 c.addr, .int .i64 c.words, .int .i64 c.cand, .int .i64 c.many, .int .i64 c.bits, .int .i64 c.at_]
abbrev Cd.v (c : Cd) : Value := .agg #[.int .i64 c.op, .int .i64 c.addr, .int .i64 c.words, .int .i64 c.cand, .int .i64 c.many, .int .i64 c.bits, .int .i64 c.at_]
/-- A command may be. -/
def right (c : Cd) : Prop := (c.op = 0 ∨ c.op = 5 ∨ c.op = 7) ∨
  ((c.op = 1 ∨ c.op = 2 ∨ c.op = 3) ∧ 1 ≤ c.words ∧ c.words ≤ 8 ∧ 1 ≤ c.many ∧ c.many ≤ 4 ∧ (c.op ≠ 3 → 0 ≤ c.addr ∧ c.addr ≤ 64 - c.words) ∧ (c.op = 1 → 0 ≤ c.cand ∧ c.cand ≤ c.many - 1)) ∨
  (c.op = 4 ∧ 1 ≤ c.bits ∧ c.bits ≤ 100) ∨ ((c.op = 6 ∨ c.op = 8) ∧ 0 ≤ c.at_ ∧ c.at_ ≤ 1023)
abbrev ptr (b : Nat) : Value := .pointer (some ⟨b, 0, none⟩)
abbrev pt (b i : Nat) : Value := .pointer (some ⟨b, i, none⟩)
set_option maxHeartbeats 400000 in
theorem within_any (w : World) (n a b : Int) : Calls Try.prog 21 #[.int .i64 n, .int .i64 a, .int .i64 b] w fun e w' => e = .returned (.bool (decide (a ≤ n ∧ n ≤ b))) ∧ w.grownBy w' none := by
  by_cases h : a ≤ n
  · have hd : decide (a ≤ n) = true := by simpa using h
    have HF := Lib.hid (show decide (a ≤ n ∧ n ≤ b) = decide (n ≤ b) by simp [h])
    clear h
    go_enter Try.func21, Try.ntmps21
    go_wp2
    go_ret
    exact ⟨by rw [HF.out]; rfl, gb_refl _ _⟩
  · have hd : decide (a ≤ n) = false := by simpa using h
    have HF := Lib.hid (show decide (a ≤ n ∧ n ≤ b) = false by simp [h])
    clear h
    go_enter Try.func21, Try.ntmps21
    go_wp2
    go_ret
    exact ⟨by rw [HF.out]; rfl, gb_refl _ _⟩
set_option maxHeartbeats 1000000 in
theorem bytes1 (w : World) (b : Nat) (hc : w.cell? ⟨b, 0, none⟩ = some (.int .i64 1)) :
    Calls Try.prog 17 #[ptr b] w fun e w' => e = .returned (.slice (some ⟨w.heap.size, 0, none⟩) 4 4) ∧ ∃ n, w' = (w.alloc (.cells #[pt b 1, pt b 2, pt b 3, pt b 4] 46)).drewN n := by
  go_enter Try.func17, Try.ntmps17
  go_wp2
  go_region
  go_wp2
  go_ret
  exact ⟨rfl, 1, rfl⟩
set_option maxHeartbeats 1000000 in
theorem bytes2 (w : World) (b : Nat) (hc : w.cell? ⟨b, 0, none⟩ = some (.int .i64 2)) :
    Calls Try.prog 17 #[ptr b] w fun e w' => e = .returned (.slice (some ⟨w.heap.size, 0, none⟩) 3 3) ∧ ∃ n, w' = (w.alloc (.cells #[pt b 1, pt b 2, pt b 4] 46)).drewN n := by
  go_enter Try.func17, Try.ntmps17
  go_wp2
  go_region
  go_wp2
  go_ret
  exact ⟨rfl, 1, rfl⟩
set_option maxHeartbeats 1000000 in
theorem bytes3 (w : World) (b : Nat) (hc : w.cell? ⟨b, 0, none⟩ = some (.int .i64 3)) :
    Calls Try.prog 17 #[ptr b] w fun e w' => e = .returned (.slice (some ⟨w.heap.size, 0, none⟩) 2 2) ∧ ∃ n, w' = (w.alloc (.cells #[pt b 2, pt b 4] 46)).drewN n := by
  go_enter Try.func17, Try.ntmps17
  go_wp2
  go_region
  go_wp2
  go_ret
  exact ⟨rfl, 1, rfl⟩
set_option maxHeartbeats 1000000 in
theorem bytes4 (w : World) (b : Nat) (hc : w.cell? ⟨b, 0, none⟩ = some (.int .i64 4)) :
    Calls Try.prog 17 #[ptr b] w fun e w' => e = .returned (.slice (some ⟨w.heap.size, 0, none⟩) 1 1) ∧ ∃ n, w' = (w.alloc (.cells #[pt b 5] 46)).drewN n := by
  go_enter Try.func17, Try.ntmps17
  go_wp2
  go_ret
  exact ⟨rfl, 0, rfl⟩
set_option maxHeartbeats 400000 in
theorem bytes_none (w : World) (b : Nat) (o : Int) (hc : w.cell? ⟨b, 0, none⟩ = some (.int .i64 o)) (h1 : o ≠ 1) (h2 : o ≠ 2) (h3 : o ≠ 3) (h4 : o ≠ 4) :
    Calls Try.prog 17 #[ptr b] w fun e w' => e = .returned (.slice none 0 0) ∧ w = w' := by
  have d1 : (o == 1) = false := by simpa using h1
  have d2 : (o == 2) = false := by simpa using h2
  have d3 : (o == 3) = false := by simpa using h3
  have d4 : (o == 4) = false := by simpa using h4
  clear h1 h2 h3 h4
  go_enter Try.func17, Try.ntmps17
  go_wp2
  go_ret
  exact ⟨rfl, rfl⟩
set_option maxHeartbeats 400000 in
theorem goes_yes (w : World) (b : Nat) (o : Int) (hc : w.cell? ⟨b, 0, none⟩ = some (.int .i64 o)) (h : o = 6 ∨ o = 8) :
    Calls Try.prog 18 #[ptr b] w fun e w' => e = .returned (.bool true) ∧ Same w w' := by
  rcases h with rfl | rfl
  all_goals
    go_enter Try.func18, Try.ntmps18
    go_wp2
    go_ret
    exact ⟨rfl, by repeat (first | exact Same.refl _ | apply Same.drewN | apply Same.drew)⟩
set_option maxHeartbeats 400000 in
theorem goes_no (w : World) (b : Nat) (o : Int) (hc : w.cell? ⟨b, 0, none⟩ = some (.int .i64 o)) (h1 : o ≠ 6) (h2 : o ≠ 8) :
    Calls Try.prog 18 #[ptr b] w fun e w' => e = .returned (.bool false) ∧ Same w w' := by
  have d1 : (o == 6) = false := by simpa using h1
  have d2 : (o == 8) = false := by simpa using h2
  clear h1 h2
  go_enter Try.func18, Try.ntmps18
  go_wp2
  go_ret
  exact ⟨rfl, by repeat (first | exact Same.refl _ | apply Same.drewN | apply Same.drew)⟩
def BoolPost (p : Prop) (w : World) (e : Ending) (w' : World) : Prop := ∃ b : Bool, e = .returned (.bool b) ∧ (b = true ↔ p) ∧ w.grownBy w' none
/-- What message asks. -/
def mess (c : Cd) : Prop := 1 ≤ c.words ∧ c.words ≤ 8 ∧ 1 ≤ c.many ∧ c.many ≤ 4 ∧ (c.op ≠ 3 → 0 ≤ c.addr ∧ c.addr ≤ 64 - c.words) ∧ (c.op = 1 → 0 ≤ c.cand ∧ c.cand ≤ c.many - 1)
set_option maxRecDepth 100000 in
set_option maxHeartbeats 1000000 in
theorem mess_any (w : World) (c : Cd) (r0 : -9223372036854775808 ≤ c.words) (r1 : c.words ≤ 9223372036854775807) (r2 : -9223372036854775808 ≤ c.many) (r3 : c.many ≤ 9223372036854775807) :
    Calls Try.prog 20 #[c.v] w (BoolPost (mess c) w) := by
  have hc0 : ∀ x : New (w.alloc (.cells #[.int .i64 c.op, .int .i64 c.addr, .int .i64 c.words, .int .i64 c.cand, .int .i64 c.many, .int .i64 c.bits, .int .i64 c.at_] 24)), x.w.cell? ⟨w.heap.size, 0, none⟩ = some (.int .i64 c.op) := fun x => ((Blk.new w 24 c.cells).kept x.ok (by simp)).cell 0 _ rfl
  have hc1 : ∀ x : New (w.alloc (.cells #[.int .i64 c.op, .int .i64 c.addr, .int .i64 c.words, .int .i64 c.cand, .int .i64 c.many, .int .i64 c.bits, .int .i64 c.at_] 24)), x.w.cell? ⟨w.heap.size, 1, none⟩ = some (.int .i64 c.addr) := fun x => ((Blk.new w 24 c.cells).kept x.ok (by simp)).cell 1 _ rfl
  have hc2 : ∀ x : New (w.alloc (.cells #[.int .i64 c.op, .int .i64 c.addr, .int .i64 c.words, .int .i64 c.cand, .int .i64 c.many, .int .i64 c.bits, .int .i64 c.at_] 24)), x.w.cell? ⟨w.heap.size, 2, none⟩ = some (.int .i64 c.words) := fun x => ((Blk.new w 24 c.cells).kept x.ok (by simp)).cell 2 _ rfl
  have hc3 : ∀ x : New (w.alloc (.cells #[.int .i64 c.op, .int .i64 c.addr, .int .i64 c.words, .int .i64 c.cand, .int .i64 c.many, .int .i64 c.bits, .int .i64 c.at_] 24)), x.w.cell? ⟨w.heap.size, 3, none⟩ = some (.int .i64 c.cand) := fun x => ((Blk.new w 24 c.cells).kept x.ok (by simp)).cell 3 _ rfl
  have hc4 : ∀ x : New (w.alloc (.cells #[.int .i64 c.op, .int .i64 c.addr, .int .i64 c.words, .int .i64 c.cand, .int .i64 c.many, .int .i64 c.bits, .int .i64 c.at_] 24)), x.w.cell? ⟨w.heap.size, 4, none⟩ = some (.int .i64 c.many) := fun x => ((Blk.new w 24 c.cells).kept x.ok (by simp)).cell 4 _ rfl
  have hc5 : ∀ x : New (w.alloc (.cells #[.int .i64 c.op, .int .i64 c.addr, .int .i64 c.words, .int .i64 c.cand, .int .i64 c.many, .int .i64 c.bits, .int .i64 c.at_] 24)), x.w.cell? ⟨w.heap.size, 5, none⟩ = some (.int .i64 c.bits) := fun x => ((Blk.new w 24 c.cells).kept x.ok (by simp)).cell 5 _ rfl
  have hc6 : ∀ x : New (w.alloc (.cells #[.int .i64 c.op, .int .i64 c.addr, .int .i64 c.words, .int .i64 c.cand, .int .i64 c.many, .int .i64 c.bits, .int .i64 c.at_] 24)), x.w.cell? ⟨w.heap.size, 6, none⟩ = some (.int .i64 c.at_) := fun x => ((Blk.new w 24 c.cells).kept x.ok (by simp)).cell 6 _ rfl
  go_enter Try.func20, Try.ntmps20
  go_upto_region 1 with (fail)
  refine new_start fun x => ?_
  go_wp2_with (first | (go_at_call 21; refine (new_gb (within_any _ _ _ _)).mono ?_; rintro e w' ⟨rfl, x, rfl⟩) | go_in)
  all_goals
    go_ret
    refine ⟨_, rfl, ?_, new_end _⟩
    clear hc0 hc1 hc2 hc3 hc4 hc5 hc6
    unfold mess
    simp at *
    (try unfold wrap64 at *)
    omega
theorem mess_at (w : World) (op addr words cand many bits at_ : Int) (r0 : -9223372036854775808 ≤ words) (r1 : words ≤ 9223372036854775807) (r2 : -9223372036854775808 ≤ many) (r3 : many ≤ 9223372036854775807) :
    Calls Try.prog 20 #[Cd.v ⟨op, addr, words, cand, many, bits, at_⟩] w (BoolPost (mess ⟨op, addr, words, cand, many, bits, at_⟩) w) := mess_any w _ r0 r1 r2 r3
theorem bool_post {p : Prop} {w0 : World} {x : New w0} {f : FuncId} {args : Array Value} (h : Calls Try.prog f args x.w (BoolPost p x.w)) :
    Calls Try.prog f args x.w fun e w' => ∃ b : Bool, e = .returned (.bool b) ∧ (b = true ↔ p) ∧ ∃ y : New w0, w' = y.w :=
  h.mono fun _ _ ⟨b, he, hb, hg⟩ => ⟨b, he, hb, ⟨_, gb_trans x.ok hg⟩, rfl⟩
set_option maxRecDepth 100000 in
set_option maxHeartbeats 2000000 in
theorem right_any (w : World) (c : Cd) (r0 : -9223372036854775808 ≤ c.words) (r1 : c.words ≤ 9223372036854775807) (r2 : -9223372036854775808 ≤ c.many) (r3 : c.many ≤ 9223372036854775807) :
    Calls Try.prog 13 #[c.v] w (BoolPost (right c) w) := by
  have hc0 : ∀ x : New (w.alloc (.cells #[.int .i64 c.op, .int .i64 c.addr, .int .i64 c.words, .int .i64 c.cand, .int .i64 c.many, .int .i64 c.bits, .int .i64 c.at_] 24)), x.w.cell? ⟨w.heap.size, 0, none⟩ = some (.int .i64 c.op) := fun x => ((Blk.new w 24 c.cells).kept x.ok (by simp)).cell 0 _ rfl
  have hc1 : ∀ x : New (w.alloc (.cells #[.int .i64 c.op, .int .i64 c.addr, .int .i64 c.words, .int .i64 c.cand, .int .i64 c.many, .int .i64 c.bits, .int .i64 c.at_] 24)), x.w.cell? ⟨w.heap.size, 1, none⟩ = some (.int .i64 c.addr) := fun x => ((Blk.new w 24 c.cells).kept x.ok (by simp)).cell 1 _ rfl
  have hc2 : ∀ x : New (w.alloc (.cells #[.int .i64 c.op, .int .i64 c.addr, .int .i64 c.words, .int .i64 c.cand, .int .i64 c.many, .int .i64 c.bits, .int .i64 c.at_] 24)), x.w.cell? ⟨w.heap.size, 2, none⟩ = some (.int .i64 c.words) := fun x => ((Blk.new w 24 c.cells).kept x.ok (by simp)).cell 2 _ rfl
  have hc3 : ∀ x : New (w.alloc (.cells #[.int .i64 c.op, .int .i64 c.addr, .int .i64 c.words, .int .i64 c.cand, .int .i64 c.many, .int .i64 c.bits, .int .i64 c.at_] 24)), x.w.cell? ⟨w.heap.size, 3, none⟩ = some (.int .i64 c.cand) := fun x => ((Blk.new w 24 c.cells).kept x.ok (by simp)).cell 3 _ rfl
  have hc4 : ∀ x : New (w.alloc (.cells #[.int .i64 c.op, .int .i64 c.addr, .int .i64 c.words, .int .i64 c.cand, .int .i64 c.many, .int .i64 c.bits, .int .i64 c.at_] 24)), x.w.cell? ⟨w.heap.size, 4, none⟩ = some (.int .i64 c.many) := fun x => ((Blk.new w 24 c.cells).kept x.ok (by simp)).cell 4 _ rfl
  have hc5 : ∀ x : New (w.alloc (.cells #[.int .i64 c.op, .int .i64 c.addr, .int .i64 c.words, .int .i64 c.cand, .int .i64 c.many, .int .i64 c.bits, .int .i64 c.at_] 24)), x.w.cell? ⟨w.heap.size, 5, none⟩ = some (.int .i64 c.bits) := fun x => ((Blk.new w 24 c.cells).kept x.ok (by simp)).cell 5 _ rfl
  have hc6 : ∀ x : New (w.alloc (.cells #[.int .i64 c.op, .int .i64 c.addr, .int .i64 c.words, .int .i64 c.cand, .int .i64 c.many, .int .i64 c.bits, .int .i64 c.at_] 24)), x.w.cell? ⟨w.heap.size, 6, none⟩ = some (.int .i64 c.at_) := fun x => ((Blk.new w 24 c.cells).kept x.ok (by simp)).cell 6 _ rfl
  go_enter Try.func13, Try.ntmps13
  go_upto_region 1 with (fail)
  refine new_start fun x => ?_
  go_wp2_with (first | (go_at_call 21; refine (new_gb (within_any _ _ _ _)).mono ?_; rintro e w' ⟨rfl, x, rfl⟩) | (go_at_call 20; refine (bool_post (x := x) (mess_at x.w _ _ _ _ _ _ _ r0 r1 r2 r3)).mono ?_; rintro e w' ⟨b, rfl, hb, x, rfl⟩) | go_in)
  all_goals
    go_ret
    refine ⟨_, rfl, ?_, new_end _⟩
    clear hc0 hc1 hc2 hc3 hc4 hc5 hc6
    first
    | (refine hb.trans ?_; clear hb; unfold mess right; simp at *; omega)
    | (unfold right; simp at *; (try unfold wrap64 at *); omega)
end Cm
end Go.Proofs.Ytbhfbdldehahoaa
