/- Package margin: Wait, House; the statements' own 'one' and 'right'; the reference. -/
import Derived.Test.YtjbhnofnlfnljaaMarF
namespace Go.Proofs.Ytjbhnofnlfnljaa
open Go.RowKit
set_option linter.unusedVariables false
attribute [local go_sem] max2_i64 min2_i64 max_two' min_two'
namespace Mar
set_option maxHeartbeats 400000 in
theorem cut_any (w : World) (n : Int) : Calls Try.prog 23 #[.int .i64 n] w fun e w' => e = .returned (.int .i64 (max 0 (min n 1073741824))) ∧ w = w' := by
  go_enter Try.func23, Try.ntmps23
  go_wp2
  go_ret
  exact ⟨rfl, rfl⟩
set_option maxHeartbeats 400000 in
theorem wait_any (w : World) (a b : Int) : Calls Try.prog 11 #[.int .i64 a, .int .i64 b] w fun e w' => e = .returned (.int .i64 (2 * max (max 0 (min a 1073741824)) (max 0 (min b 1073741824)) + 400)) ∧ w.grownBy w' none := by
  go_enter Try.func11, Try.ntmps11
  go_wp2_with fail
  refine (cut_any _ _).mono ?_
  rintro e w' ⟨rfl, rfl⟩
  go_wp2_with fail
  refine (cut_any _ _).mono ?_
  rintro e w' ⟨rfl, rfl⟩
  go_wp2_with fail
  go_ret
  exact ⟨ret_int (by omega), gb_refl _ _⟩
set_option maxHeartbeats 400000 in
theorem house_any (w : World) : Calls Try.prog 22 #[] w fun e w' => e = .returned (mar 4000 4400 1) ∧ w.grownBy w' none := by
  go_enter Try.func22, Try.ntmps22
  go_wp2
  refine bodyPost_ret (v := mar 4000 4400 1) (by simp [results, Try.results22, go_sem]) rfl ⟨rfl, ?_⟩
  exact gb_alloc (gb_refl _ _) _
theorem house_ok : Ok 4000 4400 1 := by unfold Ok; omega
set_option maxRecDepth 100000 in
set_option maxHeartbeats 1000000 in
theorem one_any (w : World) : Calls Try.prog 7 #[] w fun e w' => e = .returned (.bool true) ∧ w.grownBy w' none := by
  have hok := house_ok
  have e1 : ap 4000 4400 1 = 3 := by decide
  have e2 : fits 4000 4400 1 10 = true := by decide
  have e3 : fits 4000 4400 1 9 = false := by decide
  have e4 : least 4000 4400 1 = 10 := by decide
  go_enter Try.func7, Try.ntmps7
  go_wp2_with fail
  refine (house_any _).mono ?_
  rintro e w0 ⟨rfl, hg⟩
  have HG := Lib.hid hg
  clear hg
  go_upto_region 2 with (fail)
  have hc0 : ∀ x : New (w0.alloc (.cells #[.int .i64 4000, .int .i64 4400, .int .i64 1] 23)), x.w.cell? ⟨w0.heap.size, 0, none⟩ = some (.int .i64 4000) := fun x => ((Blk.new w0 23 [.int .i64 4000, .int .i64 4400, .int .i64 1]).kept x.ok (by simp)).cell 0 _ rfl
  have hc1 : ∀ x : New (w0.alloc (.cells #[.int .i64 4000, .int .i64 4400, .int .i64 1] 23)), x.w.cell? ⟨w0.heap.size, 1, none⟩ = some (.int .i64 4400) := fun x => ((Blk.new w0 23 [.int .i64 4000, .int .i64 4400, .int .i64 1]).kept x.ok (by simp)).cell 1 _ rfl
  have hc2 : ∀ x : New (w0.alloc (.cells #[.int .i64 4000, .int .i64 4400, .int .i64 1] 23)), x.w.cell? ⟨w0.heap.size, 2, none⟩ = some (.int .i64 1) := fun x => ((Blk.new w0 23 [.int .i64 4000, .int .i64 4400, .int .i64 1]).kept x.ok (by simp)).cell 2 _ rfl
  refine new_start fun x => ?_
  go_wp2_with (first | (go_at_call 14; refine (new_gb (slips_yes _ _ _ _ hok)).mono ?_; rintro e w' ⟨rfl, x, rfl⟩) | (go_at_call 8; refine (new_gb (apart_yes _ _ _ _ hok)).mono ?_; rintro e w' ⟨rfl, x, rfl⟩) | (go_at_call 15; refine (new_gb (turn_yes _ _ _ _ hok)).mono ?_; rintro e w' ⟨rfl, x, rfl⟩) | (go_at_call 17; refine (new_gb (late_yes _ _ _ _ hok)).mono ?_; rintro e w' ⟨rfl, x, rfl⟩) | (go_at_call 16; refine (new_gb (early_yes _ _ _ _ hok)).mono ?_; rintro e w' ⟨rfl, x, rfl⟩) | (go_at_call 10; refine (new_gb (fits_yes _ _ _ _ _ hok (by omega))).mono ?_; rintro e w' ⟨rfl, x, rfl⟩) | (go_at_call 9; refine (new_gb (least_yes _ _ _ _ hok)).mono ?_; rintro e w' ⟨rfl, x, rfl⟩) | (go_at_call 6; refine (new_gb (right_yes _ _ _ _ hok)).mono ?_; rintro e w' ⟨rfl, x, rfl⟩) | go_in)
  go_ret
  exact ⟨rfl, gb_trans HG.out (new_end _)⟩
set_option maxRecDepth 100000 in
set_option maxHeartbeats 1000000 in
theorem rt_yes (w : World) (S G K : Int) (h : Ok S G K) :
    Calls Try.prog 13 #[mar S G K] w fun e w' => e = .returned (.bool true) ∧ w.grownBy w' none := by
  obtain ⟨b1, b2, b3, b4, b5, b6⟩ := h
  have d0 : decide (1 ≤ S) = true := by simp; omega
  have d1 : decide (S ≤ 1073741824) = true := by simp; omega
  have d2 : decide (1 ≤ G) = true := by simp; omega
  have d3 : decide (G ≤ 1073741824) = true := by simp; omega
  have d4 : decide (0 ≤ K) = true := by simp; omega
  have d5 : decide (K ≤ 1048576) = true := by simp; omega
  have hc0 : ∀ x : New (w.alloc (.cells #[.int .i64 S, .int .i64 G, .int .i64 K] 23)), x.w.cell? ⟨w.heap.size, 0, none⟩ = some (.int .i64 S) := fun x => ((Blk.new w 23 [.int .i64 S, .int .i64 G, .int .i64 K]).kept x.ok (by simp)).cell 0 _ rfl
  have hc1 : ∀ x : New (w.alloc (.cells #[.int .i64 S, .int .i64 G, .int .i64 K] 23)), x.w.cell? ⟨w.heap.size, 1, none⟩ = some (.int .i64 G) := fun x => ((Blk.new w 23 [.int .i64 S, .int .i64 G, .int .i64 K]).kept x.ok (by simp)).cell 1 _ rfl
  have hc2 : ∀ x : New (w.alloc (.cells #[.int .i64 S, .int .i64 G, .int .i64 K] 23)), x.w.cell? ⟨w.heap.size, 2, none⟩ = some (.int .i64 K) := fun x => ((Blk.new w 23 [.int .i64 S, .int .i64 G, .int .i64 K]).kept x.ok (by simp)).cell 2 _ rfl
  go_enter Try.func13, Try.ntmps13
  go_upto_region 1 with (fail)
  refine new_start fun x => ?_
  go_wp2_with (first | go_in)
  go_ret
  exact ⟨rfl, new_end _⟩
set_option maxRecDepth 100000 in
set_option maxHeartbeats 1000000 in
theorem rt_no0 (w : World) (S G K : Int)  (h : ¬ (1 ≤ S)) :
    Calls Try.prog 13 #[mar S G K] w fun e w' => e = .returned (.bool false) ∧ w.grownBy w' none := by
  have d0 : decide (1 ≤ S) = false := by simpa using h
  clear h
  have hc0 : ∀ x : New (w.alloc (.cells #[.int .i64 S, .int .i64 G, .int .i64 K] 23)), x.w.cell? ⟨w.heap.size, 0, none⟩ = some (.int .i64 S) := fun x => ((Blk.new w 23 [.int .i64 S, .int .i64 G, .int .i64 K]).kept x.ok (by simp)).cell 0 _ rfl
  have hc1 : ∀ x : New (w.alloc (.cells #[.int .i64 S, .int .i64 G, .int .i64 K] 23)), x.w.cell? ⟨w.heap.size, 1, none⟩ = some (.int .i64 G) := fun x => ((Blk.new w 23 [.int .i64 S, .int .i64 G, .int .i64 K]).kept x.ok (by simp)).cell 1 _ rfl
  have hc2 : ∀ x : New (w.alloc (.cells #[.int .i64 S, .int .i64 G, .int .i64 K] 23)), x.w.cell? ⟨w.heap.size, 2, none⟩ = some (.int .i64 K) := fun x => ((Blk.new w 23 [.int .i64 S, .int .i64 G, .int .i64 K]).kept x.ok (by simp)).cell 2 _ rfl
  go_enter Try.func13, Try.ntmps13
  go_upto_region 1 with (fail)
  refine new_start fun x => ?_
  go_wp2_with (first | go_in)
  go_ret
  exact ⟨rfl, new_end _⟩
set_option maxRecDepth 100000 in
set_option maxHeartbeats 1000000 in
theorem rt_no1 (w : World) (S G K : Int) (b0 : 1 ≤ S) (h : ¬ (S ≤ 1073741824)) :
    Calls Try.prog 13 #[mar S G K] w fun e w' => e = .returned (.bool false) ∧ w.grownBy w' none := by
  have d0 : decide (1 ≤ S) = true := by simp; omega
  have d1 : decide (S ≤ 1073741824) = false := by simpa using h
  clear h
  have hc0 : ∀ x : New (w.alloc (.cells #[.int .i64 S, .int .i64 G, .int .i64 K] 23)), x.w.cell? ⟨w.heap.size, 0, none⟩ = some (.int .i64 S) := fun x => ((Blk.new w 23 [.int .i64 S, .int .i64 G, .int .i64 K]).kept x.ok (by simp)).cell 0 _ rfl
  have hc1 : ∀ x : New (w.alloc (.cells #[.int .i64 S, .int .i64 G, .int .i64 K] 23)), x.w.cell? ⟨w.heap.size, 1, none⟩ = some (.int .i64 G) := fun x => ((Blk.new w 23 [.int .i64 S, .int .i64 G, .int .i64 K]).kept x.ok (by simp)).cell 1 _ rfl
  have hc2 : ∀ x : New (w.alloc (.cells #[.int .i64 S, .int .i64 G, .int .i64 K] 23)), x.w.cell? ⟨w.heap.size, 2, none⟩ = some (.int .i64 K) := fun x => ((Blk.new w 23 [.int .i64 S, .int .i64 G, .int .i64 K]).kept x.ok (by simp)).cell 2 _ rfl
  go_enter Try.func13, Try.ntmps13
  go_upto_region 1 with (fail)
  refine new_start fun x => ?_
  go_wp2_with (first | go_in)
  go_ret
  exact ⟨rfl, new_end _⟩
set_option maxRecDepth 100000 in
set_option maxHeartbeats 1000000 in
theorem rt_no2 (w : World) (S G K : Int) (b0 : 1 ≤ S) (b1 : S ≤ 1073741824) (h : ¬ (1 ≤ G)) :
    Calls Try.prog 13 #[mar S G K] w fun e w' => e = .returned (.bool false) ∧ w.grownBy w' none := by
  have d0 : decide (1 ≤ S) = true := by simp; omega
  have d1 : decide (S ≤ 1073741824) = true := by simp; omega
  have d2 : decide (1 ≤ G) = false := by simpa using h
  clear h
  have hc0 : ∀ x : New (w.alloc (.cells #[.int .i64 S, .int .i64 G, .int .i64 K] 23)), x.w.cell? ⟨w.heap.size, 0, none⟩ = some (.int .i64 S) := fun x => ((Blk.new w 23 [.int .i64 S, .int .i64 G, .int .i64 K]).kept x.ok (by simp)).cell 0 _ rfl
  have hc1 : ∀ x : New (w.alloc (.cells #[.int .i64 S, .int .i64 G, .int .i64 K] 23)), x.w.cell? ⟨w.heap.size, 1, none⟩ = some (.int .i64 G) := fun x => ((Blk.new w 23 [.int .i64 S, .int .i64 G, .int .i64 K]).kept x.ok (by simp)).cell 1 _ rfl
  have hc2 : ∀ x : New (w.alloc (.cells #[.int .i64 S, .int .i64 G, .int .i64 K] 23)), x.w.cell? ⟨w.heap.size, 2, none⟩ = some (.int .i64 K) := fun x => ((Blk.new w 23 [.int .i64 S, .int .i64 G, .int .i64 K]).kept x.ok (by simp)).cell 2 _ rfl
  go_enter Try.func13, Try.ntmps13
  go_upto_region 1 with (fail)
  refine new_start fun x => ?_
  go_wp2_with (first | go_in)
  go_ret
  exact ⟨rfl, new_end _⟩
set_option maxRecDepth 100000 in
set_option maxHeartbeats 1000000 in
theorem rt_no3 (w : World) (S G K : Int) (b0 : 1 ≤ S) (b1 : S ≤ 1073741824) (b2 : 1 ≤ G) (h : ¬ (G ≤ 1073741824)) :
    Calls Try.prog 13 #[mar S G K] w fun e w' => e = .returned (.bool false) ∧ w.grownBy w' none := by
  have d0 : decide (1 ≤ S) = true := by simp; omega
  have d1 : decide (S ≤ 1073741824) = true := by simp; omega
  have d2 : decide (1 ≤ G) = true := by simp; omega
  have d3 : decide (G ≤ 1073741824) = false := by simpa using h
  clear h
  have hc0 : ∀ x : New (w.alloc (.cells #[.int .i64 S, .int .i64 G, .int .i64 K] 23)), x.w.cell? ⟨w.heap.size, 0, none⟩ = some (.int .i64 S) := fun x => ((Blk.new w 23 [.int .i64 S, .int .i64 G, .int .i64 K]).kept x.ok (by simp)).cell 0 _ rfl
  have hc1 : ∀ x : New (w.alloc (.cells #[.int .i64 S, .int .i64 G, .int .i64 K] 23)), x.w.cell? ⟨w.heap.size, 1, none⟩ = some (.int .i64 G) := fun x => ((Blk.new w 23 [.int .i64 S, .int .i64 G, .int .i64 K]).kept x.ok (by simp)).cell 1 _ rfl
  have hc2 : ∀ x : New (w.alloc (.cells #[.int .i64 S, .int .i64 G, .int .i64 K] 23)), x.w.cell? ⟨w.heap.size, 2, none⟩ = some (.int .i64 K) := fun x => ((Blk.new w 23 [.int .i64 S, .int .i64 G, .int .i64 K]).kept x.ok (by simp)).cell 2 _ rfl
  go_enter Try.func13, Try.ntmps13
  go_upto_region 1 with (fail)
  refine new_start fun x => ?_
  go_wp2_with (first | go_in)
  go_ret
  exact ⟨rfl, new_end _⟩
set_option maxRecDepth 100000 in
set_option maxHeartbeats 1000000 in
theorem rt_no4 (w : World) (S G K : Int) (b0 : 1 ≤ S) (b1 : S ≤ 1073741824) (b2 : 1 ≤ G) (b3 : G ≤ 1073741824) (h : ¬ (0 ≤ K)) :
    Calls Try.prog 13 #[mar S G K] w fun e w' => e = .returned (.bool false) ∧ w.grownBy w' none := by
  have d0 : decide (1 ≤ S) = true := by simp; omega
  have d1 : decide (S ≤ 1073741824) = true := by simp; omega
  have d2 : decide (1 ≤ G) = true := by simp; omega
  have d3 : decide (G ≤ 1073741824) = true := by simp; omega
  have d4 : decide (0 ≤ K) = false := by simpa using h
  clear h
  have hc0 : ∀ x : New (w.alloc (.cells #[.int .i64 S, .int .i64 G, .int .i64 K] 23)), x.w.cell? ⟨w.heap.size, 0, none⟩ = some (.int .i64 S) := fun x => ((Blk.new w 23 [.int .i64 S, .int .i64 G, .int .i64 K]).kept x.ok (by simp)).cell 0 _ rfl
  have hc1 : ∀ x : New (w.alloc (.cells #[.int .i64 S, .int .i64 G, .int .i64 K] 23)), x.w.cell? ⟨w.heap.size, 1, none⟩ = some (.int .i64 G) := fun x => ((Blk.new w 23 [.int .i64 S, .int .i64 G, .int .i64 K]).kept x.ok (by simp)).cell 1 _ rfl
  have hc2 : ∀ x : New (w.alloc (.cells #[.int .i64 S, .int .i64 G, .int .i64 K] 23)), x.w.cell? ⟨w.heap.size, 2, none⟩ = some (.int .i64 K) := fun x => ((Blk.new w 23 [.int .i64 S, .int .i64 G, .int .i64 K]).kept x.ok (by simp)).cell 2 _ rfl
  go_enter Try.func13, Try.ntmps13
  go_upto_region 1 with (fail)
  refine new_start fun x => ?_
  go_wp2_with (first | go_in)
  go_ret
  exact ⟨rfl, new_end _⟩
set_option maxRecDepth 100000 in
set_option maxHeartbeats 1000000 in
theorem rt_no5 (w : World) (S G K : Int) (b0 : 1 ≤ S) (b1 : S ≤ 1073741824) (b2 : 1 ≤ G) (b3 : G ≤ 1073741824) (b4 : 0 ≤ K) (h : ¬ (K ≤ 1048576)) :
    Calls Try.prog 13 #[mar S G K] w fun e w' => e = .returned (.bool false) ∧ w.grownBy w' none := by
  have d0 : decide (1 ≤ S) = true := by simp; omega
  have d1 : decide (S ≤ 1073741824) = true := by simp; omega
  have d2 : decide (1 ≤ G) = true := by simp; omega
  have d3 : decide (G ≤ 1073741824) = true := by simp; omega
  have d4 : decide (0 ≤ K) = true := by simp; omega
  have d5 : decide (K ≤ 1048576) = false := by simpa using h
  clear h
  have hc0 : ∀ x : New (w.alloc (.cells #[.int .i64 S, .int .i64 G, .int .i64 K] 23)), x.w.cell? ⟨w.heap.size, 0, none⟩ = some (.int .i64 S) := fun x => ((Blk.new w 23 [.int .i64 S, .int .i64 G, .int .i64 K]).kept x.ok (by simp)).cell 0 _ rfl
  have hc1 : ∀ x : New (w.alloc (.cells #[.int .i64 S, .int .i64 G, .int .i64 K] 23)), x.w.cell? ⟨w.heap.size, 1, none⟩ = some (.int .i64 G) := fun x => ((Blk.new w 23 [.int .i64 S, .int .i64 G, .int .i64 K]).kept x.ok (by simp)).cell 1 _ rfl
  have hc2 : ∀ x : New (w.alloc (.cells #[.int .i64 S, .int .i64 G, .int .i64 K] 23)), x.w.cell? ⟨w.heap.size, 2, none⟩ = some (.int .i64 K) := fun x => ((Blk.new w 23 [.int .i64 S, .int .i64 G, .int .i64 K]).kept x.ok (by simp)).cell 2 _ rfl
  go_enter Try.func13, Try.ntmps13
  go_upto_region 1 with (fail)
  refine new_start fun x => ?_
  go_wp2_with (first | go_in)
  go_ret
  exact ⟨rfl, new_end _⟩
theorem rt_no (w : World) (S G K : Int) (h : ¬ Ok S G K) : Calls Try.prog 13 #[mar S G K] w fun e w' => e = .returned (.bool false) ∧ w.grownBy w' none := by
  unfold Ok at h
  by_cases h0 : 1 ≤ S
  · by_cases h1 : S ≤ 1073741824
    · by_cases h2 : 1 ≤ G
      · by_cases h3 : G ≤ 1073741824
        · by_cases h4 : 0 ≤ K
          · exact rt_no5 w S G K h0 h1 h2 h3 h4 (fun h5 => h ⟨h0, h1, h2, h3, h4, h5⟩)
          · exact rt_no4 w S G K h0 h1 h2 h3 h4
        · exact rt_no3 w S G K h0 h1 h2 h3
      · exact rt_no2 w S G K h0 h1 h2
    · exact rt_no1 w S G K h0 h1
  · exact rt_no0 w S G K h0
theorem mul_le {S G n : Int} (hG : 1 ≤ G) : n * G ≤ S ↔ n ≤ S / G := (Int.le_ediv_iff_mul_le (by omega)).symm
theorem mul_bd {S G n : Int} (hS : 1 ≤ S) (hG : 1 ≤ G) (hn0 : 0 ≤ n) (hn : n ≤ S / G + 1) : 0 ≤ n * G ∧ n * G ≤ S + G := by
  have h1 : (n - 1) * G ≤ S := (mul_le hG).2 (by omega)
  rw [Int.sub_mul, Int.one_mul] at h1
  exact ⟨Int.mul_nonneg hn0 (by omega), by omega⟩
set_option maxHeartbeats 400000 in
theorem rslips_any (w : World) (S G K : Int) (h : Ok S G K) : Calls Try.prog 19 #[.int .i64 S, .int .i64 G] w fun e w' => e = .returned (.int .i64 (S / G + 1)) ∧ w = w' := by
  obtain ⟨b1, b2, b3, b4, b5, b6⟩ := h
  have b7 : 0 ≤ S / G := Int.ediv_nonneg (by omega) (by omega)
  have b8 : S / G ≤ S := Int.ediv_le_self _ (by omega)
  go_enter Try.func19, Try.ntmps19
  go_wp2
  go_loop [5] (fun i => ∃ n : Int, 1 ≤ n ∧ n ≤ S / G + 1 ∧ i = .int .i64 n) (fun i => (S / G + 1 - intOf i).toNat)
  case atStart => exact ⟨1, by omega, by omega, rfl⟩
  case round =>
    obtain ⟨n, n0, n1, rfl⟩ := hrel
    obtain ⟨p0, p1⟩ := mul_bd b1 b3 (show 0 ≤ n by omega) n1
    have hm := mul_le (S := S) (G := G) (n := n) b3
    by_cases hlt : n ≤ S / G
    · have dm : decide (n * G ≤ S) = true := by simpa using hm.2 hlt
      clear hm
      go_wp2
      go_round
      case rel => exact ⟨n + 1, by omega, by omega, rfl⟩
      case measure => simp [intOf]; omega
    · have dm : decide (n * G ≤ S) = false := by simpa using fun h => hlt (hm.1 h)
      clear hm
      obtain rfl : n = S / G + 1 := by omega
      go_wp2
      go_ret
      exact ⟨rfl, rfl⟩
set_option maxHeartbeats 400000 in
theorem rfits_any (w : World) (E L half : Int) (h0 : 0 ≤ half) (h1 : half ≤ 1099511627776) : Calls Try.prog 20 #[.int .i64 E, .int .i64 L, .int .i64 half] w fun e w' => e = .returned (.bool (fitsV E L half)) ∧ w.grownBy w' none := by
  by_cases g1 : 1 ≤ half
  · have d1 : decide (1 ≤ half) = true := by simpa using g1
    by_cases g2 : L ≤ half / 2
    · have d2 : decide (L ≤ half / 2) = true := by simpa using g2
      have HV := Lib.hid (show fitsV E L half = decide (E < half - half / 2) by unfold fitsV; simp [g1, g2])
      go_enter Try.func20, Try.ntmps20
      go_wp2
      go_ret
      exact ⟨by rw [HV.out]; rfl, gb_refl _ _⟩
    · have d2 : decide (L ≤ half / 2) = false := by simpa using g2
      have HV := Lib.hid (show fitsV E L half = false by unfold fitsV; simp [g2])
      clear g2
      go_enter Try.func20, Try.ntmps20
      go_wp2
      go_ret
      exact ⟨by rw [HV.out]; rfl, gb_refl _ _⟩
  · have d1 : decide (1 ≤ half) = false := by simpa using g1
    have HV := Lib.hid (show fitsV E L half = false by unfold fitsV; simp [g1])
    clear g1
    go_enter Try.func20, Try.ntmps20
    go_wp2
    go_ret
    exact ⟨by rw [HV.out]; rfl, gb_refl _ _⟩
end Mar
end Go.Proofs.Ytjbhnofnlfnljaa
