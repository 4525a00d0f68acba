/- Contracts of package margin: which halves fit, the least one, the longest span. -/
import Derived.Test.YtjbhnofnlfnljaaMar
namespace Go.Proofs.Ytjbhnofnlfnljaa
open Go.RowKit
set_option linter.unusedVariables false
attribute [local go_sem] max2_i64 min2_i64 max_two' min_two'
namespace Mar
/-- A half fits. -/
def fitsV (E L half : Int) : Bool := decide (1 ≤ half ∧ L ≤ half / 2 ∧ E < half - half / 2)
/-- .. of a margin. -/
def fits (S G K half : Int) : Bool := fitsV (ap S G K + 1) (ap S G K + (K + 1)) half
theorem fits_small {S G K half : Int} (h : half < 1) : fits S G K half = false := by
  unfold fits fitsV
  rw [decide_eq_false_iff_not]
  omega
theorem fits_late {S G K half : Int} (h : half / 2 < ap S G K + (K + 1)) : fits S G K half = false := by
  unfold fits fitsV
  rw [decide_eq_false_iff_not]
  omega
theorem fits_of {S G K half : Int} (h1 : 1 ≤ half) (h : ap S G K + (K + 1) ≤ half / 2) : fits S G K half = decide (ap S G K + 1 < half - half / 2) := by
  unfold fits fitsV
  rw [decide_eq_decide]
  omega
set_option maxRecDepth 100000 in
set_option maxHeartbeats 1000000 in
theorem fits_neg (w : World) (S G K : Int) (half : Int) (h : Ok S G K) (g : half < 1) :
    Calls Try.prog 10 #[mar S G K, .int .i64 half] w fun e w' => e = .returned (.bool (fits S G K half)) ∧ w.grownBy w' none := by
  have hk := h
  obtain ⟨b1, b2, b3, b4, b5, b6⟩ := h
  have b7 : 0 ≤ S / G := Int.ediv_nonneg (by omega) (by omega)
  have b8 : S / G ≤ S := Int.ediv_le_self _ (by omega)
  have dg : decide (half < 1) = true := by simpa using g
  have HV := Lib.hid (fits_small (S := S) (G := G) (K := K) g)
  have hc0 : ∀ x : New (w.alloc (.cells #[.int .i64 S, .int .i64 G, .int .i64 K] 23)), x.w.cell? ⟨w.heap.size, 0, none⟩ = some (.int .i64 S) := fun x => ((Blk.new w 23 [.int .i64 S, .int .i64 G, .int .i64 K]).kept x.ok (by simp)).cell 0 _ rfl
  have hc1 : ∀ x : New (w.alloc (.cells #[.int .i64 S, .int .i64 G, .int .i64 K] 23)), x.w.cell? ⟨w.heap.size, 1, none⟩ = some (.int .i64 G) := fun x => ((Blk.new w 23 [.int .i64 S, .int .i64 G, .int .i64 K]).kept x.ok (by simp)).cell 1 _ rfl
  have hc2 : ∀ x : New (w.alloc (.cells #[.int .i64 S, .int .i64 G, .int .i64 K] 23)), x.w.cell? ⟨w.heap.size, 2, none⟩ = some (.int .i64 K) := fun x => ((Blk.new w 23 [.int .i64 S, .int .i64 G, .int .i64 K]).kept x.ok (by simp)).cell 2 _ rfl
  go_enter Try.func10, Try.ntmps10
  go_upto_region 1 with (fail)
  refine new_start fun x => ?_
  go_wp2_with (first | (go_at_call 6; refine (new_gb (right_yes _ _ _ _ hk)).mono ?_; rintro e w' ⟨rfl, x, rfl⟩) | go_in)
  go_ret
  exact ⟨by rw [HV.out]; rfl, new_end _⟩
set_option maxRecDepth 100000 in
set_option maxHeartbeats 1000000 in
theorem fits_lo (w : World) (S G K : Int) (half : Int) (h : Ok S G K) (g1 : 1 ≤ half) (g2 : half ≤ 1099511627776) (g : half / 2 < ap S G K + (K + 1)) :
    Calls Try.prog 10 #[mar S G K, .int .i64 half] w fun e w' => e = .returned (.bool (fits S G K half)) ∧ w.grownBy w' none := by
  have hap := ap_range h
  obtain ⟨a1, a2⟩ := hap
  have hk := h
  obtain ⟨b1, b2, b3, b4, b5, b6⟩ := h
  have b7 : 0 ≤ S / G := Int.ediv_nonneg (by omega) (by omega)
  have b8 : S / G ≤ S := Int.ediv_le_self _ (by omega)
  have dg : decide (half < 1) = false := by simp; omega
  have dl : decide (ap S G K + (K + 1) ≤ half / 2) = false := by simp; omega
  have HV := Lib.hid (fits_late (S := S) (G := G) (K := K) g)
  have hc0 : ∀ x : New (w.alloc (.cells #[.int .i64 S, .int .i64 G, .int .i64 K] 23)), x.w.cell? ⟨w.heap.size, 0, none⟩ = some (.int .i64 S) := fun x => ((Blk.new w 23 [.int .i64 S, .int .i64 G, .int .i64 K]).kept x.ok (by simp)).cell 0 _ rfl
  have hc1 : ∀ x : New (w.alloc (.cells #[.int .i64 S, .int .i64 G, .int .i64 K] 23)), x.w.cell? ⟨w.heap.size, 1, none⟩ = some (.int .i64 G) := fun x => ((Blk.new w 23 [.int .i64 S, .int .i64 G, .int .i64 K]).kept x.ok (by simp)).cell 1 _ rfl
  have hc2 : ∀ x : New (w.alloc (.cells #[.int .i64 S, .int .i64 G, .int .i64 K] 23)), x.w.cell? ⟨w.heap.size, 2, none⟩ = some (.int .i64 K) := fun x => ((Blk.new w 23 [.int .i64 S, .int .i64 G, .int .i64 K]).kept x.ok (by simp)).cell 2 _ rfl
  go_enter Try.func10, Try.ntmps10
  go_upto_region 1 with (fail)
  refine new_start fun x => ?_
  go_wp2_with (first | (go_at_call 6; refine (new_gb (right_yes _ _ _ _ hk)).mono ?_; rintro e w' ⟨rfl, x, rfl⟩) | (go_at_call 17; refine (new_gb (late_yes _ _ _ _ hk)).mono ?_; rintro e w' ⟨rfl, x, rfl⟩) | go_in)
  go_ret
  exact ⟨by rw [HV.out]; rfl, new_end _⟩
set_option maxRecDepth 100000 in
set_option maxHeartbeats 1000000 in
theorem fits_hi (w : World) (S G K : Int) (half : Int) (h : Ok S G K) (g1 : 1 ≤ half) (g2 : half ≤ 1099511627776) (g : ap S G K + (K + 1) ≤ half / 2) :
    Calls Try.prog 10 #[mar S G K, .int .i64 half] w fun e w' => e = .returned (.bool (fits S G K half)) ∧ w.grownBy w' none := by
  have hap := ap_range h
  obtain ⟨a1, a2⟩ := hap
  have hk := h
  obtain ⟨b1, b2, b3, b4, b5, b6⟩ := h
  have b7 : 0 ≤ S / G := Int.ediv_nonneg (by omega) (by omega)
  have b8 : S / G ≤ S := Int.ediv_le_self _ (by omega)
  have dg : decide (half < 1) = false := by simp; omega
  have dl : decide (ap S G K + (K + 1) ≤ half / 2) = true := by simp; omega
  have HV := Lib.hid (fits_of (S := S) (G := G) (K := K) g1 g)
  have hc0 : ∀ x : New (w.alloc (.cells #[.int .i64 S, .int .i64 G, .int .i64 K] 23)), x.w.cell? ⟨w.heap.size, 0, none⟩ = some (.int .i64 S) := fun x => ((Blk.new w 23 [.int .i64 S, .int .i64 G, .int .i64 K]).kept x.ok (by simp)).cell 0 _ rfl
  have hc1 : ∀ x : New (w.alloc (.cells #[.int .i64 S, .int .i64 G, .int .i64 K] 23)), x.w.cell? ⟨w.heap.size, 1, none⟩ = some (.int .i64 G) := fun x => ((Blk.new w 23 [.int .i64 S, .int .i64 G, .int .i64 K]).kept x.ok (by simp)).cell 1 _ rfl
  have hc2 : ∀ x : New (w.alloc (.cells #[.int .i64 S, .int .i64 G, .int .i64 K] 23)), x.w.cell? ⟨w.heap.size, 2, none⟩ = some (.int .i64 K) := fun x => ((Blk.new w 23 [.int .i64 S, .int .i64 G, .int .i64 K]).kept x.ok (by simp)).cell 2 _ rfl
  go_enter Try.func10, Try.ntmps10
  go_upto_region 1 with (fail)
  refine new_start fun x => ?_
  go_wp2_with (first | (go_at_call 6; refine (new_gb (right_yes _ _ _ _ hk)).mono ?_; rintro e w' ⟨rfl, x, rfl⟩) | (go_at_call 17; refine (new_gb (late_yes _ _ _ _ hk)).mono ?_; rintro e w' ⟨rfl, x, rfl⟩) | (go_at_call 16; refine (new_gb (early_yes _ _ _ _ hk)).mono ?_; rintro e w' ⟨rfl, x, rfl⟩) | go_in)
  go_ret
  exact ⟨by rw [HV.out]; rfl, new_end _⟩
theorem fits_yes (w : World) (S G K : Int) (half : Int) (h : Ok S G K) (g2 : half ≤ 1099511627776) :
    Calls Try.prog 10 #[mar S G K, .int .i64 half] w fun e w' => e = .returned (.bool (fits S G K half)) ∧ w.grownBy w' none := by
  by_cases g1 : 1 ≤ half
  · by_cases g : ap S G K + (K + 1) ≤ half / 2
    · exact fits_hi w S G K half h g1 g2 g
    · exact fits_lo w S G K half h g1 g2 (by omega)
  · exact fits_neg w S G K half h (by omega)
set_option maxRecDepth 100000 in
set_option maxHeartbeats 1000000 in
theorem fits_no (w : World) (S G K : Int) (half : Int) (h : ¬ Ok S G K) :
    Calls Try.prog 10 #[mar S G K, .int .i64 half] w fun e w' => e = .returned (.bool false) ∧ w.grownBy w' none := by
  have HN := Lib.hid h
  clear h
  have hc0 : ∀ x : New (w.alloc (.cells #[.int .i64 S, .int .i64 G, .int .i64 K] 23)), x.w.cell? ⟨w.heap.size, 0, none⟩ = some (.int .i64 S) := fun x => ((Blk.new w 23 [.int .i64 S, .int .i64 G, .int .i64 K]).kept x.ok (by simp)).cell 0 _ rfl
  have hc1 : ∀ x : New (w.alloc (.cells #[.int .i64 S, .int .i64 G, .int .i64 K] 23)), x.w.cell? ⟨w.heap.size, 1, none⟩ = some (.int .i64 G) := fun x => ((Blk.new w 23 [.int .i64 S, .int .i64 G, .int .i64 K]).kept x.ok (by simp)).cell 1 _ rfl
  have hc2 : ∀ x : New (w.alloc (.cells #[.int .i64 S, .int .i64 G, .int .i64 K] 23)), x.w.cell? ⟨w.heap.size, 2, none⟩ = some (.int .i64 K) := fun x => ((Blk.new w 23 [.int .i64 S, .int .i64 G, .int .i64 K]).kept x.ok (by simp)).cell 2 _ rfl
  go_enter Try.func10, Try.ntmps10
  go_upto_region 1 with (fail)
  refine new_start fun x => ?_
  go_wp2_with (first | (go_at_call 6; refine (new_gb (right_no _ _ _ _ HN.out)).mono ?_; rintro e w' ⟨rfl, x, rfl⟩) | go_in)
  go_ret
  exact ⟨rfl, new_end _⟩
/-- The least half that fits. -/
def least (S G K : Int) : Int := 2 * (ap S G K + (K + 1)) + if K = 0 then 1 else 0
theorem fits_first {S G K : Int} (h : Ok S G K) : fits S G K (2 * (ap S G K + (K + 1))) = decide (K ≠ 0) := by
  have hap := ap_range h
  obtain ⟨b1, b2, b3, b4, b5, b6⟩ := h
  unfold fits fitsV
  rw [decide_eq_decide]
  omega
theorem fits_next {S G : Int} (h : Ok S G 0) : fits S G 0 (2 * (ap S G 0 + (0 + 1)) + 1) = true := by
  have hap := ap_range h
  unfold fits fitsV
  rw [decide_eq_true_eq]
  omega
set_option maxRecDepth 100000 in
set_option maxHeartbeats 1000000 in
theorem least_pos (w : World) (S G K : Int) (h : Ok S G K) (g : 0 < K) :
    Calls Try.prog 9 #[mar S G K] w fun e w' => e = .returned (.int .i64 (least S G K)) ∧ w.grownBy w' none := by
  have hap := ap_range h
  obtain ⟨a1, a2⟩ := hap
  have hk := h
  obtain ⟨b1, b2, b3, b4, b5, b6⟩ := h
  have b7 : 0 ≤ S / G := Int.ediv_nonneg (by omega) (by omega)
  have b8 : S / G ≤ S := Int.ediv_le_self _ (by omega)
  have dk : decide (K ≠ 0) = true := by simp; omega
  have HF := Lib.hid ((fits_first hk).trans dk)
  have HV := Lib.hid (show least S G K = 2 * (ap S G K + (K + 1)) by unfold least; rw [if_neg (by omega)]; omega)
  clear dk
  have hc0 : ∀ x : New (w.alloc (.cells #[.int .i64 S, .int .i64 G, .int .i64 K] 23)), x.w.cell? ⟨w.heap.size, 0, none⟩ = some (.int .i64 S) := fun x => ((Blk.new w 23 [.int .i64 S, .int .i64 G, .int .i64 K]).kept x.ok (by simp)).cell 0 _ rfl
  have hc1 : ∀ x : New (w.alloc (.cells #[.int .i64 S, .int .i64 G, .int .i64 K] 23)), x.w.cell? ⟨w.heap.size, 1, none⟩ = some (.int .i64 G) := fun x => ((Blk.new w 23 [.int .i64 S, .int .i64 G, .int .i64 K]).kept x.ok (by simp)).cell 1 _ rfl
  have hc2 : ∀ x : New (w.alloc (.cells #[.int .i64 S, .int .i64 G, .int .i64 K] 23)), x.w.cell? ⟨w.heap.size, 2, none⟩ = some (.int .i64 K) := fun x => ((Blk.new w 23 [.int .i64 S, .int .i64 G, .int .i64 K]).kept x.ok (by simp)).cell 2 _ rfl
  go_enter Try.func9, Try.ntmps9
  go_upto_region 1 with (fail)
  refine new_start fun x => ?_
  go_wp2_with (first | (go_at_call 6; refine (new_gb (right_yes _ _ _ _ hk)).mono ?_; rintro e w' ⟨rfl, x, rfl⟩) | (go_at_call 17; refine (new_gb (late_yes _ _ _ _ hk)).mono ?_; rintro e w' ⟨rfl, x, rfl⟩) | go_in)
  refine wp_loop_rounds 1 ?_
  rw [rounds_succ]
  go_wp2_with fail
  refine (new_gb (fits_yes _ _ _ _ _ hk (by omega))).mono ?_
  rw [HF.out]
  rintro e w' ⟨rfl, x, rfl⟩
  go_wp2_with fail
  go_ret
  exact ⟨by rw [HV.out]; rfl, new_end _⟩
theorem late_zero (w : World) (S G : Int) (h : Ok S G 0) : Calls Try.prog 17 #[mar S G 0] w fun e w' => e = .returned (.int .i64 (ap S G 0 + 1)) ∧ w.grownBy w' none :=
  (late_yes w S G 0 h).mono fun _ _ ⟨a, b⟩ => ⟨by rw [a, show (0 : Int) + 1 = 1 from rfl], b⟩
set_option maxRecDepth 100000 in
set_option maxHeartbeats 1000000 in
theorem least_zero (w : World) (S G : Int) (h : Ok S G 0) :
    Calls Try.prog 9 #[mar S G 0] w fun e w' => e = .returned (.int .i64 (least S G 0)) ∧ w.grownBy w' none := by
  have hap := ap_range h
  obtain ⟨a1, a2⟩ := hap
  have hk := h
  obtain ⟨b1, b2, b3, b4, b5, b6⟩ := h
  have b7 : 0 ≤ S / G := Int.ediv_nonneg (by omega) (by omega)
  have b8 : S / G ≤ S := Int.ediv_le_self _ (by omega)
  have HF : Hid (fits S G 0 (2 * (ap S G 0 + 1)) = false) := (fits_first hk).trans (show decide ((0 : Int) ≠ 0) = false by decide)
  have HG : Hid (fits S G 0 (2 * (ap S G 0 + 1) + 1) = true) := fits_next hk
  have HV := Lib.hid (show least S G 0 = 2 * (ap S G 0 + 1) + 1 by unfold least; rw [if_pos rfl]; omega)
  have hc0 : ∀ x : New (w.alloc (.cells #[.int .i64 S, .int .i64 G, .int .i64 0] 23)), x.w.cell? ⟨w.heap.size, 0, none⟩ = some (.int .i64 S) := fun x => ((Blk.new w 23 [.int .i64 S, .int .i64 G, .int .i64 0]).kept x.ok (by simp)).cell 0 _ rfl
  have hc1 : ∀ x : New (w.alloc (.cells #[.int .i64 S, .int .i64 G, .int .i64 0] 23)), x.w.cell? ⟨w.heap.size, 1, none⟩ = some (.int .i64 G) := fun x => ((Blk.new w 23 [.int .i64 S, .int .i64 G, .int .i64 0]).kept x.ok (by simp)).cell 1 _ rfl
  have hc2 : ∀ x : New (w.alloc (.cells #[.int .i64 S, .int .i64 G, .int .i64 0] 23)), x.w.cell? ⟨w.heap.size, 2, none⟩ = some (.int .i64 0) := fun x => ((Blk.new w 23 [.int .i64 S, .int .i64 G, .int .i64 0]).kept x.ok (by simp)).cell 2 _ rfl
  go_enter Try.func9, Try.ntmps9
  go_upto_region 1 with (fail)
  refine new_start fun x => ?_
  go_wp2_with (first | (go_at_call 6; refine (new_gb (right_yes _ _ _ _ hk)).mono ?_; rintro e w' ⟨rfl, x, rfl⟩) | (go_at_call 17; refine (new_gb (late_zero _ _ _ hk)).mono ?_; rintro e w' ⟨rfl, x, rfl⟩) | go_in)
  refine wp_loop_rounds 2 ?_
  rw [rounds_succ]
  go_wp2_with fail
  refine (new_gb (fits_yes _ _ _ _ _ hk (by omega))).mono ?_
  rw [HF.out]
  rintro e w' ⟨rfl, x, rfl⟩
  go_wp2_with fail
  rw [rounds_succ]
  go_wp2_with fail
  refine (new_gb (fits_yes _ _ _ _ _ hk (by omega))).mono ?_
  rw [HG.out]
  rintro e w' ⟨rfl, x, rfl⟩
  go_wp2_with fail
  go_ret
  exact ⟨by rw [HV.out]; rfl, new_end _⟩
theorem least_yes (w : World) (S G K : Int) (h : Ok S G K) : Calls Try.prog 9 #[mar S G K] w fun e w' => e = .returned (.int .i64 (least S G K)) ∧ w.grownBy w' none := by
  by_cases g : 0 < K
  · exact least_pos w S G K h g
  · obtain rfl : K = 0 := by have := h.2.2.2.2.1; omega
    exact least_zero w S G h
theorem least_range {S G K : Int} (h : Ok S G K) : 6 ≤ least S G K ∧ least S G K ≤ 4299161606 := by
  have hap := ap_range h
  obtain ⟨b1, b2, b3, b4, b5, b6⟩ := h
  unfold least
  split <;> omega
set_option maxRecDepth 100000 in
set_option maxHeartbeats 1000000 in
theorem least_no (w : World) (S G K : Int) (h : ¬ Ok S G K) :
    Calls Try.prog 9 #[mar S G K] w fun e w' => e = .returned (.int .i64 0) ∧ w.grownBy w' none := by
  have HN := Lib.hid h
  clear h
  have hc0 : ∀ x : New (w.alloc (.cells #[.int .i64 S, .int .i64 G, .int .i64 K] 23)), x.w.cell? ⟨w.heap.size, 0, none⟩ = some (.int .i64 S) := fun x => ((Blk.new w 23 [.int .i64 S, .int .i64 G, .int .i64 K]).kept x.ok (by simp)).cell 0 _ rfl
  have hc1 : ∀ x : New (w.alloc (.cells #[.int .i64 S, .int .i64 G, .int .i64 K] 23)), x.w.cell? ⟨w.heap.size, 1, none⟩ = some (.int .i64 G) := fun x => ((Blk.new w 23 [.int .i64 S, .int .i64 G, .int .i64 K]).kept x.ok (by simp)).cell 1 _ rfl
  have hc2 : ∀ x : New (w.alloc (.cells #[.int .i64 S, .int .i64 G, .int .i64 K] 23)), x.w.cell? ⟨w.heap.size, 2, none⟩ = some (.int .i64 K) := fun x => ((Blk.new w 23 [.int .i64 S, .int .i64 G, .int .i64 K]).kept x.ok (by simp)).cell 2 _ rfl
  go_enter Try.func9, Try.ntmps9
  go_upto_region 1 with (fail)
  refine new_start fun x => ?_
  go_wp2_with (first | (go_at_call 6; refine (new_gb (right_no _ _ _ _ HN.out)).mono ?_; rintro e w' ⟨rfl, x, rfl⟩) | go_in)
  go_ret
  exact ⟨rfl, new_end _⟩
set_option maxRecDepth 100000 in
set_option maxHeartbeats 1000000 in
theorem spare_yes (w : World) (S G K : Int) (half : Int) (h : Ok S G K) (g1 : 1 ≤ half) (g2 : half ≤ 1073741824) :
    Calls Try.prog 18 #[mar S G K, .int .i64 half] w fun e w' => e = .returned (.int .i64 (half - least S G K)) ∧ w.grownBy w' none := by
  obtain ⟨l1, l2⟩ := least_range h
  have hk := h
  obtain ⟨b1, b2, b3, b4, b5, b6⟩ := h
  have b7 : 0 ≤ S / G := Int.ediv_nonneg (by omega) (by omega)
  have b8 : S / G ≤ S := Int.ediv_le_self _ (by omega)
  have hc0 : ∀ x : New (w.alloc (.cells #[.int .i64 S, .int .i64 G, .int .i64 K] 23)), x.w.cell? ⟨w.heap.size, 0, none⟩ = some (.int .i64 S) := fun x => ((Blk.new w 23 [.int .i64 S, .int .i64 G, .int .i64 K]).kept x.ok (by simp)).cell 0 _ rfl
  have hc1 : ∀ x : New (w.alloc (.cells #[.int .i64 S, .int .i64 G, .int .i64 K] 23)), x.w.cell? ⟨w.heap.size, 1, none⟩ = some (.int .i64 G) := fun x => ((Blk.new w 23 [.int .i64 S, .int .i64 G, .int .i64 K]).kept x.ok (by simp)).cell 1 _ rfl
  have hc2 : ∀ x : New (w.alloc (.cells #[.int .i64 S, .int .i64 G, .int .i64 K] 23)), x.w.cell? ⟨w.heap.size, 2, none⟩ = some (.int .i64 K) := fun x => ((Blk.new w 23 [.int .i64 S, .int .i64 G, .int .i64 K]).kept x.ok (by simp)).cell 2 _ rfl
  go_enter Try.func18, Try.ntmps18
  go_upto_region 1 with (fail)
  refine new_start fun x => ?_
  go_wp2_with (first | (go_at_call 6; refine (new_gb (right_yes _ _ _ _ hk)).mono ?_; rintro e w' ⟨rfl, x, rfl⟩) | (go_at_call 21; refine (new_gb (within_yes _ _ _ _ g1 g2)).mono ?_; rintro e w' ⟨rfl, x, rfl⟩) | (go_at_call 9; refine (new_gb (least_yes _ _ _ _ hk)).mono ?_; rintro e w' ⟨rfl, x, rfl⟩) | go_in)
  go_ret
  exact ⟨rfl, new_end _⟩
set_option maxRecDepth 100000 in
set_option maxHeartbeats 1000000 in
theorem spare_out (w : World) (S G K : Int) (half : Int) (h : Ok S G K) (g : half < 1 ∨ 1073741824 < half) :
    Calls Try.prog 18 #[mar S G K, .int .i64 half] w fun e w' => e = .returned (.int .i64 0) ∧ w.grownBy w' none := by
  have hk := h
  obtain ⟨b1, b2, b3, b4, b5, b6⟩ := h
  have b7 : 0 ≤ S / G := Int.ediv_nonneg (by omega) (by omega)
  have b8 : S / G ≤ S := Int.ediv_le_self _ (by omega)
  have HB := Lib.hid g
  clear g
  have hc0 : ∀ x : New (w.alloc (.cells #[.int .i64 S, .int .i64 G, .int .i64 K] 23)), x.w.cell? ⟨w.heap.size, 0, none⟩ = some (.int .i64 S) := fun x => ((Blk.new w 23 [.int .i64 S, .int .i64 G, .int .i64 K]).kept x.ok (by simp)).cell 0 _ rfl
  have hc1 : ∀ x : New (w.alloc (.cells #[.int .i64 S, .int .i64 G, .int .i64 K] 23)), x.w.cell? ⟨w.heap.size, 1, none⟩ = some (.int .i64 G) := fun x => ((Blk.new w 23 [.int .i64 S, .int .i64 G, .int .i64 K]).kept x.ok (by simp)).cell 1 _ rfl
  have hc2 : ∀ x : New (w.alloc (.cells #[.int .i64 S, .int .i64 G, .int .i64 K] 23)), x.w.cell? ⟨w.heap.size, 2, none⟩ = some (.int .i64 K) := fun x => ((Blk.new w 23 [.int .i64 S, .int .i64 G, .int .i64 K]).kept x.ok (by simp)).cell 2 _ rfl
  go_enter Try.func18, Try.ntmps18
  go_upto_region 1 with (fail)
  refine new_start fun x => ?_
  go_wp2_with (first | (go_at_call 6; refine (new_gb (right_yes _ _ _ _ hk)).mono ?_; rintro e w' ⟨rfl, x, rfl⟩) | (go_at_call 21; refine (new_gb (within_no _ _ _ _ HB.out)).mono ?_; rintro e w' ⟨rfl, x, rfl⟩) | go_in)
  go_ret
  exact ⟨rfl, new_end _⟩
set_option maxRecDepth 100000 in
set_option maxHeartbeats 1000000 in
theorem spare_no (w : World) (S G K : Int) (half : Int) (h : ¬ Ok S G K) :
    Calls Try.prog 18 #[mar S G K, .int .i64 half] w fun e w' => e = .returned (.int .i64 0) ∧ w.grownBy w' none := by
  have HN := Lib.hid h
  clear h
  have hc0 : ∀ x : New (w.alloc (.cells #[.int .i64 S, .int .i64 G, .int .i64 K] 23)), x.w.cell? ⟨w.heap.size, 0, none⟩ = some (.int .i64 S) := fun x => ((Blk.new w 23 [.int .i64 S, .int .i64 G, .int .i64 K]).kept x.ok (by simp)).cell 0 _ rfl
  have hc1 : ∀ x : New (w.alloc (.cells #[.int .i64 S, .int .i64 G, .int .i64 K] 23)), x.w.cell? ⟨w.heap.size, 1, none⟩ = some (.int .i64 G) := fun x => ((Blk.new w 23 [.int .i64 S, .int .i64 G, .int .i64 K]).kept x.ok (by simp)).cell 1 _ rfl
  have hc2 : ∀ x : New (w.alloc (.cells #[.int .i64 S, .int .i64 G, .int .i64 K] 23)), x.w.cell? ⟨w.heap.size, 2, none⟩ = some (.int .i64 K) := fun x => ((Blk.new w 23 [.int .i64 S, .int .i64 G, .int .i64 K]).kept x.ok (by simp)).cell 2 _ rfl
  go_enter Try.func18, Try.ntmps18
  go_upto_region 1 with (fail)
  refine new_start fun x => ?_
  go_wp2_with (first | (go_at_call 6; refine (new_gb (right_no _ _ _ _ HN.out)).mono ?_; rintro e w' ⟨rfl, x, rfl⟩) | go_in)
  go_ret
  exact ⟨rfl, new_end _⟩
theorem ap_mono {S S' G K : Int} (hG : 1 ≤ G) (h : S ≤ S') : ap S G K ≤ ap S' G K := by
  unfold ap
  have : S / G ≤ S' / G := Int.ediv_le_ediv (by omega) h
  omega
/-- A longer span never fits where a shorter one does not. -/
theorem fits_anti {S S' G K half : Int} (hG : 1 ≤ G) (h : S ≤ S') (hf : fits S' G K half = true) : fits S G K half = true := by
  have := ap_mono (K := K) hG h
  unfold fits fitsV at *
  rw [decide_eq_true_eq] at *
  omega
/-- What Longest tells. -/
def LongP (G K half n : Int) : Prop := 0 ≤ n ∧ n ≤ 1073741824 ∧ (n = 0 ∨ fits n G K half = true) ∧ (n = 1073741824 ∨ fits (n + 1) G K half = false)
def LongPost (G K half : Int) (w : World) (e : Ending) (w' : World) : Prop := ∃ n : Int, e = .returned (.int .i64 n) ∧ LongP G K half n ∧ w.grownBy w' none
set_option maxRecDepth 100000 in
set_option maxHeartbeats 1000000 in
theorem longest_yes (w : World) (S G K half : Int) (h : Ok S G K) (g1 : 1 ≤ half) (g2 : half ≤ 1073741824) :
    Calls Try.prog 12 #[mar S G K, .int .i64 half] w (LongPost G K half w) := by
  have hk := h
  obtain ⟨b1, b2, b3, b4, b5, b6⟩ := h
  have b7 : 0 ≤ S / G := Int.ediv_nonneg (by omega) (by omega)
  have b8 : S / G ≤ S := Int.ediv_le_self _ (by omega)
  have hc0 : ∀ x : New (w.alloc (.cells #[.int .i64 S, .int .i64 G, .int .i64 K] 23)), x.w.cell? ⟨w.heap.size, 0, none⟩ = some (.int .i64 S) := fun x => ((Blk.new w 23 [.int .i64 S, .int .i64 G, .int .i64 K]).kept x.ok (by simp)).cell 0 _ rfl
  have hc1 : ∀ x : New (w.alloc (.cells #[.int .i64 S, .int .i64 G, .int .i64 K] 23)), x.w.cell? ⟨w.heap.size, 1, none⟩ = some (.int .i64 G) := fun x => ((Blk.new w 23 [.int .i64 S, .int .i64 G, .int .i64 K]).kept x.ok (by simp)).cell 1 _ rfl
  have hc2 : ∀ x : New (w.alloc (.cells #[.int .i64 S, .int .i64 G, .int .i64 K] 23)), x.w.cell? ⟨w.heap.size, 2, none⟩ = some (.int .i64 K) := fun x => ((Blk.new w 23 [.int .i64 S, .int .i64 G, .int .i64 K]).kept x.ok (by simp)).cell 2 _ rfl
  go_enter Try.func12, Try.ntmps12
  go_upto_region 1 with (fail)
  refine new_start fun x => ?_
  go_wp2_with (first | (go_at_call 6; refine (new_gb (right_yes _ _ _ _ hk)).mono ?_; rintro e w' ⟨rfl, x, rfl⟩) | (go_at_call 21; refine (new_gb (within_yes _ _ _ _ g1 g2)).mono ?_; rintro e w' ⟨rfl, x, rfl⟩) | go_in)
  go_loopw [5, 6] (fun lo hi wr => ∃ l r : Int, 0 ≤ l ∧ l ≤ r ∧ r ≤ 1073741824 ∧ lo = .int .i64 l ∧ hi = .int .i64 r ∧ Hid ((l = 0 ∨ fits l G K half = true) ∧ (r = 1073741824 ∨ fits (r + 1) G K half = false)) ∧ ∃ y : New (w.alloc (.cells #[.int .i64 S, .int .i64 G, .int .i64 K] 23)), wr = y.w) (fun lo hi _ => (intOf hi - intOf lo).toNat)
  case atStart => exact ⟨0, 1073741824, by omega, by omega, by omega, rfl, rfl, ⟨.inl rfl, .inl rfl⟩, _, rfl⟩
  case round =>
    obtain ⟨l, r, l0, lr, r1, rfl, rfl, HP, y, rfl⟩ := hrel
    by_cases hlt : l < r
    · obtain ⟨m, hm⟩ : ∃ m, (l + r + 1) / 2 = m := ⟨_, rfl⟩
      have m0 : l + 1 ≤ m := by omega
      have m1 : m ≤ r := by omega
      have hom : Ok m G K := ⟨by omega, by omega, b3, b4, b5, b6⟩
      obtain ⟨bf, hbf⟩ : ∃ bf, fits m G K half = bf := ⟨_, rfl⟩
      have HBF := Lib.hid hbf
      clear hbf
      go_wp2_with fail
      refine (new_gb (fits_yes _ _ _ _ _ hom (by omega))).mono ?_
      rw [HBF.out]
      rintro e w' ⟨rfl, x, rfl⟩
      cases bf
      · go_wp2_with fail
        go_roundw
        case rel => exact ⟨l, m - 1, by omega, by omega, by omega, rfl, rfl, ⟨HP.out.1, .inr (by rw [show m - 1 + 1 = m by omega]; exact HBF.out)⟩, _, rfl⟩
        case measure => simp [intOf]; omega
      · go_wp2_with fail
        go_roundw
        case rel => exact ⟨m, r, by omega, by omega, by omega, rfl, rfl, ⟨.inr HBF.out, HP.out.2⟩, _, rfl⟩
        case measure => simp [intOf]; omega
    · obtain rfl : l = r := by omega
      go_wp2_with fail
      go_ret
      exact ⟨l, rfl, ⟨l0, r1, HP.out.1, HP.out.2⟩, new_end _⟩
set_option maxRecDepth 100000 in
set_option maxHeartbeats 1000000 in
theorem longest_no (w : World) (S G K : Int) (half : Int) (h : ¬ Ok S G K) :
    Calls Try.prog 12 #[mar S G K, .int .i64 half] w fun e w' => e = .returned (.int .i64 0) ∧ w.grownBy w' none := by
  have HN := Lib.hid h
  clear h
  have hc0 : ∀ x : New (w.alloc (.cells #[.int .i64 S, .int .i64 G, .int .i64 K] 23)), x.w.cell? ⟨w.heap.size, 0, none⟩ = some (.int .i64 S) := fun x => ((Blk.new w 23 [.int .i64 S, .int .i64 G, .int .i64 K]).kept x.ok (by simp)).cell 0 _ rfl
  have hc1 : ∀ x : New (w.alloc (.cells #[.int .i64 S, .int .i64 G, .int .i64 K] 23)), x.w.cell? ⟨w.heap.size, 1, none⟩ = some (.int .i64 G) := fun x => ((Blk.new w 23 [.int .i64 S, .int .i64 G, .int .i64 K]).kept x.ok (by simp)).cell 1 _ rfl
  have hc2 : ∀ x : New (w.alloc (.cells #[.int .i64 S, .int .i64 G, .int .i64 K] 23)), x.w.cell? ⟨w.heap.size, 2, none⟩ = some (.int .i64 K) := fun x => ((Blk.new w 23 [.int .i64 S, .int .i64 G, .int .i64 K]).kept x.ok (by simp)).cell 2 _ rfl
  go_enter Try.func12, Try.ntmps12
  go_upto_region 1 with (fail)
  refine new_start fun x => ?_
  go_wp2_with (first | (go_at_call 6; refine (new_gb (right_no _ _ _ _ HN.out)).mono ?_; rintro e w' ⟨rfl, x, rfl⟩) | go_in)
  go_ret
  exact ⟨rfl, new_end _⟩
end Mar
end Go.Proofs.Ytjbhnofnlfnljaa
