/- Contracts of package margin. -/
import Derived.Test.YtjbhnofnlfnljaaIn
import Derived.Test.YtjbhnofnlfnljaaMore
namespace Go.Proofs.Ytjbhnofnlfnljaa
open Go.RowKit
set_option linter.unusedVariables false
attribute [local go_sem] max2_i64 min2_i64 max_two' min_two'
namespace Mar
abbrev mar (S G K : Int) : Value := .agg #[.int .i64 S, .int .i64 G, .int .i64 K]
/-- A margin may be. -/
def Ok (S G K : Int) : Prop := 1 ≤ S ∧ S ≤ 1073741824 ∧ 1 ≤ G ∧ G ≤ 1073741824 ∧ 0 ≤ K ∧ K ≤ 1048576
/-- By how many ticks two clocks are apart. -/
def ap (S G K : Int) : Int := K + 2 * (S / G + 1)
set_option maxHeartbeats 400000 in
theorem within_any (w : World) (n a b : Int) : Calls Try.prog 21 #[.int .i64 n, .int .i64 a, .int .i64 b] w fun e w' => e = .returned (.bool (decide (a ≤ n ∧ n ≤ b))) ∧ w.grownBy w' none := by
  by_cases h : a ≤ n
  · have hd : decide (a ≤ n) = true := by simpa using h
    have HF := Lib.hid (show decide (a ≤ n ∧ n ≤ b) = decide (n ≤ b) by simp [h])
    clear h
    go_enter Try.func21, Try.ntmps21
    go_wp2
    go_ret
    exact ⟨by rw [HF.out]; rfl, gb_refl _ _⟩
  · have hd : decide (a ≤ n) = false := by simpa using h
    have HF := Lib.hid (show decide (a ≤ n ∧ n ≤ b) = false by simp [h])
    clear h
    go_enter Try.func21, Try.ntmps21
    go_wp2
    go_ret
    exact ⟨by rw [HF.out]; rfl, gb_refl _ _⟩
theorem within_yes (w : World) (n a b : Int) (h : a ≤ n) (h' : n ≤ b) : Calls Try.prog 21 #[.int .i64 n, .int .i64 a, .int .i64 b] w fun e w' => e = .returned (.bool true) ∧ w.grownBy w' none :=
  (within_any w n a b).mono fun _ _ ⟨he, hw⟩ => ⟨by rw [he, show decide (a ≤ n ∧ n ≤ b) = true by simp [h, h']], hw⟩
theorem within_no (w : World) (n a b : Int) (h : n < a ∨ b < n) : Calls Try.prog 21 #[.int .i64 n, .int .i64 a, .int .i64 b] w fun e w' => e = .returned (.bool false) ∧ w.grownBy w' none :=
  (within_any w n a b).mono fun _ _ ⟨he, hw⟩ => ⟨by rw [he, show decide (a ≤ n ∧ n ≤ b) = false by simp; omega], hw⟩
set_option maxRecDepth 100000 in
set_option maxHeartbeats 1000000 in
theorem right_yes (w : World) (S G K : Int) (h : Ok S G K) :
    Calls Try.prog 6 #[mar S G K] w fun e w' => e = .returned (.bool true) ∧ w.grownBy w' none := by
  have hk := h
  obtain ⟨b1, b2, b3, b4, b5, b6⟩ := h
  have b7 : 0 ≤ S / G := Int.ediv_nonneg (by omega) (by omega)
  have b8 : S / G ≤ S := Int.ediv_le_self _ (by omega)
  have hc0 : ∀ x : New (w.alloc (.cells #[.int .i64 S, .int .i64 G, .int .i64 K] 23)), x.w.cell? ⟨w.heap.size, 0, none⟩ = some (.int .i64 S) := fun x => ((Blk.new w 23 [.int .i64 S, .int .i64 G, .int .i64 K]).kept x.ok (by simp)).cell 0 _ rfl
  have hc1 : ∀ x : New (w.alloc (.cells #[.int .i64 S, .int .i64 G, .int .i64 K] 23)), x.w.cell? ⟨w.heap.size, 1, none⟩ = some (.int .i64 G) := fun x => ((Blk.new w 23 [.int .i64 S, .int .i64 G, .int .i64 K]).kept x.ok (by simp)).cell 1 _ rfl
  have hc2 : ∀ x : New (w.alloc (.cells #[.int .i64 S, .int .i64 G, .int .i64 K] 23)), x.w.cell? ⟨w.heap.size, 2, none⟩ = some (.int .i64 K) := fun x => ((Blk.new w 23 [.int .i64 S, .int .i64 G, .int .i64 K]).kept x.ok (by simp)).cell 2 _ rfl
  go_enter Try.func6, Try.ntmps6
  go_upto_region 1 with (fail)
  refine new_start fun x => ?_
  go_wp2_with (first | (go_at_call 21; refine (new_gb (within_yes _ _ _ _ (by omega) (by omega))).mono ?_; rintro e w' ⟨rfl, x, rfl⟩) | go_in)
  go_ret
  exact ⟨rfl, new_end _⟩
set_option maxRecDepth 100000 in
set_option maxHeartbeats 1000000 in
theorem right_no1 (w : World) (S G K : Int) (h : S < 1 ∨ 1073741824 < S) :
    Calls Try.prog 6 #[mar S G K] w fun e w' => e = .returned (.bool false) ∧ w.grownBy w' none := by
  have C := Lib.hid h
  clear h
  have hc0 : ∀ x : New (w.alloc (.cells #[.int .i64 S, .int .i64 G, .int .i64 K] 23)), x.w.cell? ⟨w.heap.size, 0, none⟩ = some (.int .i64 S) := fun x => ((Blk.new w 23 [.int .i64 S, .int .i64 G, .int .i64 K]).kept x.ok (by simp)).cell 0 _ rfl
  have hc1 : ∀ x : New (w.alloc (.cells #[.int .i64 S, .int .i64 G, .int .i64 K] 23)), x.w.cell? ⟨w.heap.size, 1, none⟩ = some (.int .i64 G) := fun x => ((Blk.new w 23 [.int .i64 S, .int .i64 G, .int .i64 K]).kept x.ok (by simp)).cell 1 _ rfl
  have hc2 : ∀ x : New (w.alloc (.cells #[.int .i64 S, .int .i64 G, .int .i64 K] 23)), x.w.cell? ⟨w.heap.size, 2, none⟩ = some (.int .i64 K) := fun x => ((Blk.new w 23 [.int .i64 S, .int .i64 G, .int .i64 K]).kept x.ok (by simp)).cell 2 _ rfl
  go_enter Try.func6, Try.ntmps6
  go_upto_region 1 with (fail)
  refine new_start fun x => ?_
  go_wp2_with fail
  refine (new_gb (within_no _ _ _ _ C.out)).mono ?_
  rintro e w' ⟨rfl, x, rfl⟩
  go_wp2_with fail
  go_ret
  exact ⟨rfl, new_end _⟩
set_option maxRecDepth 100000 in
set_option maxHeartbeats 1000000 in
theorem right_no2 (w : World) (S G K : Int) (g1 : 1 ≤ S) (g2 : S ≤ 1073741824) (h : G < 1 ∨ 1073741824 < G) :
    Calls Try.prog 6 #[mar S G K] w fun e w' => e = .returned (.bool false) ∧ w.grownBy w' none := by
  have C := Lib.hid h
  clear h
  have hc0 : ∀ x : New (w.alloc (.cells #[.int .i64 S, .int .i64 G, .int .i64 K] 23)), x.w.cell? ⟨w.heap.size, 0, none⟩ = some (.int .i64 S) := fun x => ((Blk.new w 23 [.int .i64 S, .int .i64 G, .int .i64 K]).kept x.ok (by simp)).cell 0 _ rfl
  have hc1 : ∀ x : New (w.alloc (.cells #[.int .i64 S, .int .i64 G, .int .i64 K] 23)), x.w.cell? ⟨w.heap.size, 1, none⟩ = some (.int .i64 G) := fun x => ((Blk.new w 23 [.int .i64 S, .int .i64 G, .int .i64 K]).kept x.ok (by simp)).cell 1 _ rfl
  have hc2 : ∀ x : New (w.alloc (.cells #[.int .i64 S, .int .i64 G, .int .i64 K] 23)), x.w.cell? ⟨w.heap.size, 2, none⟩ = some (.int .i64 K) := fun x => ((Blk.new w 23 [.int .i64 S, .int .i64 G, .int .i64 K]).kept x.ok (by simp)).cell 2 _ rfl
  go_enter Try.func6, Try.ntmps6
  go_upto_region 1 with (fail)
  refine new_start fun x => ?_
  go_wp2_with fail
  refine (new_gb (within_yes _ _ _ _ g1 g2)).mono ?_
  rintro e w' ⟨rfl, x, rfl⟩
  go_wp2_with fail
  refine (new_gb (within_no _ _ _ _ C.out)).mono ?_
  rintro e w' ⟨rfl, x, rfl⟩
  go_wp2_with fail
  go_ret
  exact ⟨rfl, new_end _⟩
set_option maxRecDepth 100000 in
set_option maxHeartbeats 1000000 in
theorem right_no3 (w : World) (S G K : Int) (g1 : 1 ≤ S) (g2 : S ≤ 1073741824) (g3 : 1 ≤ G) (g4 : G ≤ 1073741824) (h : K < 0 ∨ 1048576 < K) :
    Calls Try.prog 6 #[mar S G K] w fun e w' => e = .returned (.bool false) ∧ w.grownBy w' none := by
  have C := Lib.hid h
  clear h
  have hc0 : ∀ x : New (w.alloc (.cells #[.int .i64 S, .int .i64 G, .int .i64 K] 23)), x.w.cell? ⟨w.heap.size, 0, none⟩ = some (.int .i64 S) := fun x => ((Blk.new w 23 [.int .i64 S, .int .i64 G, .int .i64 K]).kept x.ok (by simp)).cell 0 _ rfl
  have hc1 : ∀ x : New (w.alloc (.cells #[.int .i64 S, .int .i64 G, .int .i64 K] 23)), x.w.cell? ⟨w.heap.size, 1, none⟩ = some (.int .i64 G) := fun x => ((Blk.new w 23 [.int .i64 S, .int .i64 G, .int .i64 K]).kept x.ok (by simp)).cell 1 _ rfl
  have hc2 : ∀ x : New (w.alloc (.cells #[.int .i64 S, .int .i64 G, .int .i64 K] 23)), x.w.cell? ⟨w.heap.size, 2, none⟩ = some (.int .i64 K) := fun x => ((Blk.new w 23 [.int .i64 S, .int .i64 G, .int .i64 K]).kept x.ok (by simp)).cell 2 _ rfl
  go_enter Try.func6, Try.ntmps6
  go_upto_region 1 with (fail)
  refine new_start fun x => ?_
  go_wp2_with fail
  refine (new_gb (within_yes _ _ _ _ g1 g2)).mono ?_
  rintro e w' ⟨rfl, x, rfl⟩
  go_wp2_with fail
  refine (new_gb (within_yes _ _ _ _ g3 g4)).mono ?_
  rintro e w' ⟨rfl, x, rfl⟩
  go_wp2_with fail
  refine (new_gb (within_no _ _ _ _ C.out)).mono ?_
  rintro e w' ⟨rfl, x, rfl⟩
  go_wp2_with fail
  go_ret
  exact ⟨rfl, new_end _⟩
theorem right_no (w : World) (S G K : Int) (h : ¬ Ok S G K) : Calls Try.prog 6 #[mar S G K] w fun e w' => e = .returned (.bool false) ∧ w.grownBy w' none := by
  unfold Ok at h
  by_cases h1 : 1 ≤ S ∧ S ≤ 1073741824
  · by_cases h2 : 1 ≤ G ∧ G ≤ 1073741824
    · exact right_no3 w S G K h1.1 h1.2 h2.1 h2.2 (by omega)
    · exact right_no2 w S G K h1.1 h1.2 (by omega)
  · exact right_no1 w S G K (by omega)
set_option maxRecDepth 100000 in
set_option maxHeartbeats 1000000 in
theorem slips_yes (w : World) (S G K : Int) (h : Ok S G K) :
    Calls Try.prog 14 #[mar S G K] w fun e w' => e = .returned (.int .i64 (S / G + 1)) ∧ w.grownBy w' none := by
  have hk := h
  obtain ⟨b1, b2, b3, b4, b5, b6⟩ := h
  have b7 : 0 ≤ S / G := Int.ediv_nonneg (by omega) (by omega)
  have b8 : S / G ≤ S := Int.ediv_le_self _ (by omega)
  have hc0 : ∀ x : New (w.alloc (.cells #[.int .i64 S, .int .i64 G, .int .i64 K] 23)), x.w.cell? ⟨w.heap.size, 0, none⟩ = some (.int .i64 S) := fun x => ((Blk.new w 23 [.int .i64 S, .int .i64 G, .int .i64 K]).kept x.ok (by simp)).cell 0 _ rfl
  have hc1 : ∀ x : New (w.alloc (.cells #[.int .i64 S, .int .i64 G, .int .i64 K] 23)), x.w.cell? ⟨w.heap.size, 1, none⟩ = some (.int .i64 G) := fun x => ((Blk.new w 23 [.int .i64 S, .int .i64 G, .int .i64 K]).kept x.ok (by simp)).cell 1 _ rfl
  have hc2 : ∀ x : New (w.alloc (.cells #[.int .i64 S, .int .i64 G, .int .i64 K] 23)), x.w.cell? ⟨w.heap.size, 2, none⟩ = some (.int .i64 K) := fun x => ((Blk.new w 23 [.int .i64 S, .int .i64 G, .int .i64 K]).kept x.ok (by simp)).cell 2 _ rfl
  go_enter Try.func14, Try.ntmps14
  go_upto_region 1 with (fail)
  refine new_start fun x => ?_
  go_wp2_with (first | (go_at_call 6; refine (new_gb (right_yes _ _ _ _ hk)).mono ?_; rintro e w' ⟨rfl, x, rfl⟩) | go_in)
  go_ret
  exact ⟨rfl, new_end _⟩
set_option maxRecDepth 100000 in
set_option maxHeartbeats 1000000 in
theorem slips_no (w : World) (S G K : Int) (h : ¬ Ok S G K) :
    Calls Try.prog 14 #[mar S G K] w fun e w' => e = .returned (.int .i64 0) ∧ w.grownBy w' none := by
  have HN := Lib.hid h
  clear h
  have hc0 : ∀ x : New (w.alloc (.cells #[.int .i64 S, .int .i64 G, .int .i64 K] 23)), x.w.cell? ⟨w.heap.size, 0, none⟩ = some (.int .i64 S) := fun x => ((Blk.new w 23 [.int .i64 S, .int .i64 G, .int .i64 K]).kept x.ok (by simp)).cell 0 _ rfl
  have hc1 : ∀ x : New (w.alloc (.cells #[.int .i64 S, .int .i64 G, .int .i64 K] 23)), x.w.cell? ⟨w.heap.size, 1, none⟩ = some (.int .i64 G) := fun x => ((Blk.new w 23 [.int .i64 S, .int .i64 G, .int .i64 K]).kept x.ok (by simp)).cell 1 _ rfl
  have hc2 : ∀ x : New (w.alloc (.cells #[.int .i64 S, .int .i64 G, .int .i64 K] 23)), x.w.cell? ⟨w.heap.size, 2, none⟩ = some (.int .i64 K) := fun x => ((Blk.new w 23 [.int .i64 S, .int .i64 G, .int .i64 K]).kept x.ok (by simp)).cell 2 _ rfl
  go_enter Try.func14, Try.ntmps14
  go_upto_region 1 with (fail)
  refine new_start fun x => ?_
  go_wp2_with (first | (go_at_call 6; refine (new_gb (right_no _ _ _ _ HN.out)).mono ?_; rintro e w' ⟨rfl, x, rfl⟩) | go_in)
  go_ret
  exact ⟨rfl, new_end _⟩
set_option maxRecDepth 100000 in
set_option maxHeartbeats 1000000 in
theorem apart_yes (w : World) (S G K : Int) (h : Ok S G K) :
    Calls Try.prog 8 #[mar S G K] w fun e w' => e = .returned (.int .i64 (ap S G K)) ∧ w.grownBy w' none := by
  have hk := h
  obtain ⟨b1, b2, b3, b4, b5, b6⟩ := h
  have b7 : 0 ≤ S / G := Int.ediv_nonneg (by omega) (by omega)
  have b8 : S / G ≤ S := Int.ediv_le_self _ (by omega)
  have hc0 : ∀ x : New (w.alloc (.cells #[.int .i64 S, .int .i64 G, .int .i64 K] 23)), x.w.cell? ⟨w.heap.size, 0, none⟩ = some (.int .i64 S) := fun x => ((Blk.new w 23 [.int .i64 S, .int .i64 G, .int .i64 K]).kept x.ok (by simp)).cell 0 _ rfl
  have hc1 : ∀ x : New (w.alloc (.cells #[.int .i64 S, .int .i64 G, .int .i64 K] 23)), x.w.cell? ⟨w.heap.size, 1, none⟩ = some (.int .i64 G) := fun x => ((Blk.new w 23 [.int .i64 S, .int .i64 G, .int .i64 K]).kept x.ok (by simp)).cell 1 _ rfl
  have hc2 : ∀ x : New (w.alloc (.cells #[.int .i64 S, .int .i64 G, .int .i64 K] 23)), x.w.cell? ⟨w.heap.size, 2, none⟩ = some (.int .i64 K) := fun x => ((Blk.new w 23 [.int .i64 S, .int .i64 G, .int .i64 K]).kept x.ok (by simp)).cell 2 _ rfl
  go_enter Try.func8, Try.ntmps8
  go_upto_region 1 with (fail)
  refine new_start fun x => ?_
  go_wp2_with (first | (go_at_call 6; refine (new_gb (right_yes _ _ _ _ hk)).mono ?_; rintro e w' ⟨rfl, x, rfl⟩) | go_in)
  haveI hnw := new_ne (w.alloc (.cells #[.int .i64 S, .int .i64 G, .int .i64 K] 23))
  refine wp_region_later (by kernel_rfl) (by kernel_rfl) ?_
  repeat (go_big_quiet_step ((first | (go_at_call 14; exact new_gb (slips_yes _ _ _ _ hk)))))
  refine wpQuiet_nil ?_
  intro _ hw'
  obtain ⟨x, hw''⟩ := hw'
  subst hw''
  clear hnw
  go_wp2_with (first | (go_at_call 6; refine (new_gb (right_yes _ _ _ _ hk)).mono ?_; rintro e w' ⟨rfl, x, rfl⟩) | go_in)
  go_ret
  exact ⟨rfl, new_end _⟩
set_option maxRecDepth 100000 in
set_option maxHeartbeats 1000000 in
theorem apart_no (w : World) (S G K : Int) (h : ¬ Ok S G K) :
    Calls Try.prog 8 #[mar S G K] w fun e w' => e = .returned (.int .i64 0) ∧ w.grownBy w' none := by
  have HN := Lib.hid h
  clear h
  have hc0 : ∀ x : New (w.alloc (.cells #[.int .i64 S, .int .i64 G, .int .i64 K] 23)), x.w.cell? ⟨w.heap.size, 0, none⟩ = some (.int .i64 S) := fun x => ((Blk.new w 23 [.int .i64 S, .int .i64 G, .int .i64 K]).kept x.ok (by simp)).cell 0 _ rfl
  have hc1 : ∀ x : New (w.alloc (.cells #[.int .i64 S, .int .i64 G, .int .i64 K] 23)), x.w.cell? ⟨w.heap.size, 1, none⟩ = some (.int .i64 G) := fun x => ((Blk.new w 23 [.int .i64 S, .int .i64 G, .int .i64 K]).kept x.ok (by simp)).cell 1 _ rfl
  have hc2 : ∀ x : New (w.alloc (.cells #[.int .i64 S, .int .i64 G, .int .i64 K] 23)), x.w.cell? ⟨w.heap.size, 2, none⟩ = some (.int .i64 K) := fun x => ((Blk.new w 23 [.int .i64 S, .int .i64 G, .int .i64 K]).kept x.ok (by simp)).cell 2 _ rfl
  go_enter Try.func8, Try.ntmps8
  go_upto_region 1 with (fail)
  refine new_start fun x => ?_
  go_wp2_with (first | (go_at_call 6; refine (new_gb (right_no _ _ _ _ HN.out)).mono ?_; rintro e w' ⟨rfl, x, rfl⟩) | go_in)
  go_ret
  exact ⟨rfl, new_end _⟩
theorem ap_range {S G K : Int} (h : Ok S G K) : 2 ≤ ap S G K ∧ ap S G K ≤ 2148532226 := by
  have hk := h
  obtain ⟨b1, b2, b3, b4, b5, b6⟩ := h
  have b7 : 0 ≤ S / G := Int.ediv_nonneg (by omega) (by omega)
  have b8 : S / G ≤ S := Int.ediv_le_self _ (by omega)
  unfold ap
  omega
set_option maxRecDepth 100000 in
set_option maxHeartbeats 1000000 in
theorem more_yes (w : World) (S G K : Int) (n : Int) (h : Ok S G K) (n0 : 0 ≤ n) (n1 : n ≤ 2000000) :
    Calls Try.prog 24 #[mar S G K, .int .i64 n] w fun e w' => e = .returned (.int .i64 (ap S G K + n)) ∧ w.grownBy w' none := by
  have hap := ap_range h
  obtain ⟨a1, a2⟩ := hap
  have hk := h
  obtain ⟨b1, b2, b3, b4, b5, b6⟩ := h
  have b7 : 0 ≤ S / G := Int.ediv_nonneg (by omega) (by omega)
  have b8 : S / G ≤ S := Int.ediv_le_self _ (by omega)
  have hc0 : ∀ x : New (w.alloc (.cells #[.int .i64 S, .int .i64 G, .int .i64 K] 23)), x.w.cell? ⟨w.heap.size, 0, none⟩ = some (.int .i64 S) := fun x => ((Blk.new w 23 [.int .i64 S, .int .i64 G, .int .i64 K]).kept x.ok (by simp)).cell 0 _ rfl
  have hc1 : ∀ x : New (w.alloc (.cells #[.int .i64 S, .int .i64 G, .int .i64 K] 23)), x.w.cell? ⟨w.heap.size, 1, none⟩ = some (.int .i64 G) := fun x => ((Blk.new w 23 [.int .i64 S, .int .i64 G, .int .i64 K]).kept x.ok (by simp)).cell 1 _ rfl
  have hc2 : ∀ x : New (w.alloc (.cells #[.int .i64 S, .int .i64 G, .int .i64 K] 23)), x.w.cell? ⟨w.heap.size, 2, none⟩ = some (.int .i64 K) := fun x => ((Blk.new w 23 [.int .i64 S, .int .i64 G, .int .i64 K]).kept x.ok (by simp)).cell 2 _ rfl
  go_enter Try.func24, Try.ntmps24
  go_upto_region 1 with (fail)
  refine new_start fun x => ?_
  go_wp2_with (first | (go_at_call 6; refine (new_gb (right_yes _ _ _ _ hk)).mono ?_; rintro e w' ⟨rfl, x, rfl⟩) | (go_at_call 8; refine (new_gb (apart_yes _ _ _ _ hk)).mono ?_; rintro e w' ⟨rfl, x, rfl⟩) | go_in)
  go_ret
  exact ⟨rfl, new_end _⟩
set_option maxRecDepth 100000 in
set_option maxHeartbeats 1000000 in
theorem more_no (w : World) (S G K : Int) (n : Int) (h : ¬ Ok S G K) :
    Calls Try.prog 24 #[mar S G K, .int .i64 n] w fun e w' => e = .returned (.int .i64 0) ∧ w.grownBy w' none := by
  have HN := Lib.hid h
  clear h
  have hc0 : ∀ x : New (w.alloc (.cells #[.int .i64 S, .int .i64 G, .int .i64 K] 23)), x.w.cell? ⟨w.heap.size, 0, none⟩ = some (.int .i64 S) := fun x => ((Blk.new w 23 [.int .i64 S, .int .i64 G, .int .i64 K]).kept x.ok (by simp)).cell 0 _ rfl
  have hc1 : ∀ x : New (w.alloc (.cells #[.int .i64 S, .int .i64 G, .int .i64 K] 23)), x.w.cell? ⟨w.heap.size, 1, none⟩ = some (.int .i64 G) := fun x => ((Blk.new w 23 [.int .i64 S, .int .i64 G, .int .i64 K]).kept x.ok (by simp)).cell 1 _ rfl
  have hc2 : ∀ x : New (w.alloc (.cells #[.int .i64 S, .int .i64 G, .int .i64 K] 23)), x.w.cell? ⟨w.heap.size, 2, none⟩ = some (.int .i64 K) := fun x => ((Blk.new w 23 [.int .i64 S, .int .i64 G, .int .i64 K]).kept x.ok (by simp)).cell 2 _ rfl
  go_enter Try.func24, Try.ntmps24
  go_upto_region 1 with (fail)
  refine new_start fun x => ?_
  go_wp2_with (first | (go_at_call 6; refine (new_gb (right_no _ _ _ _ HN.out)).mono ?_; rintro e w' ⟨rfl, x, rfl⟩) | go_in)
  go_ret
  exact ⟨rfl, new_end _⟩
set_option maxRecDepth 100000 in
set_option maxHeartbeats 1000000 in
theorem turn_yes (w : World) (S G K : Int) (h : Ok S G K) :
    Calls Try.prog 15 #[mar S G K] w fun e w' => e = .returned (.int .i64 (ap S G K + 1)) ∧ w.grownBy w' none := by
  have hk := h
  obtain ⟨b1, b2, b3, b4, b5, b6⟩ := h
  have b7 : 0 ≤ S / G := Int.ediv_nonneg (by omega) (by omega)
  have b8 : S / G ≤ S := Int.ediv_le_self _ (by omega)
  have hc0 : ∀ x : New (w.alloc (.cells #[.int .i64 S, .int .i64 G, .int .i64 K] 23)), x.w.cell? ⟨w.heap.size, 0, none⟩ = some (.int .i64 S) := fun x => ((Blk.new w 23 [.int .i64 S, .int .i64 G, .int .i64 K]).kept x.ok (by simp)).cell 0 _ rfl
  have hc1 : ∀ x : New (w.alloc (.cells #[.int .i64 S, .int .i64 G, .int .i64 K] 23)), x.w.cell? ⟨w.heap.size, 1, none⟩ = some (.int .i64 G) := fun x => ((Blk.new w 23 [.int .i64 S, .int .i64 G, .int .i64 K]).kept x.ok (by simp)).cell 1 _ rfl
  have hc2 : ∀ x : New (w.alloc (.cells #[.int .i64 S, .int .i64 G, .int .i64 K] 23)), x.w.cell? ⟨w.heap.size, 2, none⟩ = some (.int .i64 K) := fun x => ((Blk.new w 23 [.int .i64 S, .int .i64 G, .int .i64 K]).kept x.ok (by simp)).cell 2 _ rfl
  go_enter Try.func15, Try.ntmps15
  go_upto_region 1 with (fail)
  refine new_start fun x => ?_
  go_wp2_with (first | (go_at_call 24; refine (new_gb (more_yes _ _ _ _ 1 hk (by omega) (by omega))).mono ?_; rintro e w' ⟨rfl, x, rfl⟩) | go_in)
  go_ret
  exact ⟨rfl, new_end _⟩
set_option maxRecDepth 100000 in
set_option maxHeartbeats 1000000 in
theorem turn_no (w : World) (S G K : Int) (h : ¬ Ok S G K) :
    Calls Try.prog 15 #[mar S G K] w fun e w' => e = .returned (.int .i64 0) ∧ w.grownBy w' none := by
  have HN := Lib.hid h
  clear h
  have hc0 : ∀ x : New (w.alloc (.cells #[.int .i64 S, .int .i64 G, .int .i64 K] 23)), x.w.cell? ⟨w.heap.size, 0, none⟩ = some (.int .i64 S) := fun x => ((Blk.new w 23 [.int .i64 S, .int .i64 G, .int .i64 K]).kept x.ok (by simp)).cell 0 _ rfl
  have hc1 : ∀ x : New (w.alloc (.cells #[.int .i64 S, .int .i64 G, .int .i64 K] 23)), x.w.cell? ⟨w.heap.size, 1, none⟩ = some (.int .i64 G) := fun x => ((Blk.new w 23 [.int .i64 S, .int .i64 G, .int .i64 K]).kept x.ok (by simp)).cell 1 _ rfl
  have hc2 : ∀ x : New (w.alloc (.cells #[.int .i64 S, .int .i64 G, .int .i64 K] 23)), x.w.cell? ⟨w.heap.size, 2, none⟩ = some (.int .i64 K) := fun x => ((Blk.new w 23 [.int .i64 S, .int .i64 G, .int .i64 K]).kept x.ok (by simp)).cell 2 _ rfl
  go_enter Try.func15, Try.ntmps15
  go_upto_region 1 with (fail)
  refine new_start fun x => ?_
  go_wp2_with (first | (go_at_call 24; refine (new_gb (more_no _ _ _ _ 1 HN.out)).mono ?_; rintro e w' ⟨rfl, x, rfl⟩) | go_in)
  go_ret
  exact ⟨rfl, new_end _⟩
set_option maxRecDepth 100000 in
set_option maxHeartbeats 1000000 in
theorem early_yes (w : World) (S G K : Int) (h : Ok S G K) :
    Calls Try.prog 16 #[mar S G K] w fun e w' => e = .returned (.int .i64 (ap S G K + 1)) ∧ w.grownBy w' none := by
  have hk := h
  obtain ⟨b1, b2, b3, b4, b5, b6⟩ := h
  have b7 : 0 ≤ S / G := Int.ediv_nonneg (by omega) (by omega)
  have b8 : S / G ≤ S := Int.ediv_le_self _ (by omega)
  have hc0 : ∀ x : New (w.alloc (.cells #[.int .i64 S, .int .i64 G, .int .i64 K] 23)), x.w.cell? ⟨w.heap.size, 0, none⟩ = some (.int .i64 S) := fun x => ((Blk.new w 23 [.int .i64 S, .int .i64 G, .int .i64 K]).kept x.ok (by simp)).cell 0 _ rfl
  have hc1 : ∀ x : New (w.alloc (.cells #[.int .i64 S, .int .i64 G, .int .i64 K] 23)), x.w.cell? ⟨w.heap.size, 1, none⟩ = some (.int .i64 G) := fun x => ((Blk.new w 23 [.int .i64 S, .int .i64 G, .int .i64 K]).kept x.ok (by simp)).cell 1 _ rfl
  have hc2 : ∀ x : New (w.alloc (.cells #[.int .i64 S, .int .i64 G, .int .i64 K] 23)), x.w.cell? ⟨w.heap.size, 2, none⟩ = some (.int .i64 K) := fun x => ((Blk.new w 23 [.int .i64 S, .int .i64 G, .int .i64 K]).kept x.ok (by simp)).cell 2 _ rfl
  go_enter Try.func16, Try.ntmps16
  go_upto_region 1 with (fail)
  refine new_start fun x => ?_
  go_wp2_with (first | (go_at_call 24; refine (new_gb (more_yes _ _ _ _ 1 hk (by omega) (by omega))).mono ?_; rintro e w' ⟨rfl, x, rfl⟩) | go_in)
  go_ret
  exact ⟨rfl, new_end _⟩
set_option maxRecDepth 100000 in
set_option maxHeartbeats 1000000 in
theorem early_no (w : World) (S G K : Int) (h : ¬ Ok S G K) :
    Calls Try.prog 16 #[mar S G K] w fun e w' => e = .returned (.int .i64 0) ∧ w.grownBy w' none := by
  have HN := Lib.hid h
  clear h
  have hc0 : ∀ x : New (w.alloc (.cells #[.int .i64 S, .int .i64 G, .int .i64 K] 23)), x.w.cell? ⟨w.heap.size, 0, none⟩ = some (.int .i64 S) := fun x => ((Blk.new w 23 [.int .i64 S, .int .i64 G, .int .i64 K]).kept x.ok (by simp)).cell 0 _ rfl
  have hc1 : ∀ x : New (w.alloc (.cells #[.int .i64 S, .int .i64 G, .int .i64 K] 23)), x.w.cell? ⟨w.heap.size, 1, none⟩ = some (.int .i64 G) := fun x => ((Blk.new w 23 [.int .i64 S, .int .i64 G, .int .i64 K]).kept x.ok (by simp)).cell 1 _ rfl
  have hc2 : ∀ x : New (w.alloc (.cells #[.int .i64 S, .int .i64 G, .int .i64 K] 23)), x.w.cell? ⟨w.heap.size, 2, none⟩ = some (.int .i64 K) := fun x => ((Blk.new w 23 [.int .i64 S, .int .i64 G, .int .i64 K]).kept x.ok (by simp)).cell 2 _ rfl
  go_enter Try.func16, Try.ntmps16
  go_upto_region 1 with (fail)
  refine new_start fun x => ?_
  go_wp2_with (first | (go_at_call 24; refine (new_gb (more_no _ _ _ _ 1 HN.out)).mono ?_; rintro e w' ⟨rfl, x, rfl⟩) | go_in)
  go_ret
  exact ⟨rfl, new_end _⟩
set_option maxRecDepth 100000 in
set_option maxHeartbeats 1000000 in
theorem late_yes (w : World) (S G K : Int) (h : Ok S G K) :
    Calls Try.prog 17 #[mar S G K] w fun e w' => e = .returned (.int .i64 (ap S G K + (K + 1))) ∧ w.grownBy w' none := by
  have hk := h
  obtain ⟨b1, b2, b3, b4, b5, b6⟩ := h
  have b7 : 0 ≤ S / G := Int.ediv_nonneg (by omega) (by omega)
  have b8 : S / G ≤ S := Int.ediv_le_self _ (by omega)
  have hc0 : ∀ x : New (w.alloc (.cells #[.int .i64 S, .int .i64 G, .int .i64 K] 23)), x.w.cell? ⟨w.heap.size, 0, none⟩ = some (.int .i64 S) := fun x => ((Blk.new w 23 [.int .i64 S, .int .i64 G, .int .i64 K]).kept x.ok (by simp)).cell 0 _ rfl
  have hc1 : ∀ x : New (w.alloc (.cells #[.int .i64 S, .int .i64 G, .int .i64 K] 23)), x.w.cell? ⟨w.heap.size, 1, none⟩ = some (.int .i64 G) := fun x => ((Blk.new w 23 [.int .i64 S, .int .i64 G, .int .i64 K]).kept x.ok (by simp)).cell 1 _ rfl
  have hc2 : ∀ x : New (w.alloc (.cells #[.int .i64 S, .int .i64 G, .int .i64 K] 23)), x.w.cell? ⟨w.heap.size, 2, none⟩ = some (.int .i64 K) := fun x => ((Blk.new w 23 [.int .i64 S, .int .i64 G, .int .i64 K]).kept x.ok (by simp)).cell 2 _ rfl
  go_enter Try.func17, Try.ntmps17
  go_upto_region 1 with (fail)
  refine new_start fun x => ?_
  go_wp2_with (first | (go_at_call 24; refine (new_gb (more_yes _ _ _ _ _ hk (by omega) (by omega))).mono ?_; rintro e w' ⟨rfl, x, rfl⟩) | go_in)
  go_ret
  exact ⟨rfl, new_end _⟩
set_option maxRecDepth 100000 in
set_option maxHeartbeats 1000000 in
theorem late_no (w : World) (S G K : Int) (h : ¬ Ok S G K) :
    Calls Try.prog 17 #[mar S G K] w fun e w' => e = .returned (.int .i64 0) ∧ w.grownBy w' none := by
  have HN := Lib.hid h
  clear h
  have hc0 : ∀ x : New (w.alloc (.cells #[.int .i64 S, .int .i64 G, .int .i64 K] 23)), x.w.cell? ⟨w.heap.size, 0, none⟩ = some (.int .i64 S) := fun x => ((Blk.new w 23 [.int .i64 S, .int .i64 G, .int .i64 K]).kept x.ok (by simp)).cell 0 _ rfl
  have hc1 : ∀ x : New (w.alloc (.cells #[.int .i64 S, .int .i64 G, .int .i64 K] 23)), x.w.cell? ⟨w.heap.size, 1, none⟩ = some (.int .i64 G) := fun x => ((Blk.new w 23 [.int .i64 S, .int .i64 G, .int .i64 K]).kept x.ok (by simp)).cell 1 _ rfl
  have hc2 : ∀ x : New (w.alloc (.cells #[.int .i64 S, .int .i64 G, .int .i64 K] 23)), x.w.cell? ⟨w.heap.size, 2, none⟩ = some (.int .i64 K) := fun x => ((Blk.new w 23 [.int .i64 S, .int .i64 G, .int .i64 K]).kept x.ok (by simp)).cell 2 _ rfl
  go_enter Try.func17, Try.ntmps17
  go_upto_region 1 with (fail)
  refine new_start fun x => ?_
  go_wp2_with (first | (go_at_call 24; refine (new_gb (more_no _ _ _ _ _ HN.out)).mono ?_; rintro e w' ⟨rfl, x, rfl⟩) | go_in)
  go_ret
  exact ⟨rfl, new_end _⟩
end Mar
end Go.Proofs.Ytjbhnofnlfnljaa
