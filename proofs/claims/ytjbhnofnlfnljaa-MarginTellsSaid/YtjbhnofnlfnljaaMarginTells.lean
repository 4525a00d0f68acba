/- MarginTells: any margin has the document's numbers; any half fits, or not, as it says: the walk. -/
import Derived.Test.YtjbhnofnlfnljaaMarO
import Derived.ProofKit
import Derived.Lib.SmallJoins
namespace Go.Proofs.Ytjbhnofnlfnljaa
open Go.ChangeShapes Go.WideShapes Go.ChangeAt Go.RowKit Go.Joins
set_option linter.unusedVariables false
attribute [local go_sem] max2_i64 min2_i64 max_two' min_two'
namespace marginTellsW
open Mar
theorem fits_least {S G K : Int} (h : Ok S G K) : fits S G K (least S G K) = true := by
  have hap := ap_range h
  obtain ⟨b1, b2, b3, b4, b5, b6⟩ := h
  unfold fits fitsV least
  rw [decide_eq_true_eq]
  split <;> omega
theorem fits_less {S G K : Int} (h : Ok S G K) : fits S G K (least S G K - 1) = false := by
  have hap := ap_range h
  obtain ⟨b1, b2, b3, b4, b5, b6⟩ := h
  unfold fits fitsV least
  rw [decide_eq_false_iff_not]
  split <;> omega
set_option maxRecDepth 100000 in
set_option maxHeartbeats 1000000 in
theorem walk_no (w : World) (S G K : Int) (half : Int) (h : ¬ Ok S G K) :
    Calls Try.prog 5 #[mar S G K, .int .i64 half] w fun e w' => e = .returned (.bool true) ∧ w.grownBy w' none := by
  have HN := Lib.hid h
  clear h
  have hc0 : ∀ x : New (w.alloc (.cells #[.int .i64 S, .int .i64 G, .int .i64 K] 23)), x.w.cell? ⟨w.heap.size, 0, none⟩ = some (.int .i64 S) := fun x => ((Blk.new w 23 [.int .i64 S, .int .i64 G, .int .i64 K]).kept x.ok (by simp)).cell 0 _ rfl
  have hc1 : ∀ x : New (w.alloc (.cells #[.int .i64 S, .int .i64 G, .int .i64 K] 23)), x.w.cell? ⟨w.heap.size, 1, none⟩ = some (.int .i64 G) := fun x => ((Blk.new w 23 [.int .i64 S, .int .i64 G, .int .i64 K]).kept x.ok (by simp)).cell 1 _ rfl
  have hc2 : ∀ x : New (w.alloc (.cells #[.int .i64 S, .int .i64 G, .int .i64 K] 23)), x.w.cell? ⟨w.heap.size, 2, none⟩ = some (.int .i64 K) := fun x => ((Blk.new w 23 [.int .i64 S, .int .i64 G, .int .i64 K]).kept x.ok (by simp)).cell 2 _ rfl
  go_enter Try.func5, Try.ntmps5
  go_upto_region 1 with (fail)
  refine new_start fun x => ?_
  go_wp2_with (first | (go_at_call 13; refine (new_gb (rt_no _ _ _ _ HN.out)).mono ?_; rintro e w' ⟨rfl, x, rfl⟩) | go_in)
  haveI hnw := new_ne (w.alloc (.cells #[.int .i64 S, .int .i64 G, .int .i64 K] 23))
  refine wp_region_later (by kernel_rfl) (by kernel_rfl) ?_
  repeat (go_big_quiet_step ((first | (go_at_call 6; exact new_gb (right_no _ _ _ _ HN.out)) | (go_at_call 14; exact new_gb (slips_no _ _ _ _ HN.out)) | (go_at_call 8; exact new_gb (apart_no _ _ _ _ HN.out)) | (go_at_call 15; exact new_gb (turn_no _ _ _ _ HN.out)) | (go_at_call 16; exact new_gb (early_no _ _ _ _ HN.out)) | (go_at_call 17; exact new_gb (late_no _ _ _ _ HN.out)) | (go_at_call 9; exact new_gb (least_no _ _ _ _ HN.out)) | (go_at_call 18; exact new_gb (spare_no _ _ _ _ _ HN.out)) | (go_at_call 12; exact new_gb (longest_no _ _ _ _ _ HN.out)) | (go_at_call 10; exact new_gb (fits_no _ _ _ _ _ HN.out)) | (go_at_call 7; exact new_gb (one_any _)))))
  refine wpQuiet_nil ?_
  intro _ hw'
  obtain ⟨x, hw''⟩ := hw'
  subst hw''
  clear hnw
  go_wp2_with fail
  go_ret
  exact ⟨rfl, new_end _⟩
set_option maxRecDepth 100000 in
set_option maxHeartbeats 1000000 in
theorem walk_big (w : World) (S G K : Int) (half : Int) (h : Ok S G K) (g : 2000 < S / G) :
    Calls Try.prog 5 #[mar S G K, .int .i64 half] w fun e w' => e = .returned (.bool true) ∧ w.grownBy w' none := by
  have hk := h
  obtain ⟨b1, b2, b3, b4, b5, b6⟩ := h
  have b7 : 0 ≤ S / G := Int.ediv_nonneg (by omega) (by omega)
  have b8 : S / G ≤ S := Int.ediv_le_self _ (by omega)
  have dg : decide (2000 < S / G) = true := by simpa using g
  have hc0 : ∀ x : New (w.alloc (.cells #[.int .i64 S, .int .i64 G, .int .i64 K] 23)), x.w.cell? ⟨w.heap.size, 0, none⟩ = some (.int .i64 S) := fun x => ((Blk.new w 23 [.int .i64 S, .int .i64 G, .int .i64 K]).kept x.ok (by simp)).cell 0 _ rfl
  have hc1 : ∀ x : New (w.alloc (.cells #[.int .i64 S, .int .i64 G, .int .i64 K] 23)), x.w.cell? ⟨w.heap.size, 1, none⟩ = some (.int .i64 G) := fun x => ((Blk.new w 23 [.int .i64 S, .int .i64 G, .int .i64 K]).kept x.ok (by simp)).cell 1 _ rfl
  have hc2 : ∀ x : New (w.alloc (.cells #[.int .i64 S, .int .i64 G, .int .i64 K] 23)), x.w.cell? ⟨w.heap.size, 2, none⟩ = some (.int .i64 K) := fun x => ((Blk.new w 23 [.int .i64 S, .int .i64 G, .int .i64 K]).kept x.ok (by simp)).cell 2 _ rfl
  go_enter Try.func5, Try.ntmps5
  go_upto_region 1 with (fail)
  refine new_start fun x => ?_
  go_wp2_with (first | (go_at_call 13; refine (new_gb (rt_yes _ _ _ _ hk)).mono ?_; rintro e w' ⟨rfl, x, rfl⟩) | go_in)
  go_ret
  exact ⟨rfl, new_end _⟩
set_option maxRecDepth 100000 in
set_option maxHeartbeats 1000000 in
theorem walk_yes (w : World) (S G K : Int) (n1 : Int) (h : Ok S G K) (g : S / G ≤ 2000) :
    Calls Try.prog 5 #[mar S G K, .int .i64 n1] w fun e w' => e = .returned (.bool true) ∧ w.grownBy w' none := by
  have hk := h
  obtain ⟨b1, b2, b3, b4, b5, b6⟩ := h
  have b7 : 0 ≤ S / G := Int.ediv_nonneg (by omega) (by omega)
  have b8 : S / G ≤ S := Int.ediv_le_self _ (by omega)
  have dg : decide (2000 < S / G) = false := by simp; omega
  obtain ⟨half, hhalf, HHF, z0, z1⟩ := masked 16 (by omega) n1 65535 (by decide)
  clear HHF
  obtain ⟨l1, l2⟩ := least_range hk
  obtain ⟨a1, a2⟩ := ap_range hk
  have e0 : K + 2 * (S / G + 1) = ap S G K := rfl
  have e1 : fitsV (ap S G K + 1) (ap S G K + K + 1) half = fits S G K half := by unfold fits; rw [show ap S G K + K + 1 = ap S G K + (K + 1) by omega]
  have e2 : fitsV (ap S G K + 1) (ap S G K + K + 1) (least S G K) = true := by rw [show ap S G K + K + 1 = ap S G K + (K + 1) by omega]; exact fits_least hk
  have e3 : fitsV (ap S G K + 1) (ap S G K + K + 1) (least S G K - 1) = false := by rw [show ap S G K + K + 1 = ap S G K + (K + 1) by omega]; exact fits_less hk
  have e4 : decide (1 < least S G K) = true := by simp; omega
  have hc0 : ∀ x : New (w.alloc (.cells #[.int .i64 S, .int .i64 G, .int .i64 K] 23)), x.w.cell? ⟨w.heap.size, 0, none⟩ = some (.int .i64 S) := fun x => ((Blk.new w 23 [.int .i64 S, .int .i64 G, .int .i64 K]).kept x.ok (by simp)).cell 0 _ rfl
  have hc1 : ∀ x : New (w.alloc (.cells #[.int .i64 S, .int .i64 G, .int .i64 K] 23)), x.w.cell? ⟨w.heap.size, 1, none⟩ = some (.int .i64 G) := fun x => ((Blk.new w 23 [.int .i64 S, .int .i64 G, .int .i64 K]).kept x.ok (by simp)).cell 1 _ rfl
  have hc2 : ∀ x : New (w.alloc (.cells #[.int .i64 S, .int .i64 G, .int .i64 K] 23)), x.w.cell? ⟨w.heap.size, 2, none⟩ = some (.int .i64 K) := fun x => ((Blk.new w 23 [.int .i64 S, .int .i64 G, .int .i64 K]).kept x.ok (by simp)).cell 2 _ rfl
  go_enter Try.func5, Try.ntmps5
  go_upto_region 1 with (fail)
  refine new_start fun x => ?_
  go_wp2_with (first | (go_at_call 13; refine (new_gb (rt_yes _ _ _ _ hk)).mono ?_; rintro e w' ⟨rfl, x, rfl⟩) | (go_at_call 19; refine (rslips_any _ S G K hk).mono ?_; rintro e w' ⟨rfl, rfl⟩) | go_in)
  haveI hnw := new_ne (w.alloc (.cells #[.int .i64 S, .int .i64 G, .int .i64 K] 23))
  refine wp_region_later (by kernel_rfl) (by kernel_rfl) ?_
  repeat (go_big_quiet_step ((first | (go_at_call 6; exact new_gb (right_yes _ _ _ _ hk)) | (go_at_call 14; exact new_gb (slips_yes _ _ _ _ hk)) | (go_at_call 8; exact new_gb (apart_yes _ _ _ _ hk)) | (go_at_call 15; exact new_gb (turn_yes _ _ _ _ hk)) | (go_at_call 16; exact new_gb (early_yes _ _ _ _ hk)) | (go_at_call 17; exact new_gb (late_yes _ _ _ _ hk)))))
  refine wpQuiet_nil ?_
  intro _ hw'
  obtain ⟨x, hw''⟩ := hw'
  subst hw''
  clear hnw
  go_wp2_with (first | (go_at_call 9; refine (new_gb (least_yes _ _ _ _ hk)).mono ?_; rintro e w' ⟨rfl, x, rfl⟩) | go_in)
  haveI hnw := new_ne (w.alloc (.cells #[.int .i64 S, .int .i64 G, .int .i64 K] 23))
  refine wp_region_later (by kernel_rfl) (by kernel_rfl) ?_
  repeat (go_big_quiet_step ((first | (go_at_call 10; exact new_gb (fits_yes _ _ _ _ _ hk (by omega))) | (go_at_call 20; exact new_gb (rfits_any _ _ _ _ (by omega) (by omega))))))
  refine wpQuiet_nil ?_
  intro _ hw'
  obtain ⟨x, hw''⟩ := hw'
  subst hw''
  clear hnw
  by_cases hp : 0 < half
  · have dp : decide (0 < half) = true := by simpa using hp
    go_wp2_with fail
    refine (new_gb (spare_yes _ _ _ _ _ hk (by omega) (by omega))).mono ?_
    rintro e w' ⟨rfl, x, rfl⟩
    go_wp2_with fail
    refine (new_gb (one_any _)).mono ?_
    rintro e w' ⟨rfl, x, rfl⟩
    go_wp2_with fail
    go_ret
    exact ⟨rfl, new_end _⟩
  · have dp : decide (0 < half) = false := by simpa using hp
    go_wp2_with fail
    refine (new_gb (spare_out _ _ _ _ _ hk (by omega))).mono ?_
    rintro e w' ⟨rfl, x, rfl⟩
    go_wp2_with fail
    refine (new_gb (one_any _)).mono ?_
    rintro e w' ⟨rfl, x, rfl⟩
    go_wp2_with fail
    go_ret
    exact ⟨rfl, new_end _⟩
theorem walk_any (w : World) (S G K n1 : Int) : Calls Try.prog 5 #[mar S G K, .int .i64 n1] w fun e w' => e = .returned (.bool true) ∧ w.grownBy w' none := by
  by_cases h : Ok S G K
  · by_cases g : S / G ≤ 2000
    · exact walk_yes w S G K n1 h g
    · exact walk_big w S G K n1 h (by omega)
  · exact walk_no w S G K n1 h
theorem walk {H : Type} {enc : TypeId × Value → H} (base : Nat) (W : World) (v0 : Value) (d0 : DataW H) (p0 : List MemPlace) (v1 : Value) (d1 : DataW H) (p1 : List MemPlace)
    (o0 : Value.okWide Try.prog W .any base 23 v0) (o1 : Value.okWide Try.prog W .any base 3 v1)
    (h0 : DataW.Trod enc Try.prog W 0 (fun _ => true) true 23 v0 d0 p0) (h1 : DataW.Trod enc Try.prog W 0 (fun _ => true) true 3 v1 d1 p1) :
    Calls Try.prog 5 #[v0, v1] W fun e w' => e = .returned (.bool true) ∧ Below W.heap.size W w' := by
  obtain ⟨c0, c1, c2, y0, y1, y2, m, rfl, rfl, rfl, hy0, hy1, hy2⟩ := open_agg3 Try.underlying23 (by kernel_rfl) (by kernel_rfl) o0 h0
  obtain ⟨S, e0, rfl, ws⟩ := DataW.trod_int Try.underlying3 hy0
  obtain ⟨G, e1, rfl, wg⟩ := DataW.trod_int Try.underlying3 hy1
  obtain ⟨K, e2, rfl, wk⟩ := DataW.trod_int Try.underlying3 hy2
  simp at e0 e1 e2
  subst e0 e1 e2
  obtain ⟨n1, rfl, rfl, rfl, wn1⟩ := open_int Try.underlying3 o1 h1
  exact (walk_any W S G K n1).mono fun e w' ⟨he, hg⟩ => ⟨he, gb_below hg (Nat.le_refl _) (by simp)⟩
end marginTellsW
end Go.Proofs.Ytjbhnofnlfnljaa
