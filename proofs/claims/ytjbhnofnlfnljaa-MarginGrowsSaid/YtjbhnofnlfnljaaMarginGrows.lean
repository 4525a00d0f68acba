/- MarginGrows: more span, less gap, or more skew never make clocks nearer, nor the least half less: the walk. -/
import Derived.Test.YtjbhnofnlfnljaaMarO
import Derived.ProofKit
import Derived.Lib.SmallJoins
namespace Go.Proofs.Ytjbhnofnlfnljaa
open Go.ChangeShapes Go.WideShapes Go.ChangeAt Go.RowKit Go.Joins
set_option linter.unusedVariables false
attribute [local go_sem] max2_i64 min2_i64 max_two' min_two'
namespace marginGrowsW
open Mar
theorem ap_gap {S G G' K : Int} (hS : 1 ≤ S) (hG : 1 ≤ G') (h : G' ≤ G) : ap S G K ≤ ap S G' K := by
  unfold ap
  have h1 : S / G * G ≤ S := Int.ediv_mul_le _ (by omega)
  have h0 : 0 ≤ S / G := Int.ediv_nonneg (by omega) (by omega)
  have h2 : S / G * G' ≤ S / G * G := Int.mul_le_mul_of_nonneg_left h h0
  have : S / G ≤ S / G' := (mul_le hG).1 (by omega)
  omega
theorem ap_skew (S G K b : Int) (h : 0 ≤ b) : ap S G K ≤ ap S G (K + b) := by unfold ap; omega
theorem least_ap {S S' G G' K : Int} (h : ap S G K ≤ ap S' G' K) : least S G K ≤ least S' G' K := by unfold least; omega
theorem least_skew (S G K b : Int) (hK : 0 ≤ K) (h : 0 ≤ b) : least S G K ≤ least S G (K + b) := by
  unfold least ap
  split <;> split <;> omega
theorem fits_two {S G K half : Int} (h : fits S G K half = true) : fits S G K (half + 2) = true := by
  unfold fits fitsV at *
  rw [decide_eq_true_eq] at *
  omega
set_option maxRecDepth 100000 in
set_option maxHeartbeats 1000000 in
theorem walk_no (w : World) (S G K : Int) (n1 n2 : Int) (h : ¬ Ok S G K) :
    Calls Try.prog 3 #[mar S G K, .int .i64 n1, .int .i64 n2] w fun e w' => e = .returned (.bool true) ∧ w.grownBy w' none := by
  have HN := Lib.hid h
  clear h
  have hc0 : ∀ x : New (w.alloc (.cells #[.int .i64 S, .int .i64 G, .int .i64 K] 23)), x.w.cell? ⟨w.heap.size, 0, none⟩ = some (.int .i64 S) := fun x => ((Blk.new w 23 [.int .i64 S, .int .i64 G, .int .i64 K]).kept x.ok (by simp)).cell 0 _ rfl
  have hc1 : ∀ x : New (w.alloc (.cells #[.int .i64 S, .int .i64 G, .int .i64 K] 23)), x.w.cell? ⟨w.heap.size, 1, none⟩ = some (.int .i64 G) := fun x => ((Blk.new w 23 [.int .i64 S, .int .i64 G, .int .i64 K]).kept x.ok (by simp)).cell 1 _ rfl
  have hc2 : ∀ x : New (w.alloc (.cells #[.int .i64 S, .int .i64 G, .int .i64 K] 23)), x.w.cell? ⟨w.heap.size, 2, none⟩ = some (.int .i64 K) := fun x => ((Blk.new w 23 [.int .i64 S, .int .i64 G, .int .i64 K]).kept x.ok (by simp)).cell 2 _ rfl
  go_enter Try.func3, Try.ntmps3
  go_upto_region 1 with (fail)
  refine new_start fun x => ?_
  go_wp2_with (first | (go_at_call 6; refine (new_gb (right_no _ _ _ _ HN.out)).mono ?_; rintro e w' ⟨rfl, x, rfl⟩) | (go_at_call 7; refine (new_gb (one_any _)).mono ?_; rintro e w' ⟨rfl, x, rfl⟩) | go_in)
  go_ret
  exact ⟨rfl, new_end _⟩
set_option maxRecDepth 100000 in
set_option maxHeartbeats 1000000 in
theorem walk_span (w : World) (S G K : Int) (n1 n2 : Int) (h : Ok S G K) (g : 536870912 < S) :
    Calls Try.prog 3 #[mar S G K, .int .i64 n1, .int .i64 n2] w fun e w' => e = .returned (.bool true) ∧ w.grownBy w' none := by
  have hk := h
  obtain ⟨b1, b2, b3, b4, b5, b6⟩ := h
  have dg : decide (536870912 < S) = true := by simpa using g
  have hc0 : ∀ x : New (w.alloc (.cells #[.int .i64 S, .int .i64 G, .int .i64 K] 23)), x.w.cell? ⟨w.heap.size, 0, none⟩ = some (.int .i64 S) := fun x => ((Blk.new w 23 [.int .i64 S, .int .i64 G, .int .i64 K]).kept x.ok (by simp)).cell 0 _ rfl
  have hc1 : ∀ x : New (w.alloc (.cells #[.int .i64 S, .int .i64 G, .int .i64 K] 23)), x.w.cell? ⟨w.heap.size, 1, none⟩ = some (.int .i64 G) := fun x => ((Blk.new w 23 [.int .i64 S, .int .i64 G, .int .i64 K]).kept x.ok (by simp)).cell 1 _ rfl
  have hc2 : ∀ x : New (w.alloc (.cells #[.int .i64 S, .int .i64 G, .int .i64 K] 23)), x.w.cell? ⟨w.heap.size, 2, none⟩ = some (.int .i64 K) := fun x => ((Blk.new w 23 [.int .i64 S, .int .i64 G, .int .i64 K]).kept x.ok (by simp)).cell 2 _ rfl
  go_enter Try.func3, Try.ntmps3
  go_upto_region 1 with (fail)
  refine new_start fun x => ?_
  go_wp2_with (first | (go_at_call 6; refine (new_gb (right_yes _ _ _ _ hk)).mono ?_; rintro e w' ⟨rfl, x, rfl⟩) | (go_at_call 7; refine (new_gb (one_any _)).mono ?_; rintro e w' ⟨rfl, x, rfl⟩) | go_in)
  go_ret
  exact ⟨rfl, new_end _⟩
set_option maxRecDepth 100000 in
set_option maxHeartbeats 1000000 in
theorem walk_skew (w : World) (S G K : Int) (n1 n2 : Int) (h : Ok S G K) (g : S ≤ 536870912) (g' : 524288 < K) :
    Calls Try.prog 3 #[mar S G K, .int .i64 n1, .int .i64 n2] w fun e w' => e = .returned (.bool true) ∧ w.grownBy w' none := by
  have hk := h
  obtain ⟨b1, b2, b3, b4, b5, b6⟩ := h
  have dg : decide (536870912 < S) = false := by simp; omega
  have dg' : decide (524288 < K) = true := by simpa using g'
  have hc0 : ∀ x : New (w.alloc (.cells #[.int .i64 S, .int .i64 G, .int .i64 K] 23)), x.w.cell? ⟨w.heap.size, 0, none⟩ = some (.int .i64 S) := fun x => ((Blk.new w 23 [.int .i64 S, .int .i64 G, .int .i64 K]).kept x.ok (by simp)).cell 0 _ rfl
  have hc1 : ∀ x : New (w.alloc (.cells #[.int .i64 S, .int .i64 G, .int .i64 K] 23)), x.w.cell? ⟨w.heap.size, 1, none⟩ = some (.int .i64 G) := fun x => ((Blk.new w 23 [.int .i64 S, .int .i64 G, .int .i64 K]).kept x.ok (by simp)).cell 1 _ rfl
  have hc2 : ∀ x : New (w.alloc (.cells #[.int .i64 S, .int .i64 G, .int .i64 K] 23)), x.w.cell? ⟨w.heap.size, 2, none⟩ = some (.int .i64 K) := fun x => ((Blk.new w 23 [.int .i64 S, .int .i64 G, .int .i64 K]).kept x.ok (by simp)).cell 2 _ rfl
  go_enter Try.func3, Try.ntmps3
  go_upto_region 1 with (fail)
  refine new_start fun x => ?_
  go_wp2_with (first | (go_at_call 6; refine (new_gb (right_yes _ _ _ _ hk)).mono ?_; rintro e w' ⟨rfl, x, rfl⟩) | (go_at_call 7; refine (new_gb (one_any _)).mono ?_; rintro e w' ⟨rfl, x, rfl⟩) | go_in)
  go_ret
  exact ⟨rfl, new_end _⟩
set_option maxRecDepth 100000 in
set_option maxHeartbeats 1000000 in
theorem walk_yes (w : World) (S G K : Int) (n1 n2 : Int) (h : Ok S G K) (g : S ≤ 536870912) (g' : K ≤ 524288) :
    Calls Try.prog 3 #[mar S G K, .int .i64 n1, .int .i64 n2] w fun e w' => e = .returned (.bool true) ∧ w.grownBy w' none := by
  have hk := h
  obtain ⟨b1, b2, b3, b4, b5, b6⟩ := h
  have dg : decide (536870912 < S) = false := by simp; omega
  have dg' : decide (524288 < K) = false := by simp; omega
  obtain ⟨by_, hby, HBY, y0, y1⟩ := masked 16 (by omega) n1 65535 (by decide)
  obtain ⟨half, hhalf, HHF, z0, z1⟩ := masked 20 (by omega) n2 1048575 (by decide)
  clear HBY HHF
  obtain ⟨G', hG'⟩ : ∃ G', max 1 (G - by_) = G' := ⟨_, rfl⟩
  have q0 : 1 ≤ G' := by omega
  have q1 : G' ≤ G := by omega
  have hka : Ok (S + by_) G K := ⟨by omega, by omega, b3, b4, b5, b6⟩
  have hkb : Ok S G' K := ⟨b1, b2, q0, by omega, b5, b6⟩
  have hkc : Ok S G (K + by_) := ⟨b1, b2, b3, b4, by omega, by omega⟩
  have m1 := ap_mono (K := K) b3 (show S ≤ S + by_ by omega)
  have m2 := ap_gap (K := K) b1 q0 q1
  have m3 := ap_skew S G K by_ y0
  have m4 := least_ap m1
  have m5 := least_ap m2
  have m6 := least_skew S G K by_ b5 y0
  have e1 : decide (ap (S + by_) G K < ap S G K) = false := by simp; omega
  have e2 : decide (ap S G' K < ap S G K) = false := by simp; omega
  have e3 : decide (ap S G (K + by_) < ap S G K) = false := by simp; omega
  have e4 : decide (least (S + by_) G K < least S G K) = false := by simp; omega
  have e5 : decide (least S G' K < least S G K) = false := by simp; omega
  have e6 : decide (least S G (K + by_) < least S G K) = false := by simp; omega
  obtain ⟨bf, hbf⟩ : ∃ bf, fits S G K half = bf := ⟨_, rfl⟩
  have HBF := Lib.hid hbf
  have HF2 : Hid (bf = true → fits S G K (half + 2) = true) := fun h => fits_two (hbf.trans h)
  have w1 : (2 * max (max 0 (min by_ 1073741824)) (max 0 (min half 1073741824)) + 400) = 2 * max by_ half + 400 := by omega
  have w2 : (2 * max (max 0 (min (-by_ - 1) 1073741824)) (max 0 (min 0 1073741824)) + 400) = 400 := by omega
  have HW1 := Lib.hid w1
  have HW2 := Lib.hid w2
  clear hbf w1 w2 m1 m2 m3 m4 m5 m6
  have hc0 : ∀ x : New (w.alloc (.cells #[.int .i64 S, .int .i64 G, .int .i64 K] 23)), x.w.cell? ⟨w.heap.size, 0, none⟩ = some (.int .i64 S) := fun x => ((Blk.new w 23 [.int .i64 S, .int .i64 G, .int .i64 K]).kept x.ok (by simp)).cell 0 _ rfl
  have hc1 : ∀ x : New (w.alloc (.cells #[.int .i64 S, .int .i64 G, .int .i64 K] 23)), x.w.cell? ⟨w.heap.size, 1, none⟩ = some (.int .i64 G) := fun x => ((Blk.new w 23 [.int .i64 S, .int .i64 G, .int .i64 K]).kept x.ok (by simp)).cell 1 _ rfl
  have hc2 : ∀ x : New (w.alloc (.cells #[.int .i64 S, .int .i64 G, .int .i64 K] 23)), x.w.cell? ⟨w.heap.size, 2, none⟩ = some (.int .i64 K) := fun x => ((Blk.new w 23 [.int .i64 S, .int .i64 G, .int .i64 K]).kept x.ok (by simp)).cell 2 _ rfl
  go_enter Try.func3, Try.ntmps3
  go_upto_region 1 with (fail)
  refine new_start fun x => ?_
  go_wp2_with fail
  refine (new_gb (right_yes _ _ _ _ hk)).mono ?_
  rintro e w' ⟨rfl, x, rfl⟩
  have hlx : w.heap.size < x.w.heap.size := by have := x.ok.size; simp at this; omega
  go_upto_region 7 with (fail)
  refine forget_world (fun w' => Blk w' w.heap.size 23 [.int .i64 S, .int .i64 G, .int .i64 K] ∧ Blk w' x.w.heap.size 23 [.int .i64 (S + by_), .int .i64 G, .int .i64 K] ∧ Blk w' (x.w.heap.size + 1) 23 [.int .i64 S, .int .i64 G', .int .i64 K] ∧ Blk w' (x.w.heap.size + 1 + 1) 23 [.int .i64 S, .int .i64 G, .int .i64 (K + by_)] ∧ w.grownBy w' none) ⟨?_, ?_, ?_, ?_, ?_⟩ ?_
  · exact (((((Blk.new w 23 [.int .i64 S, .int .i64 G, .int .i64 K]).kept x.ok (by simp)).alloc _).alloc _).alloc _)
  · exact ((Blk.new x.w 23 [.int .i64 (S + by_), .int .i64 G, .int .i64 K]).alloc _).alloc _
  · have := Blk.new (x.w.alloc (.cells #[.int .i64 (S + by_), .int .i64 G, .int .i64 K] 23)) 23 [.int .i64 S, .int .i64 G', .int .i64 K]
    simp only [World.size_alloc] at this
    exact this.alloc _
  · have := Blk.new ((x.w.alloc (.cells #[.int .i64 (S + by_), .int .i64 G, .int .i64 K] 23)).alloc (.cells #[.int .i64 S, .int .i64 G', .int .i64 K] 23)) 23 [.int .i64 S, .int .i64 G, .int .i64 (K + by_)]
    simp only [World.size_alloc] at this
    exact this
  · exact gb_alloc (gb_alloc (gb_alloc (new_end x) _) _) _
  rintro w3 ⟨hm, ha, hb, hc, hg3⟩
  clear hc0 hc1 hc2
  have hm0 : ∀ y : New w3, y.w.cell? ⟨w.heap.size, 0, none⟩ = some (.int .i64 S) := fun y => (hm.kept y.ok (by simp)).cell 0 _ rfl
  have hm1 : ∀ y : New w3, y.w.cell? ⟨w.heap.size, 1, none⟩ = some (.int .i64 G) := fun y => (hm.kept y.ok (by simp)).cell 1 _ rfl
  have hm2 : ∀ y : New w3, y.w.cell? ⟨w.heap.size, 2, none⟩ = some (.int .i64 K) := fun y => (hm.kept y.ok (by simp)).cell 2 _ rfl
  have ha0 : ∀ y : New w3, y.w.cell? ⟨x.w.heap.size, 0, none⟩ = some (.int .i64 (S + by_)) := fun y => (ha.kept y.ok (by simp)).cell 0 _ rfl
  have ha1 : ∀ y : New w3, y.w.cell? ⟨x.w.heap.size, 1, none⟩ = some (.int .i64 G) := fun y => (ha.kept y.ok (by simp)).cell 1 _ rfl
  have ha2 : ∀ y : New w3, y.w.cell? ⟨x.w.heap.size, 2, none⟩ = some (.int .i64 K) := fun y => (ha.kept y.ok (by simp)).cell 2 _ rfl
  have hb0 : ∀ y : New w3, y.w.cell? ⟨(x.w.heap.size + 1), 0, none⟩ = some (.int .i64 S) := fun y => (hb.kept y.ok (by simp)).cell 0 _ rfl
  have hb1 : ∀ y : New w3, y.w.cell? ⟨(x.w.heap.size + 1), 1, none⟩ = some (.int .i64 G') := fun y => (hb.kept y.ok (by simp)).cell 1 _ rfl
  have hb2 : ∀ y : New w3, y.w.cell? ⟨(x.w.heap.size + 1), 2, none⟩ = some (.int .i64 K) := fun y => (hb.kept y.ok (by simp)).cell 2 _ rfl
  have hc0 : ∀ y : New w3, y.w.cell? ⟨(x.w.heap.size + 1 + 1), 0, none⟩ = some (.int .i64 S) := fun y => (hc.kept y.ok (by simp)).cell 0 _ rfl
  have hc1 : ∀ y : New w3, y.w.cell? ⟨(x.w.heap.size + 1 + 1), 1, none⟩ = some (.int .i64 G) := fun y => (hc.kept y.ok (by simp)).cell 1 _ rfl
  have hc2 : ∀ y : New w3, y.w.cell? ⟨(x.w.heap.size + 1 + 1), 2, none⟩ = some (.int .i64 (K + by_)) := fun y => (hc.kept y.ok (by simp)).cell 2 _ rfl
  refine new_start fun y => ?_
  haveI hnw := new_ne w3
  refine wp_region_later (by kernel_rfl) (by kernel_rfl) ?_
  repeat (go_big_quiet_step ((first | (go_at_call 8; exact new_gb (apart_yes _ _ _ _ (by assumption))) | (go_at_call 9; exact new_gb (least_yes _ _ _ _ (by assumption))))))
  refine wpQuiet_nil ?_
  intro _ hw'
  obtain ⟨y, hw''⟩ := hw'
  subst hw''
  clear hnw
  go_wp2_with fail
  refine (new_gb (fits_yes _ _ _ _ _ hk (by omega))).mono ?_
  rw [HBF.out]
  rintro e w' ⟨rfl, y, rfl⟩
  have fin : ∀ y : New w3, w.grownBy y.w none := fun y => gb_trans hg3 y.ok
  cases bf
  · go_wp2_with fail
    refine (new_gb (wait_any _ _ _)).mono ?_
    rw [HW1.out]
    rintro e w' ⟨rfl, y, rfl⟩
    go_wp2_with fail
    refine (new_gb (wait_any _ _ _)).mono ?_
    rw [HW2.out]
    rintro e w' ⟨rfl, y, rfl⟩
    go_wp2_with fail
    refine (new_gb (one_any _)).mono ?_
    rintro e w' ⟨rfl, y, rfl⟩
    go_wp2_with fail
    go_ret
    exact ⟨rfl, fin _⟩
  · go_wp2_with fail
    refine (new_gb (fits_yes _ _ _ _ _ hk (by omega))).mono ?_
    rw [HF2.out (by simp)]
    rintro e w' ⟨rfl, y, rfl⟩
    go_wp2_with fail
    refine (new_gb (wait_any _ _ _)).mono ?_
    rw [HW1.out]
    rintro e w' ⟨rfl, y, rfl⟩
    go_wp2_with fail
    refine (new_gb (wait_any _ _ _)).mono ?_
    rw [HW2.out]
    rintro e w' ⟨rfl, y, rfl⟩
    go_wp2_with fail
    refine (new_gb (one_any _)).mono ?_
    rintro e w' ⟨rfl, y, rfl⟩
    go_wp2_with fail
    go_ret
    exact ⟨rfl, fin _⟩
theorem walk_any (w : World) (S G K n1 n2 : Int) : Calls Try.prog 3 #[mar S G K, .int .i64 n1, .int .i64 n2] w fun e w' => e = .returned (.bool true) ∧ w.grownBy w' none := by
  by_cases h : Ok S G K
  · by_cases g : S ≤ 536870912
    · by_cases g' : K ≤ 524288
      · exact walk_yes w S G K n1 n2 h g g'
      · exact walk_skew w S G K n1 n2 h g (by omega)
    · exact walk_span w S G K n1 n2 h (by omega)
  · exact walk_no w S G K n1 n2 h
theorem walk {H : Type} {enc : TypeId × Value → H} (base : Nat) (W : World) (v0 : Value) (d0 : DataW H) (p0 : List MemPlace) (v1 : Value) (d1 : DataW H) (p1 : List MemPlace) (v2 : Value) (d2 : DataW H) (p2 : List MemPlace)
    (o0 : Value.okWide Try.prog W .any base 23 v0) (o1 : Value.okWide Try.prog W .any base 3 v1) (o2 : Value.okWide Try.prog W .any base 3 v2)
    (h0 : DataW.Trod enc Try.prog W 0 (fun _ => true) true 23 v0 d0 p0) (h1 : DataW.Trod enc Try.prog W 0 (fun _ => true) true 3 v1 d1 p1) (h2 : DataW.Trod enc Try.prog W 0 (fun _ => true) true 3 v2 d2 p2) :
    Calls Try.prog 3 #[v0, v1, v2] W fun e w' => e = .returned (.bool true) ∧ Below W.heap.size W w' := by
  obtain ⟨c0, c1, c2, y0, y1, y2, m, rfl, rfl, rfl, hy0, hy1, hy2⟩ := open_agg3 Try.underlying23 (by kernel_rfl) (by kernel_rfl) o0 h0
  obtain ⟨S, e0, rfl, ws⟩ := DataW.trod_int Try.underlying3 hy0
  obtain ⟨G, e1, rfl, wg⟩ := DataW.trod_int Try.underlying3 hy1
  obtain ⟨K, e2, rfl, wk⟩ := DataW.trod_int Try.underlying3 hy2
  simp at e0 e1 e2
  subst e0 e1 e2
  obtain ⟨n1, rfl, rfl, rfl, wn1⟩ := open_int Try.underlying3 o1 h1
  obtain ⟨n2, rfl, rfl, rfl, wn2⟩ := open_int Try.underlying3 o2 h2
  exact (walk_any W S G K n1 n2).mono fun e w' ⟨he, hg⟩ => ⟨he, gb_below hg (Nat.le_refl _) (by simp)⟩
end marginGrowsW
end Go.Proofs.Ytjbhnofnlfnljaa
