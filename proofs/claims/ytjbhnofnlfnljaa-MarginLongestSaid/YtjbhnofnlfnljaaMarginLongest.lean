/- MarginLongest: with the longest span a half fits, with one tick more it does not: the walk. -/
import Derived.Test.YtjbhnofnlfnljaaMarO
import Derived.ProofKit
import Derived.Lib.SmallJoins
namespace Go.Proofs.Ytjbhnofnlfnljaa
open Go.ChangeShapes Go.WideShapes Go.ChangeAt Go.RowKit Go.Joins
set_option linter.unusedVariables false
attribute [local go_sem] max2_i64 min2_i64 max_two' min_two'
namespace marginLongestW
open Mar
set_option maxRecDepth 100000 in
set_option maxHeartbeats 1000000 in
theorem walk_no (w : World) (S G K : Int) (half : Int) (h : ¬ Ok S G K) :
    Calls Try.prog 4 #[mar S G K, .int .i64 half] w fun e w' => e = .returned (.bool true) ∧ w.grownBy w' none := by
  have HN := Lib.hid h
  clear h
  have hc0 : ∀ x : New (w.alloc (.cells #[.int .i64 S, .int .i64 G, .int .i64 K] 23)), x.w.cell? ⟨w.heap.size, 0, none⟩ = some (.int .i64 S) := fun x => ((Blk.new w 23 [.int .i64 S, .int .i64 G, .int .i64 K]).kept x.ok (by simp)).cell 0 _ rfl
  have hc1 : ∀ x : New (w.alloc (.cells #[.int .i64 S, .int .i64 G, .int .i64 K] 23)), x.w.cell? ⟨w.heap.size, 1, none⟩ = some (.int .i64 G) := fun x => ((Blk.new w 23 [.int .i64 S, .int .i64 G, .int .i64 K]).kept x.ok (by simp)).cell 1 _ rfl
  have hc2 : ∀ x : New (w.alloc (.cells #[.int .i64 S, .int .i64 G, .int .i64 K] 23)), x.w.cell? ⟨w.heap.size, 2, none⟩ = some (.int .i64 K) := fun x => ((Blk.new w 23 [.int .i64 S, .int .i64 G, .int .i64 K]).kept x.ok (by simp)).cell 2 _ rfl
  go_enter Try.func4, Try.ntmps4
  go_upto_region 1 with (fail)
  refine new_start fun x => ?_
  go_wp2_with (first | (go_at_call 6; refine (new_gb (right_no _ _ _ _ HN.out)).mono ?_; rintro e w' ⟨rfl, x, rfl⟩) | (go_at_call 7; refine (new_gb (one_any _)).mono ?_; rintro e w' ⟨rfl, x, rfl⟩) | go_in)
  go_ret
  exact ⟨rfl, new_end _⟩
set_option maxRecDepth 100000 in
set_option maxHeartbeats 1000000 in
theorem walk_yes (w : World) (S G K : Int) (h0 half : Int) (h : Ok S G K) (hm : bits .and .i64 h0 65535 = half - 1) (hb0 : 1 ≤ half) (hb1 : half ≤ 65536) :
    Calls Try.prog 4 #[mar S G K, .int .i64 h0] w fun e w' => e = .returned (.bool true) ∧ w.grownBy w' none := by
  have hk := h
  obtain ⟨b1, b2, b3, b4, b5, b6⟩ := h
  have hh : 1 + (half - 1) = half := by omega
  have hc0 : ∀ x : New (w.alloc (.cells #[.int .i64 S, .int .i64 G, .int .i64 K] 23)), x.w.cell? ⟨w.heap.size, 0, none⟩ = some (.int .i64 S) := fun x => ((Blk.new w 23 [.int .i64 S, .int .i64 G, .int .i64 K]).kept x.ok (by simp)).cell 0 _ rfl
  have hc1 : ∀ x : New (w.alloc (.cells #[.int .i64 S, .int .i64 G, .int .i64 K] 23)), x.w.cell? ⟨w.heap.size, 1, none⟩ = some (.int .i64 G) := fun x => ((Blk.new w 23 [.int .i64 S, .int .i64 G, .int .i64 K]).kept x.ok (by simp)).cell 1 _ rfl
  have hc2 : ∀ x : New (w.alloc (.cells #[.int .i64 S, .int .i64 G, .int .i64 K] 23)), x.w.cell? ⟨w.heap.size, 2, none⟩ = some (.int .i64 K) := fun x => ((Blk.new w 23 [.int .i64 S, .int .i64 G, .int .i64 K]).kept x.ok (by simp)).cell 2 _ rfl
  go_enter Try.func4, Try.ntmps4
  go_upto_region 1 with (fail)
  refine new_start fun x => ?_
  go_wp2_with fail
  refine (new_gb (right_yes _ _ _ _ hk)).mono ?_
  rintro e w' ⟨rfl, x, rfl⟩
  go_wp2_with fail
  have HHB := Lib.hid hb0
  refine (longest_yes _ _ _ _ _ hk (by omega) (by omega)).mono ?_
  rintro e w' ⟨n, rfl, hP, hg⟩
  obtain ⟨x', rfl⟩ : ∃ y : New (w.alloc (.cells #[.int .i64 S, .int .i64 G, .int .i64 K] 23)), w' = y.w := ⟨⟨w', gb_trans x.ok hg⟩, rfl⟩
  obtain ⟨n0, n1, hP1, hP2⟩ := hP
  have HP1 := Lib.hid hP1
  have HP2 := Lib.hid hP2
  clear hg hP1 hP2
  have dn0 : decide (n < 0) = false := by simp; omega
  have dn1 : decide (1073741824 < n) = false := by simp; omega
  obtain ⟨bf, hbf⟩ : ∃ bf, fits S G K half = bf := ⟨_, rfl⟩
  have HBF := Lib.hid hbf
  have HNS : Hid (bf = true → S ≤ n) := by
    intro hb
    rw [hb] at hbf
    rcases Int.lt_or_le n S with hns | hns
    · rcases HP2.out with h2 | h2
      · omega
      · rw [fits_anti (S := n + 1) (S' := S) b3 (by omega) hbf] at h2
        cases h2
    · exact hns
  have HN1 : Hid (0 < n → fits n G K half = true) := by
    intro h0
    rcases HP1.out with h2 | h2
    · omega
    · exact h2
  have HN2 : Hid (n ≠ 1073741824 → fits (n + 1) G K half = false) := by
    intro h0
    rcases HP2.out with h2 | h2
    · exact absurd h2 h0
    · exact h2
  clear hbf
  go_wp2_with fail
  refine (new_gb (fits_yes _ _ _ _ _ hk (by omega))).mono ?_
  rw [HBF.out]
  rintro e w' ⟨rfl, x, rfl⟩
  by_cases z0 : 0 < n
  · have dz : decide (0 < n) = true := by simpa using z0
    have hokn : Ok n G K := ⟨by omega, n1, b3, b4, b5, b6⟩
    by_cases z1 : n = 1073741824
    · have dz1 : (n == 1073741824) = true := by simpa using z1
      clear z1
      cases bf
      · go_wp2_with fail
        refine (new_gb (fits_yes _ _ _ _ _ hokn (by omega))).mono ?_
        rw [HN1.out z0]
        rintro e w' ⟨rfl, x, rfl⟩
        go_wp2_with fail
        refine (new_gb (one_any _)).mono ?_
        rintro e w' ⟨rfl, x, rfl⟩
        go_wp2_with fail
        go_ret
        exact ⟨rfl, new_end _⟩
      · have dS : decide (n < S) = false := by have := HNS.out rfl; simp; omega
        go_wp2_with fail
        refine (new_gb (fits_yes _ _ _ _ _ hokn (by omega))).mono ?_
        rw [HN1.out z0]
        rintro e w' ⟨rfl, x, rfl⟩
        go_wp2_with fail
        refine (new_gb (one_any _)).mono ?_
        rintro e w' ⟨rfl, x, rfl⟩
        go_wp2_with fail
        go_ret
        exact ⟨rfl, new_end _⟩
    · have dz1 : (n == 1073741824) = false := by simpa using z1
      have hokn1 : Ok (n + 1) G K := ⟨by omega, by omega, b3, b4, b5, b6⟩
      have HF2 := Lib.hid (HN2.out z1)
      clear z1
      cases bf
      · go_wp2_with fail
        refine (new_gb (fits_yes _ _ _ _ _ hokn (by omega))).mono ?_
        rw [HN1.out z0]
        rintro e w' ⟨rfl, x, rfl⟩
        go_wp2_with fail
        refine (new_gb (fits_yes _ _ _ _ _ hokn1 (by omega))).mono ?_
        rw [HF2.out]
        rintro e w' ⟨rfl, x, rfl⟩
        go_wp2_with fail
        refine (new_gb (one_any _)).mono ?_
        rintro e w' ⟨rfl, x, rfl⟩
        go_wp2_with fail
        go_ret
        exact ⟨rfl, new_end _⟩
      · have dS : decide (n < S) = false := by have := HNS.out rfl; simp; omega
        go_wp2_with fail
        refine (new_gb (fits_yes _ _ _ _ _ hokn (by omega))).mono ?_
        rw [HN1.out z0]
        rintro e w' ⟨rfl, x, rfl⟩
        go_wp2_with fail
        refine (new_gb (fits_yes _ _ _ _ _ hokn1 (by omega))).mono ?_
        rw [HF2.out]
        rintro e w' ⟨rfl, x, rfl⟩
        go_wp2_with fail
        refine (new_gb (one_any _)).mono ?_
        rintro e w' ⟨rfl, x, rfl⟩
        go_wp2_with fail
        go_ret
        exact ⟨rfl, new_end _⟩
  · have dz : decide (0 < n) = false := by simpa using z0
    obtain rfl : n = 0 := by omega
    have hokn1 : Ok (0 + 1) G K := ⟨by omega, by omega, b3, b4, b5, b6⟩
    have HF2 := Lib.hid (HN2.out (by omega))
    cases bf
    · go_wp2_with fail
      refine (new_gb (fits_yes _ _ _ _ _ hokn1 (by omega))).mono ?_
      rw [HF2.out]
      rintro e w' ⟨rfl, x, rfl⟩
      go_wp2_with fail
      refine (new_gb (one_any _)).mono ?_
      rintro e w' ⟨rfl, x, rfl⟩
      go_wp2_with fail
      go_ret
      exact ⟨rfl, new_end _⟩
    · have := HNS.out rfl
      exact absurd this (by omega)
theorem walk_any (w : World) (S G K h0 : Int) : Calls Try.prog 4 #[mar S G K, .int .i64 h0] w fun e w' => e = .returned (.bool true) ∧ w.grownBy w' none := by
  by_cases h : Ok S G K
  · obtain ⟨m, hm, HM, m0, m1⟩ := masked 16 (by omega) h0 65535 (by decide)
    exact walk_yes w S G K h0 (1 + m) h (by rw [hm]; omega) (by omega) (by omega)
  · exact walk_no w S G K h0 h
theorem walk {H : Type} {enc : TypeId × Value → H} (base : Nat) (W : World) (v0 : Value) (d0 : DataW H) (p0 : List MemPlace) (v1 : Value) (d1 : DataW H) (p1 : List MemPlace)
    (o0 : Value.okWide Try.prog W .any base 23 v0) (o1 : Value.okWide Try.prog W .any base 3 v1)
    (h0 : DataW.Trod enc Try.prog W 0 (fun _ => true) true 23 v0 d0 p0) (h1 : DataW.Trod enc Try.prog W 0 (fun _ => true) true 3 v1 d1 p1) :
    Calls Try.prog 4 #[v0, v1] W fun e w' => e = .returned (.bool true) ∧ Below W.heap.size W w' := by
  obtain ⟨c0, c1, c2, y0, y1, y2, m, rfl, rfl, rfl, hy0, hy1, hy2⟩ := open_agg3 Try.underlying23 (by kernel_rfl) (by kernel_rfl) o0 h0
  obtain ⟨S, e0, rfl, ws⟩ := DataW.trod_int Try.underlying3 hy0
  obtain ⟨G, e1, rfl, wg⟩ := DataW.trod_int Try.underlying3 hy1
  obtain ⟨K, e2, rfl, wk⟩ := DataW.trod_int Try.underlying3 hy2
  simp at e0 e1 e2
  subst e0 e1 e2
  obtain ⟨n1, rfl, rfl, rfl, wn1⟩ := open_int Try.underlying3 o1 h1
  exact (walk_any W S G K n1).mono fun e w' ⟨he, hg⟩ => ⟨he, gb_below hg (Nat.le_refl _) (by simp)⟩
end marginLongestW
end Go.Proofs.Ytjbhnofnlfnljaa
