/- Images: the sum that is known, and an image. -/
import Derived.Test.YtifnmnchpgbimaaImgG
namespace Go.Proofs.Ytifnmnchpgbimaa
open Go.RowKit Go.Joins
set_option linter.unusedVariables false
set_option linter.unusedSimpArgs false
namespace Im
open Cm
attribute [local go_sem] alloc_drewN' setCell_drewN'
theorem known : crc [49, 50, 51, 52, 53, 54, 55, 56, 57] = 10673 := by kernel_rfl
/-- A marked literal, as a slice of bytes. -/
theorem Sl_mark (w : World) (l : List Int) (k : Nat) (hk : l.length = k) (hm : k ≤ 1000) (fr : Nat × Nat) (g : Nat) (hg : g = w.heap.size) : Sl (w.alloc (.cells (nums .u8 l).toArray 5 fr)) 0 (some ⟨g, 0, none⟩) k k l :=
  ⟨hk, Nat.le_refl _, by omega, fun _ => ⟨_, 0, rfl, Nat.zero_le _, by simp [hg], fun i hi => by
    rw [Nat.zero_add, cell_alloc_mark_at _ _ _ _ _ _ hg, ← Array.getElem?_toList]
    exact nums_get .u8 l i (by omega)⟩⟩
theorem upto_two (ls : Nat → List Int) : upto ls 2 = ls 0 ++ ls 1 := by simp [upto, List.range_succ]
set_option maxRecDepth 100000 in
set_option maxHeartbeats 4000000 in
theorem one_any (w : World) : Calls Try.prog 15 #[] w fun e w' => e = .returned (.bool true) ∧ w.grownBy w' none := by
  have hr : right ⟨3, 0, 0⟩ 1 := by unfold right; simp
  have hb0 : ∀ x ∈ [(0 : Int)], 0 ≤ x ∧ x ≤ 255 := by intro x hx; simp at hx; omega
  have hs0 : Sl (w.alloc (.cells #[.int .u8 0] 5)) 0 (some ⟨w.heap.size, 0, none⟩) 1 1 [0] := Sl_mark w [0] 1 rfl (by omega) (0, 0) _ rfl
  have hB1 := Blk.new (w.alloc (.cells #[.int .u8 0] 5)) 25 (Mg.cells ⟨3, 0, 0⟩ (.slice (some ⟨w.heap.size, 0, none⟩) 1 1))
  rw [World.size_alloc] at hB1
  have hs1 := hs0.kept (gb_alloc (gb_refl _ _) (.cells #[.int .i64 3, .int .i64 0, .int .i64 0, .slice (some ⟨w.heap.size, 0, none⟩) 1 1] 25))
  have hW1 := gb_alloc (gb_alloc (gb_refl w none) (.cells #[.int .u8 0] 5)) (.cells #[.int .i64 3, .int .i64 0, .int .i64 0, .slice (some ⟨w.heap.size, 0, none⟩) 1 1] 25)
  clear hs0
  go_enter Try.func15, Try.ntmps15
  go_upto_region 2 with (fail)
  refine forget_world (fun w' => Blk w' (w.heap.size + 1) 25 (Mg.cells ⟨3, 0, 0⟩ (.slice (some ⟨w.heap.size, 0, none⟩) 1 1)) ∧ Sl w' 0 (some ⟨w.heap.size, 0, none⟩) 1 1 [0] ∧ w.grownBy w' none) ⟨hB1, hs1, hW1⟩ ?_
  rintro w2 ⟨hB2, hs2, hW2⟩
  clear hB1 hs1 hW1
  have p0 := hB2.cell 0 _ rfl
  have p1 := hB2.cell 1 _ rfl
  have p2 := hB2.cell 2 _ rfl
  have p3 := hB2.cell 3 _ rfl
  go_wp2_with fail
  refine (put_yes w2 ⟨3, 0, 0⟩ _ 1 1 [0] hs2 hb0 hr).mono ?_
  rintro e w3 ⟨A, cp, rfl, hs3, hg3⟩
  have hB3 := hB2.kept hg3 (by simp)
  have hs3' := hs2.kept hg3
  have hW3 := gb_trans hW2 hg3
  obtain ⟨v1, v2, v3⟩ := putI_ok ⟨3, 0, 0⟩ [0] hr hb0
  have hb3 := putI_bytes ⟨3, 0, 0⟩ [0] hr hb0
  have hl3 := putI_len ⟨3, 0, 0⟩ [0]
  generalize putI ⟨3, 0, 0⟩ [0] = P at *
  have hrd := read_ok w3 A (11 + 1) cp P hs3 hb3 v1
  rw [v2, show 11 + 1 = P.length by rw [hl3]; rfl, v3, hl3] at hrd
  clear p0 p1 p2 p3 hB2 hs2 hW2 hg3 v1 v2 v3
  go_wp2_with fail
  refine hrd.mono ?_
  rintro e w4 ⟨A4, c4, rfl, hs4, hg4⟩
  have hB4 := (hB3.kept hg4 (by simp)).alloc (.cells #[.int .i64 3, .int .i64 0, .int .i64 0, .slice A4 1 c4] 25)
  have hC4 := Blk.new w4 25 (Mg.cells ⟨3, 0, 0⟩ (.slice A4 1 c4))
  have hs4' := hs4.kept (gb_alloc (gb_refl w4 none) (.cells #[.int .i64 3, .int .i64 0, .int .i64 0, .slice A4 1 c4] 25))
  have hs5 := (hs3'.kept hg4).kept (gb_alloc (gb_refl w4 none) (.cells #[.int .i64 3, .int .i64 0, .int .i64 0, .slice A4 1 c4] 25))
  have hW4 := gb_alloc (gb_trans hW3 hg4) (.cells #[.int .i64 3, .int .i64 0, .int .i64 0, .slice A4 1 c4] 25)
  clear hrd hB3 hs3 hs3' hW3 hg4 hs4
  go_upto_region 4 with (fail)
  refine forget_world (fun w' => Blk w' (w.heap.size + 1) 25 (Mg.cells ⟨3, 0, 0⟩ (.slice (some ⟨w.heap.size, 0, none⟩) 1 1)) ∧ Blk w' w4.heap.size 25 (Mg.cells ⟨3, 0, 0⟩ (.slice A4 1 c4)) ∧ Sl w' 0 (some ⟨w.heap.size, 0, none⟩) 1 1 [0] ∧ Sl w' w3.heap.size A4 1 c4 [0] ∧ w.grownBy w' none) ⟨hB4, hC4, hs5, hs4', hW4⟩ ?_
  generalize w4.heap.size = q
  rintro w5 ⟨hB5, hC5, hsA, hsB, hW5⟩
  clear hB4 hC4 hs5 hs4' hW4
  have hk1 : (convert 23 23 (.slice (some ⟨w5.heap.size, 0, none⟩) 4 4)).run Try.prog (w5.alloc (.cells #[.int .u8 49, .int .u8 50, .int .u8 51, .int .u8 52] 5)) = .ok (.slice (some ⟨w5.heap.size, 0, none⟩) 4 4) (w5.alloc (.cells #[.int .u8 49, .int .u8 50, .int .u8 51, .int .u8 52] 5 (4, 5))) := kc w5 #[.int .u8 49, .int .u8 50, .int .u8 51, .int .u8 52] 4 4 _ rfl
  have hk2 : (convert 23 23 (.slice (some ⟨w5.heap.size + 1, 0, none⟩) 5 5)).run Try.prog ((w5.alloc (.cells #[.int .u8 49, .int .u8 50, .int .u8 51, .int .u8 52] 5 (4, 5))).alloc (.cells #[.int .u8 53, .int .u8 54, .int .u8 55, .int .u8 56, .int .u8 57] 5)) = .ok (.slice (some ⟨w5.heap.size + 1, 0, none⟩) 5 5) ((w5.alloc (.cells #[.int .u8 49, .int .u8 50, .int .u8 51, .int .u8 52] 5 (4, 5))).alloc (.cells #[.int .u8 53, .int .u8 54, .int .u8 55, .int .u8 56, .int .u8 57] 5 (5, 6))) := kc (w5.alloc (.cells #[.int .u8 49, .int .u8 50, .int .u8 51, .int .u8 52] 5 (4, 5))) #[.int .u8 53, .int .u8 54, .int .u8 55, .int .u8 56, .int .u8 57] 5 5 _ (by rw [World.size_alloc])
  have m1 := Sl_mark w5 [49, 50, 51, 52] 4 rfl (by omega) (4, 5) _ rfl
  have m2 := Sl_mark (w5.alloc (.cells #[.int .u8 49, .int .u8 50, .int .u8 51, .int .u8 52] 5 (4, 5))) [53, 54, 55, 56, 57] 5 rfl (by omega) (5, 6) (w5.heap.size + 1) (by rw [World.size_alloc])
  have hX : Sls (((w5.alloc (.cells #[.int .u8 49, .int .u8 50, .int .u8 51, .int .u8 52] 5 (4, 5))).alloc (.cells #[.int .u8 53, .int .u8 54, .int .u8 55, .int .u8 56, .int .u8 57] 5 (5, 6))).alloc (.cells #[.slice (some ⟨w5.heap.size, 0, none⟩) 4 4, .slice (some ⟨w5.heap.size + 1, 0, none⟩) 5 5] 23)) (some ⟨w5.heap.size + 1 + 1, 0, none⟩) 2 2
      (fun i => if i = 0 then some ⟨w5.heap.size, 0, none⟩ else some ⟨w5.heap.size + 1, 0, none⟩) (fun i => if i = 0 then 4 else 5) (fun i => if i = 0 then 4 else 5) (fun i => if i = 0 then [49, 50, 51, 52] else [53, 54, 55, 56, 57]) := by
    have hN := Blk.new ((w5.alloc (.cells #[.int .u8 49, .int .u8 50, .int .u8 51, .int .u8 52] 5 (4, 5))).alloc (.cells #[.int .u8 53, .int .u8 54, .int .u8 55, .int .u8 56, .int .u8 57] 5 (5, 6))) 23 [.slice (some ⟨w5.heap.size, 0, none⟩) 4 4, .slice (some ⟨w5.heap.size + 1, 0, none⟩) 5 5]
    rw [World.size_alloc, World.size_alloc] at hN
    refine ⟨Nat.le_refl _, by omega, fun _ => ⟨_, 0, rfl, fun i hi => ?_⟩, fun i hi => ?_, fun i hi => ?_⟩
    · obtain h | h : i = 0 ∨ i = 1 := by omega
      · subst h; exact hN.cell 0 _ rfl
      · subst h; exact hN.cell 1 _ rfl
    · obtain h | h : i = 0 ∨ i = 1 := by omega
      · subst h; exact (m1.kept (gb_alloc (gb_refl _ _) _)).kept (gb_alloc (gb_refl _ _) _)
      · subst h; exact m2.kept (gb_alloc (gb_refl _ _) _)
    · obtain h | h : i = 0 ∨ i = 1 := by omega
      · subst h; intro x hx; simp at hx; omega
      · subst h; intro x hx; simp at hx; omega
  have hsum := sum_any _ _ 2 2 _ _ _ _ hX
  rw [upto_two, show crc ((if 0 = 0 then [49, 50, 51, 52] else [53, 54, 55, 56, 57]) ++ (if 1 = 0 then [49, 50, 51, 52] else [53, 54, 55, 56, 57])) = 10673 from known] at hsum
  clear hX m1 m2
  go_wp2_with fail
  refine hsum.mono ?_
  rintro e w6 ⟨rfl, rfl⟩
  have hgX : w5.grownBy (((w5.alloc (.cells #[.int .u8 49, .int .u8 50, .int .u8 51, .int .u8 52] 5 (4, 5))).alloc (.cells #[.int .u8 53, .int .u8 54, .int .u8 55, .int .u8 56, .int .u8 57] 5 (5, 6))).alloc (.cells #[.slice (some ⟨w5.heap.size, 0, none⟩) 4 4, .slice (some ⟨w5.heap.size + 1, 0, none⟩) 5 5] 23)) none := gb_alloc (gb_alloc (gb_alloc (gb_refl _ _) _) _) _
  have hB6 := hB5.kept hgX (by simp)
  have hC6 := hC5.kept hgX (by simp)
  have hsA6 := hsA.kept hgX
  have hsB6 := hsB.kept hgX
  have hW6 := gb_trans hW5 hgX
  clear hsum hk1 hk2 hB5 hC5 hsA hsB hW5 hgX
  generalize ((w5.alloc (.cells #[.int .u8 49, .int .u8 50, .int .u8 51, .int .u8 52] 5 (4, 5))).alloc (.cells #[.int .u8 53, .int .u8 54, .int .u8 55, .int .u8 56, .int .u8 57] 5 (5, 6))).alloc (.cells #[.slice (some ⟨w5.heap.size, 0, none⟩) 4 4, .slice (some ⟨w5.heap.size + 1, 0, none⟩) 5 5] 23) = w6 at *
  have p0 := hB6.cell 0 _ rfl
  have p1 := hB6.cell 1 _ rfl
  have p2 := hB6.cell 2 _ rfl
  have p3 := hB6.cell 3 _ rfl
  have q0 := hC6.cell 0 _ rfl
  have q1 := hC6.cell 1 _ rfl
  have q2 := hC6.cell 2 _ rfl
  have q3 := hC6.cell 3 _ rfl
  go_wp2_with fail
  refine (same_yes w6 ⟨3, 0, 0⟩ _ 1 c4 _ 1 1 [0] hsB6 hsA6 hb0).mono ?_
  rintro e w7 ⟨rfl, hg7⟩
  go_wp2_with fail
  go_ret
  exact ⟨rfl, gb_trans hW6 hg7⟩
end Im
end Go.Proofs.Ytifnmnchpgbimaa
