/- Images: the contract of Read, the ways that end in an error. -/
import Derived.Test.YtifnmnchpgbimaaImgP
namespace Go.Proofs.Ytifnmnchpgbimaa
open Go.RowKit Go.Joins
set_option linter.unusedVariables false
set_option linter.unusedSimpArgs false
namespace Im
open Cm
attribute [local go_sem] alloc_drewN' setCell_drewN'
abbrev none4 : Value := .agg #[.int .i64 0, .int .i64 0, .int .i64 0, .slice none 0 0]
abbrev zero4 : List Value := [.int .i64 0, .int .i64 0, .int .i64 0, .slice none 0 0]
/-- What stands at a place of them. -/
abbrev at_ (l : List Int) (i : Nat) : Int := l.getD i 0
/-- What the bytes say of their length. -/
def long (l : List Int) : Int := 256 * at_ l 7 + at_ l 8
/-- A slice of bytes reads so. -/
theorem Sl_cells {w : World} {b0 b off n c : Nat} {l : List Int} (h : Sl w b0 (some ⟨b, off, none⟩) n c l) (hn : 0 < n) : b < w.heap.size ∧ ∀ i, i < n → w.cell? ⟨b, off + i, none⟩ = some (.int .u8 (l.getD i 0)) := by
  obtain ⟨b', off', e, _, h2, h3⟩ := h.rd hn
  simp at e
  obtain ⟨rfl, rfl⟩ := e
  exact ⟨h2, h3⟩
theorem Sl_lit (w : World) : Sl (w.alloc (.cells #[.int .u8 84, .int .u8 49] 5 (2, 3))) 0 (some ⟨w.heap.size, 0, none⟩) 2 2 [84, 49] :=
  ⟨rfl, Nat.le_refl _, by omega, fun _ => ⟨_, 0, rfl, Nat.zero_le _, by simp, fun i hi => by
    rw [Nat.zero_add, cell_alloc_mark_at _ _ _ _ _ _ rfl, ← Array.getElem?_toList]
    obtain h | h : i = 0 ∨ i = 1 := by omega
    · subst h; rfl
    · subst h; rfl⟩⟩
set_option maxRecDepth 100000 in
set_option maxHeartbeats 1000000 in
theorem read_short (w : World) (A : Option Addr) (n c : Nat) (hn : n < 11) :
    Calls Try.prog 11 #[.slice A n c] w fun e w' => e = .returned (.tuple #[none4, .int .i64 10]) ∧ w.grownBy w' none := by
  have dn : decide ((n : Int) < 11) = true := by simp; omega
  go_enter Try.func11, Try.ntmps11
  go_wp2_with fail
  refine bodyPost_ret (v := .tuple #[none4, .int .i64 10]) (by simp [results, Try.results11, go_sem]) rfl ⟨rfl, ?_⟩
  exact gb_alloc (gb_refl _ _) _
set_option maxRecDepth 100000 in
set_option maxHeartbeats 4000000 in
theorem read_magic (w : World) {b0 : Nat} (b off n c : Nat) (l : List Int) (h : Sl w b0 (some ⟨b, off, none⟩) n c l) (hb : ∀ x ∈ l, 0 ≤ x ∧ x ≤ 255) (hn : 11 ≤ n) (hm : l.take 2 ≠ [84, 49]) :
    Calls Try.prog 11 #[.slice (some ⟨b, off, none⟩) n c] w fun e w' => e = .returned (.tuple #[none4, .int .i64 11]) ∧ w.grownBy w' none := by
  have HM := Lib.hid (decide_eq_false hm)
  have H := Lib.hid h
  clear hm
  have HB := Lib.hid hb
  have hle := h.le
  have hcp := h.cap
  have hln := h.len
  have z7 := getD_bytes hb 7
  have z8 := getD_bytes hb 8
  have dn : decide ((n : Int) < 11) = false := by simp; omega
  clear h hb
  go_enter Try.func11, Try.ntmps11
  go_upto_region 3 with (fail)
  refine forget_world (fun w' => Blk w' w.heap.size 25 zero4 ∧ w.grownBy w' none) ⟨Blk.new w 25 zero4, gb_alloc (gb_refl w none) _⟩ ?_
  rintro w1 ⟨hB1, hW1⟩
  have h1 := H.out.kept hW1
  obtain ⟨hbl, hc1⟩ := Sl_cells h1 (by omega)
  have c7 := hc1 7 (by omega)
  have c8 : w1.cell? ⟨b, off + 7 + 1, none⟩ = some (.int .u8 (l.getD 8 0)) := hc1 8 (by omega)
  have hLG := Lib.hid (show 256 * l.getD 7 0 + l.getD 8 0 = long l from rfl)
  have d7 : (7 : Int) ≤ n := by omega
  have d7c : (7 : Int) ≤ c := by omega
  have d7d : n ≤ c := by omega
  clear hc1
  go_wp2_with fail
  refine (of_any w1 b (off + 7) (n - 7) (c - 7) _ _ (by omega) c7 c8 z7.1 z7.2 z8.1 z8.2).mono ?_
  rintro e w2 ⟨rfl, hg2⟩
  have hB2 := hB1.kept hg2 (by simp)
  have hW2 := gb_trans hW1 hg2
  have h2 := h1.kept hg2
  rw [show 256 * l.getD 7 0 + l.getD 8 0 = long l from hLG.out]
  have hlg : 0 ≤ long l ∧ long l ≤ 65535 := by unfold long at_; omega
  have hkc : (convert 23 23 (.slice (some ⟨w2.heap.size, 0, none⟩) 2 2)).run Try.prog (w2.alloc (.cells #[.int .u8 84, .int .u8 49] 5)) = .ok (.slice (some ⟨w2.heap.size, 0, none⟩) 2 2) (w2.alloc (.cells #[.int .u8 84, .int .u8 49] 5 (2, 3))) := kc w2 #[.int .u8 84, .int .u8 49] 2 2 _ rfl
  clear c7 c8 hB1 hW1 h1 hg2 z7 z8 hLG hbl
  generalize hLL : long l = L at *
  go_wp2_with fail
  refine (prefix_any _ _ n c l _ 2 [84, 49] (h2.kept (gb_alloc (gb_refl w2 none) _)) (Sl_lit w2) HB.out (by intro x hx; simp at hx; omega) (by omega)).mono ?_
  rintro e w3 ⟨rfl, rfl⟩
  have hB3 := hB2.alloc (.cells #[.int .u8 84, .int .u8 49] 5 (2, 3))
  have hW3 := gb_alloc hW2 (.cells #[.int .u8 84, .int .u8 49] 5 (2, 3))
  clear hB2 h2 hkc hW2
  rw [HM.out]
  go_upto_region 5 with (fail)
  refine forget_world (fun w' => Blk w' w.heap.size 25 zero4 ∧ w.grownBy w' none) ⟨hB3, hW3⟩ ?_
  rintro wE ⟨hBE, hWE⟩
  have r0 := hBE.cell 0 _ rfl
  have r1 := hBE.cell 1 _ rfl
  have r2 := hBE.cell 2 _ rfl
  have r3 := hBE.cell 3 _ rfl
  have f0 := hBE.free 0
  have f1 := hBE.free 1
  have f2 := hBE.free 2
  have f3 := hBE.free 3
  go_wp2_with fail
  have hE := ((((hBE.set 0 (.int .i64 0)).set 1 (.int .i64 0)).set 2 (.int .i64 0)).set 3 (.slice none 0 0))
  refine bodyPost_ret (v := .tuple #[none4, .int .i64 11]) (by simp [results, Try.results11, go_sem, hE.cell 0 _ rfl, hE.cell 1 _ rfl, hE.cell 2 _ rfl, hE.cell 3 _ rfl]) rfl ⟨rfl, ?_⟩
  repeat (with_reducible (first | exact hWE | apply gb_drewN | apply gb_drew | apply gb_alloc | (refine gb_setNew ?_ (by simp <;> omega) _)))
set_option maxRecDepth 100000 in
set_option maxHeartbeats 4000000 in
theorem read_length (w : World) {b0 : Nat} (b off n c : Nat) (l : List Int) (h : Sl w b0 (some ⟨b, off, none⟩) n c l) (hb : ∀ x ∈ l, 0 ≤ x ∧ x ≤ 255) (hn : 11 ≤ n) (hm : l.take 2 = [84, 49]) (hL : (n : Int) ≠ 11 + long l) :
    Calls Try.prog 11 #[.slice (some ⟨b, off, none⟩) n c] w fun e w' => e = .returned (.tuple #[none4, .int .i64 11]) ∧ w.grownBy w' none := by
  have HM := Lib.hid (decide_eq_true hm)
  have H := Lib.hid h
  clear hm
  have HB := Lib.hid hb
  have hle := h.le
  have hcp := h.cap
  have hln := h.len
  have z7 := getD_bytes hb 7
  have z8 := getD_bytes hb 8
  have dn : decide ((n : Int) < 11) = false := by simp; omega
  clear h hb
  go_enter Try.func11, Try.ntmps11
  go_upto_region 3 with (fail)
  refine forget_world (fun w' => Blk w' w.heap.size 25 zero4 ∧ w.grownBy w' none) ⟨Blk.new w 25 zero4, gb_alloc (gb_refl w none) _⟩ ?_
  rintro w1 ⟨hB1, hW1⟩
  have h1 := H.out.kept hW1
  obtain ⟨hbl, hc1⟩ := Sl_cells h1 (by omega)
  have c7 := hc1 7 (by omega)
  have c8 : w1.cell? ⟨b, off + 7 + 1, none⟩ = some (.int .u8 (l.getD 8 0)) := hc1 8 (by omega)
  have hLG := Lib.hid (show 256 * l.getD 7 0 + l.getD 8 0 = long l from rfl)
  have d7 : (7 : Int) ≤ n := by omega
  have d7c : (7 : Int) ≤ c := by omega
  have d7d : n ≤ c := by omega
  clear hc1
  go_wp2_with fail
  refine (of_any w1 b (off + 7) (n - 7) (c - 7) _ _ (by omega) c7 c8 z7.1 z7.2 z8.1 z8.2).mono ?_
  rintro e w2 ⟨rfl, hg2⟩
  have hB2 := hB1.kept hg2 (by simp)
  have hW2 := gb_trans hW1 hg2
  have h2 := h1.kept hg2
  rw [show 256 * l.getD 7 0 + l.getD 8 0 = long l from hLG.out]
  have hlg : 0 ≤ long l ∧ long l ≤ 65535 := by unfold long at_; omega
  have hkc : (convert 23 23 (.slice (some ⟨w2.heap.size, 0, none⟩) 2 2)).run Try.prog (w2.alloc (.cells #[.int .u8 84, .int .u8 49] 5)) = .ok (.slice (some ⟨w2.heap.size, 0, none⟩) 2 2) (w2.alloc (.cells #[.int .u8 84, .int .u8 49] 5 (2, 3))) := kc w2 #[.int .u8 84, .int .u8 49] 2 2 _ rfl
  clear c7 c8 hB1 hW1 h1 hg2 z7 z8 hLG hbl
  generalize hLL : long l = L at *
  go_wp2_with fail
  refine (prefix_any _ _ n c l _ 2 [84, 49] (h2.kept (gb_alloc (gb_refl w2 none) _)) (Sl_lit w2) HB.out (by intro x hx; simp at hx; omega) (by omega)).mono ?_
  rintro e w3 ⟨rfl, rfl⟩
  have hB3 := hB2.alloc (.cells #[.int .u8 84, .int .u8 49] 5 (2, 3))
  have hW3 := gb_alloc hW2 (.cells #[.int .u8 84, .int .u8 49] 5 (2, 3))
  clear hB2 h2 hkc hW2
  rw [HM.out]
  have dL : ((n : Int) != 11 + L) = true := by simpa using hL
  clear hL
  go_upto_region 5 with (fail)
  refine forget_world (fun w' => Blk w' w.heap.size 25 zero4 ∧ w.grownBy w' none) ⟨hB3, hW3⟩ ?_
  rintro wE ⟨hBE, hWE⟩
  have r0 := hBE.cell 0 _ rfl
  have r1 := hBE.cell 1 _ rfl
  have r2 := hBE.cell 2 _ rfl
  have r3 := hBE.cell 3 _ rfl
  have f0 := hBE.free 0
  have f1 := hBE.free 1
  have f2 := hBE.free 2
  have f3 := hBE.free 3
  go_wp2_with fail
  have hE := ((((hBE.set 0 (.int .i64 0)).set 1 (.int .i64 0)).set 2 (.int .i64 0)).set 3 (.slice none 0 0))
  refine bodyPost_ret (v := .tuple #[none4, .int .i64 11]) (by simp [results, Try.results11, go_sem, hE.cell 0 _ rfl, hE.cell 1 _ rfl, hE.cell 2 _ rfl, hE.cell 3 _ rfl]) rfl ⟨rfl, ?_⟩
  repeat (with_reducible (first | exact hWE | apply gb_drewN | apply gb_drew | apply gb_alloc | (refine gb_setNew ?_ (by simp <;> omega) _)))
set_option maxRecDepth 100000 in
set_option maxHeartbeats 4000000 in
theorem read_sum (w : World) {b0 : Nat} (b off n c : Nat) (l : List Int) (h : Sl w b0 (some ⟨b, off, none⟩) n c l) (hb : ∀ x ∈ l, 0 ≤ x ∧ x ≤ 255) (hn : 11 ≤ n) (hm : l.take 2 = [84, 49]) (hL : (n : Int) = 11 + long l) (hS : 256 * at_ l (n - 2) + at_ l (n - 1) ≠ crc (l.take (n - 2))) :
    Calls Try.prog 11 #[.slice (some ⟨b, off, none⟩) n c] w fun e w' => e = .returned (.tuple #[none4, .int .i64 12]) ∧ w.grownBy w' none := by
  have HM := Lib.hid (decide_eq_true hm)
  have HS := Lib.hid hS
  have H := Lib.hid h
  clear hm hS
  have HB := Lib.hid hb
  have hle := h.le
  have hcp := h.cap
  have hln := h.len
  have z7 := getD_bytes hb 7
  have z8 := getD_bytes hb 8
  have dn : decide ((n : Int) < 11) = false := by simp; omega
  clear h hb
  go_enter Try.func11, Try.ntmps11
  go_upto_region 3 with (fail)
  refine forget_world (fun w' => Blk w' w.heap.size 25 zero4 ∧ w.grownBy w' none) ⟨Blk.new w 25 zero4, gb_alloc (gb_refl w none) _⟩ ?_
  rintro w1 ⟨hB1, hW1⟩
  have h1 := H.out.kept hW1
  obtain ⟨hbl, hc1⟩ := Sl_cells h1 (by omega)
  have c7 := hc1 7 (by omega)
  have c8 : w1.cell? ⟨b, off + 7 + 1, none⟩ = some (.int .u8 (l.getD 8 0)) := hc1 8 (by omega)
  have hLG := Lib.hid (show 256 * l.getD 7 0 + l.getD 8 0 = long l from rfl)
  have d7 : (7 : Int) ≤ n := by omega
  have d7c : (7 : Int) ≤ c := by omega
  have d7d : n ≤ c := by omega
  clear hc1
  go_wp2_with fail
  refine (of_any w1 b (off + 7) (n - 7) (c - 7) _ _ (by omega) c7 c8 z7.1 z7.2 z8.1 z8.2).mono ?_
  rintro e w2 ⟨rfl, hg2⟩
  have hB2 := hB1.kept hg2 (by simp)
  have hW2 := gb_trans hW1 hg2
  have h2 := h1.kept hg2
  rw [show 256 * l.getD 7 0 + l.getD 8 0 = long l from hLG.out]
  have hlg : 0 ≤ long l ∧ long l ≤ 65535 := by unfold long at_; omega
  have hkc : (convert 23 23 (.slice (some ⟨w2.heap.size, 0, none⟩) 2 2)).run Try.prog (w2.alloc (.cells #[.int .u8 84, .int .u8 49] 5)) = .ok (.slice (some ⟨w2.heap.size, 0, none⟩) 2 2) (w2.alloc (.cells #[.int .u8 84, .int .u8 49] 5 (2, 3))) := kc w2 #[.int .u8 84, .int .u8 49] 2 2 _ rfl
  clear c7 c8 hB1 hW1 h1 hg2 z7 z8 hLG hbl
  generalize hLL : long l = L at *
  go_wp2_with fail
  refine (prefix_any _ _ n c l _ 2 [84, 49] (h2.kept (gb_alloc (gb_refl w2 none) _)) (Sl_lit w2) HB.out (by intro x hx; simp at hx; omega) (by omega)).mono ?_
  rintro e w3 ⟨rfl, rfl⟩
  have hB3 := hB2.alloc (.cells #[.int .u8 84, .int .u8 49] 5 (2, 3))
  have hW3 := gb_alloc hW2 (.cells #[.int .u8 84, .int .u8 49] 5 (2, 3))
  clear hB2 h2 hkc hW2
  rw [HM.out]
  have dL : ((n : Int) != 11 + L) = false := by simp; omega
  have d2n : (2 : Int) ≤ n := by omega
  have dn2 : (0 : Int) ≤ (n : Int) - 2 := by omega
  have dnn : (n : Int) - 2 ≤ n := by omega
  have dnc : (n : Int) - 2 ≤ c := by omega
  have dnt : ((n : Int) - 2).toNat = n - 2 := by omega
  have HL := Lib.hid hL
  clear hL
  go_upto_region 6 with (fail)
  refine forget_world (fun w' => Blk w' w.heap.size 25 zero4 ∧ w.grownBy w' none) ⟨hB3, hW3⟩ ?_
  rintro w4 ⟨hB4, hW4⟩
  clear hB3 hW3 dL
  go_region
  all_goals
    have hB5 := hB4.drew
    have hW5 := gb_drew hW4
    clear hB4 hW4
    generalize w4.drew = w5 at *
    have h5 := H.out.kept hW5
    obtain ⟨hbl, hc5⟩ := Sl_cells h5 (by omega)
    have s0 : w5.cell? ⟨b, off + (n - 2), none⟩ = some (.int .u8 (l.getD (n - 2) 0)) := hc5 (n - 2) (by omega)
    have s1 : w5.cell? ⟨b, off + (n - 2) + 1, none⟩ = some (.int .u8 (l.getD (n - 1) 0)) := by
      have := hc5 (n - 1) (by omega)
      rwa [show off + (n - 1) = off + (n - 2) + 1 by omega] at this
    have y0 := getD_bytes HB.out (n - 2)
    have y1 := getD_bytes HB.out (n - 1)
    have HS2 : Hid (256 * l.getD (n - 2) 0 + l.getD (n - 1) 0 ≠ crc (l.take (n - 2))) := HS
    clear hc5 HS
    generalize l.getD (n - 2) 0 = ya at *
    generalize l.getD (n - 1) 0 = yb at *
    go_wp2_with fail
    refine (of_any w5 b (off + (n - 2)) (n - (n - 2)) (c - (n - 2)) _ _ (by omega) s0 s1 y0.1 y0.2 y1.1 y1.2).mono ?_
    rintro e w6 ⟨rfl, hg6⟩
    have hB6 := hB5.kept hg6 (by simp)
    have hW6 := gb_trans hW5 hg6
    have h6 := h5.kept hg6
    have hsum := sum_any _ _ 1 1 _ _ _ _ (sls_one w6 (some ⟨b, off, none⟩) (n - 2) c (l.take (n - 2)) (Sl.mono0 (h6.take (n - 2) (by omega))) (fun x hx => HB.out x (List.mem_of_mem_take hx)) 23)
    rw [upto_one] at hsum
    have hcl := crc_lt (l.take (n - 2))
    clear hg6 h5 hB5 hW5 s0 s1
    generalize crc (l.take (n - 2)) = S at *
    go_wp2_with fail
    refine hsum.mono ?_
    rintro e w7 ⟨rfl, rfl⟩
    have hB7 := hB6.alloc (.cells #[.slice (some ⟨b, off, none⟩) (n - 2) c] 23)
    have hW7 := gb_alloc hW6 (.cells #[.slice (some ⟨b, off, none⟩) (n - 2) c] 23)
    have dS : (256 * ya + yb != (S : Int)) = true := by simpa using HS2.out
    clear hsum hB6 hW6 h6 HS2
    go_upto_region 8 with (fail)
    refine forget_world (fun w' => Blk w' w.heap.size 25 zero4 ∧ w.grownBy w' none) ⟨hB7, hW7⟩ ?_
    rintro wE ⟨hBE, hWE⟩
    have r0 := hBE.cell 0 _ rfl
    have r1 := hBE.cell 1 _ rfl
    have r2 := hBE.cell 2 _ rfl
    have r3 := hBE.cell 3 _ rfl
    have f0 := hBE.free 0
    have f1 := hBE.free 1
    have f2 := hBE.free 2
    have f3 := hBE.free 3
    go_wp2_with fail
    have hE := ((((hBE.set 0 (.int .i64 0)).set 1 (.int .i64 0)).set 2 (.int .i64 0)).set 3 (.slice none 0 0))
    refine bodyPost_ret (v := .tuple #[none4, .int .i64 12]) (by simp [results, Try.results11, go_sem, hE.cell 0 _ rfl, hE.cell 1 _ rfl, hE.cell 2 _ rfl, hE.cell 3 _ rfl]) rfl ⟨rfl, ?_⟩
    repeat (with_reducible (first | exact hWE | apply gb_drewN | apply gb_drew | apply gb_alloc | (refine gb_setNew ?_ (by simp <;> omega) _)))
end Im
end Go.Proofs.Ytifnmnchpgbimaa
