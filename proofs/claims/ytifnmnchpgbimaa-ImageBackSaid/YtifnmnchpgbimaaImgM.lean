/- Images: one bit that is another one. -/
import Derived.Test.YtifnmnchpgbimaaImgL
namespace Go.Proofs.Ytifnmnchpgbimaa
open Go.RowKit
set_option linter.unusedVariables false
set_option linter.unusedSimpArgs false
namespace Im
open Cm
theorem set_split (P : List Int) (k : Nat) (y : Int) (hk : k < P.length) : P.set k y = P.take k ++ y :: P.drop (k + 1) := by
  rw [List.set_eq_take_append_cons_drop, if_pos hk]
theorem get_split (P : List Int) (k : Nat) (hk : k < P.length) : P = P.take k ++ P.getD k 0 :: P.drop (k + 1) := by
  rw [List.getD_eq_getElem?_getD, List.getElem?_eq_getElem hk, Option.getD_some, List.getElem_cons_drop, List.take_append_drop]
/-- With one byte that is another one they are none. -/
theorem flip_bad {P : List Int} (h : verdict P = 0) (hb : ∀ x ∈ P, 0 ≤ x ∧ x ≤ 255) (k : Nat) (hk : k < P.length) (y : Int) (hy : 0 ≤ y ∧ y ≤ 255) (hne : y ≠ P.getD k 0) : verdict (P.set k y) ≠ 0 := by
  intro hv
  obtain ⟨h1, _, _, h4, _⟩ := verdict_ok h
  obtain ⟨_, _, _, g4, _⟩ := verdict_ok hv
  rw [List.length_set] at g4
  unfold at_ at h4 g4
  have hx := getD_bytes hb k
  by_cases h2 : k < P.length - 2
  · have e1 : (P.set k y).getD (P.length - 2) 0 = P.getD (P.length - 2) 0 := by
      rw [List.getD_eq_getElem?_getD, List.getElem?_set_ne (by omega), ← List.getD_eq_getElem?_getD]
    have e2 : (P.set k y).getD (P.length - 1) 0 = P.getD (P.length - 1) 0 := by
      rw [List.getD_eq_getElem?_getD, List.getElem?_set_ne (by omega), ← List.getD_eq_getElem?_getD]
    rw [e1, e2, h4] at g4
    have e3 : P.take (P.length - 2) = P.take k ++ P.getD k 0 :: (P.take (P.length - 2)).drop (k + 1) := by
      have := get_split (P.take (P.length - 2)) k (by simp; omega)
      rw [List.take_take, Nat.min_eq_left (by omega)] at this
      rw [show (P.take (P.length - 2)).getD k 0 = P.getD k 0 by simp [List.getD_eq_getElem?_getD, List.getElem?_take, h2, List.getElem?_eq_getElem hk]] at this
      exact this
    have e4 : (P.set k y).take (P.length - 2) = P.take k ++ y :: (P.take (P.length - 2)).drop (k + 1) := by
      rw [List.take_set, set_split _ _ _ (by simp; omega), List.take_take, Nat.min_eq_left (by omega)]
    rw [e4, e3] at g4
    have hd : (P.take k ++ P.getD k 0 :: (P.take (P.length - 2)).drop (k + 1)).drop (k + 1) = (P.take (P.length - 2)).drop (k + 1) := by rw [← e3]
    rw [hd] at g4
    have g5 : crc (P.take k ++ P.getD k 0 :: (P.take (P.length - 2)).drop (k + 1)) = crc (P.take k ++ y :: (P.take (P.length - 2)).drop (k + 1)) := by omega
    exact hne (crc_one _ _ _ _ (fun x hx => hb x (List.mem_of_mem_take (List.mem_of_mem_drop hx))) hx hy g5).symm
  · have e3 : (P.set k y).take (P.length - 2) = P.take (P.length - 2) := by
      rw [List.take_set, List.set_eq_of_length_le (by simp; omega)]
    rw [e3, ← h4] at g4
    have y0 := getD_bytes hb (P.length - 2)
    have y1 := getD_bytes hb (P.length - 1)
    rcases (show k = P.length - 2 ∨ k = P.length - 1 by omega) with h5 | h5
    · have e1 : (P.set k y).getD (P.length - 2) 0 = y := by
        rw [List.getD_eq_getElem?_getD, ← h5, List.getElem?_set_self hk]; rfl
      have e2 : (P.set k y).getD (P.length - 1) 0 = P.getD (P.length - 1) 0 := by
        rw [List.getD_eq_getElem?_getD, List.getElem?_set_ne (by omega), ← List.getD_eq_getElem?_getD]
      rw [e1, e2] at g4
      rw [h5] at hne
      omega
    · have e1 : (P.set k y).getD (P.length - 1) 0 = y := by
        rw [List.getD_eq_getElem?_getD, ← h5, List.getElem?_set_self hk]; rfl
      have e2 : (P.set k y).getD (P.length - 2) 0 = P.getD (P.length - 2) 0 := by
        rw [List.getD_eq_getElem?_getD, List.getElem?_set_ne (by omega), ← List.getD_eq_getElem?_getD]
      rw [e1, e2] at g4
      rw [h5] at hne
      omega
theorem set_bytes {P : List Int} (hb : ∀ x ∈ P, 0 ≤ x ∧ x ≤ 255) (k : Nat) (y : Int) (hy : 0 ≤ y ∧ y ≤ 255) : ∀ x ∈ P.set k y, 0 ≤ x ∧ x ≤ 255 := by
  intro x hx
  rcases List.mem_or_eq_of_mem_set hx with h | h
  · exact hb x h
  · rw [h]; exact hy
theorem nums_set (l : List Int) (k : Nat) (y : Int) : (nums .u8 l).set k (.int .u8 y) = nums .u8 (l.set k y) := by
  unfold nums
  rw [List.map_set]
/-- A bit of a byte turned. -/
theorem bit_turn (x : Int) (j : Nat) (hx : 0 ≤ x ∧ x ≤ 255) (hj : j < 8) : ∃ y, bits .xor .u8 x (2 ^ j % 256) = y ∧ 0 ≤ y ∧ y ≤ 255 ∧ y ≠ x := by
  obtain ⟨c, rfl⟩ := Int.eq_ofNat_of_zero_le hx.1
  have hj2 : 2 ^ j < 256 := by
    have : 2 ^ j ≤ 2 ^ 7 := Nat.pow_le_pow_right (by omega) (by omega)
    omega
  have h1 := u8_xor_nat c (2 ^ j) (by omega) hj2
  have h2 : c ^^^ 2 ^ j < 2 ^ 8 := Nat.xor_lt_two_pow (by omega) (by omega)
  refine ⟨((c ^^^ 2 ^ j : Nat) : Int), ?_, by omega, by omega, fun h => ?_⟩
  · have e1 : ((2 : Int) ^ j) = ((2 ^ j : Nat) : Int) := by simp
    rw [e1]
    generalize 2 ^ j = t at *
    rw [show (t : Int) % 256 = (t : Int) by omega]
    exact h1
  have h3 : c ^^^ 2 ^ j = c := by omega
  have h4 := congrArg (c ^^^ ·) h3
  simp only [← Nat.xor_assoc, Nat.xor_self, Nat.zero_xor] at h4
  have : 0 < 2 ^ j := Nat.pow_pos (by omega)
  omega
end Im
end Go.Proofs.Ytifnmnchpgbimaa
