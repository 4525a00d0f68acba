/- Images: small laws for the statements. -/
import Derived.Test.YtifnmnchpgbimaaImgX
namespace Go.Proofs.Ytifnmnchpgbimaa
open Go.RowKit
set_option linter.unusedVariables false
set_option linter.unusedSimpArgs false
namespace Im
open Cm
theorem mask16 (x : Int) : bits .and .i64 x 65535 = x % 65536 := by
  show IntKind.i64.wrap ((BitVec.ofInt 64 x &&& BitVec.ofInt 64 65535).toNat : Int) = _
  rw [BitVec.toNat_and]
  have h2 : (BitVec.ofInt 64 65535).toNat = 2^16 - 1 := by decide
  rw [h2, Nat.and_two_pow_sub_one_eq_mod, BitVec.toNat_ofInt, IntKind.wrap_i64]
  omega
theorem mask24 (x : Int) : bits .and .i64 x 16777215 = x % 16777216 := by
  show IntKind.i64.wrap ((BitVec.ofInt 64 x &&& BitVec.ofInt 64 16777215).toNat : Int) = _
  rw [BitVec.toNat_and]
  have h2 : (BitVec.ofInt 64 16777215).toNat = 2^24 - 1 := by decide
  rw [h2, Nat.and_two_pow_sub_one_eq_mod, BitVec.toNat_ofInt, IntKind.wrap_i64]
  omega
theorem mask8 (x : Int) : bits .and .i64 x 255 = x % 256 := by
  show IntKind.i64.wrap ((BitVec.ofInt 64 x &&& BitVec.ofInt 64 255).toNat : Int) = _
  rw [BitVec.toNat_and]
  have h2 : (BitVec.ofInt 64 255).toNat = 2^8 - 1 := by decide
  rw [h2, Nat.and_two_pow_sub_one_eq_mod, BitVec.toNat_ofInt, IntKind.wrap_i64]
  omega
/-- No beginning of an image's bytes is one. -/
theorem short_bad {P : List Int} (h : verdict P = 0) (k : Nat) (hk : k < P.length) : verdict (P.take k) ≠ 0 := by
  intro hv
  obtain ⟨h1, _, h3, _⟩ := verdict_ok h
  obtain ⟨g1, _, g3, _⟩ := verdict_ok hv
  unfold long at_ at h3 g3
  have hl : (P.take k).length = k := by simp; omega
  rw [hl] at g1 g3
  have e7 : (P.take k).getD 7 0 = P.getD 7 0 := by simp [List.getD_eq_getElem?_getD, List.getElem?_take, show 7 < k by omega]
  have e8 : (P.take k).getD 8 0 = P.getD 8 0 := by simp [List.getD_eq_getElem?_getD, List.getElem?_take, show 8 < k by omega]
  rw [e7, e8] at g3
  omega
/-- None with anything behind. -/
theorem more_bad {P : List Int} (h : verdict P = 0) (x : List Int) (hx : 0 < x.length) : verdict (P ++ x) ≠ 0 := by
  intro hv
  obtain ⟨h1, _, h3, _⟩ := verdict_ok h
  obtain ⟨g1, _, g3, _⟩ := verdict_ok hv
  unfold long at_ at h3 g3
  have e7 : (P ++ x).getD 7 0 = P.getD 7 0 := by simp [List.getD_eq_getElem?_getD, List.getElem?_append, show 7 < P.length by omega]
  have e8 : (P ++ x).getD 8 0 = P.getD 8 0 := by simp [List.getD_eq_getElem?_getD, List.getElem?_append, show 8 < P.length by omega]
  rw [e7, e8, List.length_append] at g3
  omega
theorem own_nil (w : World) : (w.alloc (.cells #[] 5)).ownsRow w.heap.size 5 1 (.slice (some ⟨w.heap.size, 0, none⟩) 0 0) 0 (nums .u8 []) := own_empty w
end Im
end Go.Proofs.Ytifnmnchpgbimaa
