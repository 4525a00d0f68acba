/- Images: the reference's Sum, two, Right. -/
import Derived.Test.YtifnmnchpgbimaaImgS
import Derived.Lib.SmallJoins
namespace Go.Proofs.Ytifnmnchpgbimaa
open Go.RowKit
set_option linter.unusedVariables false
set_option linter.unusedSimpArgs false
namespace Im
open Cm
attribute [local go_sem] alloc_drewN' setCell_drewN'
attribute [local go_sem high] run_index_bz
attribute [-go_sem] run_index_string
theorem bit_at {x : Int} (h : 0 ≤ x) (m : Nat) : (x / 2 ^ (7 - m)).tmod 2 = ((x.toNat / 2 ^ (7 - m) % 2 : Nat) : Int) := by
  obtain ⟨c, rfl⟩ := Int.eq_ofNat_of_zero_le h
  have e : ((c : Int) / 2 ^ (7 - m)) = ((c / 2 ^ (7 - m) : Nat) : Int) := by simp
  rw [e]
  show ((c / 2 ^ (7 - m) : Nat) : Int).tmod 2 = ((c / 2 ^ (7 - m) % 2 : Nat) : Int)
  generalize c / 2 ^ (7 - m) = d
  rw [Int.tmod_eq_emod_of_nonneg (by omega)]
  omega
theorem ofInt_i64 (a : Nat) (ha : a < 18446744073709551616) : (BitVec.ofInt 64 (a : Int)).toNat = a := by simp; omega
theorem i64_xor_nat (a b : Nat) (ha : a < 65536) (hb : b < 65536) : bits .xor .i64 (a : Int) (b : Int) = ((a ^^^ b : Nat) : Int) := by
  have hx : a ^^^ b < 2 ^ 16 := Nat.xor_lt_two_pow (by omega) (by omega)
  show IntKind.i64.wrap ((BitVec.ofInt 64 (a : Int) ^^^ BitVec.ofInt 64 (b : Int)).toNat : Int) = _
  rw [BitVec.toNat_xor, ofInt_i64 a (by omega), ofInt_i64 b (by omega), IntKind.wrap_i64]
  omega
set_option maxRecDepth 100000 in
set_option maxHeartbeats 2000000 in
theorem rsum_any (w : World) (s : ByteArray) (l : List Int) (hs : s.size = l.length) (hz : ∀ i, bz s i = l.getD i 0) (hl : l.length ≤ 9223372036854775807) (hb : ∀ x ∈ l, 0 ≤ x ∧ x ≤ 255) :
    Calls Try.prog 14 #[.string s] w fun e w' => e = .returned (.int .i64 (crc l)) ∧ w = w' := by
  have HZ := Lib.hid hz
  have HB := Lib.hid hb
  clear hz hb
  go_enter Try.func14, Try.ntmps14
  go_wp2_with fail
  go_loop [3, 4] (fun s i => ∃ (k : Nat) (S : Nat), k ≤ l.length ∧ i = .int .i64 k ∧ s = .int .i64 S ∧ Hid (S = crc (l.take k)) ∧ S < 65536) (fun _ i => l.length - (intOf i).toNat)
  case atStart => exact ⟨0, 65535, by omega, rfl, rfl, rfl, by omega⟩
  case round =>
    obtain ⟨k, S, hk, rfl, rfl, HS, hS⟩ := hrel
    by_cases hlt : k < l.length
    · have hx := getD_bytes HB.out k
      have hzk := HZ.out k
      generalize hxx : l.getD k 0 = x at *
      have hki : (k : Int) < s.size := by omega
      have hki2 : (k : Int) < (l.length : Nat) := by omega
      go_wp2_with fail
      go_loop [3, 5] (fun s j => ∃ (m R : Nat), m ≤ 8 ∧ j = .int .i64 (7 - (m : Int)) ∧ s = .int .i64 R ∧ Hid (R = refs S x.toNat m) ∧ R < 65536) (fun _ j => (intOf j + 1).toNat)
      case atStart => exact ⟨0, S, by omega, rfl, rfl, rfl, hS⟩
      case round =>
        obtain ⟨m, R, hm, rfl, rfl, HR, hR⟩ := hrel
        by_cases hml : m < 8
        · have hmi : decide (0 ≤ 7 - (m : Int)) = true := by simp; omega
          have hm7 : (m : Int) ≤ 7 := by omega
          have e := bit_at hx.1 m
          have HN : Hid (refbit R (x.toNat / 2 ^ (7 - m) % 2) = refs S x.toNat (m + 1)) := by
            show refbit R _ = refbit (refs S x.toNat m) _
            rw [show R = refs S x.toNat m from HR]
          have hlt1 := refbit_lt R (x.toNat / 2 ^ (7 - m) % 2)
          by_cases ht : R / 32768 ≠ x.toNat / 2 ^ (7 - m) % 2
          · have hb : ((R : Int) / 32768 != (x / 2 ^ (7 - m)).tmod 2) = true := by
              rw [e]
              generalize x.toNat / 2 ^ (7 - m) % 2 = X at ht
              simp
              omega
            have hx2 : bits .xor .i64 (2 * (R : Int) % 65536) 4129 = (refbit R (x.toNat / 2 ^ (7 - m) % 2) : Int) := by
              have := i64_xor_nat (2 * R % 65536) 4129 (by omega) (by omega)
              rw [show refbit R (x.toNat / 2 ^ (7 - m) % 2) = (2 * R % 65536) ^^^ 4129 by unfold refbit; rw [if_pos ht], ← this]
              rfl
            generalize refbit R (x.toNat / 2 ^ (7 - m) % 2) = B at *
            clear e ht
            go_wp2_with fail
            exact ⟨⟨m + 1, B, by omega, by rw [show (7 : Int) - m - 1 = 7 - ((m + 1 : Nat) : Int) by omega], rfl, HN, hlt1⟩, by simp [intOf]; omega⟩
          · have hb : ((R : Int) / 32768 != (x / 2 ^ (7 - m)).tmod 2) = false := by
              rw [e]
              generalize x.toNat / 2 ^ (7 - m) % 2 = X at ht
              simp
              omega
            have hx2 : 2 * (R : Int) % 65536 = (refbit R (x.toNat / 2 ^ (7 - m) % 2) : Int) := by
              rw [show refbit R (x.toNat / 2 ^ (7 - m) % 2) = 2 * R % 65536 by unfold refbit; rw [if_neg ht]]
              omega
            generalize refbit R (x.toNat / 2 ^ (7 - m) % 2) = B at *
            clear e ht
            go_wp2_with fail
            exact ⟨⟨m + 1, B, by omega, by rw [show (7 : Int) - m - 1 = 7 - ((m + 1 : Nat) : Int) by omega], by rw [← hx2], HN, hlt1⟩, by simp [intOf]; omega⟩
        · obtain rfl : m = 8 := by omega
          have HN : Hid (R = crc (l.take (k + 1))) := by
            have e1 : l.take (k + 1) = l.take k ++ [x] := by
              rw [List.take_add_one, ← hxx, List.getD_eq_getElem?_getD, List.getElem?_eq_getElem hlt]
              rfl
            show R = _
            rw [e1, crc_app, run_cons, run_nil, ← show S = crc (l.take k) from HS, ← byte_refs S x.toNat hS (by omega)]
            exact HR
          clear HR HS
          go_wp2_with fail
          exact ⟨⟨k + 1, R, by omega, rfl, rfl, HN, hR⟩, by simp [intOf]; omega⟩
    · obtain rfl : k = l.length := by omega
      have HN : S = crc l := by
        have := show S = crc (l.take l.length) from HS
        rwa [List.take_length] at this
      subst HN
      clear HS hS
      have hki : decide (((l.length : Nat) : Int) < s.size) = false := by simp; omega
      go_wp2_with fail
      go_ret
      exact ⟨rfl, rfl⟩
end Im
end Go.Proofs.Ytifnmnchpgbimaa
