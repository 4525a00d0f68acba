/- Images: the contract of Sum. -/
import Derived.Test.YtifnmnchpgbimaaImgA
import Derived.LoopTactic
namespace Go.Proofs.Ytifnmnchpgbimaa
open Go.RowKit
set_option linter.unusedVariables false
set_option linter.unusedSimpArgs false
namespace Im
open Cm
attribute [local go_sem] alloc_drewN' setCell_drewN'
/-- The bytes of the first k. -/
def upto (ls : Nat → List Int) (k : Nat) : List Int := ((List.range k).map ls).flatten
theorem upto_succ (ls : Nat → List Int) (k : Nat) : upto ls (k + 1) = upto ls k ++ ls k := by simp [upto, List.range_succ]
/-- A slice of slices of bytes. -/
structure Sls (w : World) (A : Option Addr) (n c : Nat) (sa : Nat → Option Addr) (sn sc : Nat → Nat) (ls : Nat → List Int) : Prop where
  le : n ≤ c
  cap : c ≤ 9223372036854775807
  rd : 0 < n → ∃ b off, A = some ⟨b, off, none⟩ ∧ ∀ i, i < n → w.cell? ⟨b, off + i, none⟩ = some (.slice (sa i) (sn i) (sc i))
  sl : ∀ i, i < n → Sl w 0 (sa i) (sn i) (sc i) (ls i)
  ok : ∀ i, i < n → ∀ x ∈ ls i, 0 ≤ x ∧ x ≤ 255
set_option maxRecDepth 100000 in
set_option maxHeartbeats 2000000 in
theorem sum_any (w : World) (A : Option Addr) (n c : Nat) (sa : Nat → Option Addr) (sn sc : Nat → Nat) (ls : Nat → List Int) (h : Sls w A n c sa sn sc ls) :
    Calls Try.prog 13 #[.slice A n c] w fun e w' => e = .returned (.int .u16 (crc (upto ls n))) ∧ w = w' := by
  have H := Lib.hid h
  have hn := h.le
  have hcp := h.cap
  clear h
  go_enter Try.func13, Try.ntmps13
  go_wp2_with fail
  go_loop [3, 11] (fun s i => ∃ (k : Nat) (S : Nat), k ≤ n ∧ i = .int .i64 k ∧ s = .int .u16 S ∧ Hid (S = crc (upto ls k)) ∧ S < 65536) (fun _ i => n - (intOf i).toNat)
  case atStart => exact ⟨0, 65535, by omega, rfl, rfl, rfl, by omega⟩
  case round =>
    obtain ⟨k, S, hk, rfl, rfl, HS, hS⟩ := hrel
    by_cases hlt : k < n
    · obtain ⟨b, off, rfl, hc⟩ := H.out.rd (by omega)
      have c0 := hc k hlt
      have HL := Lib.hid (H.out.sl k hlt)
      have HB := Lib.hid (H.out.ok k hlt)
      have hln := (H.out.sl k hlt).len
      have hcn := (H.out.sl k hlt).le
      have hcc := (H.out.sl k hlt).cap
      clear hc
      generalize sa k = Ak at *
      generalize sn k = nk at *
      generalize sc k = ck at *
      generalize hlk : ls k = lk at *
      go_wp2_with fail
      go_loop [3, 17] (fun s j => ∃ (q T : Nat), q ≤ nk ∧ j = .int .i64 q ∧ s = .int .u16 T ∧ Hid (T = run byte (lk.take q) S) ∧ T < 65536) (fun _ j => nk - (intOf j).toNat)
      case atStart => exact ⟨0, S, by omega, rfl, rfl, rfl, hS⟩
      case round =>
        obtain ⟨q, T, hq, rfl, rfl, HT, hT⟩ := hrel
        by_cases hql : q < nk
        · obtain ⟨b2, off2, rfl, _, _, hc2⟩ := HL.out.rd (by omega)
          have c2 := hc2 q hql
          have hx := getD_bytes HB.out q
          generalize hxx : lk.getD q 0 = x at *
          have hqi : (q : Int) < nk := by omega
          clear hc2
          obtain ⟨U, hU, HU, hU2⟩ : ∃ U : Nat, bits .xor .u16 (T : Int) (x * 256) = (U : Int) ∧ Hid (U = T ^^^ (x.toNat * 256)) ∧ U < 65536 := by
            refine ⟨T ^^^ (x.toNat * 256), ?_, rfl, xor_lt hT (by omega)⟩
            have := u16_xor_nat T (x.toNat * 256) hT (by omega)
            rw [← this, show ((x.toNat * 256 : Nat) : Int) = x * 256 by omega]
          go_wp2_with fail
          go_loop [3, 26] (fun s r => ∃ (m R : Nat), m ≤ 8 ∧ r = .int .i64 m ∧ s = .int .u16 R ∧ Hid (R = rounds m U) ∧ R < 65536) (fun _ r => 8 - (intOf r).toNat)
          case atStart => exact ⟨0, U, by omega, rfl, rfl, rfl, hU2⟩
          case round =>
            obtain ⟨m, R, hm, rfl, rfl, HR, hR⟩ := hrel
            by_cases hml : m < 8
            · have hmi : (m : Int) < 8 := by omega
              have HN : Hid (bit1 R = rounds (m + 1) U) := by
                show bit1 R = bit1 (rounds m U)
                rw [show R = rounds m U from HR]
              have hlt1 := bit1_lt R
              by_cases hT : 32768 ≤ R
              · have ha : bits .and .u16 (R : Int) 32768 = 32768 := by
                  have := u16_and_nat R 32768 hR (by omega)
                  rw [show (32768 : Int) = ((32768 : Nat) : Int) by rfl, this, nat_bit 15 R, show R / 2 ^ 15 % 2 * 2 ^ 15 = 32768 by omega]
                have hx2 : bits .xor .u16 (IntKind.u16.wrap ((R : Int) * 2)) 4129 = (bit1 R : Int) := by
                  have := u16_xor_nat (R * 2 % 65536) 4129 (by omega) (by omega)
                  rw [IntKind.wrap_u16, show bit1 R = (R * 2 % 65536) ^^^ 4129 by unfold bit1; rw [if_pos hT], ← this]
                  rfl
                generalize bit1 R = B at *
                go_wp2_with fail
                exact ⟨⟨m + 1, B, by omega, rfl, rfl, HN, hlt1⟩, by simp [intOf]; omega⟩
              · have ha : bits .and .u16 (R : Int) 32768 = 0 := by
                  have := u16_and_nat R 32768 hR (by omega)
                  rw [show (32768 : Int) = ((32768 : Nat) : Int) by rfl, this, nat_bit 15 R, show R / 2 ^ 15 % 2 * 2 ^ 15 = 0 by omega]
                  rfl
                have hx2 : (R : Int) * 2 = (bit1 R : Int) := by
                  rw [show bit1 R = R * 2 by unfold bit1; rw [if_neg hT]; omega]
                  rfl
                generalize bit1 R = B at *
                go_wp2_with fail
                exact ⟨⟨m + 1, B, by omega, rfl, by rw [← hx2], HN, hlt1⟩, by simp [intOf]; omega⟩
            · obtain rfl : m = 8 := by omega
              have HN : Hid (R = run byte (lk.take (q + 1)) S) := by
                have e1 : lk.take (q + 1) = lk.take q ++ [x] := by
                  rw [List.take_add_one, ← hxx, List.getD_eq_getElem?_getD, List.getElem?_eq_getElem (by omega)]
                  rfl
                show R = _
                rw [e1, run_app, run_cons, run_nil, ← show T = run byte (lk.take q) S from HT]
                exact (show R = rounds 8 U from HR).trans (by rw [show U = T ^^^ (x.toNat * 256) from HU]; rfl)
              clear HR HU hU HT
              go_wp2_with fail
              exact ⟨⟨q + 1, R, by omega, rfl, rfl, HN, hR⟩, by simp [intOf]; omega⟩
        · obtain rfl : q = nk := by omega
          have HN : Hid (T = crc (upto ls (k + 1))) := by
            show T = _
            rw [upto_succ, crc_app, ← show S = crc (upto ls k) from HS, hlk]
            have := show T = run byte (lk.take q) S from HT
            rw [List.take_of_length_le (by omega)] at this
            exact this
          clear HT HS
          go_wp2_with fail
          exact ⟨⟨k + 1, T, by omega, rfl, rfl, HN, hT⟩, by simp [intOf]; omega⟩
    · obtain rfl : k = n := by omega
      go_wp2_with fail
      go_ret
      exact ⟨by rw [show S = crc (upto ls k) from HS]; rfl, rfl⟩
end Im
end Go.Proofs.Ytifnmnchpgbimaa
