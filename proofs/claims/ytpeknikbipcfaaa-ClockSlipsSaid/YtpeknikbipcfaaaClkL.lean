/- Contracts of Slips: the clock's, and the reference's: each is true just where the slips may be. -/
import Derived.Test.YtpeknikbipcfaaaOpen
namespace Go.Proofs.Ytpeknikbipcfaaa
open Go.RowKit
set_option linter.unusedVariables false
namespace Clk
/-- The first n slips may be. -/
def slipsOk (z : Nat → Int) (n : Nat) (gap : Int) : Prop := ∀ i, i < n → -1 ≤ z i ∧ z i ≤ 1 ∧ ∀ k, k < i → z i ≠ 0 → z k ≠ 0 → gap ≤ (i : Int) - (k : Int)
theorem slipsOk_succ {z : Nat → Int} {n : Nat} {gap : Int} (h : slipsOk z n gap) (h1 : -1 ≤ z n) (h2 : z n ≤ 1) (h3 : ∀ k, k < n → z n ≠ 0 → z k ≠ 0 → gap ≤ (n : Int) - (k : Int)) : slipsOk z (n + 1) gap := by
  intro i hi
  by_cases e : i = n
  · subst e; exact ⟨h1, h2, h3⟩
  · exact h i (by omega)
/-- Where the last slip was. -/
def lastAt (z : Nat → Int) (n : Nat) (l : Int) : Prop := (l = -1 ∧ ∀ k, k < n → z k = 0) ∨ ∃ m : Nat, l = m ∧ m < n ∧ z m ≠ 0 ∧ ∀ k, m < k → k < n → z k = 0
theorem lastAt_zero {z : Nat → Int} {n : Nat} {l : Int} (h : lastAt z n l) (h0 : z n = 0) : lastAt z (n + 1) l := by
  rcases h with ⟨h1, h2⟩ | ⟨m, h1, h2, h3, h4⟩
  · refine .inl ⟨h1, fun k hk => ?_⟩
    by_cases e : k = n
    · subst e; exact h0
    · exact h2 k (by omega)
  · refine .inr ⟨m, h1, by omega, h3, fun k hk hk' => ?_⟩
    by_cases e : k = n
    · subst e; exact h0
    · exact h4 k hk (by omega)
theorem lastAt_new {z : Nat → Int} {n : Nat} (h0 : z n ≠ 0) : lastAt z (n + 1) n := .inr ⟨n, rfl, by omega, h0, fun k h1 h2 => by omega⟩
theorem slipsOk_zero {z : Nat → Int} {n : Nat} {gap : Int} (h : slipsOk z n gap) (h0 : z n = 0) : slipsOk z (n + 1) gap :=
  slipsOk_succ h (by omega) (by omega) fun k _ h1 => absurd h0 h1
theorem slipsOk_far {z : Nat → Int} {n : Nat} {gap l : Int} (h : slipsOk z n gap) (hl : lastAt z n l) (h1 : -1 ≤ z n) (h2 : z n ≤ 1) (hf : l < 0 ∨ gap ≤ n - l) : slipsOk z (n + 1) gap := by
  refine slipsOk_succ h h1 h2 fun k hk _ hz => ?_
  rcases hl with ⟨h3, h4⟩ | ⟨m, h3, h4, h5, h6⟩
  · exact absurd (h4 k hk) hz
  · have : k ≤ m := by
      rcases Nat.lt_or_ge m k with hmk | hmk
      · exact absurd (h6 k hmk hk) hz
      · exact hmk
    omega
theorem slips_near {z : Nat → Int} {n len : Nat} {gap l : Int} (hl : lastAt z n l) (hn : n < len) (h0 : z n ≠ 0) (h1 : 0 ≤ l) (h2 : n - l < gap) : ¬ slipsOk z len gap := by
  intro h
  rcases hl with ⟨h3, _⟩ | ⟨m, h3, h4, h5, _⟩
  · omega
  · have := (h n hn).2.2 m h4 h0 h5
    omega
theorem slips_out {z : Nat → Int} {n len : Nat} {gap : Int} (hn : n < len) (h : z n < -1 ∨ 1 < z n) : ¬ slipsOk z len gap := by
  intro h'
  have := h' n hn
  omega

/-- No slip among the first m is too near to the one at k. -/
def nearOk (z : Nat → Int) (k m : Nat) (gap : Int) : Prop := ∀ j, j < m → z k ≠ 0 → z j ≠ 0 → gap ≤ (k : Int) - (j : Int)
theorem nearOk_succ {z : Nat → Int} {k m : Nat} {gap : Int} (h : nearOk z k m gap) (hm : z k ≠ 0 → z m ≠ 0 → gap ≤ (k : Int) - (m : Int)) : nearOk z k (m + 1) gap := by
  intro j hj h1 h2
  by_cases e : j = m
  · subst e; exact hm h1 h2
  · exact h j (by omega) h1 h2
def SlipsPost (z : Nat → Int) (len : Nat) (gap : Int) (w : World) (e : Ending) (w' : World) : Prop := ∃ b : Bool, e = .returned (.bool b) ∧ (b = true ↔ slipsOk z len gap) ∧ w = w'
theorem slips_yes {z : Nat → Int} {len : Nat} {gap : Int} {w : World} (h : slipsOk z len gap) : SlipsPost z len gap w (.returned (.bool true)) w := ⟨true, rfl, by simp [h], rfl⟩
theorem slips_no {z : Nat → Int} {len : Nat} {gap : Int} {w : World} (h : ¬ slipsOk z len gap) : SlipsPost z len gap w (.returned (.bool false)) w := ⟨false, rfl, by simp [h], rfl⟩

set_option maxHeartbeats 1000000 in
theorem slips_any (w : World) (B : Nat) (A : Option Addr) (len cap : Nat) (z : Nat → Int) (gap : Int) (hm : len ≤ 9223372036854775807) (hr : Rd w B A len (fun i => .int .i64 (z i))) :
    Calls Try.prog 16 #[.slice A len cap, .int .i64 gap] w (SlipsPost z len gap w) := by
  have HR := Lib.hid hr
  clear hr
  go_enter Try.func16, Try.ntmps16
  go_wp2
  go_loop [5, 10] (fun l i => ∃ (k : Nat) (q : Int), k ≤ len ∧ i = .int .i64 k ∧ l = .int .i64 q ∧ Hid (slipsOk z k gap ∧ lastAt z k q) ∧ -1 ≤ q ∧ q < k) (fun _ i => len - (intOf i).toNat)
  case atStart => exact ⟨0, -1, by omega, rfl, rfl, ⟨fun i hi => absurd hi (by omega), .inl ⟨rfl, fun k hk => absurd hk (by omega)⟩⟩, by omega, by omega⟩
  case round =>
    obtain ⟨k, q, hk, rfl, rfl, H, q0, q1⟩ := hrel
    by_cases hlt : k < len
    · obtain ⟨b, off, rfl, hb, hc⟩ := HR.out (by omega)
      have hcell := hc k hlt
      clear hc
      go_wp2
      · go_ret
        exact slips_no (slips_out hlt (by omega))
      · have h0 : (z k == 0) = true := by assumption
        have h0' : z k = 0 := by simpa using h0
        go_round
        case rel => exact ⟨k + 1, q, by omega, by go_num, rfl, ⟨slipsOk_zero H.out.1 h0', lastAt_zero H.out.2 h0'⟩, by omega, by omega⟩
        case measure => simp [intOf]; omega
      · have h0 : (z k == 0) = false := by assumption
        have h0' : z k ≠ 0 := by simpa using h0
        go_ret
        exact slips_no (slips_near H.out.2 hlt h0' (by omega) (by omega))
      · have h0 : (z k == 0) = false := by assumption
        have h0' : z k ≠ 0 := by simpa using h0
        have hk2 := slipsOk_far H.out.1 H.out.2 (by omega) (by omega) (.inr (by omega))
        go_round
        case rel => exact ⟨k + 1, k, by omega, by go_num, rfl, ⟨hk2, lastAt_new h0'⟩, by omega, by omega⟩
        case measure => simp [intOf]; omega
      · have h0 : (z k == 0) = false := by assumption
        have h0' : z k ≠ 0 := by simpa using h0
        have hk2 := slipsOk_far H.out.1 H.out.2 (by omega) (by omega) (.inl (by omega))
        go_round
        case rel => exact ⟨k + 1, k, by omega, by go_num, rfl, ⟨hk2, lastAt_new h0'⟩, by omega, by omega⟩
        case measure => simp [intOf]; omega
      · go_ret
        exact slips_no (slips_out hlt (by omega))
    · obtain rfl : k = len := by omega
      go_wp2
      go_ret
      exact slips_yes H.out.1

set_option maxHeartbeats 1000000 in
theorem rslips_any (w : World) (B : Nat) (A : Option Addr) (len cap : Nat) (z : Nat → Int) (gap : Int) (hm : len ≤ 9223372036854775807) (hr : Rd w B A len (fun i => .int .i64 (z i))) :
    Calls Try.prog 17 #[.slice A len cap, .int .i64 gap] w (SlipsPost z len gap w) := by
  have HR := Lib.hid hr
  clear hr
  go_enter Try.func17, Try.ntmps17
  go_wp2
  go_loop [5] (fun i => ∃ k : Nat, k ≤ len ∧ i = .int .i64 k ∧ Hid (slipsOk z k gap)) (fun i => len - (intOf i).toNat)
  case atStart => exact ⟨0, by omega, rfl, fun i hi => absurd hi (by omega)⟩
  case round =>
    obtain ⟨k, hk, rfl, H⟩ := hrel
    by_cases hlt : k < len
    · obtain ⟨b, off, rfl, hb, hc⟩ := HR.out (by omega)
      have hcell := hc k hlt
      have HC := Lib.hid hc
      clear hc
      go_wp2
      · go_ret
        exact slips_no (slips_out hlt (by omega))
      · go_loop [6] (fun i => ∃ m : Nat, m ≤ k ∧ i = .int .i64 m ∧ nearOk z k m gap) (fun i => k - (intOf i).toNat)
        case atStart => exact ⟨0, by omega, rfl, fun i hi => absurd hi (by omega)⟩
        case round =>
          obtain ⟨m, hmk, rfl, HM⟩ := hrel
          by_cases hlt2 : m < k
          · have hcell2 := HC.out m (by omega)
            go_wp2
            · have h0 : z k = 0 := by assumption
              go_round
              case rel => exact ⟨m + 1, by omega, by go_num, nearOk_succ HM fun h _ => absurd h0 h⟩
              case measure => simp [intOf]; omega
            · have h0 : z m = 0 := by assumption
              go_round
              case rel => exact ⟨m + 1, by omega, by go_num, nearOk_succ HM fun _ h => absurd h0 h⟩
              case measure => simp [intOf]; omega
            · have h1 : ¬z k = 0 := by assumption
              have h2 : ¬z m = 0 := by assumption
              go_ret
              refine slips_no fun h => ?_
              have := (h k hlt).2.2 m hlt2 h1 h2
              omega
            · have h1 : ¬z k = 0 := by assumption
              have h2 : ¬z m = 0 := by assumption
              have h3 : ((z k != 0) = false ∨ (z m != 0) = false) ∨ gap ≤ (k : Int) - (m : Int) := by assumption
              have h4 : gap ≤ (k : Int) - (m : Int) := by
                rcases h3 with (h | h) | h
                · exact absurd (by simpa using h) h1
                · exact absurd (by simpa using h) h2
                · exact h
              go_round
              case rel => exact ⟨m + 1, by omega, by go_num, nearOk_succ HM fun _ _ => h4⟩
              case measure => simp [intOf]; omega
          · obtain rfl : m = k := by omega
            go_wp2
            go_round
            case rel => exact ⟨m + 1, by omega, by go_num, slipsOk_succ H.out (by omega) (by omega) HM⟩
            case measure => simp [intOf]; omega
      · go_ret
        exact slips_no (slips_out hlt (by omega))
    · obtain rfl : k = len := by omega
      go_wp2
      go_ret
      exact slips_yes H.out
end Clk
end Go.Proofs.Ytpeknikbipcfaaa
