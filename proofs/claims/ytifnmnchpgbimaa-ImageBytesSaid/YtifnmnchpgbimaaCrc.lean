/- The check sum: bit by bit, byte by byte, in plain numbers. -/
import Derived.Test.YtifnmnchpgbimaaByt
import Derived.Laws.BitsAllLaws
namespace Go.Proofs.Ytifnmnchpgbimaa
set_option linter.unusedVariables false
set_option linter.unusedSimpArgs false
namespace Im
/-- One round of the code's. -/
def bit1 (s : Nat) : Nat := if 32768 ≤ s then (s * 2 % 65536) ^^^ 4129 else s * 2 % 65536
/-- One bit of the reference's. -/
def refbit (s b : Nat) : Nat := if s / 32768 ≠ b then (2 * s % 65536) ^^^ 4129 else 2 * s % 65536
def rounds : Nat → Nat → Nat
  | 0, s => s
  | k + 1, s => bit1 (rounds k s)
/-- One byte. -/
def byte (s c : Nat) : Nat := rounds 8 (s ^^^ (c * 256))
/-- The first k bits of a byte, the highest first. -/
def refs (s c : Nat) : Nat → Nat
  | 0 => s
  | k + 1 => refbit (refs s c k) (c / 2 ^ (7 - k) % 2)
def run (f : Nat → Nat → Nat) : List Int → Nat → Nat
  | [], s => s
  | c :: l, s => run f l (f s c.toNat)
def crc (l : List Int) : Nat := run byte l 65535
theorem xor_lt {a b : Nat} (ha : a < 65536) (hb : b < 65536) : a ^^^ b < 65536 := Nat.xor_lt_two_pow (n := 16) ha hb
theorem bit1_lt (s : Nat) : bit1 s < 65536 := by
  unfold bit1
  split
  · exact xor_lt (by omega) (by omega)
  · omega
theorem rounds_lt (k s : Nat) (h : s < 65536) : rounds k s < 65536 := by
  cases k with
  | zero => exact h
  | succ k => exact bit1_lt _
theorem byte_lt (s c : Nat) : byte s c < 65536 := bit1_lt _
theorem refbit_lt (s b : Nat) : refbit s b < 65536 := by
  unfold refbit
  split
  · exact xor_lt (by omega) (by omega)
  · omega
theorem refs_lt (s c k : Nat) (h : s < 65536) : refs s c k < 65536 := by
  cases k with
  | zero => exact h
  | succ k => exact refbit_lt _ _
theorem run_nil (f : Nat → Nat → Nat) (s : Nat) : run f [] s = s := rfl
theorem run_cons (f : Nat → Nat → Nat) (s : Nat) (c : Int) (l : List Int) : run f (c :: l) s = run f l (f s c.toNat) := rfl
theorem run_app (f : Nat → Nat → Nat) (l m : List Int) : ∀ s, run f (l ++ m) s = run f m (run f l s) := by
  induction l with
  | nil => intro s; rfl
  | cons c l ih => intro s; exact ih _
theorem run_lt (f : Nat → Nat → Nat) (hf : ∀ s c, f s c < 65536) (l : List Int) : ∀ s, s < 65536 → run f l s < 65536 := by
  induction l with
  | nil => intro s h; exact h
  | cons c l ih => intro s h; exact ih _ (hf _ _)
theorem crc_lt (l : List Int) : crc l < 65536 := by unfold crc; exact run_lt byte byte_lt l _ (by omega)
theorem crc_app (l m : List Int) : crc (l ++ m) = run byte m (crc l) := by unfold crc; exact run_app byte l m _
theorem dbl_xor (a b : Nat) : (a ^^^ b) * 2 % 65536 = (a * 2 % 65536) ^^^ (b * 2 % 65536) := by
  have h1 : (a ^^^ b) * 2 = (a * 2) ^^^ (b * 2) := by
    have := Nat.shiftLeft_xor_distrib (a := a) (b := b) (i := 1)
    simpa [Nat.shiftLeft_eq] using this
  rw [h1]
  exact Nat.xor_mod_two_pow (n := 16)
theorem top_xor (a b : Nat) : (a ^^^ b) / 32768 = (a / 32768) ^^^ (b / 32768) := Nat.xor_div_two_pow (n := 15)
theorem step_xor (r d : Nat) (hr : r < 65536) (hd : d < 65536) : bit1 (r ^^^ d) = refbit r (d / 32768) ^^^ (d * 2 % 65536) := by
  have hx := xor_lt hr hd
  have ht := top_xor r d
  have h1 : r / 32768 = 0 ∨ r / 32768 = 1 := by omega
  have h2 : d / 32768 = 0 ∨ d / 32768 = 1 := by omega
  have hc : (32768 ≤ r ^^^ d) ↔ r / 32768 ≠ d / 32768 := by
    rcases h1 with h1 | h1 <;> rcases h2 with h2 | h2 <;> rw [h1, h2] at ht ⊢ <;> simp at ht ⊢ <;> omega
  unfold bit1 refbit
  rw [dbl_xor, Nat.mul_comm 2 r]
  by_cases h : r / 32768 ≠ d / 32768
  · rw [if_pos (hc.2 h), if_pos h, Nat.xor_assoc, Nat.xor_assoc, Nat.xor_comm (d * 2 % 65536) 4129]
  · rw [if_neg (fun h' => h (hc.1 h')), if_neg h]
/-- The code's rounds and the reference's bits keep step. -/
theorem keep_step (s c : Nat) (hs : s < 65536) (hc : c < 256) : ∀ k, k ≤ 8 → rounds k (s ^^^ (c * 256)) = refs s c k ^^^ (c * 2 ^ (8 + k) % 65536)
  | 0, _ => by
    show s ^^^ (c * 256) = s ^^^ (c * 2 ^ 8 % 65536)
    rw [show c * 2 ^ 8 % 65536 = c * 256 by omega]
  | k + 1, hk => by
    show bit1 (rounds k (s ^^^ (c * 256))) = refbit (refs s c k) (c / 2 ^ (7 - k) % 2) ^^^ (c * 2 ^ (8 + (k + 1)) % 65536)
    rw [keep_step s c hs hc k (by omega), step_xor _ _ (refs_lt _ _ _ hs) (by omega)]
    have e1 : c * 2 ^ (8 + k) % 65536 / 32768 = c / 2 ^ (7 - k) % 2 := by
      obtain rfl | rfl | rfl | rfl | rfl | rfl | rfl | rfl : k = 0 ∨ k = 1 ∨ k = 2 ∨ k = 3 ∨ k = 4 ∨ k = 5 ∨ k = 6 ∨ k = 7 := by omega
      all_goals simp only [Nat.reduceAdd, Nat.reducePow, Nat.reduceSub]; omega
    have e2 : c * 2 ^ (8 + k) % 65536 * 2 % 65536 = c * 2 ^ (8 + (k + 1)) % 65536 := by
      rw [show 8 + (k + 1) = 8 + k + 1 by omega, Nat.pow_succ, ← Nat.mul_assoc]
      omega
    rw [e1, e2]
theorem byte_refs (s c : Nat) (hs : s < 65536) (hc : c < 256) : refs s c 8 = byte s c := by
  unfold byte
  rw [keep_step s c hs hc 8 (by omega), show c * 2 ^ (8 + 8) % 65536 = 0 by omega, Nat.xor_zero]
theorem xor_cancel {a b c : Nat} (h : a ^^^ c = b ^^^ c) : a = b := by
  have := congrArg (· ^^^ c) h
  simpa [Nat.xor_assoc] using this
theorem low_xor (a b : Nat) : (a ^^^ b) % 2 = (a % 2) ^^^ (b % 2) := Nat.xor_mod_two_pow (n := 1)
theorem bit1_inj {s t : Nat} (hs : s < 65536) (ht : t < 65536) (h : bit1 s = bit1 t) : s = t := by
  unfold bit1 at h
  by_cases h1 : 32768 ≤ s
  · rw [if_pos h1] at h
    by_cases h2 : 32768 ≤ t
    · rw [if_pos h2] at h
      have := xor_cancel h
      omega
    · rw [if_neg h2] at h
      have := congrArg (· % 2) h
      simp only [low_xor] at this
      rw [show s * 2 % 65536 % 2 = 0 by omega, show t * 2 % 65536 % 2 = 0 by omega] at this
      simp at this
  · rw [if_neg h1] at h
    by_cases h2 : 32768 ≤ t
    · rw [if_pos h2] at h
      have := congrArg (· % 2) h
      simp only [low_xor] at this
      rw [show s * 2 % 65536 % 2 = 0 by omega, show t * 2 % 65536 % 2 = 0 by omega] at this
      simp at this
    · rw [if_neg h2] at h
      omega
theorem rounds_inj : ∀ (k : Nat) {s t : Nat}, s < 65536 → t < 65536 → rounds k s = rounds k t → s = t
  | 0, _, _, _, _, h => h
  | k + 1, s, t, hs, ht, h => rounds_inj k hs ht (bit1_inj (rounds_lt k s hs) (rounds_lt k t ht) h)
theorem byte_inj_state {s t c : Nat} (hs : s < 65536) (ht : t < 65536) (hc : c < 256) (h : byte s c = byte t c) : s = t :=
  xor_cancel (rounds_inj 8 (xor_lt hs (by omega)) (xor_lt ht (by omega)) h)
theorem byte_inj {s c d : Nat} (hs : s < 65536) (hc : c < 256) (hd : d < 256) (h : byte s c = byte s d) : c = d := by
  have := rounds_inj 8 (xor_lt hs (by omega)) (xor_lt hs (by omega)) h
  rw [Nat.xor_comm s, Nat.xor_comm s] at this
  have := xor_cancel this
  omega
theorem run_inj (f : Nat → Nat → Nat) (hf : ∀ s c, f s c < 65536) (hi : ∀ s t c, s < 65536 → t < 65536 → c < 256 → f s c = f t c → s = t) (l : List Int) :
    (∀ x ∈ l, 0 ≤ x ∧ x ≤ 255) → ∀ s t, s < 65536 → t < 65536 → run f l s = run f l t → s = t := by
  induction l with
  | nil => intro _ s t _ _ h; exact h
  | cons c l ih =>
    intro hl s t hs ht h
    have hc := hl c (by simp)
    rw [run_cons, run_cons] at h
    exact hi _ _ _ hs ht (by omega) (ih (fun x hx => hl x (by simp [hx])) _ _ (hf _ _) (hf _ _) h)
/-- Bytes that differ in one byte alone have other sums. -/
theorem crc_one (l m : List Int) (c d : Int) (hm : ∀ x ∈ m, 0 ≤ x ∧ x ≤ 255) (hc : 0 ≤ c ∧ c ≤ 255) (hd : 0 ≤ d ∧ d ≤ 255) (h : crc (l ++ c :: m) = crc (l ++ d :: m)) : c = d := by
  rw [crc_app, crc_app, run_cons, run_cons] at h
  have h1 := run_inj byte byte_lt (fun _ _ _ h1 h2 h3 h4 => byte_inj_state h1 h2 h3 h4) m hm _ _ (byte_lt _ _) (byte_lt _ _) h
  have h2 := byte_inj (crc_lt l) (by omega) (by omega) h1
  omega
end Im
end Go.Proofs.Ytifnmnchpgbimaa
