/- Images: Read in one word; what Put lays, Read tells. -/
import Derived.Test.YtifnmnchpgbimaaImgF
namespace Go.Proofs.Ytifnmnchpgbimaa
open Go.RowKit
set_option linter.unusedVariables false
set_option linter.unusedSimpArgs false
namespace Im
open Cm
open Classical in
/-- What Read says of bytes. -/
noncomputable def verdict (l : List Int) : Int :=
  if l.length < 11 then 10 else if l.take 2 ≠ [84, 49] ∨ (l.length : Int) ≠ 11 + long l then 11 else if 256 * at_ l (l.length - 2) + at_ l (l.length - 1) ≠ crc (l.take (l.length - 2)) then 12 else if ¬ right (mg l) (l.length - 11) then 11 else 0
theorem read_any (w : World) {b0 : Nat} (A : Option Addr) (n c : Nat) (l : List Int) (h : Sl w b0 A n c l) (hb : ∀ x ∈ l, 0 ≤ x ∧ x ≤ 255) :
    Calls Try.prog 11 #[.slice A n c] w fun e w' =>
      (verdict l = 0 ∧ ∃ A' c', e = .returned (.tuple #[(mg l).v (.slice A' (n - 11) c'), .int .i64 0]) ∧ Sl w' w.heap.size A' (n - 11) c' (code l n) ∧ w.grownBy w' none) ∨
      (verdict l ≠ 0 ∧ e = .returned (.tuple #[none4, .int .i64 (verdict l)]) ∧ w.grownBy w' none) := by
  have hln := h.len
  by_cases h1 : n < 11
  · have hv : verdict l = 10 := by unfold verdict; rw [if_pos (by omega)]
    exact (read_short w A n c h1).mono fun e w' ⟨he, hg⟩ => .inr ⟨by rw [hv]; omega, by rw [hv]; exact he, hg⟩
  obtain ⟨b, off, rfl, _⟩ := h.rd (by omega)
  by_cases h2 : l.take 2 = [84, 49]
  · by_cases h3 : (n : Int) = 11 + long l
    · by_cases h4 : 256 * at_ l (n - 2) + at_ l (n - 1) = crc (l.take (n - 2))
      · refine (read_full w b off n c l h hb (by omega) h2 h3 h4).mono fun e w' hF => ?_
        rcases hF with ⟨hr, A', c', he, hs, hg⟩ | ⟨hr, he, hg⟩
        · have hv : verdict l = 0 := by
            unfold verdict
            rw [hln, if_neg h1, if_neg (by rintro (h | h); exact h h2; exact h h3), if_neg (by simpa using h4), if_neg (by simpa using hr)]
          exact .inl ⟨hv, A', c', he, hs, hg⟩
        · have hv : verdict l = 11 := by
            unfold verdict
            rw [hln, if_neg h1, if_neg (by rintro (h | h); exact h h2; exact h h3), if_neg (by simpa using h4), if_pos hr]
          exact .inr ⟨by rw [hv]; omega, by rw [hv]; exact he, hg⟩
      · have hv : verdict l = 12 := by
          unfold verdict
          rw [hln, if_neg h1, if_neg (by rintro (h | h); exact h h2; exact h h3), if_pos h4]
        exact (read_sum w b off n c l h hb (by omega) h2 h3 h4).mono fun e w' ⟨he, hg⟩ => .inr ⟨by rw [hv]; omega, by rw [hv]; exact he, hg⟩
    · have hv : verdict l = 11 := by
        unfold verdict
        rw [hln, if_neg h1, if_pos (.inr h3)]
      exact (read_length w b off n c l h hb (by omega) h2 h3).mono fun e w' ⟨he, hg⟩ => .inr ⟨by rw [hv]; omega, by rw [hv]; exact he, hg⟩
  · have hv : verdict l = 11 := by
      unfold verdict
      rw [hln, if_neg h1, if_pos (.inl h2)]
    exact (read_magic w b off n c l h hb (by omega) h2).mono fun e w' ⟨he, hg⟩ => .inr ⟨by rw [hv]; omega, by rw [hv]; exact he, hg⟩
theorem read_ok (w : World) {b0 : Nat} (A : Option Addr) (n c : Nat) (l : List Int) (h : Sl w b0 A n c l) (hb : ∀ x ∈ l, 0 ≤ x ∧ x ≤ 255) (hv : verdict l = 0) :
    Calls Try.prog 11 #[.slice A n c] w fun e w' => ∃ A' c', e = .returned (.tuple #[(mg l).v (.slice A' (n - 11) c'), .int .i64 0]) ∧ Sl w' w.heap.size A' (n - 11) c' (code l n) ∧ w.grownBy w' none :=
  (read_any w A n c l h hb).mono fun e w' hF => by
    rcases hF with ⟨_, h⟩ | ⟨h, _⟩
    · exact h
    · exact absurd hv h
theorem read_bad (w : World) {b0 : Nat} (A : Option Addr) (n c : Nat) (l : List Int) (h : Sl w b0 A n c l) (hb : ∀ x ∈ l, 0 ≤ x ∧ x ≤ 255) (hv : verdict l ≠ 0) :
    Calls Try.prog 11 #[.slice A n c] w fun e w' => e = .returned (.tuple #[none4, .int .i64 (verdict l)]) ∧ w.grownBy w' none :=
  (read_any w A n c l h hb).mono fun e w' hF => by
    rcases hF with ⟨h, _⟩ | ⟨_, h⟩
    · exact absurd h hv
    · exact h
/-- What bytes that are an image say. -/
theorem verdict_ok {l : List Int} (h : verdict l = 0) : 11 ≤ l.length ∧ l.take 2 = [84, 49] ∧ (l.length : Int) = 11 + long l ∧ 256 * at_ l (l.length - 2) + at_ l (l.length - 1) = crc (l.take (l.length - 2)) ∧ right (mg l) (l.length - 11) := by
  unfold verdict at h
  by_cases h1 : l.length < 11
  · rw [if_pos h1] at h; omega
  rw [if_neg h1] at h
  by_cases h2 : l.take 2 ≠ [84, 49] ∨ (l.length : Int) ≠ 11 + long l
  · rw [if_pos h2] at h; omega
  rw [if_neg h2] at h
  by_cases h3 : 256 * at_ l (l.length - 2) + at_ l (l.length - 1) ≠ crc (l.take (l.length - 2))
  · rw [if_pos h3] at h; omega
  rw [if_neg h3] at h
  by_cases h4 : ¬ right (mg l) (l.length - 11)
  · rw [if_pos h4] at h; omega
  exact ⟨by omega, Classical.byContradiction fun h => h2 (.inl h), Classical.byContradiction fun h => h2 (.inr h), Classical.byContradiction h3, Classical.byContradiction h4⟩
theorem ok_verdict {l : List Int} (h1 : 11 ≤ l.length) (h2 : l.take 2 = [84, 49]) (h3 : (l.length : Int) = 11 + long l) (h4 : 256 * at_ l (l.length - 2) + at_ l (l.length - 1) = crc (l.take (l.length - 2))) (h5 : right (mg l) (l.length - 11)) : verdict l = 0 := by
  unfold verdict
  rw [if_neg (by omega), if_neg (by rintro (h | h); exact h h2; exact h h3), if_neg (by simpa using h4), if_neg (by simpa using h5)]
/-- An image's bytes are read as it. -/
theorem putI_ok (m : Mg) (l : List Int) (hr : right m l.length) (hb : ∀ x ∈ l, 0 ≤ x ∧ x ≤ 255) : verdict (putI m l) = 0 ∧ mg (putI m l) = m ∧ code (putI m l) (putI m l).length = l := by
  have hlen := putI_len m l
  have hbl := body_len m l
  have hc := crc_lt (body m l)
  have hr' := hr
  unfold right at hr'
  have e0 : putI m l = 84 :: 49 :: m.who :: (m.e0 / 256) :: (m.e0 % 256) :: (m.e1 / 256) :: (m.e1 % 256) :: ((l.length : Int) / 256) :: ((l.length : Int) % 256) :: (l ++ [(crc (body m l) : Int) / 256, (crc (body m l) : Int) % 256]) := by
    unfold putI body
    simp
  have hmg : mg (putI m l) = m := by
    unfold mg at_
    rw [e0]
    simp
    obtain ⟨a, b, c⟩ := m
    simp
    omega
  have htk : (putI m l).take ((putI m l).length - 2) = body m l := by
    rw [hlen]
    unfold putI
    rw [List.take_append_of_le_length (by omega), List.take_of_length_le (by omega)]
  have g0 : at_ (putI m l) ((putI m l).length - 2) = (crc (body m l) : Int) / 256 := by
    unfold at_
    rw [hlen]
    unfold putI
    rw [List.getD_eq_getElem?_getD, List.getElem?_append_right (by omega), show 11 + l.length - 2 - (body m l).length = 0 by omega]
    rfl
  have g1 : at_ (putI m l) ((putI m l).length - 1) = (crc (body m l) : Int) % 256 := by
    unfold at_
    rw [hlen]
    unfold putI
    rw [List.getD_eq_getElem?_getD, List.getElem?_append_right (by omega), show 11 + l.length - 1 - (body m l).length = 1 by omega]
    rfl
  refine ⟨ok_verdict (by omega) ?_ ?_ ?_ ?_, hmg, ?_⟩
  · rw [e0]; rfl
  · unfold long at_
    rw [hlen, e0]
    simp
    omega
  · rw [g0, g1, htk]; omega
  · rw [hmg, hlen, show 11 + l.length - 11 = l.length by omega]; exact hr
  · unfold code
    rw [htk]
    unfold body
    simp
/-- What is read is put as it stood. -/
theorem putI_back (l : List Int) (hb : ∀ x ∈ l, 0 ≤ x ∧ x ≤ 255) (hv : verdict l = 0) : putI (mg l) (code l l.length) = l := by
  obtain ⟨h1, h2, h3, h4, h5⟩ := verdict_ok hv
  have hc := code_len (k := l.length - 11) rfl (show l.length = 11 + (l.length - 11) by omega)
  have z2 := getD_bytes hb 2
  have z3 := getD_bytes hb 3
  have z4 := getD_bytes hb 4
  have z5 := getD_bytes hb 5
  have z6 := getD_bytes hb 6
  have z7 := getD_bytes hb 7
  have z8 := getD_bytes hb 8
  have y0 := getD_bytes hb (l.length - 2)
  have y1 := getD_bytes hb (l.length - 1)
  have a0 : l.getD 0 0 = 84 := by
    have := congrArg (fun x => x.getD 0 0) h2
    simpa [List.getD_eq_getElem?_getD, List.getElem?_take] using this
  have a1 : l.getD 1 0 = 49 := by
    have := congrArg (fun x => x.getD 1 0) h2
    simpa [List.getD_eq_getElem?_getD, List.getElem?_take] using this
  unfold long at_ at h3
  unfold at_ at h4
  have hlb := body_len (mg l) (code l l.length)
  have hbody : body (mg l) (code l l.length) = l.take (l.length - 2) := by
    apply List.ext_getElem?
    intro i
    rcases Nat.lt_or_ge i (l.length - 2) with hi | hi
    · have key : (body (mg l) (code l l.length)).getD i 0 = (l.take (l.length - 2)).getD i 0 := by
        rw [show (l.take (l.length - 2)).getD i 0 = l.getD i 0 by simp [List.getD_eq_getElem?_getD, List.getElem?_take, hi, List.getElem?_eq_getElem (show i < l.length by omega)]]
        unfold body mg at_
        rw [hc]
        rcases Nat.lt_or_ge i 9 with h9 | h9
        · obtain rfl | rfl | rfl | rfl | rfl | rfl | rfl | rfl | rfl : i = 0 ∨ i = 1 ∨ i = 2 ∨ i = 3 ∨ i = 4 ∨ i = 5 ∨ i = 6 ∨ i = 7 ∨ i = 8 := by omega
          · exact a0.symm
          · exact a1.symm
          · rfl
          · show (256 * l.getD 3 0 + l.getD 4 0) / 256 = _; omega
          · show (256 * l.getD 3 0 + l.getD 4 0) % 256 = _; omega
          · show (256 * l.getD 5 0 + l.getD 6 0) / 256 = _; omega
          · show (256 * l.getD 5 0 + l.getD 6 0) % 256 = _; omega
          · show ((l.length - 11 : Nat) : Int) / 256 = _; omega
          · show ((l.length - 11 : Nat) : Int) % 256 = _; omega
        · have := code_get (j := i - 9) rfl (show l.length = 11 + (l.length - 11) by omega) (by omega)
          rw [show 9 + (i - 9) = i by omega] at this
          rw [← this]
          rw [List.getD_eq_getElem?_getD, List.getElem?_append_right (by simp; omega), List.getD_eq_getElem?_getD]
          rfl
      rw [List.getD_eq_getElem?_getD, List.getD_eq_getElem?_getD] at key
      rw [List.getElem?_eq_getElem (by omega), List.getElem?_eq_getElem (by simp; omega)] at key ⊢
      simpa using key
    · rw [List.getElem?_eq_none (by omega), List.getElem?_eq_none (by simp; omega)]
  unfold putI
  rw [hbody, ← h4]
  have e1 : (256 * l.getD (l.length - 2) 0 + l.getD (l.length - 1) 0) / 256 = l.getD (l.length - 2) 0 := by omega
  have e2 : (256 * l.getD (l.length - 2) 0 + l.getD (l.length - 1) 0) % 256 = l.getD (l.length - 1) 0 := by omega
  rw [e1, e2]
  have e3 : l.drop (l.length - 2) = [l.getD (l.length - 2) 0, l.getD (l.length - 1) 0] := by
    rw [List.drop_eq_getElem_cons (by omega), List.drop_eq_getElem_cons (by omega), List.drop_eq_nil_of_le (by omega), List.getD_eq_getElem?_getD, List.getD_eq_getElem?_getD, List.getElem?_eq_getElem (by omega), List.getElem?_eq_getElem (show l.length - 1 < l.length by omega)]
    simp
    congr 1
    omega
  rw [← e3, List.take_append_drop]
end Im
end Go.Proofs.Ytifnmnchpgbimaa
