/- Images: the reference's Read in one word. -/
import Derived.Test.YtifnmnchpgbimaaImgV
import Derived.Test.YtifnmnchpgbimaaImgL
namespace Go.Proofs.Ytifnmnchpgbimaa
open Go.RowKit
set_option linter.unusedVariables false
set_option linter.unusedSimpArgs false
namespace Im
open Cm
theorem rread_any (w : World) (l : List Int) (n : Nat) (hln : l.length = n) (hb : ∀ x ∈ l, 0 ≤ x ∧ x ≤ 255) (hmax : n ≤ 100000) :
    Calls Try.prog 12 #[.string (strOfNums l)] w fun e w' =>
      (verdict l = 0 ∧ e = .returned (rgood (mg l) (strOfNums (code l n))) ∧ w.grownBy w' none) ∨ (verdict l ≠ 0 ∧ e = .returned (rbad (verdict l)) ∧ w.grownBy w' none) := by
  by_cases h1 : n < 11
  · have hv : verdict l = 10 := by unfold verdict; rw [if_pos (by omega)]
    exact (rread_short w (strOfNums l) n (by rw [strOfNums_size, hln]) h1).mono fun e w' ⟨he, hg⟩ => .inr ⟨by rw [hv]; omega, by rw [hv]; exact he, hg⟩
  by_cases h2 : l.take 2 = [84, 49]
  · by_cases h3 : (n : Int) = 11 + long l
    · by_cases h4 : 256 * at_ l (n - 2) + at_ l (n - 1) = crc (l.take (n - 2))
      · refine (rread_full w l n hln hb (by omega) hmax h2 h3 h4).mono fun e w' hF => ?_
        rcases hF with ⟨hr, he, hg⟩ | ⟨hr, he, hg⟩
        · have hv : verdict l = 0 := by
            unfold verdict
            rw [hln, if_neg h1, if_neg (by rintro (h | h); exact h h2; exact h h3), if_neg (by simpa using h4), if_neg (by simpa using hr)]
          exact .inl ⟨hv, he, hg⟩
        · have hv : verdict l = 11 := by
            unfold verdict
            rw [hln, if_neg h1, if_neg (by rintro (h | h); exact h h2; exact h h3), if_neg (by simpa using h4), if_pos hr]
          exact .inr ⟨by rw [hv]; omega, by rw [hv]; exact he, hg⟩
      · have hv : verdict l = 12 := by
          unfold verdict
          rw [hln, if_neg h1, if_neg (by rintro (h | h); exact h h2; exact h h3), if_pos h4]
        exact (rread_sum w l n hln hb (by omega) hmax h2 h3 h4).mono fun e w' ⟨he, hg⟩ => .inr ⟨by rw [hv]; omega, by rw [hv]; exact he, hg⟩
    · have hv : verdict l = 11 := by
        unfold verdict
        rw [hln, if_neg h1, if_pos (.inr h3)]
      exact (rread_length w l n hln hb (by omega) hmax h2 h3).mono fun e w' ⟨he, hg⟩ => .inr ⟨by rw [hv]; omega, by rw [hv]; exact he, hg⟩
  · have hv : verdict l = 11 := by
      unfold verdict
      rw [hln, if_neg h1, if_pos (.inl h2)]
    exact (rread_magic w l n hln hb (by omega) hmax h2).mono fun e w' ⟨he, hg⟩ => .inr ⟨by rw [hv]; omega, by rw [hv]; exact he, hg⟩
theorem rread_ok (w : World) (l : List Int) (n : Nat) (hln : l.length = n) (hb : ∀ x ∈ l, 0 ≤ x ∧ x ≤ 255) (hmax : n ≤ 100000) (hv : verdict l = 0) :
    Calls Try.prog 12 #[.string (strOfNums l)] w fun e w' => e = .returned (rgood (mg l) (strOfNums (code l n))) ∧ w.grownBy w' none :=
  (rread_any w l n hln hb hmax).mono fun e w' hF => by
    rcases hF with ⟨_, h⟩ | ⟨h, _⟩
    · exact h
    · exact absurd hv h
theorem rread_bad (w : World) (l : List Int) (n : Nat) (hln : l.length = n) (hb : ∀ x ∈ l, 0 ≤ x ∧ x ≤ 255) (hmax : n ≤ 100000) (hv : verdict l ≠ 0) :
    Calls Try.prog 12 #[.string (strOfNums l)] w fun e w' => e = .returned (rbad (verdict l)) ∧ w.grownBy w' none :=
  (rread_any w l n hln hb hmax).mono fun e w' hF => by
    rcases hF with ⟨h, _⟩ | ⟨_, h⟩
    · exact absurd h hv
    · exact h
/-- Sum of one slice of bytes that stands in a cell. -/
theorem sum_one (w : World) (A : Option Addr) (n c g : Nat) (l : List Int) (h : Sl w 0 A n c l) (hb : ∀ x ∈ l, 0 ≤ x ∧ x ≤ 255) (hc : w.cell? ⟨g, 0, none⟩ = some (.slice A n c)) :
    Calls Try.prog 13 #[.slice (some ⟨g, 0, none⟩) 1 1] w fun e w' => e = .returned (.int .u16 (crc l)) ∧ w = w' := by
  have := sum_any w (some ⟨g, 0, none⟩) 1 1 (fun _ => A) (fun _ => n) (fun _ => c) (fun _ => l) ⟨Nat.le_refl _, by omega, fun _ => ⟨_, 0, rfl, fun i hi => by
    have hi0 : i = 0 := by omega
    subst hi0
    exact hc⟩, fun _ _ => h, fun _ _ => hb⟩
  rw [upto_one] at this
  exact this
end Im
end Go.Proofs.Ytifnmnchpgbimaa
