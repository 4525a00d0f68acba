/- The delay statements' own check 'one'; the reference's Seen. -/
import Derived.Test.YtkfmghlhbkpmmaaDel
import Derived.Test.YtkfmghlhbkpmmaaRow
namespace Go.Proofs.Ytkfmghlhbkpmmaa
open Go.RowKit
set_option linter.unusedVariables false
namespace Dly
set_option maxHeartbeats 1000000 in
theorem one_any (w : World) : Calls Try.prog 6 #[] w fun e w' => e = .returned (.bool true) ∧ Below w.heap.size w w' := by
  have v1 : seen ([] ++ [5]) 1 = 0 := by decide
  have v2 : seen ([5] ++ [6]) 1 = 5 := by decide
  go_enter Try.func6, Try.ntmps6
  go_wp2_with fail
  refine (new_yes _ 1 (by omega) (by omega)).mono ?_
  rintro e w1 ⟨rfl, rfl⟩
  have hA := at_new w 1
  have hW := (Below.refl w.heap.size w).alloc (Nat.le_refl _) (.cells (cells 1 0 (List.replicate 16 0)).toArray 36)
  go_wp2_with fail
  refine (see_any _ _ 1 _ 5 hA (by omega) (by simp)).mono ?_
  rw [v1]
  rintro e w1 ⟨rfl, hA1, hg⟩
  have hW1 := below_gb hW hg hW.size (Nat.le_refl _)
  clear hA hW hg
  go_wp2_with fail
  refine (see_any _ _ 1 _ 6 hA1 (by omega) (by simp)).mono ?_
  rw [show ([] : List Int) ++ [5] = [5] from rfl, v2]
  rintro e w2 ⟨rfl, hA2, hg⟩
  have hW2 := below_gb hW1 hg hW1.size (Nat.le_refl _)
  clear hA1 hW1 hg
  go_wp2_with fail
  refine (ticks_any _ _ _ _ hA2).mono ?_
  rintro e w3 ⟨rfl, rfl⟩
  go_wp2_with fail
  refine (last_any _ _ _ _ hA2).mono ?_
  rintro e w3 ⟨rfl, rfl⟩
  go_wp2_with fail
  go_ret
  exact ⟨rfl, hW2⟩
set_option maxHeartbeats 400000 in
theorem rseen_any (w : World) (B : Nat) (A : Option Addr) (c t : Nat) (h : List Int) (hm : h.length ≤ 1000) (ht : t ≤ 15) (hr : Rd w B A h.length (fun i => .int .i64 (h.getD i 0))) :
    Calls Try.prog 9 #[.slice A h.length c, .int .i64 t] w fun e w' => e = .returned (.int .i64 (seen h t)) ∧ w = w' := by
  obtain ⟨n, hn⟩ : ∃ n, h.length = n := ⟨_, rfl⟩
  by_cases hlt : n ≤ t
  · have e : seen h t = 0 := by unfold seen; rw [if_pos (by omega)]
    rw [e]
    rw [hn] at hm hr ⊢
    clear hn e hr
    go_enter Try.func9, Try.ntmps9
    go_wp2
    go_ret
    exact ⟨rfl, rfl⟩
  · have e : seen h t = h.getD (n - 1 - t) 0 := by unfold seen; rw [if_neg (by omega), hn]
    rw [e]
    rw [hn] at hm hr ⊢
    obtain ⟨b, off, rfl, _, hc⟩ := hr (by omega)
    have hcell : w.cell? ⟨b, off + (n - 1 - t), none⟩ = some (.int .i64 (h.getD (n - 1 - t) 0)) := hc (n - 1 - t) (by omega)
    clear hn e hr hc
    obtain ⟨x, hx⟩ : ∃ x, h.getD (n - 1 - t) 0 = x := ⟨_, rfl⟩
    rw [hx] at hcell ⊢
    clear hx
    obtain ⟨j, rfl⟩ : ∃ j, n = j + 1 + t := ⟨n - 1 - t, by omega⟩
    rw [show j + 1 + t - 1 - t = j by omega] at hcell
    go_enter Try.func9, Try.ntmps9
    go_wp2
    go_ret
    exact ⟨rfl, rfl⟩
end Dly
end Go.Proofs.Ytkfmghlhbkpmmaa
