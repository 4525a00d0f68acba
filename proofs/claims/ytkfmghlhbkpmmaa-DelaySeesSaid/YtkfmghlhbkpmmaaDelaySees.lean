/- DelaySees: whatever lines come, each is seen as many ticks later as the document says: the walk. -/
import Derived.Test.YtkfmghlhbkpmmaaDelO
namespace Go.Proofs.Ytkfmghlhbkpmmaa
open Go.ChangeShapes Go.WideShapes Go.ChangeAt Go.RowKit
set_option linter.unusedVariables false
namespace delaySeesW
open Dly
theorem int_info : (Try.prog.info? 3).map (fun i => (i.zero, i.size, i.bytes)) = some (some (.int .i64 0), 1, 8) := by kernel_rfl
set_option maxHeartbeats 400000 in
theorem long_list (w : World) (n p : Int) (A : Option Addr) (len cap : Nat) (h : 500 < len) (hm : len ≤ 9223372036854775807) :
    Calls Try.prog 3 #[.int .i64 n, .slice A len cap, .int .i64 p] w fun e w' => e = .returned (.bool true) ∧ Below w.heap.size w w' := by
  have d1 : decide ((500 : Int) < (len : Int)) = true := by simp; omega
  go_enter Try.func3, Try.ntmps3
  go_wp2_with fail
  go_ret
  exact ⟨rfl, Below.refl w.heap.size w⟩
set_option maxHeartbeats 400000 in
theorem out_any (w : World) (n p : Int) (A : Option Addr) (len cap : Nat) (hlen : len ≤ 500) (h : n < 0 ∨ 15 < n) :
    Calls Try.prog 3 #[.int .i64 n, .slice A len cap, .int .i64 p] w fun e w' => e = .returned (.bool true) ∧ Below w.heap.size w w' := by
  have d0 : decide ((500 : Int) < (len : Int)) = false := by simp; omega
  rcases h with h | h
  · have d1 : decide (n < 0) = true := by simpa using h
    go_enter Try.func3, Try.ntmps3
    go_wp2_with fail
    refine (new_no _ n (by omega)).mono ?_
    rintro e w1 ⟨rfl, rfl⟩
    go_wp2_with fail
    refine (one_any _).mono ?_
    rintro e w1 ⟨rfl, hbel⟩
    go_wp2_with fail
    go_ret
    exact ⟨rfl, hbel⟩
  · have d1 : decide (n < 0) = false := by simp; omega
    have d2 : decide (15 < n) = true := by simpa using h
    go_enter Try.func3, Try.ntmps3
    go_wp2_with fail
    refine (new_no _ n (by omega)).mono ?_
    rintro e w1 ⟨rfl, rfl⟩
    go_wp2_with fail
    refine (one_any _).mono ?_
    rintro e w1 ⟨rfl, hbel⟩
    go_wp2_with fail
    go_ret
    exact ⟨rfl, hbel⟩

/-- What holds behind k lines: what was had, and the delay. -/
def Had (w0 wr : World) (t k : Nat) (v : Value) : Prop := ∃ h : List Int, h.length ≤ k ∧ (∀ x ∈ h, 0 ≤ x ∧ x ≤ 255) ∧ wr.ownsRow (w0.heap.size + 1) 3 1 v h.length (nums .i64 h) ∧ At wr w0.heap.size t h ∧ Below w0.heap.size w0 wr
theorem seen_range (h : List Int) (t : Nat) (hr : ∀ x ∈ h, 0 ≤ x ∧ x ≤ 255) : 0 ≤ Dly.seen h t ∧ Dly.seen h t ≤ 255 := by
  unfold Dly.seen
  split
  · omega
  · rw [List.getD_eq_getElem?_getD, List.getElem?_eq_getElem (by omega)]
    exact hr _ (by simp)

set_option maxRecDepth 100000 in
set_option maxHeartbeats 2000000 in
theorem walk_any (w : World) (t : Nat) (p : Int) (A : Option Addr) (len cap : Nat) (z : Nat → Int) (ht : t ≤ 15) (hlen : len ≤ 500)
    (hr : Rd w w.heap.size A len (fun i => .int .u8 (z i))) (hz : ∀ i, i < len → 0 ≤ z i ∧ z i ≤ 255) :
    Calls Try.prog 3 #[.int .i64 t, .slice A len cap, .int .i64 p] w fun e w' => e = .returned (.bool true) ∧ Below w.heap.size w w' := by
  obtain ⟨i0, hi, hz0, hz1, hz2⟩ := info_parts int_info
  have d0 : decide ((500 : Int) < (len : Int)) = false := by simp; omega
  have d1 : decide ((t : Int) < 0) = false := by simp
  have d2 : decide ((15 : Int) < (t : Int)) = false := by simp; omega
  have HR := Lib.hid hr
  have HZ := Lib.hid hz
  clear hr hz
  go_enter Try.func3, Try.ntmps3
  go_wp2_with fail
  refine (new_yes _ t (by omega) (by omega)).mono ?_
  rintro e w1 ⟨rfl, rfl⟩
  have hH : Had w (w.alloc (.cells (cells t 0 (List.replicate 16 0)).toArray 36)) t 0 (.slice none 0 0) :=
    ⟨[], by simp, by simp, World.ownsRow_nil _ _ _ _, at_new w t, (Below.refl w.heap.size w).alloc (Nat.le_refl _) _⟩
  go_wp2_with fail
  go_loopw [9, 10] (fun v i wr => ∃ k : Nat, k ≤ len ∧ i = .int .i64 k ∧ Had w wr t k v) (fun _ i _ => len - (intOf i).toNat)
  case atStart => exact ⟨0, by omega, rfl, hH⟩
  case round =>
    obtain ⟨k, hk, rfl, hb⟩ := hrel
    clear hH
    by_cases hlt : k < len
    · obtain ⟨b, off, rfl, hbB, hc⟩ := HR.out (by omega)
      obtain ⟨z0, z1⟩ := HZ.out k hlt
      have hH : ∃ b0 : Bool, ((k : Int) == p) = b0 := ⟨_, rfl⟩
      obtain ⟨b0, hb0⟩ := hH
      cases b0
      case true =>
        obtain ⟨h, g1, g2, g3, g4, g5⟩ := hb
        go_wp2_with fail
        refine (clear_any _ _ _ _ g4).mono ?_
        rintro e w1 ⟨rfl, g4', hg⟩
        have hb : Had w w1 t k (.slice none 0 0) := ⟨[], by simp, by simp, World.ownsRow_nil _ _ _ _, g4', below_gb g5 hg g5.size (Nat.le_refl _)⟩
        clear g1 g2 g3 g4 g5 g4' hg
        obtain ⟨h, g1, g2, g3, g4, g5⟩ := hb
        have hcell : w1.cell? ⟨b, off + k, none⟩ = some (.int .u8 (z k)) := (g5.cell (p := ⟨b, off + k, none⟩) hbB).trans (hc k hlt)
        have HC := Lib.hid hc
        have HA := Lib.hid g4
        have q1 := g5.size
        have q2 := g4.lt
        clear hc g4
        go_wp2_with (first | (at_builtin; refine wpList_append_own _ rfl _ _ 28 rfl (w.heap.size + 1) 3 i0 (.int .i64 0) 1 8 Try.underlying28 hi hz0 hz1 hz2 rfl (by decide) _ _ _ rfl (g3.alloc _) ⟨w1.heap.size, 0, none⟩ 1 1 [.int .i64 (z k)] rfl rfl (cell_one_new _ _ _) (by intro u hu; simp at hu; subst hu; rfl) (by unfold maxLen; omega) (by omega) (by simp; omega) ?_) | fail)
        intro v' w2 hown' hgrow _
        have hne := own_block_ge g3
        have gsz := g5.size
        have hA2 := (HA.out.kept (gb_alloc (gb_refl _ none) (.cells #[.int .i64 (z k)] 3)) (by simp)).kept hgrow (by
          intro e
          have := hne _ e.symm
          omega)
        have hW2 := (g5.alloc g5.size (.cells #[.int .i64 (z k)] 3)).grown hgrow (by have := g5.size; simp; omega) (fun q hq => by have := hne q hq; omega)
        obtain ⟨h2, hh2⟩ : ∃ h2, h ++ [z k] = h2 := ⟨_, rfl⟩
        have hl2 : h2.length = h.length + 1 := by rw [← hh2]; simp
        have hown2 : w2.ownsRow (w.heap.size + 1) 3 1 v' h2.length (nums .i64 h2) := by
          rw [hl2, ← hh2, nums_app]; exact hown'
        have hr2 : ∀ x ∈ h2, 0 ≤ x ∧ x ≤ 255 := by
          intro x hx
          rw [← hh2] at hx
          rcases List.mem_append.1 hx with hx | hx
          · exact g2 x hx
          · simp at hx; subst hx; exact ⟨z0, z1⟩
        obtain ⟨s0, s1⟩ := seen_range h2 t hr2
        have hcell2 : w2.cell? ⟨b, off + k, none⟩ = some (.int .u8 (z k)) := (hW2.cell (p := ⟨b, off + k, none⟩) hbB).trans (HC.out k hlt)
        clear hown' g2 g3 g5 hgrow hcell hne gsz
        obtain ⟨A2, c2, rfl, hrd⟩ := own_rd hown2
        have HL := Lib.hid hl2
        have HE := Lib.hid hh2
        have HO := Lib.hid hown2
        have hl3 : h2.length ≤ 501 := by omega
        have hl4 : 0 < h2.length := by omega
        clear hl2 hh2 hown2 hrd
        go_wp2_with fail
        refine (see_any _ _ t h (z k) hA2 ht (by omega)).mono ?_
        rw [HE.out]
        rintro e w3 ⟨rfl, hA3, hg3⟩
        have hown3 := HO.out.kept hg3 (by
          rcases hq : (Value.slice A2 h2.length c2).ownBlock with _ | q
          · exact .inl rfl
          · refine .inr ?_
            have := own_block_ge HO.out q hq
            intro e
            injection e with e
            omega)
        have hW3 := below_gb hW2 hg3 hW2.size (Nat.le_refl _)
        obtain ⟨A3, c3, e3, hrd3⟩ := own_rd hown3
        injection e3 with e3 _ e4
        subst e3
        subst e4
        have HO3 := Lib.hid hown3
        have HR3 := Lib.hid hrd3
        clear hA2 hW2 hg3 hown3 hrd3 HO
        go_wp2_with fail
        refine (rseen_any _ _ _ _ t h2 (by omega) ht HR3.out).mono ?_
        rintro e w4 ⟨rfl, rfl⟩
        go_wp2_with fail
        refine (last_any _ _ _ _ hA3).mono ?_
        rintro e w4 ⟨rfl, rfl⟩
        go_wp2_with fail
        go_roundw
        case rel => exact ⟨k + 1, by omega, by go_num, h2, by rw [HL.out]; omega, hr2, HO3.out, hA3, hW3⟩
        case measure => simp [intOf]; omega
      case false =>
        obtain ⟨h, g1, g2, g3, g4, g5⟩ := hb
        have hcell : wr.cell? ⟨b, off + k, none⟩ = some (.int .u8 (z k)) := (g5.cell (p := ⟨b, off + k, none⟩) hbB).trans (hc k hlt)
        have HC := Lib.hid hc
        have HA := Lib.hid g4
        have q1 := g5.size
        have q2 := g4.lt
        clear hc g4
        go_wp2_with (first | (at_builtin; refine wpList_append_own _ rfl _ _ 28 rfl (w.heap.size + 1) 3 i0 (.int .i64 0) 1 8 Try.underlying28 hi hz0 hz1 hz2 rfl (by decide) _ _ _ rfl (g3.alloc _) ⟨wr.heap.size, 0, none⟩ 1 1 [.int .i64 (z k)] rfl rfl (cell_one_new _ _ _) (by intro u hu; simp at hu; subst hu; rfl) (by unfold maxLen; omega) (by omega) (by simp; omega) ?_) | fail)
        intro v' w2 hown' hgrow _
        have hne := own_block_ge g3
        have gsz := g5.size
        have hA2 := (HA.out.kept (gb_alloc (gb_refl _ none) (.cells #[.int .i64 (z k)] 3)) (by simp)).kept hgrow (by
          intro e
          have := hne _ e.symm
          omega)
        have hW2 := (g5.alloc g5.size (.cells #[.int .i64 (z k)] 3)).grown hgrow (by have := g5.size; simp; omega) (fun q hq => by have := hne q hq; omega)
        obtain ⟨h2, hh2⟩ : ∃ h2, h ++ [z k] = h2 := ⟨_, rfl⟩
        have hl2 : h2.length = h.length + 1 := by rw [← hh2]; simp
        have hown2 : w2.ownsRow (w.heap.size + 1) 3 1 v' h2.length (nums .i64 h2) := by
          rw [hl2, ← hh2, nums_app]; exact hown'
        have hr2 : ∀ x ∈ h2, 0 ≤ x ∧ x ≤ 255 := by
          intro x hx
          rw [← hh2] at hx
          rcases List.mem_append.1 hx with hx | hx
          · exact g2 x hx
          · simp at hx; subst hx; exact ⟨z0, z1⟩
        obtain ⟨s0, s1⟩ := seen_range h2 t hr2
        have hcell2 : w2.cell? ⟨b, off + k, none⟩ = some (.int .u8 (z k)) := (hW2.cell (p := ⟨b, off + k, none⟩) hbB).trans (HC.out k hlt)
        clear hown' g2 g3 g5 hgrow hcell hne gsz
        obtain ⟨A2, c2, rfl, hrd⟩ := own_rd hown2
        have HL := Lib.hid hl2
        have HE := Lib.hid hh2
        have HO := Lib.hid hown2
        have hl3 : h2.length ≤ 501 := by omega
        have hl4 : 0 < h2.length := by omega
        clear hl2 hh2 hown2 hrd
        go_wp2_with fail
        refine (see_any _ _ t h (z k) hA2 ht (by omega)).mono ?_
        rw [HE.out]
        rintro e w3 ⟨rfl, hA3, hg3⟩
        have hown3 := HO.out.kept hg3 (by
          rcases hq : (Value.slice A2 h2.length c2).ownBlock with _ | q
          · exact .inl rfl
          · refine .inr ?_
            have := own_block_ge HO.out q hq
            intro e
            injection e with e
            omega)
        have hW3 := below_gb hW2 hg3 hW2.size (Nat.le_refl _)
        obtain ⟨A3, c3, e3, hrd3⟩ := own_rd hown3
        injection e3 with e3 _ e4
        subst e3
        subst e4
        have HO3 := Lib.hid hown3
        have HR3 := Lib.hid hrd3
        clear hA2 hW2 hg3 hown3 hrd3 HO
        go_wp2_with fail
        refine (rseen_any _ _ _ _ t h2 (by omega) ht HR3.out).mono ?_
        rintro e w4 ⟨rfl, rfl⟩
        go_wp2_with fail
        refine (last_any _ _ _ _ hA3).mono ?_
        rintro e w4 ⟨rfl, rfl⟩
        go_wp2_with fail
        go_roundw
        case rel => exact ⟨k + 1, by omega, by go_num, h2, by rw [HL.out]; omega, hr2, HO3.out, hA3, hW3⟩
        case measure => simp [intOf]; omega
    · obtain rfl : k = len := by omega
      obtain ⟨h, g1, g2, g3, g4, g5⟩ := hb
      go_wp2_with fail
      refine (ticks_any _ _ _ _ g4).mono ?_
      rintro e w1 ⟨rfl, rfl⟩
      go_wp2_with fail
      refine (one_any _).mono ?_
      rintro e w1 ⟨rfl, hbel⟩
      go_wp2_with fail
      go_ret
      exact ⟨rfl, g5.trans (hbel.mono g5.size)⟩
theorem walk {H : Type} {enc : TypeId × Value → H} (base : Nat) (W : World) (v0 : Value) (d0 : DataW H) (p0 : List MemPlace) (v1 : Value) (d1 : DataW H) (p1 : List MemPlace) (v2 : Value) (d2 : DataW H) (p2 : List MemPlace)
    (o0 : Value.okWide Try.prog W .any base 3 v0) (o1 : Value.okWide Try.prog W .any base 22 v1) (o2 : Value.okWide Try.prog W .any base 3 v2)
    (h0 : DataW.Trod enc Try.prog W 0 (fun _ => true) true 3 v0 d0 p0) (h1 : DataW.Trod enc Try.prog W 0 (fun _ => true) true 22 v1 d1 p1) (h2 : DataW.Trod enc Try.prog W 0 (fun _ => true) true 3 v2 d2 p2) :
    Calls Try.prog 3 #[v0, v1, v2] W fun e w' => e = .returned (.bool true) ∧ Below W.heap.size W w' := by
  obtain ⟨n, rfl, rfl, rfl, wn⟩ := open_int Try.underlying3 o0 h0
  obtain ⟨p, rfl, rfl, rfl, wp⟩ := open_int Try.underlying3 o2 h2
  obtain ⟨A, len, cap, z, rfl, hl, hm, hr, hz⟩ := open_rd Try.underlying22 Try.underlying29 (by kernel_rfl) o1 h1
  by_cases h : len ≤ 500
  · by_cases g : n < 0 ∨ 15 < n
    · exact out_any W n p A len cap h g
    · obtain ⟨t, rfl⟩ : ∃ t : Nat, n = t := ⟨n.toNat, by omega⟩
      exact walk_any W t p A len cap z (by omega) h hr (fun i hi => wf_u8 (hz i hi))
  · exact long_list W n p A len cap (by omega) (by unfold maxLen at hm; omega)
end delaySeesW
end Go.Proofs.Ytkfmghlhbkpmmaa
