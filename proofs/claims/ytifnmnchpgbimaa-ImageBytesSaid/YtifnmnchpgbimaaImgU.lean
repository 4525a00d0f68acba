/- Images: the reference's Put. -/
import Derived.Test.YtifnmnchpgbimaaImgT
import Derived.Test.YtifnmnchpgbimaaImgP
import Derived.Deep.RegionHeldLaw
namespace Go.Proofs.Ytifnmnchpgbimaa
open Go.RowKit
set_option linter.unusedVariables false
set_option linter.unusedSimpArgs false
namespace Im
open Cm
attribute [local go_sem] alloc_drewN' setCell_drewN'
theorem add_eq {P : Program} (l m r : List Int) (hr : l ++ m = r) (h : r.length ≤ 100000) : ∀ w : World, (Op.stringOp .add (strOfNums l) (strOfNums m)).run P w = .ok (.string (strOfNums r)) w := fun w => by
  rw [run_string_add_sum w _ _ (by rw [strOfNums_size, strOfNums_size, ← List.length_append, hr]; omega), str_app, hr]
attribute [-go_sem] run_string_add_if
set_option maxRecDepth 100000 in
set_option maxHeartbeats 4000000 in
theorem rput_any (w : World) (m : Mg) (l : List Int) (n : Nat) (hn : l.length = n) (hr : right m n) (hb : ∀ x ∈ l, 0 ≤ x ∧ x ≤ 255) :
    Calls Try.prog 10 #[.int .i64 m.who, .agg #[.int .i64 m.e0, .int .i64 m.e1], .string (strOfNums l)] w fun e w' => e = .returned (.string (strOfNums (putI m l))) ∧ w.grownBy w' none := by
  have q1 : 0 ≤ m.who ∧ m.who < 16 := ⟨hr.1, hr.2.1⟩
  have q2 : n ≤ 1024 := hr.2.2.1
  have q3 : 0 ≤ m.e0 ∧ m.e0 < n := ⟨hr.2.2.2.1, hr.2.2.2.2.1⟩
  have q4 : 0 ≤ m.e1 ∧ m.e1 < n := ⟨hr.2.2.2.2.2.1, hr.2.2.2.2.2.2⟩
  have HBB := Lib.hid (body_bytes m l (by rw [hn]; exact hr) hb)
  have hbl := body_len m l
  have hpl := putI_len m l
  have hsz : (strOfNums l).size = n := by rw [strOfNums_size, hn]
  obtain ⟨who, e0, e1⟩ := m
  dsimp only at q1 q3 q4 ⊢
  obtain ⟨q1a, q1b⟩ := q1
  have hwr : IntKind.u8.wrap who = who := by rw [IntKind.wrap_u8']; omega
  have A1 : ∀ w' : World, (Op.stringOp .add ⟨#[84, 49]⟩ (strOfNums [who])).run Try.prog w' = .ok (.string (strOfNums [84, 49, who])) w' := add_eq [84, 49] [who] _ rfl (by simp)
  have A2 := add_eq (P := Try.prog) [84, 49, who] [e0 / 256, e0 % 256] [84, 49, who, e0 / 256, e0 % 256] rfl (by simp)
  have A3 := add_eq (P := Try.prog) [84, 49, who, e0 / 256, e0 % 256] [e1 / 256, e1 % 256] [84, 49, who, e0 / 256, e0 % 256, e1 / 256, e1 % 256] rfl (by simp)
  have A4 := add_eq (P := Try.prog) [84, 49, who, e0 / 256, e0 % 256, e1 / 256, e1 % 256] [(n : Int) / 256, (n : Int) % 256] [84, 49, who, e0 / 256, e0 % 256, e1 / 256, e1 % 256, (n : Int) / 256, (n : Int) % 256] rfl (by simp)
  have A5 := add_eq (P := Try.prog) [84, 49, who, e0 / 256, e0 % 256, e1 / 256, e1 % 256, (n : Int) / 256, (n : Int) % 256] l (body ⟨who, e0, e1⟩ l) (by unfold body; rw [hn]; simp) (by omega)
  have hcv : ∀ (w' : World) (g : Nat), w'.cell? ⟨g, 0, none⟩ = some (.int .u8 who) → (convert 23 9 (.slice (some ⟨g, 0, none⟩) 1 1)).run Try.prog w' = .ok (.string (strOfNums [who])) w' := fun w' g hc =>
    conv_cells w' _ 1 1 [who] Try.underlying23 Try.underlying5 Try.underlying9 rfl fun _ => ⟨_, 0, rfl, fun i hi => by
      have hi0 : i = 0 := by omega
      subst hi0
      exact hc⟩
  have hB0 := Blk.new w 22 [.int .i64 e0, .int .i64 e1]
  have hS0 : ((w.alloc (.cells #[.int .i64 e0, .int .i64 e1] 22)).drew).cell? ⟨w.heap.size, 0, none⟩ = some (.int .i64 e0) ∧ ((w.alloc (.cells #[.int .i64 e0, .int .i64 e1] 22)).drew).cell? ⟨w.heap.size, 1, none⟩ = some (.int .i64 e1) ∧ w.grownBy ((w.alloc (.cells #[.int .i64 e0, .int .i64 e1] 22)).drew) none := ⟨hB0.drew.cell 0 _ rfl, hB0.drew.cell 1 _ rfl, gb_drew (gb_alloc (gb_refl w none) _)⟩
  clear hr hb
  go_enter Try.func10, Try.ntmps10
  go_upto_region 1 with (fail)
  go_cut [7] from 8 to 26 (fun s wx => s = .string (strOfNums (body ⟨who, e0, e1⟩ l)) ∧ w.grownBy wx none)
  case first =>
    go_region_held_law (fun w' => w'.cell? ⟨w.heap.size, 0, none⟩ = some (.int .i64 e0) ∧ w'.cell? ⟨w.heap.size, 1, none⟩ = some (.int .i64 e1) ∧ w.grownBy w' none)
      (first | assumption | (refine ⟨by go_simp, by go_simp, ?_⟩; repeat (with_reducible (first | exact gb_refl _ _ | apply gb_alloc | apply gb_drew | apply gb_drewN))))
      (first
        | (go_at_call 19; have hz2 := hz1; refine (rtwo_eq _ (n : Int) (by omega) (by omega)).mono ?_; rintro e wc ⟨rfl, rfl⟩)
        | (go_at_call 19; have hz1 := hz0; refine (rtwo_eq _ e1 (by omega) (by omega)).mono ?_; rintro e wb ⟨rfl, rfl⟩)
        | (go_at_call 19; refine (rtwo_eq _ e0 (by omega) (by omega)).mono ?_; rintro e wa ⟨rfl, rfl⟩; have hz0 := True.intro))
    all_goals
      go_wp2_with fail
      go_meet
      case rel => exact ⟨rfl, by repeat (with_reducible (first | exact gb_refl _ _ | apply gb_alloc | apply gb_drew | apply gb_drewN))⟩
  case rest =>
    obtain ⟨rfl, hW⟩ := hcut
    clear A1 A2 A3 A4 A5 hcv hB0 hS0
    have hcl := crc_lt (body ⟨who, e0, e1⟩ l)
    have hsum := rsum_any wc (strOfNums (body ⟨who, e0, e1⟩ l)) (body ⟨who, e0, e1⟩ l) (by rw [strOfNums_size]) (fun i => by rw [bz_str HBB.out]) (by omega) HBB.out
    have A6 := add_eq (P := Try.prog) (body ⟨who, e0, e1⟩ l) [(crc (body ⟨who, e0, e1⟩ l) : Int) / 256, (crc (body ⟨who, e0, e1⟩ l) : Int) % 256] (putI ⟨who, e0, e1⟩ l) rfl (by omega)
    obtain ⟨R, hR⟩ : ∃ R, strOfNums (putI ⟨who, e0, e1⟩ l) = R := ⟨_, rfl⟩
    rw [hR] at A6
    have HRR := Lib.hid hR
    clear hR
    generalize crc (body ⟨who, e0, e1⟩ l) = S at *
    generalize strOfNums (body ⟨who, e0, e1⟩ l) = B at *
    go_wp2_with fail
    refine hsum.mono ?_
    rintro e w3 ⟨rfl, rfl⟩
    go_wp2_with fail
    refine (rtwo_any _ (S : Int) (by omega) (by omega)).mono ?_
    rintro e w4 ⟨rfl, hg4⟩
    go_wp2_with fail
    go_ret
    exact ⟨by rw [HRR.out]; rfl, gb_trans hW hg4⟩
end Im
end Go.Proofs.Ytifnmnchpgbimaa
