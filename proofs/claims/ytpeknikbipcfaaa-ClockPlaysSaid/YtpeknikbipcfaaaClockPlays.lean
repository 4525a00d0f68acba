/- ClockPlays: whatever a clock does, it is where the document says: the walk. -/
import Derived.Test.YtpeknikbipcfaaaClkO
import Derived.Test.YtpeknikbipcfaaaClkF
import Derived.Test.YtpeknikbipcfaaaIn
import Derived.Test.YtpeknikbipcfaaaOpenS
import Derived.Deep.DeepCutAuto
import Derived.Deep.CutBlock
namespace Go.Proofs.Ytpeknikbipcfaaa
open Go.ChangeShapes Go.WideShapes Go.ChangeAt Go.RowKit
set_option linter.unusedVariables false
attribute [local go_sem] max2_i64 min2_i64 max_two' min_two'
namespace clockPlaysW
open Clk
set_option maxRecDepth 100000 in
set_option maxHeartbeats 400000 in
theorem out_any (w : World) (n p : Int) (A : Option Addr) (len cap : Nat) (h : n < 8 ∨ 1048576 < n) :
    Calls Try.prog 6 #[.int .i64 n, .slice A len cap, .int .i64 p] w fun e w' => e = .returned (.bool true) ∧ Below w.heap.size w w' := by
  rcases h with h | h
  · have d1 : decide (n < 8) = true := by simpa using h
    go_enter Try.func6, Try.ntmps6
    go_wp2_with fail
    refine (new_no _ n (by omega)).mono ?_
    rintro e w1 ⟨rfl, rfl⟩
    go_wp2_with fail
    refine (one_any _).mono ?_
    rintro e w1 ⟨rfl, hbel⟩
    go_wp2_with fail
    go_ret
    exact ⟨rfl, hbel⟩
  · have d1 : decide (n < 8) = false := by simp; omega
    have d2 : decide (1048576 < n) = true := by simpa using h
    go_enter Try.func6, Try.ntmps6
    go_wp2_with fail
    refine (new_no _ n (by omega)).mono ?_
    rintro e w1 ⟨rfl, rfl⟩
    go_wp2_with fail
    refine (one_any _).mono ?_
    rintro e w1 ⟨rfl, hbel⟩
    go_wp2_with fail
    go_ret
    exact ⟨rfl, hbel⟩

theorem tAt_range (at_ long s : Int) (h : 2 ≤ long) (h0 : 0 ≤ at_) (h1 : at_ < long) : 0 ≤ tAt at_ long s ∧ tAt at_ long s < long := by
  unfold tAt
  split <;> omega
theorem tFrame_range (at_ long frame s : Int) : frame ≤ tFrame at_ long frame s ∧ tFrame at_ long frame s ≤ frame + 1 := by
  unfold tFrame
  split <;> omega
/-- What holds of both clocks. -/
def Both (w0 wr : World) (k : Nat) : Prop := ∃ (at_ last long frame : Int), 8 ≤ long ∧ long ≤ 1048576 ∧ 0 ≤ at_ ∧ at_ < long ∧ 0 ≤ frame ∧ frame ≤ k ∧
  Blk wr w0.heap.size 46 (cells at_ last long frame) ∧ Blk wr (w0.heap.size + 1) 37 (cells at_ last long frame) ∧ Below w0.heap.size w0 wr

set_option maxRecDepth 100000 in
set_option maxHeartbeats 2000000 in
theorem walk_any (w : World) (n p : Int) (A : Option Addr) (len cap : Nat) (z : Nat → Nat → Int) (h1 : 8 ≤ n) (h2 : n ≤ 1048576) (hm : len ≤ 9223372036854775807)
    (hr : RdS w w.heap.size A len 3 (fun i j => .int .i64 (z i j))) :
    Calls Try.prog 6 #[.int .i64 n, .slice A len cap, .int .i64 p] w fun e w' => e = .returned (.bool true) ∧ Below w.heap.size w w' := by
  have HR := Lib.hid hr
  clear hr
  have d1 : decide (n < 8) = false := by simp; omega
  have d2 : decide (1048576 < n) = false := by simp; omega
  go_enter Try.func6, Try.ntmps6
  go_wp2_with fail
  refine (new_yes _ n (by omega) (by omega)).mono ?_
  rintro e w1 ⟨rfl, rfl⟩
  go_wp2_with fail
  have hBoth : Both w ((w.alloc (.cells (cells 0 (-1) n 0).toArray 46)).alloc (.cells (cells 0 (-1) n 0).toArray 37)) 0 := by
    refine ⟨0, -1, n, 0, h1, h2, by omega, by omega, by omega, by omega, (Blk.new w 46 (cells 0 (-1) n 0)).alloc _, ?_, ?_⟩
    · have := Blk.new (w.alloc (.cells (cells 0 (-1) n 0).toArray 46)) 37 (cells 0 (-1) n 0)
      simpa using this
    · exact ((Below.refl w.heap.size w).alloc (Nat.le_refl _) _).alloc (by simp) _
  go_loopw [10] (fun i wr => ∃ k : Nat, k ≤ len ∧ k ≤ 100 ∧ i = .int .i64 k ∧ Both w wr k) (fun i _ => len - (intOf i).toNat)
  case atStart => exact ⟨0, by omega, by omega, rfl, hBoth⟩
  case round =>
    obtain ⟨k, hk, hk2, rfl, hb⟩ := hrel
    clear hBoth
    by_cases hlt : k < len
    · by_cases hlt2 : k < 100
      · have d3 : decide ((k : Int) < 100) = true := by simp; omega
        obtain ⟨b, off, rfl, hbB, hc⟩ := HR.out (by omega)
        obtain ⟨at_, last, long, frame, g1, g2, g3, g4, g5, g6, hB, hR, hW⟩ := hb
        have c0 : wr.cell? ⟨b, off + k * 3, none⟩ = some (.int .i64 (z k 0)) := (hW.cell (p := ⟨b, off + k * 3, none⟩) hbB).trans (hc k hlt 0 (by omega))
        have c1 : wr.cell? ⟨b, off + k * 3 + 1, none⟩ = some (.int .i64 (z k 1)) := (hW.cell (p := ⟨b, off + k * 3 + 1, none⟩) hbB).trans (hc k hlt 1 (by omega))
        have c2 : wr.cell? ⟨b, off + k * 3 + 2, none⟩ = some (.int .i64 (z k 2)) := (hW.cell (p := ⟨b, off + k * 3 + 2, none⟩) hbB).trans (hc k hlt 2 (by omega))
        clear hc
        go_upto_block 2 with (fail)
        go_cut [] (fun wc => Both w wc (k + 1))
        case first =>
          have hA := Blk.new wr 39 [.int .i64 (z k 0), .int .i64 (z k 1), .int .i64 (z k 2)]
          have hne : w.heap.size < wr.heap.size := hB.lt
          by_cases k6 : z k 0 = 6
          · have t6 : (z k 0 == 6) = true := by simpa using k6
            clear k6
            go_wp2_with fail
            refine (set_any _ _ _ _ _ _ _ (hB.alloc _) (by omega) (by omega)).mono ?_
            rintro e w1 ⟨rfl, hB1, hg⟩
            have hR1 := (hR.alloc (.cells #[.int .i64 (z k 0), .int .i64 (z k 1), .int .i64 (z k 2)] 39)).kept hg (by simp)
            have hA1 := hA.kept hg (by intro e; injection e with e; omega)
            have hW1 := (hW.alloc hW.size (.cells #[.int .i64 (z k 0), .int .i64 (z k 1), .int .i64 (z k 2)] 39)).trans (gb_below hg (by have := hW.size; simp; omega) (by intro k hk; cases hk; exact Nat.le_refl _))
            clear hA hB hR hW hg c0 c1 c2
            have r0 := hR1.cell 0 _ rfl
            have r1 := hR1.cell 1 _ rfl
            have r2 := hR1.cell 2 _ rfl
            have r3 := hR1.cell 3 _ rfl
            have f0 := hR1.free 0
            have f1 := hR1.free 1
            have f2 := hR1.free 2
            have f3 := hR1.free 3
            have a0 := hA1.cell 0 _ rfl
            have a1 := hA1.cell 1 _ rfl
            have a2 := hA1.cell 2 _ rfl
            have hltR := hR1.lt
            have hltB := hB1.lt
            go_wp2_with fail
            go_meet
            case rel => 
              refine ⟨max 0 (min (z k 1) (long - 1)), max 0 (min (z k 1) (long - 1)), long, frame, g1, g2, by omega, by omega, g5, by omega, ?_, ?_, ?_⟩
              · exact (hB1.other (by simp) _).other (by simp) _
              · exact (hR1.set 0 _).set 1 _
              · exact (hW1.setCell (by simp) _).setCell (by simp) _
          · have t6 : (z k 0 == 6) = false := by simpa using k6
            clear k6
            by_cases k7 : z k 0 = 7
            · have t7 : (z k 0 == 7) = true := by simpa using k7
              by_cases fine : 8 ≤ z k 2 ∧ z k 2 ≤ 1048576 ∧ 0 ≤ z k 1 ∧ z k 1 < z k 2
              · obtain ⟨i1, i2, i3, i4⟩ := fine
                have e1 : decide (8 ≤ z k 2) = true := by simpa using i1
                have e2 : decide (z k 2 ≤ 1048576) = true := by simpa using i2
                have e3 : decide (0 ≤ z k 1) = true := by simpa using i3
                have e4 : decide (z k 1 < z k 2) = true := by simpa using i4
                clear k7
                go_wp2_with fail
                refine (enter_yes _ _ _ _ _ _ _ _ (hB.alloc _) (by omega) i1 i2 i3 i4).mono ?_
                rintro e w1 ⟨rfl, hB1, hg⟩
                have hR1 := (hR.alloc (.cells #[.int .i64 (z k 0), .int .i64 (z k 1), .int .i64 (z k 2)] 39)).kept hg (by simp)
                have hA1 := hA.kept hg (by intro e; injection e with e; omega)
                have hW1 := (hW.alloc hW.size (.cells #[.int .i64 (z k 0), .int .i64 (z k 1), .int .i64 (z k 2)] 39)).trans (gb_below hg (by have := hW.size; simp; omega) (by intro k hk; cases hk; exact Nat.le_refl _))
                clear hA hB hR hW hg c0 c1 c2
                have r0 := hR1.cell 0 _ rfl
                have r1 := hR1.cell 1 _ rfl
                have r2 := hR1.cell 2 _ rfl
                have r3 := hR1.cell 3 _ rfl
                have f0 := hR1.free 0
                have f1 := hR1.free 1
                have f2 := hR1.free 2
                have f3 := hR1.free 3
                have a0 := hA1.cell 0 _ rfl
                have a1 := hA1.cell 1 _ rfl
                have a2 := hA1.cell 2 _ rfl
                have hltR := hR1.lt
                have hltB := hB1.lt
                go_wp2_with fail
                go_region
                go_wp2_with fail
                go_meet
                case rel =>
                  refine ⟨z k 1, z k 1, z k 2, frame, i1, i2, i3, i4, g5, by omega, ?_, ?_, ?_⟩
                  · exact ((hB1.other (by simp) _).other (by simp) _).other (by simp) _
                  · exact ((hR1.set 0 _).set 1 _).set 2 _
                  · exact (((hW1.setCell (by simp) _).setCell (by simp) _).setCell (by simp) _).drew
              · have HF := Lib.hid fine
                clear k7
                have a0 := hA.cell 0 _ rfl
                have a1 := hA.cell 1 _ rfl
                have a2 := hA.cell 2 _ rfl
                clear c0 c1 c2
                by_cases x1 : 8 ≤ z k 2
                · have e1 : decide (8 ≤ z k 2) = true := by simpa using x1
                  by_cases x2 : z k 2 ≤ 1048576
                  · have e2 : decide (z k 2 ≤ 1048576) = true := by simpa using x2
                    by_cases x3 : 0 ≤ z k 1
                    · have e3 : decide (0 ≤ z k 1) = true := by simpa using x3
                      have e4 : decide (z k 1 < z k 2) = false := by simp; omega
                      clear fine
                      go_wp2_with fail
                      refine (enter_no _ _ _ _ _ _ _ _ (hB.alloc _) (by omega) HF.out).mono ?_
                      rintro e w1 ⟨rfl, rfl⟩
                      go_wp2_with fail
                      go_meet
                      case rel => exact ⟨at_, last, long, frame, g1, g2, g3, g4, g5, by omega, hB.alloc _, hR.alloc _, hW.alloc hW.size _⟩
                    · have e3 : decide (0 ≤ z k 1) = false := by simpa using x3
                      clear fine
                      go_wp2_with fail
                      refine (enter_no _ _ _ _ _ _ _ _ (hB.alloc _) (by omega) HF.out).mono ?_
                      rintro e w1 ⟨rfl, rfl⟩
                      go_wp2_with fail
                      go_meet
                      case rel => exact ⟨at_, last, long, frame, g1, g2, g3, g4, g5, by omega, hB.alloc _, hR.alloc _, hW.alloc hW.size _⟩
                  · have e2 : decide (z k 2 ≤ 1048576) = false := by simpa using x2
                    clear fine
                    go_wp2_with fail
                    refine (enter_no _ _ _ _ _ _ _ _ (hB.alloc _) (by omega) HF.out).mono ?_
                    rintro e w1 ⟨rfl, rfl⟩
                    go_wp2_with fail
                    go_meet
                    case rel => exact ⟨at_, last, long, frame, g1, g2, g3, g4, g5, by omega, hB.alloc _, hR.alloc _, hW.alloc hW.size _⟩
                · have e1 : decide (8 ≤ z k 2) = false := by simpa using x1
                  clear fine
                  go_wp2_with fail
                  refine (enter_no _ _ _ _ _ _ _ _ (hB.alloc _) (by omega) HF.out).mono ?_
                  rintro e w1 ⟨rfl, rfl⟩
                  go_wp2_with fail
                  go_meet
                  case rel => exact ⟨at_, last, long, frame, g1, g2, g3, g4, g5, by omega, hB.alloc _, hR.alloc _, hW.alloc hW.size _⟩
            · have t7 : (z k 0 == 7) = false := by simpa using k7
              clear k7
              go_wp2_with fail
              refine (tick_any _ _ _ _ _ _ _ (hB.alloc _) (by omega) (by omega) (by omega) (by omega) (by omega) (by omega)).mono ?_
              rintro e w1 ⟨rfl, hB1, hg⟩
              have hR1 := (hR.alloc (.cells #[.int .i64 (z k 0), .int .i64 (z k 1), .int .i64 (z k 2)] 39)).kept hg (by simp)
              have hA1 := hA.kept hg (by intro e; injection e with e; omega)
              have hW1 := (hW.alloc hW.size (.cells #[.int .i64 (z k 0), .int .i64 (z k 1), .int .i64 (z k 2)] 39)).trans (gb_below hg (by have := hW.size; simp; omega) (by intro k hk; cases hk; exact Nat.le_refl _))
              clear hA hB hR hW hg c0 c1 c2
              have r0 := hR1.cell 0 _ rfl
              have r1 := hR1.cell 1 _ rfl
              have r2 := hR1.cell 2 _ rfl
              have r3 := hR1.cell 3 _ rfl
              have f0 := hR1.free 0
              have f1 := hR1.free 1
              have f2 := hR1.free 2
              have f3 := hR1.free 3
              have a0 := hA1.cell 0 _ rfl
              have a1 := hA1.cell 1 _ rfl
              have a2 := hA1.cell 2 _ rfl
              have hltR := hR1.lt
              have hltB := hB1.lt
              go_wp2_with fail
              refine (rtick_any _ _ _ _ _ _ (by omega) (by omega) (by omega) (by omega) (by omega) (by omega)).mono ?_
              rintro e w2 ⟨rfl, hg⟩
              replace hB1 := hB1.kept hg (by simp)
              replace hR1 := hR1.kept hg (by simp)
              replace hW1 := hW1.trans (gb_below hg hW1.size (by simp))
              clear r0 r1 r2 r3 f0 f1 f2 f3 a0 a1 a2 hA1 hg
              have r0 := hR1.cell 0 _ rfl
              have r1 := hR1.cell 1 _ rfl
              have r2 := hR1.cell 2 _ rfl
              have r3 := hR1.cell 3 _ rfl
              have f0 := hR1.free 0
              have f1 := hR1.free 1
              have f2 := hR1.free 2
              have f3 := hR1.free 3
              go_wp2_with fail
              go_meet
              case rel =>
                have q1 := tAt_range at_ long (z k 1) (by omega) g3 g4
                have q2 := tFrame_range at_ long frame (z k 1)
                refine ⟨tAt at_ long (z k 1), tLast at_ long (z k 1), long, tFrame at_ long frame (z k 1), g1, g2, q1.1, q1.2, by omega, by omega, ?_, ?_, ?_⟩
                · exact (((hB1.other (by simp) _).other (by simp) _).other (by simp) _).other (by simp) _
                · exact (((hR1.set 0 _).set 1 _).set 2 _).set 3 _
                · exact (((hW1.setCell (by simp) _).setCell (by simp) _).setCell (by simp) _).setCell (by simp) _
        case rest =>
          obtain ⟨at2, last2, long2, fr2, q1, q2, q3, q4, q5, q6, hB2, hR2, hW2⟩ := hcut
          clear c0 c1 c2 hB hR hW
          go_wp2_with fail
          have hBx : ∀ x : New wc, Blk x.w w.heap.size 46 (cells at2 last2 long2 fr2) := fun x => hB2.kept x.ok (by simp)
          have hx0 : ∀ x : New wc, x.w.cell? ⟨w.heap.size + 1, 0, none⟩ = some (.int .i64 at2) := fun x => (hR2.kept x.ok (by simp)).cell 0 _ rfl
          have hx1 : ∀ x : New wc, x.w.cell? ⟨w.heap.size + 1, 1, none⟩ = some (.int .i64 last2) := fun x => (hR2.kept x.ok (by simp)).cell 1 _ rfl
          have hx2 : ∀ x : New wc, x.w.cell? ⟨w.heap.size + 1, 2, none⟩ = some (.int .i64 long2) := fun x => (hR2.kept x.ok (by simp)).cell 2 _ rfl
          have hx3 : ∀ x : New wc, x.w.cell? ⟨w.heap.size + 1, 3, none⟩ = some (.int .i64 fr2) := fun x => (hR2.kept x.ok (by simp)).cell 3 _ rfl
          haveI hnw : Nonempty (New wc) := ⟨⟨wc, gb_refl _ _⟩⟩
          refine wp_region_new (by kernel_rfl) (by kernel_rfl) ?_
          repeat (go_big_quiet_step ((first | (go_at_call 14; exact in_eq (pos_any _ _ _ _ _ _ (hBx _) (by omega))) | (go_at_call 21; exact in_eq (long_any _ _ _ _ _ _ (hBx _) (by omega))) | (go_at_call 15; exact in_eq (frame_any _ _ _ _ _ _ (hBx _) (by omega))) | (go_at_call 13; exact new_same (passed_any _ _ _ _ _ _ _ (hBx _) (by omega) (by omega))) | (go_at_call 22; exact new_gb (rpassed_any _ _ _ _ _ _ (by omega) (by omega))))))
          refine wpQuiet_nil ?_
          intro _ hw'
          obtain ⟨⟨wx, hx⟩, hw''⟩ := hw'
          subst hw''
          clear hx0 hx1 hx2 hx3 hBx hnw
          replace hB2 := hB2.kept hx (by simp)
          replace hR2 := hR2.kept hx (by simp)
          replace hW2 := hW2.trans (gb_below hx hW2.size (by simp))
          clear hx
          have r0 := hR2.cell 0 _ rfl
          go_wp2_with fail
          clear r0
          go_loopw [14] (fun i wi => ∃ m : Int, at2 - 3 ≤ m ∧ m ≤ at2 + 4 ∧ i = .int .i64 m ∧ Blk wi w.heap.size 46 (cells at2 last2 long2 fr2) ∧ Blk wi (w.heap.size + 1) 37 (cells at2 last2 long2 fr2) ∧ Below w.heap.size w wi) (fun i _ => (at2 + 4 - intOf i).toNat)
          case atStart => exact ⟨at2 - 3, by omega, by omega, rfl, hB2, hR2, hW2⟩
          case round =>
            obtain ⟨m, m0, m1, rfl, hB4, hR4, hW4⟩ := hrel
            clear hB2 hR2 hW2
            have r0 := hR4.cell 0 _ rfl
            by_cases hm4 : m ≤ at2 + 3
            · have dm : decide (m ≤ at2 + 3) = true := by simpa using hm4
              go_wp2_with fail
              have hBx : ∀ x : New wr, Blk x.w w.heap.size 46 (cells at2 last2 long2 fr2) := fun x => hB4.kept x.ok (by simp)
              have hx0 : ∀ x : New wr, x.w.cell? ⟨w.heap.size + 1, 0, none⟩ = some (.int .i64 at2) := fun x => (hR4.kept x.ok (by simp)).cell 0 _ rfl
              have hx1 : ∀ x : New wr, x.w.cell? ⟨w.heap.size + 1, 1, none⟩ = some (.int .i64 last2) := fun x => (hR4.kept x.ok (by simp)).cell 1 _ rfl
              have hx2 : ∀ x : New wr, x.w.cell? ⟨w.heap.size + 1, 2, none⟩ = some (.int .i64 long2) := fun x => (hR4.kept x.ok (by simp)).cell 2 _ rfl
              have hx3 : ∀ x : New wr, x.w.cell? ⟨w.heap.size + 1, 3, none⟩ = some (.int .i64 fr2) := fun x => (hR4.kept x.ok (by simp)).cell 3 _ rfl
              haveI hnw : Nonempty (New wr) := ⟨⟨wr, gb_refl _ _⟩⟩
              refine wp_region_new (by kernel_rfl) (by kernel_rfl) ?_
              repeat (go_big_quiet_step ((first | (go_at_call 14; exact in_eq (pos_any _ _ _ _ _ _ (hBx _) (by omega))) | (go_at_call 21; exact in_eq (long_any _ _ _ _ _ _ (hBx _) (by omega))) | (go_at_call 15; exact in_eq (frame_any _ _ _ _ _ _ (hBx _) (by omega))) | (go_at_call 13; exact new_same (passed_any _ _ _ _ _ _ _ (hBx _) (by omega) (by omega))) | (go_at_call 22; exact new_gb (rpassed_any _ _ _ _ _ _ (by omega) (by omega))))))
              refine wpQuiet_nil ?_
              intro _ hw'
              obtain ⟨⟨wx, hx⟩, hw''⟩ := hw'
              subst hw''
              clear hx0 hx1 hx2 hx3 hBx hnw
              replace hB4 := hB4.kept hx (by simp)
              replace hR4 := hR4.kept hx (by simp)
              replace hW4 := hW4.trans (gb_below hx hW4.size (by simp))
              clear hx r0
              go_wp2_with fail
              go_roundw
              case rel => exact ⟨m + 1, by omega, by omega, rfl, hB4, hR4, hW4⟩
              case measure => simp [intOf]; omega
            · have dm : decide (m ≤ at2 + 3) = false := by simpa using hm4
              go_wp2_with fail
              go_roundw
              case rel => exact ⟨k + 1, by omega, by omega, by go_num, at2, last2, long2, fr2, q1, q2, q3, q4, q5, q6, hB4, hR4, hW4⟩
              case measure => simp [intOf]; omega
      · obtain rfl : k = 100 := by omega
        obtain ⟨at_, last, long, frame, g1, g2, g3, g4, g5, g6, hB, hR, hW⟩ := hb
        clear hB hR
        go_wp2_with fail
        refine (one_any _).mono ?_
        rintro e w2 ⟨rfl, hb2⟩
        go_wp2_with fail
        go_ret
        exact ⟨rfl, hW.trans (hb2.mono hW.size)⟩
    · obtain rfl : k = len := by omega
      obtain ⟨at_, last, long, frame, g1, g2, g3, g4, g5, g6, hB, hR, hW⟩ := hb
      clear hB hR
      go_wp2_with fail
      refine (one_any _).mono ?_
      rintro e w2 ⟨rfl, hb2⟩
      go_wp2_with fail
      go_ret
      exact ⟨rfl, hW.trans (hb2.mono hW.size)⟩
theorem walk {H : Type} {enc : TypeId × Value → H} (base : Nat) (W : World) (v0 : Value) (d0 : DataW H) (p0 : List MemPlace) (v1 : Value) (d1 : DataW H) (p1 : List MemPlace) (v2 : Value) (d2 : DataW H) (p2 : List MemPlace)
    (o0 : Value.okWide Try.prog W .any base 3 v0) (o1 : Value.okWide Try.prog W .any base 35 v1) (o2 : Value.okWide Try.prog W .any base 3 v2)
    (h0 : DataW.Trod enc Try.prog W 0 (fun _ => true) true 3 v0 d0 p0) (h1 : DataW.Trod enc Try.prog W 0 (fun _ => true) true 35 v1 d1 p1) (h2 : DataW.Trod enc Try.prog W 0 (fun _ => true) true 3 v2 d2 p2) :
    Calls Try.prog 6 #[v0, v1, v2] W fun e w' => e = .returned (.bool true) ∧ Below W.heap.size W w' := by
  obtain ⟨n, rfl, rfl, rfl, wn⟩ := open_int Try.underlying3 o0 h0
  obtain ⟨p, rfl, rfl, rfl, wp⟩ := open_int Try.underlying3 o2 h2
  obtain ⟨A, len, cap, z, rfl, hl, hm, hr⟩ := open_rdS Try.underlying35 Try.underlying39 (by kernel_rfl) (by kernel_rfl) (by decide) (by
    intro j f hj
    match j, hj with
    | 0, hj => cases hj; exact Try.underlying3
    | 1, hj => cases hj; exact Try.underlying3
    | 2, hj => cases hj; exact Try.underlying3) o1 h1
  by_cases h : 8 ≤ n ∧ n ≤ 1048576
  · exact walk_any W n p A len cap z h.1 h.2 (by unfold maxLen at hm; omega) hr
  · exact out_any W n p A len cap (by omega)
end clockPlaysW
end Go.Proofs.Ytpeknikbipcfaaa
