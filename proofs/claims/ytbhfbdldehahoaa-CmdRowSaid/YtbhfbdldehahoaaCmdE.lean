/- Commands: Read, the code's: those that go elsewhere, and those that stand alone. -/
import Derived.Test.YtbhfbdldehahoaaCmdD
namespace Go.Proofs.Ytbhfbdldehahoaa
open Go.RowKit
set_option linter.unusedVariables false
set_option linter.unusedSimpArgs false
namespace Cm
attribute [local go_sem] alloc_drewN' setCell_drewN'
theorem or256 (x y : Int) (h1 : 0 ≤ x) (h2 : x ≤ 255) (h3 : 0 ≤ y) (h4 : y ≤ 255) : ∃ m, bits .or .i64 (x * 256) y = m ∧ Hid (256 * x + y = m) ∧ 0 ≤ m ∧ m ≤ 65535 := by
  refine ⟨256 * x + y, ?_, rfl, by omega, by omega⟩
  rw [bits_join .i64 62 (by decide) (fun n h0 h1 => by rw [IntKind.wrap_i64]; have : (2:Int)^62 = 4611686018427387904 := by decide
                                                       omega) 8 (x * 256) y (by omega) (by omega) (by have : (2:Int)^62 = 4611686018427387904 := by decide
                                                                                                      omega) h3 (by omega) (by have : (2:Int)^62 = 4611686018427387904 := by decide
                                                                                                                               omega)]
  omega
set_option maxRecDepth 100000 in
set_option maxHeartbeats 2000000 in
theorem short_go (w : World) (B b off n cp p : Nat) (z : Nat → Int) (hn : n ≤ cp) (hcp : cp ≤ 9223372036854775807) (hp : p < n) (hz : ∀ i, i < n → 0 ≤ z i ∧ z i ≤ 255) (hbw : b < w.heap.size) (hc : ∀ i, i < n → w.cell? ⟨b, off + i, none⟩ = some (.int .u8 (z i))) (o : Int) (ho : o = 6 ∨ o = 8) (h : z p = o) (hs : n < p + 1 + 2) :
    Calls Try.prog 7 #[.slice (some ⟨b, off, none⟩) n cp, .int .i64 p] w fun e w' => e = .returned (res zero 0 10) ∧ w.grownBy w' none := by
  have d1 : decide ((p : Int) < 0) = false := by simp
  have d2 : decide ((n : Int) < (p : Int)) = false := by simp; omega
  have d3 : ((p : Int) == (n : Int)) = false := by simp; omega
  have hb1 : b < w.heap.size + 1 := by omega
  have hb2 : b < w.heap.size + 1 + 1 := by omega
  have hb3 : b < w.heap.size + 1 + 1 + 1 := by omega
  have hb4 : b < w.heap.size + 1 + 1 + 1 + 1 := by omega
  have cp0 : w.cell? ⟨b, off + p, none⟩ = some (.int .u8 o) := by rw [hc p hp, h]
  have d5 : decide (8 < o) = false := by simp; omega
  have d4 : decide (n - (p + 1) < 2) = true := by simp; omega
  have HO := Lib.hid ho
  have o0 : 0 ≤ o ∧ o ≤ 255 := by omega
  clear hc hz h ho
  go_enter Try.func7, Try.ntmps7
  go_wp2_with fail
  all_goals
    refine (bytes_none _ _ o (by go_simp) (by have := HO.out; omega) (by have := HO.out; omega) (by have := HO.out; omega) (by have := HO.out; omega)).mono ?_
    rintro e w1 ⟨rfl, rfl⟩
    go_wp2_with fail
    refine (goes_yes _ _ o (by go_simp) HO.out).mono ?_
    rintro e w1 ⟨rfl, n2, rfl⟩
    go_upto_region 12 with (fail)
    refine forget_world (fun w' => Blk w' w.heap.size 24 zero.cells ∧ Below w.heap.size w w') ⟨?_, ?_⟩ ?_
    · first | exact ((((Blk.new w 24 zero.cells).alloc _).alloc _).drewN _) | exact ((((Blk.new w 24 zero.cells).alloc _)).drewN _)
    · exact (below_of_gb (by repeat (with_reducible (first | exact gb_refl _ _ | apply gb_drewN | apply gb_drew | apply gb_alloc | (refine gb_setNew ?_ (by simp <;> omega) _)))))
    rintro w' ⟨HB, hW⟩
    have r0 := HB.cell 0 _ rfl
    have r1 := HB.cell 1 _ rfl
    have r2 := HB.cell 2 _ rfl
    have r3 := HB.cell 3 _ rfl
    have r4 := HB.cell 4 _ rfl
    have r5 := HB.cell 5 _ rfl
    have r6 := HB.cell 6 _ rfl
    have fr0 := HB.free 0
    have fr1 := HB.free 1
    have fr2 := HB.free 2
    have fr3 := HB.free 3
    have fr4 := HB.free 4
    have fr5 := HB.free 5
    have fr6 := HB.free 6
    go_wp2_with fail
    have hE := (((((((HB.set 0 (.int .i64 (0))).set 1 (.int .i64 (0))).set 2 (.int .i64 (0))).set 3 (.int .i64 (0))).set 4 (.int .i64 (0))).set 5 (.int .i64 (0))).set 6 (.int .i64 (0)))
    refine bodyPost_ret (v := res zero 0 10) (by simp [results, Try.results7, go_sem, zero, hE.cell 0 _ rfl, hE.cell 1 _ rfl, hE.cell 2 _ rfl, hE.cell 3 _ rfl, hE.cell 4 _ rfl, hE.cell 5 _ rfl, hE.cell 6 _ rfl]) rfl ⟨rfl, ?_⟩
    repeat (with_reducible (first | exact gb_of_below hW | apply gb_drewN | apply gb_drew | apply gb_alloc | (refine gb_setNew ?_ (by simp <;> omega) _)))
set_option maxRecDepth 100000 in
set_option maxHeartbeats 4000000 in
theorem full_go (w : World) (B b off n cp p : Nat) (z : Nat → Int) (hn : n ≤ cp) (hcp : cp ≤ 9223372036854775807) (hp : p < n) (hz : ∀ i, i < n → 0 ≤ z i ∧ z i ≤ 255) (hbw : b < w.heap.size) (hc : ∀ i, i < n → w.cell? ⟨b, off + i, none⟩ = some (.int .u8 (z i))) (o : Int) (ho : o = 6 ∨ o = 8) (h : z p = o) (hs : p + 1 + 2 ≤ n) :
    Calls Try.prog 7 #[.slice (some ⟨b, off, none⟩) n cp, .int .i64 p] w fun e w' => (right (dec z p) ∧ e = .returned (res (dec z p) (p + 1 + need (z p)) 0) ∨ ¬ right (dec z p) ∧ e = .returned (res zero 0 11)) ∧ w.grownBy w' none := by
  have d1 : decide ((p : Int) < 0) = false := by simp
  have d2 : decide ((n : Int) < (p : Int)) = false := by simp; omega
  have d3 : ((p : Int) == (n : Int)) = false := by simp; omega
  have hb1 : b < w.heap.size + 1 := by omega
  have hb2 : b < w.heap.size + 1 + 1 := by omega
  have hb3 : b < w.heap.size + 1 + 1 + 1 := by omega
  have hb4 : b < w.heap.size + 1 + 1 + 1 + 1 := by omega
  have cp0 : w.cell? ⟨b, off + p, none⟩ = some (.int .u8 o) := by rw [hc p hp, h]
  have d5 : decide (8 < o) = false := by simp; omega
  have d4 : decide (n - (p + 1) < 2) = false := by simp; omega
  have hd : dec z p = ⟨o, 0, 0, 0, 0, 0, 256 * z (p + 1) + z (p + 2)⟩ := by rcases ho with rfl | rfl <;> simp [dec, h]
  have hnd : need (z p) = 2 := by rcases ho with rfl | rfl <;> simp [need, h]
  rw [hd, hnd]
  have HO := Lib.hid ho
  have o0 : 0 ≤ o ∧ o ≤ 255 := by omega
  have cp1 : w.cell? ⟨b, off + (p + 1), none⟩ = some (.int .u8 (z (p + 1))) := by have := hc (p + 1) (by omega); exact this
  obtain ⟨u1, v1⟩ := hz (p + 1) (by omega)
  generalize z (p + 1) = z1 at *
  have cp2 : w.cell? ⟨b, off + (p + 1) + 1, none⟩ = some (.int .u8 (z (p + 2))) := by have := hc (p + 2) (by omega); rw [show off + (p + 1) + 1 = off + (p + 2) by omega]; exact this
  obtain ⟨u2, v2⟩ := hz (p + 2) (by omega)
  generalize z (p + 2) = z2 at *
  obtain ⟨m, HM, HE, m0, m1⟩ := or256 z1 z2 u1 v1 u2 v2
  rw [show (256 * z1 + z2 : Int) = m from HE]
  clear hc hz h hd hnd ho HE
  go_enter Try.func7, Try.ntmps7
  go_wp2_with fail
  all_goals
    refine (bytes_none _ _ o (by go_simp) (by have := HO.out; omega) (by have := HO.out; omega) (by have := HO.out; omega) (by have := HO.out; omega)).mono ?_
    rintro e w1 ⟨rfl, rfl⟩
    go_wp2_with fail
    refine (goes_yes _ _ o (by go_simp) HO.out).mono ?_
    rintro e w1 ⟨rfl, n2, rfl⟩
    go_wp2_with fail
    refine (bytes_none _ _ o (by go_simp) (by have := HO.out; omega) (by have := HO.out; omega) (by have := HO.out; omega) (by have := HO.out; omega)).mono ?_
    rintro e w1 ⟨rfl, rfl⟩
    go_wp2_with fail
    refine wp_loop_rounds 1 ?_
    rw [rounds_succ]
    go_wp2_with fail
    refine (goes_yes _ _ o (by go_simp) HO.out).mono ?_
    rintro e w1 ⟨rfl, n3, rfl⟩
    go_upto_region 20 with (fail)
    go_region
    go_upto_region 21 with (fail)
    refine forget_world (fun w' => Blk w' (w.heap.size + 1) 24 (Cd.cells ⟨o, 0, 0, 0, 0, 0, m⟩) ∧ Blk w' w.heap.size 24 zero.cells ∧ Below w.heap.size w w') ⟨?_, ?_, ?_⟩ ?_
    · have hN : Blk ((w.alloc (.cells #[.int .i64 0, .int .i64 0, .int .i64 0, .int .i64 0, .int .i64 0, .int .i64 0, .int .i64 0] 24)).alloc (.cells #[.int .i64 o, .int .i64 0, .int .i64 0, .int .i64 0, .int .i64 0, .int .i64 0, .int .i64 m] 24)) (w.heap.size + 1) 24 (Cd.cells ⟨o, 0, 0, 0, 0, 0, m⟩) := by
        have := Blk.new (w.alloc (.cells #[.int .i64 0, .int .i64 0, .int .i64 0, .int .i64 0, .int .i64 0, .int .i64 0, .int .i64 0] 24)) 24 (Cd.cells ⟨o, 0, 0, 0, 0, 0, m⟩)
        simpa only [World.size_alloc] using this
      repeat (with_reducible (first | exact hN | apply Blk.drewN | apply Blk.drew | apply Blk.alloc | apply Blk.set | (refine Blk.other ?_ (by simp) _)))
    · have hN : Blk (w.alloc (.cells #[.int .i64 0, .int .i64 0, .int .i64 0, .int .i64 0, .int .i64 0, .int .i64 0, .int .i64 0] 24)) w.heap.size 24 zero.cells := Blk.new w 24 zero.cells
      repeat (with_reducible (first | exact hN | apply Blk.drewN | apply Blk.drew | apply Blk.alloc | apply Blk.set | (refine Blk.other ?_ (by simp) _)))
    · exact (below_of_gb (by repeat (with_reducible (first | exact gb_refl _ _ | apply gb_drewN | apply gb_drew | apply gb_alloc | (refine gb_setNew ?_ (by simp <;> omega) _)))))
    rintro w' ⟨HC, HB, hW⟩
    have e0 := HC.cell 0 _ rfl
    have e1 := HC.cell 1 _ rfl
    have e2 := HC.cell 2 _ rfl
    have e3 := HC.cell 3 _ rfl
    have e4 := HC.cell 4 _ rfl
    have e5 := HC.cell 5 _ rfl
    have e6 := HC.cell 6 _ rfl
    have fe0 := HC.free 0
    have fe1 := HC.free 1
    have fe2 := HC.free 2
    have fe3 := HC.free 3
    have fe4 := HC.free 4
    have fe5 := HC.free 5
    have fe6 := HC.free 6
    have sW := hW.size
    go_wp2_with fail
    refine (right_any _ ⟨o, 0, 0, 0, 0, 0, m⟩ (by simp) (by simp) (by simp) (by simp)).mono ?_
    rintro e w2 ⟨bb, rfl, hb, hg⟩
    replace HC := HC.kept hg (by simp)
    replace HB := HB.kept hg (by simp)
    replace hW := hW.trans (gb_below hg hW.size (by simp))
    clear hg e0 fe0 e1 fe1 e2 fe2 e3 fe3 e4 fe4 e5 fe5 e6 fe6
    have e0 := HC.cell 0 _ rfl
    have e1 := HC.cell 1 _ rfl
    have e2 := HC.cell 2 _ rfl
    have e3 := HC.cell 3 _ rfl
    have e4 := HC.cell 4 _ rfl
    have e5 := HC.cell 5 _ rfl
    have e6 := HC.cell 6 _ rfl
    have fe0 := HC.free 0
    have fe1 := HC.free 1
    have fe2 := HC.free 2
    have fe3 := HC.free 3
    have fe4 := HC.free 4
    have fe5 := HC.free 5
    have fe6 := HC.free 6
    have r0 := HB.cell 0 _ rfl
    have r1 := HB.cell 1 _ rfl
    have r2 := HB.cell 2 _ rfl
    have r3 := HB.cell 3 _ rfl
    have r4 := HB.cell 4 _ rfl
    have r5 := HB.cell 5 _ rfl
    have r6 := HB.cell 6 _ rfl
    have fr0 := HB.free 0
    have fr1 := HB.free 1
    have fr2 := HB.free 2
    have fr3 := HB.free 3
    have fr4 := HB.free 4
    have fr5 := HB.free 5
    have fr6 := HB.free 6
    cases bb
    · have HY := Lib.hid (show ¬ right ⟨o, 0, 0, 0, 0, 0, m⟩ from fun h => by simpa using hb.2 h)
      clear hb
      go_wp2_with fail
      have hE := (((((((HB.set 0 (.int .i64 (0))).set 1 (.int .i64 (0))).set 2 (.int .i64 (0))).set 3 (.int .i64 (0))).set 4 (.int .i64 (0))).set 5 (.int .i64 (0))).set 6 (.int .i64 (0)))
      refine bodyPost_ret (v := res zero 0 11) (by simp [results, Try.results7, go_sem, zero, hE.cell 0 _ rfl, hE.cell 1 _ rfl, hE.cell 2 _ rfl, hE.cell 3 _ rfl, hE.cell 4 _ rfl, hE.cell 5 _ rfl, hE.cell 6 _ rfl]) rfl ⟨.inr ⟨HY.out, rfl⟩, ?_⟩
      repeat (with_reducible (first | exact gb_of_below hW | apply gb_drewN | apply gb_drew | apply gb_alloc | (refine gb_setNew ?_ (by simp <;> omega) _)))
    · have HY := Lib.hid (show right ⟨o, 0, 0, 0, 0, 0, m⟩ from hb.1 rfl)
      clear hb
      go_upto_region 23 with (fail)
      go_wp2_with fail
      have hE := (((((((HB.set 0 (.int .i64 (o))).set 1 (.int .i64 (0))).set 2 (.int .i64 (0))).set 3 (.int .i64 (0))).set 4 (.int .i64 (0))).set 5 (.int .i64 (0))).set 6 (.int .i64 (m)))
      refine bodyPost_ret (v := res ⟨o, 0, 0, 0, 0, 0, m⟩ (p + 1 + 2) 0) (by simp [results, Try.results7, go_sem, zero, hE.cell 0 _ rfl, hE.cell 1 _ rfl, hE.cell 2 _ rfl, hE.cell 3 _ rfl, hE.cell 4 _ rfl, hE.cell 5 _ rfl, hE.cell 6 _ rfl]) rfl ⟨.inl ⟨HY.out, rfl⟩, ?_⟩
      repeat (with_reducible (first | exact gb_of_below hW | apply gb_drewN | apply gb_drew | apply gb_alloc | (refine gb_setNew ?_ (by simp <;> omega) _)))
set_option maxRecDepth 100000 in
set_option maxHeartbeats 4000000 in
theorem full_stay (w : World) (B b off n cp p : Nat) (z : Nat → Int) (hn : n ≤ cp) (hcp : cp ≤ 9223372036854775807) (hp : p < n) (hz : ∀ i, i < n → 0 ≤ z i ∧ z i ≤ 255) (hbw : b < w.heap.size) (hc : ∀ i, i < n → w.cell? ⟨b, off + i, none⟩ = some (.int .u8 (z i))) (o : Int) (ho : o = 0 ∨ o = 5 ∨ o = 7) (h : z p = o) :
    Calls Try.prog 7 #[.slice (some ⟨b, off, none⟩) n cp, .int .i64 p] w fun e w' => (right (dec z p) ∧ e = .returned (res (dec z p) (p + 1 + need (z p)) 0) ∨ ¬ right (dec z p) ∧ e = .returned (res zero 0 11)) ∧ w.grownBy w' none := by
  have d1 : decide ((p : Int) < 0) = false := by simp
  have d2 : decide ((n : Int) < (p : Int)) = false := by simp; omega
  have d3 : ((p : Int) == (n : Int)) = false := by simp; omega
  have hb1 : b < w.heap.size + 1 := by omega
  have hb2 : b < w.heap.size + 1 + 1 := by omega
  have hb3 : b < w.heap.size + 1 + 1 + 1 := by omega
  have hb4 : b < w.heap.size + 1 + 1 + 1 + 1 := by omega
  have cp0 : w.cell? ⟨b, off + p, none⟩ = some (.int .u8 o) := by rw [hc p hp, h]
  have d5 : decide (8 < o) = false := by simp; omega
  have d4 : decide (n - (p + 1) < 0) = false := by simp
  have hd : dec z p = ⟨o, 0, 0, 0, 0, 0, 0⟩ := by rcases ho with rfl | rfl | rfl <;> simp [dec, h]
  have hnd : need (z p) = 0 := by rcases ho with rfl | rfl | rfl <;> simp [need, h]
  rw [hd, hnd]
  have HO := Lib.hid ho
  have o0 : 0 ≤ o ∧ o ≤ 255 := by omega
  clear hc hz h hd hnd ho
  go_enter Try.func7, Try.ntmps7
  go_wp2_with fail
  all_goals
    refine (bytes_none _ _ o (by go_simp) (by have := HO.out; omega) (by have := HO.out; omega) (by have := HO.out; omega) (by have := HO.out; omega)).mono ?_
    rintro e w1 ⟨rfl, rfl⟩
    go_wp2_with fail
    refine (goes_no _ _ o (by go_simp) (by have := HO.out; omega) (by have := HO.out; omega)).mono ?_
    rintro e w1 ⟨rfl, n2, rfl⟩
    go_wp2_with fail
    refine (bytes_none _ _ o (by go_simp) (by have := HO.out; omega) (by have := HO.out; omega) (by have := HO.out; omega) (by have := HO.out; omega)).mono ?_
    rintro e w1 ⟨rfl, rfl⟩
    go_wp2_with fail
    refine wp_loop_rounds 1 ?_
    rw [rounds_succ]
    go_wp2_with fail
    refine (goes_no _ _ o (by go_simp) (by have := HO.out; omega) (by have := HO.out; omega)).mono ?_
    rintro e w1 ⟨rfl, n3, rfl⟩
    go_upto_region 21 with (fail)
    refine forget_world (fun w' => Blk w' (w.heap.size + 1) 24 (Cd.cells ⟨o, 0, 0, 0, 0, 0, 0⟩) ∧ Blk w' w.heap.size 24 zero.cells ∧ Below w.heap.size w w') ⟨?_, ?_, ?_⟩ ?_
    · have hN : Blk ((w.alloc (.cells #[.int .i64 0, .int .i64 0, .int .i64 0, .int .i64 0, .int .i64 0, .int .i64 0, .int .i64 0] 24)).alloc (.cells #[.int .i64 o, .int .i64 0, .int .i64 0, .int .i64 0, .int .i64 0, .int .i64 0, .int .i64 0] 24)) (w.heap.size + 1) 24 (Cd.cells ⟨o, 0, 0, 0, 0, 0, 0⟩) := by
        have := Blk.new (w.alloc (.cells #[.int .i64 0, .int .i64 0, .int .i64 0, .int .i64 0, .int .i64 0, .int .i64 0, .int .i64 0] 24)) 24 (Cd.cells ⟨o, 0, 0, 0, 0, 0, 0⟩)
        simpa only [World.size_alloc] using this
      repeat (with_reducible (first | exact hN | apply Blk.drewN | apply Blk.drew | apply Blk.alloc | apply Blk.set | (refine Blk.other ?_ (by simp) _)))
    · have hN : Blk (w.alloc (.cells #[.int .i64 0, .int .i64 0, .int .i64 0, .int .i64 0, .int .i64 0, .int .i64 0, .int .i64 0] 24)) w.heap.size 24 zero.cells := Blk.new w 24 zero.cells
      repeat (with_reducible (first | exact hN | apply Blk.drewN | apply Blk.drew | apply Blk.alloc | apply Blk.set | (refine Blk.other ?_ (by simp) _)))
    · exact (below_of_gb (by repeat (with_reducible (first | exact gb_refl _ _ | apply gb_drewN | apply gb_drew | apply gb_alloc | (refine gb_setNew ?_ (by simp <;> omega) _)))))
    rintro w' ⟨HC, HB, hW⟩
    have e0 := HC.cell 0 _ rfl
    have e1 := HC.cell 1 _ rfl
    have e2 := HC.cell 2 _ rfl
    have e3 := HC.cell 3 _ rfl
    have e4 := HC.cell 4 _ rfl
    have e5 := HC.cell 5 _ rfl
    have e6 := HC.cell 6 _ rfl
    have fe0 := HC.free 0
    have fe1 := HC.free 1
    have fe2 := HC.free 2
    have fe3 := HC.free 3
    have fe4 := HC.free 4
    have fe5 := HC.free 5
    have fe6 := HC.free 6
    have sW := hW.size
    go_wp2_with fail
    refine (right_any _ ⟨o, 0, 0, 0, 0, 0, 0⟩ (by simp) (by simp) (by simp) (by simp)).mono ?_
    rintro e w2 ⟨bb, rfl, hb, hg⟩
    replace HC := HC.kept hg (by simp)
    replace HB := HB.kept hg (by simp)
    replace hW := hW.trans (gb_below hg hW.size (by simp))
    clear hg e0 fe0 e1 fe1 e2 fe2 e3 fe3 e4 fe4 e5 fe5 e6 fe6
    have e0 := HC.cell 0 _ rfl
    have e1 := HC.cell 1 _ rfl
    have e2 := HC.cell 2 _ rfl
    have e3 := HC.cell 3 _ rfl
    have e4 := HC.cell 4 _ rfl
    have e5 := HC.cell 5 _ rfl
    have e6 := HC.cell 6 _ rfl
    have fe0 := HC.free 0
    have fe1 := HC.free 1
    have fe2 := HC.free 2
    have fe3 := HC.free 3
    have fe4 := HC.free 4
    have fe5 := HC.free 5
    have fe6 := HC.free 6
    have r0 := HB.cell 0 _ rfl
    have r1 := HB.cell 1 _ rfl
    have r2 := HB.cell 2 _ rfl
    have r3 := HB.cell 3 _ rfl
    have r4 := HB.cell 4 _ rfl
    have r5 := HB.cell 5 _ rfl
    have r6 := HB.cell 6 _ rfl
    have fr0 := HB.free 0
    have fr1 := HB.free 1
    have fr2 := HB.free 2
    have fr3 := HB.free 3
    have fr4 := HB.free 4
    have fr5 := HB.free 5
    have fr6 := HB.free 6
    cases bb
    · have HY := Lib.hid (show ¬ right ⟨o, 0, 0, 0, 0, 0, 0⟩ from fun h => by simpa using hb.2 h)
      clear hb
      go_wp2_with fail
      have hE := (((((((HB.set 0 (.int .i64 (0))).set 1 (.int .i64 (0))).set 2 (.int .i64 (0))).set 3 (.int .i64 (0))).set 4 (.int .i64 (0))).set 5 (.int .i64 (0))).set 6 (.int .i64 (0)))
      refine bodyPost_ret (v := res zero 0 11) (by simp [results, Try.results7, go_sem, zero, hE.cell 0 _ rfl, hE.cell 1 _ rfl, hE.cell 2 _ rfl, hE.cell 3 _ rfl, hE.cell 4 _ rfl, hE.cell 5 _ rfl, hE.cell 6 _ rfl]) rfl ⟨.inr ⟨HY.out, rfl⟩, ?_⟩
      repeat (with_reducible (first | exact gb_of_below hW | apply gb_drewN | apply gb_drew | apply gb_alloc | (refine gb_setNew ?_ (by simp <;> omega) _)))
    · have HY := Lib.hid (show right ⟨o, 0, 0, 0, 0, 0, 0⟩ from hb.1 rfl)
      clear hb
      go_upto_region 23 with (fail)
      go_wp2_with fail
      have hE := (((((((HB.set 0 (.int .i64 (o))).set 1 (.int .i64 (0))).set 2 (.int .i64 (0))).set 3 (.int .i64 (0))).set 4 (.int .i64 (0))).set 5 (.int .i64 (0))).set 6 (.int .i64 (0)))
      refine bodyPost_ret (v := res ⟨o, 0, 0, 0, 0, 0, 0⟩ (p + 1 + 0) 0) (by simp [results, Try.results7, go_sem, zero, hE.cell 0 _ rfl, hE.cell 1 _ rfl, hE.cell 2 _ rfl, hE.cell 3 _ rfl, hE.cell 4 _ rfl, hE.cell 5 _ rfl, hE.cell 6 _ rfl]) rfl ⟨.inl ⟨HY.out, rfl⟩, ?_⟩
      repeat (with_reducible (first | exact gb_of_below hW | apply gb_drewN | apply gb_drew | apply gb_alloc | (refine gb_setNew ?_ (by simp <;> omega) _)))
open Classical in
/-- What Read tells: the command, where the next one stands, the error. -/
noncomputable def readV (n : Nat) (z : Nat → Int) (i : Int) : Cd × Int × Int :=
  if i < 0 ∨ n < i then (zero, 0, 2) else if i = n then (zero, 0, 10) else if 8 < z i.toNat then (zero, 0, 11)
  else if n < i + 1 + need (z i.toNat) then (zero, 0, 10) else if right (dec z i.toNat) then (dec z i.toNat, i + 1 + need (z i.toNat), 0) else (zero, 0, 11)
theorem read_any (w : World) (A : Option Addr) (n cp : Nat) (z : Nat → Int) (i : Int) (hn : n ≤ cp) (hcp : cp ≤ 9223372036854775807) (hA : 0 < n → ∃ b off, A = some ⟨b, off, none⟩ ∧ b < w.heap.size ∧ ∀ i, i < n → w.cell? ⟨b, off + i, none⟩ = some (.int .u8 (z i)))
    (hz : ∀ i, i < n → 0 ≤ z i ∧ z i ≤ 255) :
    Calls Try.prog 7 #[.slice A n cp, .int .i64 i] w fun e w' => e = .returned (res (readV n z i).1 (readV n z i).2.1 (readV n z i).2.2) ∧ w.grownBy w' none := by
  by_cases h1 : i < 0 ∨ n < i
  · have hv : readV n z i = (zero, 0, 2) := by unfold readV; rw [if_pos h1]
    rw [hv]
    exact read_out w A n cp i (by omega) h1
  by_cases h2 : i = n
  · have hv : readV n z i = (zero, 0, 10) := by unfold readV; rw [if_neg h1, if_pos h2]
    rw [hv, h2]
    exact read_end w A n cp (by omega)
  obtain ⟨p, rfl⟩ : ∃ p : Nat, i = p := ⟨i.toNat, by omega⟩
  have hp : p < n := by omega
  obtain ⟨b, off, rfl, hbw, hc⟩ := hA (by omega)
  obtain ⟨z0, z1⟩ := hz p hp
  by_cases h3 : 8 < z p
  · have hv : readV n z p = (zero, 0, 11) := by unfold readV; rw [if_neg h1, if_neg h2, if_pos (by simpa using h3)]
    rw [hv]
    exact read_form w 0 b off n cp p z hn hcp hp hz hbw hc h3
  by_cases h4 : (n : Int) < p + 1 + need (z p)
  · have hv : readV n z p = (zero, 0, 10) := by unfold readV; rw [if_neg h1, if_neg h2, if_neg (by simpa using h3), if_pos (by simpa using h4)]
    rw [hv]
    by_cases k1 : z p = 1
    · exact short1 w 0 b off n cp p z hn hcp hp hz hbw hc k1 (by simp [need, k1] at h4; omega)
    by_cases k2 : z p = 2
    · exact short2 w 0 b off n cp p z hn hcp hp hz hbw hc k2 (by simp [need, k2] at h4; omega)
    by_cases k3 : z p = 3
    · exact short3 w 0 b off n cp p z hn hcp hp hz hbw hc k3 (by simp [need, k3] at h4; omega)
    by_cases k4 : z p = 4
    · exact short4 w 0 b off n cp p z hn hcp hp hz hbw hc k4 (by simp [need, k4] at h4; omega)
    by_cases k6 : z p = 6 ∨ z p = 8
    · exact short_go w 0 b off n cp p z hn hcp hp hz hbw hc (z p) k6 rfl (by simp [need, k1, k2, k3, k4, k6] at h4; omega)
    simp [need, k1, k2, k3, k4, k6] at h4
    omega
  have key : Calls Try.prog 7 #[.slice (some ⟨b, off, none⟩) n cp, .int .i64 p] w fun e w' => (right (dec z p) ∧ e = .returned (res (dec z p) (p + 1 + need (z p)) 0) ∨ ¬ right (dec z p) ∧ e = .returned (res zero 0 11)) ∧ w.grownBy w' none := by
    by_cases k1 : z p = 1
    · exact full1 w 0 b off n cp p z hn hcp hp hz hbw hc k1 (by simp [need, k1] at h4; omega)
    by_cases k2 : z p = 2
    · exact full2 w 0 b off n cp p z hn hcp hp hz hbw hc k2 (by simp [need, k2] at h4; omega)
    by_cases k3 : z p = 3
    · exact full3 w 0 b off n cp p z hn hcp hp hz hbw hc k3 (by simp [need, k3] at h4; omega)
    by_cases k4 : z p = 4
    · exact full4 w 0 b off n cp p z hn hcp hp hz hbw hc k4 (by simp [need, k4] at h4; omega)
    by_cases k6 : z p = 6 ∨ z p = 8
    · exact full_go w 0 b off n cp p z hn hcp hp hz hbw hc (z p) k6 rfl (by simp [need, k1, k2, k3, k4, k6] at h4; omega)
    · exact full_stay w 0 b off n cp p z hn hcp hp hz hbw hc (z p) (by omega) rfl
  refine key.mono ?_
  rintro e w' ⟨he, hg⟩
  refine ⟨?_, hg⟩
  rcases he with ⟨hr, rfl⟩ | ⟨hr, rfl⟩
  · have hv : readV n z p = (dec z p, (p : Int) + 1 + need (z p), 0) := by unfold readV; rw [if_neg h1, if_neg h2, if_neg (by simpa using h3), if_neg (by simpa using h4), if_pos (by simpa using hr)]; simp
    rw [hv]
  · have hv : readV n z p = (zero, 0, 11) := by unfold readV; rw [if_neg h1, if_neg h2, if_neg (by simpa using h3), if_neg (by simpa using h4), if_neg (by simpa using hr)]
    rw [hv]
end Cm
end Go.Proofs.Ytbhfbdldehahoaa
