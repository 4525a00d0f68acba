/- Commands: the reference's Read. -/
import Derived.Test.YtbhfbdldehahoaaCmdG
namespace Go.Proofs.Ytbhfbdldehahoaa
open Go.RowKit
set_option linter.unusedVariables false
set_option linter.unusedSimpArgs false
namespace Cm
attribute [local go_sem] alloc_drewN' setCell_drewN'
/-- A string's byte. -/
def bz (s : ByteArray) (i : Nat) : Int := ((s.data[i]?).getD 0).toNat
theorem bz_lo (s : ByteArray) (i : Nat) : 0 ≤ bz s i ∧ bz s i ≤ 255 := by
  unfold bz
  have := ((s.data[i]?).getD 0).toNat_lt
  omega
theorem bz_at (s : ByteArray) (i : Nat) (h : i < s.size) : ((s[i]'h).toNat : Int) = bz s i := by
  unfold bz
  have : s.data[i]? = some (s[i]'h) := by
    show s.data[i]? = some (s.data[i]'h)
    simp
  rw [this]; rfl
theorem run_index_bz {P : Program} (w : World) (t : TypeId) (s : ByteArray) (k : IntKind) (i : Int) (h : P.underlying t = some .string) :
    (Instr.index t (.string s) (.int k i)).run P w = if 0 ≤ i ∧ i < s.size then .ok (.int .u8 (bz s i.toNat)) w else (boundsPanic k i s.size .index).run P w := by
  rw [run_index_string w t s k i h]
  by_cases hi : 0 ≤ i ∧ i < s.size
  · rw [dif_pos hi, if_pos hi, bz_at]
  · rw [dif_neg hi, if_neg hi]
theorem bz_extract (s : ByteArray) (a b j : Nat) (hb : b ≤ s.size) (hj : a + j < b) : bz (s.extract a b) j = bz s (a + j) := by
  unfold bz
  have : (s.extract a b).data[j]? = s.data[a + j]? := by
    have hs : s.data.size = s.size := rfl
    rw [ByteArray.data_extract, Array.getElem?_extract]
    rw [if_pos (by omega)]
  rw [this]
theorem size_extract (s : ByteArray) (a b : Nat) (hb : b ≤ s.size) : (s.extract a b).size = b - a := by
  simp; omega
attribute [local go_sem high] run_index_bz
attribute [-go_sem] run_index_string
set_option maxRecDepth 100000 in
set_option maxHeartbeats 1000000 in
theorem rread_out (w : World) (s : ByteArray) (at_ : Int) (hn : s.size ≤ 9223372036854775807) (h : at_ < 0 ∨ s.size < at_) :
    Calls Try.prog 8 #[.string s, .int .i64 at_] w fun e w' => e = .returned (res zero 0 2) ∧ w.grownBy w' none := by
  rcases h with h | h
  · have d1 : decide (at_ < 0) = true := by simpa using h
    go_enter Try.func8, Try.ntmps8
    go_wp2
    refine bodyPost_ret (v := res zero 0 2) (by simp [results, Try.results8, go_sem, zero]) rfl ⟨rfl, ?_⟩
    exact gb_alloc (gb_refl _ _) _
  · have d1 : decide (at_ < 0) = false := by simp; omega
    have d2 : decide ((s.size : Int) < at_) = true := by simpa using h
    go_enter Try.func8, Try.ntmps8
    go_wp2
    refine bodyPost_ret (v := res zero 0 2) (by simp [results, Try.results8, go_sem, zero]) rfl ⟨rfl, ?_⟩
    exact gb_alloc (gb_refl _ _) _
set_option maxRecDepth 100000 in
set_option maxHeartbeats 1000000 in
theorem rread_end (w : World) (s : ByteArray) (hn : s.size ≤ 9223372036854775807) :
    Calls Try.prog 8 #[.string s, .int .i64 s.size] w fun e w' => e = .returned (res zero 0 10) ∧ w.grownBy w' none := by
  have d1 : decide ((s.size : Int) < 0) = false := by simp
  go_enter Try.func8, Try.ntmps8
  go_wp2
  refine bodyPost_ret (v := res zero 0 10) (by simp [results, Try.results8, go_sem, zero]) rfl ⟨rfl, ?_⟩
  exact gb_alloc (gb_refl _ _) _
set_option maxRecDepth 100000 in
set_option maxHeartbeats 1000000 in
theorem rread_form (w : World) (s : ByteArray) (p : Nat) (hn : s.size ≤ 9223372036854775807) (hp : p < s.size) (h : 8 < bz s p) :
    Calls Try.prog 8 #[.string s, .int .i64 p] w fun e w' => e = .returned (res zero 0 11) ∧ w.grownBy w' none := by
  have d1 : decide ((p : Int) < 0) = false := by simp
  have d2 : decide ((s.size : Int) < (p : Int)) = false := by simp; omega
  have d3 : ((p : Int) == (s.size : Int)) = false := by simp; omega
  obtain ⟨z0, z1⟩ := bz_lo s p
  have d4 : decide (8 < bz s p) = true := by simpa using h
  go_enter Try.func8, Try.ntmps8
  go_wp2_with fail
  refine bodyPost_ret (v := res zero 0 11) (by simp [results, Try.results8, go_sem, zero]) rfl ⟨rfl, ?_⟩
  exact gb_alloc (gb_alloc (gb_refl _ _) _) _
set_option maxRecDepth 100000 in
set_option maxHeartbeats 2000000 in
theorem rshort (w : World) (s : ByteArray) (p : Nat) (hn : s.size ≤ 9223372036854775807) (hp : p < s.size) (h : bz s p ≤ 8) (hs : (s.size : Int) < p + 1 + need (bz s p)) :
    Calls Try.prog 8 #[.string s, .int .i64 p] w fun e w' => e = .returned (res zero 0 10) ∧ w.grownBy w' none := by
  have d1 : decide ((p : Int) < 0) = false := by simp
  have d2 : decide ((s.size : Int) < (p : Int)) = false := by simp; omega
  have d3 : ((p : Int) == (s.size : Int)) = false := by simp; omega
  obtain ⟨z0, z1⟩ := bz_lo s p
  have HL := fun w => long_any w (bz s p) z0 h
  have d4 : decide (8 < bz s p) = false := by simp; omega
  have hnd : need (bz s p) ≤ 4 := by unfold need; repeat (split <;> try omega)
  generalize need (bz s p) = nd at *
  have d5 : decide ((s.size : Int) - (p : Int) < (nd : Int) + 1) = true := by simp; omega
  go_enter Try.func8, Try.ntmps8
  go_wp2_with fail
  refine (HL _).mono ?_
  rintro e w1 ⟨rfl, n1, O, rfl⟩
  have HB : Blk ((((w.alloc (.cells #[.int .i64 0, .int .i64 0, .int .i64 0, .int .i64 0, .int .i64 0, .int .i64 0, .int .i64 0] 28)).alloc (.cells #[.int .i64 (bz s p), .int .i64 0, .int .i64 0, .int .i64 0, .int .i64 0, .int .i64 0, .int .i64 0] 28)).alloc O).drewN n1) w.heap.size 28 zero.cells := (((Blk.new w 28 zero.cells).alloc _).alloc _).drewN _
  have hW := below_of_gb (gb_drewN (gb_alloc (gb_alloc (gb_alloc (gb_refl w none) (.cells #[.int .i64 0, .int .i64 0, .int .i64 0, .int .i64 0, .int .i64 0, .int .i64 0, .int .i64 0] 28)) (.cells #[.int .i64 (bz s p), .int .i64 0, .int .i64 0, .int .i64 0, .int .i64 0, .int .i64 0, .int .i64 0] 28)) O) n1)
  generalize ((((w.alloc (.cells #[.int .i64 0, .int .i64 0, .int .i64 0, .int .i64 0, .int .i64 0, .int .i64 0, .int .i64 0] 28)).alloc (.cells #[.int .i64 (bz s p), .int .i64 0, .int .i64 0, .int .i64 0, .int .i64 0, .int .i64 0, .int .i64 0] 28)).alloc O).drewN n1) = w' at *
  have r0 := HB.cell 0 _ rfl
  have r1 := HB.cell 1 _ rfl
  have r2 := HB.cell 2 _ rfl
  have r3 := HB.cell 3 _ rfl
  have r4 := HB.cell 4 _ rfl
  have r5 := HB.cell 5 _ rfl
  have r6 := HB.cell 6 _ rfl
  have fr0 := HB.free 0
  have fr1 := HB.free 1
  have fr2 := HB.free 2
  have fr3 := HB.free 3
  have fr4 := HB.free 4
  have fr5 := HB.free 5
  have fr6 := HB.free 6
  go_wp2_with fail
  have hE := (((((((HB.set 0 (.int .i64 (0))).set 1 (.int .i64 (0))).set 2 (.int .i64 (0))).set 3 (.int .i64 (0))).set 4 (.int .i64 (0))).set 5 (.int .i64 (0))).set 6 (.int .i64 (0)))
  refine bodyPost_ret (v := res zero 0 10) (by simp [results, Try.results8, go_sem, zero, hE.cell 0 _ rfl, hE.cell 1 _ rfl, hE.cell 2 _ rfl, hE.cell 3 _ rfl, hE.cell 4 _ rfl, hE.cell 5 _ rfl, hE.cell 6 _ rfl]) rfl ⟨rfl, ?_⟩
  repeat (with_reducible (first | exact gb_of_below hW | apply gb_drewN | apply gb_drew | apply gb_alloc | (refine gb_setNew ?_ (by simp <;> omega) _)))
set_option maxRecDepth 100000 in
set_option maxHeartbeats 4000000 in
theorem rfull0 (w : World) (s : ByteArray) (p : Nat) (hn : s.size ≤ 9223372036854775807) (hp : p < s.size) (h : bz s p = 0) (hs : p + 1 + 0 ≤ s.size) :
    Calls Try.prog 8 #[.string s, .int .i64 p] w fun e w' => (right (dec (bz s) p) ∧ e = .returned (res (dec (bz s) p) (p + 1 + need (bz s p)) 0) ∨ ¬ right (dec (bz s) p) ∧ e = .returned (res zero 0 11)) ∧ w.grownBy w' none := by
  have d1 : decide ((p : Int) < 0) = false := by simp
  have d2 : decide ((s.size : Int) < (p : Int)) = false := by simp; omega
  have d3 : ((p : Int) == (s.size : Int)) = false := by simp; omega
  have hd : dec (bz s) p = ⟨0, 0, 0, 0, 0, 0, 0⟩ := by simp [dec, h]
  have hnd : need (bz s p) = 0 := by simp [need, h]
  have d5 : decide ((s.size : Int) - (p : Int) < 1) = false := by simp; omega
  rw [hd, hnd, show ((p : Int) + 1 + ((0 : Nat) : Int)) = (p : Int) + 1 by omega]
  have hv : (s.extract p (p + 1)).size = 1 := by rw [size_extract s p (p + 1) (by omega)]; omega
  clear hd hnd
  go_enter Try.func8, Try.ntmps8
  go_wp2_with fail
  refine (long0 _).mono ?_
  rintro e w1 ⟨rfl, n1, O, rfl⟩
  go_upto_region 24 with (fail)
  all_goals
    refine forget_world (fun w' => Blk w' (w.heap.size + 1) 28 (Cd.cells ⟨0, 0, 0, 0, 0, 0, 0⟩) ∧ Blk w' w.heap.size 28 zero.cells ∧ Below w.heap.size w w') ⟨?_, ?_, ?_⟩ ?_
    · have hN : Blk ((w.alloc (.cells #[.int .i64 0, .int .i64 0, .int .i64 0, .int .i64 0, .int .i64 0, .int .i64 0, .int .i64 0] 28)).alloc (.cells #[.int .i64 0, .int .i64 0, .int .i64 0, .int .i64 0, .int .i64 0, .int .i64 0, .int .i64 0] 28)) (w.heap.size + 1) 28 (Cd.cells ⟨0, 0, 0, 0, 0, 0, 0⟩) := by
        have := Blk.new (w.alloc (.cells #[.int .i64 0, .int .i64 0, .int .i64 0, .int .i64 0, .int .i64 0, .int .i64 0, .int .i64 0] 28)) 28 (Cd.cells ⟨0, 0, 0, 0, 0, 0, 0⟩)
        simpa only [World.size_alloc] using this
      repeat (with_reducible (first | exact hN | apply Blk.drewN | apply Blk.drew | apply Blk.alloc | apply Blk.set | (refine Blk.other ?_ (by simp) _)))
    · have hN : Blk (w.alloc (.cells #[.int .i64 0, .int .i64 0, .int .i64 0, .int .i64 0, .int .i64 0, .int .i64 0, .int .i64 0] 28)) w.heap.size 28 zero.cells := Blk.new w 28 zero.cells
      repeat (with_reducible (first | exact hN | apply Blk.drewN | apply Blk.drew | apply Blk.alloc | apply Blk.set | (refine Blk.other ?_ (by simp) _)))
    · exact (below_of_gb (by repeat (with_reducible (first | exact gb_refl _ _ | apply gb_drewN | apply gb_drew | apply gb_alloc | (refine gb_setNew ?_ (by simp <;> omega) _)))))
    rintro w' ⟨HC, HB, hW⟩
    have e0 := HC.cell 0 _ rfl
    have e1 := HC.cell 1 _ rfl
    have e2 := HC.cell 2 _ rfl
    have e3 := HC.cell 3 _ rfl
    have e4 := HC.cell 4 _ rfl
    have e5 := HC.cell 5 _ rfl
    have e6 := HC.cell 6 _ rfl
    have fe0 := HC.free 0
    have fe1 := HC.free 1
    have fe2 := HC.free 2
    have fe3 := HC.free 3
    have fe4 := HC.free 4
    have fe5 := HC.free 5
    have fe6 := HC.free 6
    have sW := hW.size
    go_wp2_with fail
    refine (rright_any _ ⟨0, 0, 0, 0, 0, 0, 0⟩ (by simp <;> omega) (by simp <;> omega)).mono ?_
    rintro e w2 ⟨bb, rfl, hb, hg⟩
    replace HC := HC.kept hg (by simp)
    replace HB := HB.kept hg (by simp)
    replace hW := hW.trans (gb_below hg hW.size (by simp))
    clear hg e0 fe0 e1 fe1 e2 fe2 e3 fe3 e4 fe4 e5 fe5 e6 fe6
    have e0 := HC.cell 0 _ rfl
    have e1 := HC.cell 1 _ rfl
    have e2 := HC.cell 2 _ rfl
    have e3 := HC.cell 3 _ rfl
    have e4 := HC.cell 4 _ rfl
    have e5 := HC.cell 5 _ rfl
    have e6 := HC.cell 6 _ rfl
    have fe0 := HC.free 0
    have fe1 := HC.free 1
    have fe2 := HC.free 2
    have fe3 := HC.free 3
    have fe4 := HC.free 4
    have fe5 := HC.free 5
    have fe6 := HC.free 6
    have r0 := HB.cell 0 _ rfl
    have r1 := HB.cell 1 _ rfl
    have r2 := HB.cell 2 _ rfl
    have r3 := HB.cell 3 _ rfl
    have r4 := HB.cell 4 _ rfl
    have r5 := HB.cell 5 _ rfl
    have r6 := HB.cell 6 _ rfl
    have fr0 := HB.free 0
    have fr1 := HB.free 1
    have fr2 := HB.free 2
    have fr3 := HB.free 3
    have fr4 := HB.free 4
    have fr5 := HB.free 5
    have fr6 := HB.free 6
    cases bb
    · have HY := Lib.hid (show ¬ right ⟨0, 0, 0, 0, 0, 0, 0⟩ from fun h => by simpa using hb.2 h)
      clear hb
      go_wp2_with fail
      have hE := (((((((HB.set 0 (.int .i64 (0))).set 1 (.int .i64 (0))).set 2 (.int .i64 (0))).set 3 (.int .i64 (0))).set 4 (.int .i64 (0))).set 5 (.int .i64 (0))).set 6 (.int .i64 (0)))
      refine bodyPost_ret (v := res zero 0 11) (by simp [results, Try.results8, go_sem, zero, hE.cell 0 _ rfl, hE.cell 1 _ rfl, hE.cell 2 _ rfl, hE.cell 3 _ rfl, hE.cell 4 _ rfl, hE.cell 5 _ rfl, hE.cell 6 _ rfl]) rfl ⟨.inr ⟨HY.out, rfl⟩, ?_⟩
      repeat (with_reducible (first | exact gb_of_below hW | apply gb_drewN | apply gb_drew | apply gb_alloc | (refine gb_setNew ?_ (by simp <;> omega) _)))
    · have HY := Lib.hid (show right ⟨0, 0, 0, 0, 0, 0, 0⟩ from hb.1 rfl)
      clear hb
      go_upto_region 26 with (fail)
      go_wp2_with fail
      have hE := (((((((HB.set 0 (.int .i64 (0))).set 1 (.int .i64 (0))).set 2 (.int .i64 (0))).set 3 (.int .i64 (0))).set 4 (.int .i64 (0))).set 5 (.int .i64 (0))).set 6 (.int .i64 (0)))
      refine bodyPost_ret (v := res ⟨0, 0, 0, 0, 0, 0, 0⟩ (p + 1) 0) (by simp [results, Try.results8, go_sem, zero, hE.cell 0 _ rfl, hE.cell 1 _ rfl, hE.cell 2 _ rfl, hE.cell 3 _ rfl, hE.cell 4 _ rfl, hE.cell 5 _ rfl, hE.cell 6 _ rfl]) rfl ⟨.inl ⟨HY.out, rfl⟩, ?_⟩
      repeat (with_reducible (first | exact gb_of_below hW | apply gb_drewN | apply gb_drew | apply gb_alloc | (refine gb_setNew ?_ (by simp <;> omega) _)))
set_option maxRecDepth 100000 in
set_option maxHeartbeats 4000000 in
theorem rfull1 (w : World) (s : ByteArray) (p : Nat) (hn : s.size ≤ 9223372036854775807) (hp : p < s.size) (h : bz s p = 1) (hs : p + 1 + 4 ≤ s.size) :
    Calls Try.prog 8 #[.string s, .int .i64 p] w fun e w' => (right (dec (bz s) p) ∧ e = .returned (res (dec (bz s) p) (p + 1 + need (bz s p)) 0) ∨ ¬ right (dec (bz s) p) ∧ e = .returned (res zero 0 11)) ∧ w.grownBy w' none := by
  have d1 : decide ((p : Int) < 0) = false := by simp
  have d2 : decide ((s.size : Int) < (p : Int)) = false := by simp; omega
  have d3 : ((p : Int) == (s.size : Int)) = false := by simp; omega
  have hd : dec (bz s) p = ⟨1, bz s (p + 1), bz s (p + 2), bz s (p + 3), bz s (p + 4), 0, 0⟩ := by simp [dec, h]
  have hnd : need (bz s p) = 4 := by simp [need, h]
  have d5 : decide ((s.size : Int) - (p : Int) < 5) = false := by simp; omega
  rw [hd, hnd, show ((p : Int) + 1 + ((4 : Nat) : Int)) = (p : Int) + 5 by omega]
  have hv : (s.extract p (p + 5)).size = 5 := by rw [size_extract s p (p + 5) (by omega)]; omega
  have cp1 := bz_extract s p (p + 5) 1 (by omega) (by omega)
  obtain ⟨u1, v1⟩ := bz_lo s (p + 1)
  generalize bz s (p + 1) = z1 at *
  have cp2 := bz_extract s p (p + 5) 2 (by omega) (by omega)
  obtain ⟨u2, v2⟩ := bz_lo s (p + 2)
  generalize bz s (p + 2) = z2 at *
  have cp3 := bz_extract s p (p + 5) 3 (by omega) (by omega)
  obtain ⟨u3, v3⟩ := bz_lo s (p + 3)
  generalize bz s (p + 3) = z3 at *
  have cp4 := bz_extract s p (p + 5) 4 (by omega) (by omega)
  obtain ⟨u4, v4⟩ := bz_lo s (p + 4)
  generalize bz s (p + 4) = z4 at *
  clear hd hnd
  go_enter Try.func8, Try.ntmps8
  go_wp2_with fail
  refine (long1 _).mono ?_
  rintro e w1 ⟨rfl, n1, O, rfl⟩
  go_upto_region 14 with (fail)
  go_region
  go_upto_region 24 with (fail)
  all_goals
    refine forget_world (fun w' => Blk w' (w.heap.size + 1) 28 (Cd.cells ⟨1, z1, z2, z3, z4, 0, 0⟩) ∧ Blk w' w.heap.size 28 zero.cells ∧ Below w.heap.size w w') ⟨?_, ?_, ?_⟩ ?_
    · have hN : Blk ((w.alloc (.cells #[.int .i64 0, .int .i64 0, .int .i64 0, .int .i64 0, .int .i64 0, .int .i64 0, .int .i64 0] 28)).alloc (.cells #[.int .i64 1, .int .i64 z1, .int .i64 z2, .int .i64 z3, .int .i64 z4, .int .i64 0, .int .i64 0] 28)) (w.heap.size + 1) 28 (Cd.cells ⟨1, z1, z2, z3, z4, 0, 0⟩) := by
        have := Blk.new (w.alloc (.cells #[.int .i64 0, .int .i64 0, .int .i64 0, .int .i64 0, .int .i64 0, .int .i64 0, .int .i64 0] 28)) 28 (Cd.cells ⟨1, z1, z2, z3, z4, 0, 0⟩)
        simpa only [World.size_alloc] using this
      repeat (with_reducible (first | exact hN | apply Blk.drewN | apply Blk.drew | apply Blk.alloc | apply Blk.set | (refine Blk.other ?_ (by simp) _)))
    · have hN : Blk (w.alloc (.cells #[.int .i64 0, .int .i64 0, .int .i64 0, .int .i64 0, .int .i64 0, .int .i64 0, .int .i64 0] 28)) w.heap.size 28 zero.cells := Blk.new w 28 zero.cells
      repeat (with_reducible (first | exact hN | apply Blk.drewN | apply Blk.drew | apply Blk.alloc | apply Blk.set | (refine Blk.other ?_ (by simp) _)))
    · exact (below_of_gb (by repeat (with_reducible (first | exact gb_refl _ _ | apply gb_drewN | apply gb_drew | apply gb_alloc | (refine gb_setNew ?_ (by simp <;> omega) _)))))
    rintro w' ⟨HC, HB, hW⟩
    have e0 := HC.cell 0 _ rfl
    have e1 := HC.cell 1 _ rfl
    have e2 := HC.cell 2 _ rfl
    have e3 := HC.cell 3 _ rfl
    have e4 := HC.cell 4 _ rfl
    have e5 := HC.cell 5 _ rfl
    have e6 := HC.cell 6 _ rfl
    have fe0 := HC.free 0
    have fe1 := HC.free 1
    have fe2 := HC.free 2
    have fe3 := HC.free 3
    have fe4 := HC.free 4
    have fe5 := HC.free 5
    have fe6 := HC.free 6
    have sW := hW.size
    go_wp2_with fail
    refine (rright_any _ ⟨1, z1, z2, z3, z4, 0, 0⟩ (by simp <;> omega) (by simp <;> omega)).mono ?_
    rintro e w2 ⟨bb, rfl, hb, hg⟩
    replace HC := HC.kept hg (by simp)
    replace HB := HB.kept hg (by simp)
    replace hW := hW.trans (gb_below hg hW.size (by simp))
    clear hg e0 fe0 e1 fe1 e2 fe2 e3 fe3 e4 fe4 e5 fe5 e6 fe6
    have e0 := HC.cell 0 _ rfl
    have e1 := HC.cell 1 _ rfl
    have e2 := HC.cell 2 _ rfl
    have e3 := HC.cell 3 _ rfl
    have e4 := HC.cell 4 _ rfl
    have e5 := HC.cell 5 _ rfl
    have e6 := HC.cell 6 _ rfl
    have fe0 := HC.free 0
    have fe1 := HC.free 1
    have fe2 := HC.free 2
    have fe3 := HC.free 3
    have fe4 := HC.free 4
    have fe5 := HC.free 5
    have fe6 := HC.free 6
    have r0 := HB.cell 0 _ rfl
    have r1 := HB.cell 1 _ rfl
    have r2 := HB.cell 2 _ rfl
    have r3 := HB.cell 3 _ rfl
    have r4 := HB.cell 4 _ rfl
    have r5 := HB.cell 5 _ rfl
    have r6 := HB.cell 6 _ rfl
    have fr0 := HB.free 0
    have fr1 := HB.free 1
    have fr2 := HB.free 2
    have fr3 := HB.free 3
    have fr4 := HB.free 4
    have fr5 := HB.free 5
    have fr6 := HB.free 6
    cases bb
    · have HY := Lib.hid (show ¬ right ⟨1, z1, z2, z3, z4, 0, 0⟩ from fun h => by simpa using hb.2 h)
      clear hb
      go_wp2_with fail
      have hE := (((((((HB.set 0 (.int .i64 (0))).set 1 (.int .i64 (0))).set 2 (.int .i64 (0))).set 3 (.int .i64 (0))).set 4 (.int .i64 (0))).set 5 (.int .i64 (0))).set 6 (.int .i64 (0)))
      refine bodyPost_ret (v := res zero 0 11) (by simp [results, Try.results8, go_sem, zero, hE.cell 0 _ rfl, hE.cell 1 _ rfl, hE.cell 2 _ rfl, hE.cell 3 _ rfl, hE.cell 4 _ rfl, hE.cell 5 _ rfl, hE.cell 6 _ rfl]) rfl ⟨.inr ⟨HY.out, rfl⟩, ?_⟩
      repeat (with_reducible (first | exact gb_of_below hW | apply gb_drewN | apply gb_drew | apply gb_alloc | (refine gb_setNew ?_ (by simp <;> omega) _)))
    · have HY := Lib.hid (show right ⟨1, z1, z2, z3, z4, 0, 0⟩ from hb.1 rfl)
      clear hb
      go_upto_region 26 with (fail)
      go_wp2_with fail
      have hE := (((((((HB.set 0 (.int .i64 (1))).set 1 (.int .i64 (z1))).set 2 (.int .i64 (z2))).set 3 (.int .i64 (z3))).set 4 (.int .i64 (z4))).set 5 (.int .i64 (0))).set 6 (.int .i64 (0)))
      refine bodyPost_ret (v := res ⟨1, z1, z2, z3, z4, 0, 0⟩ (p + 5) 0) (by simp [results, Try.results8, go_sem, zero, hE.cell 0 _ rfl, hE.cell 1 _ rfl, hE.cell 2 _ rfl, hE.cell 3 _ rfl, hE.cell 4 _ rfl, hE.cell 5 _ rfl, hE.cell 6 _ rfl]) rfl ⟨.inl ⟨HY.out, rfl⟩, ?_⟩
      repeat (with_reducible (first | exact gb_of_below hW | apply gb_drewN | apply gb_drew | apply gb_alloc | (refine gb_setNew ?_ (by simp <;> omega) _)))
set_option maxRecDepth 100000 in
set_option maxHeartbeats 4000000 in
theorem rfull2 (w : World) (s : ByteArray) (p : Nat) (hn : s.size ≤ 9223372036854775807) (hp : p < s.size) (h : bz s p = 2) (hs : p + 1 + 3 ≤ s.size) :
    Calls Try.prog 8 #[.string s, .int .i64 p] w fun e w' => (right (dec (bz s) p) ∧ e = .returned (res (dec (bz s) p) (p + 1 + need (bz s p)) 0) ∨ ¬ right (dec (bz s) p) ∧ e = .returned (res zero 0 11)) ∧ w.grownBy w' none := by
  have d1 : decide ((p : Int) < 0) = false := by simp
  have d2 : decide ((s.size : Int) < (p : Int)) = false := by simp; omega
  have d3 : ((p : Int) == (s.size : Int)) = false := by simp; omega
  have hd : dec (bz s) p = ⟨2, bz s (p + 1), bz s (p + 2), 0, bz s (p + 3), 0, 0⟩ := by simp [dec, h]
  have hnd : need (bz s p) = 3 := by simp [need, h]
  have d5 : decide ((s.size : Int) - (p : Int) < 4) = false := by simp; omega
  rw [hd, hnd, show ((p : Int) + 1 + ((3 : Nat) : Int)) = (p : Int) + 4 by omega]
  have hv : (s.extract p (p + 4)).size = 4 := by rw [size_extract s p (p + 4) (by omega)]; omega
  have cp1 := bz_extract s p (p + 4) 1 (by omega) (by omega)
  obtain ⟨u1, v1⟩ := bz_lo s (p + 1)
  generalize bz s (p + 1) = z1 at *
  have cp2 := bz_extract s p (p + 4) 2 (by omega) (by omega)
  obtain ⟨u2, v2⟩ := bz_lo s (p + 2)
  generalize bz s (p + 2) = z2 at *
  have cp3 := bz_extract s p (p + 4) 3 (by omega) (by omega)
  obtain ⟨u3, v3⟩ := bz_lo s (p + 3)
  generalize bz s (p + 3) = z3 at *
  clear hd hnd
  go_enter Try.func8, Try.ntmps8
  go_wp2_with fail
  refine (long2 _).mono ?_
  rintro e w1 ⟨rfl, n1, O, rfl⟩
  go_upto_region 16 with (fail)
  go_region
  go_upto_region 24 with (fail)
  all_goals
    refine forget_world (fun w' => Blk w' (w.heap.size + 1) 28 (Cd.cells ⟨2, z1, z2, 0, z3, 0, 0⟩) ∧ Blk w' w.heap.size 28 zero.cells ∧ Below w.heap.size w w') ⟨?_, ?_, ?_⟩ ?_
    · have hN : Blk ((w.alloc (.cells #[.int .i64 0, .int .i64 0, .int .i64 0, .int .i64 0, .int .i64 0, .int .i64 0, .int .i64 0] 28)).alloc (.cells #[.int .i64 2, .int .i64 z1, .int .i64 z2, .int .i64 0, .int .i64 z3, .int .i64 0, .int .i64 0] 28)) (w.heap.size + 1) 28 (Cd.cells ⟨2, z1, z2, 0, z3, 0, 0⟩) := by
        have := Blk.new (w.alloc (.cells #[.int .i64 0, .int .i64 0, .int .i64 0, .int .i64 0, .int .i64 0, .int .i64 0, .int .i64 0] 28)) 28 (Cd.cells ⟨2, z1, z2, 0, z3, 0, 0⟩)
        simpa only [World.size_alloc] using this
      repeat (with_reducible (first | exact hN | apply Blk.drewN | apply Blk.drew | apply Blk.alloc | apply Blk.set | (refine Blk.other ?_ (by simp) _)))
    · have hN : Blk (w.alloc (.cells #[.int .i64 0, .int .i64 0, .int .i64 0, .int .i64 0, .int .i64 0, .int .i64 0, .int .i64 0] 28)) w.heap.size 28 zero.cells := Blk.new w 28 zero.cells
      repeat (with_reducible (first | exact hN | apply Blk.drewN | apply Blk.drew | apply Blk.alloc | apply Blk.set | (refine Blk.other ?_ (by simp) _)))
    · exact (below_of_gb (by repeat (with_reducible (first | exact gb_refl _ _ | apply gb_drewN | apply gb_drew | apply gb_alloc | (refine gb_setNew ?_ (by simp <;> omega) _)))))
    rintro w' ⟨HC, HB, hW⟩
    have e0 := HC.cell 0 _ rfl
    have e1 := HC.cell 1 _ rfl
    have e2 := HC.cell 2 _ rfl
    have e3 := HC.cell 3 _ rfl
    have e4 := HC.cell 4 _ rfl
    have e5 := HC.cell 5 _ rfl
    have e6 := HC.cell 6 _ rfl
    have fe0 := HC.free 0
    have fe1 := HC.free 1
    have fe2 := HC.free 2
    have fe3 := HC.free 3
    have fe4 := HC.free 4
    have fe5 := HC.free 5
    have fe6 := HC.free 6
    have sW := hW.size
    go_wp2_with fail
    refine (rright_any _ ⟨2, z1, z2, 0, z3, 0, 0⟩ (by simp <;> omega) (by simp <;> omega)).mono ?_
    rintro e w2 ⟨bb, rfl, hb, hg⟩
    replace HC := HC.kept hg (by simp)
    replace HB := HB.kept hg (by simp)
    replace hW := hW.trans (gb_below hg hW.size (by simp))
    clear hg e0 fe0 e1 fe1 e2 fe2 e3 fe3 e4 fe4 e5 fe5 e6 fe6
    have e0 := HC.cell 0 _ rfl
    have e1 := HC.cell 1 _ rfl
    have e2 := HC.cell 2 _ rfl
    have e3 := HC.cell 3 _ rfl
    have e4 := HC.cell 4 _ rfl
    have e5 := HC.cell 5 _ rfl
    have e6 := HC.cell 6 _ rfl
    have fe0 := HC.free 0
    have fe1 := HC.free 1
    have fe2 := HC.free 2
    have fe3 := HC.free 3
    have fe4 := HC.free 4
    have fe5 := HC.free 5
    have fe6 := HC.free 6
    have r0 := HB.cell 0 _ rfl
    have r1 := HB.cell 1 _ rfl
    have r2 := HB.cell 2 _ rfl
    have r3 := HB.cell 3 _ rfl
    have r4 := HB.cell 4 _ rfl
    have r5 := HB.cell 5 _ rfl
    have r6 := HB.cell 6 _ rfl
    have fr0 := HB.free 0
    have fr1 := HB.free 1
    have fr2 := HB.free 2
    have fr3 := HB.free 3
    have fr4 := HB.free 4
    have fr5 := HB.free 5
    have fr6 := HB.free 6
    cases bb
    · have HY := Lib.hid (show ¬ right ⟨2, z1, z2, 0, z3, 0, 0⟩ from fun h => by simpa using hb.2 h)
      clear hb
      go_wp2_with fail
      have hE := (((((((HB.set 0 (.int .i64 (0))).set 1 (.int .i64 (0))).set 2 (.int .i64 (0))).set 3 (.int .i64 (0))).set 4 (.int .i64 (0))).set 5 (.int .i64 (0))).set 6 (.int .i64 (0)))
      refine bodyPost_ret (v := res zero 0 11) (by simp [results, Try.results8, go_sem, zero, hE.cell 0 _ rfl, hE.cell 1 _ rfl, hE.cell 2 _ rfl, hE.cell 3 _ rfl, hE.cell 4 _ rfl, hE.cell 5 _ rfl, hE.cell 6 _ rfl]) rfl ⟨.inr ⟨HY.out, rfl⟩, ?_⟩
      repeat (with_reducible (first | exact gb_of_below hW | apply gb_drewN | apply gb_drew | apply gb_alloc | (refine gb_setNew ?_ (by simp <;> omega) _)))
    · have HY := Lib.hid (show right ⟨2, z1, z2, 0, z3, 0, 0⟩ from hb.1 rfl)
      clear hb
      go_upto_region 26 with (fail)
      go_wp2_with fail
      have hE := (((((((HB.set 0 (.int .i64 (2))).set 1 (.int .i64 (z1))).set 2 (.int .i64 (z2))).set 3 (.int .i64 (0))).set 4 (.int .i64 (z3))).set 5 (.int .i64 (0))).set 6 (.int .i64 (0)))
      refine bodyPost_ret (v := res ⟨2, z1, z2, 0, z3, 0, 0⟩ (p + 4) 0) (by simp [results, Try.results8, go_sem, zero, hE.cell 0 _ rfl, hE.cell 1 _ rfl, hE.cell 2 _ rfl, hE.cell 3 _ rfl, hE.cell 4 _ rfl, hE.cell 5 _ rfl, hE.cell 6 _ rfl]) rfl ⟨.inl ⟨HY.out, rfl⟩, ?_⟩
      repeat (with_reducible (first | exact gb_of_below hW | apply gb_drewN | apply gb_drew | apply gb_alloc | (refine gb_setNew ?_ (by simp <;> omega) _)))
set_option maxRecDepth 100000 in
set_option maxHeartbeats 4000000 in
theorem rfull3 (w : World) (s : ByteArray) (p : Nat) (hn : s.size ≤ 9223372036854775807) (hp : p < s.size) (h : bz s p = 3) (hs : p + 1 + 2 ≤ s.size) :
    Calls Try.prog 8 #[.string s, .int .i64 p] w fun e w' => (right (dec (bz s) p) ∧ e = .returned (res (dec (bz s) p) (p + 1 + need (bz s p)) 0) ∨ ¬ right (dec (bz s) p) ∧ e = .returned (res zero 0 11)) ∧ w.grownBy w' none := by
  have d1 : decide ((p : Int) < 0) = false := by simp
  have d2 : decide ((s.size : Int) < (p : Int)) = false := by simp; omega
  have d3 : ((p : Int) == (s.size : Int)) = false := by simp; omega
  have hd : dec (bz s) p = ⟨3, 0, bz s (p + 1), 0, bz s (p + 2), 0, 0⟩ := by simp [dec, h]
  have hnd : need (bz s p) = 2 := by simp [need, h]
  have d5 : decide ((s.size : Int) - (p : Int) < 3) = false := by simp; omega
  rw [hd, hnd, show ((p : Int) + 1 + ((2 : Nat) : Int)) = (p : Int) + 3 by omega]
  have hv : (s.extract p (p + 3)).size = 3 := by rw [size_extract s p (p + 3) (by omega)]; omega
  have cp1 := bz_extract s p (p + 3) 1 (by omega) (by omega)
  obtain ⟨u1, v1⟩ := bz_lo s (p + 1)
  generalize bz s (p + 1) = z1 at *
  have cp2 := bz_extract s p (p + 3) 2 (by omega) (by omega)
  obtain ⟨u2, v2⟩ := bz_lo s (p + 2)
  generalize bz s (p + 2) = z2 at *
  clear hd hnd
  go_enter Try.func8, Try.ntmps8
  go_wp2_with fail
  refine (long3 _).mono ?_
  rintro e w1 ⟨rfl, n1, O, rfl⟩
  go_upto_region 18 with (fail)
  go_region
  go_upto_region 24 with (fail)
  all_goals
    refine forget_world (fun w' => Blk w' (w.heap.size + 1) 28 (Cd.cells ⟨3, 0, z1, 0, z2, 0, 0⟩) ∧ Blk w' w.heap.size 28 zero.cells ∧ Below w.heap.size w w') ⟨?_, ?_, ?_⟩ ?_
    · have hN : Blk ((w.alloc (.cells #[.int .i64 0, .int .i64 0, .int .i64 0, .int .i64 0, .int .i64 0, .int .i64 0, .int .i64 0] 28)).alloc (.cells #[.int .i64 3, .int .i64 0, .int .i64 z1, .int .i64 0, .int .i64 z2, .int .i64 0, .int .i64 0] 28)) (w.heap.size + 1) 28 (Cd.cells ⟨3, 0, z1, 0, z2, 0, 0⟩) := by
        have := Blk.new (w.alloc (.cells #[.int .i64 0, .int .i64 0, .int .i64 0, .int .i64 0, .int .i64 0, .int .i64 0, .int .i64 0] 28)) 28 (Cd.cells ⟨3, 0, z1, 0, z2, 0, 0⟩)
        simpa only [World.size_alloc] using this
      repeat (with_reducible (first | exact hN | apply Blk.drewN | apply Blk.drew | apply Blk.alloc | apply Blk.set | (refine Blk.other ?_ (by simp) _)))
    · have hN : Blk (w.alloc (.cells #[.int .i64 0, .int .i64 0, .int .i64 0, .int .i64 0, .int .i64 0, .int .i64 0, .int .i64 0] 28)) w.heap.size 28 zero.cells := Blk.new w 28 zero.cells
      repeat (with_reducible (first | exact hN | apply Blk.drewN | apply Blk.drew | apply Blk.alloc | apply Blk.set | (refine Blk.other ?_ (by simp) _)))
    · exact (below_of_gb (by repeat (with_reducible (first | exact gb_refl _ _ | apply gb_drewN | apply gb_drew | apply gb_alloc | (refine gb_setNew ?_ (by simp <;> omega) _)))))
    rintro w' ⟨HC, HB, hW⟩
    have e0 := HC.cell 0 _ rfl
    have e1 := HC.cell 1 _ rfl
    have e2 := HC.cell 2 _ rfl
    have e3 := HC.cell 3 _ rfl
    have e4 := HC.cell 4 _ rfl
    have e5 := HC.cell 5 _ rfl
    have e6 := HC.cell 6 _ rfl
    have fe0 := HC.free 0
    have fe1 := HC.free 1
    have fe2 := HC.free 2
    have fe3 := HC.free 3
    have fe4 := HC.free 4
    have fe5 := HC.free 5
    have fe6 := HC.free 6
    have sW := hW.size
    go_wp2_with fail
    refine (rright_any _ ⟨3, 0, z1, 0, z2, 0, 0⟩ (by simp <;> omega) (by simp <;> omega)).mono ?_
    rintro e w2 ⟨bb, rfl, hb, hg⟩
    replace HC := HC.kept hg (by simp)
    replace HB := HB.kept hg (by simp)
    replace hW := hW.trans (gb_below hg hW.size (by simp))
    clear hg e0 fe0 e1 fe1 e2 fe2 e3 fe3 e4 fe4 e5 fe5 e6 fe6
    have e0 := HC.cell 0 _ rfl
    have e1 := HC.cell 1 _ rfl
    have e2 := HC.cell 2 _ rfl
    have e3 := HC.cell 3 _ rfl
    have e4 := HC.cell 4 _ rfl
    have e5 := HC.cell 5 _ rfl
    have e6 := HC.cell 6 _ rfl
    have fe0 := HC.free 0
    have fe1 := HC.free 1
    have fe2 := HC.free 2
    have fe3 := HC.free 3
    have fe4 := HC.free 4
    have fe5 := HC.free 5
    have fe6 := HC.free 6
    have r0 := HB.cell 0 _ rfl
    have r1 := HB.cell 1 _ rfl
    have r2 := HB.cell 2 _ rfl
    have r3 := HB.cell 3 _ rfl
    have r4 := HB.cell 4 _ rfl
    have r5 := HB.cell 5 _ rfl
    have r6 := HB.cell 6 _ rfl
    have fr0 := HB.free 0
    have fr1 := HB.free 1
    have fr2 := HB.free 2
    have fr3 := HB.free 3
    have fr4 := HB.free 4
    have fr5 := HB.free 5
    have fr6 := HB.free 6
    cases bb
    · have HY := Lib.hid (show ¬ right ⟨3, 0, z1, 0, z2, 0, 0⟩ from fun h => by simpa using hb.2 h)
      clear hb
      go_wp2_with fail
      have hE := (((((((HB.set 0 (.int .i64 (0))).set 1 (.int .i64 (0))).set 2 (.int .i64 (0))).set 3 (.int .i64 (0))).set 4 (.int .i64 (0))).set 5 (.int .i64 (0))).set 6 (.int .i64 (0)))
      refine bodyPost_ret (v := res zero 0 11) (by simp [results, Try.results8, go_sem, zero, hE.cell 0 _ rfl, hE.cell 1 _ rfl, hE.cell 2 _ rfl, hE.cell 3 _ rfl, hE.cell 4 _ rfl, hE.cell 5 _ rfl, hE.cell 6 _ rfl]) rfl ⟨.inr ⟨HY.out, rfl⟩, ?_⟩
      repeat (with_reducible (first | exact gb_of_below hW | apply gb_drewN | apply gb_drew | apply gb_alloc | (refine gb_setNew ?_ (by simp <;> omega) _)))
    · have HY := Lib.hid (show right ⟨3, 0, z1, 0, z2, 0, 0⟩ from hb.1 rfl)
      clear hb
      go_upto_region 26 with (fail)
      go_wp2_with fail
      have hE := (((((((HB.set 0 (.int .i64 (3))).set 1 (.int .i64 (0))).set 2 (.int .i64 (z1))).set 3 (.int .i64 (0))).set 4 (.int .i64 (z2))).set 5 (.int .i64 (0))).set 6 (.int .i64 (0)))
      refine bodyPost_ret (v := res ⟨3, 0, z1, 0, z2, 0, 0⟩ (p + 3) 0) (by simp [results, Try.results8, go_sem, zero, hE.cell 0 _ rfl, hE.cell 1 _ rfl, hE.cell 2 _ rfl, hE.cell 3 _ rfl, hE.cell 4 _ rfl, hE.cell 5 _ rfl, hE.cell 6 _ rfl]) rfl ⟨.inl ⟨HY.out, rfl⟩, ?_⟩
      repeat (with_reducible (first | exact gb_of_below hW | apply gb_drewN | apply gb_drew | apply gb_alloc | (refine gb_setNew ?_ (by simp <;> omega) _)))
set_option maxRecDepth 100000 in
set_option maxHeartbeats 4000000 in
theorem rfull4 (w : World) (s : ByteArray) (p : Nat) (hn : s.size ≤ 9223372036854775807) (hp : p < s.size) (h : bz s p = 4) (hs : p + 1 + 1 ≤ s.size) :
    Calls Try.prog 8 #[.string s, .int .i64 p] w fun e w' => (right (dec (bz s) p) ∧ e = .returned (res (dec (bz s) p) (p + 1 + need (bz s p)) 0) ∨ ¬ right (dec (bz s) p) ∧ e = .returned (res zero 0 11)) ∧ w.grownBy w' none := by
  have d1 : decide ((p : Int) < 0) = false := by simp
  have d2 : decide ((s.size : Int) < (p : Int)) = false := by simp; omega
  have d3 : ((p : Int) == (s.size : Int)) = false := by simp; omega
  have hd : dec (bz s) p = ⟨4, 0, 0, 0, 0, bz s (p + 1), 0⟩ := by simp [dec, h]
  have hnd : need (bz s p) = 1 := by simp [need, h]
  have d5 : decide ((s.size : Int) - (p : Int) < 2) = false := by simp; omega
  rw [hd, hnd, show ((p : Int) + 1 + ((1 : Nat) : Int)) = (p : Int) + 2 by omega]
  have hv : (s.extract p (p + 2)).size = 2 := by rw [size_extract s p (p + 2) (by omega)]; omega
  have cp1 := bz_extract s p (p + 2) 1 (by omega) (by omega)
  obtain ⟨u1, v1⟩ := bz_lo s (p + 1)
  generalize bz s (p + 1) = z1 at *
  clear hd hnd
  go_enter Try.func8, Try.ntmps8
  go_wp2_with fail
  refine (long4 _).mono ?_
  rintro e w1 ⟨rfl, n1, O, rfl⟩
  go_upto_region 24 with (fail)
  all_goals
    refine forget_world (fun w' => Blk w' (w.heap.size + 1) 28 (Cd.cells ⟨4, 0, 0, 0, 0, z1, 0⟩) ∧ Blk w' w.heap.size 28 zero.cells ∧ Below w.heap.size w w') ⟨?_, ?_, ?_⟩ ?_
    · have hN : Blk ((w.alloc (.cells #[.int .i64 0, .int .i64 0, .int .i64 0, .int .i64 0, .int .i64 0, .int .i64 0, .int .i64 0] 28)).alloc (.cells #[.int .i64 4, .int .i64 0, .int .i64 0, .int .i64 0, .int .i64 0, .int .i64 z1, .int .i64 0] 28)) (w.heap.size + 1) 28 (Cd.cells ⟨4, 0, 0, 0, 0, z1, 0⟩) := by
        have := Blk.new (w.alloc (.cells #[.int .i64 0, .int .i64 0, .int .i64 0, .int .i64 0, .int .i64 0, .int .i64 0, .int .i64 0] 28)) 28 (Cd.cells ⟨4, 0, 0, 0, 0, z1, 0⟩)
        simpa only [World.size_alloc] using this
      repeat (with_reducible (first | exact hN | apply Blk.drewN | apply Blk.drew | apply Blk.alloc | apply Blk.set | (refine Blk.other ?_ (by simp) _)))
    · have hN : Blk (w.alloc (.cells #[.int .i64 0, .int .i64 0, .int .i64 0, .int .i64 0, .int .i64 0, .int .i64 0, .int .i64 0] 28)) w.heap.size 28 zero.cells := Blk.new w 28 zero.cells
      repeat (with_reducible (first | exact hN | apply Blk.drewN | apply Blk.drew | apply Blk.alloc | apply Blk.set | (refine Blk.other ?_ (by simp) _)))
    · exact (below_of_gb (by repeat (with_reducible (first | exact gb_refl _ _ | apply gb_drewN | apply gb_drew | apply gb_alloc | (refine gb_setNew ?_ (by simp <;> omega) _)))))
    rintro w' ⟨HC, HB, hW⟩
    have e0 := HC.cell 0 _ rfl
    have e1 := HC.cell 1 _ rfl
    have e2 := HC.cell 2 _ rfl
    have e3 := HC.cell 3 _ rfl
    have e4 := HC.cell 4 _ rfl
    have e5 := HC.cell 5 _ rfl
    have e6 := HC.cell 6 _ rfl
    have fe0 := HC.free 0
    have fe1 := HC.free 1
    have fe2 := HC.free 2
    have fe3 := HC.free 3
    have fe4 := HC.free 4
    have fe5 := HC.free 5
    have fe6 := HC.free 6
    have sW := hW.size
    go_wp2_with fail
    refine (rright_any _ ⟨4, 0, 0, 0, 0, z1, 0⟩ (by simp <;> omega) (by simp <;> omega)).mono ?_
    rintro e w2 ⟨bb, rfl, hb, hg⟩
    replace HC := HC.kept hg (by simp)
    replace HB := HB.kept hg (by simp)
    replace hW := hW.trans (gb_below hg hW.size (by simp))
    clear hg e0 fe0 e1 fe1 e2 fe2 e3 fe3 e4 fe4 e5 fe5 e6 fe6
    have e0 := HC.cell 0 _ rfl
    have e1 := HC.cell 1 _ rfl
    have e2 := HC.cell 2 _ rfl
    have e3 := HC.cell 3 _ rfl
    have e4 := HC.cell 4 _ rfl
    have e5 := HC.cell 5 _ rfl
    have e6 := HC.cell 6 _ rfl
    have fe0 := HC.free 0
    have fe1 := HC.free 1
    have fe2 := HC.free 2
    have fe3 := HC.free 3
    have fe4 := HC.free 4
    have fe5 := HC.free 5
    have fe6 := HC.free 6
    have r0 := HB.cell 0 _ rfl
    have r1 := HB.cell 1 _ rfl
    have r2 := HB.cell 2 _ rfl
    have r3 := HB.cell 3 _ rfl
    have r4 := HB.cell 4 _ rfl
    have r5 := HB.cell 5 _ rfl
    have r6 := HB.cell 6 _ rfl
    have fr0 := HB.free 0
    have fr1 := HB.free 1
    have fr2 := HB.free 2
    have fr3 := HB.free 3
    have fr4 := HB.free 4
    have fr5 := HB.free 5
    have fr6 := HB.free 6
    cases bb
    · have HY := Lib.hid (show ¬ right ⟨4, 0, 0, 0, 0, z1, 0⟩ from fun h => by simpa using hb.2 h)
      clear hb
      go_wp2_with fail
      have hE := (((((((HB.set 0 (.int .i64 (0))).set 1 (.int .i64 (0))).set 2 (.int .i64 (0))).set 3 (.int .i64 (0))).set 4 (.int .i64 (0))).set 5 (.int .i64 (0))).set 6 (.int .i64 (0)))
      refine bodyPost_ret (v := res zero 0 11) (by simp [results, Try.results8, go_sem, zero, hE.cell 0 _ rfl, hE.cell 1 _ rfl, hE.cell 2 _ rfl, hE.cell 3 _ rfl, hE.cell 4 _ rfl, hE.cell 5 _ rfl, hE.cell 6 _ rfl]) rfl ⟨.inr ⟨HY.out, rfl⟩, ?_⟩
      repeat (with_reducible (first | exact gb_of_below hW | apply gb_drewN | apply gb_drew | apply gb_alloc | (refine gb_setNew ?_ (by simp <;> omega) _)))
    · have HY := Lib.hid (show right ⟨4, 0, 0, 0, 0, z1, 0⟩ from hb.1 rfl)
      clear hb
      go_upto_region 26 with (fail)
      go_wp2_with fail
      have hE := (((((((HB.set 0 (.int .i64 (4))).set 1 (.int .i64 (0))).set 2 (.int .i64 (0))).set 3 (.int .i64 (0))).set 4 (.int .i64 (0))).set 5 (.int .i64 (z1))).set 6 (.int .i64 (0)))
      refine bodyPost_ret (v := res ⟨4, 0, 0, 0, 0, z1, 0⟩ (p + 2) 0) (by simp [results, Try.results8, go_sem, zero, hE.cell 0 _ rfl, hE.cell 1 _ rfl, hE.cell 2 _ rfl, hE.cell 3 _ rfl, hE.cell 4 _ rfl, hE.cell 5 _ rfl, hE.cell 6 _ rfl]) rfl ⟨.inl ⟨HY.out, rfl⟩, ?_⟩
      repeat (with_reducible (first | exact gb_of_below hW | apply gb_drewN | apply gb_drew | apply gb_alloc | (refine gb_setNew ?_ (by simp <;> omega) _)))
set_option maxRecDepth 100000 in
set_option maxHeartbeats 4000000 in
theorem rfull5 (w : World) (s : ByteArray) (p : Nat) (hn : s.size ≤ 9223372036854775807) (hp : p < s.size) (h : bz s p = 5) (hs : p + 1 + 0 ≤ s.size) :
    Calls Try.prog 8 #[.string s, .int .i64 p] w fun e w' => (right (dec (bz s) p) ∧ e = .returned (res (dec (bz s) p) (p + 1 + need (bz s p)) 0) ∨ ¬ right (dec (bz s) p) ∧ e = .returned (res zero 0 11)) ∧ w.grownBy w' none := by
  have d1 : decide ((p : Int) < 0) = false := by simp
  have d2 : decide ((s.size : Int) < (p : Int)) = false := by simp; omega
  have d3 : ((p : Int) == (s.size : Int)) = false := by simp; omega
  have hd : dec (bz s) p = ⟨5, 0, 0, 0, 0, 0, 0⟩ := by simp [dec, h]
  have hnd : need (bz s p) = 0 := by simp [need, h]
  have d5 : decide ((s.size : Int) - (p : Int) < 1) = false := by simp; omega
  rw [hd, hnd, show ((p : Int) + 1 + ((0 : Nat) : Int)) = (p : Int) + 1 by omega]
  have hv : (s.extract p (p + 1)).size = 1 := by rw [size_extract s p (p + 1) (by omega)]; omega
  clear hd hnd
  go_enter Try.func8, Try.ntmps8
  go_wp2_with fail
  refine (long5 _).mono ?_
  rintro e w1 ⟨rfl, n1, O, rfl⟩
  go_upto_region 24 with (fail)
  all_goals
    refine forget_world (fun w' => Blk w' (w.heap.size + 1) 28 (Cd.cells ⟨5, 0, 0, 0, 0, 0, 0⟩) ∧ Blk w' w.heap.size 28 zero.cells ∧ Below w.heap.size w w') ⟨?_, ?_, ?_⟩ ?_
    · have hN : Blk ((w.alloc (.cells #[.int .i64 0, .int .i64 0, .int .i64 0, .int .i64 0, .int .i64 0, .int .i64 0, .int .i64 0] 28)).alloc (.cells #[.int .i64 5, .int .i64 0, .int .i64 0, .int .i64 0, .int .i64 0, .int .i64 0, .int .i64 0] 28)) (w.heap.size + 1) 28 (Cd.cells ⟨5, 0, 0, 0, 0, 0, 0⟩) := by
        have := Blk.new (w.alloc (.cells #[.int .i64 0, .int .i64 0, .int .i64 0, .int .i64 0, .int .i64 0, .int .i64 0, .int .i64 0] 28)) 28 (Cd.cells ⟨5, 0, 0, 0, 0, 0, 0⟩)
        simpa only [World.size_alloc] using this
      repeat (with_reducible (first | exact hN | apply Blk.drewN | apply Blk.drew | apply Blk.alloc | apply Blk.set | (refine Blk.other ?_ (by simp) _)))
    · have hN : Blk (w.alloc (.cells #[.int .i64 0, .int .i64 0, .int .i64 0, .int .i64 0, .int .i64 0, .int .i64 0, .int .i64 0] 28)) w.heap.size 28 zero.cells := Blk.new w 28 zero.cells
      repeat (with_reducible (first | exact hN | apply Blk.drewN | apply Blk.drew | apply Blk.alloc | apply Blk.set | (refine Blk.other ?_ (by simp) _)))
    · exact (below_of_gb (by repeat (with_reducible (first | exact gb_refl _ _ | apply gb_drewN | apply gb_drew | apply gb_alloc | (refine gb_setNew ?_ (by simp <;> omega) _)))))
    rintro w' ⟨HC, HB, hW⟩
    have e0 := HC.cell 0 _ rfl
    have e1 := HC.cell 1 _ rfl
    have e2 := HC.cell 2 _ rfl
    have e3 := HC.cell 3 _ rfl
    have e4 := HC.cell 4 _ rfl
    have e5 := HC.cell 5 _ rfl
    have e6 := HC.cell 6 _ rfl
    have fe0 := HC.free 0
    have fe1 := HC.free 1
    have fe2 := HC.free 2
    have fe3 := HC.free 3
    have fe4 := HC.free 4
    have fe5 := HC.free 5
    have fe6 := HC.free 6
    have sW := hW.size
    go_wp2_with fail
    refine (rright_any _ ⟨5, 0, 0, 0, 0, 0, 0⟩ (by simp <;> omega) (by simp <;> omega)).mono ?_
    rintro e w2 ⟨bb, rfl, hb, hg⟩
    replace HC := HC.kept hg (by simp)
    replace HB := HB.kept hg (by simp)
    replace hW := hW.trans (gb_below hg hW.size (by simp))
    clear hg e0 fe0 e1 fe1 e2 fe2 e3 fe3 e4 fe4 e5 fe5 e6 fe6
    have e0 := HC.cell 0 _ rfl
    have e1 := HC.cell 1 _ rfl
    have e2 := HC.cell 2 _ rfl
    have e3 := HC.cell 3 _ rfl
    have e4 := HC.cell 4 _ rfl
    have e5 := HC.cell 5 _ rfl
    have e6 := HC.cell 6 _ rfl
    have fe0 := HC.free 0
    have fe1 := HC.free 1
    have fe2 := HC.free 2
    have fe3 := HC.free 3
    have fe4 := HC.free 4
    have fe5 := HC.free 5
    have fe6 := HC.free 6
    have r0 := HB.cell 0 _ rfl
    have r1 := HB.cell 1 _ rfl
    have r2 := HB.cell 2 _ rfl
    have r3 := HB.cell 3 _ rfl
    have r4 := HB.cell 4 _ rfl
    have r5 := HB.cell 5 _ rfl
    have r6 := HB.cell 6 _ rfl
    have fr0 := HB.free 0
    have fr1 := HB.free 1
    have fr2 := HB.free 2
    have fr3 := HB.free 3
    have fr4 := HB.free 4
    have fr5 := HB.free 5
    have fr6 := HB.free 6
    cases bb
    · have HY := Lib.hid (show ¬ right ⟨5, 0, 0, 0, 0, 0, 0⟩ from fun h => by simpa using hb.2 h)
      clear hb
      go_wp2_with fail
      have hE := (((((((HB.set 0 (.int .i64 (0))).set 1 (.int .i64 (0))).set 2 (.int .i64 (0))).set 3 (.int .i64 (0))).set 4 (.int .i64 (0))).set 5 (.int .i64 (0))).set 6 (.int .i64 (0)))
      refine bodyPost_ret (v := res zero 0 11) (by simp [results, Try.results8, go_sem, zero, hE.cell 0 _ rfl, hE.cell 1 _ rfl, hE.cell 2 _ rfl, hE.cell 3 _ rfl, hE.cell 4 _ rfl, hE.cell 5 _ rfl, hE.cell 6 _ rfl]) rfl ⟨.inr ⟨HY.out, rfl⟩, ?_⟩
      repeat (with_reducible (first | exact gb_of_below hW | apply gb_drewN | apply gb_drew | apply gb_alloc | (refine gb_setNew ?_ (by simp <;> omega) _)))
    · have HY := Lib.hid (show right ⟨5, 0, 0, 0, 0, 0, 0⟩ from hb.1 rfl)
      clear hb
      go_upto_region 26 with (fail)
      go_wp2_with fail
      have hE := (((((((HB.set 0 (.int .i64 (5))).set 1 (.int .i64 (0))).set 2 (.int .i64 (0))).set 3 (.int .i64 (0))).set 4 (.int .i64 (0))).set 5 (.int .i64 (0))).set 6 (.int .i64 (0)))
      refine bodyPost_ret (v := res ⟨5, 0, 0, 0, 0, 0, 0⟩ (p + 1) 0) (by simp [results, Try.results8, go_sem, zero, hE.cell 0 _ rfl, hE.cell 1 _ rfl, hE.cell 2 _ rfl, hE.cell 3 _ rfl, hE.cell 4 _ rfl, hE.cell 5 _ rfl, hE.cell 6 _ rfl]) rfl ⟨.inl ⟨HY.out, rfl⟩, ?_⟩
      repeat (with_reducible (first | exact gb_of_below hW | apply gb_drewN | apply gb_drew | apply gb_alloc | (refine gb_setNew ?_ (by simp <;> omega) _)))
set_option maxRecDepth 100000 in
set_option maxHeartbeats 4000000 in
theorem rfull6 (w : World) (s : ByteArray) (p : Nat) (hn : s.size ≤ 9223372036854775807) (hp : p < s.size) (h : bz s p = 6) (hs : p + 1 + 2 ≤ s.size) :
    Calls Try.prog 8 #[.string s, .int .i64 p] w fun e w' => (right (dec (bz s) p) ∧ e = .returned (res (dec (bz s) p) (p + 1 + need (bz s p)) 0) ∨ ¬ right (dec (bz s) p) ∧ e = .returned (res zero 0 11)) ∧ w.grownBy w' none := by
  have d1 : decide ((p : Int) < 0) = false := by simp
  have d2 : decide ((s.size : Int) < (p : Int)) = false := by simp; omega
  have d3 : ((p : Int) == (s.size : Int)) = false := by simp; omega
  have hd : dec (bz s) p = ⟨6, 0, 0, 0, 0, 0, 256 * bz s (p + 1) + bz s (p + 2)⟩ := by simp [dec, h]
  have hnd : need (bz s p) = 2 := by simp [need, h]
  have d5 : decide ((s.size : Int) - (p : Int) < 3) = false := by simp; omega
  rw [hd, hnd, show ((p : Int) + 1 + ((2 : Nat) : Int)) = (p : Int) + 3 by omega]
  have hv : (s.extract p (p + 3)).size = 3 := by rw [size_extract s p (p + 3) (by omega)]; omega
  have cp1 := bz_extract s p (p + 3) 1 (by omega) (by omega)
  obtain ⟨u1, v1⟩ := bz_lo s (p + 1)
  generalize bz s (p + 1) = z1 at *
  have cp2 := bz_extract s p (p + 3) 2 (by omega) (by omega)
  obtain ⟨u2, v2⟩ := bz_lo s (p + 2)
  generalize bz s (p + 2) = z2 at *
  clear hd hnd
  go_enter Try.func8, Try.ntmps8
  go_wp2_with fail
  refine (long6 _).mono ?_
  rintro e w1 ⟨rfl, n1, O, rfl⟩
  go_upto_region 23 with (fail)
  go_region
  go_upto_region 24 with (fail)
  all_goals
    refine forget_world (fun w' => Blk w' (w.heap.size + 1) 28 (Cd.cells ⟨6, 0, 0, 0, 0, 0, 256 * z1 + z2⟩) ∧ Blk w' w.heap.size 28 zero.cells ∧ Below w.heap.size w w') ⟨?_, ?_, ?_⟩ ?_
    · have hN : Blk ((w.alloc (.cells #[.int .i64 0, .int .i64 0, .int .i64 0, .int .i64 0, .int .i64 0, .int .i64 0, .int .i64 0] 28)).alloc (.cells #[.int .i64 6, .int .i64 0, .int .i64 0, .int .i64 0, .int .i64 0, .int .i64 0, .int .i64 (256 * z1 + z2)] 28)) (w.heap.size + 1) 28 (Cd.cells ⟨6, 0, 0, 0, 0, 0, 256 * z1 + z2⟩) := by
        have := Blk.new (w.alloc (.cells #[.int .i64 0, .int .i64 0, .int .i64 0, .int .i64 0, .int .i64 0, .int .i64 0, .int .i64 0] 28)) 28 (Cd.cells ⟨6, 0, 0, 0, 0, 0, 256 * z1 + z2⟩)
        simpa only [World.size_alloc] using this
      repeat (with_reducible (first | exact hN | apply Blk.drewN | apply Blk.drew | apply Blk.alloc | apply Blk.set | (refine Blk.other ?_ (by simp) _)))
    · have hN : Blk (w.alloc (.cells #[.int .i64 0, .int .i64 0, .int .i64 0, .int .i64 0, .int .i64 0, .int .i64 0, .int .i64 0] 28)) w.heap.size 28 zero.cells := Blk.new w 28 zero.cells
      repeat (with_reducible (first | exact hN | apply Blk.drewN | apply Blk.drew | apply Blk.alloc | apply Blk.set | (refine Blk.other ?_ (by simp) _)))
    · exact (below_of_gb (by repeat (with_reducible (first | exact gb_refl _ _ | apply gb_drewN | apply gb_drew | apply gb_alloc | (refine gb_setNew ?_ (by simp <;> omega) _)))))
    rintro w' ⟨HC, HB, hW⟩
    have e0 := HC.cell 0 _ rfl
    have e1 := HC.cell 1 _ rfl
    have e2 := HC.cell 2 _ rfl
    have e3 := HC.cell 3 _ rfl
    have e4 := HC.cell 4 _ rfl
    have e5 := HC.cell 5 _ rfl
    have e6 := HC.cell 6 _ rfl
    have fe0 := HC.free 0
    have fe1 := HC.free 1
    have fe2 := HC.free 2
    have fe3 := HC.free 3
    have fe4 := HC.free 4
    have fe5 := HC.free 5
    have fe6 := HC.free 6
    have sW := hW.size
    go_wp2_with fail
    refine (rright_any _ ⟨6, 0, 0, 0, 0, 0, 256 * z1 + z2⟩ (by simp <;> omega) (by simp <;> omega)).mono ?_
    rintro e w2 ⟨bb, rfl, hb, hg⟩
    replace HC := HC.kept hg (by simp)
    replace HB := HB.kept hg (by simp)
    replace hW := hW.trans (gb_below hg hW.size (by simp))
    clear hg e0 fe0 e1 fe1 e2 fe2 e3 fe3 e4 fe4 e5 fe5 e6 fe6
    have e0 := HC.cell 0 _ rfl
    have e1 := HC.cell 1 _ rfl
    have e2 := HC.cell 2 _ rfl
    have e3 := HC.cell 3 _ rfl
    have e4 := HC.cell 4 _ rfl
    have e5 := HC.cell 5 _ rfl
    have e6 := HC.cell 6 _ rfl
    have fe0 := HC.free 0
    have fe1 := HC.free 1
    have fe2 := HC.free 2
    have fe3 := HC.free 3
    have fe4 := HC.free 4
    have fe5 := HC.free 5
    have fe6 := HC.free 6
    have r0 := HB.cell 0 _ rfl
    have r1 := HB.cell 1 _ rfl
    have r2 := HB.cell 2 _ rfl
    have r3 := HB.cell 3 _ rfl
    have r4 := HB.cell 4 _ rfl
    have r5 := HB.cell 5 _ rfl
    have r6 := HB.cell 6 _ rfl
    have fr0 := HB.free 0
    have fr1 := HB.free 1
    have fr2 := HB.free 2
    have fr3 := HB.free 3
    have fr4 := HB.free 4
    have fr5 := HB.free 5
    have fr6 := HB.free 6
    cases bb
    · have HY := Lib.hid (show ¬ right ⟨6, 0, 0, 0, 0, 0, 256 * z1 + z2⟩ from fun h => by simpa using hb.2 h)
      clear hb
      go_wp2_with fail
      have hE := (((((((HB.set 0 (.int .i64 (0))).set 1 (.int .i64 (0))).set 2 (.int .i64 (0))).set 3 (.int .i64 (0))).set 4 (.int .i64 (0))).set 5 (.int .i64 (0))).set 6 (.int .i64 (0)))
      refine bodyPost_ret (v := res zero 0 11) (by simp [results, Try.results8, go_sem, zero, hE.cell 0 _ rfl, hE.cell 1 _ rfl, hE.cell 2 _ rfl, hE.cell 3 _ rfl, hE.cell 4 _ rfl, hE.cell 5 _ rfl, hE.cell 6 _ rfl]) rfl ⟨.inr ⟨HY.out, rfl⟩, ?_⟩
      repeat (with_reducible (first | exact gb_of_below hW | apply gb_drewN | apply gb_drew | apply gb_alloc | (refine gb_setNew ?_ (by simp <;> omega) _)))
    · have HY := Lib.hid (show right ⟨6, 0, 0, 0, 0, 0, 256 * z1 + z2⟩ from hb.1 rfl)
      clear hb
      go_upto_region 26 with (fail)
      go_wp2_with fail
      have hE := (((((((HB.set 0 (.int .i64 (6))).set 1 (.int .i64 (0))).set 2 (.int .i64 (0))).set 3 (.int .i64 (0))).set 4 (.int .i64 (0))).set 5 (.int .i64 (0))).set 6 (.int .i64 (256 * z1 + z2)))
      refine bodyPost_ret (v := res ⟨6, 0, 0, 0, 0, 0, 256 * z1 + z2⟩ (p + 3) 0) (by simp [results, Try.results8, go_sem, zero, hE.cell 0 _ rfl, hE.cell 1 _ rfl, hE.cell 2 _ rfl, hE.cell 3 _ rfl, hE.cell 4 _ rfl, hE.cell 5 _ rfl, hE.cell 6 _ rfl]) rfl ⟨.inl ⟨HY.out, rfl⟩, ?_⟩
      repeat (with_reducible (first | exact gb_of_below hW | apply gb_drewN | apply gb_drew | apply gb_alloc | (refine gb_setNew ?_ (by simp <;> omega) _)))
set_option maxRecDepth 100000 in
set_option maxHeartbeats 4000000 in
theorem rfull7 (w : World) (s : ByteArray) (p : Nat) (hn : s.size ≤ 9223372036854775807) (hp : p < s.size) (h : bz s p = 7) (hs : p + 1 + 0 ≤ s.size) :
    Calls Try.prog 8 #[.string s, .int .i64 p] w fun e w' => (right (dec (bz s) p) ∧ e = .returned (res (dec (bz s) p) (p + 1 + need (bz s p)) 0) ∨ ¬ right (dec (bz s) p) ∧ e = .returned (res zero 0 11)) ∧ w.grownBy w' none := by
  have d1 : decide ((p : Int) < 0) = false := by simp
  have d2 : decide ((s.size : Int) < (p : Int)) = false := by simp; omega
  have d3 : ((p : Int) == (s.size : Int)) = false := by simp; omega
  have hd : dec (bz s) p = ⟨7, 0, 0, 0, 0, 0, 0⟩ := by simp [dec, h]
  have hnd : need (bz s p) = 0 := by simp [need, h]
  have d5 : decide ((s.size : Int) - (p : Int) < 1) = false := by simp; omega
  rw [hd, hnd, show ((p : Int) + 1 + ((0 : Nat) : Int)) = (p : Int) + 1 by omega]
  have hv : (s.extract p (p + 1)).size = 1 := by rw [size_extract s p (p + 1) (by omega)]; omega
  clear hd hnd
  go_enter Try.func8, Try.ntmps8
  go_wp2_with fail
  refine (long7 _).mono ?_
  rintro e w1 ⟨rfl, n1, O, rfl⟩
  go_upto_region 24 with (fail)
  all_goals
    refine forget_world (fun w' => Blk w' (w.heap.size + 1) 28 (Cd.cells ⟨7, 0, 0, 0, 0, 0, 0⟩) ∧ Blk w' w.heap.size 28 zero.cells ∧ Below w.heap.size w w') ⟨?_, ?_, ?_⟩ ?_
    · have hN : Blk ((w.alloc (.cells #[.int .i64 0, .int .i64 0, .int .i64 0, .int .i64 0, .int .i64 0, .int .i64 0, .int .i64 0] 28)).alloc (.cells #[.int .i64 7, .int .i64 0, .int .i64 0, .int .i64 0, .int .i64 0, .int .i64 0, .int .i64 0] 28)) (w.heap.size + 1) 28 (Cd.cells ⟨7, 0, 0, 0, 0, 0, 0⟩) := by
        have := Blk.new (w.alloc (.cells #[.int .i64 0, .int .i64 0, .int .i64 0, .int .i64 0, .int .i64 0, .int .i64 0, .int .i64 0] 28)) 28 (Cd.cells ⟨7, 0, 0, 0, 0, 0, 0⟩)
        simpa only [World.size_alloc] using this
      repeat (with_reducible (first | exact hN | apply Blk.drewN | apply Blk.drew | apply Blk.alloc | apply Blk.set | (refine Blk.other ?_ (by simp) _)))
    · have hN : Blk (w.alloc (.cells #[.int .i64 0, .int .i64 0, .int .i64 0, .int .i64 0, .int .i64 0, .int .i64 0, .int .i64 0] 28)) w.heap.size 28 zero.cells := Blk.new w 28 zero.cells
      repeat (with_reducible (first | exact hN | apply Blk.drewN | apply Blk.drew | apply Blk.alloc | apply Blk.set | (refine Blk.other ?_ (by simp) _)))
    · exact (below_of_gb (by repeat (with_reducible (first | exact gb_refl _ _ | apply gb_drewN | apply gb_drew | apply gb_alloc | (refine gb_setNew ?_ (by simp <;> omega) _)))))
    rintro w' ⟨HC, HB, hW⟩
    have e0 := HC.cell 0 _ rfl
    have e1 := HC.cell 1 _ rfl
    have e2 := HC.cell 2 _ rfl
    have e3 := HC.cell 3 _ rfl
    have e4 := HC.cell 4 _ rfl
    have e5 := HC.cell 5 _ rfl
    have e6 := HC.cell 6 _ rfl
    have fe0 := HC.free 0
    have fe1 := HC.free 1
    have fe2 := HC.free 2
    have fe3 := HC.free 3
    have fe4 := HC.free 4
    have fe5 := HC.free 5
    have fe6 := HC.free 6
    have sW := hW.size
    go_wp2_with fail
    refine (rright_any _ ⟨7, 0, 0, 0, 0, 0, 0⟩ (by simp <;> omega) (by simp <;> omega)).mono ?_
    rintro e w2 ⟨bb, rfl, hb, hg⟩
    replace HC := HC.kept hg (by simp)
    replace HB := HB.kept hg (by simp)
    replace hW := hW.trans (gb_below hg hW.size (by simp))
    clear hg e0 fe0 e1 fe1 e2 fe2 e3 fe3 e4 fe4 e5 fe5 e6 fe6
    have e0 := HC.cell 0 _ rfl
    have e1 := HC.cell 1 _ rfl
    have e2 := HC.cell 2 _ rfl
    have e3 := HC.cell 3 _ rfl
    have e4 := HC.cell 4 _ rfl
    have e5 := HC.cell 5 _ rfl
    have e6 := HC.cell 6 _ rfl
    have fe0 := HC.free 0
    have fe1 := HC.free 1
    have fe2 := HC.free 2
    have fe3 := HC.free 3
    have fe4 := HC.free 4
    have fe5 := HC.free 5
    have fe6 := HC.free 6
    have r0 := HB.cell 0 _ rfl
    have r1 := HB.cell 1 _ rfl
    have r2 := HB.cell 2 _ rfl
    have r3 := HB.cell 3 _ rfl
    have r4 := HB.cell 4 _ rfl
    have r5 := HB.cell 5 _ rfl
    have r6 := HB.cell 6 _ rfl
    have fr0 := HB.free 0
    have fr1 := HB.free 1
    have fr2 := HB.free 2
    have fr3 := HB.free 3
    have fr4 := HB.free 4
    have fr5 := HB.free 5
    have fr6 := HB.free 6
    cases bb
    · have HY := Lib.hid (show ¬ right ⟨7, 0, 0, 0, 0, 0, 0⟩ from fun h => by simpa using hb.2 h)
      clear hb
      go_wp2_with fail
      have hE := (((((((HB.set 0 (.int .i64 (0))).set 1 (.int .i64 (0))).set 2 (.int .i64 (0))).set 3 (.int .i64 (0))).set 4 (.int .i64 (0))).set 5 (.int .i64 (0))).set 6 (.int .i64 (0)))
      refine bodyPost_ret (v := res zero 0 11) (by simp [results, Try.results8, go_sem, zero, hE.cell 0 _ rfl, hE.cell 1 _ rfl, hE.cell 2 _ rfl, hE.cell 3 _ rfl, hE.cell 4 _ rfl, hE.cell 5 _ rfl, hE.cell 6 _ rfl]) rfl ⟨.inr ⟨HY.out, rfl⟩, ?_⟩
      repeat (with_reducible (first | exact gb_of_below hW | apply gb_drewN | apply gb_drew | apply gb_alloc | (refine gb_setNew ?_ (by simp <;> omega) _)))
    · have HY := Lib.hid (show right ⟨7, 0, 0, 0, 0, 0, 0⟩ from hb.1 rfl)
      clear hb
      go_upto_region 26 with (fail)
      go_wp2_with fail
      have hE := (((((((HB.set 0 (.int .i64 (7))).set 1 (.int .i64 (0))).set 2 (.int .i64 (0))).set 3 (.int .i64 (0))).set 4 (.int .i64 (0))).set 5 (.int .i64 (0))).set 6 (.int .i64 (0)))
      refine bodyPost_ret (v := res ⟨7, 0, 0, 0, 0, 0, 0⟩ (p + 1) 0) (by simp [results, Try.results8, go_sem, zero, hE.cell 0 _ rfl, hE.cell 1 _ rfl, hE.cell 2 _ rfl, hE.cell 3 _ rfl, hE.cell 4 _ rfl, hE.cell 5 _ rfl, hE.cell 6 _ rfl]) rfl ⟨.inl ⟨HY.out, rfl⟩, ?_⟩
      repeat (with_reducible (first | exact gb_of_below hW | apply gb_drewN | apply gb_drew | apply gb_alloc | (refine gb_setNew ?_ (by simp <;> omega) _)))
set_option maxRecDepth 100000 in
set_option maxHeartbeats 4000000 in
theorem rfull8 (w : World) (s : ByteArray) (p : Nat) (hn : s.size ≤ 9223372036854775807) (hp : p < s.size) (h : bz s p = 8) (hs : p + 1 + 2 ≤ s.size) :
    Calls Try.prog 8 #[.string s, .int .i64 p] w fun e w' => (right (dec (bz s) p) ∧ e = .returned (res (dec (bz s) p) (p + 1 + need (bz s p)) 0) ∨ ¬ right (dec (bz s) p) ∧ e = .returned (res zero 0 11)) ∧ w.grownBy w' none := by
  have d1 : decide ((p : Int) < 0) = false := by simp
  have d2 : decide ((s.size : Int) < (p : Int)) = false := by simp; omega
  have d3 : ((p : Int) == (s.size : Int)) = false := by simp; omega
  have hd : dec (bz s) p = ⟨8, 0, 0, 0, 0, 0, 256 * bz s (p + 1) + bz s (p + 2)⟩ := by simp [dec, h]
  have hnd : need (bz s p) = 2 := by simp [need, h]
  have d5 : decide ((s.size : Int) - (p : Int) < 3) = false := by simp; omega
  rw [hd, hnd, show ((p : Int) + 1 + ((2 : Nat) : Int)) = (p : Int) + 3 by omega]
  have hv : (s.extract p (p + 3)).size = 3 := by rw [size_extract s p (p + 3) (by omega)]; omega
  have cp1 := bz_extract s p (p + 3) 1 (by omega) (by omega)
  obtain ⟨u1, v1⟩ := bz_lo s (p + 1)
  generalize bz s (p + 1) = z1 at *
  have cp2 := bz_extract s p (p + 3) 2 (by omega) (by omega)
  obtain ⟨u2, v2⟩ := bz_lo s (p + 2)
  generalize bz s (p + 2) = z2 at *
  clear hd hnd
  go_enter Try.func8, Try.ntmps8
  go_wp2_with fail
  refine (long8 _).mono ?_
  rintro e w1 ⟨rfl, n1, O, rfl⟩
  go_upto_region 23 with (fail)
  go_region
  go_upto_region 24 with (fail)
  all_goals
    refine forget_world (fun w' => Blk w' (w.heap.size + 1) 28 (Cd.cells ⟨8, 0, 0, 0, 0, 0, 256 * z1 + z2⟩) ∧ Blk w' w.heap.size 28 zero.cells ∧ Below w.heap.size w w') ⟨?_, ?_, ?_⟩ ?_
    · have hN : Blk ((w.alloc (.cells #[.int .i64 0, .int .i64 0, .int .i64 0, .int .i64 0, .int .i64 0, .int .i64 0, .int .i64 0] 28)).alloc (.cells #[.int .i64 8, .int .i64 0, .int .i64 0, .int .i64 0, .int .i64 0, .int .i64 0, .int .i64 (256 * z1 + z2)] 28)) (w.heap.size + 1) 28 (Cd.cells ⟨8, 0, 0, 0, 0, 0, 256 * z1 + z2⟩) := by
        have := Blk.new (w.alloc (.cells #[.int .i64 0, .int .i64 0, .int .i64 0, .int .i64 0, .int .i64 0, .int .i64 0, .int .i64 0] 28)) 28 (Cd.cells ⟨8, 0, 0, 0, 0, 0, 256 * z1 + z2⟩)
        simpa only [World.size_alloc] using this
      repeat (with_reducible (first | exact hN | apply Blk.drewN | apply Blk.drew | apply Blk.alloc | apply Blk.set | (refine Blk.other ?_ (by simp) _)))
    · have hN : Blk (w.alloc (.cells #[.int .i64 0, .int .i64 0, .int .i64 0, .int .i64 0, .int .i64 0, .int .i64 0, .int .i64 0] 28)) w.heap.size 28 zero.cells := Blk.new w 28 zero.cells
      repeat (with_reducible (first | exact hN | apply Blk.drewN | apply Blk.drew | apply Blk.alloc | apply Blk.set | (refine Blk.other ?_ (by simp) _)))
    · exact (below_of_gb (by repeat (with_reducible (first | exact gb_refl _ _ | apply gb_drewN | apply gb_drew | apply gb_alloc | (refine gb_setNew ?_ (by simp <;> omega) _)))))
    rintro w' ⟨HC, HB, hW⟩
    have e0 := HC.cell 0 _ rfl
    have e1 := HC.cell 1 _ rfl
    have e2 := HC.cell 2 _ rfl
    have e3 := HC.cell 3 _ rfl
    have e4 := HC.cell 4 _ rfl
    have e5 := HC.cell 5 _ rfl
    have e6 := HC.cell 6 _ rfl
    have fe0 := HC.free 0
    have fe1 := HC.free 1
    have fe2 := HC.free 2
    have fe3 := HC.free 3
    have fe4 := HC.free 4
    have fe5 := HC.free 5
    have fe6 := HC.free 6
    have sW := hW.size
    go_wp2_with fail
    refine (rright_any _ ⟨8, 0, 0, 0, 0, 0, 256 * z1 + z2⟩ (by simp <;> omega) (by simp <;> omega)).mono ?_
    rintro e w2 ⟨bb, rfl, hb, hg⟩
    replace HC := HC.kept hg (by simp)
    replace HB := HB.kept hg (by simp)
    replace hW := hW.trans (gb_below hg hW.size (by simp))
    clear hg e0 fe0 e1 fe1 e2 fe2 e3 fe3 e4 fe4 e5 fe5 e6 fe6
    have e0 := HC.cell 0 _ rfl
    have e1 := HC.cell 1 _ rfl
    have e2 := HC.cell 2 _ rfl
    have e3 := HC.cell 3 _ rfl
    have e4 := HC.cell 4 _ rfl
    have e5 := HC.cell 5 _ rfl
    have e6 := HC.cell 6 _ rfl
    have fe0 := HC.free 0
    have fe1 := HC.free 1
    have fe2 := HC.free 2
    have fe3 := HC.free 3
    have fe4 := HC.free 4
    have fe5 := HC.free 5
    have fe6 := HC.free 6
    have r0 := HB.cell 0 _ rfl
    have r1 := HB.cell 1 _ rfl
    have r2 := HB.cell 2 _ rfl
    have r3 := HB.cell 3 _ rfl
    have r4 := HB.cell 4 _ rfl
    have r5 := HB.cell 5 _ rfl
    have r6 := HB.cell 6 _ rfl
    have fr0 := HB.free 0
    have fr1 := HB.free 1
    have fr2 := HB.free 2
    have fr3 := HB.free 3
    have fr4 := HB.free 4
    have fr5 := HB.free 5
    have fr6 := HB.free 6
    cases bb
    · have HY := Lib.hid (show ¬ right ⟨8, 0, 0, 0, 0, 0, 256 * z1 + z2⟩ from fun h => by simpa using hb.2 h)
      clear hb
      go_wp2_with fail
      have hE := (((((((HB.set 0 (.int .i64 (0))).set 1 (.int .i64 (0))).set 2 (.int .i64 (0))).set 3 (.int .i64 (0))).set 4 (.int .i64 (0))).set 5 (.int .i64 (0))).set 6 (.int .i64 (0)))
      refine bodyPost_ret (v := res zero 0 11) (by simp [results, Try.results8, go_sem, zero, hE.cell 0 _ rfl, hE.cell 1 _ rfl, hE.cell 2 _ rfl, hE.cell 3 _ rfl, hE.cell 4 _ rfl, hE.cell 5 _ rfl, hE.cell 6 _ rfl]) rfl ⟨.inr ⟨HY.out, rfl⟩, ?_⟩
      repeat (with_reducible (first | exact gb_of_below hW | apply gb_drewN | apply gb_drew | apply gb_alloc | (refine gb_setNew ?_ (by simp <;> omega) _)))
    · have HY := Lib.hid (show right ⟨8, 0, 0, 0, 0, 0, 256 * z1 + z2⟩ from hb.1 rfl)
      clear hb
      go_upto_region 26 with (fail)
      go_wp2_with fail
      have hE := (((((((HB.set 0 (.int .i64 (8))).set 1 (.int .i64 (0))).set 2 (.int .i64 (0))).set 3 (.int .i64 (0))).set 4 (.int .i64 (0))).set 5 (.int .i64 (0))).set 6 (.int .i64 (256 * z1 + z2)))
      refine bodyPost_ret (v := res ⟨8, 0, 0, 0, 0, 0, 256 * z1 + z2⟩ (p + 3) 0) (by simp [results, Try.results8, go_sem, zero, hE.cell 0 _ rfl, hE.cell 1 _ rfl, hE.cell 2 _ rfl, hE.cell 3 _ rfl, hE.cell 4 _ rfl, hE.cell 5 _ rfl, hE.cell 6 _ rfl]) rfl ⟨.inl ⟨HY.out, rfl⟩, ?_⟩
      repeat (with_reducible (first | exact gb_of_below hW | apply gb_drewN | apply gb_drew | apply gb_alloc | (refine gb_setNew ?_ (by simp <;> omega) _)))
theorem rread_any (w : World) (s : ByteArray) (i : Int) (hn : s.size ≤ 9223372036854775807) :
    Calls Try.prog 8 #[.string s, .int .i64 i] w fun e w' => e = .returned (res (readV s.size (bz s) i).1 (readV s.size (bz s) i).2.1 (readV s.size (bz s) i).2.2) ∧ w.grownBy w' none := by
  by_cases h1 : i < 0 ∨ s.size < i
  · have hv : readV s.size (bz s) i = (zero, 0, 2) := by unfold readV; rw [if_pos h1]
    rw [hv]
    exact rread_out w s i hn h1
  by_cases h2 : i = s.size
  · have hv : readV s.size (bz s) i = (zero, 0, 10) := by unfold readV; rw [if_neg h1, if_pos h2]
    rw [hv, h2]
    exact rread_end w s hn
  obtain ⟨p, rfl⟩ : ∃ p : Nat, i = p := ⟨i.toNat, by omega⟩
  have hp : p < s.size := by omega
  obtain ⟨z0, z1⟩ := bz_lo s p
  by_cases h3 : 8 < bz s p
  · have hv : readV s.size (bz s) p = (zero, 0, 11) := by unfold readV; rw [if_neg h1, if_neg h2, if_pos (by simpa using h3)]
    rw [hv]
    exact rread_form w s p hn hp h3
  by_cases h4 : (s.size : Int) < p + 1 + need (bz s p)
  · have hv : readV s.size (bz s) p = (zero, 0, 10) := by unfold readV; rw [if_neg h1, if_neg h2, if_neg (by simpa using h3), if_pos (by simpa using h4)]
    rw [hv]
    exact rshort w s p hn hp (by omega) h4
  have key : Calls Try.prog 8 #[.string s, .int .i64 p] w fun e w' => (right (dec (bz s) p) ∧ e = .returned (res (dec (bz s) p) (p + 1 + need (bz s p)) 0) ∨ ¬ right (dec (bz s) p) ∧ e = .returned (res zero 0 11)) ∧ w.grownBy w' none := by
    obtain k | k | k | k | k | k | k | k | k : bz s p = 0 ∨ bz s p = 1 ∨ bz s p = 2 ∨ bz s p = 3 ∨ bz s p = 4 ∨ bz s p = 5 ∨ bz s p = 6 ∨ bz s p = 7 ∨ bz s p = 8 := by omega
    · exact rfull0 w s p hn hp k (by simp [need, k] at h4; omega)
    · exact rfull1 w s p hn hp k (by simp [need, k] at h4; omega)
    · exact rfull2 w s p hn hp k (by simp [need, k] at h4; omega)
    · exact rfull3 w s p hn hp k (by simp [need, k] at h4; omega)
    · exact rfull4 w s p hn hp k (by simp [need, k] at h4; omega)
    · exact rfull5 w s p hn hp k (by simp [need, k] at h4; omega)
    · exact rfull6 w s p hn hp k (by simp [need, k] at h4; omega)
    · exact rfull7 w s p hn hp k (by simp [need, k] at h4; omega)
    · exact rfull8 w s p hn hp k (by simp [need, k] at h4; omega)
  refine key.mono ?_
  rintro e w' ⟨he, hg⟩
  refine ⟨?_, hg⟩
  rcases he with ⟨hr, rfl⟩ | ⟨hr, rfl⟩
  · have hv : readV s.size (bz s) p = (dec (bz s) p, (p : Int) + 1 + need (bz s p), 0) := by unfold readV; rw [if_neg h1, if_neg h2, if_neg (by simpa using h3), if_neg (by simpa using h4), if_pos (by simpa using hr)]; simp
    rw [hv]
  · have hv : readV s.size (bz s) p = (zero, 0, 11) := by unfold readV; rw [if_neg h1, if_neg h2, if_neg (by simpa using h3), if_neg (by simpa using h4), if_neg (by simpa using hr)]
    rw [hv]
end Cm
end Go.Proofs.Ytbhfbdldehahoaa
