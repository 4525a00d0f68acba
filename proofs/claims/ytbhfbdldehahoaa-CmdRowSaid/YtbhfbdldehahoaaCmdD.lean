/- Commands: Read, the code's. -/
import Derived.Test.YtbhfbdldehahoaaCmdP
namespace Go.Proofs.Ytbhfbdldehahoaa
open Go.RowKit
set_option linter.unusedVariables false
set_option linter.unusedSimpArgs false
namespace Cm
theorem alloc_drewN' (w : World) (n : Nat) (o : Obj) : (w.drewN n).alloc o = (w.alloc o).drewN n := rfl
theorem setCell_drewN' (w : World) (n : Nat) (a : Addr) (v : Value) : (w.drewN n).setCell a v = (w.setCell a v).drewN n := by unfold World.setCell World.drewN; simp <;> (repeat split) <;> rfl
theorem blk_eq {w : World} {b : Nat} {t : TypeId} {l l' : List Value} (he : l = l') (h : Blk w b t l) : Blk w b t l' := he ▸ h
attribute [local go_sem] alloc_drewN' setCell_drewN'
/-- How many bytes stand behind an Op. -/
def need (o : Int) : Nat := if o = 1 then 4 else if o = 2 then 3 else if o = 3 then 2 else if o = 4 then 1 else if o = 6 ∨ o = 8 then 2 else 0
/-- The command of the bytes at a place. -/
def dec (z : Nat → Int) (p : Nat) : Cd := if z p = 1 then ⟨1, z (p + 1), z (p + 2), z (p + 3), z (p + 4), 0, 0⟩ else if z p = 2 then ⟨2, z (p + 1), z (p + 2), 0, z (p + 3), 0, 0⟩ else if z p = 3 then ⟨3, 0, z (p + 1), 0, z (p + 2), 0, 0⟩
  else if z p = 4 then ⟨4, 0, 0, 0, 0, z (p + 1), 0⟩ else if z p = 6 ∨ z p = 8 then ⟨z p, 0, 0, 0, 0, 0, 256 * z (p + 1) + z (p + 2)⟩ else ⟨z p, 0, 0, 0, 0, 0, 0⟩
def zero : Cd := ⟨0, 0, 0, 0, 0, 0, 0⟩
abbrev res (c : Cd) (n e : Int) : Value := .tuple #[c.v, .int .i64 n, .int .i64 e]
set_option maxRecDepth 100000 in
set_option maxHeartbeats 1000000 in
theorem read_out (w : World) (A : Option Addr) (n cp : Nat) (at_ : Int) (hn : n ≤ 9223372036854775807) (h : at_ < 0 ∨ n < at_) :
    Calls Try.prog 7 #[.slice A n cp, .int .i64 at_] w fun e w' => e = .returned (res zero 0 2) ∧ w.grownBy w' none := by
  rcases h with h | h
  · have d1 : decide (at_ < 0) = true := by simpa using h
    go_enter Try.func7, Try.ntmps7
    go_wp2
    refine bodyPost_ret (v := res zero 0 2) (by simp [results, Try.results7, go_sem, zero]) rfl ⟨rfl, ?_⟩
    exact gb_alloc (gb_refl _ _) _
  · have d1 : decide (at_ < 0) = false := by simp; omega
    have d2 : decide ((n : Int) < at_) = true := by simpa using h
    go_enter Try.func7, Try.ntmps7
    go_wp2
    refine bodyPost_ret (v := res zero 0 2) (by simp [results, Try.results7, go_sem, zero]) rfl ⟨rfl, ?_⟩
    exact gb_alloc (gb_refl _ _) _
set_option maxRecDepth 100000 in
set_option maxHeartbeats 1000000 in
theorem read_end (w : World) (A : Option Addr) (n cp : Nat) (hn : n ≤ 9223372036854775807) :
    Calls Try.prog 7 #[.slice A n cp, .int .i64 n] w fun e w' => e = .returned (res zero 0 10) ∧ w.grownBy w' none := by
  have d1 : decide ((n : Int) < 0) = false := by simp
  go_enter Try.func7, Try.ntmps7
  go_wp2
  refine bodyPost_ret (v := res zero 0 10) (by simp [results, Try.results7, go_sem, zero]) rfl ⟨rfl, ?_⟩
  exact gb_alloc (gb_refl _ _) _
set_option maxRecDepth 100000 in
set_option maxHeartbeats 1000000 in
theorem read_form (w : World) (B b off n cp p : Nat) (z : Nat → Int) (hn : n ≤ cp) (hcp : cp ≤ 9223372036854775807) (hp : p < n) (hz : ∀ i, i < n → 0 ≤ z i ∧ z i ≤ 255) (hbw : b < w.heap.size) (hc : ∀ i, i < n → w.cell? ⟨b, off + i, none⟩ = some (.int .u8 (z i))) (h : 8 < z p) :
    Calls Try.prog 7 #[.slice (some ⟨b, off, none⟩) n cp, .int .i64 p] w fun e w' => e = .returned (res zero 0 11) ∧ w.grownBy w' none := by
  have d1 : decide ((p : Int) < 0) = false := by simp
  have d2 : decide ((n : Int) < (p : Int)) = false := by simp; omega
  have d3 : ((p : Int) == (n : Int)) = false := by simp; omega
  have hb1 : b < w.heap.size + 1 := by omega
  have hb2 : b < w.heap.size + 1 + 1 := by omega
  have hb3 : b < w.heap.size + 1 + 1 + 1 := by omega
  have hb4 : b < w.heap.size + 1 + 1 + 1 + 1 := by omega
  have cp0 := hc p hp
  obtain ⟨z0, z1⟩ := hz p hp
  have d4 : decide (8 < z p) = true := by simpa using h
  clear hc hz
  go_enter Try.func7, Try.ntmps7
  go_wp2
  refine bodyPost_ret (v := res zero 0 11) (by simp [results, Try.results7, go_sem, zero]) rfl ⟨rfl, ?_⟩
  exact gb_alloc (gb_alloc (gb_refl _ _) _) _
set_option maxRecDepth 100000 in
set_option maxHeartbeats 2000000 in
theorem short1 (w : World) (B b off n cp p : Nat) (z : Nat → Int) (hn : n ≤ cp) (hcp : cp ≤ 9223372036854775807) (hp : p < n) (hz : ∀ i, i < n → 0 ≤ z i ∧ z i ≤ 255) (hbw : b < w.heap.size) (hc : ∀ i, i < n → w.cell? ⟨b, off + i, none⟩ = some (.int .u8 (z i))) (h : z p = 1) (hs : n < p + 1 + 4) :
    Calls Try.prog 7 #[.slice (some ⟨b, off, none⟩) n cp, .int .i64 p] w fun e w' => e = .returned (res zero 0 10) ∧ w.grownBy w' none := by
  have d1 : decide ((p : Int) < 0) = false := by simp
  have d2 : decide ((n : Int) < (p : Int)) = false := by simp; omega
  have d3 : ((p : Int) == (n : Int)) = false := by simp; omega
  have hb1 : b < w.heap.size + 1 := by omega
  have hb2 : b < w.heap.size + 1 + 1 := by omega
  have hb3 : b < w.heap.size + 1 + 1 + 1 := by omega
  have hb4 : b < w.heap.size + 1 + 1 + 1 + 1 := by omega
  have cp0 : w.cell? ⟨b, off + p, none⟩ = some (.int .u8 1) := by rw [hc p hp, h]
  have d4 : decide (n - (p + 1) < 4) = true := by simp; omega
  clear hc hz h
  go_enter Try.func7, Try.ntmps7
  go_wp2_with fail
  all_goals
    refine (bytes1 _ _ (by go_simp)).mono ?_
    rintro e w1 ⟨rfl, n1, rfl⟩
    go_wp2_with fail
    refine (goes_no _ _ 1 (by go_simp) (by omega) (by omega)).mono ?_
    rintro e w1 ⟨rfl, n2, rfl⟩
    go_upto_region 12 with (fail)
    refine forget_world (fun w' => Blk w' w.heap.size 24 zero.cells ∧ Below w.heap.size w w') ⟨?_, ?_⟩ ?_
    · first | exact ((((Blk.new w 24 zero.cells).alloc _).alloc _).drewN _) | exact ((((Blk.new w 24 zero.cells).alloc _)).drewN _)
    · exact (below_of_gb (by repeat (with_reducible (first | exact gb_refl _ _ | apply gb_drewN | apply gb_drew | apply gb_alloc | (refine gb_setNew ?_ (by simp <;> omega) _)))))
    rintro w' ⟨HB, hW⟩
    have r0 := HB.cell 0 _ rfl
    have r1 := HB.cell 1 _ rfl
    have r2 := HB.cell 2 _ rfl
    have r3 := HB.cell 3 _ rfl
    have r4 := HB.cell 4 _ rfl
    have r5 := HB.cell 5 _ rfl
    have r6 := HB.cell 6 _ rfl
    have fr0 := HB.free 0
    have fr1 := HB.free 1
    have fr2 := HB.free 2
    have fr3 := HB.free 3
    have fr4 := HB.free 4
    have fr5 := HB.free 5
    have fr6 := HB.free 6
    go_wp2_with fail
    have hE := (((((((HB.set 0 (.int .i64 (0))).set 1 (.int .i64 (0))).set 2 (.int .i64 (0))).set 3 (.int .i64 (0))).set 4 (.int .i64 (0))).set 5 (.int .i64 (0))).set 6 (.int .i64 (0)))
    refine bodyPost_ret (v := res zero 0 10) (by simp [results, Try.results7, go_sem, zero, hE.cell 0 _ rfl, hE.cell 1 _ rfl, hE.cell 2 _ rfl, hE.cell 3 _ rfl, hE.cell 4 _ rfl, hE.cell 5 _ rfl, hE.cell 6 _ rfl]) rfl ⟨rfl, ?_⟩
    repeat (with_reducible (first | exact gb_of_below hW | apply gb_drewN | apply gb_drew | apply gb_alloc | (refine gb_setNew ?_ (by simp <;> omega) _)))
set_option maxRecDepth 100000 in
set_option maxHeartbeats 4000000 in
theorem full1 (w : World) (B b off n cp p : Nat) (z : Nat → Int) (hn : n ≤ cp) (hcp : cp ≤ 9223372036854775807) (hp : p < n) (hz : ∀ i, i < n → 0 ≤ z i ∧ z i ≤ 255) (hbw : b < w.heap.size) (hc : ∀ i, i < n → w.cell? ⟨b, off + i, none⟩ = some (.int .u8 (z i))) (h : z p = 1) (hs : p + 1 + 4 ≤ n) :
    Calls Try.prog 7 #[.slice (some ⟨b, off, none⟩) n cp, .int .i64 p] w fun e w' => (right (dec z p) ∧ e = .returned (res (dec z p) (p + 1 + need (z p)) 0) ∨ ¬ right (dec z p) ∧ e = .returned (res zero 0 11)) ∧ w.grownBy w' none := by
  have d1 : decide ((p : Int) < 0) = false := by simp
  have d2 : decide ((n : Int) < (p : Int)) = false := by simp; omega
  have d3 : ((p : Int) == (n : Int)) = false := by simp; omega
  have hb1 : b < w.heap.size + 1 := by omega
  have hb2 : b < w.heap.size + 1 + 1 := by omega
  have hb3 : b < w.heap.size + 1 + 1 + 1 := by omega
  have hb4 : b < w.heap.size + 1 + 1 + 1 + 1 := by omega
  have cp0 : w.cell? ⟨b, off + p, none⟩ = some (.int .u8 1) := by rw [hc p hp, h]
  have d4 : decide (n - (p + 1) < 4) = false := by simp; omega
  have hd : dec z p = ⟨1, z (p + 1), z (p + 2), z (p + 3), z (p + 4), 0, 0⟩ := by simp [dec, h]
  have hnd : need (z p) = 4 := by simp [need, h]
  rw [hd, hnd]
  have cp1 : w.cell? ⟨b, off + (p + 1), none⟩ = some (.int .u8 (z (p + 1))) := by have := hc (p + 1) (by omega); exact this
  obtain ⟨u1, v1⟩ := hz (p + 1) (by omega)
  generalize z (p + 1) = z1 at *
  have cp2 : w.cell? ⟨b, off + (p + 1) + 1, none⟩ = some (.int .u8 (z (p + 2))) := by have := hc (p + 2) (by omega); rw [show off + (p + 1) + 1 = off + (p + 2) by omega]; exact this
  obtain ⟨u2, v2⟩ := hz (p + 2) (by omega)
  generalize z (p + 2) = z2 at *
  have cp3 : w.cell? ⟨b, off + (p + 1) + 2, none⟩ = some (.int .u8 (z (p + 3))) := by have := hc (p + 3) (by omega); rw [show off + (p + 1) + 2 = off + (p + 3) by omega]; exact this
  obtain ⟨u3, v3⟩ := hz (p + 3) (by omega)
  generalize z (p + 3) = z3 at *
  have cp4 : w.cell? ⟨b, off + (p + 1) + 3, none⟩ = some (.int .u8 (z (p + 4))) := by have := hc (p + 4) (by omega); rw [show off + (p + 1) + 3 = off + (p + 4) by omega]; exact this
  obtain ⟨u4, v4⟩ := hz (p + 4) (by omega)
  generalize z (p + 4) = z4 at *
  clear hc hz h hd hnd
  go_enter Try.func7, Try.ntmps7
  go_wp2_with fail
  all_goals
    refine (bytes1 _ _ (by go_simp)).mono ?_
    rintro e w1 ⟨rfl, n1, rfl⟩
    go_wp2_with fail
    refine (goes_no _ _ 1 (by go_simp) (by omega) (by omega)).mono ?_
    rintro e w1 ⟨rfl, n2, rfl⟩
    go_wp2_with fail
    refine (bytes1 _ _ (by go_simp)).mono ?_
    rintro e w1 ⟨rfl, n3, rfl⟩
    go_wp2_with fail
    refine wp_loop_rounds 5 ?_
    rw [rounds_succ]
    go_wp2_with fail
    rw [rounds_succ]
    go_wp2_with fail
    rw [rounds_succ]
    go_wp2_with fail
    rw [rounds_succ]
    go_wp2_with fail
    rw [rounds_succ]
    go_wp2_with fail
    refine (goes_no _ _ 1 (by go_simp) (by omega) (by omega)).mono ?_
    rintro e w1 ⟨rfl, n4, rfl⟩
    go_upto_region 21 with (fail)
    refine forget_world (fun w' => Blk w' (w.heap.size + 1) 24 (Cd.cells ⟨1, z1, z2, z3, z4, 0, 0⟩) ∧ Blk w' w.heap.size 24 zero.cells ∧ Below w.heap.size w w') ⟨?_, ?_, ?_⟩ ?_
    · have hN : Blk ((w.alloc (.cells #[.int .i64 0, .int .i64 0, .int .i64 0, .int .i64 0, .int .i64 0, .int .i64 0, .int .i64 0] 24)).alloc (.cells #[.int .i64 1, .int .i64 z1, .int .i64 z2, .int .i64 z3, .int .i64 z4, .int .i64 0, .int .i64 0] 24)) (w.heap.size + 1) 24 (Cd.cells ⟨1, z1, z2, z3, z4, 0, 0⟩) := by
        have := Blk.new (w.alloc (.cells #[.int .i64 0, .int .i64 0, .int .i64 0, .int .i64 0, .int .i64 0, .int .i64 0, .int .i64 0] 24)) 24 (Cd.cells ⟨1, z1, z2, z3, z4, 0, 0⟩)
        simpa only [World.size_alloc] using this
      repeat (with_reducible (first | exact hN | apply Blk.drewN | apply Blk.drew | apply Blk.alloc | apply Blk.set | (refine Blk.other ?_ (by simp) _)))
    · have hN : Blk (w.alloc (.cells #[.int .i64 0, .int .i64 0, .int .i64 0, .int .i64 0, .int .i64 0, .int .i64 0, .int .i64 0] 24)) w.heap.size 24 zero.cells := Blk.new w 24 zero.cells
      repeat (with_reducible (first | exact hN | apply Blk.drewN | apply Blk.drew | apply Blk.alloc | apply Blk.set | (refine Blk.other ?_ (by simp) _)))
    · exact (below_of_gb (by repeat (with_reducible (first | exact gb_refl _ _ | apply gb_drewN | apply gb_drew | apply gb_alloc | (refine gb_setNew ?_ (by simp <;> omega) _)))))
    rintro w' ⟨HC, HB, hW⟩
    have e0 := HC.cell 0 _ rfl
    have e1 := HC.cell 1 _ rfl
    have e2 := HC.cell 2 _ rfl
    have e3 := HC.cell 3 _ rfl
    have e4 := HC.cell 4 _ rfl
    have e5 := HC.cell 5 _ rfl
    have e6 := HC.cell 6 _ rfl
    have fe0 := HC.free 0
    have fe1 := HC.free 1
    have fe2 := HC.free 2
    have fe3 := HC.free 3
    have fe4 := HC.free 4
    have fe5 := HC.free 5
    have fe6 := HC.free 6
    have sW := hW.size
    go_wp2_with fail
    refine (right_any _ ⟨1, z1, z2, z3, z4, 0, 0⟩ (by simp <;> omega) (by simp <;> omega) (by simp <;> omega) (by simp <;> omega)).mono ?_
    rintro e w2 ⟨bb, rfl, hb, hg⟩
    replace HC := HC.kept hg (by simp)
    replace HB := HB.kept hg (by simp)
    replace hW := hW.trans (gb_below hg hW.size (by simp))
    clear hg e0 fe0 e1 fe1 e2 fe2 e3 fe3 e4 fe4 e5 fe5 e6 fe6
    have e0 := HC.cell 0 _ rfl
    have e1 := HC.cell 1 _ rfl
    have e2 := HC.cell 2 _ rfl
    have e3 := HC.cell 3 _ rfl
    have e4 := HC.cell 4 _ rfl
    have e5 := HC.cell 5 _ rfl
    have e6 := HC.cell 6 _ rfl
    have fe0 := HC.free 0
    have fe1 := HC.free 1
    have fe2 := HC.free 2
    have fe3 := HC.free 3
    have fe4 := HC.free 4
    have fe5 := HC.free 5
    have fe6 := HC.free 6
    have r0 := HB.cell 0 _ rfl
    have r1 := HB.cell 1 _ rfl
    have r2 := HB.cell 2 _ rfl
    have r3 := HB.cell 3 _ rfl
    have r4 := HB.cell 4 _ rfl
    have r5 := HB.cell 5 _ rfl
    have r6 := HB.cell 6 _ rfl
    have fr0 := HB.free 0
    have fr1 := HB.free 1
    have fr2 := HB.free 2
    have fr3 := HB.free 3
    have fr4 := HB.free 4
    have fr5 := HB.free 5
    have fr6 := HB.free 6
    cases bb
    · have HY := Lib.hid (show ¬ right ⟨1, z1, z2, z3, z4, 0, 0⟩ from fun h => by simpa using hb.2 h)
      clear hb
      go_wp2_with fail
      have hE := (((((((HB.set 0 (.int .i64 (0))).set 1 (.int .i64 (0))).set 2 (.int .i64 (0))).set 3 (.int .i64 (0))).set 4 (.int .i64 (0))).set 5 (.int .i64 (0))).set 6 (.int .i64 (0)))
      refine bodyPost_ret (v := res zero 0 11) (by simp [results, Try.results7, go_sem, zero, hE.cell 0 _ rfl, hE.cell 1 _ rfl, hE.cell 2 _ rfl, hE.cell 3 _ rfl, hE.cell 4 _ rfl, hE.cell 5 _ rfl, hE.cell 6 _ rfl]) rfl ⟨.inr ⟨HY.out, rfl⟩, ?_⟩
      repeat (with_reducible (first | exact gb_of_below hW | apply gb_drewN | apply gb_drew | apply gb_alloc | (refine gb_setNew ?_ (by simp <;> omega) _)))
    · have HY := Lib.hid (show right ⟨1, z1, z2, z3, z4, 0, 0⟩ from hb.1 rfl)
      clear hb
      go_upto_region 23 with (fail)
      go_wp2_with fail
      have hE := (((((((HB.set 0 (.int .i64 (1))).set 1 (.int .i64 (z1))).set 2 (.int .i64 (z2))).set 3 (.int .i64 (z3))).set 4 (.int .i64 (z4))).set 5 (.int .i64 (0))).set 6 (.int .i64 (0)))
      refine bodyPost_ret (v := res ⟨1, z1, z2, z3, z4, 0, 0⟩ (p + 1 + 4) 0) (by simp [results, Try.results7, go_sem, zero, hE.cell 0 _ rfl, hE.cell 1 _ rfl, hE.cell 2 _ rfl, hE.cell 3 _ rfl, hE.cell 4 _ rfl, hE.cell 5 _ rfl, hE.cell 6 _ rfl]) rfl ⟨.inl ⟨HY.out, rfl⟩, ?_⟩
      repeat (with_reducible (first | exact gb_of_below hW | apply gb_drewN | apply gb_drew | apply gb_alloc | (refine gb_setNew ?_ (by simp <;> omega) _)))
set_option maxRecDepth 100000 in
set_option maxHeartbeats 2000000 in
theorem short2 (w : World) (B b off n cp p : Nat) (z : Nat → Int) (hn : n ≤ cp) (hcp : cp ≤ 9223372036854775807) (hp : p < n) (hz : ∀ i, i < n → 0 ≤ z i ∧ z i ≤ 255) (hbw : b < w.heap.size) (hc : ∀ i, i < n → w.cell? ⟨b, off + i, none⟩ = some (.int .u8 (z i))) (h : z p = 2) (hs : n < p + 1 + 3) :
    Calls Try.prog 7 #[.slice (some ⟨b, off, none⟩) n cp, .int .i64 p] w fun e w' => e = .returned (res zero 0 10) ∧ w.grownBy w' none := by
  have d1 : decide ((p : Int) < 0) = false := by simp
  have d2 : decide ((n : Int) < (p : Int)) = false := by simp; omega
  have d3 : ((p : Int) == (n : Int)) = false := by simp; omega
  have hb1 : b < w.heap.size + 1 := by omega
  have hb2 : b < w.heap.size + 1 + 1 := by omega
  have hb3 : b < w.heap.size + 1 + 1 + 1 := by omega
  have hb4 : b < w.heap.size + 1 + 1 + 1 + 1 := by omega
  have cp0 : w.cell? ⟨b, off + p, none⟩ = some (.int .u8 2) := by rw [hc p hp, h]
  have d4 : decide (n - (p + 1) < 3) = true := by simp; omega
  clear hc hz h
  go_enter Try.func7, Try.ntmps7
  go_wp2_with fail
  all_goals
    refine (bytes2 _ _ (by go_simp)).mono ?_
    rintro e w1 ⟨rfl, n1, rfl⟩
    go_wp2_with fail
    refine (goes_no _ _ 2 (by go_simp) (by omega) (by omega)).mono ?_
    rintro e w1 ⟨rfl, n2, rfl⟩
    go_upto_region 12 with (fail)
    refine forget_world (fun w' => Blk w' w.heap.size 24 zero.cells ∧ Below w.heap.size w w') ⟨?_, ?_⟩ ?_
    · first | exact ((((Blk.new w 24 zero.cells).alloc _).alloc _).drewN _) | exact ((((Blk.new w 24 zero.cells).alloc _)).drewN _)
    · exact (below_of_gb (by repeat (with_reducible (first | exact gb_refl _ _ | apply gb_drewN | apply gb_drew | apply gb_alloc | (refine gb_setNew ?_ (by simp <;> omega) _)))))
    rintro w' ⟨HB, hW⟩
    have r0 := HB.cell 0 _ rfl
    have r1 := HB.cell 1 _ rfl
    have r2 := HB.cell 2 _ rfl
    have r3 := HB.cell 3 _ rfl
    have r4 := HB.cell 4 _ rfl
    have r5 := HB.cell 5 _ rfl
    have r6 := HB.cell 6 _ rfl
    have fr0 := HB.free 0
    have fr1 := HB.free 1
    have fr2 := HB.free 2
    have fr3 := HB.free 3
    have fr4 := HB.free 4
    have fr5 := HB.free 5
    have fr6 := HB.free 6
    go_wp2_with fail
    have hE := (((((((HB.set 0 (.int .i64 (0))).set 1 (.int .i64 (0))).set 2 (.int .i64 (0))).set 3 (.int .i64 (0))).set 4 (.int .i64 (0))).set 5 (.int .i64 (0))).set 6 (.int .i64 (0)))
    refine bodyPost_ret (v := res zero 0 10) (by simp [results, Try.results7, go_sem, zero, hE.cell 0 _ rfl, hE.cell 1 _ rfl, hE.cell 2 _ rfl, hE.cell 3 _ rfl, hE.cell 4 _ rfl, hE.cell 5 _ rfl, hE.cell 6 _ rfl]) rfl ⟨rfl, ?_⟩
    repeat (with_reducible (first | exact gb_of_below hW | apply gb_drewN | apply gb_drew | apply gb_alloc | (refine gb_setNew ?_ (by simp <;> omega) _)))
set_option maxRecDepth 100000 in
set_option maxHeartbeats 4000000 in
theorem full2 (w : World) (B b off n cp p : Nat) (z : Nat → Int) (hn : n ≤ cp) (hcp : cp ≤ 9223372036854775807) (hp : p < n) (hz : ∀ i, i < n → 0 ≤ z i ∧ z i ≤ 255) (hbw : b < w.heap.size) (hc : ∀ i, i < n → w.cell? ⟨b, off + i, none⟩ = some (.int .u8 (z i))) (h : z p = 2) (hs : p + 1 + 3 ≤ n) :
    Calls Try.prog 7 #[.slice (some ⟨b, off, none⟩) n cp, .int .i64 p] w fun e w' => (right (dec z p) ∧ e = .returned (res (dec z p) (p + 1 + need (z p)) 0) ∨ ¬ right (dec z p) ∧ e = .returned (res zero 0 11)) ∧ w.grownBy w' none := by
  have d1 : decide ((p : Int) < 0) = false := by simp
  have d2 : decide ((n : Int) < (p : Int)) = false := by simp; omega
  have d3 : ((p : Int) == (n : Int)) = false := by simp; omega
  have hb1 : b < w.heap.size + 1 := by omega
  have hb2 : b < w.heap.size + 1 + 1 := by omega
  have hb3 : b < w.heap.size + 1 + 1 + 1 := by omega
  have hb4 : b < w.heap.size + 1 + 1 + 1 + 1 := by omega
  have cp0 : w.cell? ⟨b, off + p, none⟩ = some (.int .u8 2) := by rw [hc p hp, h]
  have d4 : decide (n - (p + 1) < 3) = false := by simp; omega
  have hd : dec z p = ⟨2, z (p + 1), z (p + 2), 0, z (p + 3), 0, 0⟩ := by simp [dec, h]
  have hnd : need (z p) = 3 := by simp [need, h]
  rw [hd, hnd]
  have cp1 : w.cell? ⟨b, off + (p + 1), none⟩ = some (.int .u8 (z (p + 1))) := by have := hc (p + 1) (by omega); exact this
  obtain ⟨u1, v1⟩ := hz (p + 1) (by omega)
  generalize z (p + 1) = z1 at *
  have cp2 : w.cell? ⟨b, off + (p + 1) + 1, none⟩ = some (.int .u8 (z (p + 2))) := by have := hc (p + 2) (by omega); rw [show off + (p + 1) + 1 = off + (p + 2) by omega]; exact this
  obtain ⟨u2, v2⟩ := hz (p + 2) (by omega)
  generalize z (p + 2) = z2 at *
  have cp3 : w.cell? ⟨b, off + (p + 1) + 2, none⟩ = some (.int .u8 (z (p + 3))) := by have := hc (p + 3) (by omega); rw [show off + (p + 1) + 2 = off + (p + 3) by omega]; exact this
  obtain ⟨u3, v3⟩ := hz (p + 3) (by omega)
  generalize z (p + 3) = z3 at *
  clear hc hz h hd hnd
  go_enter Try.func7, Try.ntmps7
  go_wp2_with fail
  all_goals
    refine (bytes2 _ _ (by go_simp)).mono ?_
    rintro e w1 ⟨rfl, n1, rfl⟩
    go_wp2_with fail
    refine (goes_no _ _ 2 (by go_simp) (by omega) (by omega)).mono ?_
    rintro e w1 ⟨rfl, n2, rfl⟩
    go_wp2_with fail
    refine (bytes2 _ _ (by go_simp)).mono ?_
    rintro e w1 ⟨rfl, n3, rfl⟩
    go_wp2_with fail
    refine wp_loop_rounds 4 ?_
    rw [rounds_succ]
    go_wp2_with fail
    rw [rounds_succ]
    go_wp2_with fail
    rw [rounds_succ]
    go_wp2_with fail
    rw [rounds_succ]
    go_wp2_with fail
    refine (goes_no _ _ 2 (by go_simp) (by omega) (by omega)).mono ?_
    rintro e w1 ⟨rfl, n4, rfl⟩
    go_upto_region 21 with (fail)
    refine forget_world (fun w' => Blk w' (w.heap.size + 1) 24 (Cd.cells ⟨2, z1, z2, 0, z3, 0, 0⟩) ∧ Blk w' w.heap.size 24 zero.cells ∧ Below w.heap.size w w') ⟨?_, ?_, ?_⟩ ?_
    · have hN : Blk ((w.alloc (.cells #[.int .i64 0, .int .i64 0, .int .i64 0, .int .i64 0, .int .i64 0, .int .i64 0, .int .i64 0] 24)).alloc (.cells #[.int .i64 2, .int .i64 z1, .int .i64 z2, .int .i64 0, .int .i64 z3, .int .i64 0, .int .i64 0] 24)) (w.heap.size + 1) 24 (Cd.cells ⟨2, z1, z2, 0, z3, 0, 0⟩) := by
        have := Blk.new (w.alloc (.cells #[.int .i64 0, .int .i64 0, .int .i64 0, .int .i64 0, .int .i64 0, .int .i64 0, .int .i64 0] 24)) 24 (Cd.cells ⟨2, z1, z2, 0, z3, 0, 0⟩)
        simpa only [World.size_alloc] using this
      repeat (with_reducible (first | exact hN | apply Blk.drewN | apply Blk.drew | apply Blk.alloc | apply Blk.set | (refine Blk.other ?_ (by simp) _)))
    · have hN : Blk (w.alloc (.cells #[.int .i64 0, .int .i64 0, .int .i64 0, .int .i64 0, .int .i64 0, .int .i64 0, .int .i64 0] 24)) w.heap.size 24 zero.cells := Blk.new w 24 zero.cells
      repeat (with_reducible (first | exact hN | apply Blk.drewN | apply Blk.drew | apply Blk.alloc | apply Blk.set | (refine Blk.other ?_ (by simp) _)))
    · exact (below_of_gb (by repeat (with_reducible (first | exact gb_refl _ _ | apply gb_drewN | apply gb_drew | apply gb_alloc | (refine gb_setNew ?_ (by simp <;> omega) _)))))
    rintro w' ⟨HC, HB, hW⟩
    have e0 := HC.cell 0 _ rfl
    have e1 := HC.cell 1 _ rfl
    have e2 := HC.cell 2 _ rfl
    have e3 := HC.cell 3 _ rfl
    have e4 := HC.cell 4 _ rfl
    have e5 := HC.cell 5 _ rfl
    have e6 := HC.cell 6 _ rfl
    have fe0 := HC.free 0
    have fe1 := HC.free 1
    have fe2 := HC.free 2
    have fe3 := HC.free 3
    have fe4 := HC.free 4
    have fe5 := HC.free 5
    have fe6 := HC.free 6
    have sW := hW.size
    go_wp2_with fail
    refine (right_any _ ⟨2, z1, z2, 0, z3, 0, 0⟩ (by simp <;> omega) (by simp <;> omega) (by simp <;> omega) (by simp <;> omega)).mono ?_
    rintro e w2 ⟨bb, rfl, hb, hg⟩
    replace HC := HC.kept hg (by simp)
    replace HB := HB.kept hg (by simp)
    replace hW := hW.trans (gb_below hg hW.size (by simp))
    clear hg e0 fe0 e1 fe1 e2 fe2 e3 fe3 e4 fe4 e5 fe5 e6 fe6
    have e0 := HC.cell 0 _ rfl
    have e1 := HC.cell 1 _ rfl
    have e2 := HC.cell 2 _ rfl
    have e3 := HC.cell 3 _ rfl
    have e4 := HC.cell 4 _ rfl
    have e5 := HC.cell 5 _ rfl
    have e6 := HC.cell 6 _ rfl
    have fe0 := HC.free 0
    have fe1 := HC.free 1
    have fe2 := HC.free 2
    have fe3 := HC.free 3
    have fe4 := HC.free 4
    have fe5 := HC.free 5
    have fe6 := HC.free 6
    have r0 := HB.cell 0 _ rfl
    have r1 := HB.cell 1 _ rfl
    have r2 := HB.cell 2 _ rfl
    have r3 := HB.cell 3 _ rfl
    have r4 := HB.cell 4 _ rfl
    have r5 := HB.cell 5 _ rfl
    have r6 := HB.cell 6 _ rfl
    have fr0 := HB.free 0
    have fr1 := HB.free 1
    have fr2 := HB.free 2
    have fr3 := HB.free 3
    have fr4 := HB.free 4
    have fr5 := HB.free 5
    have fr6 := HB.free 6
    cases bb
    · have HY := Lib.hid (show ¬ right ⟨2, z1, z2, 0, z3, 0, 0⟩ from fun h => by simpa using hb.2 h)
      clear hb
      go_wp2_with fail
      have hE := (((((((HB.set 0 (.int .i64 (0))).set 1 (.int .i64 (0))).set 2 (.int .i64 (0))).set 3 (.int .i64 (0))).set 4 (.int .i64 (0))).set 5 (.int .i64 (0))).set 6 (.int .i64 (0)))
      refine bodyPost_ret (v := res zero 0 11) (by simp [results, Try.results7, go_sem, zero, hE.cell 0 _ rfl, hE.cell 1 _ rfl, hE.cell 2 _ rfl, hE.cell 3 _ rfl, hE.cell 4 _ rfl, hE.cell 5 _ rfl, hE.cell 6 _ rfl]) rfl ⟨.inr ⟨HY.out, rfl⟩, ?_⟩
      repeat (with_reducible (first | exact gb_of_below hW | apply gb_drewN | apply gb_drew | apply gb_alloc | (refine gb_setNew ?_ (by simp <;> omega) _)))
    · have HY := Lib.hid (show right ⟨2, z1, z2, 0, z3, 0, 0⟩ from hb.1 rfl)
      clear hb
      go_upto_region 23 with (fail)
      go_wp2_with fail
      have hE := (((((((HB.set 0 (.int .i64 (2))).set 1 (.int .i64 (z1))).set 2 (.int .i64 (z2))).set 3 (.int .i64 (0))).set 4 (.int .i64 (z3))).set 5 (.int .i64 (0))).set 6 (.int .i64 (0)))
      refine bodyPost_ret (v := res ⟨2, z1, z2, 0, z3, 0, 0⟩ (p + 1 + 3) 0) (by simp [results, Try.results7, go_sem, zero, hE.cell 0 _ rfl, hE.cell 1 _ rfl, hE.cell 2 _ rfl, hE.cell 3 _ rfl, hE.cell 4 _ rfl, hE.cell 5 _ rfl, hE.cell 6 _ rfl]) rfl ⟨.inl ⟨HY.out, rfl⟩, ?_⟩
      repeat (with_reducible (first | exact gb_of_below hW | apply gb_drewN | apply gb_drew | apply gb_alloc | (refine gb_setNew ?_ (by simp <;> omega) _)))
set_option maxRecDepth 100000 in
set_option maxHeartbeats 2000000 in
theorem short3 (w : World) (B b off n cp p : Nat) (z : Nat → Int) (hn : n ≤ cp) (hcp : cp ≤ 9223372036854775807) (hp : p < n) (hz : ∀ i, i < n → 0 ≤ z i ∧ z i ≤ 255) (hbw : b < w.heap.size) (hc : ∀ i, i < n → w.cell? ⟨b, off + i, none⟩ = some (.int .u8 (z i))) (h : z p = 3) (hs : n < p + 1 + 2) :
    Calls Try.prog 7 #[.slice (some ⟨b, off, none⟩) n cp, .int .i64 p] w fun e w' => e = .returned (res zero 0 10) ∧ w.grownBy w' none := by
  have d1 : decide ((p : Int) < 0) = false := by simp
  have d2 : decide ((n : Int) < (p : Int)) = false := by simp; omega
  have d3 : ((p : Int) == (n : Int)) = false := by simp; omega
  have hb1 : b < w.heap.size + 1 := by omega
  have hb2 : b < w.heap.size + 1 + 1 := by omega
  have hb3 : b < w.heap.size + 1 + 1 + 1 := by omega
  have hb4 : b < w.heap.size + 1 + 1 + 1 + 1 := by omega
  have cp0 : w.cell? ⟨b, off + p, none⟩ = some (.int .u8 3) := by rw [hc p hp, h]
  have d4 : decide (n - (p + 1) < 2) = true := by simp; omega
  clear hc hz h
  go_enter Try.func7, Try.ntmps7
  go_wp2_with fail
  all_goals
    refine (bytes3 _ _ (by go_simp)).mono ?_
    rintro e w1 ⟨rfl, n1, rfl⟩
    go_wp2_with fail
    refine (goes_no _ _ 3 (by go_simp) (by omega) (by omega)).mono ?_
    rintro e w1 ⟨rfl, n2, rfl⟩
    go_upto_region 12 with (fail)
    refine forget_world (fun w' => Blk w' w.heap.size 24 zero.cells ∧ Below w.heap.size w w') ⟨?_, ?_⟩ ?_
    · first | exact ((((Blk.new w 24 zero.cells).alloc _).alloc _).drewN _) | exact ((((Blk.new w 24 zero.cells).alloc _)).drewN _)
    · exact (below_of_gb (by repeat (with_reducible (first | exact gb_refl _ _ | apply gb_drewN | apply gb_drew | apply gb_alloc | (refine gb_setNew ?_ (by simp <;> omega) _)))))
    rintro w' ⟨HB, hW⟩
    have r0 := HB.cell 0 _ rfl
    have r1 := HB.cell 1 _ rfl
    have r2 := HB.cell 2 _ rfl
    have r3 := HB.cell 3 _ rfl
    have r4 := HB.cell 4 _ rfl
    have r5 := HB.cell 5 _ rfl
    have r6 := HB.cell 6 _ rfl
    have fr0 := HB.free 0
    have fr1 := HB.free 1
    have fr2 := HB.free 2
    have fr3 := HB.free 3
    have fr4 := HB.free 4
    have fr5 := HB.free 5
    have fr6 := HB.free 6
    go_wp2_with fail
    have hE := (((((((HB.set 0 (.int .i64 (0))).set 1 (.int .i64 (0))).set 2 (.int .i64 (0))).set 3 (.int .i64 (0))).set 4 (.int .i64 (0))).set 5 (.int .i64 (0))).set 6 (.int .i64 (0)))
    refine bodyPost_ret (v := res zero 0 10) (by simp [results, Try.results7, go_sem, zero, hE.cell 0 _ rfl, hE.cell 1 _ rfl, hE.cell 2 _ rfl, hE.cell 3 _ rfl, hE.cell 4 _ rfl, hE.cell 5 _ rfl, hE.cell 6 _ rfl]) rfl ⟨rfl, ?_⟩
    repeat (with_reducible (first | exact gb_of_below hW | apply gb_drewN | apply gb_drew | apply gb_alloc | (refine gb_setNew ?_ (by simp <;> omega) _)))
set_option maxRecDepth 100000 in
set_option maxHeartbeats 4000000 in
theorem full3 (w : World) (B b off n cp p : Nat) (z : Nat → Int) (hn : n ≤ cp) (hcp : cp ≤ 9223372036854775807) (hp : p < n) (hz : ∀ i, i < n → 0 ≤ z i ∧ z i ≤ 255) (hbw : b < w.heap.size) (hc : ∀ i, i < n → w.cell? ⟨b, off + i, none⟩ = some (.int .u8 (z i))) (h : z p = 3) (hs : p + 1 + 2 ≤ n) :
    Calls Try.prog 7 #[.slice (some ⟨b, off, none⟩) n cp, .int .i64 p] w fun e w' => (right (dec z p) ∧ e = .returned (res (dec z p) (p + 1 + need (z p)) 0) ∨ ¬ right (dec z p) ∧ e = .returned (res zero 0 11)) ∧ w.grownBy w' none := by
  have d1 : decide ((p : Int) < 0) = false := by simp
  have d2 : decide ((n : Int) < (p : Int)) = false := by simp; omega
  have d3 : ((p : Int) == (n : Int)) = false := by simp; omega
  have hb1 : b < w.heap.size + 1 := by omega
  have hb2 : b < w.heap.size + 1 + 1 := by omega
  have hb3 : b < w.heap.size + 1 + 1 + 1 := by omega
  have hb4 : b < w.heap.size + 1 + 1 + 1 + 1 := by omega
  have cp0 : w.cell? ⟨b, off + p, none⟩ = some (.int .u8 3) := by rw [hc p hp, h]
  have d4 : decide (n - (p + 1) < 2) = false := by simp; omega
  have hd : dec z p = ⟨3, 0, z (p + 1), 0, z (p + 2), 0, 0⟩ := by simp [dec, h]
  have hnd : need (z p) = 2 := by simp [need, h]
  rw [hd, hnd]
  have cp1 : w.cell? ⟨b, off + (p + 1), none⟩ = some (.int .u8 (z (p + 1))) := by have := hc (p + 1) (by omega); exact this
  obtain ⟨u1, v1⟩ := hz (p + 1) (by omega)
  generalize z (p + 1) = z1 at *
  have cp2 : w.cell? ⟨b, off + (p + 1) + 1, none⟩ = some (.int .u8 (z (p + 2))) := by have := hc (p + 2) (by omega); rw [show off + (p + 1) + 1 = off + (p + 2) by omega]; exact this
  obtain ⟨u2, v2⟩ := hz (p + 2) (by omega)
  generalize z (p + 2) = z2 at *
  clear hc hz h hd hnd
  go_enter Try.func7, Try.ntmps7
  go_wp2_with fail
  all_goals
    refine (bytes3 _ _ (by go_simp)).mono ?_
    rintro e w1 ⟨rfl, n1, rfl⟩
    go_wp2_with fail
    refine (goes_no _ _ 3 (by go_simp) (by omega) (by omega)).mono ?_
    rintro e w1 ⟨rfl, n2, rfl⟩
    go_wp2_with fail
    refine (bytes3 _ _ (by go_simp)).mono ?_
    rintro e w1 ⟨rfl, n3, rfl⟩
    go_wp2_with fail
    refine wp_loop_rounds 3 ?_
    rw [rounds_succ]
    go_wp2_with fail
    rw [rounds_succ]
    go_wp2_with fail
    rw [rounds_succ]
    go_wp2_with fail
    refine (goes_no _ _ 3 (by go_simp) (by omega) (by omega)).mono ?_
    rintro e w1 ⟨rfl, n4, rfl⟩
    go_upto_region 21 with (fail)
    refine forget_world (fun w' => Blk w' (w.heap.size + 1) 24 (Cd.cells ⟨3, 0, z1, 0, z2, 0, 0⟩) ∧ Blk w' w.heap.size 24 zero.cells ∧ Below w.heap.size w w') ⟨?_, ?_, ?_⟩ ?_
    · have hN : Blk ((w.alloc (.cells #[.int .i64 0, .int .i64 0, .int .i64 0, .int .i64 0, .int .i64 0, .int .i64 0, .int .i64 0] 24)).alloc (.cells #[.int .i64 3, .int .i64 0, .int .i64 z1, .int .i64 0, .int .i64 z2, .int .i64 0, .int .i64 0] 24)) (w.heap.size + 1) 24 (Cd.cells ⟨3, 0, z1, 0, z2, 0, 0⟩) := by
        have := Blk.new (w.alloc (.cells #[.int .i64 0, .int .i64 0, .int .i64 0, .int .i64 0, .int .i64 0, .int .i64 0, .int .i64 0] 24)) 24 (Cd.cells ⟨3, 0, z1, 0, z2, 0, 0⟩)
        simpa only [World.size_alloc] using this
      repeat (with_reducible (first | exact hN | apply Blk.drewN | apply Blk.drew | apply Blk.alloc | apply Blk.set | (refine Blk.other ?_ (by simp) _)))
    · have hN : Blk (w.alloc (.cells #[.int .i64 0, .int .i64 0, .int .i64 0, .int .i64 0, .int .i64 0, .int .i64 0, .int .i64 0] 24)) w.heap.size 24 zero.cells := Blk.new w 24 zero.cells
      repeat (with_reducible (first | exact hN | apply Blk.drewN | apply Blk.drew | apply Blk.alloc | apply Blk.set | (refine Blk.other ?_ (by simp) _)))
    · exact (below_of_gb (by repeat (with_reducible (first | exact gb_refl _ _ | apply gb_drewN | apply gb_drew | apply gb_alloc | (refine gb_setNew ?_ (by simp <;> omega) _)))))
    rintro w' ⟨HC, HB, hW⟩
    have e0 := HC.cell 0 _ rfl
    have e1 := HC.cell 1 _ rfl
    have e2 := HC.cell 2 _ rfl
    have e3 := HC.cell 3 _ rfl
    have e4 := HC.cell 4 _ rfl
    have e5 := HC.cell 5 _ rfl
    have e6 := HC.cell 6 _ rfl
    have fe0 := HC.free 0
    have fe1 := HC.free 1
    have fe2 := HC.free 2
    have fe3 := HC.free 3
    have fe4 := HC.free 4
    have fe5 := HC.free 5
    have fe6 := HC.free 6
    have sW := hW.size
    go_wp2_with fail
    refine (right_any _ ⟨3, 0, z1, 0, z2, 0, 0⟩ (by simp <;> omega) (by simp <;> omega) (by simp <;> omega) (by simp <;> omega)).mono ?_
    rintro e w2 ⟨bb, rfl, hb, hg⟩
    replace HC := HC.kept hg (by simp)
    replace HB := HB.kept hg (by simp)
    replace hW := hW.trans (gb_below hg hW.size (by simp))
    clear hg e0 fe0 e1 fe1 e2 fe2 e3 fe3 e4 fe4 e5 fe5 e6 fe6
    have e0 := HC.cell 0 _ rfl
    have e1 := HC.cell 1 _ rfl
    have e2 := HC.cell 2 _ rfl
    have e3 := HC.cell 3 _ rfl
    have e4 := HC.cell 4 _ rfl
    have e5 := HC.cell 5 _ rfl
    have e6 := HC.cell 6 _ rfl
    have fe0 := HC.free 0
    have fe1 := HC.free 1
    have fe2 := HC.free 2
    have fe3 := HC.free 3
    have fe4 := HC.free 4
    have fe5 := HC.free 5
    have fe6 := HC.free 6
    have r0 := HB.cell 0 _ rfl
    have r1 := HB.cell 1 _ rfl
    have r2 := HB.cell 2 _ rfl
    have r3 := HB.cell 3 _ rfl
    have r4 := HB.cell 4 _ rfl
    have r5 := HB.cell 5 _ rfl
    have r6 := HB.cell 6 _ rfl
    have fr0 := HB.free 0
    have fr1 := HB.free 1
    have fr2 := HB.free 2
    have fr3 := HB.free 3
    have fr4 := HB.free 4
    have fr5 := HB.free 5
    have fr6 := HB.free 6
    cases bb
    · have HY := Lib.hid (show ¬ right ⟨3, 0, z1, 0, z2, 0, 0⟩ from fun h => by simpa using hb.2 h)
      clear hb
      go_wp2_with fail
      have hE := (((((((HB.set 0 (.int .i64 (0))).set 1 (.int .i64 (0))).set 2 (.int .i64 (0))).set 3 (.int .i64 (0))).set 4 (.int .i64 (0))).set 5 (.int .i64 (0))).set 6 (.int .i64 (0)))
      refine bodyPost_ret (v := res zero 0 11) (by simp [results, Try.results7, go_sem, zero, hE.cell 0 _ rfl, hE.cell 1 _ rfl, hE.cell 2 _ rfl, hE.cell 3 _ rfl, hE.cell 4 _ rfl, hE.cell 5 _ rfl, hE.cell 6 _ rfl]) rfl ⟨.inr ⟨HY.out, rfl⟩, ?_⟩
      repeat (with_reducible (first | exact gb_of_below hW | apply gb_drewN | apply gb_drew | apply gb_alloc | (refine gb_setNew ?_ (by simp <;> omega) _)))
    · have HY := Lib.hid (show right ⟨3, 0, z1, 0, z2, 0, 0⟩ from hb.1 rfl)
      clear hb
      go_upto_region 23 with (fail)
      go_wp2_with fail
      have hE := (((((((HB.set 0 (.int .i64 (3))).set 1 (.int .i64 (0))).set 2 (.int .i64 (z1))).set 3 (.int .i64 (0))).set 4 (.int .i64 (z2))).set 5 (.int .i64 (0))).set 6 (.int .i64 (0)))
      refine bodyPost_ret (v := res ⟨3, 0, z1, 0, z2, 0, 0⟩ (p + 1 + 2) 0) (by simp [results, Try.results7, go_sem, zero, hE.cell 0 _ rfl, hE.cell 1 _ rfl, hE.cell 2 _ rfl, hE.cell 3 _ rfl, hE.cell 4 _ rfl, hE.cell 5 _ rfl, hE.cell 6 _ rfl]) rfl ⟨.inl ⟨HY.out, rfl⟩, ?_⟩
      repeat (with_reducible (first | exact gb_of_below hW | apply gb_drewN | apply gb_drew | apply gb_alloc | (refine gb_setNew ?_ (by simp <;> omega) _)))
set_option maxRecDepth 100000 in
set_option maxHeartbeats 2000000 in
theorem short4 (w : World) (B b off n cp p : Nat) (z : Nat → Int) (hn : n ≤ cp) (hcp : cp ≤ 9223372036854775807) (hp : p < n) (hz : ∀ i, i < n → 0 ≤ z i ∧ z i ≤ 255) (hbw : b < w.heap.size) (hc : ∀ i, i < n → w.cell? ⟨b, off + i, none⟩ = some (.int .u8 (z i))) (h : z p = 4) (hs : n < p + 1 + 1) :
    Calls Try.prog 7 #[.slice (some ⟨b, off, none⟩) n cp, .int .i64 p] w fun e w' => e = .returned (res zero 0 10) ∧ w.grownBy w' none := by
  have d1 : decide ((p : Int) < 0) = false := by simp
  have d2 : decide ((n : Int) < (p : Int)) = false := by simp; omega
  have d3 : ((p : Int) == (n : Int)) = false := by simp; omega
  have hb1 : b < w.heap.size + 1 := by omega
  have hb2 : b < w.heap.size + 1 + 1 := by omega
  have hb3 : b < w.heap.size + 1 + 1 + 1 := by omega
  have hb4 : b < w.heap.size + 1 + 1 + 1 + 1 := by omega
  have cp0 : w.cell? ⟨b, off + p, none⟩ = some (.int .u8 4) := by rw [hc p hp, h]
  have d4 : decide (n - (p + 1) < 1) = true := by simp; omega
  clear hc hz h
  go_enter Try.func7, Try.ntmps7
  go_wp2_with fail
  all_goals
    refine (bytes4 _ _ (by go_simp)).mono ?_
    rintro e w1 ⟨rfl, n1, rfl⟩
    go_wp2_with fail
    refine (goes_no _ _ 4 (by go_simp) (by omega) (by omega)).mono ?_
    rintro e w1 ⟨rfl, n2, rfl⟩
    go_upto_region 12 with (fail)
    refine forget_world (fun w' => Blk w' w.heap.size 24 zero.cells ∧ Below w.heap.size w w') ⟨?_, ?_⟩ ?_
    · first | exact ((((Blk.new w 24 zero.cells).alloc _).alloc _).drewN _) | exact ((((Blk.new w 24 zero.cells).alloc _)).drewN _)
    · exact (below_of_gb (by repeat (with_reducible (first | exact gb_refl _ _ | apply gb_drewN | apply gb_drew | apply gb_alloc | (refine gb_setNew ?_ (by simp <;> omega) _)))))
    rintro w' ⟨HB, hW⟩
    have r0 := HB.cell 0 _ rfl
    have r1 := HB.cell 1 _ rfl
    have r2 := HB.cell 2 _ rfl
    have r3 := HB.cell 3 _ rfl
    have r4 := HB.cell 4 _ rfl
    have r5 := HB.cell 5 _ rfl
    have r6 := HB.cell 6 _ rfl
    have fr0 := HB.free 0
    have fr1 := HB.free 1
    have fr2 := HB.free 2
    have fr3 := HB.free 3
    have fr4 := HB.free 4
    have fr5 := HB.free 5
    have fr6 := HB.free 6
    go_wp2_with fail
    have hE := (((((((HB.set 0 (.int .i64 (0))).set 1 (.int .i64 (0))).set 2 (.int .i64 (0))).set 3 (.int .i64 (0))).set 4 (.int .i64 (0))).set 5 (.int .i64 (0))).set 6 (.int .i64 (0)))
    refine bodyPost_ret (v := res zero 0 10) (by simp [results, Try.results7, go_sem, zero, hE.cell 0 _ rfl, hE.cell 1 _ rfl, hE.cell 2 _ rfl, hE.cell 3 _ rfl, hE.cell 4 _ rfl, hE.cell 5 _ rfl, hE.cell 6 _ rfl]) rfl ⟨rfl, ?_⟩
    repeat (with_reducible (first | exact gb_of_below hW | apply gb_drewN | apply gb_drew | apply gb_alloc | (refine gb_setNew ?_ (by simp <;> omega) _)))
set_option maxRecDepth 100000 in
set_option maxHeartbeats 4000000 in
theorem full4 (w : World) (B b off n cp p : Nat) (z : Nat → Int) (hn : n ≤ cp) (hcp : cp ≤ 9223372036854775807) (hp : p < n) (hz : ∀ i, i < n → 0 ≤ z i ∧ z i ≤ 255) (hbw : b < w.heap.size) (hc : ∀ i, i < n → w.cell? ⟨b, off + i, none⟩ = some (.int .u8 (z i))) (h : z p = 4) (hs : p + 1 + 1 ≤ n) :
    Calls Try.prog 7 #[.slice (some ⟨b, off, none⟩) n cp, .int .i64 p] w fun e w' => (right (dec z p) ∧ e = .returned (res (dec z p) (p + 1 + need (z p)) 0) ∨ ¬ right (dec z p) ∧ e = .returned (res zero 0 11)) ∧ w.grownBy w' none := by
  have d1 : decide ((p : Int) < 0) = false := by simp
  have d2 : decide ((n : Int) < (p : Int)) = false := by simp; omega
  have d3 : ((p : Int) == (n : Int)) = false := by simp; omega
  have hb1 : b < w.heap.size + 1 := by omega
  have hb2 : b < w.heap.size + 1 + 1 := by omega
  have hb3 : b < w.heap.size + 1 + 1 + 1 := by omega
  have hb4 : b < w.heap.size + 1 + 1 + 1 + 1 := by omega
  have cp0 : w.cell? ⟨b, off + p, none⟩ = some (.int .u8 4) := by rw [hc p hp, h]
  have d4 : decide (n - (p + 1) < 1) = false := by simp; omega
  have hd : dec z p = ⟨4, 0, 0, 0, 0, z (p + 1), 0⟩ := by simp [dec, h]
  have hnd : need (z p) = 1 := by simp [need, h]
  rw [hd, hnd]
  have cp1 : w.cell? ⟨b, off + (p + 1), none⟩ = some (.int .u8 (z (p + 1))) := by have := hc (p + 1) (by omega); exact this
  obtain ⟨u1, v1⟩ := hz (p + 1) (by omega)
  generalize z (p + 1) = z1 at *
  clear hc hz h hd hnd
  go_enter Try.func7, Try.ntmps7
  go_wp2_with fail
  all_goals
    refine (bytes4 _ _ (by go_simp)).mono ?_
    rintro e w1 ⟨rfl, n1, rfl⟩
    go_wp2_with fail
    refine (goes_no _ _ 4 (by go_simp) (by omega) (by omega)).mono ?_
    rintro e w1 ⟨rfl, n2, rfl⟩
    go_wp2_with fail
    refine (bytes4 _ _ (by go_simp)).mono ?_
    rintro e w1 ⟨rfl, n3, rfl⟩
    go_wp2_with fail
    refine wp_loop_rounds 2 ?_
    rw [rounds_succ]
    go_wp2_with fail
    rw [rounds_succ]
    go_wp2_with fail
    refine (goes_no _ _ 4 (by go_simp) (by omega) (by omega)).mono ?_
    rintro e w1 ⟨rfl, n4, rfl⟩
    go_upto_region 21 with (fail)
    refine forget_world (fun w' => Blk w' (w.heap.size + 1) 24 (Cd.cells ⟨4, 0, 0, 0, 0, z1, 0⟩) ∧ Blk w' w.heap.size 24 zero.cells ∧ Below w.heap.size w w') ⟨?_, ?_, ?_⟩ ?_
    · have hN : Blk ((w.alloc (.cells #[.int .i64 0, .int .i64 0, .int .i64 0, .int .i64 0, .int .i64 0, .int .i64 0, .int .i64 0] 24)).alloc (.cells #[.int .i64 4, .int .i64 0, .int .i64 0, .int .i64 0, .int .i64 0, .int .i64 z1, .int .i64 0] 24)) (w.heap.size + 1) 24 (Cd.cells ⟨4, 0, 0, 0, 0, z1, 0⟩) := by
        have := Blk.new (w.alloc (.cells #[.int .i64 0, .int .i64 0, .int .i64 0, .int .i64 0, .int .i64 0, .int .i64 0, .int .i64 0] 24)) 24 (Cd.cells ⟨4, 0, 0, 0, 0, z1, 0⟩)
        simpa only [World.size_alloc] using this
      repeat (with_reducible (first | exact hN | apply Blk.drewN | apply Blk.drew | apply Blk.alloc | apply Blk.set | (refine Blk.other ?_ (by simp) _)))
    · have hN : Blk (w.alloc (.cells #[.int .i64 0, .int .i64 0, .int .i64 0, .int .i64 0, .int .i64 0, .int .i64 0, .int .i64 0] 24)) w.heap.size 24 zero.cells := Blk.new w 24 zero.cells
      repeat (with_reducible (first | exact hN | apply Blk.drewN | apply Blk.drew | apply Blk.alloc | apply Blk.set | (refine Blk.other ?_ (by simp) _)))
    · exact (below_of_gb (by repeat (with_reducible (first | exact gb_refl _ _ | apply gb_drewN | apply gb_drew | apply gb_alloc | (refine gb_setNew ?_ (by simp <;> omega) _)))))
    rintro w' ⟨HC, HB, hW⟩
    have e0 := HC.cell 0 _ rfl
    have e1 := HC.cell 1 _ rfl
    have e2 := HC.cell 2 _ rfl
    have e3 := HC.cell 3 _ rfl
    have e4 := HC.cell 4 _ rfl
    have e5 := HC.cell 5 _ rfl
    have e6 := HC.cell 6 _ rfl
    have fe0 := HC.free 0
    have fe1 := HC.free 1
    have fe2 := HC.free 2
    have fe3 := HC.free 3
    have fe4 := HC.free 4
    have fe5 := HC.free 5
    have fe6 := HC.free 6
    have sW := hW.size
    go_wp2_with fail
    refine (right_any _ ⟨4, 0, 0, 0, 0, z1, 0⟩ (by simp <;> omega) (by simp <;> omega) (by simp <;> omega) (by simp <;> omega)).mono ?_
    rintro e w2 ⟨bb, rfl, hb, hg⟩
    replace HC := HC.kept hg (by simp)
    replace HB := HB.kept hg (by simp)
    replace hW := hW.trans (gb_below hg hW.size (by simp))
    clear hg e0 fe0 e1 fe1 e2 fe2 e3 fe3 e4 fe4 e5 fe5 e6 fe6
    have e0 := HC.cell 0 _ rfl
    have e1 := HC.cell 1 _ rfl
    have e2 := HC.cell 2 _ rfl
    have e3 := HC.cell 3 _ rfl
    have e4 := HC.cell 4 _ rfl
    have e5 := HC.cell 5 _ rfl
    have e6 := HC.cell 6 _ rfl
    have fe0 := HC.free 0
    have fe1 := HC.free 1
    have fe2 := HC.free 2
    have fe3 := HC.free 3
    have fe4 := HC.free 4
    have fe5 := HC.free 5
    have fe6 := HC.free 6
    have r0 := HB.cell 0 _ rfl
    have r1 := HB.cell 1 _ rfl
    have r2 := HB.cell 2 _ rfl
    have r3 := HB.cell 3 _ rfl
    have r4 := HB.cell 4 _ rfl
    have r5 := HB.cell 5 _ rfl
    have r6 := HB.cell 6 _ rfl
    have fr0 := HB.free 0
    have fr1 := HB.free 1
    have fr2 := HB.free 2
    have fr3 := HB.free 3
    have fr4 := HB.free 4
    have fr5 := HB.free 5
    have fr6 := HB.free 6
    cases bb
    · have HY := Lib.hid (show ¬ right ⟨4, 0, 0, 0, 0, z1, 0⟩ from fun h => by simpa using hb.2 h)
      clear hb
      go_wp2_with fail
      have hE := (((((((HB.set 0 (.int .i64 (0))).set 1 (.int .i64 (0))).set 2 (.int .i64 (0))).set 3 (.int .i64 (0))).set 4 (.int .i64 (0))).set 5 (.int .i64 (0))).set 6 (.int .i64 (0)))
      refine bodyPost_ret (v := res zero 0 11) (by simp [results, Try.results7, go_sem, zero, hE.cell 0 _ rfl, hE.cell 1 _ rfl, hE.cell 2 _ rfl, hE.cell 3 _ rfl, hE.cell 4 _ rfl, hE.cell 5 _ rfl, hE.cell 6 _ rfl]) rfl ⟨.inr ⟨HY.out, rfl⟩, ?_⟩
      repeat (with_reducible (first | exact gb_of_below hW | apply gb_drewN | apply gb_drew | apply gb_alloc | (refine gb_setNew ?_ (by simp <;> omega) _)))
    · have HY := Lib.hid (show right ⟨4, 0, 0, 0, 0, z1, 0⟩ from hb.1 rfl)
      clear hb
      go_upto_region 23 with (fail)
      go_wp2_with fail
      have hE := (((((((HB.set 0 (.int .i64 (4))).set 1 (.int .i64 (0))).set 2 (.int .i64 (0))).set 3 (.int .i64 (0))).set 4 (.int .i64 (0))).set 5 (.int .i64 (z1))).set 6 (.int .i64 (0)))
      refine bodyPost_ret (v := res ⟨4, 0, 0, 0, 0, z1, 0⟩ (p + 1 + 1) 0) (by simp [results, Try.results7, go_sem, zero, hE.cell 0 _ rfl, hE.cell 1 _ rfl, hE.cell 2 _ rfl, hE.cell 3 _ rfl, hE.cell 4 _ rfl, hE.cell 5 _ rfl, hE.cell 6 _ rfl]) rfl ⟨.inl ⟨HY.out, rfl⟩, ?_⟩
      repeat (with_reducible (first | exact gb_of_below hW | apply gb_drewN | apply gb_drew | apply gb_alloc | (refine gb_setNew ?_ (by simp <;> omega) _)))
end Cm
end Go.Proofs.Ytbhfbdldehahoaa
