/- Commands: Put, the code's. -/
import Derived.Test.YtbhfbdldehahoaaCmdC
import Derived.Test.YtbhfbdldehahoaaRow
namespace Go.Proofs.Ytbhfbdldehahoaa
open Go.RowKit
set_option linter.unusedVariables false
namespace Cm
theorem gb_of_below {w w' : World} (h : Below w.heap.size w w') : w.grownBy w' none := ⟨h.os, h.tape, h.output, h.size, fun k hk _ => h.block k hk⟩
theorem below_of_gb {w w' : World} (h : w.grownBy w' none) : Below w.heap.size w w' := gb_below h (Nat.le_refl _) (by simp)
theorem u8_info : (Try.prog.info? 5).map (fun i => (i.zero, i.size, i.bytes)) = some (some (.int .u8 0), 1, 1) := by kernel_rfl
/-- A command's bytes. -/
def put (c : Cd) : List Int := if c.op = 1 then [1, c.addr, c.words, c.cand, c.many] else if c.op = 2 then [2, c.addr, c.words, c.many] else if c.op = 3 then [3, c.words, c.many] else if c.op = 4 then [4, c.bits]
  else if c.op = 6 ∨ c.op = 8 then [c.op, c.at_ / 256, c.at_ % 256] else [c.op]
/-- What Put tells of one that is right. -/
def PutPost (l : List Int) (w : World) (e : Ending) (w' : World) : Prop := ∃ A cp, e = .returned (.tuple #[.slice A l.length cp, .int .i64 0]) ∧ w'.ownsRow w.heap.size 5 1 (.slice A l.length cp) l.length (nums .u8 l) ∧ w.grownBy w' none
theorem own_first (w : World) (x : Int) (base : Nat) (hb : base ≤ w.heap.size) : (w.alloc (.cells #[.int .u8 x] 5)).ownsRow base 5 1 (.slice (some ⟨w.heap.size, 0, none⟩) 1 1) 1 (nums .u8 [x]) :=
  ⟨rfl, .inr ⟨w.heap.size, 1, #[.int .u8 x], rfl, hb, heap_alloc_new w _, Nat.le_refl _, by unfold maxLen; omega, rfl, rfl⟩⟩
theorem own_drewN {w : World} {base : Nat} {e : TypeId} {size : Nat} {v : Value} {n : Nat} {xs : List Value} (h : w.ownsRow base e size v n xs) (k : Nat) : (w.drewN k).ownsRow base e size v n xs := h
theorem own_ne {w : World} {base g : Nat} {e t : TypeId} {size : Nat} {v : Value} {n : Nat} {xs l : List Value} (h : w.ownsRow base e size v n xs) (hB : Blk w g t l) (hne : e ≠ t) : some g ≠ v.ownBlock := by
  rcases h.2 with ⟨rfl, _⟩ | ⟨g', cap, cur, rfl, _, hh, _⟩
  · simp [Value.ownBlock]
  · intro he
    have : g = g' := by simpa [Value.ownBlock] using he
    subst this
    unfold Blk at hB
    rw [hh] at hB
    injection hB with hB
    injection hB with _ ht
    exact hne ht
theorem own_lower {w : World} {base base' : Nat} {e : TypeId} {size : Nat} {v : Value} {n : Nat} {xs : List Value} (h : w.ownsRow base e size v n xs) (hb : base' ≤ base) : w.ownsRow base' e size v n xs := by
  refine ⟨h.1, ?_⟩
  rcases h.2 with h2 | ⟨g, cap, cur, hv, hg, r⟩
  · exact .inl h2
  · exact .inr ⟨g, cap, cur, hv, by omega, r⟩
/-- What holds while the bytes are put: the bytes so far, the command, the pointers. -/
structure Out (w0 wr : World) (v : Value) (l : List Int) (cs : List Value) (pb : Nat) (ps : List Value) : Prop where
  own : wr.ownsRow (w0.heap.size + 1) 5 1 v l.length (nums .u8 l)
  cmd : Blk wr w0.heap.size 24 cs
  ptr : Blk wr pb 46 ps
  bel : Below w0.heap.size w0 wr
theorem Out.step {w0 wr w2 : World} {v v' : Value} {l : List Int} {x : Int} {cs : List Value} {pb : Nat} {ps : List Value} (h : Out w0 wr v l cs pb ps)
    (hown : w2.ownsRow (w0.heap.size + 1) 5 1 v' (l.length + 1) (nums .u8 l ++ [.int .u8 x])) (hg : (wr.alloc (.cells #[.int .u8 x] 5)).grownBy w2 v.ownBlock) : Out w0 w2 v' (l ++ [x]) cs pb ps := by
  refine ⟨?_, (h.cmd.alloc _).kept hg (own_ne h.own h.cmd (by decide)), (h.ptr.alloc _).kept hg (own_ne h.own h.ptr (by decide)), ?_⟩
  · rw [nums_app, List.length_append]
    exact hown
  · refine (h.bel.alloc h.bel.size _).grown hg (by have := h.bel.size; simp; omega) (fun k hk => ?_)
    have := own_block_ge h.own k hk
    omega
set_option maxRecDepth 100000 in
set_option maxHeartbeats 2000000 in
theorem put1 (w : World) (addr words cand many bits at_ : Int) (hr : right ⟨1, addr, words, cand, many, bits, at_⟩) (g1 : 1 ≤ words) (g2 : words ≤ 8) (g3 : 1 ≤ many) (g4 : many ≤ 4) (g5 : 0 ≤ addr) (g6 : addr ≤ 64 - words) (g7 : 0 ≤ cand) (g8 : cand ≤ many - 1) (r0 : -9223372036854775808 ≤ words) (r1 : words ≤ 9223372036854775807) (r2 : -9223372036854775808 ≤ many) (r3 : many ≤ 9223372036854775807) :
    Calls Try.prog 11 #[Cd.v ⟨1, addr, words, cand, many, bits, at_⟩] w (PutPost [1, addr, words, cand, many] w) := by
  obtain ⟨i0, hi, hz0, hz1, hz2⟩ := info_parts u8_info
  have HRR := Lib.hid hr
  clear hr
  go_enter Try.func11, Try.ntmps11
  go_wp2_with fail
  refine (right_any _ ⟨1, addr, words, cand, many, bits, at_⟩ r0 r1 r2 r3).mono ?_
  rintro e w1 ⟨b, rfl, hb, hg⟩
  obtain rfl : b = true := hb.2 HRR.out
  have hB := (Blk.new w 24 (Cd.cells ⟨1, addr, words, cand, many, bits, at_⟩)).kept hg (by simp)
  have hW := below_of_gb (gb_trans (gb_alloc (gb_refl w none) _) hg)
  clear hb hg
  have hs := hW.size
  have hlt := hB.lt
  have c0 := hB.cell 0 _ rfl
  have c1 := hB.cell 1 _ rfl
  have c2 := hB.cell 2 _ rfl
  have c3 := hB.cell 3 _ rfl
  have c4 := hB.cell 4 _ rfl
  have HB := Lib.hid hB
  clear hB
  go_wp2_with fail
  refine (bytes1 _ _ (by go_simp)).mono ?_
  rintro e w2 ⟨rfl, n1, rfl⟩
  go_wp2_with fail
  refine forget_world (fun w' => Out w w' (.slice (some ⟨w1.heap.size, 0, none⟩) 1 1) [1] (Cd.cells ⟨1, addr, words, cand, many, bits, at_⟩) (w1.heap.size + 1) [pt w.heap.size 1, pt w.heap.size 2, pt w.heap.size 3, pt w.heap.size 4]) ⟨?_, ?_, ?_, ?_⟩ ?_
  · exact own_drewN ((own_first w1 1 (w.heap.size + 1) (by omega)).alloc _) _
  · exact ((HB.out.alloc _).alloc _).drewN _
  · have := Blk.new (w1.alloc (.cells #[.int .u8 1] 5)) 46 [pt w.heap.size 1, pt w.heap.size 2, pt w.heap.size 3, pt w.heap.size 4]
    simp only [World.size_alloc] at this
    exact this.drewN _
  · exact ((hW.alloc hs _).alloc (by simp; omega) _).trans (((Same.refl _).drewN _).below _)
  rintro wa h0
  clear c0 c1 c2 c3 c4 HB hW hlt
  refine wp_loop_rounds 5 ?_
  rw [rounds_succ]
  have c1 := h0.cmd.cell 1 _ rfl
  have q0 := h0.ptr.cell 0 _ rfl
  have s0 := h0.bel.size
  have l0 := h0.cmd.lt
  go_wp2_with (first | (at_builtin; refine wpList_append_own _ rfl _ _ 22 rfl (w.heap.size + 1) 5 i0 (.int .u8 0) 1 1 Try.underlying22 hi hz0 hz1 hz2 rfl (by decide) _ _ _ rfl (h0.own.alloc _) ⟨_, 0, none⟩ 1 1 [.int .u8 (addr)] rfl rfl (cell_one_new _ _ _) (by intro u hu; simp at hu; subst hu; rfl) (by unfold maxLen; simp) (by simp) (by simp; omega) ?_) | fail)
  intro v0 wb0 hown hgrow _
  have h1 := h0.step hown hgrow
  clear hown hgrow c1 q0 s0 l0 h0
  go_wp2_with fail
  rw [rounds_succ]
  have c2 := h1.cmd.cell 2 _ rfl
  have q1 := h1.ptr.cell 1 _ rfl
  have s1 := h1.bel.size
  have l1 := h1.cmd.lt
  go_wp2_with (first | (at_builtin; refine wpList_append_own _ rfl _ _ 22 rfl (w.heap.size + 1) 5 i0 (.int .u8 0) 1 1 Try.underlying22 hi hz0 hz1 hz2 rfl (by decide) _ _ _ rfl (h1.own.alloc _) ⟨_, 0, none⟩ 1 1 [.int .u8 (words)] rfl rfl (cell_one_new _ _ _) (by intro u hu; simp at hu; subst hu; rfl) (by unfold maxLen; simp) (by simp) (by simp; omega) ?_) | fail)
  intro v1 wb1 hown hgrow _
  have h2 := h1.step hown hgrow
  clear hown hgrow c2 q1 s1 l1 h1
  go_wp2_with fail
  rw [rounds_succ]
  have c3 := h2.cmd.cell 3 _ rfl
  have q2 := h2.ptr.cell 2 _ rfl
  have s2 := h2.bel.size
  have l2 := h2.cmd.lt
  go_wp2_with (first | (at_builtin; refine wpList_append_own _ rfl _ _ 22 rfl (w.heap.size + 1) 5 i0 (.int .u8 0) 1 1 Try.underlying22 hi hz0 hz1 hz2 rfl (by decide) _ _ _ rfl (h2.own.alloc _) ⟨_, 0, none⟩ 1 1 [.int .u8 (cand)] rfl rfl (cell_one_new _ _ _) (by intro u hu; simp at hu; subst hu; rfl) (by unfold maxLen; simp) (by simp) (by simp; omega) ?_) | fail)
  intro v2 wb2 hown hgrow _
  have h3 := h2.step hown hgrow
  clear hown hgrow c3 q2 s2 l2 h2
  go_wp2_with fail
  rw [rounds_succ]
  have c4 := h3.cmd.cell 4 _ rfl
  have q3 := h3.ptr.cell 3 _ rfl
  have s3 := h3.bel.size
  have l3 := h3.cmd.lt
  go_wp2_with (first | (at_builtin; refine wpList_append_own _ rfl _ _ 22 rfl (w.heap.size + 1) 5 i0 (.int .u8 0) 1 1 Try.underlying22 hi hz0 hz1 hz2 rfl (by decide) _ _ _ rfl (h3.own.alloc _) ⟨_, 0, none⟩ 1 1 [.int .u8 (many)] rfl rfl (cell_one_new _ _ _) (by intro u hu; simp at hu; subst hu; rfl) (by unfold maxLen; simp) (by simp) (by simp; omega) ?_) | fail)
  intro v3 wb3 hown hgrow _
  have h4 := h3.step hown hgrow
  clear hown hgrow c4 q3 s3 l3 h3
  go_wp2_with fail
  rw [rounds_succ]
  have c0 := h4.cmd.cell 0 _ rfl
  go_wp2_with fail
  refine (goes_no _ _ 1 (by go_simp) (by omega) (by omega)).mono ?_
  rintro e wz ⟨rfl, n3, rfl⟩
  obtain ⟨A, cp, rfl, _⟩ := own_rd h4.own
  go_wp2_with fail
  go_ret2
  exact ⟨A, cp, rfl, own_lower (own_drewN h4.own _) (by omega), gb_drewN (gb_of_below h4.bel) _⟩
set_option maxRecDepth 100000 in
set_option maxHeartbeats 2000000 in
theorem put2 (w : World) (addr words cand many bits at_ : Int) (hr : right ⟨2, addr, words, cand, many, bits, at_⟩) (g1 : 1 ≤ words) (g2 : words ≤ 8) (g3 : 1 ≤ many) (g4 : many ≤ 4) (g5 : 0 ≤ addr) (g6 : addr ≤ 64 - words) (r0 : -9223372036854775808 ≤ words) (r1 : words ≤ 9223372036854775807) (r2 : -9223372036854775808 ≤ many) (r3 : many ≤ 9223372036854775807) :
    Calls Try.prog 11 #[Cd.v ⟨2, addr, words, cand, many, bits, at_⟩] w (PutPost [2, addr, words, many] w) := by
  obtain ⟨i0, hi, hz0, hz1, hz2⟩ := info_parts u8_info
  have HRR := Lib.hid hr
  clear hr
  go_enter Try.func11, Try.ntmps11
  go_wp2_with fail
  refine (right_any _ ⟨2, addr, words, cand, many, bits, at_⟩ r0 r1 r2 r3).mono ?_
  rintro e w1 ⟨b, rfl, hb, hg⟩
  obtain rfl : b = true := hb.2 HRR.out
  have hB := (Blk.new w 24 (Cd.cells ⟨2, addr, words, cand, many, bits, at_⟩)).kept hg (by simp)
  have hW := below_of_gb (gb_trans (gb_alloc (gb_refl w none) _) hg)
  clear hb hg
  have hs := hW.size
  have hlt := hB.lt
  have c0 := hB.cell 0 _ rfl
  have c1 := hB.cell 1 _ rfl
  have c2 := hB.cell 2 _ rfl
  have c4 := hB.cell 4 _ rfl
  have HB := Lib.hid hB
  clear hB
  go_wp2_with fail
  refine (bytes2 _ _ (by go_simp)).mono ?_
  rintro e w2 ⟨rfl, n1, rfl⟩
  go_wp2_with fail
  refine forget_world (fun w' => Out w w' (.slice (some ⟨w1.heap.size, 0, none⟩) 1 1) [2] (Cd.cells ⟨2, addr, words, cand, many, bits, at_⟩) (w1.heap.size + 1) [pt w.heap.size 1, pt w.heap.size 2, pt w.heap.size 4]) ⟨?_, ?_, ?_, ?_⟩ ?_
  · exact own_drewN ((own_first w1 2 (w.heap.size + 1) (by omega)).alloc _) _
  · exact ((HB.out.alloc _).alloc _).drewN _
  · have := Blk.new (w1.alloc (.cells #[.int .u8 2] 5)) 46 [pt w.heap.size 1, pt w.heap.size 2, pt w.heap.size 4]
    simp only [World.size_alloc] at this
    exact this.drewN _
  · exact ((hW.alloc hs _).alloc (by simp; omega) _).trans (((Same.refl _).drewN _).below _)
  rintro wa h0
  clear c0 c1 c2 c4 HB hW hlt
  refine wp_loop_rounds 4 ?_
  rw [rounds_succ]
  have c1 := h0.cmd.cell 1 _ rfl
  have q0 := h0.ptr.cell 0 _ rfl
  have s0 := h0.bel.size
  have l0 := h0.cmd.lt
  go_wp2_with (first | (at_builtin; refine wpList_append_own _ rfl _ _ 22 rfl (w.heap.size + 1) 5 i0 (.int .u8 0) 1 1 Try.underlying22 hi hz0 hz1 hz2 rfl (by decide) _ _ _ rfl (h0.own.alloc _) ⟨_, 0, none⟩ 1 1 [.int .u8 (addr)] rfl rfl (cell_one_new _ _ _) (by intro u hu; simp at hu; subst hu; rfl) (by unfold maxLen; simp) (by simp) (by simp; omega) ?_) | fail)
  intro v0 wb0 hown hgrow _
  have h1 := h0.step hown hgrow
  clear hown hgrow c1 q0 s0 l0 h0
  go_wp2_with fail
  rw [rounds_succ]
  have c2 := h1.cmd.cell 2 _ rfl
  have q1 := h1.ptr.cell 1 _ rfl
  have s1 := h1.bel.size
  have l1 := h1.cmd.lt
  go_wp2_with (first | (at_builtin; refine wpList_append_own _ rfl _ _ 22 rfl (w.heap.size + 1) 5 i0 (.int .u8 0) 1 1 Try.underlying22 hi hz0 hz1 hz2 rfl (by decide) _ _ _ rfl (h1.own.alloc _) ⟨_, 0, none⟩ 1 1 [.int .u8 (words)] rfl rfl (cell_one_new _ _ _) (by intro u hu; simp at hu; subst hu; rfl) (by unfold maxLen; simp) (by simp) (by simp; omega) ?_) | fail)
  intro v1 wb1 hown hgrow _
  have h2 := h1.step hown hgrow
  clear hown hgrow c2 q1 s1 l1 h1
  go_wp2_with fail
  rw [rounds_succ]
  have c4 := h2.cmd.cell 4 _ rfl
  have q2 := h2.ptr.cell 2 _ rfl
  have s2 := h2.bel.size
  have l2 := h2.cmd.lt
  go_wp2_with (first | (at_builtin; refine wpList_append_own _ rfl _ _ 22 rfl (w.heap.size + 1) 5 i0 (.int .u8 0) 1 1 Try.underlying22 hi hz0 hz1 hz2 rfl (by decide) _ _ _ rfl (h2.own.alloc _) ⟨_, 0, none⟩ 1 1 [.int .u8 (many)] rfl rfl (cell_one_new _ _ _) (by intro u hu; simp at hu; subst hu; rfl) (by unfold maxLen; simp) (by simp) (by simp; omega) ?_) | fail)
  intro v2 wb2 hown hgrow _
  have h3 := h2.step hown hgrow
  clear hown hgrow c4 q2 s2 l2 h2
  go_wp2_with fail
  rw [rounds_succ]
  have c0 := h3.cmd.cell 0 _ rfl
  go_wp2_with fail
  refine (goes_no _ _ 2 (by go_simp) (by omega) (by omega)).mono ?_
  rintro e wz ⟨rfl, n3, rfl⟩
  obtain ⟨A, cp, rfl, _⟩ := own_rd h3.own
  go_wp2_with fail
  go_ret2
  exact ⟨A, cp, rfl, own_lower (own_drewN h3.own _) (by omega), gb_drewN (gb_of_below h3.bel) _⟩
set_option maxRecDepth 100000 in
set_option maxHeartbeats 2000000 in
theorem put3 (w : World) (addr words cand many bits at_ : Int) (hr : right ⟨3, addr, words, cand, many, bits, at_⟩) (g1 : 1 ≤ words) (g2 : words ≤ 8) (g3 : 1 ≤ many) (g4 : many ≤ 4) (r0 : -9223372036854775808 ≤ words) (r1 : words ≤ 9223372036854775807) (r2 : -9223372036854775808 ≤ many) (r3 : many ≤ 9223372036854775807) :
    Calls Try.prog 11 #[Cd.v ⟨3, addr, words, cand, many, bits, at_⟩] w (PutPost [3, words, many] w) := by
  obtain ⟨i0, hi, hz0, hz1, hz2⟩ := info_parts u8_info
  have HRR := Lib.hid hr
  clear hr
  go_enter Try.func11, Try.ntmps11
  go_wp2_with fail
  refine (right_any _ ⟨3, addr, words, cand, many, bits, at_⟩ r0 r1 r2 r3).mono ?_
  rintro e w1 ⟨b, rfl, hb, hg⟩
  obtain rfl : b = true := hb.2 HRR.out
  have hB := (Blk.new w 24 (Cd.cells ⟨3, addr, words, cand, many, bits, at_⟩)).kept hg (by simp)
  have hW := below_of_gb (gb_trans (gb_alloc (gb_refl w none) _) hg)
  clear hb hg
  have hs := hW.size
  have hlt := hB.lt
  have c0 := hB.cell 0 _ rfl
  have c2 := hB.cell 2 _ rfl
  have c4 := hB.cell 4 _ rfl
  have HB := Lib.hid hB
  clear hB
  go_wp2_with fail
  refine (bytes3 _ _ (by go_simp)).mono ?_
  rintro e w2 ⟨rfl, n1, rfl⟩
  go_wp2_with fail
  refine forget_world (fun w' => Out w w' (.slice (some ⟨w1.heap.size, 0, none⟩) 1 1) [3] (Cd.cells ⟨3, addr, words, cand, many, bits, at_⟩) (w1.heap.size + 1) [pt w.heap.size 2, pt w.heap.size 4]) ⟨?_, ?_, ?_, ?_⟩ ?_
  · exact own_drewN ((own_first w1 3 (w.heap.size + 1) (by omega)).alloc _) _
  · exact ((HB.out.alloc _).alloc _).drewN _
  · have := Blk.new (w1.alloc (.cells #[.int .u8 3] 5)) 46 [pt w.heap.size 2, pt w.heap.size 4]
    simp only [World.size_alloc] at this
    exact this.drewN _
  · exact ((hW.alloc hs _).alloc (by simp; omega) _).trans (((Same.refl _).drewN _).below _)
  rintro wa h0
  clear c0 c2 c4 HB hW hlt
  refine wp_loop_rounds 3 ?_
  rw [rounds_succ]
  have c2 := h0.cmd.cell 2 _ rfl
  have q0 := h0.ptr.cell 0 _ rfl
  have s0 := h0.bel.size
  have l0 := h0.cmd.lt
  go_wp2_with (first | (at_builtin; refine wpList_append_own _ rfl _ _ 22 rfl (w.heap.size + 1) 5 i0 (.int .u8 0) 1 1 Try.underlying22 hi hz0 hz1 hz2 rfl (by decide) _ _ _ rfl (h0.own.alloc _) ⟨_, 0, none⟩ 1 1 [.int .u8 (words)] rfl rfl (cell_one_new _ _ _) (by intro u hu; simp at hu; subst hu; rfl) (by unfold maxLen; simp) (by simp) (by simp; omega) ?_) | fail)
  intro v0 wb0 hown hgrow _
  have h1 := h0.step hown hgrow
  clear hown hgrow c2 q0 s0 l0 h0
  go_wp2_with fail
  rw [rounds_succ]
  have c4 := h1.cmd.cell 4 _ rfl
  have q1 := h1.ptr.cell 1 _ rfl
  have s1 := h1.bel.size
  have l1 := h1.cmd.lt
  go_wp2_with (first | (at_builtin; refine wpList_append_own _ rfl _ _ 22 rfl (w.heap.size + 1) 5 i0 (.int .u8 0) 1 1 Try.underlying22 hi hz0 hz1 hz2 rfl (by decide) _ _ _ rfl (h1.own.alloc _) ⟨_, 0, none⟩ 1 1 [.int .u8 (many)] rfl rfl (cell_one_new _ _ _) (by intro u hu; simp at hu; subst hu; rfl) (by unfold maxLen; simp) (by simp) (by simp; omega) ?_) | fail)
  intro v1 wb1 hown hgrow _
  have h2 := h1.step hown hgrow
  clear hown hgrow c4 q1 s1 l1 h1
  go_wp2_with fail
  rw [rounds_succ]
  have c0 := h2.cmd.cell 0 _ rfl
  go_wp2_with fail
  refine (goes_no _ _ 3 (by go_simp) (by omega) (by omega)).mono ?_
  rintro e wz ⟨rfl, n3, rfl⟩
  obtain ⟨A, cp, rfl, _⟩ := own_rd h2.own
  go_wp2_with fail
  go_ret2
  exact ⟨A, cp, rfl, own_lower (own_drewN h2.own _) (by omega), gb_drewN (gb_of_below h2.bel) _⟩
set_option maxRecDepth 100000 in
set_option maxHeartbeats 2000000 in
theorem put4 (w : World) (addr words cand many bits at_ : Int) (hr : right ⟨4, addr, words, cand, many, bits, at_⟩) (g1 : 1 ≤ bits) (g2 : bits ≤ 100) (r0 : -9223372036854775808 ≤ words) (r1 : words ≤ 9223372036854775807) (r2 : -9223372036854775808 ≤ many) (r3 : many ≤ 9223372036854775807) :
    Calls Try.prog 11 #[Cd.v ⟨4, addr, words, cand, many, bits, at_⟩] w (PutPost [4, bits] w) := by
  obtain ⟨i0, hi, hz0, hz1, hz2⟩ := info_parts u8_info
  have HRR := Lib.hid hr
  clear hr
  go_enter Try.func11, Try.ntmps11
  go_wp2_with fail
  refine (right_any _ ⟨4, addr, words, cand, many, bits, at_⟩ r0 r1 r2 r3).mono ?_
  rintro e w1 ⟨b, rfl, hb, hg⟩
  obtain rfl : b = true := hb.2 HRR.out
  have hB := (Blk.new w 24 (Cd.cells ⟨4, addr, words, cand, many, bits, at_⟩)).kept hg (by simp)
  have hW := below_of_gb (gb_trans (gb_alloc (gb_refl w none) _) hg)
  clear hb hg
  have hs := hW.size
  have hlt := hB.lt
  have c0 := hB.cell 0 _ rfl
  have c5 := hB.cell 5 _ rfl
  have HB := Lib.hid hB
  clear hB
  go_wp2_with fail
  refine (bytes4 _ _ (by go_simp)).mono ?_
  rintro e w2 ⟨rfl, n1, rfl⟩
  go_wp2_with fail
  refine forget_world (fun w' => Out w w' (.slice (some ⟨w1.heap.size, 0, none⟩) 1 1) [4] (Cd.cells ⟨4, addr, words, cand, many, bits, at_⟩) (w1.heap.size + 1) [pt w.heap.size 5]) ⟨?_, ?_, ?_, ?_⟩ ?_
  · exact own_drewN ((own_first w1 4 (w.heap.size + 1) (by omega)).alloc _) _
  · exact ((HB.out.alloc _).alloc _).drewN _
  · have := Blk.new (w1.alloc (.cells #[.int .u8 4] 5)) 46 [pt w.heap.size 5]
    simp only [World.size_alloc] at this
    exact this.drewN _
  · exact ((hW.alloc hs _).alloc (by simp; omega) _).trans (((Same.refl _).drewN _).below _)
  rintro wa h0
  clear c0 c5 HB hW hlt
  refine wp_loop_rounds 2 ?_
  rw [rounds_succ]
  have c5 := h0.cmd.cell 5 _ rfl
  have q0 := h0.ptr.cell 0 _ rfl
  have s0 := h0.bel.size
  have l0 := h0.cmd.lt
  go_wp2_with (first | (at_builtin; refine wpList_append_own _ rfl _ _ 22 rfl (w.heap.size + 1) 5 i0 (.int .u8 0) 1 1 Try.underlying22 hi hz0 hz1 hz2 rfl (by decide) _ _ _ rfl (h0.own.alloc _) ⟨_, 0, none⟩ 1 1 [.int .u8 (bits)] rfl rfl (cell_one_new _ _ _) (by intro u hu; simp at hu; subst hu; rfl) (by unfold maxLen; simp) (by simp) (by simp; omega) ?_) | fail)
  intro v0 wb0 hown hgrow _
  have h1 := h0.step hown hgrow
  clear hown hgrow c5 q0 s0 l0 h0
  go_wp2_with fail
  rw [rounds_succ]
  have c0 := h1.cmd.cell 0 _ rfl
  go_wp2_with fail
  refine (goes_no _ _ 4 (by go_simp) (by omega) (by omega)).mono ?_
  rintro e wz ⟨rfl, n3, rfl⟩
  obtain ⟨A, cp, rfl, _⟩ := own_rd h1.own
  go_wp2_with fail
  go_ret2
  exact ⟨A, cp, rfl, own_lower (own_drewN h1.own _) (by omega), gb_drewN (gb_of_below h1.bel) _⟩
set_option maxRecDepth 100000 in
set_option maxHeartbeats 2000000 in
theorem put_stay (w : World) (op addr words cand many bits at_ : Int) (hr : right ⟨op, addr, words, cand, many, bits, at_⟩) (h : op = 0 ∨ op = 5 ∨ op = 7) (r0 : -9223372036854775808 ≤ words) (r1 : words ≤ 9223372036854775807) (r2 : -9223372036854775808 ≤ many) (r3 : many ≤ 9223372036854775807) :
    Calls Try.prog 11 #[Cd.v ⟨op, addr, words, cand, many, bits, at_⟩] w (PutPost [op] w) := by
  have o0 : 0 ≤ op := by omega
  have o1 : op ≤ 8 := by omega
  have h1 : op ≠ 6 := by omega
  have h2 : op ≠ 8 := by omega
  have HN : Hid (op ≠ 1 ∧ op ≠ 2 ∧ op ≠ 3 ∧ op ≠ 4) := by refine ⟨?_, ?_, ?_, ?_⟩ <;> omega
  have HO := Lib.hid h
  clear h
  obtain ⟨i0, hi, hz0, hz1, hz2⟩ := info_parts u8_info
  have HRR := Lib.hid hr
  clear hr
  go_enter Try.func11, Try.ntmps11
  go_wp2_with fail
  refine (right_any _ ⟨op, addr, words, cand, many, bits, at_⟩ r0 r1 r2 r3).mono ?_
  rintro e w1 ⟨b, rfl, hb, hg⟩
  obtain rfl : b = true := hb.2 HRR.out
  have hB := (Blk.new w 24 (Cd.cells ⟨op, addr, words, cand, many, bits, at_⟩)).kept hg (by simp)
  have hW := below_of_gb (gb_trans (gb_alloc (gb_refl w none) _) hg)
  clear hb hg
  have hs := hW.size
  have hlt := hB.lt
  have c0 := hB.cell 0 _ rfl
  have c6 := hB.cell 6 _ rfl
  have HB := Lib.hid hB
  clear hB
  go_wp2_with fail
  refine (bytes_none _ _ op (by go_simp) HN.out.1 HN.out.2.1 HN.out.2.2.1 HN.out.2.2.2).mono ?_
  rintro e w2 ⟨rfl, rfl⟩
  go_wp2_with fail
  refine wp_loop_rounds 1 ?_
  rw [rounds_succ]
  go_wp2_with fail
  refine (goes_no _ _ op (by go_simp) h1 h2).mono ?_
  rintro e wz ⟨rfl, n3, rfl⟩
  go_wp2_with fail
  go_ret2
  exact ⟨_, _, rfl, own_drewN (own_first w1 op w.heap.size hs) _, gb_drewN (gb_of_below (hW.alloc hs _)) _⟩
set_option maxRecDepth 100000 in
set_option maxHeartbeats 2000000 in
theorem put_go (w : World) (op addr words cand many bits at_ : Int) (hr : right ⟨op, addr, words, cand, many, bits, at_⟩) (h : op = 6 ∨ op = 8) (g1 : 0 ≤ at_) (g2 : at_ ≤ 1023) (r0 : -9223372036854775808 ≤ words) (r1 : words ≤ 9223372036854775807) (r2 : -9223372036854775808 ≤ many) (r3 : many ≤ 9223372036854775807) :
    Calls Try.prog 11 #[Cd.v ⟨op, addr, words, cand, many, bits, at_⟩] w (PutPost [op, at_ / 256, at_ % 256] w) := by
  have o0 : 0 ≤ op := by omega
  have o1 : op ≤ 8 := by omega
  have HN : Hid (op ≠ 1 ∧ op ≠ 2 ∧ op ≠ 3 ∧ op ≠ 4) := by refine ⟨?_, ?_, ?_, ?_⟩ <;> omega
  have HO := Lib.hid h
  clear h
  obtain ⟨i0, hi, hz0, hz1, hz2⟩ := info_parts u8_info
  have HRR := Lib.hid hr
  clear hr
  go_enter Try.func11, Try.ntmps11
  go_wp2_with fail
  refine (right_any _ ⟨op, addr, words, cand, many, bits, at_⟩ r0 r1 r2 r3).mono ?_
  rintro e w1 ⟨b, rfl, hb, hg⟩
  obtain rfl : b = true := hb.2 HRR.out
  have hB := (Blk.new w 24 (Cd.cells ⟨op, addr, words, cand, many, bits, at_⟩)).kept hg (by simp)
  have hW := below_of_gb (gb_trans (gb_alloc (gb_refl w none) _) hg)
  clear hb hg
  have hs := hW.size
  have hlt := hB.lt
  have c0 := hB.cell 0 _ rfl
  have c6 := hB.cell 6 _ rfl
  have HB := Lib.hid hB
  clear hB
  go_wp2_with fail
  refine (bytes_none _ _ op (by go_simp) HN.out.1 HN.out.2.1 HN.out.2.2.1 HN.out.2.2.2).mono ?_
  rintro e w2 ⟨rfl, rfl⟩
  go_wp2_with fail
  refine wp_loop_rounds 1 ?_
  rw [rounds_succ]
  go_wp2_with fail
  refine (goes_yes _ _ op (by go_simp) HO.out).mono ?_
  rintro e wz ⟨rfl, n3, rfl⟩
  go_upto_region 10 with (fail)
  refine forget_world (fun w' => w'.ownsRow (w.heap.size + 1) 5 1 (.slice (some ⟨w1.heap.size, 0, none⟩) 1 1) 1 (nums .u8 [op]) ∧ Blk w' w.heap.size 24 (Cd.cells ⟨op, addr, words, cand, many, bits, at_⟩) ∧ Below w.heap.size w w') ⟨?_, ?_, ?_⟩ ?_
  · exact own_drewN ((own_first w1 op (w.heap.size + 1) (by omega))) _
  · exact (HB.out.alloc _).drewN _
  · exact (hW.alloc hs _).trans (((Same.refl _).drewN _).below _)
  rintro wa ⟨hown0, hC, hBl⟩
  have d6 := hC.cell 6 _ rfl
  have l0 := hC.lt
  go_wp2_with (first | (at_builtin; refine wpList_append_own _ rfl _ _ 22 rfl (w.heap.size + 1) 5 i0 (.int .u8 0) 1 1 Try.underlying22 hi hz0 hz1 hz2 rfl (by decide) (.slice (some ⟨w1.heap.size, 0, none⟩) 1 1) 1 (nums .u8 [op]) rfl (hown0.alloc _) ⟨_, 0, none⟩ 2 2 [.int .u8 (at_ / 256), .int .u8 (at_ % 256)] rfl rfl ?c1 (by intro u hu; simp at hu; rcases hu with rfl | rfl <;> rfl) (by unfold maxLen; simp) (by simp) (by simp; omega) ?_) | fail)
  intro v' w2 hown hgrow _
  have hge := own_block_ge hown0
  have hBl2 := (hBl.alloc hBl.size (.cells #[.int .u8 (at_ / 256), .int .u8 (at_ % 256)] 5)).grown hgrow (by have := hBl.size; simp; omega) (fun k hk => by have := hge k hk; omega)
  have hown2 : w2.ownsRow (w.heap.size + 1) 5 1 v' 3 (nums .u8 [op, at_ / 256, at_ % 256]) := hown
  clear hown
  obtain ⟨A, cp, rfl, _⟩ := own_rd hown2
  go_wp2_with fail
  go_ret2
  exact ⟨A, cp, rfl, own_lower hown2 (by omega), gb_of_below hBl2⟩
set_option maxRecDepth 100000 in
set_option maxHeartbeats 2000000 in
theorem put_no (w : World) (op addr words cand many bits at_ : Int) (hr : ¬ right ⟨op, addr, words, cand, many, bits, at_⟩) (r0 : -9223372036854775808 ≤ words) (r1 : words ≤ 9223372036854775807) (r2 : -9223372036854775808 ≤ many) (r3 : many ≤ 9223372036854775807) :
    Calls Try.prog 11 #[Cd.v ⟨op, addr, words, cand, many, bits, at_⟩] w fun e w' => e = .returned (.tuple #[.slice none 0 0, .int .i64 2]) ∧ w.grownBy w' none := by
  obtain ⟨i0, hi, hz0, hz1, hz2⟩ := info_parts u8_info
  have HRR := Lib.hid hr
  clear hr
  go_enter Try.func11, Try.ntmps11
  go_wp2_with fail
  refine (right_any _ ⟨op, addr, words, cand, many, bits, at_⟩ r0 r1 r2 r3).mono ?_
  rintro e w1 ⟨b, rfl, hb, hg⟩
  obtain rfl : b = false := by
    cases b
    · rfl
    · exact absurd (hb.1 rfl) HRR.out
  clear hb
  go_wp2_with fail
  go_ret2
  exact ⟨rfl, gb_trans (gb_alloc (gb_refl w none) _) hg⟩
theorem put_yes (w : World) (c : Cd) (hr : right c) (r0 : -9223372036854775808 ≤ c.words) (r1 : c.words ≤ 9223372036854775807) (r2 : -9223372036854775808 ≤ c.many) (r3 : c.many ≤ 9223372036854775807) :
    Calls Try.prog 11 #[c.v] w (PutPost (put c) w) := by
  obtain ⟨op, addr, words, cand, many, bits, at_⟩ := c
  have h := hr
  unfold right at h
  dsimp only at h r0 r1 r2 r3
  by_cases h1 : op = 1
  · subst h1; exact put1 w addr words cand many bits at_ hr (by omega) (by omega) (by omega) (by omega) (by omega) (by omega) (by omega) (by omega) r0 r1 r2 r3
  by_cases h2 : op = 2
  · subst h2; exact put2 w addr words cand many bits at_ hr (by omega) (by omega) (by omega) (by omega) (by omega) (by omega) r0 r1 r2 r3
  by_cases h3 : op = 3
  · subst h3; exact put3 w addr words cand many bits at_ hr (by omega) (by omega) (by omega) (by omega) r0 r1 r2 r3
  by_cases h4 : op = 4
  · subst h4; exact put4 w addr words cand many bits at_ hr (by omega) (by omega) r0 r1 r2 r3
  by_cases h6 : op = 6 ∨ op = 8
  · have e : put ⟨op, addr, words, cand, many, bits, at_⟩ = [op, at_ / 256, at_ % 256] := by simp [put, h1, h2, h3, h4, h6]
    rw [e]
    exact put_go w op addr words cand many bits at_ hr h6 (by omega) (by omega) r0 r1 r2 r3
  · have e : put ⟨op, addr, words, cand, many, bits, at_⟩ = [op] := by simp [put, h1, h2, h3, h4, h6]
    rw [e]
    exact put_stay w op addr words cand many bits at_ hr (by omega) r0 r1 r2 r3
end Cm
end Go.Proofs.Ytbhfbdldehahoaa
