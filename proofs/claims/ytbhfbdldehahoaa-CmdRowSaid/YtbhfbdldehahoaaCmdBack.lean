/- CmdBack. -/
import Derived.Test.YtbhfbdldehahoaaCmdB
namespace Go.Proofs.Ytbhfbdldehahoaa
open Go.ChangeShapes Go.WideShapes Go.ChangeAt Go.RowKit Go.Proofs.Ytbhfbdldehahoaa.Cm
set_option linter.unusedVariables false
set_option linter.unusedSimpArgs false
namespace cmdBackW
theorem getD_mid (la p lb : List Int) (na j : Nat) (hla : la.length = na) (hj : j < p.length) : (la ++ (p ++ lb)).getD (na + j) 0 = p.getD j 0 := by
  subst hla
  simp only [List.getD_eq_getElem?_getD]
  rw [List.getElem?_append_right (by omega), List.getElem?_append_left (by omega)]
  simp
theorem own_empty (w : World) : (w.alloc (.cells #[] 5)).ownsRow w.heap.size 5 1 (.slice (some ⟨w.heap.size, 0, none⟩) 0 0) 0 (nums .u8 []) :=
  ⟨rfl, .inr ⟨w.heap.size, 0, #[], rfl, Nat.le_refl _, heap_alloc_new w _, Nat.le_refl _, by unfold maxLen; omega, rfl, rfl⟩⟩
set_option maxRecDepth 100000 in
set_option maxHeartbeats 4000000 in
theorem not_n (w : World) (c : Cd) (Aa : Option Addr) (na ca : Nat) (la : List Int) (Ab : Option Addr) (nb cb : Nat) (lb : List Int) (r0 : -9223372036854775808 ≤ c.words) (r1 : c.words ≤ 9223372036854775807) (r2 : -9223372036854775808 ≤ c.many) (r3 : c.many ≤ 9223372036854775807) (ha : Sl w 0 Aa na ca la) (hb : Sl w 0 Ab nb cb lb) (hna : na ≤ 200) (hnb : nb ≤ 200) (hAa : Aa = none → ca = 0) (hAb : Ab = none → cb = 0) (hxa : ∀ x ∈ la, 0 ≤ x ∧ x ≤ 255) (hxb : ∀ x ∈ lb, 0 ≤ x ∧ x ≤ 255) (hr : ¬ right c) (he : (readV nb (fun i => lb.getD i 0) 0).2.2 ≠ 0) :
    Calls Try.prog 5 #[c.v, .slice Aa na ca, .slice Ab nb cb] w fun e w' => e = .returned (.bool true) ∧ Below w.heap.size w w' := by
  have HE := Lib.hid he
  clear he
  have HR := Lib.hid hr
  have HXA := Lib.hid hxa
  have HXB := Lib.hid hxb
  have HAA := Lib.hid hAa
  have HAB := Lib.hid hAb
  have d1 : decide ((200 : Int) < na) = false := by simp; omega
  have d2 : decide ((200 : Int) < nb) = false := by simp; omega
  clear hr hxa hxb hAa hAb
  obtain ⟨i0, hi, hz0, hz1, hz2⟩ := info_parts u8_info
  have hB0 := Blk.new w 24 c.cells
  go_enter Try.func5, Try.ntmps5
  go_wp2_with fail
  refine (right_not _ c HR.out r0 r1 r2 r3).mono ?_
  rintro e w1 ⟨rfl, hg1⟩
  have hB1 := hB0.kept hg1 (by simp)
  have hW1 := gb_trans (gb_alloc (gb_refl w none) _) hg1
  have hb1 := hb.kept hW1
  have ha1 := ha.kept hW1
  clear hB0 hg1
  have hbT := hb1
  have hWT := hW1
  clear ha1 hb1 hB1 hW1 ha hb
  go_wp2_with fail
  refine (read_sl w1 Ab nb cb lb 0 hbT HXB.out).mono ?_
  generalize readV nb (fun i => lb.getD i 0) 0 = V at HE
  obtain ⟨vc, vn, ve⟩ := V
  rintro e wt ⟨rfl, hgt⟩
  have hWT2 := gb_alloc (gb_trans hWT hgt) (.cells #[.int .i64 vc.op, .int .i64 vc.addr, .int .i64 vc.words, .int .i64 vc.cand, .int .i64 vc.many, .int .i64 vc.bits, .int .i64 vc.at_] 24)
  have dE : (ve == 0) = false := by simpa using HE.out
  clear hgt HE
  go_wp2_with fail
  refine (one_any _).mono ?_
  rintro e wu ⟨rfl, hgu⟩
  go_wp2_with fail
  go_ret
  exact ⟨rfl, below_of_gb (gb_trans hWT2 hgu)⟩
set_option maxRecDepth 100000 in
set_option maxHeartbeats 4000000 in
theorem not_r (w : World) (c : Cd) (Aa : Option Addr) (na ca : Nat) (la : List Int) (Ab : Option Addr) (nb cb : Nat) (lb : List Int) (r0 : -9223372036854775808 ≤ c.words) (r1 : c.words ≤ 9223372036854775807) (r2 : -9223372036854775808 ≤ c.many) (r3 : c.many ≤ 9223372036854775807) (ha : Sl w 0 Aa na ca la) (hb : Sl w 0 Ab nb cb lb) (hna : na ≤ 200) (hnb : nb ≤ 200) (hAa : Aa = none → ca = 0) (hAb : Ab = none → cb = 0) (hxa : ∀ x ∈ la, 0 ≤ x ∧ x ≤ 255) (hxb : ∀ x ∈ lb, 0 ≤ x ∧ x ≤ 255) (hr : ¬ right c) (y : Cd) (k : Nat) (hv : readV nb (fun i => lb.getD i 0) 0 = (y, (k : Int), 0)) (hyy : right y ∧ -9223372036854775808 ≤ y.words ∧ y.words ≤ 9223372036854775807 ∧ -9223372036854775808 ≤ y.many ∧ y.many ≤ 9223372036854775807) (hk : k ≤ nb) (hk1 : 1 ≤ k) (hpy : put y = lb.take k) :
    Calls Try.prog 5 #[c.v, .slice Aa na ca, .slice Ab nb cb] w fun e w' => e = .returned (.bool true) ∧ Below w.heap.size w w' := by
  have HV := Lib.hid hv
  have HY := Lib.hid hyy
  have HK := Lib.hid hk
  have HP := Lib.hid hpy
  clear hv hyy hk hpy
  have HR := Lib.hid hr
  have HXA := Lib.hid hxa
  have HXB := Lib.hid hxb
  have HAA := Lib.hid hAa
  have HAB := Lib.hid hAb
  have d1 : decide ((200 : Int) < na) = false := by simp; omega
  have d2 : decide ((200 : Int) < nb) = false := by simp; omega
  clear hr hxa hxb hAa hAb
  obtain ⟨i0, hi, hz0, hz1, hz2⟩ := info_parts u8_info
  have hB0 := Blk.new w 24 c.cells
  go_enter Try.func5, Try.ntmps5
  go_wp2_with fail
  refine (right_not _ c HR.out r0 r1 r2 r3).mono ?_
  rintro e w1 ⟨rfl, hg1⟩
  have hB1 := hB0.kept hg1 (by simp)
  have hW1 := gb_trans (gb_alloc (gb_refl w none) _) hg1
  have hb1 := hb.kept hW1
  have ha1 := ha.kept hW1
  clear hB0 hg1
  have hbT := hb1
  have hWT := hW1
  clear ha1 hb1 hB1 hW1 ha hb
  go_wp2_with fail
  refine (read_sl w1 Ab nb cb lb 0 hbT HXB.out).mono ?_
  rw [HV.out]
  rintro e wt ⟨rfl, hgt⟩
  have hWT2 := gb_alloc (gb_trans hWT hgt) (.cells #[.int .i64 y.op, .int .i64 y.addr, .int .i64 y.words, .int .i64 y.cand, .int .i64 y.many, .int .i64 y.bits, .int .i64 y.at_] 24)
  have hY := Blk.new wt 24 y.cells
  have hbT2 := (hbT.kept hgt).kept (gb_alloc (gb_refl wt none) (.cells #[.int .i64 y.op, .int .i64 y.addr, .int .i64 y.words, .int .i64 y.cand, .int .i64 y.many, .int .i64 y.bits, .int .i64 y.at_] 24))
  have cy0 := hY.cell 0 _ rfl
  have cy1 := hY.cell 1 _ rfl
  have cy2 := hY.cell 2 _ rfl
  have cy3 := hY.cell 3 _ rfl
  have cy4 := hY.cell 4 _ rfl
  have cy5 := hY.cell 5 _ rfl
  have cy6 := hY.cell 6 _ rfl
  clear hbT hgt
  go_upto_region 13 with (fail)
  refine forget_world (fun w' => Blk w' wt.heap.size 24 y.cells ∧ Sl w' 0 Ab nb cb lb ∧ w.grownBy w' none) ⟨hY, hbT2, hWT2⟩ ?_
  rintro wx ⟨hY, hbT2, hWT2⟩
  clear cy0 cy1 cy2 cy3 cy4 cy5 cy6
  have cy0 := hY.cell 0 _ rfl
  have cy1 := hY.cell 1 _ rfl
  have cy2 := hY.cell 2 _ rfl
  have cy3 := hY.cell 3 _ rfl
  have cy4 := hY.cell 4 _ rfl
  have cy5 := hY.cell 5 _ rfl
  have cy6 := hY.cell 6 _ rfl
  go_wp2_with fail
  refine (put_sl _ y HY.out.1 HY.out.2.1 HY.out.2.2.1 HY.out.2.2.2.1 HY.out.2.2.2.2).mono ?_
  rintro e wy ⟨Ay, cpy, rfl, hsy, hgy⟩
  clear cy0 cy1 cy2 cy3 cy4 cy5 cy6
  have hY2 := hY.kept hgy (by simp)
  have hbT3 := hbT2.kept hgy
  have hWT3 := gb_trans hWT2 hgy
  go_upto_region 15 with (fail)
  have hcy := fun x : New wy => (hsy.kept x.ok).conv Try.underlying22 Try.underlying5 Try.underlying9
  have hcb := fun x : New wy => ((hbT3.take k HK.out).kept x.ok).conv Try.underlying22 Try.underlying5 Try.underlying9
  rw [← HP.out] at hcb
  have hkb := HK.out
  have dk1 : decide ((k : Int) < 1) = false := by simp; omega
  have dk2 : decide (nb < k) = false := by simp; omega
  have hkc := hbT3.le
  have hkm := hbT3.cap
  have cz0 := fun x : New wy => (hY2.kept x.ok (by simp)).cell 0 _ rfl
  have cz1 := fun x : New wy => (hY2.kept x.ok (by simp)).cell 1 _ rfl
  have cz2 := fun x : New wy => (hY2.kept x.ok (by simp)).cell 2 _ rfl
  have cz3 := fun x : New wy => (hY2.kept x.ok (by simp)).cell 3 _ rfl
  have cz4 := fun x : New wy => (hY2.kept x.ok (by simp)).cell 4 _ rfl
  have cz5 := fun x : New wy => (hY2.kept x.ok (by simp)).cell 5 _ rfl
  have cz6 := fun x : New wy => (hY2.kept x.ok (by simp)).cell 6 _ rfl
  generalize put y = ppy at hcy hcb
  haveI hnw := new_ne wy
  refine new_start fun x => ?_
  refine wp_region_later (by kernel_rfl) (by kernel_rfl) ?_
  repeat (go_big_quiet_step ((first | (go_at_call 13; exact new_gb (right_yes _ y HY.out.1 HY.out.2.1 HY.out.2.2.1 HY.out.2.2.2.1 HY.out.2.2.2.2)))))
  refine wpQuiet_nil ?_
  intro _ hw'
  obtain ⟨yy, hw''⟩ := hw'
  subst hw''
  go_wp2_with fail
  refine (one_any _).mono ?_
  rintro e wu ⟨rfl, hgu⟩
  go_wp2_with fail
  go_ret
  exact ⟨rfl, below_of_gb (gb_trans (gb_trans hWT3 yy.ok) hgu)⟩
set_option maxRecDepth 100000 in
set_option maxHeartbeats 4000000 in
theorem yes_n (w : World) (c : Cd) (Aa : Option Addr) (na ca : Nat) (la : List Int) (Ab : Option Addr) (nb cb : Nat) (lb : List Int) (r0 : -9223372036854775808 ≤ c.words) (r1 : c.words ≤ 9223372036854775807) (r2 : -9223372036854775808 ≤ c.many) (r3 : c.many ≤ 9223372036854775807) (ha : Sl w 0 Aa na ca la) (hb : Sl w 0 Ab nb cb lb) (hna : na ≤ 200) (hnb : nb ≤ 200) (hAa : Aa = none → ca = 0) (hAb : Ab = none → cb = 0) (hxa : ∀ x ∈ la, 0 ≤ x ∧ x ≤ 255) (hxb : ∀ x ∈ lb, 0 ≤ x ∧ x ≤ 255) (hr : right c) (he : (readV nb (fun i => lb.getD i 0) 0).2.2 ≠ 0) :
    Calls Try.prog 5 #[c.v, .slice Aa na ca, .slice Ab nb cb] w fun e w' => e = .returned (.bool true) ∧ Below w.heap.size w w' := by
  have HE := Lib.hid he
  clear he
  have HR := Lib.hid hr
  have HXA := Lib.hid hxa
  have HXB := Lib.hid hxb
  have HAA := Lib.hid hAa
  have HAB := Lib.hid hAb
  have d1 : decide ((200 : Int) < na) = false := by simp; omega
  have d2 : decide ((200 : Int) < nb) = false := by simp; omega
  clear hr hxa hxb hAa hAb
  obtain ⟨i0, hi, hz0, hz1, hz2⟩ := info_parts u8_info
  have hB0 := Blk.new w 24 c.cells
  go_enter Try.func5, Try.ntmps5
  go_wp2_with fail
  refine (right_yes _ c HR.out r0 r1 r2 r3).mono ?_
  rintro e w1 ⟨rfl, hg1⟩
  have hB1 := hB0.kept hg1 (by simp)
  have hW1 := gb_trans (gb_alloc (gb_refl w none) _) hg1
  have hb1 := hb.kept hW1
  have ha1 := ha.kept hW1
  clear hB0 hg1
  have cb0 := hB1.cell 0 _ rfl
  have cb1 := hB1.cell 1 _ rfl
  have cb2 := hB1.cell 2 _ rfl
  have cb3 := hB1.cell 3 _ rfl
  have cb4 := hB1.cell 4 _ rfl
  have cb5 := hB1.cell 5 _ rfl
  have cb6 := hB1.cell 6 _ rfl
  go_upto_region 4 with (fail)
  refine forget_world (fun w' => Blk w' w.heap.size 24 c.cells ∧ Sl w' 0 Aa na ca la ∧ Sl w' 0 Ab nb cb lb ∧ w.grownBy w' none) ⟨hB1, ha1, hb1, hW1⟩ ?_
  rintro w2 ⟨hB2, ha2, hb2, hW2⟩
  clear cb0 cb1 cb2 cb3 cb4 cb5 cb6
  have cb0 := hB2.cell 0 _ rfl
  have cb1 := hB2.cell 1 _ rfl
  have cb2 := hB2.cell 2 _ rfl
  have cb3 := hB2.cell 3 _ rfl
  have cb4 := hB2.cell 4 _ rfl
  have cb5 := hB2.cell 5 _ rfl
  have cb6 := hB2.cell 6 _ rfl
  clear ha1 hb1 hB1 hW1 ha hb
  go_wp2_with fail
  refine (put_sl _ c HR.out r0 r1 r2 r3).mono ?_
  rintro e w3 ⟨A, cp, rfl, hs3, hg3⟩
  have hB3 := hB2.kept hg3 (by simp)
  have ha3 := ha2.kept hg3
  have hb3 := hb2.kept hg3
  have hW3 := gb_trans hW2 hg3
  clear cb0 cb1 cb2 cb3 cb4 cb5 cb6
  clear hB2 ha2 hb2 hW2 hg3
  obtain ⟨np, hnp⟩ : ∃ np, np = (put c).length := ⟨_, rfl⟩
  have hnp1 : 1 ≤ np ∧ np ≤ 5 := by have := put_len c; have := need_le c.op; omega
  have HNP := Lib.hid hnp
  rw [← hnp] at hs3 ⊢
  have hAp : A = none → cp = 0 := fun h0 => by
    obtain ⟨b, off, e, _⟩ := hs3.rd (by omega)
    rw [h0] at e; cases e
  clear hnp
  go_wp2_with (first | (at_builtin; go_loud (refine wpList_app_sl _ rfl _ _ 22 rfl w3.heap.size 5 i0 Try.underlying22 hi hz0 hz1 hz2 _ 0 [] rfl (own_empty w3) Aa na ca la rfl HAA.out (ha3.kept (gb_alloc (gb_refl _ _) _)) (by omega) (by simp) ?_)) | fail)
  intro v1 w4 ho1 hg4
  have hBe4 : Below w3.heap.size w3 w4 := ((Below.refl w3.heap.size w3).alloc (Nat.le_refl _) _).grown hg4 (by simp) (fun k hk => by simp [Value.ownBlock] at hk; omega)
  replace ho1 : w4.ownsRow w3.heap.size 5 1 v1 na (nums .u8 la) := by simpa using ho1
  clear hg4
  have hs4 := hs3.kept_below hBe4
  have hz4 := hBe4.size
  go_wp2_with (first | (at_builtin; go_loud (refine wpList_app_sl _ rfl _ _ 22 rfl w3.heap.size 5 i0 Try.underlying22 hi hz0 hz1 hz2 _ na la rfl ho1 A np cp (put c) rfl hAp hs4 (by omega) (by omega) ?_)) | fail)
  intro v2 w5 ho2 hg5
  have hBe5 : Below w3.heap.size w3 w5 := hBe4.grown hg5 hz4 (own_block_ge ho1)
  clear hg5 ho1 hs4 hBe4 hz4
  have hb5 := hb3.kept_below hBe5
  have hz5 := hBe5.size
  go_wp2_with (first | (at_builtin; go_loud (refine wpList_app_sl _ rfl _ _ 22 rfl w3.heap.size 5 i0 Try.underlying22 hi hz0 hz1 hz2 _ (na + np) (la ++ put c) rfl ho2 Ab nb cb lb rfl HAB.out hb5 (by omega) (by omega) ?_)) | fail)
  intro v3 w6 ho3 hg6
  have hBe6 : Below w3.heap.size w3 w6 := hBe5.grown hg6 hz5 (own_block_ge ho2)
  clear hg6 ho2 hb5 hBe5 hz5
  obtain ⟨A9, c9, rfl, _⟩ := own_rd ho3
  have hs9 := Sl.of_own ho3
  clear ho3
  have hz6 := hBe6.size
  have hW6 := gb_trans hW3 (gb_of_below hBe6)
  have hB6 := hB3.kept (gb_of_below hBe6) (by simp)
  have hs6 := hs3.kept_below hBe6
  have hb6 := hb3.kept_below hBe6
  have hx9 : ∀ x ∈ la ++ (put c ++ lb), 0 ≤ x ∧ x ≤ 255 := by
    intro x hx
    simp at hx
    rcases hx with h | h | h
    · exact HXA.out x h
    · exact put_bytes c HR.out x h
    · exact HXB.out x h
  have hrd := read_sl w6 A9 (na + np + nb) c9 (la ++ (put c ++ lb)) na hs9 hx9
  rw [readV_put c HR.out (na + np + nb) _ na (by rw [← HNP.out]; omega) (fun j hj => getD_mid la (put c) lb na j ha3.len hj), ← HNP.out] at hrd
  clear hBe6 hW3 hB3 hs3 hb3 ha3 hx9
  go_wp2_with fail
  refine hrd.mono ?_
  rintro e w7 ⟨rfl, hg7⟩
  clear hrd hs9 hz6
  have hW7 := gb_alloc (gb_trans hW6 hg7) (.cells #[.int .i64 (clean c).op, .int .i64 (clean c).addr, .int .i64 (clean c).words, .int .i64 (clean c).cand, .int .i64 (clean c).many, .int .i64 (clean c).bits, .int .i64 (clean c).at_] 24)
  have hB7 := (hB6.kept hg7 (by simp)).alloc (.cells #[.int .i64 (clean c).op, .int .i64 (clean c).addr, .int .i64 (clean c).words, .int .i64 (clean c).cand, .int .i64 (clean c).many, .int .i64 (clean c).bits, .int .i64 (clean c).at_] 24)
  have hX7 := Blk.new w7 24 (clean c).cells
  have hs7 := (hs6.kept hg7).kept (gb_alloc (gb_refl w7 none) (.cells #[.int .i64 (clean c).op, .int .i64 (clean c).addr, .int .i64 (clean c).words, .int .i64 (clean c).cand, .int .i64 (clean c).many, .int .i64 (clean c).bits, .int .i64 (clean c).at_] 24))
  have hb7 := (hb6.kept hg7).kept (gb_alloc (gb_refl w7 none) (.cells #[.int .i64 (clean c).op, .int .i64 (clean c).addr, .int .i64 (clean c).words, .int .i64 (clean c).cand, .int .i64 (clean c).many, .int .i64 (clean c).bits, .int .i64 (clean c).at_] 24))
  clear hW6 hB6 hs6 hb6 hg7
  go_upto_region 7 with (fail)
  refine forget_world (fun w' => Blk w' w.heap.size 24 c.cells ∧ Blk w' w7.heap.size 24 (clean c).cells ∧ Sl w' w2.heap.size A np cp (put c) ∧ Sl w' 0 Ab nb cb lb ∧ w.grownBy w' none) ⟨hB7, hX7, hs7, hb7, hW7⟩ ?_
  rintro w8 ⟨hB8, hX8, hs8, hb8, hW8⟩
  clear hW7 hB7 hX7 hs7 hb7
  have hc0 := fun x : New w8 => (hB8.kept x.ok (by simp)).cell 0 _ rfl
  have hc1 := fun x : New w8 => (hB8.kept x.ok (by simp)).cell 1 _ rfl
  have hc2 := fun x : New w8 => (hB8.kept x.ok (by simp)).cell 2 _ rfl
  have hc3 := fun x : New w8 => (hB8.kept x.ok (by simp)).cell 3 _ rfl
  have hc4 := fun x : New w8 => (hB8.kept x.ok (by simp)).cell 4 _ rfl
  have hc5 := fun x : New w8 => (hB8.kept x.ok (by simp)).cell 5 _ rfl
  have hc6 := fun x : New w8 => (hB8.kept x.ok (by simp)).cell 6 _ rfl
  have hx0 := fun x : New w8 => (hX8.kept x.ok (by simp)).cell 0 _ rfl
  have hx1 := fun x : New w8 => (hX8.kept x.ok (by simp)).cell 1 _ rfl
  have hx2 := fun x : New w8 => (hX8.kept x.ok (by simp)).cell 2 _ rfl
  have hx3 := fun x : New w8 => (hX8.kept x.ok (by simp)).cell 3 _ rfl
  have hx4 := fun x : New w8 => (hX8.kept x.ok (by simp)).cell 4 _ rfl
  have hx5 := fun x : New w8 => (hX8.kept x.ok (by simp)).cell 5 _ rfl
  have hx6 := fun x : New w8 => (hX8.kept x.ok (by simp)).cell 6 _ rfl
  have dn : ((np : Int) == 0) = false := by simp; omega
  have dn2 : (np == 0) = false := by simp; omega
  haveI hnw := new_ne w8
  refine new_start fun x => ?_
  refine wp_region_later (by kernel_rfl) (by kernel_rfl) ?_
  repeat (go_big_quiet_step ((first | (go_at_call 14; exact new_gb (clean_any _ c)))))
  refine wpQuiet_nil ?_
  intro _ hw'
  obtain ⟨yy, hw''⟩ := hw'
  subst hw''
  have hs10 := hs8.kept yy.ok
  have hb10 := hb8.kept yy.ok
  have hW10 := gb_trans hW8 yy.ok
  clear hc0 hc1 hc2 hc3 hc4 hc5 hc6 hx0 hx1 hx2 hx3 hx4 hx5 hx6
  clear hB8 hX8 hs8 hb8 hW8 hnw
  generalize yy.w = w10 at *
  have hle := hs10.le
  have hcm := hs10.cap
  have hrd2 := read_sl w10 A (np - 1) cp ((put c).take (np - 1)) 0 (hs10.take (np - 1) (by omega)) (fun x hx => put_bytes c HR.out x (List.mem_of_mem_take hx))
  rw [readV_short c HR.out (np - 1) _ (by rw [← HNP.out]; omega) (fun j hj => by simp [List.getD_eq_getElem?_getD, List.getElem?_take, hj])] at hrd2
  go_upto_region 9 with (fail)
  go_wp2_with fail
  refine hrd2.mono ?_
  rintro e w11 ⟨rfl, hg11⟩
  have hbT := (hb10.kept hg11).kept (gb_alloc (gb_refl w11 none) (.cells #[.int .i64 zero.op, .int .i64 zero.addr, .int .i64 zero.words, .int .i64 zero.cand, .int .i64 zero.many, .int .i64 zero.bits, .int .i64 zero.at_] 24))
  have hWT := gb_alloc (gb_trans hW10 hg11) (.cells #[.int .i64 zero.op, .int .i64 zero.addr, .int .i64 zero.words, .int .i64 zero.cand, .int .i64 zero.many, .int .i64 zero.bits, .int .i64 zero.at_] 24)
  clear hrd2 hs10 hb10 hW10 hg11 hle hcm
  go_upto_region 12 with (fail)
  refine forget_world (fun w' => Sl w' 0 Ab nb cb lb ∧ w.grownBy w' none) ⟨hbT, hWT⟩ ?_
  rintro w12 ⟨hbT, hWT⟩
  go_wp2_with fail
  refine (read_sl w12 Ab nb cb lb 0 hbT HXB.out).mono ?_
  generalize readV nb (fun i => lb.getD i 0) 0 = V at HE
  obtain ⟨vc, vn, ve⟩ := V
  rintro e wt ⟨rfl, hgt⟩
  have hWT2 := gb_alloc (gb_trans hWT hgt) (.cells #[.int .i64 vc.op, .int .i64 vc.addr, .int .i64 vc.words, .int .i64 vc.cand, .int .i64 vc.many, .int .i64 vc.bits, .int .i64 vc.at_] 24)
  have dE : (ve == 0) = false := by simpa using HE.out
  clear hgt HE
  go_wp2_with fail
  refine (one_any _).mono ?_
  rintro e wu ⟨rfl, hgu⟩
  go_wp2_with fail
  go_ret
  exact ⟨rfl, below_of_gb (gb_trans hWT2 hgu)⟩
set_option maxRecDepth 100000 in
set_option maxHeartbeats 4000000 in
theorem yes_r (w : World) (c : Cd) (Aa : Option Addr) (na ca : Nat) (la : List Int) (Ab : Option Addr) (nb cb : Nat) (lb : List Int) (r0 : -9223372036854775808 ≤ c.words) (r1 : c.words ≤ 9223372036854775807) (r2 : -9223372036854775808 ≤ c.many) (r3 : c.many ≤ 9223372036854775807) (ha : Sl w 0 Aa na ca la) (hb : Sl w 0 Ab nb cb lb) (hna : na ≤ 200) (hnb : nb ≤ 200) (hAa : Aa = none → ca = 0) (hAb : Ab = none → cb = 0) (hxa : ∀ x ∈ la, 0 ≤ x ∧ x ≤ 255) (hxb : ∀ x ∈ lb, 0 ≤ x ∧ x ≤ 255) (hr : right c) (y : Cd) (k : Nat) (hv : readV nb (fun i => lb.getD i 0) 0 = (y, (k : Int), 0)) (hyy : right y ∧ -9223372036854775808 ≤ y.words ∧ y.words ≤ 9223372036854775807 ∧ -9223372036854775808 ≤ y.many ∧ y.many ≤ 9223372036854775807) (hk : k ≤ nb) (hk1 : 1 ≤ k) (hpy : put y = lb.take k) :
    Calls Try.prog 5 #[c.v, .slice Aa na ca, .slice Ab nb cb] w fun e w' => e = .returned (.bool true) ∧ Below w.heap.size w w' := by
  have HV := Lib.hid hv
  have HY := Lib.hid hyy
  have HK := Lib.hid hk
  have HP := Lib.hid hpy
  clear hv hyy hk hpy
  have HR := Lib.hid hr
  have HXA := Lib.hid hxa
  have HXB := Lib.hid hxb
  have HAA := Lib.hid hAa
  have HAB := Lib.hid hAb
  have d1 : decide ((200 : Int) < na) = false := by simp; omega
  have d2 : decide ((200 : Int) < nb) = false := by simp; omega
  clear hr hxa hxb hAa hAb
  obtain ⟨i0, hi, hz0, hz1, hz2⟩ := info_parts u8_info
  have hB0 := Blk.new w 24 c.cells
  go_enter Try.func5, Try.ntmps5
  go_wp2_with fail
  refine (right_yes _ c HR.out r0 r1 r2 r3).mono ?_
  rintro e w1 ⟨rfl, hg1⟩
  have hB1 := hB0.kept hg1 (by simp)
  have hW1 := gb_trans (gb_alloc (gb_refl w none) _) hg1
  have hb1 := hb.kept hW1
  have ha1 := ha.kept hW1
  clear hB0 hg1
  have cb0 := hB1.cell 0 _ rfl
  have cb1 := hB1.cell 1 _ rfl
  have cb2 := hB1.cell 2 _ rfl
  have cb3 := hB1.cell 3 _ rfl
  have cb4 := hB1.cell 4 _ rfl
  have cb5 := hB1.cell 5 _ rfl
  have cb6 := hB1.cell 6 _ rfl
  go_upto_region 4 with (fail)
  refine forget_world (fun w' => Blk w' w.heap.size 24 c.cells ∧ Sl w' 0 Aa na ca la ∧ Sl w' 0 Ab nb cb lb ∧ w.grownBy w' none) ⟨hB1, ha1, hb1, hW1⟩ ?_
  rintro w2 ⟨hB2, ha2, hb2, hW2⟩
  clear cb0 cb1 cb2 cb3 cb4 cb5 cb6
  have cb0 := hB2.cell 0 _ rfl
  have cb1 := hB2.cell 1 _ rfl
  have cb2 := hB2.cell 2 _ rfl
  have cb3 := hB2.cell 3 _ rfl
  have cb4 := hB2.cell 4 _ rfl
  have cb5 := hB2.cell 5 _ rfl
  have cb6 := hB2.cell 6 _ rfl
  clear ha1 hb1 hB1 hW1 ha hb
  go_wp2_with fail
  refine (put_sl _ c HR.out r0 r1 r2 r3).mono ?_
  rintro e w3 ⟨A, cp, rfl, hs3, hg3⟩
  have hB3 := hB2.kept hg3 (by simp)
  have ha3 := ha2.kept hg3
  have hb3 := hb2.kept hg3
  have hW3 := gb_trans hW2 hg3
  clear cb0 cb1 cb2 cb3 cb4 cb5 cb6
  clear hB2 ha2 hb2 hW2 hg3
  obtain ⟨np, hnp⟩ : ∃ np, np = (put c).length := ⟨_, rfl⟩
  have hnp1 : 1 ≤ np ∧ np ≤ 5 := by have := put_len c; have := need_le c.op; omega
  have HNP := Lib.hid hnp
  rw [← hnp] at hs3 ⊢
  have hAp : A = none → cp = 0 := fun h0 => by
    obtain ⟨b, off, e, _⟩ := hs3.rd (by omega)
    rw [h0] at e; cases e
  clear hnp
  go_wp2_with (first | (at_builtin; go_loud (refine wpList_app_sl _ rfl _ _ 22 rfl w3.heap.size 5 i0 Try.underlying22 hi hz0 hz1 hz2 _ 0 [] rfl (own_empty w3) Aa na ca la rfl HAA.out (ha3.kept (gb_alloc (gb_refl _ _) _)) (by omega) (by simp) ?_)) | fail)
  intro v1 w4 ho1 hg4
  have hBe4 : Below w3.heap.size w3 w4 := ((Below.refl w3.heap.size w3).alloc (Nat.le_refl _) _).grown hg4 (by simp) (fun k hk => by simp [Value.ownBlock] at hk; omega)
  replace ho1 : w4.ownsRow w3.heap.size 5 1 v1 na (nums .u8 la) := by simpa using ho1
  clear hg4
  have hs4 := hs3.kept_below hBe4
  have hz4 := hBe4.size
  go_wp2_with (first | (at_builtin; go_loud (refine wpList_app_sl _ rfl _ _ 22 rfl w3.heap.size 5 i0 Try.underlying22 hi hz0 hz1 hz2 _ na la rfl ho1 A np cp (put c) rfl hAp hs4 (by omega) (by omega) ?_)) | fail)
  intro v2 w5 ho2 hg5
  have hBe5 : Below w3.heap.size w3 w5 := hBe4.grown hg5 hz4 (own_block_ge ho1)
  clear hg5 ho1 hs4 hBe4 hz4
  have hb5 := hb3.kept_below hBe5
  have hz5 := hBe5.size
  go_wp2_with (first | (at_builtin; go_loud (refine wpList_app_sl _ rfl _ _ 22 rfl w3.heap.size 5 i0 Try.underlying22 hi hz0 hz1 hz2 _ (na + np) (la ++ put c) rfl ho2 Ab nb cb lb rfl HAB.out hb5 (by omega) (by omega) ?_)) | fail)
  intro v3 w6 ho3 hg6
  have hBe6 : Below w3.heap.size w3 w6 := hBe5.grown hg6 hz5 (own_block_ge ho2)
  clear hg6 ho2 hb5 hBe5 hz5
  obtain ⟨A9, c9, rfl, _⟩ := own_rd ho3
  have hs9 := Sl.of_own ho3
  clear ho3
  have hz6 := hBe6.size
  have hW6 := gb_trans hW3 (gb_of_below hBe6)
  have hB6 := hB3.kept (gb_of_below hBe6) (by simp)
  have hs6 := hs3.kept_below hBe6
  have hb6 := hb3.kept_below hBe6
  have hx9 : ∀ x ∈ la ++ (put c ++ lb), 0 ≤ x ∧ x ≤ 255 := by
    intro x hx
    simp at hx
    rcases hx with h | h | h
    · exact HXA.out x h
    · exact put_bytes c HR.out x h
    · exact HXB.out x h
  have hrd := read_sl w6 A9 (na + np + nb) c9 (la ++ (put c ++ lb)) na hs9 hx9
  rw [readV_put c HR.out (na + np + nb) _ na (by rw [← HNP.out]; omega) (fun j hj => getD_mid la (put c) lb na j ha3.len hj), ← HNP.out] at hrd
  clear hBe6 hW3 hB3 hs3 hb3 ha3 hx9
  go_wp2_with fail
  refine hrd.mono ?_
  rintro e w7 ⟨rfl, hg7⟩
  clear hrd hs9 hz6
  have hW7 := gb_alloc (gb_trans hW6 hg7) (.cells #[.int .i64 (clean c).op, .int .i64 (clean c).addr, .int .i64 (clean c).words, .int .i64 (clean c).cand, .int .i64 (clean c).many, .int .i64 (clean c).bits, .int .i64 (clean c).at_] 24)
  have hB7 := (hB6.kept hg7 (by simp)).alloc (.cells #[.int .i64 (clean c).op, .int .i64 (clean c).addr, .int .i64 (clean c).words, .int .i64 (clean c).cand, .int .i64 (clean c).many, .int .i64 (clean c).bits, .int .i64 (clean c).at_] 24)
  have hX7 := Blk.new w7 24 (clean c).cells
  have hs7 := (hs6.kept hg7).kept (gb_alloc (gb_refl w7 none) (.cells #[.int .i64 (clean c).op, .int .i64 (clean c).addr, .int .i64 (clean c).words, .int .i64 (clean c).cand, .int .i64 (clean c).many, .int .i64 (clean c).bits, .int .i64 (clean c).at_] 24))
  have hb7 := (hb6.kept hg7).kept (gb_alloc (gb_refl w7 none) (.cells #[.int .i64 (clean c).op, .int .i64 (clean c).addr, .int .i64 (clean c).words, .int .i64 (clean c).cand, .int .i64 (clean c).many, .int .i64 (clean c).bits, .int .i64 (clean c).at_] 24))
  clear hW6 hB6 hs6 hb6 hg7
  go_upto_region 7 with (fail)
  refine forget_world (fun w' => Blk w' w.heap.size 24 c.cells ∧ Blk w' w7.heap.size 24 (clean c).cells ∧ Sl w' w2.heap.size A np cp (put c) ∧ Sl w' 0 Ab nb cb lb ∧ w.grownBy w' none) ⟨hB7, hX7, hs7, hb7, hW7⟩ ?_
  rintro w8 ⟨hB8, hX8, hs8, hb8, hW8⟩
  clear hW7 hB7 hX7 hs7 hb7
  have hc0 := fun x : New w8 => (hB8.kept x.ok (by simp)).cell 0 _ rfl
  have hc1 := fun x : New w8 => (hB8.kept x.ok (by simp)).cell 1 _ rfl
  have hc2 := fun x : New w8 => (hB8.kept x.ok (by simp)).cell 2 _ rfl
  have hc3 := fun x : New w8 => (hB8.kept x.ok (by simp)).cell 3 _ rfl
  have hc4 := fun x : New w8 => (hB8.kept x.ok (by simp)).cell 4 _ rfl
  have hc5 := fun x : New w8 => (hB8.kept x.ok (by simp)).cell 5 _ rfl
  have hc6 := fun x : New w8 => (hB8.kept x.ok (by simp)).cell 6 _ rfl
  have hx0 := fun x : New w8 => (hX8.kept x.ok (by simp)).cell 0 _ rfl
  have hx1 := fun x : New w8 => (hX8.kept x.ok (by simp)).cell 1 _ rfl
  have hx2 := fun x : New w8 => (hX8.kept x.ok (by simp)).cell 2 _ rfl
  have hx3 := fun x : New w8 => (hX8.kept x.ok (by simp)).cell 3 _ rfl
  have hx4 := fun x : New w8 => (hX8.kept x.ok (by simp)).cell 4 _ rfl
  have hx5 := fun x : New w8 => (hX8.kept x.ok (by simp)).cell 5 _ rfl
  have hx6 := fun x : New w8 => (hX8.kept x.ok (by simp)).cell 6 _ rfl
  have dn : ((np : Int) == 0) = false := by simp; omega
  have dn2 : (np == 0) = false := by simp; omega
  haveI hnw := new_ne w8
  refine new_start fun x => ?_
  refine wp_region_later (by kernel_rfl) (by kernel_rfl) ?_
  repeat (go_big_quiet_step ((first | (go_at_call 14; exact new_gb (clean_any _ c)))))
  refine wpQuiet_nil ?_
  intro _ hw'
  obtain ⟨yy, hw''⟩ := hw'
  subst hw''
  have hs10 := hs8.kept yy.ok
  have hb10 := hb8.kept yy.ok
  have hW10 := gb_trans hW8 yy.ok
  clear hc0 hc1 hc2 hc3 hc4 hc5 hc6 hx0 hx1 hx2 hx3 hx4 hx5 hx6
  clear hB8 hX8 hs8 hb8 hW8 hnw
  generalize yy.w = w10 at *
  have hle := hs10.le
  have hcm := hs10.cap
  have hrd2 := read_sl w10 A (np - 1) cp ((put c).take (np - 1)) 0 (hs10.take (np - 1) (by omega)) (fun x hx => put_bytes c HR.out x (List.mem_of_mem_take hx))
  rw [readV_short c HR.out (np - 1) _ (by rw [← HNP.out]; omega) (fun j hj => by simp [List.getD_eq_getElem?_getD, List.getElem?_take, hj])] at hrd2
  go_upto_region 9 with (fail)
  go_wp2_with fail
  refine hrd2.mono ?_
  rintro e w11 ⟨rfl, hg11⟩
  have hbT := (hb10.kept hg11).kept (gb_alloc (gb_refl w11 none) (.cells #[.int .i64 zero.op, .int .i64 zero.addr, .int .i64 zero.words, .int .i64 zero.cand, .int .i64 zero.many, .int .i64 zero.bits, .int .i64 zero.at_] 24))
  have hWT := gb_alloc (gb_trans hW10 hg11) (.cells #[.int .i64 zero.op, .int .i64 zero.addr, .int .i64 zero.words, .int .i64 zero.cand, .int .i64 zero.many, .int .i64 zero.bits, .int .i64 zero.at_] 24)
  clear hrd2 hs10 hb10 hW10 hg11 hle hcm
  go_upto_region 12 with (fail)
  refine forget_world (fun w' => Sl w' 0 Ab nb cb lb ∧ w.grownBy w' none) ⟨hbT, hWT⟩ ?_
  rintro w12 ⟨hbT, hWT⟩
  go_wp2_with fail
  refine (read_sl w12 Ab nb cb lb 0 hbT HXB.out).mono ?_
  rw [HV.out]
  rintro e wt ⟨rfl, hgt⟩
  have hWT2 := gb_alloc (gb_trans hWT hgt) (.cells #[.int .i64 y.op, .int .i64 y.addr, .int .i64 y.words, .int .i64 y.cand, .int .i64 y.many, .int .i64 y.bits, .int .i64 y.at_] 24)
  have hY := Blk.new wt 24 y.cells
  have hbT2 := (hbT.kept hgt).kept (gb_alloc (gb_refl wt none) (.cells #[.int .i64 y.op, .int .i64 y.addr, .int .i64 y.words, .int .i64 y.cand, .int .i64 y.many, .int .i64 y.bits, .int .i64 y.at_] 24))
  have cy0 := hY.cell 0 _ rfl
  have cy1 := hY.cell 1 _ rfl
  have cy2 := hY.cell 2 _ rfl
  have cy3 := hY.cell 3 _ rfl
  have cy4 := hY.cell 4 _ rfl
  have cy5 := hY.cell 5 _ rfl
  have cy6 := hY.cell 6 _ rfl
  clear hbT hgt
  go_upto_region 13 with (fail)
  refine forget_world (fun w' => Blk w' wt.heap.size 24 y.cells ∧ Sl w' 0 Ab nb cb lb ∧ w.grownBy w' none) ⟨hY, hbT2, hWT2⟩ ?_
  rintro wx ⟨hY, hbT2, hWT2⟩
  clear cy0 cy1 cy2 cy3 cy4 cy5 cy6
  have cy0 := hY.cell 0 _ rfl
  have cy1 := hY.cell 1 _ rfl
  have cy2 := hY.cell 2 _ rfl
  have cy3 := hY.cell 3 _ rfl
  have cy4 := hY.cell 4 _ rfl
  have cy5 := hY.cell 5 _ rfl
  have cy6 := hY.cell 6 _ rfl
  go_wp2_with fail
  refine (put_sl _ y HY.out.1 HY.out.2.1 HY.out.2.2.1 HY.out.2.2.2.1 HY.out.2.2.2.2).mono ?_
  rintro e wy ⟨Ay, cpy, rfl, hsy, hgy⟩
  clear cy0 cy1 cy2 cy3 cy4 cy5 cy6
  have hY2 := hY.kept hgy (by simp)
  have hbT3 := hbT2.kept hgy
  have hWT3 := gb_trans hWT2 hgy
  go_upto_region 15 with (fail)
  have hcy := fun x : New wy => (hsy.kept x.ok).conv Try.underlying22 Try.underlying5 Try.underlying9
  have hcb := fun x : New wy => ((hbT3.take k HK.out).kept x.ok).conv Try.underlying22 Try.underlying5 Try.underlying9
  rw [← HP.out] at hcb
  have hkb := HK.out
  have dk1 : decide ((k : Int) < 1) = false := by simp; omega
  have dk2 : decide (nb < k) = false := by simp; omega
  have hkc := hbT3.le
  have hkm := hbT3.cap
  have cz0 := fun x : New wy => (hY2.kept x.ok (by simp)).cell 0 _ rfl
  have cz1 := fun x : New wy => (hY2.kept x.ok (by simp)).cell 1 _ rfl
  have cz2 := fun x : New wy => (hY2.kept x.ok (by simp)).cell 2 _ rfl
  have cz3 := fun x : New wy => (hY2.kept x.ok (by simp)).cell 3 _ rfl
  have cz4 := fun x : New wy => (hY2.kept x.ok (by simp)).cell 4 _ rfl
  have cz5 := fun x : New wy => (hY2.kept x.ok (by simp)).cell 5 _ rfl
  have cz6 := fun x : New wy => (hY2.kept x.ok (by simp)).cell 6 _ rfl
  generalize put y = ppy at hcy hcb
  haveI hnw := new_ne wy
  refine new_start fun x => ?_
  refine wp_region_later (by kernel_rfl) (by kernel_rfl) ?_
  repeat (go_big_quiet_step ((first | (go_at_call 13; exact new_gb (right_yes _ y HY.out.1 HY.out.2.1 HY.out.2.2.1 HY.out.2.2.2.1 HY.out.2.2.2.2)))))
  refine wpQuiet_nil ?_
  intro _ hw'
  obtain ⟨yy, hw''⟩ := hw'
  subst hw''
  go_wp2_with fail
  refine (one_any _).mono ?_
  rintro e wu ⟨rfl, hgu⟩
  go_wp2_with fail
  go_ret
  exact ⟨rfl, below_of_gb (gb_trans (gb_trans hWT3 yy.ok) hgu)⟩
end cmdBackW
end Go.Proofs.Ytbhfbdldehahoaa
