/- ImageShort: no beginning of an image's bytes is one, and none with anything behind: the walk. -/
import Derived.Test.YtifnmnchpgbimaaImgL
namespace Go.Proofs.Ytifnmnchpgbimaa
open Go.ChangeShapes Go.WideShapes Go.ChangeAt Go.RowKit Go.Proofs.Ytifnmnchpgbimaa.Cm Go.Proofs.Ytifnmnchpgbimaa.Im
set_option linter.unusedVariables false
set_option linter.unusedSimpArgs false
namespace imageShortW
attribute [local go_sem] alloc_drewN' setCell_drewN'
set_option maxRecDepth 100000 in
set_option maxHeartbeats 2000000 in
theorem walk_no (w : World) (m : Mg) (A : Option Addr) (n c : Nat) (cut : Int) (Am : Option Addr) (nm cm : Nat) (h : ¬ (right m n ∧ nm ≤ 100)) :
    Calls Try.prog 6 #[m.v (.slice A n c), .int .i64 cut, .slice Am nm cm] w fun e w' => e = .returned (.bool true) ∧ Below w.heap.size w w' := by
  have hB0 := Blk.new w 25 (m.cells (.slice A n c))
  by_cases hr : right m n
  · have HR := Lib.hid hr
    have dm : decide ((100 : Int) < nm) = true := by simp; have : ¬ nm ≤ 100 := fun h' => h ⟨hr, h'⟩; omega
    clear h hr
    go_enter Try.func6, Try.ntmps6
    go_wp2_with fail
    refine (right_yes _ m A n c HR.out).mono ?_
    rintro e w1 ⟨rfl, hg1⟩
    go_wp2_with fail
    refine (one_any _).mono ?_
    rintro e w2 ⟨rfl, hg2⟩
    go_wp2_with fail
    go_ret
    exact ⟨rfl, below_of_gb (gb_trans (gb_trans (gb_alloc (gb_refl w none) _) hg1) hg2)⟩
  · have HR := Lib.hid hr
    clear h hr
    go_enter Try.func6, Try.ntmps6
    go_wp2_with fail
    refine (right_not _ m A n c HR.out).mono ?_
    rintro e w1 ⟨rfl, hg1⟩
    go_wp2_with fail
    refine (one_any _).mono ?_
    rintro e w2 ⟨rfl, hg2⟩
    go_wp2_with fail
    go_ret
    exact ⟨rfl, below_of_gb (gb_trans (gb_trans (gb_alloc (gb_refl w none) _) hg1) hg2)⟩
set_option maxRecDepth 100000 in
set_option maxHeartbeats 4000000 in
theorem walk_yes (w : World) (m : Mg) (A : Option Addr) (n c : Nat) (l : List Int) (cut : Int) (Am : Option Addr) (nm cm : Nat) (lm : List Int) (hs : Sl w 0 A n c l) (hb : ∀ x ∈ l, 0 ≤ x ∧ x ≤ 255)
    (hm : Sl w 0 Am nm cm lm) (hAm : Am = none → cm = 0) (hbm : ∀ x ∈ lm, 0 ≤ x ∧ x ≤ 255) (hr : right m n) (hnm : nm ≤ 100) :
    Calls Try.prog 6 #[m.v (.slice A n c), .int .i64 cut, .slice Am nm cm] w fun e w' => e = .returned (.bool true) ∧ Below w.heap.size w w' := by
  obtain ⟨i0, hi, hz0, hz1, hz2⟩ := info_parts u8_info
  have HR := Lib.hid hr
  have HB := Lib.hid hb
  have HBM := Lib.hid hbm
  have HAM := Lib.hid hAm
  have hln := hs.len
  have hlm := hm.len
  have hn1024 : n ≤ 1024 := hr.2.2.1
  have dm : decide ((100 : Int) < nm) = false := by simp; omega
  have hB0 := Blk.new w 25 (m.cells (.slice A n c))
  clear hr hb hbm hAm
  go_enter Try.func6, Try.ntmps6
  go_wp2_with fail
  refine (right_yes _ m A n c HR.out).mono ?_
  rintro e w1 ⟨rfl, hg1⟩
  have hB1 := hB0.kept hg1 (by simp)
  have hW1 := gb_trans (gb_alloc (gb_refl w none) _) hg1
  have hs1 := hs.kept hW1
  have hm1 := hm.kept hW1
  clear hB0 hg1 hs hm
  have p0 := hB1.cell 0 _ rfl
  have p1 := hB1.cell 1 _ rfl
  have p2 := hB1.cell 2 _ rfl
  have p3 := hB1.cell 3 _ rfl
  go_wp2_with fail
  refine (put_yes _ m A n c l hs1 HB.out HR.out).mono ?_
  rintro e w2 ⟨Ap, cp, rfl, hs2, hg2⟩
  have hm2 := hm1.kept hg2
  have hW2 := gb_trans hW1 hg2
  have HV := Lib.hid (putI_ok m l (by rw [hln]; exact HR.out) HB.out).1
  have HPB := Lib.hid (putI_bytes m l (by rw [hln]; exact HR.out) HB.out)
  have hPl := putI_len m l
  rw [hln] at hPl
  generalize putI m l = P at *
  obtain ⟨N, hN⟩ : ∃ N, 11 + n = N := ⟨_, rfl⟩
  rw [hN] at hs2 hPl ⊢
  have hN11 : 11 ≤ N := by omega
  have hN2 : N ≤ 1035 := by omega
  have hNi : ((N : Int) == 0) = false := by simp; omega
  have hNi2 : (N == 0) = false := by simp; omega
  have hNi3 : ¬ (N : Int) = 0 := by omega
  obtain ⟨r, hr0, hr1⟩ : ∃ r : Nat, bits .and .i64 cut 65535 = (r : Int) ∧ r < 65536 := ⟨(cut % 65536).toNat, by rw [mask16]; omega, by omega⟩
  have hcp := hs2.le
  have hcm := hs2.cap
  have hk : r % N < N := Nat.mod_lt _ (by omega)
  have hk0 : 0 ≤ (r : Int) % N := by omega
  have hk1 : (r : Int) % N ≤ cp := by omega
  have hk2 : (r : Int) % N ≤ N := by omega
  have hkt : ((r : Int) % N).toNat = r % N := by omega
  have hrd := read_bad w2 Ap (r % N) cp (P.take (r % N)) (hs2.take _ (by omega)) (fun x hx => HPB.out x (List.mem_of_mem_take hx)) (short_bad HV.out _ (by omega))
  have hv1 := short_bad HV.out (r % N) (by omega)
  generalize verdict (P.take (r % N)) = V1 at *
  have dV1 : (V1 != 0) = true := by simpa using hv1
  have hAp : Ap = none → cp = 0 := fun h0 => by
    obtain ⟨b, off, e, _⟩ := hs2.rd (by omega)
    rw [h0] at e; cases e
  clear p0 p1 p2 p3 hB1 hW1 hs1 hm1 hg2 hN
  generalize r % N = k at *
  go_wp2_with fail
  refine hrd.mono ?_
  rintro e w3 ⟨rfl, hg3⟩
  have hs3 := (hs2.kept hg3).kept (gb_alloc (gb_refl w3 none) (.cells #[.int .i64 0, .int .i64 0, .int .i64 0, .slice none 0 0] 25))
  have hm3 := (hm2.kept hg3).kept (gb_alloc (gb_refl w3 none) (.cells #[.int .i64 0, .int .i64 0, .int .i64 0, .slice none 0 0] 25))
  have hW3 := gb_alloc (gb_trans hW2 hg3) (.cells #[.int .i64 0, .int .i64 0, .int .i64 0, .slice none 0 0] 25)
  clear hrd hs2 hm2 hW2 hg3 hr0 hk0 hk1 hk2 hkt hk hr1 hv1
  go_upto_region 7 with (fail)
  refine forget_world (fun w' => Sl w' w1.heap.size Ap N cp P ∧ Sl w' 0 Am nm cm lm ∧ w.grownBy w' none) ⟨hs3, hm3, hW3⟩ ?_
  rintro w4 ⟨hs4, hm4, hW4⟩
  clear hs3 hm3 hW3
  go_wp2_with (first | (at_builtin; go_loud (refine wpList_app_sl _ rfl _ _ 23 rfl w4.heap.size 5 i0 Try.underlying23 hi hz0 hz1 hz2 _ 0 [] rfl (own_empty w4) Ap N cp P rfl hAp (hs4.kept (gb_alloc (gb_refl _ _) _)) (by omega) (by simp) ?_)) | fail)
  intro v5 w5 ho5 hg5
  have hBe5 : Below w4.heap.size w4 w5 := ((Below.refl w4.heap.size w4).alloc (Nat.le_refl _) _).grown hg5 (by simp) (fun k hk => by simp [Value.ownBlock] at hk; omega)
  replace ho5 : w5.ownsRow w4.heap.size 5 1 v5 N (nums .u8 P) := by simpa using ho5
  have hm5 := hm4.kept_below hBe5
  have hz5 := hBe5.size
  clear hg5 hs4 hm4
  go_wp2_with (first | (at_builtin; go_loud (refine wpList_app_sl _ rfl _ _ 23 rfl w4.heap.size 5 i0 Try.underlying23 hi hz0 hz1 hz2 _ N P rfl ho5 Am nm cm lm rfl HAM.out hm5 (by omega) (by omega) ?_)) | fail)
  intro v6 w6 ho6 hg6
  have hBe6 : Below w4.heap.size w4 w6 := hBe5.grown hg6 hz5 (own_block_ge ho5)
  obtain ⟨A6, c6, rfl, _⟩ := own_rd ho6
  have hs6 := Sl.of_own ho6
  have hW6 := gb_trans hW4 (gb_of_below hBe6)
  clear ho5 hg6 hBe5 hBe6 hz5 hm5 ho6 hW4
  have hx6 : ∀ x ∈ P ++ lm, 0 ≤ x ∧ x ≤ 255 := by
    intro x hx
    rcases List.mem_append.1 hx with h | h
    · exact HPB.out x h
    · exact HBM.out x h
  by_cases h0 : nm = 0
  · subst h0
    have hnil : lm = [] := by simpa using hlm
    subst hnil
    rw [List.append_nil] at hs6 hx6
    rw [Nat.add_zero] at hs6 ⊢
    have hrd := read_ok w6 A6 N c6 P hs6 hx6 HV.out
    clear hs6 hx6
    go_wp2_with fail
    refine hrd.mono ?_
    rintro e w7 ⟨A7, c7, rfl, hs7, hg7⟩
    have hW7 := gb_alloc (gb_trans hW6 hg7) (.cells #[.int .i64 (mg P).who, .int .i64 (mg P).e0, .int .i64 (mg P).e1, .slice A7 (N - 11) c7] 25)
    clear hrd
    go_wp2_with fail
    refine (one_any _).mono ?_
    rintro e w8 ⟨rfl, hg8⟩
    go_wp2_with fail
    go_ret
    exact ⟨rfl, below_of_gb (gb_trans hW7 hg8)⟩
  · have d0 : ((nm : Int) == 0) = false := by simp; omega
    have d0' : (nm == 0) = false := by simp; omega
    have hv := more_bad HV.out lm (by omega)
    have hrd := read_bad w6 A6 (N + nm) c6 (P ++ lm) hs6 hx6 hv
    generalize verdict (P ++ lm) = V2 at *
    have dV2 : (V2 == 0) = false := by simpa using hv
    clear hs6 hx6 hv h0
    go_wp2_with fail
    refine hrd.mono ?_
    rintro e w7 ⟨rfl, hg7⟩
    have hW7 := gb_alloc (gb_trans hW6 hg7) (.cells #[.int .i64 0, .int .i64 0, .int .i64 0, .slice none 0 0] 25)
    clear hrd
    go_wp2_with fail
    refine (one_any _).mono ?_
    rintro e w8 ⟨rfl, hg8⟩
    go_wp2_with fail
    go_ret
    exact ⟨rfl, below_of_gb (gb_trans hW7 hg8)⟩
theorem walk {H : Type} {enc : TypeId × Value → H} (base : Nat) (W : World) (v0 : Value) (d0 : DataW H) (p0 : List MemPlace) (v1 : Value) (d1 : DataW H) (p1 : List MemPlace) (v2 : Value) (d2 : DataW H) (p2 : List MemPlace)
    (o0 : Value.okWide Try.prog W .any base 25 v0) (o1 : Value.okWide Try.prog W .any base 3 v1) (o2 : Value.okWide Try.prog W .any base 23 v2)
    (h0 : DataW.Trod enc Try.prog W 0 (fun _ => true) true 25 v0 d0 p0) (h1 : DataW.Trod enc Try.prog W 0 (fun _ => true) true 3 v1 d1 p1) (h2 : DataW.Trod enc Try.prog W 0 (fun _ => true) true 23 v2 d2 p2) :
    Calls Try.prog 6 #[v0, v1, v2] W fun e w' => e = .returned (.bool true) ∧ Below W.heap.size W w' := by
  obtain ⟨m, A, n, c, l, rfl, hs, hA, hb⟩ := open_img o0 h0
  obtain ⟨cut, rfl, rfl, rfl, wn⟩ := open_int Try.underlying3 o1 h1
  obtain ⟨Am, nm, cm, lm, rfl, hm, hAm, hbm⟩ := open_bytes Try.underlying23 Try.underlying5 (by kernel_rfl) o2 h2
  by_cases h : right m n ∧ nm ≤ 100
  · exact walk_yes W m A n c l cut Am nm cm lm hs hb hm hAm hbm h.1 h.2
  · exact walk_no W m A n c cut Am nm cm h
end imageShortW
end Go.Proofs.Ytifnmnchpgbimaa
