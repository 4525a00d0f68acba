/- Images: the reference's Read. -/
import Derived.Test.YtifnmnchpgbimaaImgU
import Derived.Test.YtifnmnchpgbimaaImgG
namespace Go.Proofs.Ytifnmnchpgbimaa
open Go.RowKit
set_option linter.unusedVariables false
set_option linter.unusedSimpArgs false
namespace Im
open Cm
attribute [local go_sem] alloc_drewN' setCell_drewN'
attribute [local go_sem high] run_index_bz
attribute [-go_sem] run_index_string
attribute [-go_sem] run_string_add_if
theorem str_cut (l : List Int) (a b : Nat) (hb : b ≤ l.length) : (strOfNums l).extract a b = strOfNums ((l.take b).drop a) := by
  apply ByteArray.ext
  rw [ByteArray.data_extract]
  apply Array.toList_inj.1
  unfold strOfNums
  simp [List.drop_take]
abbrev rbad (e : Int) : Value := .tuple #[.int .i64 0, .agg #[.int .i64 0, .int .i64 0], .string ⟨#[]⟩, .int .i64 e]
abbrev rgood (m : Mg) (s : ByteArray) : Value := .tuple #[.int .i64 m.who, .agg #[.int .i64 m.e0, .int .i64 m.e1], .string s, .int .i64 0]
theorem rsum_gb (w : World) (s : ByteArray) (l : List Int) (hs : s.size = l.length) (hz : ∀ i, bz s i = l.getD i 0) (hl : l.length ≤ 9223372036854775807) (hb : ∀ x ∈ l, 0 ≤ x ∧ x ≤ 255) :
    Calls Try.prog 14 #[.string s] w fun e w' => e = .returned (.int .i64 (crc l)) ∧ w.grownBy w' none :=
  (rsum_any w s l hs hz hl hb).mono fun _ _ ⟨he, hw⟩ => ⟨he, by rw [← hw]; exact gb_refl _ _⟩
set_option maxRecDepth 100000 in
set_option maxHeartbeats 2000000 in
theorem rread_short (w : World) (s : ByteArray) (n : Nat) (hs : s.size = n) (hn : n < 11) :
    Calls Try.prog 12 #[.string s] w fun e w' => e = .returned (rbad 10) ∧ w.grownBy w' none := by
  have dn : decide ((n : Int) < 11) = true := by simp; omega
  go_enter Try.func12, Try.ntmps12
  go_wp2_with fail
  refine bodyPost_ret (v := rbad 10) (by simp [results, Try.results12, go_sem]) rfl ⟨rfl, ?_⟩
  repeat (with_reducible (first | exact gb_refl _ _ | apply gb_drewN | apply gb_drew | apply gb_alloc | (refine gb_setNew ?_ (by simp <;> omega) _)))
set_option maxRecDepth 100000 in
set_option maxHeartbeats 4000000 in
theorem rread_magic (w : World) (l : List Int) (n : Nat) (hln : l.length = n) (hb : ∀ x ∈ l, 0 ≤ x ∧ x ≤ 255) (hn : 11 ≤ n) (hmax : n ≤ 100000) (hm : l.take 2 ≠ [84, 49]) :
    Calls Try.prog 12 #[.string (strOfNums l)] w fun e w' => e = .returned (rbad 11) ∧ w.grownBy w' none := by
  have HB := Lib.hid hb
  have dn : decide ((n : Int) < 11) = false := by simp; omega
  have hs : (strOfNums l).size = n := by rw [strOfNums_size, hln]
  have z7 := getD_bytes hb 7
  have z8 := getD_bytes hb 8
  have b7 : bz (strOfNums l) 7 = l.getD 7 0 := by rw [bz_str hb]
  have b8 : bz (strOfNums l) 8 = l.getD 8 0 := by rw [bz_str hb]
  have HBZ := Lib.hid (show ∀ i, bz (strOfNums l) i = l.getD i 0 from fun i => by rw [bz_str hb])
  have HCUT := Lib.hid (show ∀ a b, b ≤ n → (strOfNums l).extract a b = strOfNums ((l.take b).drop a) from fun a b h => str_cut l a b (by omega))
  have E0 : ((strOfNums l).extract 0 2).toList = (strOfNums (l.take 2)).toList := by rw [HCUT.out 0 2 (by omega)]; rfl
  have hpre : ((strOfNums (l.take 2)).toList == (strOfNums [84, 49]).toList) = decide (l.take 2 = [84, 49]) := str_eq _ _ (fun x hx => hb x (List.mem_of_mem_take hx)) (by intro x hx; simp at hx; omega)
  have hpre2 : (((strOfNums l).extract 0 2).toList == (ByteArray.mk #[84, 49]).toList) = decide (l.take 2 = [84, 49]) := by rw [E0]; exact hpre
  rw [show (ByteArray.mk #[84, 49]).toList = [84, 49] by rw [ByteArray.toList_eq]] at hpre2
  have g7 : (7 : Int) < n := by omega
  have g8 : (8 : Int) < n := by omega
  have g2 : (2 : Int) ≤ n := by omega
  clear hb hpre E0
  generalize strOfNums l = s at *
  generalize l.getD 7 0 = a7 at *
  generalize l.getD 8 0 = a8 at *
  have hB0 := Blk.new w 22 [.int .i64 0, .int .i64 0]
  go_enter Try.func12, Try.ntmps12
  go_upto_region 3 with (fail)
  refine forget_world (fun w' => Blk w' w.heap.size 22 [.int .i64 0, .int .i64 0] ∧ w.grownBy w' none) ⟨hB0, gb_alloc (gb_refl w none) _⟩ ?_
  rintro w1 ⟨hB1, hW1⟩
  clear hB0
  rw [decide_eq_false hm] at hpre2
  haveI hnw := new_ne w1
  refine new_start fun x => ?_
  refine wp_region_later (by kernel_rfl) (by kernel_rfl) ?_
  repeat (go_big_quiet_step (fail))
  refine wpQuiet_nil ?_
  intro _ hw'
  obtain ⟨yy, hw''⟩ := hw'
  subst hw''
  have hB2 := hB1.kept yy.ok (by simp)
  have hW2 := gb_trans hW1 yy.ok
  clear hB1 hW1 hnw
  generalize yy.w = w2 at *
  have r0 := hB2.cell 0 _ rfl
  have r1 := hB2.cell 1 _ rfl
  have f0 := hB2.free 0
  have f1 := hB2.free 1
  go_wp2_with fail
  have hE := ((hB2.set 0 (.int .i64 0)).set 1 (.int .i64 0))
  refine bodyPost_ret (v := rbad 11) (by simp [results, Try.results12, go_sem, hE.cell 0 _ rfl, hE.cell 1 _ rfl]) rfl ⟨rfl, ?_⟩
  repeat (with_reducible (first | exact hW2 | apply gb_drewN | apply gb_drew | apply gb_alloc | (refine gb_setNew ?_ (by simp <;> omega) _)))
set_option maxRecDepth 100000 in
set_option maxHeartbeats 4000000 in
theorem rread_length (w : World) (l : List Int) (n : Nat) (hln : l.length = n) (hb : ∀ x ∈ l, 0 ≤ x ∧ x ≤ 255) (hn : 11 ≤ n) (hmax : n ≤ 100000) (hm : l.take 2 = [84, 49]) (hL : (n : Int) ≠ 11 + long l) :
    Calls Try.prog 12 #[.string (strOfNums l)] w fun e w' => e = .returned (rbad 11) ∧ w.grownBy w' none := by
  have HL := Lib.hid (show (n : Int) ≠ 11 + (256 * l.getD 7 0 + l.getD 8 0) from hL)
  clear hL
  have HB := Lib.hid hb
  have dn : decide ((n : Int) < 11) = false := by simp; omega
  have hs : (strOfNums l).size = n := by rw [strOfNums_size, hln]
  have z7 := getD_bytes hb 7
  have z8 := getD_bytes hb 8
  have b7 : bz (strOfNums l) 7 = l.getD 7 0 := by rw [bz_str hb]
  have b8 : bz (strOfNums l) 8 = l.getD 8 0 := by rw [bz_str hb]
  have HBZ := Lib.hid (show ∀ i, bz (strOfNums l) i = l.getD i 0 from fun i => by rw [bz_str hb])
  have HCUT := Lib.hid (show ∀ a b, b ≤ n → (strOfNums l).extract a b = strOfNums ((l.take b).drop a) from fun a b h => str_cut l a b (by omega))
  have E0 : ((strOfNums l).extract 0 2).toList = (strOfNums (l.take 2)).toList := by rw [HCUT.out 0 2 (by omega)]; rfl
  have hpre : ((strOfNums (l.take 2)).toList == (strOfNums [84, 49]).toList) = decide (l.take 2 = [84, 49]) := str_eq _ _ (fun x hx => hb x (List.mem_of_mem_take hx)) (by intro x hx; simp at hx; omega)
  have hpre2 : (((strOfNums l).extract 0 2).toList == (ByteArray.mk #[84, 49]).toList) = decide (l.take 2 = [84, 49]) := by rw [E0]; exact hpre
  rw [show (ByteArray.mk #[84, 49]).toList = [84, 49] by rw [ByteArray.toList_eq]] at hpre2
  have g7 : (7 : Int) < n := by omega
  have g8 : (8 : Int) < n := by omega
  have g2 : (2 : Int) ≤ n := by omega
  clear hb hpre E0
  generalize strOfNums l = s at *
  generalize l.getD 7 0 = a7 at *
  generalize l.getD 8 0 = a8 at *
  have hB0 := Blk.new w 22 [.int .i64 0, .int .i64 0]
  go_enter Try.func12, Try.ntmps12
  go_upto_region 3 with (fail)
  refine forget_world (fun w' => Blk w' w.heap.size 22 [.int .i64 0, .int .i64 0] ∧ w.grownBy w' none) ⟨hB0, gb_alloc (gb_refl w none) _⟩ ?_
  rintro w1 ⟨hB1, hW1⟩
  clear hB0
  rw [decide_eq_true hm] at hpre2
  have dL : ((n : Int) != 11 + 256 * a7 + a8) = true := by
    have := HL.out
    simp
    omega
  haveI hnw := new_ne w1
  refine new_start fun x => ?_
  refine wp_region_later (by kernel_rfl) (by kernel_rfl) ?_
  repeat (go_big_quiet_step (fail))
  refine wpQuiet_nil ?_
  intro _ hw'
  obtain ⟨yy, hw''⟩ := hw'
  subst hw''
  have hB2 := hB1.kept yy.ok (by simp)
  have hW2 := gb_trans hW1 yy.ok
  clear hB1 hW1 hnw
  generalize yy.w = w2 at *
  have r0 := hB2.cell 0 _ rfl
  have r1 := hB2.cell 1 _ rfl
  have f0 := hB2.free 0
  have f1 := hB2.free 1
  go_wp2_with fail
  have hE := ((hB2.set 0 (.int .i64 0)).set 1 (.int .i64 0))
  refine bodyPost_ret (v := rbad 11) (by simp [results, Try.results12, go_sem, hE.cell 0 _ rfl, hE.cell 1 _ rfl]) rfl ⟨rfl, ?_⟩
  repeat (with_reducible (first | exact hW2 | apply gb_drewN | apply gb_drew | apply gb_alloc | (refine gb_setNew ?_ (by simp <;> omega) _)))
set_option maxRecDepth 100000 in
set_option maxHeartbeats 4000000 in
theorem rread_sum (w : World) (l : List Int) (n : Nat) (hln : l.length = n) (hb : ∀ x ∈ l, 0 ≤ x ∧ x ≤ 255) (hn : 11 ≤ n) (hmax : n ≤ 100000) (hm : l.take 2 = [84, 49]) (hL : (n : Int) = 11 + long l) (hS : 256 * at_ l (n - 2) + at_ l (n - 1) ≠ crc (l.take (n - 2))) :
    Calls Try.prog 12 #[.string (strOfNums l)] w fun e w' => e = .returned (rbad 12) ∧ w.grownBy w' none := by
  have HL := Lib.hid (show (n : Int) = 11 + (256 * l.getD 7 0 + l.getD 8 0) from hL)
  clear hL
  have HB := Lib.hid hb
  have dn : decide ((n : Int) < 11) = false := by simp; omega
  have hs : (strOfNums l).size = n := by rw [strOfNums_size, hln]
  have z7 := getD_bytes hb 7
  have z8 := getD_bytes hb 8
  have b7 : bz (strOfNums l) 7 = l.getD 7 0 := by rw [bz_str hb]
  have b8 : bz (strOfNums l) 8 = l.getD 8 0 := by rw [bz_str hb]
  have HBZ := Lib.hid (show ∀ i, bz (strOfNums l) i = l.getD i 0 from fun i => by rw [bz_str hb])
  have HCUT := Lib.hid (show ∀ a b, b ≤ n → (strOfNums l).extract a b = strOfNums ((l.take b).drop a) from fun a b h => str_cut l a b (by omega))
  have E0 : ((strOfNums l).extract 0 2).toList = (strOfNums (l.take 2)).toList := by rw [HCUT.out 0 2 (by omega)]; rfl
  have hpre : ((strOfNums (l.take 2)).toList == (strOfNums [84, 49]).toList) = decide (l.take 2 = [84, 49]) := str_eq _ _ (fun x hx => hb x (List.mem_of_mem_take hx)) (by intro x hx; simp at hx; omega)
  have hpre2 : (((strOfNums l).extract 0 2).toList == (ByteArray.mk #[84, 49]).toList) = decide (l.take 2 = [84, 49]) := by rw [E0]; exact hpre
  rw [show (ByteArray.mk #[84, 49]).toList = [84, 49] by rw [ByteArray.toList_eq]] at hpre2
  have g7 : (7 : Int) < n := by omega
  have g8 : (8 : Int) < n := by omega
  have g2 : (2 : Int) ≤ n := by omega
  clear hb hpre E0
  generalize strOfNums l = s at *
  generalize l.getD 7 0 = a7 at *
  generalize l.getD 8 0 = a8 at *
  have hB0 := Blk.new w 22 [.int .i64 0, .int .i64 0]
  go_enter Try.func12, Try.ntmps12
  go_upto_region 3 with (fail)
  refine forget_world (fun w' => Blk w' w.heap.size 22 [.int .i64 0, .int .i64 0] ∧ w.grownBy w' none) ⟨hB0, gb_alloc (gb_refl w none) _⟩ ?_
  rintro w1 ⟨hB1, hW1⟩
  clear hB0
  rw [decide_eq_true hm] at hpre2
  have dL : ((n : Int) != 11 + 256 * a7 + a8) = false := by
    have := HL.out
    simp
    omega
  haveI hnw := new_ne w1
  refine new_start fun x => ?_
  refine wp_region_later (by kernel_rfl) (by kernel_rfl) ?_
  repeat (go_big_quiet_step (fail))
  refine wpQuiet_nil ?_
  intro _ hw'
  obtain ⟨yy, hw''⟩ := hw'
  subst hw''
  have hB2 := hB1.kept yy.ok (by simp)
  have hW2 := gb_trans hW1 yy.ok
  clear hB1 hW1 hnw
  generalize yy.w = w2 at *
  have hcl := crc_lt (l.take (n - 2))
  have C1 : s.extract 0 (n - 2) = strOfNums (l.take (n - 2)) := by rw [HCUT.out 0 (n - 2) (by omega)]; rfl
  have C2 : s.extract (n - 2) n = strOfNums ((l.take n).drop (n - 2)) := HCUT.out (n - 2) n (Nat.le_refl _)
  have hlt : (l.take n).drop (n - 2) = [l.getD (n - 2) 0, l.getD (n - 1) 0] := by
    rw [List.take_of_length_le (by omega), List.drop_eq_getElem_cons (by omega), List.drop_eq_getElem_cons (by omega), List.drop_eq_nil_of_le (by omega), List.getD_eq_getElem?_getD, List.getD_eq_getElem?_getD, List.getElem?_eq_getElem (by omega), List.getElem?_eq_getElem (show n - 1 < l.length by omega)]
    simp
    congr 1
    omega
  have y0 := getD_bytes HB.out (n - 2)
  have y1 := getD_bytes HB.out (n - 1)
  have hcmp := str_eq [(crc (l.take (n - 2)) : Int) / 256, (crc (l.take (n - 2)) : Int) % 256] ((l.take n).drop (n - 2)) (by intro x hx; simp at hx; omega) (by rw [hlt]; intro x hx; simp at hx; rcases hx with h | h <;> rw [h] <;> assumption)
  rw [decide_eq_false (by rw [hlt]; intro h; simp at h; unfold at_ at hS; simp at hS; omega)] at hcmp
  have hsum := fun w' : World => rsum_gb w' (strOfNums (l.take (n - 2))) (l.take (n - 2)) (by rw [strOfNums_size]) (fun i => by rw [bz_str (fun x hx => HB.out x (List.mem_of_mem_take hx))]) (by simp; omega) (fun x hx => HB.out x (List.mem_of_mem_take hx))
  have dnt : ((n : Int) - 2).toNat = n - 2 := by omega
  have dn0 : (0 : Int) ≤ (n : Int) - 2 := by omega
  have dn1 : (n : Int) - 2 ≤ n := by omega
  have HCD := Lib.hid (show s.extract 9 (n - 2) = strOfNums (code l n) from HCUT.out 9 (n - 2) (by omega))
  clear hpre2 dL b7 b8 g7 g8 g2
  generalize strOfNums (l.take (n - 2)) = SB at *
  generalize strOfNums ((l.take n).drop (n - 2)) = ST at *
  generalize crc (l.take (n - 2)) = S at *
  generalize hSW : strOfNums [(S : Int) / 256, (S : Int) % 256] = SW at *
  have htwo := fun w' : World => rtwo_any w' (S : Int) (by omega) (by omega)
  rw [hSW] at htwo
  go_upto_region 5 with (fail)
  haveI hnw := new_ne w2
  refine new_start fun x => ?_
  refine wp_region_later (by kernel_rfl) (by kernel_rfl) ?_
  repeat (go_big_quiet_step ((first | (go_at_call 14; exact new_gb (hsum _)) | (go_at_call 19; exact new_gb (htwo _)))))
  refine wpQuiet_nil ?_
  intro _ hw'
  obtain ⟨yz, hw''⟩ := hw'
  subst hw''
  have hB3 := hB2.kept yz.ok (by simp)
  have hW3 := gb_trans hW2 yz.ok
  clear hB2 hW2 hnw hsum htwo C1 C2 hcmp hlt y0 y1
  generalize yz.w = w3 at *
  have r0 := hB3.cell 0 _ rfl
  have r1 := hB3.cell 1 _ rfl
  have f0 := hB3.free 0
  have f1 := hB3.free 1
  go_wp2_with fail
  have hE := ((hB3.set 0 (.int .i64 0)).set 1 (.int .i64 0))
  refine bodyPost_ret (v := rbad 12) (by simp [results, Try.results12, go_sem, hE.cell 0 _ rfl, hE.cell 1 _ rfl]) rfl ⟨rfl, ?_⟩
  repeat (with_reducible (first | exact hW3 | apply gb_drewN | apply gb_drew | apply gb_alloc | (refine gb_setNew ?_ (by simp <;> omega) _)))
/-- How the reference's Read ends where the sum is right. -/
def RFull (w : World) (l : List Int) (n : Nat) (e : Ending) (w' : World) : Prop :=
  (right (mg l) (n - 11) ∧ e = .returned (rgood (mg l) (strOfNums (code l n))) ∧ w.grownBy w' none) ∨ (¬ right (mg l) (n - 11) ∧ e = .returned (rbad 11) ∧ w.grownBy w' none)
set_option maxRecDepth 100000 in
set_option maxHeartbeats 4000000 in
theorem rread_full (w : World) (l : List Int) (n : Nat) (hln : l.length = n) (hb : ∀ x ∈ l, 0 ≤ x ∧ x ≤ 255) (hn : 11 ≤ n) (hmax : n ≤ 100000) (hm : l.take 2 = [84, 49]) (hL : (n : Int) = 11 + long l) (hS : 256 * at_ l (n - 2) + at_ l (n - 1) = crc (l.take (n - 2))) :
    Calls Try.prog 12 #[.string (strOfNums l)] w fun e w' => RFull w l n e w' := by
  have HL := Lib.hid (show (n : Int) = 11 + (256 * l.getD 7 0 + l.getD 8 0) from hL)
  clear hL
  have HB := Lib.hid hb
  have dn : decide ((n : Int) < 11) = false := by simp; omega
  have hs : (strOfNums l).size = n := by rw [strOfNums_size, hln]
  have z7 := getD_bytes hb 7
  have z8 := getD_bytes hb 8
  have b7 : bz (strOfNums l) 7 = l.getD 7 0 := by rw [bz_str hb]
  have b8 : bz (strOfNums l) 8 = l.getD 8 0 := by rw [bz_str hb]
  have HBZ := Lib.hid (show ∀ i, bz (strOfNums l) i = l.getD i 0 from fun i => by rw [bz_str hb])
  have HCUT := Lib.hid (show ∀ a b, b ≤ n → (strOfNums l).extract a b = strOfNums ((l.take b).drop a) from fun a b h => str_cut l a b (by omega))
  have E0 : ((strOfNums l).extract 0 2).toList = (strOfNums (l.take 2)).toList := by rw [HCUT.out 0 2 (by omega)]; rfl
  have hpre : ((strOfNums (l.take 2)).toList == (strOfNums [84, 49]).toList) = decide (l.take 2 = [84, 49]) := str_eq _ _ (fun x hx => hb x (List.mem_of_mem_take hx)) (by intro x hx; simp at hx; omega)
  have hpre2 : (((strOfNums l).extract 0 2).toList == (ByteArray.mk #[84, 49]).toList) = decide (l.take 2 = [84, 49]) := by rw [E0]; exact hpre
  rw [show (ByteArray.mk #[84, 49]).toList = [84, 49] by rw [ByteArray.toList_eq]] at hpre2
  have g7 : (7 : Int) < n := by omega
  have g8 : (8 : Int) < n := by omega
  have g2 : (2 : Int) ≤ n := by omega
  clear hb hpre E0
  generalize strOfNums l = s at *
  generalize l.getD 7 0 = a7 at *
  generalize l.getD 8 0 = a8 at *
  have hB0 := Blk.new w 22 [.int .i64 0, .int .i64 0]
  go_enter Try.func12, Try.ntmps12
  go_upto_region 3 with (fail)
  refine forget_world (fun w' => Blk w' w.heap.size 22 [.int .i64 0, .int .i64 0] ∧ w.grownBy w' none) ⟨hB0, gb_alloc (gb_refl w none) _⟩ ?_
  rintro w1 ⟨hB1, hW1⟩
  clear hB0
  rw [decide_eq_true hm] at hpre2
  have dL : ((n : Int) != 11 + 256 * a7 + a8) = false := by
    have := HL.out
    simp
    omega
  haveI hnw := new_ne w1
  refine new_start fun x => ?_
  refine wp_region_later (by kernel_rfl) (by kernel_rfl) ?_
  repeat (go_big_quiet_step (fail))
  refine wpQuiet_nil ?_
  intro _ hw'
  obtain ⟨yy, hw''⟩ := hw'
  subst hw''
  have hB2 := hB1.kept yy.ok (by simp)
  have hW2 := gb_trans hW1 yy.ok
  clear hB1 hW1 hnw
  generalize yy.w = w2 at *
  have hcl := crc_lt (l.take (n - 2))
  have C1 : s.extract 0 (n - 2) = strOfNums (l.take (n - 2)) := by rw [HCUT.out 0 (n - 2) (by omega)]; rfl
  have C2 : s.extract (n - 2) n = strOfNums ((l.take n).drop (n - 2)) := HCUT.out (n - 2) n (Nat.le_refl _)
  have hlt : (l.take n).drop (n - 2) = [l.getD (n - 2) 0, l.getD (n - 1) 0] := by
    rw [List.take_of_length_le (by omega), List.drop_eq_getElem_cons (by omega), List.drop_eq_getElem_cons (by omega), List.drop_eq_nil_of_le (by omega), List.getD_eq_getElem?_getD, List.getD_eq_getElem?_getD, List.getElem?_eq_getElem (by omega), List.getElem?_eq_getElem (show n - 1 < l.length by omega)]
    simp
    congr 1
    omega
  have y0 := getD_bytes HB.out (n - 2)
  have y1 := getD_bytes HB.out (n - 1)
  have hcmp := str_eq [(crc (l.take (n - 2)) : Int) / 256, (crc (l.take (n - 2)) : Int) % 256] ((l.take n).drop (n - 2)) (by intro x hx; simp at hx; omega) (by rw [hlt]; intro x hx; simp at hx; rcases hx with h | h <;> rw [h] <;> assumption)
  rw [decide_eq_true (by rw [hlt]; have e1 : (crc (l.take (n - 2)) : Int) / 256 = l.getD (n - 2) 0 := (by unfold at_ at hS; omega); have e2 : (crc (l.take (n - 2)) : Int) % 256 = l.getD (n - 1) 0 := (by unfold at_ at hS; omega); rw [e1, e2])] at hcmp
  have hsum := fun w' : World => rsum_gb w' (strOfNums (l.take (n - 2))) (l.take (n - 2)) (by rw [strOfNums_size]) (fun i => by rw [bz_str (fun x hx => HB.out x (List.mem_of_mem_take hx))]) (by simp; omega) (fun x hx => HB.out x (List.mem_of_mem_take hx))
  have dnt : ((n : Int) - 2).toNat = n - 2 := by omega
  have dn0 : (0 : Int) ≤ (n : Int) - 2 := by omega
  have dn1 : (n : Int) - 2 ≤ n := by omega
  have HCD := Lib.hid (show s.extract 9 (n - 2) = strOfNums (code l n) from HCUT.out 9 (n - 2) (by omega))
  clear hpre2 dL b7 b8 g7 g8 g2
  generalize strOfNums (l.take (n - 2)) = SB at *
  generalize strOfNums ((l.take n).drop (n - 2)) = ST at *
  generalize crc (l.take (n - 2)) = S at *
  generalize hSW : strOfNums [(S : Int) / 256, (S : Int) % 256] = SW at *
  have htwo := fun w' : World => rtwo_any w' (S : Int) (by omega) (by omega)
  rw [hSW] at htwo
  go_upto_region 5 with (fail)
  haveI hnw := new_ne w2
  refine new_start fun x => ?_
  refine wp_region_later (by kernel_rfl) (by kernel_rfl) ?_
  repeat (go_big_quiet_step ((first | (go_at_call 14; exact new_gb (hsum _)) | (go_at_call 19; exact new_gb (htwo _)))))
  refine wpQuiet_nil ?_
  intro _ hw'
  obtain ⟨yz, hw''⟩ := hw'
  subst hw''
  have hB3 := hB2.kept yz.ok (by simp)
  have hW3 := gb_trans hW2 yz.ok
  clear hB2 hW2 hnw hsum htwo C1 C2 hcmp hlt y0 y1
  generalize yz.w = w3 at *
  have b2 := HBZ.out 2
  have b3 := HBZ.out 3
  have b4 := HBZ.out 4
  have b5 := HBZ.out 5
  have b6 := HBZ.out 6
  obtain ⟨q2, q2'⟩ := getD_bytes HB.out 2
  obtain ⟨q3, q3'⟩ := getD_bytes HB.out 3
  obtain ⟨q4, q4'⟩ := getD_bytes HB.out 4
  obtain ⟨q5, q5'⟩ := getD_bytes HB.out 5
  obtain ⟨q6, q6'⟩ := getD_bytes HB.out 6
  have hMG : Hid (mg l = ⟨l.getD 2 0, 256 * l.getD 3 0 + l.getD 4 0, 256 * l.getD 5 0 + l.getD 6 0⟩) := rfl
  generalize l.getD 2 0 = a2 at *
  generalize l.getD 3 0 = a3 at *
  generalize l.getD 4 0 = a4 at *
  generalize l.getD 5 0 = a5 at *
  generalize l.getD 6 0 = a6 at *
  have g2 : (2 : Int) < n := by omega
  have g3 : (3 : Int) < n := by omega
  have g4 : (4 : Int) < n := by omega
  have g5 : (5 : Int) < n := by omega
  have g6 : (6 : Int) < n := by omega
  have wr0 : IntKind.i64.wrap (256 * a3) = 256 * a3 := by rw [IntKind.wrap_i64]; omega
  have wr1 : IntKind.i64.wrap (256 * a5) = 256 * a5 := by rw [IntKind.wrap_i64]; omega
  have wr2 : IntKind.i64.wrap (256 * a3 + a4) = 256 * a3 + a4 := by rw [IntKind.wrap_i64]; omega
  have wr3 : IntKind.i64.wrap (256 * a5 + a6) = 256 * a5 + a6 := by rw [IntKind.wrap_i64]; omega
  have d9 : (9 : Int) ≤ (n : Int) - 2 := by omega
  have d9' : 9 ≤ n - 2 := by omega
  have hCD := HCD.out
  have hcs : (strOfNums (code l n)).size = n - 11 := by rw [strOfNums_size, code_len (k := n - 11) hln (by omega)]
  generalize hSC : strOfNums (code l n) = SC at *
  go_upto_region 7 with (fail)
  go_region
  have hB4 := (hB3.alloc (.cells #[.int .i64 (256 * a3 + a4), .int .i64 (256 * a5 + a6)] 22)).drew
  have hT4 := (Blk.new w3 22 [.int .i64 (256 * a3 + a4), .int .i64 (256 * a5 + a6)]).drew
  have hW4 := gb_drew (gb_alloc hW3 (.cells #[.int .i64 (256 * a3 + a4), .int .i64 (256 * a5 + a6)] 22))
  have hql := hB3.lt
  clear hB3 hW3 wr0 wr1 wr2 wr3 b3 b4 b5 b6 g3 g4 g5 g6
  generalize 256 * a3 + a4 = E0 at *
  generalize 256 * a5 + a6 = E1 at *
  go_upto_region 9 with (fail)
  refine forget_world (fun w' => Blk w' w.heap.size 22 [.int .i64 0, .int .i64 0] ∧ Blk w' w3.heap.size 22 [.int .i64 E0, .int .i64 E1] ∧ w.grownBy w' none) ⟨hB4, hT4, hW4⟩ ?_
  generalize w3.heap.size = q at *
  rintro w5 ⟨hB5, hT5, hW5⟩
  clear hB4 hT4 hW4
  have t0 := fun x : New w5 => (hT5.kept x.ok (by simp)).cell 0 _ rfl
  have t1 := fun x : New w5 => (hT5.kept x.ok (by simp)).cell 1 _ rfl
  by_cases hr : right ⟨a2, E0, E1⟩ (n - 11)
  · have HRR := Lib.hid hr
    clear hr
    haveI hnw := new_ne w5
    refine new_start fun x => ?_
    refine wp_region_later (by kernel_rfl) (by kernel_rfl) ?_
    repeat (go_big_quiet_step ((first | (go_at_call 8; exact new_gb (rright_yes _ ⟨a2, E0, E1⟩ SC (n - 11) hcs HRR.out)))))
    refine wpQuiet_nil ?_
    intro _ hw'
    obtain ⟨yu, hw''⟩ := hw'
    subst hw''
    have hB6 := hB5.kept yu.ok (by simp)
    have hT6 := hT5.kept yu.ok (by simp)
    have hW6 := gb_trans hW5 yu.ok
    clear hB5 hT5 hW5 hnw t0 t1
    generalize yu.w = w6 at *
    have t0 := hT6.cell 0 _ rfl
    have t1 := hT6.cell 1 _ rfl
    have f0 := hB6.free 0
    have f1 := hB6.free 1
    have r0 := hB6.cell 0 _ rfl
    have r1 := hB6.cell 1 _ rfl
    go_upto_region 11 with (fail)
    go_region
    all_goals
      go_wp2_with fail
      have hE := ((hB6.set 0 (.int .i64 E0)).set 1 (.int .i64 E1))
      refine bodyPost_ret (v := rgood ⟨a2, E0, E1⟩ SC) (by simp [results, Try.results12, go_sem, hE.cell 0 _ rfl, hE.cell 1 _ rfl]) rfl (.inl ⟨by rw [hMG]; exact HRR.out, by rw [hMG, hSC], ?_⟩)
      repeat (with_reducible (first | exact hW6 | apply gb_drewN | apply gb_drew | apply gb_alloc | (refine gb_setNew ?_ (by simp <;> omega) _)))
  · have HRR := Lib.hid hr
    clear hr
    haveI hnw := new_ne w5
    refine new_start fun x => ?_
    refine wp_region_later (by kernel_rfl) (by kernel_rfl) ?_
    repeat (go_big_quiet_step ((first | (go_at_call 8; exact new_gb (rright_not _ ⟨a2, E0, E1⟩ SC (n - 11) hcs HRR.out)))))
    refine wpQuiet_nil ?_
    intro _ hw'
    obtain ⟨yu, hw''⟩ := hw'
    subst hw''
    have hB2 := hB5.kept yu.ok (by simp)
    have hW2 := gb_trans hW5 yu.ok
    clear hB5 hT5 hW5 hnw t0 t1
    generalize yu.w = w6 at *
    have r0 := hB2.cell 0 _ rfl
    have r1 := hB2.cell 1 _ rfl
    have f0 := hB2.free 0
    have f1 := hB2.free 1
    go_wp2_with fail
    have hE := ((hB2.set 0 (.int .i64 0)).set 1 (.int .i64 0))
    refine bodyPost_ret (v := rbad 11) (by simp [results, Try.results12, go_sem, hE.cell 0 _ rfl, hE.cell 1 _ rfl]) rfl (.inr ⟨by rw [hMG]; exact HRR.out, rfl, ?_⟩)
    repeat (with_reducible (first | exact hW2 | apply gb_drewN | apply gb_drew | apply gb_alloc | (refine gb_setNew ?_ (by simp <;> omega) _)))
end Im
end Go.Proofs.Ytifnmnchpgbimaa
