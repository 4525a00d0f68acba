/- ImageBytes: any image may be, and has the document's bytes, or none; any bytes are its image, or none: the walk. -/
import Derived.Test.YtifnmnchpgbimaaImgW
namespace Go.Proofs.Ytifnmnchpgbimaa
open Go.ChangeShapes Go.WideShapes Go.ChangeAt Go.RowKit Go.Proofs.Ytifnmnchpgbimaa.Cm Go.Proofs.Ytifnmnchpgbimaa.Im
set_option linter.unusedVariables false
set_option linter.unusedSimpArgs false
namespace imageBytesW
attribute [local go_sem] alloc_drewN' setCell_drewN'
attribute [local go_sem high] eq_pair
set_option maxRecDepth 100000 in
set_option maxHeartbeats 1000000 in
theorem long_list (w : World) (m : Mg) (A : Option Addr) (n c : Nat) (Ab : Option Addr) (nb cb : Nat) (h : ¬ (n ≤ 1500 ∧ nb ≤ 1500)) :
    Calls Try.prog 3 #[m.v (.slice A n c), .slice Ab nb cb] w fun e w' => e = .returned (.bool true) ∧ Below w.heap.size w w' := by
  have hB0 := Blk.new w 25 (m.cells (.slice A n c))
  by_cases h1 : n ≤ 1500
  · have dm : decide ((1500 : Int) < n) = false := by simp; omega
    have dn : decide ((1500 : Int) < nb) = true := by simp; omega
    go_enter Try.func3, Try.ntmps3
    go_wp2_with fail
    go_ret
    exact ⟨rfl, below_of_gb (gb_alloc (gb_refl w none) _)⟩
  · have dm : decide ((1500 : Int) < n) = true := by simp; omega
    go_enter Try.func3, Try.ntmps3
    go_wp2_with fail
    go_ret
    exact ⟨rfl, below_of_gb (gb_alloc (gb_refl w none) _)⟩
set_option maxRecDepth 100000 in
set_option maxHeartbeats 8000000 in
theorem yes_n (w : World) (m : Mg) (A : Option Addr) (n c : Nat) (l : List Int) (Ab : Option Addr) (nb cb : Nat) (lb : List Int) (hs : Sl w 0 A n c l) (hx : ∀ x ∈ l, 0 ≤ x ∧ x ≤ 255)
    (hsb : Sl w 0 Ab nb cb lb) (hxb : ∀ x ∈ lb, 0 ≤ x ∧ x ≤ 255) (hn : n ≤ 1500) (hnb : nb ≤ 1500) (hr : right m n) (hv : verdict lb ≠ 0) :
    Calls Try.prog 3 #[m.v (.slice A n c), .slice Ab nb cb] w fun e w' => e = .returned (.bool true) ∧ Below w.heap.size w w' := by
  have HX := Lib.hid hx
  have HXB := Lib.hid hxb
  have HR := Lib.hid hr
  have HV := Lib.hid hv
  have hln := hs.len
  have hlb := hsb.len
  have dm : decide ((1500 : Int) < n) = false := by simp; omega
  have dn : decide ((1500 : Int) < nb) = false := by simp; omega
  have hB0 := Blk.new w 25 (m.cells (.slice A n c))
  have hs0 := hs.kept (gb_alloc (gb_refl w none) (.cells #[.int .i64 m.who, .int .i64 m.e0, .int .i64 m.e1, .slice A n c] 25))
  have hb0 := hsb.kept (gb_alloc (gb_refl w none) (.cells #[.int .i64 m.who, .int .i64 m.e0, .int .i64 m.e1, .slice A n c] 25))
  have hss : (strOfNums l).size = n := by rw [strOfNums_size, hln]
  clear hx hxb hr hv
  go_enter Try.func3, Try.ntmps3
  go_upto_region 3 with (fail)
  refine forget_world (fun w' => Blk w' w.heap.size 25 (m.cells (.slice A n c)) ∧ Sl w' 0 A n c l ∧ Sl w' 0 Ab nb cb lb ∧ w.grownBy w' none) ⟨hB0, hs0, hb0, gb_alloc (gb_refl w none) _⟩ ?_
  rintro w1 ⟨hB1, hs1, hb1, hW1⟩
  clear hB0 hs0 hb0 hs hsb
  have p0 := hB1.cell 0 _ rfl
  have p1 := hB1.cell 1 _ rfl
  have p2 := hB1.cell 2 _ rfl
  have p3 := hB1.cell 3 _ rfl
  go_wp2_with fail
  refine (put_yes w1 m A n c l hs1 HX.out HR.out).mono ?_
  rintro e w2 ⟨Ap, cp, rfl, hP2, hg2⟩
  have hB2 := hB1.kept hg2 (by simp)
  have hs2 := hs1.kept hg2
  have hb2 := hb1.kept hg2
  have hW2 := gb_trans hW1 hg2
  clear p0 p1 p2 p3 hB1 hs1 hb1 hW1 hg2
  have cvm := hs2.conv Try.underlying23 Try.underlying5 Try.underlying9
  have p0 := hB2.cell 0 _ rfl
  have p1 := hB2.cell 1 _ rfl
  have p2 := hB2.cell 2 _ rfl
  have p3 := hB2.cell 3 _ rfl
  go_wp2_with fail
  refine (rright_yes w2 m (strOfNums l) n hss HR.out).mono ?_
  rintro e w3 ⟨rfl, hg3⟩
  have hB3 := hB2.kept hg3 (by simp)
  have hs3 := hs2.kept hg3
  have hb3 := hb2.kept hg3
  have hW3 := gb_trans hW2 hg3
  have hP3 := hP2.kept hg3
  have cvx := fun x : New w3 => (hP3.kept x.ok).conv Try.underlying23 Try.underlying5 Try.underlying9
  have cvm' := fun x : New w3 => (hs3.kept x.ok).conv Try.underlying23 Try.underlying5 Try.underlying9
  have hrput := fun w' : World => rput_any w' m l n hln HR.out HX.out
  have hc0 := fun x : New w3 => (hB3.kept x.ok (by simp)).cell 0 _ rfl
  have hc1 := fun x : New w3 => (hB3.kept x.ok (by simp)).cell 1 _ rfl
  have hc2 := fun x : New w3 => (hB3.kept x.ok (by simp)).cell 2 _ rfl
  have hc3 := fun x : New w3 => (hB3.kept x.ok (by simp)).cell 3 _ rfl
  clear p0 p1 p2 p3 cvm hB2 hs2 hb2 hW2 hg3
  clear hP2
  generalize strOfNums (putI m l) = SP at *
  go_upto_region 5 with (fail)
  haveI hnw := new_ne w3
  refine new_start fun x => ?_
  refine wp_region_later (by kernel_rfl) (by kernel_rfl) ?_
  repeat (go_big_quiet_step ((first | (go_at_call 9; exact new_gb (right_yes _ m A n c HR.out)) | (go_at_call 10; exact new_gb (hrput _)))))
  refine wpQuiet_nil ?_
  intro _ hw'
  obtain ⟨yy, hw''⟩ := hw'
  subst hw''
  have hbT := hb3.kept yy.ok
  have hWT := gb_trans hW3 yy.ok
  clear hc0 hc1 hc2 hc3 hB3 hs3 hb3 hW3 hnw cvx cvm' hrput hP3
  generalize yy.w = w4 at *
  go_upto_region 7 with (fail)
  refine forget_world (fun w' => Sl w' 0 Ab nb cb lb ∧ w.grownBy w' none) ⟨hbT, hWT⟩ ?_
  rintro w5 ⟨hb5, hW5⟩
  clear hbT hWT
  have hrd := read_bad w5 Ab nb cb lb hb5 HXB.out HV.out
  have hrr := fun w' : World => rread_bad w' lb nb hlb HXB.out (by omega) HV.out
  generalize verdict lb = V at *
  go_wp2_with fail
  refine hrd.mono ?_
  rintro e w6 ⟨rfl, hg6⟩
  have hC6 : Sl w6 0 none 0 0 [] := ⟨rfl, Nat.le_refl _, by omega, fun h => absurd h (by omega)⟩
  have hY7 := Blk.new w6 25 [.int .i64 0, .int .i64 0, .int .i64 0, .slice none 0 0]
  have hC7 := (Sl.mono0 hC6).kept (gb_alloc (gb_refl w6 none) (.cells #[.int .i64 0, .int .i64 0, .int .i64 0, .slice none 0 0] 25))
  have hb7 := (hb5.kept hg6).kept (gb_alloc (gb_refl w6 none) (.cells #[.int .i64 0, .int .i64 0, .int .i64 0, .slice none 0 0] 25))
  have hW7 := gb_alloc (gb_trans hW5 hg6) (.cells #[.int .i64 0, .int .i64 0, .int .i64 0, .slice none 0 0] 25)
  have cvb := hb7.conv Try.underlying23 Try.underlying5 Try.underlying9
  clear hrd hb5 hW5 hC6 hg6
  go_wp2_with fail
  refine (hrr _).mono ?_
  rintro e w8 ⟨rfl, hg8⟩
  have hY8 := (hY7.kept hg8 (by simp)).alloc (.cells #[.int .i64 0, .int .i64 0] 22)
  have hE8 := Blk.new w8 22 [.int .i64 0, .int .i64 0]
  have hC8 := (hC7.kept hg8).kept (gb_alloc (gb_refl w8 none) (.cells #[.int .i64 0, .int .i64 0] 22))
  have hb8 := (hb7.kept hg8).kept (gb_alloc (gb_refl w8 none) (.cells #[.int .i64 0, .int .i64 0] 22))
  have hW8 := gb_alloc (gb_trans hW7 hg8) (.cells #[.int .i64 0, .int .i64 0] 22)
  clear hrr cvb hY7 hC7 hb7 hW7 hg8
  go_upto_region 9 with (fail)
  refine forget_world (fun w' => Blk w' w6.heap.size 25 [.int .i64 0, .int .i64 0, .int .i64 0, .slice none 0 0] ∧ Blk w' w8.heap.size 22 [.int .i64 0, .int .i64 0] ∧ Sl w' 0 none 0 0 [] ∧ Sl w' 0 Ab nb cb lb ∧ w.grownBy w' none) ⟨hY8, hE8, hC8, hb8, hW8⟩ ?_
  generalize w6.heap.size = q
  generalize w8.heap.size = q2
  rintro w9 ⟨hY9, hE9, hC9, hb9, hW9⟩
  clear hY8 hE8 hC8 hb8 hW8
  have hkeep : ∀ w' : World, w9.grownBy w' none → (w'.cell? ⟨q, 0, none⟩ = some (.int .i64 0) ∧ w'.cell? ⟨q, 1, none⟩ = some (.int .i64 0) ∧ w'.cell? ⟨q, 2, none⟩ = some (.int .i64 0) ∧ w'.cell? ⟨q, 3, none⟩ = some (.slice none 0 0) ∧ w'.cell? ⟨q2, 0, none⟩ = some (.int .i64 0) ∧ w'.cell? ⟨q2, 1, none⟩ = some (.int .i64 0) ∧ w9.grownBy w' none) :=
    fun w' hg => ⟨(hY9.kept hg (by simp)).cell 0 _ rfl, (hY9.kept hg (by simp)).cell 1 _ rfl, (hY9.kept hg (by simp)).cell 2 _ rfl, (hY9.kept hg (by simp)).cell 3 _ rfl, (hE9.kept hg (by simp)).cell 0 _ rfl, (hE9.kept hg (by simp)).cell 1 _ rfl, hg⟩
  have hS0 := hkeep w9.drew (gb_drew (gb_refl w9 none))
  have hcy : ∀ w' : World, w9.grownBy w' none → (convert 23 9 (.slice none 0 0)).run Try.prog w' = .ok (.string (strOfNums [])) w' := fun w' hg => (hC9.kept hg).conv Try.underlying23 Try.underlying5 Try.underlying9
  have hcb : ∀ w' : World, w9.grownBy w' none → (convert 23 9 (.slice Ab nb cb)).run Try.prog w' = .ok (.string (strOfNums lb)) w' := fun w' hg => (hb9.kept hg).conv Try.underlying23 Try.underlying5 Try.underlying9
  have hsum : ∀ (w' : World) (g : Nat), w'.cell? ⟨g, 0, none⟩ = some (.slice Ab nb cb) → w9.grownBy w' none → Calls Try.prog 13 #[.slice (some ⟨g, 0, none⟩) 1 1] w' fun e w'' => e = .returned (.int .u16 (crc lb)) ∧ w' = w'' := fun w' g hc hg => sum_one w' Ab nb cb g lb (hb9.kept hg) HXB.out hc
  have hrsum : ∀ w' : World, Calls Try.prog 14 #[.string (strOfNums lb)] w' fun e w'' => e = .returned (.int .i64 (crc lb)) ∧ w' = w'' := fun w' => rsum_any w' (strOfNums lb) lb (by rw [strOfNums_size]) (fun i => by rw [bz_str HXB.out]) (by omega) HXB.out
  have hcl := crc_lt lb
  rw [show strOfNums [] = ⟨#[]⟩ by rfl] at hcy
  generalize strOfNums lb = SB at *
  generalize crc lb = S at *
  have hwr : IntKind.i64.wrap (S : Int) = S := by rw [IntKind.wrap_i64]; omega
  go_cut [4] from 88 to 122 (fun r wx => r = .bool true ∧ w9.grownBy wx none)
  case first =>
    go_region_held3 (fun w' => w'.cell? ⟨q, 0, none⟩ = some (.int .i64 0) ∧ w'.cell? ⟨q, 1, none⟩ = some (.int .i64 0) ∧ w'.cell? ⟨q, 2, none⟩ = some (.int .i64 0) ∧ w'.cell? ⟨q, 3, none⟩ = some (.slice none 0 0) ∧ w'.cell? ⟨q2, 0, none⟩ = some (.int .i64 0) ∧ w'.cell? ⟨q2, 1, none⟩ = some (.int .i64 0) ∧ w9.grownBy w' none)
      (first | assumption | (refine hkeep _ ?_; repeat (with_reducible (first | exact gb_refl _ _ | apply gb_alloc | apply gb_drew | apply gb_drewN | (refine gb_trans ?_ hgz)))))
      (first
        | (go_at_call 13; refine (hsum _ _ (by go_simp) (by repeat (with_reducible (first | exact gb_refl _ _ | apply gb_alloc | apply gb_drew | apply gb_drewN)))).mono ?_; rintro e wa ⟨rfl, rfl⟩)
        | (go_at_call 14; refine (hrsum _).mono ?_; rintro e wb ⟨rfl, rfl⟩)
        | (go_at_call 15; refine (one_any _).mono ?_; rintro e wz ⟨rfl, hgz⟩))
    all_goals
      go_wp2_with fail
      go_meet
      case rel => exact ⟨rfl, by repeat (with_reducible (first | exact gb_refl _ _ | apply gb_alloc | apply gb_drew | apply gb_drewN | (refine gb_trans ?_ hgz)))⟩
  case rest =>
    obtain ⟨rfl, hg⟩ := hcut
    go_wp2_with fail
    go_ret
    exact ⟨rfl, below_of_gb (gb_trans hW9 hg)⟩
set_option maxRecDepth 100000 in
set_option maxHeartbeats 8000000 in
theorem yes_r (w : World) (m : Mg) (A : Option Addr) (n c : Nat) (l : List Int) (Ab : Option Addr) (nb cb : Nat) (lb : List Int) (hs : Sl w 0 A n c l) (hx : ∀ x ∈ l, 0 ≤ x ∧ x ≤ 255)
    (hsb : Sl w 0 Ab nb cb lb) (hxb : ∀ x ∈ lb, 0 ≤ x ∧ x ≤ 255) (hn : n ≤ 1500) (hnb : nb ≤ 1500) (hr : right m n) (hv : verdict lb = 0) :
    Calls Try.prog 3 #[m.v (.slice A n c), .slice Ab nb cb] w fun e w' => e = .returned (.bool true) ∧ Below w.heap.size w w' := by
  have HX := Lib.hid hx
  have HXB := Lib.hid hxb
  have HR := Lib.hid hr
  have HV := Lib.hid hv
  have hln := hs.len
  have hlb := hsb.len
  have dm : decide ((1500 : Int) < n) = false := by simp; omega
  have dn : decide ((1500 : Int) < nb) = false := by simp; omega
  have hB0 := Blk.new w 25 (m.cells (.slice A n c))
  have hs0 := hs.kept (gb_alloc (gb_refl w none) (.cells #[.int .i64 m.who, .int .i64 m.e0, .int .i64 m.e1, .slice A n c] 25))
  have hb0 := hsb.kept (gb_alloc (gb_refl w none) (.cells #[.int .i64 m.who, .int .i64 m.e0, .int .i64 m.e1, .slice A n c] 25))
  have hss : (strOfNums l).size = n := by rw [strOfNums_size, hln]
  clear hx hxb hr hv
  go_enter Try.func3, Try.ntmps3
  go_upto_region 3 with (fail)
  refine forget_world (fun w' => Blk w' w.heap.size 25 (m.cells (.slice A n c)) ∧ Sl w' 0 A n c l ∧ Sl w' 0 Ab nb cb lb ∧ w.grownBy w' none) ⟨hB0, hs0, hb0, gb_alloc (gb_refl w none) _⟩ ?_
  rintro w1 ⟨hB1, hs1, hb1, hW1⟩
  clear hB0 hs0 hb0 hs hsb
  have p0 := hB1.cell 0 _ rfl
  have p1 := hB1.cell 1 _ rfl
  have p2 := hB1.cell 2 _ rfl
  have p3 := hB1.cell 3 _ rfl
  go_wp2_with fail
  refine (put_yes w1 m A n c l hs1 HX.out HR.out).mono ?_
  rintro e w2 ⟨Ap, cp, rfl, hP2, hg2⟩
  have hB2 := hB1.kept hg2 (by simp)
  have hs2 := hs1.kept hg2
  have hb2 := hb1.kept hg2
  have hW2 := gb_trans hW1 hg2
  clear p0 p1 p2 p3 hB1 hs1 hb1 hW1 hg2
  have cvm := hs2.conv Try.underlying23 Try.underlying5 Try.underlying9
  have p0 := hB2.cell 0 _ rfl
  have p1 := hB2.cell 1 _ rfl
  have p2 := hB2.cell 2 _ rfl
  have p3 := hB2.cell 3 _ rfl
  go_wp2_with fail
  refine (rright_yes w2 m (strOfNums l) n hss HR.out).mono ?_
  rintro e w3 ⟨rfl, hg3⟩
  have hB3 := hB2.kept hg3 (by simp)
  have hs3 := hs2.kept hg3
  have hb3 := hb2.kept hg3
  have hW3 := gb_trans hW2 hg3
  have hP3 := hP2.kept hg3
  have cvx := fun x : New w3 => (hP3.kept x.ok).conv Try.underlying23 Try.underlying5 Try.underlying9
  have cvm' := fun x : New w3 => (hs3.kept x.ok).conv Try.underlying23 Try.underlying5 Try.underlying9
  have hrput := fun w' : World => rput_any w' m l n hln HR.out HX.out
  have hc0 := fun x : New w3 => (hB3.kept x.ok (by simp)).cell 0 _ rfl
  have hc1 := fun x : New w3 => (hB3.kept x.ok (by simp)).cell 1 _ rfl
  have hc2 := fun x : New w3 => (hB3.kept x.ok (by simp)).cell 2 _ rfl
  have hc3 := fun x : New w3 => (hB3.kept x.ok (by simp)).cell 3 _ rfl
  clear p0 p1 p2 p3 cvm hB2 hs2 hb2 hW2 hg3
  clear hP2
  generalize strOfNums (putI m l) = SP at *
  go_upto_region 5 with (fail)
  haveI hnw := new_ne w3
  refine new_start fun x => ?_
  refine wp_region_later (by kernel_rfl) (by kernel_rfl) ?_
  repeat (go_big_quiet_step ((first | (go_at_call 9; exact new_gb (right_yes _ m A n c HR.out)) | (go_at_call 10; exact new_gb (hrput _)))))
  refine wpQuiet_nil ?_
  intro _ hw'
  obtain ⟨yy, hw''⟩ := hw'
  subst hw''
  have hbT := hb3.kept yy.ok
  have hWT := gb_trans hW3 yy.ok
  clear hc0 hc1 hc2 hc3 hB3 hs3 hb3 hW3 hnw cvx cvm' hrput hP3
  generalize yy.w = w4 at *
  go_upto_region 7 with (fail)
  refine forget_world (fun w' => Sl w' 0 Ab nb cb lb ∧ w.grownBy w' none) ⟨hbT, hWT⟩ ?_
  rintro w5 ⟨hb5, hW5⟩
  clear hbT hWT
  have hrd := read_ok w5 Ab nb cb lb hb5 HXB.out HV.out
  have hrr := fun w' : World => rread_ok w' lb nb hlb HXB.out (by omega) HV.out
  generalize hmg : mg lb = M at *
  generalize code lb nb = C at *
  go_wp2_with fail
  refine hrd.mono ?_
  rintro e w6 ⟨AY, cY, rfl, hC6, hg6⟩
  have hY7 := Blk.new w6 25 [.int .i64 M.who, .int .i64 M.e0, .int .i64 M.e1, .slice AY (nb - 11) cY]
  have hC7 := (Sl.mono0 hC6).kept (gb_alloc (gb_refl w6 none) (.cells #[.int .i64 M.who, .int .i64 M.e0, .int .i64 M.e1, .slice AY (nb - 11) cY] 25))
  have hb7 := (hb5.kept hg6).kept (gb_alloc (gb_refl w6 none) (.cells #[.int .i64 M.who, .int .i64 M.e0, .int .i64 M.e1, .slice AY (nb - 11) cY] 25))
  have hW7 := gb_alloc (gb_trans hW5 hg6) (.cells #[.int .i64 M.who, .int .i64 M.e0, .int .i64 M.e1, .slice AY (nb - 11) cY] 25)
  have cvb := hb7.conv Try.underlying23 Try.underlying5 Try.underlying9
  clear hrd hb5 hW5 hC6 hg6
  go_wp2_with fail
  refine (hrr _).mono ?_
  rintro e w8 ⟨rfl, hg8⟩
  have hY8 := (hY7.kept hg8 (by simp)).alloc (.cells #[.int .i64 M.e0, .int .i64 M.e1] 22)
  have hE8 := Blk.new w8 22 [.int .i64 M.e0, .int .i64 M.e1]
  have hC8 := (hC7.kept hg8).kept (gb_alloc (gb_refl w8 none) (.cells #[.int .i64 M.e0, .int .i64 M.e1] 22))
  have hb8 := (hb7.kept hg8).kept (gb_alloc (gb_refl w8 none) (.cells #[.int .i64 M.e0, .int .i64 M.e1] 22))
  have hW8 := gb_alloc (gb_trans hW7 hg8) (.cells #[.int .i64 M.e0, .int .i64 M.e1] 22)
  clear hrr cvb hY7 hC7 hb7 hW7 hg8
  go_upto_region 9 with (fail)
  refine forget_world (fun w' => Blk w' w6.heap.size 25 [.int .i64 M.who, .int .i64 M.e0, .int .i64 M.e1, .slice AY (nb - 11) cY] ∧ Blk w' w8.heap.size 22 [.int .i64 M.e0, .int .i64 M.e1] ∧ Sl w' 0 AY (nb - 11) cY C ∧ Sl w' 0 Ab nb cb lb ∧ w.grownBy w' none) ⟨hY8, hE8, hC8, hb8, hW8⟩ ?_
  generalize w6.heap.size = q
  generalize w8.heap.size = q2
  rintro w9 ⟨hY9, hE9, hC9, hb9, hW9⟩
  clear hY8 hE8 hC8 hb8 hW8
  have hkeep : ∀ w' : World, w9.grownBy w' none → (w'.cell? ⟨q, 0, none⟩ = some (.int .i64 M.who) ∧ w'.cell? ⟨q, 1, none⟩ = some (.int .i64 M.e0) ∧ w'.cell? ⟨q, 2, none⟩ = some (.int .i64 M.e1) ∧ w'.cell? ⟨q, 3, none⟩ = some (.slice AY (nb - 11) cY) ∧ w'.cell? ⟨q2, 0, none⟩ = some (.int .i64 M.e0) ∧ w'.cell? ⟨q2, 1, none⟩ = some (.int .i64 M.e1) ∧ w9.grownBy w' none) :=
    fun w' hg => ⟨(hY9.kept hg (by simp)).cell 0 _ rfl, (hY9.kept hg (by simp)).cell 1 _ rfl, (hY9.kept hg (by simp)).cell 2 _ rfl, (hY9.kept hg (by simp)).cell 3 _ rfl, (hE9.kept hg (by simp)).cell 0 _ rfl, (hE9.kept hg (by simp)).cell 1 _ rfl, hg⟩
  have hS0 := hkeep w9.drew (gb_drew (gb_refl w9 none))
  have hcy : ∀ w' : World, w9.grownBy w' none → (convert 23 9 (.slice AY (nb - 11) cY)).run Try.prog w' = .ok (.string (strOfNums C)) w' := fun w' hg => (hC9.kept hg).conv Try.underlying23 Try.underlying5 Try.underlying9
  have hcb : ∀ w' : World, w9.grownBy w' none → (convert 23 9 (.slice Ab nb cb)).run Try.prog w' = .ok (.string (strOfNums lb)) w' := fun w' hg => (hb9.kept hg).conv Try.underlying23 Try.underlying5 Try.underlying9
  have hsum : ∀ (w' : World) (g : Nat), w'.cell? ⟨g, 0, none⟩ = some (.slice Ab nb cb) → w9.grownBy w' none → Calls Try.prog 13 #[.slice (some ⟨g, 0, none⟩) 1 1] w' fun e w'' => e = .returned (.int .u16 (crc lb)) ∧ w' = w'' := fun w' g hc hg => sum_one w' Ab nb cb g lb (hb9.kept hg) HXB.out hc
  have hrsum : ∀ w' : World, Calls Try.prog 14 #[.string (strOfNums lb)] w' fun e w'' => e = .returned (.int .i64 (crc lb)) ∧ w' = w'' := fun w' => rsum_any w' (strOfNums lb) lb (by rw [strOfNums_size]) (fun i => by rw [bz_str HXB.out]) (by omega) HXB.out
  have hcl := crc_lt lb
  generalize strOfNums C = SC at *
  generalize strOfNums lb = SB at *
  generalize crc lb = S at *
  have hwr : IntKind.i64.wrap (S : Int) = S := by rw [IntKind.wrap_i64]; omega
  go_cut [4] from 88 to 122 (fun r wx => r = .bool true ∧ w9.grownBy wx none)
  case first =>
    go_region_held3 (fun w' => w'.cell? ⟨q, 0, none⟩ = some (.int .i64 M.who) ∧ w'.cell? ⟨q, 1, none⟩ = some (.int .i64 M.e0) ∧ w'.cell? ⟨q, 2, none⟩ = some (.int .i64 M.e1) ∧ w'.cell? ⟨q, 3, none⟩ = some (.slice AY (nb - 11) cY) ∧ w'.cell? ⟨q2, 0, none⟩ = some (.int .i64 M.e0) ∧ w'.cell? ⟨q2, 1, none⟩ = some (.int .i64 M.e1) ∧ w9.grownBy w' none)
      (first | assumption | (refine hkeep _ ?_; repeat (with_reducible (first | exact gb_refl _ _ | apply gb_alloc | apply gb_drew | apply gb_drewN | (refine gb_trans ?_ hgz)))))
      (first
        | (go_at_call 13; refine (hsum _ _ (by go_simp) (by repeat (with_reducible (first | exact gb_refl _ _ | apply gb_alloc | apply gb_drew | apply gb_drewN)))).mono ?_; rintro e wa ⟨rfl, rfl⟩)
        | (go_at_call 14; refine (hrsum _).mono ?_; rintro e wb ⟨rfl, rfl⟩)
        | (go_at_call 15; refine (one_any _).mono ?_; rintro e wz ⟨rfl, hgz⟩))
    all_goals
      go_wp2_with fail
      go_meet
      case rel => exact ⟨rfl, by repeat (with_reducible (first | exact gb_refl _ _ | apply gb_alloc | apply gb_drew | apply gb_drewN | (refine gb_trans ?_ hgz)))⟩
  case rest =>
    obtain ⟨rfl, hg⟩ := hcut
    go_wp2_with fail
    go_ret
    exact ⟨rfl, below_of_gb (gb_trans hW9 hg)⟩
set_option maxRecDepth 100000 in
set_option maxHeartbeats 8000000 in
theorem not_n (w : World) (m : Mg) (A : Option Addr) (n c : Nat) (l : List Int) (Ab : Option Addr) (nb cb : Nat) (lb : List Int) (hs : Sl w 0 A n c l) (hx : ∀ x ∈ l, 0 ≤ x ∧ x ≤ 255)
    (hsb : Sl w 0 Ab nb cb lb) (hxb : ∀ x ∈ lb, 0 ≤ x ∧ x ≤ 255) (hn : n ≤ 1500) (hnb : nb ≤ 1500) (hr : ¬ right m n) (hv : verdict lb ≠ 0) :
    Calls Try.prog 3 #[m.v (.slice A n c), .slice Ab nb cb] w fun e w' => e = .returned (.bool true) ∧ Below w.heap.size w w' := by
  have HX := Lib.hid hx
  have HXB := Lib.hid hxb
  have HR := Lib.hid hr
  have HV := Lib.hid hv
  have hln := hs.len
  have hlb := hsb.len
  have dm : decide ((1500 : Int) < n) = false := by simp; omega
  have dn : decide ((1500 : Int) < nb) = false := by simp; omega
  have hB0 := Blk.new w 25 (m.cells (.slice A n c))
  have hs0 := hs.kept (gb_alloc (gb_refl w none) (.cells #[.int .i64 m.who, .int .i64 m.e0, .int .i64 m.e1, .slice A n c] 25))
  have hb0 := hsb.kept (gb_alloc (gb_refl w none) (.cells #[.int .i64 m.who, .int .i64 m.e0, .int .i64 m.e1, .slice A n c] 25))
  have hss : (strOfNums l).size = n := by rw [strOfNums_size, hln]
  clear hx hxb hr hv
  go_enter Try.func3, Try.ntmps3
  go_upto_region 3 with (fail)
  refine forget_world (fun w' => Blk w' w.heap.size 25 (m.cells (.slice A n c)) ∧ Sl w' 0 A n c l ∧ Sl w' 0 Ab nb cb lb ∧ w.grownBy w' none) ⟨hB0, hs0, hb0, gb_alloc (gb_refl w none) _⟩ ?_
  rintro w1 ⟨hB1, hs1, hb1, hW1⟩
  clear hB0 hs0 hb0 hs hsb
  have p0 := hB1.cell 0 _ rfl
  have p1 := hB1.cell 1 _ rfl
  have p2 := hB1.cell 2 _ rfl
  have p3 := hB1.cell 3 _ rfl
  go_wp2_with fail
  refine (put_not w1 m A n c HR.out).mono ?_
  rintro e w2 ⟨rfl, hg2⟩
  have hB2 := hB1.kept hg2 (by simp)
  have hs2 := hs1.kept hg2
  have hb2 := hb1.kept hg2
  have hW2 := gb_trans hW1 hg2
  clear p0 p1 p2 p3 hB1 hs1 hb1 hW1 hg2
  have cvm := hs2.conv Try.underlying23 Try.underlying5 Try.underlying9
  have p0 := hB2.cell 0 _ rfl
  have p1 := hB2.cell 1 _ rfl
  have p2 := hB2.cell 2 _ rfl
  have p3 := hB2.cell 3 _ rfl
  go_wp2_with fail
  refine (rright_not w2 m (strOfNums l) n hss HR.out).mono ?_
  rintro e w3 ⟨rfl, hg3⟩
  have hB3 := hB2.kept hg3 (by simp)
  have hs3 := hs2.kept hg3
  have hb3 := hb2.kept hg3
  have hW3 := gb_trans hW2 hg3
  have hc0 := fun x : New w3 => (hB3.kept x.ok (by simp)).cell 0 _ rfl
  have hc1 := fun x : New w3 => (hB3.kept x.ok (by simp)).cell 1 _ rfl
  have hc2 := fun x : New w3 => (hB3.kept x.ok (by simp)).cell 2 _ rfl
  have hc3 := fun x : New w3 => (hB3.kept x.ok (by simp)).cell 3 _ rfl
  clear p0 p1 p2 p3 cvm hB2 hs2 hb2 hW2 hg3
  go_upto_region 5 with (fail)
  haveI hnw := new_ne w3
  refine new_start fun x => ?_
  refine wp_region_later (by kernel_rfl) (by kernel_rfl) ?_
  repeat (go_big_quiet_step ((first | (go_at_call 9; exact new_gb (right_not _ m A n c HR.out)))))
  refine wpQuiet_nil ?_
  intro _ hw'
  obtain ⟨yy, hw''⟩ := hw'
  subst hw''
  have hbT := hb3.kept yy.ok
  have hWT := gb_trans hW3 yy.ok
  clear hc0 hc1 hc2 hc3 hB3 hs3 hb3 hW3 hnw
  generalize yy.w = w4 at *
  go_upto_region 7 with (fail)
  refine forget_world (fun w' => Sl w' 0 Ab nb cb lb ∧ w.grownBy w' none) ⟨hbT, hWT⟩ ?_
  rintro w5 ⟨hb5, hW5⟩
  clear hbT hWT
  have hrd := read_bad w5 Ab nb cb lb hb5 HXB.out HV.out
  have hrr := fun w' : World => rread_bad w' lb nb hlb HXB.out (by omega) HV.out
  generalize verdict lb = V at *
  go_wp2_with fail
  refine hrd.mono ?_
  rintro e w6 ⟨rfl, hg6⟩
  have hC6 : Sl w6 0 none 0 0 [] := ⟨rfl, Nat.le_refl _, by omega, fun h => absurd h (by omega)⟩
  have hY7 := Blk.new w6 25 [.int .i64 0, .int .i64 0, .int .i64 0, .slice none 0 0]
  have hC7 := (Sl.mono0 hC6).kept (gb_alloc (gb_refl w6 none) (.cells #[.int .i64 0, .int .i64 0, .int .i64 0, .slice none 0 0] 25))
  have hb7 := (hb5.kept hg6).kept (gb_alloc (gb_refl w6 none) (.cells #[.int .i64 0, .int .i64 0, .int .i64 0, .slice none 0 0] 25))
  have hW7 := gb_alloc (gb_trans hW5 hg6) (.cells #[.int .i64 0, .int .i64 0, .int .i64 0, .slice none 0 0] 25)
  have cvb := hb7.conv Try.underlying23 Try.underlying5 Try.underlying9
  clear hrd hb5 hW5 hC6 hg6
  go_wp2_with fail
  refine (hrr _).mono ?_
  rintro e w8 ⟨rfl, hg8⟩
  have hY8 := (hY7.kept hg8 (by simp)).alloc (.cells #[.int .i64 0, .int .i64 0] 22)
  have hE8 := Blk.new w8 22 [.int .i64 0, .int .i64 0]
  have hC8 := (hC7.kept hg8).kept (gb_alloc (gb_refl w8 none) (.cells #[.int .i64 0, .int .i64 0] 22))
  have hb8 := (hb7.kept hg8).kept (gb_alloc (gb_refl w8 none) (.cells #[.int .i64 0, .int .i64 0] 22))
  have hW8 := gb_alloc (gb_trans hW7 hg8) (.cells #[.int .i64 0, .int .i64 0] 22)
  clear hrr cvb hY7 hC7 hb7 hW7 hg8
  go_upto_region 9 with (fail)
  refine forget_world (fun w' => Blk w' w6.heap.size 25 [.int .i64 0, .int .i64 0, .int .i64 0, .slice none 0 0] ∧ Blk w' w8.heap.size 22 [.int .i64 0, .int .i64 0] ∧ Sl w' 0 none 0 0 [] ∧ Sl w' 0 Ab nb cb lb ∧ w.grownBy w' none) ⟨hY8, hE8, hC8, hb8, hW8⟩ ?_
  generalize w6.heap.size = q
  generalize w8.heap.size = q2
  rintro w9 ⟨hY9, hE9, hC9, hb9, hW9⟩
  clear hY8 hE8 hC8 hb8 hW8
  have hkeep : ∀ w' : World, w9.grownBy w' none → (w'.cell? ⟨q, 0, none⟩ = some (.int .i64 0) ∧ w'.cell? ⟨q, 1, none⟩ = some (.int .i64 0) ∧ w'.cell? ⟨q, 2, none⟩ = some (.int .i64 0) ∧ w'.cell? ⟨q, 3, none⟩ = some (.slice none 0 0) ∧ w'.cell? ⟨q2, 0, none⟩ = some (.int .i64 0) ∧ w'.cell? ⟨q2, 1, none⟩ = some (.int .i64 0) ∧ w9.grownBy w' none) :=
    fun w' hg => ⟨(hY9.kept hg (by simp)).cell 0 _ rfl, (hY9.kept hg (by simp)).cell 1 _ rfl, (hY9.kept hg (by simp)).cell 2 _ rfl, (hY9.kept hg (by simp)).cell 3 _ rfl, (hE9.kept hg (by simp)).cell 0 _ rfl, (hE9.kept hg (by simp)).cell 1 _ rfl, hg⟩
  have hS0 := hkeep w9.drew (gb_drew (gb_refl w9 none))
  have hcy : ∀ w' : World, w9.grownBy w' none → (convert 23 9 (.slice none 0 0)).run Try.prog w' = .ok (.string (strOfNums [])) w' := fun w' hg => (hC9.kept hg).conv Try.underlying23 Try.underlying5 Try.underlying9
  have hcb : ∀ w' : World, w9.grownBy w' none → (convert 23 9 (.slice Ab nb cb)).run Try.prog w' = .ok (.string (strOfNums lb)) w' := fun w' hg => (hb9.kept hg).conv Try.underlying23 Try.underlying5 Try.underlying9
  have hsum : ∀ (w' : World) (g : Nat), w'.cell? ⟨g, 0, none⟩ = some (.slice Ab nb cb) → w9.grownBy w' none → Calls Try.prog 13 #[.slice (some ⟨g, 0, none⟩) 1 1] w' fun e w'' => e = .returned (.int .u16 (crc lb)) ∧ w' = w'' := fun w' g hc hg => sum_one w' Ab nb cb g lb (hb9.kept hg) HXB.out hc
  have hrsum : ∀ w' : World, Calls Try.prog 14 #[.string (strOfNums lb)] w' fun e w'' => e = .returned (.int .i64 (crc lb)) ∧ w' = w'' := fun w' => rsum_any w' (strOfNums lb) lb (by rw [strOfNums_size]) (fun i => by rw [bz_str HXB.out]) (by omega) HXB.out
  have hcl := crc_lt lb
  rw [show strOfNums [] = ⟨#[]⟩ by rfl] at hcy
  generalize strOfNums lb = SB at *
  generalize crc lb = S at *
  have hwr : IntKind.i64.wrap (S : Int) = S := by rw [IntKind.wrap_i64]; omega
  go_cut [4] from 88 to 122 (fun r wx => r = .bool true ∧ w9.grownBy wx none)
  case first =>
    go_region_held3 (fun w' => w'.cell? ⟨q, 0, none⟩ = some (.int .i64 0) ∧ w'.cell? ⟨q, 1, none⟩ = some (.int .i64 0) ∧ w'.cell? ⟨q, 2, none⟩ = some (.int .i64 0) ∧ w'.cell? ⟨q, 3, none⟩ = some (.slice none 0 0) ∧ w'.cell? ⟨q2, 0, none⟩ = some (.int .i64 0) ∧ w'.cell? ⟨q2, 1, none⟩ = some (.int .i64 0) ∧ w9.grownBy w' none)
      (first | assumption | (refine hkeep _ ?_; repeat (with_reducible (first | exact gb_refl _ _ | apply gb_alloc | apply gb_drew | apply gb_drewN | (refine gb_trans ?_ hgz)))))
      (first
        | (go_at_call 13; refine (hsum _ _ (by go_simp) (by repeat (with_reducible (first | exact gb_refl _ _ | apply gb_alloc | apply gb_drew | apply gb_drewN)))).mono ?_; rintro e wa ⟨rfl, rfl⟩)
        | (go_at_call 14; refine (hrsum _).mono ?_; rintro e wb ⟨rfl, rfl⟩)
        | (go_at_call 15; refine (one_any _).mono ?_; rintro e wz ⟨rfl, hgz⟩))
    all_goals
      go_wp2_with fail
      go_meet
      case rel => exact ⟨rfl, by repeat (with_reducible (first | exact gb_refl _ _ | apply gb_alloc | apply gb_drew | apply gb_drewN | (refine gb_trans ?_ hgz)))⟩
  case rest =>
    obtain ⟨rfl, hg⟩ := hcut
    go_wp2_with fail
    go_ret
    exact ⟨rfl, below_of_gb (gb_trans hW9 hg)⟩
set_option maxRecDepth 100000 in
set_option maxHeartbeats 8000000 in
theorem not_r (w : World) (m : Mg) (A : Option Addr) (n c : Nat) (l : List Int) (Ab : Option Addr) (nb cb : Nat) (lb : List Int) (hs : Sl w 0 A n c l) (hx : ∀ x ∈ l, 0 ≤ x ∧ x ≤ 255)
    (hsb : Sl w 0 Ab nb cb lb) (hxb : ∀ x ∈ lb, 0 ≤ x ∧ x ≤ 255) (hn : n ≤ 1500) (hnb : nb ≤ 1500) (hr : ¬ right m n) (hv : verdict lb = 0) :
    Calls Try.prog 3 #[m.v (.slice A n c), .slice Ab nb cb] w fun e w' => e = .returned (.bool true) ∧ Below w.heap.size w w' := by
  have HX := Lib.hid hx
  have HXB := Lib.hid hxb
  have HR := Lib.hid hr
  have HV := Lib.hid hv
  have hln := hs.len
  have hlb := hsb.len
  have dm : decide ((1500 : Int) < n) = false := by simp; omega
  have dn : decide ((1500 : Int) < nb) = false := by simp; omega
  have hB0 := Blk.new w 25 (m.cells (.slice A n c))
  have hs0 := hs.kept (gb_alloc (gb_refl w none) (.cells #[.int .i64 m.who, .int .i64 m.e0, .int .i64 m.e1, .slice A n c] 25))
  have hb0 := hsb.kept (gb_alloc (gb_refl w none) (.cells #[.int .i64 m.who, .int .i64 m.e0, .int .i64 m.e1, .slice A n c] 25))
  have hss : (strOfNums l).size = n := by rw [strOfNums_size, hln]
  clear hx hxb hr hv
  go_enter Try.func3, Try.ntmps3
  go_upto_region 3 with (fail)
  refine forget_world (fun w' => Blk w' w.heap.size 25 (m.cells (.slice A n c)) ∧ Sl w' 0 A n c l ∧ Sl w' 0 Ab nb cb lb ∧ w.grownBy w' none) ⟨hB0, hs0, hb0, gb_alloc (gb_refl w none) _⟩ ?_
  rintro w1 ⟨hB1, hs1, hb1, hW1⟩
  clear hB0 hs0 hb0 hs hsb
  have p0 := hB1.cell 0 _ rfl
  have p1 := hB1.cell 1 _ rfl
  have p2 := hB1.cell 2 _ rfl
  have p3 := hB1.cell 3 _ rfl
  go_wp2_with fail
  refine (put_not w1 m A n c HR.out).mono ?_
  rintro e w2 ⟨rfl, hg2⟩
  have hB2 := hB1.kept hg2 (by simp)
  have hs2 := hs1.kept hg2
  have hb2 := hb1.kept hg2
  have hW2 := gb_trans hW1 hg2
  clear p0 p1 p2 p3 hB1 hs1 hb1 hW1 hg2
  have cvm := hs2.conv Try.underlying23 Try.underlying5 Try.underlying9
  have p0 := hB2.cell 0 _ rfl
  have p1 := hB2.cell 1 _ rfl
  have p2 := hB2.cell 2 _ rfl
  have p3 := hB2.cell 3 _ rfl
  go_wp2_with fail
  refine (rright_not w2 m (strOfNums l) n hss HR.out).mono ?_
  rintro e w3 ⟨rfl, hg3⟩
  have hB3 := hB2.kept hg3 (by simp)
  have hs3 := hs2.kept hg3
  have hb3 := hb2.kept hg3
  have hW3 := gb_trans hW2 hg3
  have hc0 := fun x : New w3 => (hB3.kept x.ok (by simp)).cell 0 _ rfl
  have hc1 := fun x : New w3 => (hB3.kept x.ok (by simp)).cell 1 _ rfl
  have hc2 := fun x : New w3 => (hB3.kept x.ok (by simp)).cell 2 _ rfl
  have hc3 := fun x : New w3 => (hB3.kept x.ok (by simp)).cell 3 _ rfl
  clear p0 p1 p2 p3 cvm hB2 hs2 hb2 hW2 hg3
  go_upto_region 5 with (fail)
  haveI hnw := new_ne w3
  refine new_start fun x => ?_
  refine wp_region_later (by kernel_rfl) (by kernel_rfl) ?_
  repeat (go_big_quiet_step ((first | (go_at_call 9; exact new_gb (right_not _ m A n c HR.out)))))
  refine wpQuiet_nil ?_
  intro _ hw'
  obtain ⟨yy, hw''⟩ := hw'
  subst hw''
  have hbT := hb3.kept yy.ok
  have hWT := gb_trans hW3 yy.ok
  clear hc0 hc1 hc2 hc3 hB3 hs3 hb3 hW3 hnw
  generalize yy.w = w4 at *
  go_upto_region 7 with (fail)
  refine forget_world (fun w' => Sl w' 0 Ab nb cb lb ∧ w.grownBy w' none) ⟨hbT, hWT⟩ ?_
  rintro w5 ⟨hb5, hW5⟩
  clear hbT hWT
  have hrd := read_ok w5 Ab nb cb lb hb5 HXB.out HV.out
  have hrr := fun w' : World => rread_ok w' lb nb hlb HXB.out (by omega) HV.out
  generalize hmg : mg lb = M at *
  generalize code lb nb = C at *
  go_wp2_with fail
  refine hrd.mono ?_
  rintro e w6 ⟨AY, cY, rfl, hC6, hg6⟩
  have hY7 := Blk.new w6 25 [.int .i64 M.who, .int .i64 M.e0, .int .i64 M.e1, .slice AY (nb - 11) cY]
  have hC7 := (Sl.mono0 hC6).kept (gb_alloc (gb_refl w6 none) (.cells #[.int .i64 M.who, .int .i64 M.e0, .int .i64 M.e1, .slice AY (nb - 11) cY] 25))
  have hb7 := (hb5.kept hg6).kept (gb_alloc (gb_refl w6 none) (.cells #[.int .i64 M.who, .int .i64 M.e0, .int .i64 M.e1, .slice AY (nb - 11) cY] 25))
  have hW7 := gb_alloc (gb_trans hW5 hg6) (.cells #[.int .i64 M.who, .int .i64 M.e0, .int .i64 M.e1, .slice AY (nb - 11) cY] 25)
  have cvb := hb7.conv Try.underlying23 Try.underlying5 Try.underlying9
  clear hrd hb5 hW5 hC6 hg6
  go_wp2_with fail
  refine (hrr _).mono ?_
  rintro e w8 ⟨rfl, hg8⟩
  have hY8 := (hY7.kept hg8 (by simp)).alloc (.cells #[.int .i64 M.e0, .int .i64 M.e1] 22)
  have hE8 := Blk.new w8 22 [.int .i64 M.e0, .int .i64 M.e1]
  have hC8 := (hC7.kept hg8).kept (gb_alloc (gb_refl w8 none) (.cells #[.int .i64 M.e0, .int .i64 M.e1] 22))
  have hb8 := (hb7.kept hg8).kept (gb_alloc (gb_refl w8 none) (.cells #[.int .i64 M.e0, .int .i64 M.e1] 22))
  have hW8 := gb_alloc (gb_trans hW7 hg8) (.cells #[.int .i64 M.e0, .int .i64 M.e1] 22)
  clear hrr cvb hY7 hC7 hb7 hW7 hg8
  go_upto_region 9 with (fail)
  refine forget_world (fun w' => Blk w' w6.heap.size 25 [.int .i64 M.who, .int .i64 M.e0, .int .i64 M.e1, .slice AY (nb - 11) cY] ∧ Blk w' w8.heap.size 22 [.int .i64 M.e0, .int .i64 M.e1] ∧ Sl w' 0 AY (nb - 11) cY C ∧ Sl w' 0 Ab nb cb lb ∧ w.grownBy w' none) ⟨hY8, hE8, hC8, hb8, hW8⟩ ?_
  generalize w6.heap.size = q
  generalize w8.heap.size = q2
  rintro w9 ⟨hY9, hE9, hC9, hb9, hW9⟩
  clear hY8 hE8 hC8 hb8 hW8
  have hkeep : ∀ w' : World, w9.grownBy w' none → (w'.cell? ⟨q, 0, none⟩ = some (.int .i64 M.who) ∧ w'.cell? ⟨q, 1, none⟩ = some (.int .i64 M.e0) ∧ w'.cell? ⟨q, 2, none⟩ = some (.int .i64 M.e1) ∧ w'.cell? ⟨q, 3, none⟩ = some (.slice AY (nb - 11) cY) ∧ w'.cell? ⟨q2, 0, none⟩ = some (.int .i64 M.e0) ∧ w'.cell? ⟨q2, 1, none⟩ = some (.int .i64 M.e1) ∧ w9.grownBy w' none) :=
    fun w' hg => ⟨(hY9.kept hg (by simp)).cell 0 _ rfl, (hY9.kept hg (by simp)).cell 1 _ rfl, (hY9.kept hg (by simp)).cell 2 _ rfl, (hY9.kept hg (by simp)).cell 3 _ rfl, (hE9.kept hg (by simp)).cell 0 _ rfl, (hE9.kept hg (by simp)).cell 1 _ rfl, hg⟩
  have hS0 := hkeep w9.drew (gb_drew (gb_refl w9 none))
  have hcy : ∀ w' : World, w9.grownBy w' none → (convert 23 9 (.slice AY (nb - 11) cY)).run Try.prog w' = .ok (.string (strOfNums C)) w' := fun w' hg => (hC9.kept hg).conv Try.underlying23 Try.underlying5 Try.underlying9
  have hcb : ∀ w' : World, w9.grownBy w' none → (convert 23 9 (.slice Ab nb cb)).run Try.prog w' = .ok (.string (strOfNums lb)) w' := fun w' hg => (hb9.kept hg).conv Try.underlying23 Try.underlying5 Try.underlying9
  have hsum : ∀ (w' : World) (g : Nat), w'.cell? ⟨g, 0, none⟩ = some (.slice Ab nb cb) → w9.grownBy w' none → Calls Try.prog 13 #[.slice (some ⟨g, 0, none⟩) 1 1] w' fun e w'' => e = .returned (.int .u16 (crc lb)) ∧ w' = w'' := fun w' g hc hg => sum_one w' Ab nb cb g lb (hb9.kept hg) HXB.out hc
  have hrsum : ∀ w' : World, Calls Try.prog 14 #[.string (strOfNums lb)] w' fun e w'' => e = .returned (.int .i64 (crc lb)) ∧ w' = w'' := fun w' => rsum_any w' (strOfNums lb) lb (by rw [strOfNums_size]) (fun i => by rw [bz_str HXB.out]) (by omega) HXB.out
  have hcl := crc_lt lb
  generalize strOfNums C = SC at *
  generalize strOfNums lb = SB at *
  generalize crc lb = S at *
  have hwr : IntKind.i64.wrap (S : Int) = S := by rw [IntKind.wrap_i64]; omega
  go_cut [4] from 88 to 122 (fun r wx => r = .bool true ∧ w9.grownBy wx none)
  case first =>
    go_region_held3 (fun w' => w'.cell? ⟨q, 0, none⟩ = some (.int .i64 M.who) ∧ w'.cell? ⟨q, 1, none⟩ = some (.int .i64 M.e0) ∧ w'.cell? ⟨q, 2, none⟩ = some (.int .i64 M.e1) ∧ w'.cell? ⟨q, 3, none⟩ = some (.slice AY (nb - 11) cY) ∧ w'.cell? ⟨q2, 0, none⟩ = some (.int .i64 M.e0) ∧ w'.cell? ⟨q2, 1, none⟩ = some (.int .i64 M.e1) ∧ w9.grownBy w' none)
      (first | assumption | (refine hkeep _ ?_; repeat (with_reducible (first | exact gb_refl _ _ | apply gb_alloc | apply gb_drew | apply gb_drewN | (refine gb_trans ?_ hgz)))))
      (first
        | (go_at_call 13; refine (hsum _ _ (by go_simp) (by repeat (with_reducible (first | exact gb_refl _ _ | apply gb_alloc | apply gb_drew | apply gb_drewN)))).mono ?_; rintro e wa ⟨rfl, rfl⟩)
        | (go_at_call 14; refine (hrsum _).mono ?_; rintro e wb ⟨rfl, rfl⟩)
        | (go_at_call 15; refine (one_any _).mono ?_; rintro e wz ⟨rfl, hgz⟩))
    all_goals
      go_wp2_with fail
      go_meet
      case rel => exact ⟨rfl, by repeat (with_reducible (first | exact gb_refl _ _ | apply gb_alloc | apply gb_drew | apply gb_drewN | (refine gb_trans ?_ hgz)))⟩
  case rest =>
    obtain ⟨rfl, hg⟩ := hcut
    go_wp2_with fail
    go_ret
    exact ⟨rfl, below_of_gb (gb_trans hW9 hg)⟩
theorem walk {H : Type} {enc : TypeId × Value → H} (base : Nat) (W : World) (v0 : Value) (d0 : DataW H) (p0 : List MemPlace) (v1 : Value) (d1 : DataW H) (p1 : List MemPlace)
    (o0 : Value.okWide Try.prog W .any base 25 v0) (o1 : Value.okWide Try.prog W .any base 23 v1)
    (h0 : DataW.Trod enc Try.prog W 0 (fun _ => true) true 25 v0 d0 p0) (h1 : DataW.Trod enc Try.prog W 0 (fun _ => true) true 23 v1 d1 p1) :
    Calls Try.prog 3 #[v0, v1] W fun e w' => e = .returned (.bool true) ∧ Below W.heap.size W w' := by
  obtain ⟨m, A, n, c, l, rfl, hs, hA, hx⟩ := open_img o0 h0
  obtain ⟨Ab, nb, cb, lb, rfl, hb, hAb, hxb⟩ := open_bytes Try.underlying23 Try.underlying5 (by kernel_rfl) o1 h1
  by_cases h : n ≤ 1500 ∧ nb ≤ 1500
  · by_cases hr : right m n
    · by_cases hv : verdict lb = 0
      · exact yes_r W m A n c l Ab nb cb lb hs hx hb hxb h.1 h.2 hr hv
      · exact yes_n W m A n c l Ab nb cb lb hs hx hb hxb h.1 h.2 hr hv
    · by_cases hv : verdict lb = 0
      · exact not_r W m A n c l Ab nb cb lb hs hx hb hxb h.1 h.2 hr hv
      · exact not_n W m A n c l Ab nb cb lb hs hx hb hxb h.1 h.2 hr hv
  · exact long_list W m A n c Ab nb cb h
end imageBytesW
end Go.Proofs.Ytifnmnchpgbimaa
