/- ImageBack: an image that is right is read from its bytes; with one bit that is another one they are none; what is read is put as it stood: the walk. -/
import Derived.Test.YtifnmnchpgbimaaImgM
namespace Go.Proofs.Ytifnmnchpgbimaa
open Go.ChangeShapes Go.WideShapes Go.ChangeAt Go.RowKit Go.Proofs.Ytifnmnchpgbimaa.Cm Go.Proofs.Ytifnmnchpgbimaa.Im
set_option linter.unusedVariables false
set_option linter.unusedSimpArgs false
namespace imageBackW
attribute [local go_sem] alloc_drewN' setCell_drewN'
set_option maxRecDepth 100000 in
set_option maxHeartbeats 1000000 in
theorem long_list (w : World) (m : Mg) (A : Option Addr) (n c : Nat) (at_ : Int) (Ab : Option Addr) (nb cb : Nat) (h : ¬ (n ≤ 1100 ∧ nb ≤ 1100)) :
    Calls Try.prog 4 #[m.v (.slice A n c), .int .i64 at_, .slice Ab nb cb] w fun e w' => e = .returned (.bool true) ∧ Below w.heap.size w w' := by
  have hB0 := Blk.new w 25 (m.cells (.slice A n c))
  by_cases h1 : n ≤ 1100
  · have dm : decide ((1100 : Int) < n) = false := by simp; omega
    have dn : decide ((1100 : Int) < nb) = true := by simp; omega
    go_enter Try.func4, Try.ntmps4
    go_wp2_with fail
    go_ret
    exact ⟨rfl, below_of_gb (gb_alloc (gb_refl w none) _)⟩
  · have dm : decide ((1100 : Int) < n) = true := by simp; omega
    go_enter Try.func4, Try.ntmps4
    go_wp2_with fail
    go_ret
    exact ⟨rfl, below_of_gb (gb_alloc (gb_refl w none) _)⟩
set_option maxRecDepth 100000 in
set_option maxHeartbeats 4000000 in
theorem not_n (w : World) (m : Mg) (A : Option Addr) (n c : Nat) (l : List Int) (at_ : Int) (Ab : Option Addr) (nb cb : Nat) (lb : List Int) (hs : Sl w 0 A n c l) (hx : ∀ x ∈ l, 0 ≤ x ∧ x ≤ 255)
    (hsb : Sl w 0 Ab nb cb lb) (hxb : ∀ x ∈ lb, 0 ≤ x ∧ x ≤ 255) (hn : n ≤ 1100) (hnb : nb ≤ 1100) (hr : ¬ right m n) (hv : verdict lb ≠ 0) :
    Calls Try.prog 4 #[m.v (.slice A n c), .int .i64 at_, .slice Ab nb cb] w fun e w' => e = .returned (.bool true) ∧ Below w.heap.size w w' := by
  have HX := Lib.hid hx
  have HXB := Lib.hid hxb
  have HR := Lib.hid hr
  have HV := Lib.hid hv
  have HSB := Lib.hid hsb
  have hln := hs.len
  have hlb := hsb.len
  have dm : decide ((1100 : Int) < n) = false := by simp; omega
  have dn : decide ((1100 : Int) < nb) = false := by simp; omega
  have hB0 := Blk.new w 25 (m.cells (.slice A n c))
  clear hx hxb hr hv
  go_enter Try.func4, Try.ntmps4
  go_wp2_with fail
  refine (right_not _ m A n c HR.out).mono ?_
  rintro e w1 ⟨rfl, hg1⟩
  have hWT := gb_trans (gb_alloc (gb_refl w none) _) hg1
  have hbT := hsb.kept hWT
  clear hB0 hg1 hs hsb
  go_upto_region 13 with (fail)
  refine forget_world (fun w' => Sl w' 0 Ab nb cb lb ∧ w.grownBy w' none) ⟨hbT, hWT⟩ ?_
  rintro wR ⟨hbR, hWR⟩
  clear hbT hWT
  have hrd2 := read_bad wR Ab nb cb lb hbR HXB.out HV.out
  have hv := HV.out
  generalize verdict lb = V at *
  have dV : (V == 0) = false := by simpa using hv
  clear hv hbR
  go_wp2_with fail
  refine hrd2.mono ?_
  rintro e wS ⟨rfl, hgS⟩
  have hWS := gb_alloc (gb_trans hWR hgS) (.cells #[.int .i64 0, .int .i64 0, .int .i64 0, .slice none 0 0] 25)
  clear hrd2 hWR hgS
  go_wp2_with fail
  refine (one_any _).mono ?_
  rintro e wU ⟨rfl, hgU⟩
  go_wp2_with fail
  go_ret
  exact ⟨rfl, below_of_gb (gb_trans hWS hgU)⟩
set_option maxRecDepth 100000 in
set_option maxHeartbeats 4000000 in
theorem not_r (w : World) (m : Mg) (A : Option Addr) (n c : Nat) (l : List Int) (at_ : Int) (Ab : Option Addr) (nb cb : Nat) (lb : List Int) (hs : Sl w 0 A n c l) (hx : ∀ x ∈ l, 0 ≤ x ∧ x ≤ 255)
    (hsb : Sl w 0 Ab nb cb lb) (hxb : ∀ x ∈ lb, 0 ≤ x ∧ x ≤ 255) (hn : n ≤ 1100) (hnb : nb ≤ 1100) (hr : ¬ right m n) (hv : verdict lb = 0) :
    Calls Try.prog 4 #[m.v (.slice A n c), .int .i64 at_, .slice Ab nb cb] w fun e w' => e = .returned (.bool true) ∧ Below w.heap.size w w' := by
  have HX := Lib.hid hx
  have HXB := Lib.hid hxb
  have HR := Lib.hid hr
  have HV := Lib.hid hv
  have HSB := Lib.hid hsb
  have hln := hs.len
  have hlb := hsb.len
  have dm : decide ((1100 : Int) < n) = false := by simp; omega
  have dn : decide ((1100 : Int) < nb) = false := by simp; omega
  have hB0 := Blk.new w 25 (m.cells (.slice A n c))
  clear hx hxb hr hv
  go_enter Try.func4, Try.ntmps4
  go_wp2_with fail
  refine (right_not _ m A n c HR.out).mono ?_
  rintro e w1 ⟨rfl, hg1⟩
  have hWT := gb_trans (gb_alloc (gb_refl w none) _) hg1
  have hbT := hsb.kept hWT
  clear hB0 hg1 hs hsb
  go_upto_region 13 with (fail)
  refine forget_world (fun w' => Sl w' 0 Ab nb cb lb ∧ w.grownBy w' none) ⟨hbT, hWT⟩ ?_
  rintro wR ⟨hbR, hWR⟩
  clear hbT hWT
  obtain ⟨y1, _, _, _, y5⟩ := verdict_ok HV.out
  rw [hlb] at y1 y5
  have hpb := putI_back lb HXB.out HV.out
  rw [hlb] at hpb
  have HY := Lib.hid y5
  have hcl := code_len (k := nb - 11) hlb (show nb = 11 + (nb - 11) by omega)
  have hcb : ∀ x ∈ code lb nb, 0 ≤ x ∧ x ≤ 255 := fun x hx => HXB.out x (List.mem_of_mem_take (List.mem_of_mem_drop hx))
  have hrd2 := read_ok wR Ab nb cb lb hbR HXB.out HV.out
  generalize code lb nb = C at *
  generalize mg lb = M at *
  go_wp2_with fail
  refine hrd2.mono ?_
  rintro e wS ⟨AS, cS, rfl, hsS, hgS⟩
  have hBS := Blk.new wS 25 (M.cells (.slice AS (nb - 11) cS))
  have hsS' := hsS.kept (gb_alloc (gb_refl wS none) (.cells #[.int .i64 M.who, .int .i64 M.e0, .int .i64 M.e1, .slice AS (nb - 11) cS] 25))
  have hbS := (hbR.kept hgS).kept (gb_alloc (gb_refl wS none) (.cells #[.int .i64 M.who, .int .i64 M.e0, .int .i64 M.e1, .slice AS (nb - 11) cS] 25))
  have hWS := gb_alloc (gb_trans hWR hgS) (.cells #[.int .i64 M.who, .int .i64 M.e0, .int .i64 M.e1, .slice AS (nb - 11) cS] 25)
  clear hrd2 hWR hgS hbR hsS y5
  go_upto_region 15 with (fail)
  refine forget_world (fun w' => Blk w' wS.heap.size 25 (M.cells (.slice AS (nb - 11) cS)) ∧ Sl w' wR.heap.size AS (nb - 11) cS C ∧ Sl w' 0 Ab nb cb lb ∧ w.grownBy w' none) ⟨hBS, hsS', hbS, hWS⟩ ?_
  generalize wS.heap.size = qS
  rintro wV ⟨hBV, hsV, hbV, hWV⟩
  clear hBS hsS' hbS hWS
  have p0 := hBV.cell 0 _ rfl
  have p1 := hBV.cell 1 _ rfl
  have p2 := hBV.cell 2 _ rfl
  have p3 := hBV.cell 3 _ rfl
  go_wp2_with fail
  refine (put_yes wV M AS (nb - 11) cS C hsV hcb HY.out).mono ?_
  rintro e wX ⟨AX, cX, rfl, hsX, hgX⟩
  rw [hpb] at hsX
  rw [show 11 + (nb - 11) = nb by omega] at hsX ⊢
  have hBX := hBV.kept hgX (by simp)
  have hbX := hbV.kept hgX
  have hWX := gb_trans hWV hgX
  have cvX := hsX.conv Try.underlying23 Try.underlying5 Try.underlying9
  have cvB := hbX.conv Try.underlying23 Try.underlying5 Try.underlying9
  clear p0 p1 p2 p3 hBV hsV hbV hWV hgX hpb
  have p0 := hBX.cell 0 _ rfl
  have p1 := hBX.cell 1 _ rfl
  have p2 := hBX.cell 2 _ rfl
  have p3 := hBX.cell 3 _ rfl
  generalize strOfNums lb = SB at *
  go_wp2_with fail
  refine (right_yes wX M AS (nb - 11) cS HY.out).mono ?_
  rintro e wY ⟨rfl, hgY⟩
  have hWY := gb_trans hWX hgY
  go_wp2_with fail
  refine (one_any _).mono ?_
  rintro e wU ⟨rfl, hgU⟩
  go_wp2_with fail
  go_ret
  exact ⟨rfl, below_of_gb (gb_trans hWY hgU)⟩
set_option maxRecDepth 100000 in
set_option maxHeartbeats 4000000 in
theorem yes_n (w : World) (m : Mg) (A : Option Addr) (n c : Nat) (l : List Int) (at_ : Int) (Ab : Option Addr) (nb cb : Nat) (lb : List Int) (hs : Sl w 0 A n c l) (hx : ∀ x ∈ l, 0 ≤ x ∧ x ≤ 255)
    (hsb : Sl w 0 Ab nb cb lb) (hxb : ∀ x ∈ lb, 0 ≤ x ∧ x ≤ 255) (hn : n ≤ 1100) (hnb : nb ≤ 1100) (hr : right m n) (hv : verdict lb ≠ 0) :
    Calls Try.prog 4 #[m.v (.slice A n c), .int .i64 at_, .slice Ab nb cb] w fun e w' => e = .returned (.bool true) ∧ Below w.heap.size w w' := by
  have HX := Lib.hid hx
  have HXB := Lib.hid hxb
  have HR := Lib.hid hr
  have HV := Lib.hid hv
  have HSB := Lib.hid hsb
  have hln := hs.len
  have hlb := hsb.len
  have dm : decide ((1100 : Int) < n) = false := by simp; omega
  have dn : decide ((1100 : Int) < nb) = false := by simp; omega
  have hB0 := Blk.new w 25 (m.cells (.slice A n c))
  clear hx hxb hr hv
  go_enter Try.func4, Try.ntmps4
  go_wp2_with fail
  refine (right_yes _ m A n c HR.out).mono ?_
  rintro e w1 ⟨rfl, hg1⟩
  have hB1 := hB0.kept hg1 (by simp)
  have hW1 := gb_trans (gb_alloc (gb_refl w none) _) hg1
  have hs1 := hs.kept hW1
  have hb1 := hsb.kept hW1
  have hsz1 := hB1.lt
  clear hB0 hg1 hs hsb
  have p0 := hB1.cell 0 _ rfl
  have p1 := hB1.cell 1 _ rfl
  have p2 := hB1.cell 2 _ rfl
  have p3 := hB1.cell 3 _ rfl
  go_wp2_with fail
  refine (put_own _ m A n c l hs1 HX.out HR.out).mono ?_
  rintro e w2 ⟨Ap, cp, rfl, ho2, hg2⟩
  have hb2 := hb1.kept hg2
  have hs2 := hs1.kept hg2
  have hB2 := hB1.kept hg2 (by simp)
  have hW2 := gb_trans hW1 hg2
  have hn1024 : n ≤ 1024 := HR.out.2.2.1
  have hrl : right m l.length := by rw [hln]; exact HR.out
  have HPV := Lib.hid (putI_ok m l hrl HX.out).1
  have HPM := Lib.hid (putI_ok m l hrl HX.out).2.1
  have HPC := Lib.hid (putI_ok m l hrl HX.out).2.2
  have HPB := Lib.hid (putI_bytes m l hrl HX.out)
  have hPl := putI_len m l
  rw [hln] at hPl
  generalize putI m l = P at *
  obtain ⟨N, hN⟩ : ∃ N, 11 + n = N := ⟨_, rfl⟩
  rw [hN] at ho2 hPl ⊢
  obtain ⟨g, cap, hgs⟩ : ∃ g cap, Value.slice Ap N cp = .slice (some ⟨g, 0, none⟩) N cap := by
    rcases ho2.2 with ⟨h, h0⟩ | ⟨g, cap, _, h, _⟩
    · omega
    · exact ⟨g, cap, h⟩
  injection hgs with hg0 _ hg1
  subst hg0 hg1
  have hgw := ho2.lt g rfl
  have hs2P := Sl.of_own ho2
  have hrd := read_ok w2 (some ⟨g, 0, none⟩) N cp P hs2P HPB.out HPV.out
  rw [HPM.out, ← hPl, HPC.out, hPl] at hrd
  have hNn : N - 11 = n := by omega
  rw [hNn] at hrd
  have hN11 : 11 ≤ N := by omega
  have hN2 : N ≤ 1035 := by omega
  clear p0 p1 p2 p3 hB1 hs1 hb1 hg2
  go_wp2_with fail
  refine hrd.mono ?_
  rintro e w3 ⟨A3, c3, rfl, hs3, hg3⟩
  have ho4 := (ho2.kept hg3 (.inr (by simp [Value.ownBlock]))).alloc (.cells #[.int .i64 m.who, .int .i64 m.e0, .int .i64 m.e1, .slice A3 n c3] 25)
  have hB4 := (hB2.kept hg3 (by simp)).alloc (.cells #[.int .i64 m.who, .int .i64 m.e0, .int .i64 m.e1, .slice A3 n c3] 25)
  have hC4 := Blk.new w3 25 (m.cells (.slice A3 n c3))
  have hs4 := hs3.kept (gb_alloc (gb_refl w3 none) (.cells #[.int .i64 m.who, .int .i64 m.e0, .int .i64 m.e1, .slice A3 n c3] 25))
  have hsm4 := (hs2.kept hg3).kept (gb_alloc (gb_refl w3 none) (.cells #[.int .i64 m.who, .int .i64 m.e0, .int .i64 m.e1, .slice A3 n c3] 25))
  have hb4 := (hb2.kept hg3).kept (gb_alloc (gb_refl w3 none) (.cells #[.int .i64 m.who, .int .i64 m.e0, .int .i64 m.e1, .slice A3 n c3] 25))
  have hW4 := gb_alloc (gb_trans hW2 hg3) (.cells #[.int .i64 m.who, .int .i64 m.e0, .int .i64 m.e1, .slice A3 n c3] 25)
  clear hrd hs2 hs2P hb2 hB2 hW2 hs3 hg3 ho2
  go_upto_region 6 with (fail)
  refine forget_world (fun w' => w'.ownsRow (w1.heap.size + 1) 5 1 (.slice (some ⟨g, 0, none⟩) N cp) N (nums .u8 P) ∧ Blk w' w.heap.size 25 (m.cells (.slice A n c)) ∧ Blk w' w3.heap.size 25 (m.cells (.slice A3 n c3)) ∧ Sl w' w2.heap.size A3 n c3 l ∧ Sl w' 0 A n c l ∧ Sl w' 0 Ab nb cb lb ∧ w.grownBy w' none) ⟨ho4, hB4, hC4, hs4, hsm4, hb4, hW4⟩ ?_
  generalize w3.heap.size = q
  rintro w5 ⟨ho5, hB5, hC5, hs5, hsm5, hb5, hW5⟩
  clear ho4 hB4 hC4 hs4 hsm4 hb4 hW4
  have p0 := hB5.cell 0 _ rfl
  have p1 := hB5.cell 1 _ rfl
  have p2 := hB5.cell 2 _ rfl
  have p3 := hB5.cell 3 _ rfl
  have r0 := hC5.cell 0 _ rfl
  have r1 := hC5.cell 1 _ rfl
  have r2 := hC5.cell 2 _ rfl
  have r3 := hC5.cell 3 _ rfl
  have dN : decide ((N : Int) < 11) = false := by simp; omega
  go_wp2_with fail
  refine (same_yes w5 m A3 n c3 A n c l hs5 hsm5 HX.out).mono ?_
  rintro e w6 ⟨rfl, hg6⟩
  have hB6 := hB5.kept hg6 (by simp)
  have hC6 := hC5.kept hg6 (by simp)
  have hs6 := hs5.kept hg6
  have hsm6 := hsm5.kept hg6
  have hb6 := hb5.kept hg6
  have ho6 := ho5.kept hg6 (.inr (by simp [Value.ownBlock]))
  have hW6 := gb_trans hW5 hg6
  clear p0 p1 p2 p3 r0 r1 r2 r3 hB5 hC5 hs5 hsm5 hb5 ho5 hW5 hg6
  have p0 := hB6.cell 0 _ rfl
  have p1 := hB6.cell 1 _ rfl
  have p2 := hB6.cell 2 _ rfl
  have p3 := hB6.cell 3 _ rfl
  have r0 := hC6.cell 0 _ rfl
  have r1 := hC6.cell 1 _ rfl
  have r2 := hC6.cell 2 _ rfl
  have r3 := hC6.cell 3 _ rfl
  go_wp2_with fail
  refine (same_yes w6 m A n c A3 n c3 l hsm6 hs6 HX.out).mono ?_
  rintro e w7 ⟨rfl, hg7⟩
  have hb7 := hb6.kept hg7
  have ho7 := ho6.kept hg7 (.inr (by simp [Value.ownBlock]))
  have hW7 := gb_trans hW6 hg7
  clear p0 p1 p2 p3 r0 r1 r2 r3 hB6 hC6 hs6 hsm6 hb6 ho6 hW6 hg7
  obtain ⟨r, hr0, hr1⟩ : ∃ r : Nat, bits .and .i64 at_ 16777215 = (r : Int) ∧ r < 16777216 := ⟨(at_ % 16777216).toNat, by rw [mask24]; omega, by omega⟩
  obtain ⟨k, j, hk, hj, hK⟩ : ∃ k j : Nat, k < N ∧ j < 8 ∧ (r : Int) % (8 * (N : Int)) = ((8 * k + j : Nat) : Int) := by
    have h1 : r % (8 * N) < 8 * N := Nat.mod_lt _ (by omega)
    refine ⟨r % (8 * N) / 8, r % (8 * N) % 8, by omega, by omega, ?_⟩
    rw [Nat.div_add_mod]
    simp
  obtain ⟨K, hKK⟩ : ∃ K, 8 * k + j = K := ⟨_, rfl⟩
  rw [hKK] at hK
  have hk1 : (K : Int) / 8 = (k : Int) := by omega
  have hk2 : (K : Int).tdiv 8 = (k : Int) := by rw [Int.tdiv_eq_ediv_of_nonneg (by omega)]; omega
  have hj1 : (K : Int) % 8 = (j : Int) := by omega
  have hj2 : (K : Int).tmod 8 = (j : Int) := by rw [Int.tmod_eq_emod_of_nonneg (by omega)]; omega
  have hki : (k : Int) < N := by omega
  have hx := getD_bytes HPB.out k
  have hcell : w7.cell? ⟨g, k, none⟩ = some (.int .u8 (P.getD k 0)) := by
    rw [ho7.cellAt k (by omega)]
    exact nums_get .u8 P k (by omega)
  have hfz : w7.frozen? ⟨g, k, none⟩ = false := ho7.frozenAt k
  obtain ⟨y, hy, hy0, hy1, hy2⟩ := bit_turn (P.getD k 0) j hx hj
  have hfl := flip_bad HPV.out HPB.out k (by omega) y ⟨hy0, hy1⟩ hy2
  have hsb8 := set_bytes HPB.out k y ⟨hy0, hy1⟩
  generalize P.getD k 0 = x at *
  clear hKK
  have hst := ho7.stored k (.int .u8 y)
  rw [nums_set] at hst
  have hs8 := Sl.of_own hst.1
  have hW8 : Below w.heap.size w (w7.setCell ⟨g, k, none⟩ (.int .u8 y)) := (below_of_gb hW7).trans (gb_below hst.2 (below_of_gb hW7).size (by intro x hx; cases hx; omega))
  have hrd8 := read_bad _ (some ⟨g, 0, none⟩) N cp (P.set k y) hs8 hsb8 hfl
  generalize verdict (P.set k y) = V8 at *
  have dV8 : (V8 == 0) = false := by simpa using hfl
  clear hfl hsb8 hst hs8 hb7 ho7 hy2
  go_upto_region 9 with (fail)
  go_wp2_with fail
  refine hrd8.mono ?_
  rintro e w9 ⟨rfl, hg9⟩
  have hWB := (hW8.trans (gb_below hg9 hW8.size (by simp))).alloc (hW8.trans (gb_below hg9 hW8.size (by simp))).size (.cells #[.int .i64 0, .int .i64 0, .int .i64 0, .slice none 0 0] 25)
  have hWT := gb_of_below hWB
  have hbT := HSB.out.kept_below hWB
  clear hrd8 hW8 hg9 hcell hfz hW7 hWB hr0 hK hk1 hk2 hj1 hj2 hki hy dN HPM HPC
  go_upto_region 13 with (fail)
  refine forget_world (fun w' => Sl w' 0 Ab nb cb lb ∧ w.grownBy w' none) ⟨hbT, hWT⟩ ?_
  rintro wR ⟨hbR, hWR⟩
  clear hbT hWT
  have hrd2 := read_bad wR Ab nb cb lb hbR HXB.out HV.out
  have hv := HV.out
  generalize verdict lb = V at *
  have dV : (V == 0) = false := by simpa using hv
  clear hv hbR
  go_wp2_with fail
  refine hrd2.mono ?_
  rintro e wS ⟨rfl, hgS⟩
  have hWS := gb_alloc (gb_trans hWR hgS) (.cells #[.int .i64 0, .int .i64 0, .int .i64 0, .slice none 0 0] 25)
  clear hrd2 hWR hgS
  go_wp2_with fail
  refine (one_any _).mono ?_
  rintro e wU ⟨rfl, hgU⟩
  go_wp2_with fail
  go_ret
  exact ⟨rfl, below_of_gb (gb_trans hWS hgU)⟩
set_option maxRecDepth 100000 in
set_option maxHeartbeats 4000000 in
theorem yes_r (w : World) (m : Mg) (A : Option Addr) (n c : Nat) (l : List Int) (at_ : Int) (Ab : Option Addr) (nb cb : Nat) (lb : List Int) (hs : Sl w 0 A n c l) (hx : ∀ x ∈ l, 0 ≤ x ∧ x ≤ 255)
    (hsb : Sl w 0 Ab nb cb lb) (hxb : ∀ x ∈ lb, 0 ≤ x ∧ x ≤ 255) (hn : n ≤ 1100) (hnb : nb ≤ 1100) (hr : right m n) (hv : verdict lb = 0) :
    Calls Try.prog 4 #[m.v (.slice A n c), .int .i64 at_, .slice Ab nb cb] w fun e w' => e = .returned (.bool true) ∧ Below w.heap.size w w' := by
  have HX := Lib.hid hx
  have HXB := Lib.hid hxb
  have HR := Lib.hid hr
  have HV := Lib.hid hv
  have HSB := Lib.hid hsb
  have hln := hs.len
  have hlb := hsb.len
  have dm : decide ((1100 : Int) < n) = false := by simp; omega
  have dn : decide ((1100 : Int) < nb) = false := by simp; omega
  have hB0 := Blk.new w 25 (m.cells (.slice A n c))
  clear hx hxb hr hv
  go_enter Try.func4, Try.ntmps4
  go_wp2_with fail
  refine (right_yes _ m A n c HR.out).mono ?_
  rintro e w1 ⟨rfl, hg1⟩
  have hB1 := hB0.kept hg1 (by simp)
  have hW1 := gb_trans (gb_alloc (gb_refl w none) _) hg1
  have hs1 := hs.kept hW1
  have hb1 := hsb.kept hW1
  have hsz1 := hB1.lt
  clear hB0 hg1 hs hsb
  have p0 := hB1.cell 0 _ rfl
  have p1 := hB1.cell 1 _ rfl
  have p2 := hB1.cell 2 _ rfl
  have p3 := hB1.cell 3 _ rfl
  go_wp2_with fail
  refine (put_own _ m A n c l hs1 HX.out HR.out).mono ?_
  rintro e w2 ⟨Ap, cp, rfl, ho2, hg2⟩
  have hb2 := hb1.kept hg2
  have hs2 := hs1.kept hg2
  have hB2 := hB1.kept hg2 (by simp)
  have hW2 := gb_trans hW1 hg2
  have hn1024 : n ≤ 1024 := HR.out.2.2.1
  have hrl : right m l.length := by rw [hln]; exact HR.out
  have HPV := Lib.hid (putI_ok m l hrl HX.out).1
  have HPM := Lib.hid (putI_ok m l hrl HX.out).2.1
  have HPC := Lib.hid (putI_ok m l hrl HX.out).2.2
  have HPB := Lib.hid (putI_bytes m l hrl HX.out)
  have hPl := putI_len m l
  rw [hln] at hPl
  generalize putI m l = P at *
  obtain ⟨N, hN⟩ : ∃ N, 11 + n = N := ⟨_, rfl⟩
  rw [hN] at ho2 hPl ⊢
  obtain ⟨g, cap, hgs⟩ : ∃ g cap, Value.slice Ap N cp = .slice (some ⟨g, 0, none⟩) N cap := by
    rcases ho2.2 with ⟨h, h0⟩ | ⟨g, cap, _, h, _⟩
    · omega
    · exact ⟨g, cap, h⟩
  injection hgs with hg0 _ hg1
  subst hg0 hg1
  have hgw := ho2.lt g rfl
  have hs2P := Sl.of_own ho2
  have hrd := read_ok w2 (some ⟨g, 0, none⟩) N cp P hs2P HPB.out HPV.out
  rw [HPM.out, ← hPl, HPC.out, hPl] at hrd
  have hNn : N - 11 = n := by omega
  rw [hNn] at hrd
  have hN11 : 11 ≤ N := by omega
  have hN2 : N ≤ 1035 := by omega
  clear p0 p1 p2 p3 hB1 hs1 hb1 hg2
  go_wp2_with fail
  refine hrd.mono ?_
  rintro e w3 ⟨A3, c3, rfl, hs3, hg3⟩
  have ho4 := (ho2.kept hg3 (.inr (by simp [Value.ownBlock]))).alloc (.cells #[.int .i64 m.who, .int .i64 m.e0, .int .i64 m.e1, .slice A3 n c3] 25)
  have hB4 := (hB2.kept hg3 (by simp)).alloc (.cells #[.int .i64 m.who, .int .i64 m.e0, .int .i64 m.e1, .slice A3 n c3] 25)
  have hC4 := Blk.new w3 25 (m.cells (.slice A3 n c3))
  have hs4 := hs3.kept (gb_alloc (gb_refl w3 none) (.cells #[.int .i64 m.who, .int .i64 m.e0, .int .i64 m.e1, .slice A3 n c3] 25))
  have hsm4 := (hs2.kept hg3).kept (gb_alloc (gb_refl w3 none) (.cells #[.int .i64 m.who, .int .i64 m.e0, .int .i64 m.e1, .slice A3 n c3] 25))
  have hb4 := (hb2.kept hg3).kept (gb_alloc (gb_refl w3 none) (.cells #[.int .i64 m.who, .int .i64 m.e0, .int .i64 m.e1, .slice A3 n c3] 25))
  have hW4 := gb_alloc (gb_trans hW2 hg3) (.cells #[.int .i64 m.who, .int .i64 m.e0, .int .i64 m.e1, .slice A3 n c3] 25)
  clear hrd hs2 hs2P hb2 hB2 hW2 hs3 hg3 ho2
  go_upto_region 6 with (fail)
  refine forget_world (fun w' => w'.ownsRow (w1.heap.size + 1) 5 1 (.slice (some ⟨g, 0, none⟩) N cp) N (nums .u8 P) ∧ Blk w' w.heap.size 25 (m.cells (.slice A n c)) ∧ Blk w' w3.heap.size 25 (m.cells (.slice A3 n c3)) ∧ Sl w' w2.heap.size A3 n c3 l ∧ Sl w' 0 A n c l ∧ Sl w' 0 Ab nb cb lb ∧ w.grownBy w' none) ⟨ho4, hB4, hC4, hs4, hsm4, hb4, hW4⟩ ?_
  generalize w3.heap.size = q
  rintro w5 ⟨ho5, hB5, hC5, hs5, hsm5, hb5, hW5⟩
  clear ho4 hB4 hC4 hs4 hsm4 hb4 hW4
  have p0 := hB5.cell 0 _ rfl
  have p1 := hB5.cell 1 _ rfl
  have p2 := hB5.cell 2 _ rfl
  have p3 := hB5.cell 3 _ rfl
  have r0 := hC5.cell 0 _ rfl
  have r1 := hC5.cell 1 _ rfl
  have r2 := hC5.cell 2 _ rfl
  have r3 := hC5.cell 3 _ rfl
  have dN : decide ((N : Int) < 11) = false := by simp; omega
  go_wp2_with fail
  refine (same_yes w5 m A3 n c3 A n c l hs5 hsm5 HX.out).mono ?_
  rintro e w6 ⟨rfl, hg6⟩
  have hB6 := hB5.kept hg6 (by simp)
  have hC6 := hC5.kept hg6 (by simp)
  have hs6 := hs5.kept hg6
  have hsm6 := hsm5.kept hg6
  have hb6 := hb5.kept hg6
  have ho6 := ho5.kept hg6 (.inr (by simp [Value.ownBlock]))
  have hW6 := gb_trans hW5 hg6
  clear p0 p1 p2 p3 r0 r1 r2 r3 hB5 hC5 hs5 hsm5 hb5 ho5 hW5 hg6
  have p0 := hB6.cell 0 _ rfl
  have p1 := hB6.cell 1 _ rfl
  have p2 := hB6.cell 2 _ rfl
  have p3 := hB6.cell 3 _ rfl
  have r0 := hC6.cell 0 _ rfl
  have r1 := hC6.cell 1 _ rfl
  have r2 := hC6.cell 2 _ rfl
  have r3 := hC6.cell 3 _ rfl
  go_wp2_with fail
  refine (same_yes w6 m A n c A3 n c3 l hsm6 hs6 HX.out).mono ?_
  rintro e w7 ⟨rfl, hg7⟩
  have hb7 := hb6.kept hg7
  have ho7 := ho6.kept hg7 (.inr (by simp [Value.ownBlock]))
  have hW7 := gb_trans hW6 hg7
  clear p0 p1 p2 p3 r0 r1 r2 r3 hB6 hC6 hs6 hsm6 hb6 ho6 hW6 hg7
  obtain ⟨r, hr0, hr1⟩ : ∃ r : Nat, bits .and .i64 at_ 16777215 = (r : Int) ∧ r < 16777216 := ⟨(at_ % 16777216).toNat, by rw [mask24]; omega, by omega⟩
  obtain ⟨k, j, hk, hj, hK⟩ : ∃ k j : Nat, k < N ∧ j < 8 ∧ (r : Int) % (8 * (N : Int)) = ((8 * k + j : Nat) : Int) := by
    have h1 : r % (8 * N) < 8 * N := Nat.mod_lt _ (by omega)
    refine ⟨r % (8 * N) / 8, r % (8 * N) % 8, by omega, by omega, ?_⟩
    rw [Nat.div_add_mod]
    simp
  obtain ⟨K, hKK⟩ : ∃ K, 8 * k + j = K := ⟨_, rfl⟩
  rw [hKK] at hK
  have hk1 : (K : Int) / 8 = (k : Int) := by omega
  have hk2 : (K : Int).tdiv 8 = (k : Int) := by rw [Int.tdiv_eq_ediv_of_nonneg (by omega)]; omega
  have hj1 : (K : Int) % 8 = (j : Int) := by omega
  have hj2 : (K : Int).tmod 8 = (j : Int) := by rw [Int.tmod_eq_emod_of_nonneg (by omega)]; omega
  have hki : (k : Int) < N := by omega
  have hx := getD_bytes HPB.out k
  have hcell : w7.cell? ⟨g, k, none⟩ = some (.int .u8 (P.getD k 0)) := by
    rw [ho7.cellAt k (by omega)]
    exact nums_get .u8 P k (by omega)
  have hfz : w7.frozen? ⟨g, k, none⟩ = false := ho7.frozenAt k
  obtain ⟨y, hy, hy0, hy1, hy2⟩ := bit_turn (P.getD k 0) j hx hj
  have hfl := flip_bad HPV.out HPB.out k (by omega) y ⟨hy0, hy1⟩ hy2
  have hsb8 := set_bytes HPB.out k y ⟨hy0, hy1⟩
  generalize P.getD k 0 = x at *
  clear hKK
  have hst := ho7.stored k (.int .u8 y)
  rw [nums_set] at hst
  have hs8 := Sl.of_own hst.1
  have hW8 : Below w.heap.size w (w7.setCell ⟨g, k, none⟩ (.int .u8 y)) := (below_of_gb hW7).trans (gb_below hst.2 (below_of_gb hW7).size (by intro x hx; cases hx; omega))
  have hrd8 := read_bad _ (some ⟨g, 0, none⟩) N cp (P.set k y) hs8 hsb8 hfl
  generalize verdict (P.set k y) = V8 at *
  have dV8 : (V8 == 0) = false := by simpa using hfl
  clear hfl hsb8 hst hs8 hb7 ho7 hy2
  go_upto_region 9 with (fail)
  go_wp2_with fail
  refine hrd8.mono ?_
  rintro e w9 ⟨rfl, hg9⟩
  have hWB := (hW8.trans (gb_below hg9 hW8.size (by simp))).alloc (hW8.trans (gb_below hg9 hW8.size (by simp))).size (.cells #[.int .i64 0, .int .i64 0, .int .i64 0, .slice none 0 0] 25)
  have hWT := gb_of_below hWB
  have hbT := HSB.out.kept_below hWB
  clear hrd8 hW8 hg9 hcell hfz hW7 hWB hr0 hK hk1 hk2 hj1 hj2 hki hy dN HPM HPC
  go_upto_region 13 with (fail)
  refine forget_world (fun w' => Sl w' 0 Ab nb cb lb ∧ w.grownBy w' none) ⟨hbT, hWT⟩ ?_
  rintro wR ⟨hbR, hWR⟩
  clear hbT hWT
  obtain ⟨y1, _, _, _, y5⟩ := verdict_ok HV.out
  rw [hlb] at y1 y5
  have hpb := putI_back lb HXB.out HV.out
  rw [hlb] at hpb
  have HY := Lib.hid y5
  have hcl := code_len (k := nb - 11) hlb (show nb = 11 + (nb - 11) by omega)
  have hcb : ∀ x ∈ code lb nb, 0 ≤ x ∧ x ≤ 255 := fun x hx => HXB.out x (List.mem_of_mem_take (List.mem_of_mem_drop hx))
  have hrd2 := read_ok wR Ab nb cb lb hbR HXB.out HV.out
  generalize code lb nb = C at *
  generalize mg lb = M at *
  go_wp2_with fail
  refine hrd2.mono ?_
  rintro e wS ⟨AS, cS, rfl, hsS, hgS⟩
  have hBS := Blk.new wS 25 (M.cells (.slice AS (nb - 11) cS))
  have hsS' := hsS.kept (gb_alloc (gb_refl wS none) (.cells #[.int .i64 M.who, .int .i64 M.e0, .int .i64 M.e1, .slice AS (nb - 11) cS] 25))
  have hbS := (hbR.kept hgS).kept (gb_alloc (gb_refl wS none) (.cells #[.int .i64 M.who, .int .i64 M.e0, .int .i64 M.e1, .slice AS (nb - 11) cS] 25))
  have hWS := gb_alloc (gb_trans hWR hgS) (.cells #[.int .i64 M.who, .int .i64 M.e0, .int .i64 M.e1, .slice AS (nb - 11) cS] 25)
  clear hrd2 hWR hgS hbR hsS y5
  go_upto_region 15 with (fail)
  refine forget_world (fun w' => Blk w' wS.heap.size 25 (M.cells (.slice AS (nb - 11) cS)) ∧ Sl w' wR.heap.size AS (nb - 11) cS C ∧ Sl w' 0 Ab nb cb lb ∧ w.grownBy w' none) ⟨hBS, hsS', hbS, hWS⟩ ?_
  generalize wS.heap.size = qS
  rintro wV ⟨hBV, hsV, hbV, hWV⟩
  clear hBS hsS' hbS hWS
  have p0 := hBV.cell 0 _ rfl
  have p1 := hBV.cell 1 _ rfl
  have p2 := hBV.cell 2 _ rfl
  have p3 := hBV.cell 3 _ rfl
  go_wp2_with fail
  refine (put_yes wV M AS (nb - 11) cS C hsV hcb HY.out).mono ?_
  rintro e wX ⟨AX, cX, rfl, hsX, hgX⟩
  rw [hpb] at hsX
  rw [show 11 + (nb - 11) = nb by omega] at hsX ⊢
  have hBX := hBV.kept hgX (by simp)
  have hbX := hbV.kept hgX
  have hWX := gb_trans hWV hgX
  have cvX := hsX.conv Try.underlying23 Try.underlying5 Try.underlying9
  have cvB := hbX.conv Try.underlying23 Try.underlying5 Try.underlying9
  clear p0 p1 p2 p3 hBV hsV hbV hWV hgX hpb
  have p0 := hBX.cell 0 _ rfl
  have p1 := hBX.cell 1 _ rfl
  have p2 := hBX.cell 2 _ rfl
  have p3 := hBX.cell 3 _ rfl
  generalize strOfNums lb = SB at *
  go_wp2_with fail
  refine (right_yes wX M AS (nb - 11) cS HY.out).mono ?_
  rintro e wY ⟨rfl, hgY⟩
  have hWY := gb_trans hWX hgY
  go_wp2_with fail
  refine (one_any _).mono ?_
  rintro e wU ⟨rfl, hgU⟩
  go_wp2_with fail
  go_ret
  exact ⟨rfl, below_of_gb (gb_trans hWY hgU)⟩
theorem walk {H : Type} {enc : TypeId × Value → H} (base : Nat) (W : World) (v0 : Value) (d0 : DataW H) (p0 : List MemPlace) (v1 : Value) (d1 : DataW H) (p1 : List MemPlace) (v2 : Value) (d2 : DataW H) (p2 : List MemPlace)
    (o0 : Value.okWide Try.prog W .any base 25 v0) (o1 : Value.okWide Try.prog W .any base 3 v1) (o2 : Value.okWide Try.prog W .any base 23 v2)
    (h0 : DataW.Trod enc Try.prog W 0 (fun _ => true) true 25 v0 d0 p0) (h1 : DataW.Trod enc Try.prog W 0 (fun _ => true) true 3 v1 d1 p1) (h2 : DataW.Trod enc Try.prog W 0 (fun _ => true) true 23 v2 d2 p2) :
    Calls Try.prog 4 #[v0, v1, v2] W fun e w' => e = .returned (.bool true) ∧ Below W.heap.size W w' := by
  obtain ⟨m, A, n, c, l, rfl, hs, hA, hx⟩ := open_img o0 h0
  obtain ⟨at_, rfl, rfl, rfl, wn⟩ := open_int Try.underlying3 o1 h1
  obtain ⟨Ab, nb, cb, lb, rfl, hb, hAb, hxb⟩ := open_bytes Try.underlying23 Try.underlying5 (by kernel_rfl) o2 h2
  by_cases h : n ≤ 1100 ∧ nb ≤ 1100
  · by_cases hr : right m n
    · by_cases hv : verdict lb = 0
      · exact yes_r W m A n c l at_ Ab nb cb lb hs hx hb hxb h.1 h.2 hr hv
      · exact yes_n W m A n c l at_ Ab nb cb lb hs hx hb hxb h.1 h.2 hr hv
    · by_cases hv : verdict lb = 0
      · exact not_r W m A n c l at_ Ab nb cb lb hs hx hb hxb h.1 h.2 hr hv
      · exact not_n W m A n c l at_ Ab nb cb lb hs hx hb hxb h.1 h.2 hr hv
  · exact long_list W m A n c at_ Ab nb cb h
end imageBackW
end Go.Proofs.Ytifnmnchpgbimaa
