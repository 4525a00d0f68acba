/- CmdRow: commands that are right, one behind the other, are read one by one: the walk. -/
import Derived.Test.YtbhfbdldehahoaaCmdR
namespace Go.Proofs.Ytbhfbdldehahoaa
open Go.ChangeShapes Go.WideShapes Go.ChangeAt Go.RowKit Go.Proofs.Ytbhfbdldehahoaa.Cm
set_option linter.unusedVariables false
set_option linter.unusedSimpArgs false
namespace cmdRowW
set_option maxRecDepth 100000 in
set_option maxHeartbeats 2000000 in
theorem long_list (w : World) (A : Option Addr) (n c : Nat) (h : 60 < n) : Calls Try.prog 6 #[.slice A n c] w fun e w' => e = .returned (.bool true) ∧ Below w.heap.size w w' := by
  have d1 : decide ((60 : Int) < n) = true := by simp; omega
  go_enter Try.func6, Try.ntmps6
  go_wp2_with fail
  go_ret
  exact ⟨rfl, Below.refl _ _⟩
abbrev cd (z : Nat → Nat → Int) (k : Nat) : Cd := ⟨z k 0, z k 1, z k 2, z k 3, z k 4, z k 5, z k 6⟩
theorem add_cell (b j : Nat) : (⟨b, 0, none⟩ : Addr).add j = ⟨b, j, none⟩ := by
  unfold Addr.add
  split
  · rename_i h0; subst h0; rfl
  · simp
theorem cells_new (w : World) (e : TypeId) (l : List Value) (j : Nat) (u : Value) (h : l[j]? = some u) : (w.alloc (.cells l.toArray e)).cell? ((⟨w.heap.size, 0, none⟩ : Addr).add j) = some u := by
  rw [add_cell]
  exact (Blk.new w e l).cell j u h
theorem ones_cells (c : Cd) : ∀ u ∈ c.cells, u.oneCell' = true := by
  intro u hu
  simp [Cd.cells] at hu
  rcases hu with rfl | rfl | rfl | rfl | rfl | rfl | rfl <;> rfl
theorem own_ne {w : World} {base : Nat} {e : TypeId} {size : Nat} {v : Value} {n : Nat} {xs : List Value} (h : w.ownsRow base e size v n xs) : v.ownBlock = none ∨ v.ownBlock ≠ none := by
  cases v.ownBlock
  · exact .inl rfl
  · exact .inr (by simp)
set_option maxRecDepth 100000 in
set_option maxHeartbeats 4000000 in
theorem walk_any (w : World) (A : Option Addr) (len cap : Nat) (z : Nat → Nat → Int) (hlen : len ≤ 60) (hl : len ≤ cap) (hm : cap ≤ maxLen) (hr : RdS w w.heap.size A len 7 (fun i j => .int .i64 (z i j)))
    (hz : ∀ i, i < len → ∀ j, j < 7 → fits (z i j)) :
    Calls Try.prog 6 #[.slice A len cap] w fun e w' => e = .returned (.bool true) ∧ Below w.heap.size w w' := by
  obtain ⟨i0, hi, hz0, hz1, hz2⟩ := info_parts u8_info
  obtain ⟨i1, hj, hw0, hw1, hw2⟩ := info_parts cmd_info
  have d0 : decide ((60 : Int) < len) = false := by simp; omega
  have HR := Lib.hid hr
  have HZ := Lib.hid hz
  clear hr hz
  unfold maxLen at hm
  have hS : Rows2 w w (rights (cd z) 0) (.slice none 0 0) (.slice none 0 0) := ⟨World.ownsRow_nil _ _ _ _, World.ownsRow_nil _ _ _ _, Below.refl _ _⟩
  go_enter Try.func6, Try.ntmps6
  go_wp2_with fail
  go_loopw [3, 4, 5] (fun vb va i wr => ∃ k : Nat, k ≤ len ∧ i = .int .i64 k ∧ Rows2 w wr (rights (cd z) k) vb va) (fun _ _ i _ => len - (intOf i).toNat)
  case atStart => exact ⟨0, by omega, rfl, hS⟩
  case round =>
    obtain ⟨k, hk, rfl, ho1, ho2, hbe⟩ := hrel
    clear hS
    have hL := rights_len (cd z) k
    have hB := bytes_le (rights (cd z) k)
    by_cases hlt : k < len
    · obtain ⟨b, off, rfl, hbB, hc⟩ := HR.out (by omega)
      have cc := fun j (hj : j < 7) => (hbe.cell (p := ⟨b, off + k * 7 + j, none⟩) hbB).trans (hc k hlt j hj)
      have c0 : wr.cell? ⟨b, off + k * 7, none⟩ = some (.int .i64 (z k 0)) := cc 0 (by omega)
      have c1 : wr.cell? ⟨b, off + k * 7 + 1, none⟩ = some (.int .i64 (z k 1)) := cc 1 (by omega)
      have c2 : wr.cell? ⟨b, off + k * 7 + 2, none⟩ = some (.int .i64 (z k 2)) := cc 2 (by omega)
      have c3 : wr.cell? ⟨b, off + k * 7 + 3, none⟩ = some (.int .i64 (z k 3)) := cc 3 (by omega)
      have c4 : wr.cell? ⟨b, off + k * 7 + 4, none⟩ = some (.int .i64 (z k 4)) := cc 4 (by omega)
      have c5 : wr.cell? ⟨b, off + k * 7 + 5, none⟩ = some (.int .i64 (z k 5)) := cc 5 (by omega)
      have c6 : wr.cell? ⟨b, off + k * 7 + 6, none⟩ = some (.int .i64 (z k 6)) := cc 6 (by omega)
      have HC := Lib.hid hc
      have f2 := HZ.out k hlt 2 (by omega)
      have f4 := HZ.out k hlt 4 (by omega)
      unfold fits at f2 f4
      clear cc hc
      by_cases hr : right (cd z k)
      · have HK := Lib.hid hr
        have HN := Lib.hid (rights_yes (c := cd z) hr)
        generalize rights (cd z) k = L at *
        clear hr
        go_wp2_with fail
        refine (put_sl _ (cd z k) HK.out f2.1 f2.2 f4.1 f4.2).mono ?_
        rintro e w1 ⟨Ap, cp, rfl, hs1, hg1⟩
        have hp := put_le (cd z k)
        have hAp : Ap = none → cp = 0 := fun h0 => by
          obtain ⟨b, off, e, _⟩ := hs1.rd (by omega)
          rw [h0] at e; cases e
        have ho1' := ho1.kept hg1 (own_ne ho1)
        have ho2' := ho2.kept hg1 (own_ne ho2)
        have hbe1 := below_new hbe hg1 hbe.size
        have hsz1 := hbe1.size
        clear c0 c1 c2 c3 c4 c5 c6 ho1 ho2 hbe hg1
        generalize hpp : put (cd z k) = pp at *
        go_wp2_with (first | (at_builtin; go_loud (refine wpList_app_sl _ rfl _ _ 22 rfl w.heap.size 5 i0 Try.underlying22 hi hz0 hz1 hz2 _ (bytesOf L).length (bytesOf L) rfl ho1' Ap pp.length cp pp rfl hAp hs1 (by omega) (by omega) ?_)) | fail)
        intro v1 w2 ho3 hg2
        have hbe2 : Below w.heap.size w w2 := hbe1.grown hg2 hsz1 (own_block_ge ho1')
        have ho4 := ho2'.kept hg2 (rows_apart ho2' ho1' (by decide))
        have hsz2 := hbe2.size
        have cc := fun j (hj : j < 7) => (hbe2.cell (p := ⟨b, off + k * 7 + j, none⟩) hbB).trans (HC.out k hlt j hj)
        have c0 : w2.cell? ⟨b, off + k * 7, none⟩ = some (.int .i64 (z k 0)) := cc 0 (by omega)
        have c1 : w2.cell? ⟨b, off + k * 7 + 1, none⟩ = some (.int .i64 (z k 1)) := cc 1 (by omega)
        have c2 : w2.cell? ⟨b, off + k * 7 + 2, none⟩ = some (.int .i64 (z k 2)) := cc 2 (by omega)
        have c3 : w2.cell? ⟨b, off + k * 7 + 3, none⟩ = some (.int .i64 (z k 3)) := cc 3 (by omega)
        have c4 : w2.cell? ⟨b, off + k * 7 + 4, none⟩ = some (.int .i64 (z k 4)) := cc 4 (by omega)
        have c5 : w2.cell? ⟨b, off + k * 7 + 5, none⟩ = some (.int .i64 (z k 5)) := cc 5 (by omega)
        have c6 : w2.cell? ⟨b, off + k * 7 + 6, none⟩ = some (.int .i64 (z k 6)) := cc 6 (by omega)
        clear cc ho1' ho2' hbe1 hsz1 hg2 hs1
        go_wp2_with fail
        refine (clean_any _ (cd z k)).mono ?_
        rintro e w3 ⟨rfl, hg3⟩
        have ho5 := ho3.kept hg3 (own_ne ho3)
        have ho6 := ho4.kept hg3 (own_ne ho4)
        have hbe3 := below_new hbe2 hg3 hsz2
        have hsz3 := hbe3.size
        clear c0 c1 c2 c3 c4 c5 c6 ho3 ho4 hbe2 hsz2 hg3
        have hL7 := cells_len L
        go_wp2_with (first | (at_builtin; go_loud (refine wpList_append_own _ rfl _ _ 42 rfl w.heap.size 24 i1 _ 7 56 Try.underlying42 hj hw0 hw1 hw2 rfl (by decide) _ L.length (cellsOf L) rfl (ho6.alloc _) ⟨w3.heap.size, 0, none⟩ 1 1 (clean (cd z k)).cells rfl rfl (cells_new w3 24 (clean (cd z k)).cells) (ones_cells _) (by unfold maxLen; omega) (by omega) (by simp; omega) ?_)) | fail)
        intro v2 w4 ho7 hg4 _
        have ho8 := (ho5.alloc (.cells #[.int .i64 (clean (cd z k)).op, .int .i64 (clean (cd z k)).addr, .int .i64 (clean (cd z k)).words, .int .i64 (clean (cd z k)).cand, .int .i64 (clean (cd z k)).many, .int .i64 (clean (cd z k)).bits, .int .i64 (clean (cd z k)).at_] 24)).kept hg4 (rows_apart ho5 ho6 (by decide))
        have hbe4 : Below w.heap.size w w4 := (hbe3.alloc hsz3 _).grown hg4 (by simp; omega) (own_block_ge ho6)
        clear hg4 ho5 ho6 hbe3 hsz3
        go_wp2_with fail
        go_roundw
        case rel =>
          refine ⟨k + 1, by omega, rfl, ?_⟩
          rw [HN.out]
          refine ⟨?_, ?_, hbe4⟩
          · rw [bytes_app, hpp, List.length_append]; exact ho8
          · rw [cells_app, List.length_append]; exact ho7
        case measure => simp [intOf]; omega
      · have HN := Lib.hid (rights_not (c := cd z) hr)
        have HK := Lib.hid hr
        generalize rights (cd z) k = L at *
        clear hr
        go_wp2_with fail
        refine (put_not _ (cd z k) HK.out f2.1 f2.2 f4.1 f4.2).mono ?_
        rintro e w1 ⟨rfl, hg1⟩
        have ho1' := ho1.kept hg1 (own_ne ho1)
        have ho2' := ho2.kept hg1 (own_ne ho2)
        have hbe1 := below_new hbe hg1 hbe.size
        clear c0 c1 c2 c3 c4 c5 c6 ho1 ho2 hbe hg1
        go_wp2_with fail
        go_roundw
        case rel =>
          refine ⟨k + 1, by omega, rfl, ?_⟩
          rw [HN.out]
          exact ⟨ho1', ho2', hbe1⟩
        case measure => simp [intOf]; omega
    · obtain rfl : k = len := by omega
      have hRR := rights_right (cd z) k
      generalize rights (cd z) k = L at *
      obtain ⟨f, d, hf0, hfN, hF⟩ := row_facts L hRR
      have hxs := bytes_ok hRR
      obtain ⟨Ab, cb, rfl, _⟩ := own_rd ho1
      have hsb := Sl.of_own ho1
      obtain ⟨Aa, ca, rfl, hna, hca, hca2⟩ := own_rd7 ho2
      have hNle : (bytesOf L).length ≤ 300 := by omega
      have HF := Lib.hid hF
      have HX := Lib.hid hxs
      have HA := Lib.hid hca2
      clear hF hxs hca2 ho1 ho2 hB hRR
      generalize bytesOf L = bs at *
      generalize hnn : bs.length = N at *
      generalize cellsOf L = cs at *
      generalize L.length = mm at *
      have hE := readV_end N (fun i => bs.getD i 0)
      clear HR HZ hi hj hz0 hz1 hz2 hw0 hw1 hw2
      obtain ⟨w5, hw5⟩ : ∃ w5, w5 = wr := ⟨_, rfl⟩
      subst hw5
      go_wp2_with fail
      go_loopw [8, 9] (fun at_ i wr => ∃ q : Nat, q ≤ mm ∧ i = .int .i64 q ∧ at_ = .int .i64 (f q) ∧ w5.grownBy wr none) (fun _ i _ => mm - (intOf i).toNat)
      case atStart => exact ⟨0, by omega, rfl, by rw [hf0]; rfl, gb_refl _ _⟩
      case round =>
        obtain ⟨q, hq, rfl, rfl, hgx⟩ := hrel
        by_cases hql : q < mm
        · obtain ⟨g, og, rfl, hgw, hcell⟩ := HA.out (by omega)
          obtain ⟨k1, k2, k3⟩ := HF.out q hql
          have hrd := read_sl wr Ab N cb bs (f q) (hsb.kept hgx) HX.out
          rw [k1] at hrd
          go_wp2_with fail
          refine hrd.mono ?_
          rintro e w7 ⟨rfl, hg7⟩
          have hX7 := Blk.new w7 24 (d q).cells
          have hW7 := gb_alloc (gb_trans hgx hg7) (.cells #[.int .i64 (d q).op, .int .i64 (d q).addr, .int .i64 (d q).words, .int .i64 (d q).cand, .int .i64 (d q).many, .int .i64 (d q).bits, .int .i64 (d q).at_] 24)
          clear hrd hg7
          go_upto_region 17 with (fail)
          refine forget_world (fun w' => Blk w' w7.heap.size 24 (d q).cells ∧ w5.grownBy w' none) ⟨hX7, hW7⟩ ?_
          rintro w8 ⟨hX8, hW8⟩
          clear hX7 hW7 hgx
          have hc0 := fun x : New w8 => (hX8.kept x.ok (by simp)).cell 0 _ rfl
          have hc1 := fun x : New w8 => (hX8.kept x.ok (by simp)).cell 1 _ rfl
          have hc2 := fun x : New w8 => (hX8.kept x.ok (by simp)).cell 2 _ rfl
          have hc3 := fun x : New w8 => (hX8.kept x.ok (by simp)).cell 3 _ rfl
          have hc4 := fun x : New w8 => (hX8.kept x.ok (by simp)).cell 4 _ rfl
          have hc5 := fun x : New w8 => (hX8.kept x.ok (by simp)).cell 5 _ rfl
          have hc6 := fun x : New w8 => (hX8.kept x.ok (by simp)).cell 6 _ rfl
          have ga : ∀ (x : New w8) (j : Nat) (u : Value), j < 7 → (d q).cells[j]? = some u → x.w.cell? ⟨g, og + q * 7 + j, none⟩ = some u := fun x j u hj hu => by
            rw [cell_kept (gb_trans hW8 x.ok) hgw, Nat.add_assoc]
            exact hcell _ _ ((k3 j hj).trans hu)
          have ga0 : ∀ x : New w8, x.w.cell? ⟨g, og + q * 7, none⟩ = some (.int .i64 (d q).op) := fun x => ga x 0 _ (by omega) rfl
          have ga1 : ∀ x : New w8, x.w.cell? ⟨g, og + q * 7 + 1, none⟩ = some (.int .i64 (d q).addr) := fun x => ga x 1 _ (by omega) rfl
          have ga2 : ∀ x : New w8, x.w.cell? ⟨g, og + q * 7 + 2, none⟩ = some (.int .i64 (d q).words) := fun x => ga x 2 _ (by omega) rfl
          have ga3 : ∀ x : New w8, x.w.cell? ⟨g, og + q * 7 + 3, none⟩ = some (.int .i64 (d q).cand) := fun x => ga x 3 _ (by omega) rfl
          have ga4 : ∀ x : New w8, x.w.cell? ⟨g, og + q * 7 + 4, none⟩ = some (.int .i64 (d q).many) := fun x => ga x 4 _ (by omega) rfl
          have ga5 : ∀ x : New w8, x.w.cell? ⟨g, og + q * 7 + 5, none⟩ = some (.int .i64 (d q).bits) := fun x => ga x 5 _ (by omega) rfl
          have ga6 : ∀ x : New w8, x.w.cell? ⟨g, og + q * 7 + 6, none⟩ = some (.int .i64 (d q).at_) := fun x => ga x 6 _ (by omega) rfl
          have dl : decide (((f (q + 1) : Nat) : Int) ≤ (f q : Nat)) = false := by simp; omega
          have dl2 : decide (f (q + 1) ≤ f q) = false := by simp; omega
          have hqi : (q : Int) < mm := by omega
          clear ga hcell k1 k3 hX8
          haveI hnw := new_ne w8
          refine new_start fun x => ?_
          refine wp_region_later (by kernel_rfl) (by kernel_rfl) ?_
          repeat (go_big_quiet_step (fail))
          refine wpQuiet_nil ?_
          intro _ hw'
          obtain ⟨yy, hw''⟩ := hw'
          subst hw''
          have hW9 := gb_trans hW8 yy.ok
          go_wp2_with fail
          go_roundw
          case rel => exact ⟨q + 1, by omega, rfl, rfl, hW9⟩
          case measure => simp [intOf]; omega
        · obtain rfl : q = mm := by omega
          rw [hfN]
          have hrd := read_sl wr Ab N cb bs N (hsb.kept hgx) HX.out
          rw [hE] at hrd
          go_wp2_with fail
          refine hrd.mono ?_
          rintro e w7 ⟨rfl, hg7⟩
          have hW7 := gb_alloc (gb_trans hgx hg7) (.cells #[.int .i64 zero.op, .int .i64 zero.addr, .int .i64 zero.words, .int .i64 zero.cand, .int .i64 zero.many, .int .i64 zero.bits, .int .i64 zero.at_] 24)
          clear hrd hg7
          go_wp2_with fail
          refine (one_any _).mono ?_
          rintro e wu ⟨rfl, hgu⟩
          go_wp2_with fail
          go_ret
          exact ⟨rfl, hbe.trans (gb_below (gb_trans hW7 hgu) hbe.size (by simp))⟩
theorem walk {H : Type} {enc : TypeId × Value → H} (base : Nat) (W : World) (v0 : Value) (d0 : DataW H) (p0 : List MemPlace)
    (o0 : Value.okWide Try.prog W .any base 42 v0)
    (h0 : DataW.Trod enc Try.prog W 0 (fun _ => true) true 42 v0 d0 p0) :
    Calls Try.prog 6 #[v0] W fun e w' => e = .returned (.bool true) ∧ Below W.heap.size W w' := by
  obtain ⟨A, len, cap, z, rfl, hl, hm, hr, hz⟩ := open_rdSw Try.underlying42 Try.underlying24 (by kernel_rfl) (by kernel_rfl) (by decide) (by
    intro j f hj
    match j, hj with
    | 0, hj => cases hj; exact Try.underlying3
    | 1, hj => cases hj; exact Try.underlying3
    | 2, hj => cases hj; exact Try.underlying3
    | 3, hj => cases hj; exact Try.underlying3
    | 4, hj => cases hj; exact Try.underlying3
    | 5, hj => cases hj; exact Try.underlying3
    | 6, hj => cases hj; exact Try.underlying3) o0 h0
  by_cases h : len ≤ 60
  · exact walk_any W A len cap z h hl hm hr hz
  · exact long_list W A len cap (by omega)
end cmdRowW
end Go.Proofs.Ytbhfbdldehahoaa
