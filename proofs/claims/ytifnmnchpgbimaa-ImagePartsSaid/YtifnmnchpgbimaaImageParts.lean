/- ImageParts: the sum of bytes does not hang on how they are parted: the walk. -/
import Derived.Test.YtifnmnchpgbimaaImgL
import Derived.Deep.Slices
namespace Go.Proofs.Ytifnmnchpgbimaa
open Go.ChangeShapes Go.WideShapes Go.ChangeAt Go.RowKit Go.Proofs.Ytifnmnchpgbimaa.Cm Go.Proofs.Ytifnmnchpgbimaa.Im
set_option linter.unusedVariables false
set_option linter.unusedSimpArgs false
namespace imagePartsW
attribute [local go_sem] alloc_drewN' setCell_drewN'
theorem sl_info : (Try.prog.info? 23).map (fun i => (i.zero, i.size, i.bytes)) = some (some (.slice none 0 0), 1, 24) := by kernel_rfl
/-- Where a part begins. -/
abbrev cutA (bb off cb s : Nat) : Option Addr := if cb = s then some ⟨bb, off, none⟩ else some ⟨bb, off + s, none⟩
def addrOf (Ab : Option Addr) (cb s : Nat) : Option Addr := match Ab with
  | none => none
  | some a => if cb = s then some a else some (a.add s)
/-- A part. -/
def part (Ab : Option Addr) (cb : Nat) (p : Nat × Nat) : Value := .slice (addrOf Ab cb p.1) (p.2 - p.1) (cb - p.1)
theorem part_at (bb bo cb a q : Nat) (h : ¬ cb = a) : part (some ⟨bb, bo, none⟩) cb (a, a + q) = .slice (some ⟨bb, bo + a, none⟩) q (cb - a) := by
  unfold part addrOf
  dsimp only
  rw [if_neg h, Nat.add_sub_cancel_left]
  congr 2
  unfold Addr.add
  split
  · rename_i h0; simp_all
  · rfl
/-- A part's bytes. -/
def seg (l : List Int) (p : Nat × Nat) : List Int := (l.drop p.1).take (p.2 - p.1)
theorem part_sl {w : World} {Ab : Option Addr} {nb cb : Nat} {l : List Int} (h : Sl w 0 Ab nb cb l) (p : Nat × Nat) (h1 : p.1 ≤ p.2) (h2 : p.2 ≤ nb) : Sl w 0 (addrOf Ab cb p.1) (p.2 - p.1) (cb - p.1) (seg l p) := by
  have hl := h.len
  have hle := h.le
  have hc := h.cap
  refine ⟨by unfold seg; simp; omega, by omega, by omega, fun hn => ?_⟩
  obtain ⟨b, off, rfl, _, h4, h5⟩ := h.rd (by omega)
  refine ⟨b, off + p.1, ?_, Nat.zero_le _, h4, fun i hi => ?_⟩
  · unfold addrOf
    dsimp only
    rw [if_neg (by omega)]
    congr 1
    unfold Addr.add
    split
    · rename_i h0; simp_all
    · rfl
  · rw [Nat.add_assoc, h5 _ (by omega)]
    unfold seg
    simp [List.getD_eq_getElem?_getD, List.getElem?_take, hi]
theorem seg_bytes {l : List Int} (h : ∀ x ∈ l, 0 ≤ x ∧ x ≤ 255) (p : Nat × Nat) : ∀ x ∈ seg l p, 0 ≤ x ∧ x ≤ 255 := fun x hx => h x (List.mem_of_mem_drop (List.mem_of_mem_take hx))
/-- What holds behind the rounds. -/
def Had (w0 w : World) (Ab : Option Addr) (nb cb : Nat) (l : List Int) (k a : Nat) (v : Value) : Prop :=
  ∃ ps : List (Nat × Nat), ps.length = k ∧ a ≤ nb ∧ (∀ p ∈ ps, p.1 ≤ p.2 ∧ p.2 ≤ nb) ∧ (ps.map (seg l)).flatten = l.take a ∧ w.ownsRow w0.heap.size 23 1 v k (ps.map (part Ab cb)) ∧ Below w0.heap.size w0 w
theorem had_more {w0 w' : World} {Ab : Option Addr} {nb cb : Nat} {l : List Int} {k a n : Nat} {v' : Value} (ps : List (Nat × Nat)) (h1 : ps.length = k) (h2 : a ≤ nb) (h3 : ∀ p ∈ ps, p.1 ≤ p.2 ∧ p.2 ≤ nb) (h4 : (ps.map (seg l)).flatten = l.take a)
    (hn : a + n ≤ nb) (ho : w'.ownsRow w0.heap.size 23 1 v' (k + 1) (ps.map (part Ab cb) ++ [part Ab cb (a, a + n)])) (hb : Below w0.heap.size w0 w') : Had w0 w' Ab nb cb l (k + 1) (a + n) v' := by
  refine ⟨ps ++ [(a, a + n)], by simp [h1], hn, ?_, ?_, by simpa using ho, hb⟩
  · intro p hp
    rcases List.mem_append.1 hp with hp | hp
    · exact h3 p hp
    · simp at hp; subst hp; exact ⟨by simp, hn⟩
  · rw [List.map_append, List.flatten_append, h4]
    simp [seg]
    rw [← List.take_add]
/-- The sum over the parts. -/
theorem had_sls {w0 w : World} {Ab : Option Addr} {nb cb : Nat} {l : List Int} {k : Nat} {v : Value} (hs : Sl w 0 Ab nb cb l) (hb : ∀ x ∈ l, 0 ≤ x ∧ x ≤ 255) (h : Had w0 w Ab nb cb l k nb v) :
    ∃ A c sa sn sc ls, v = .slice A k c ∧ Sls w A k c sa sn sc ls ∧ upto ls k = l := by
  obtain ⟨ps, h1, _, h3, h4, ho, _⟩ := h
  have hl := hs.len
  have hup : upto (fun i => seg l (ps.getD i (0, 0))) k = l := by
    unfold upto
    rw [← h1, ← Go.Deep.map_by_index ps (0, 0) (seg l), h4, List.take_of_length_le (by omega)]
  have hmem : ∀ i, i < k → ps.getD i (0, 0) ∈ ps := fun i hi => by
    rw [List.getD_eq_getElem?_getD, List.getElem?_eq_getElem (by omega)]
    exact List.getElem_mem _
  have hc := fun g => ho.cells (g := g)
  rcases ho.2 with ⟨rfl, rfl⟩ | ⟨g, cap, cur, rfl, hg0, hg, hn, hm, hsz, ht⟩
  · exact ⟨none, 0, fun i => addrOf Ab cb (ps.getD i (0, 0)).1, fun i => (ps.getD i (0, 0)).2 - (ps.getD i (0, 0)).1, fun i => cb - (ps.getD i (0, 0)).1, fun i => seg l (ps.getD i (0, 0)), rfl,
      ⟨Nat.le_refl _, by omega, fun h => absurd h (by omega), fun i hi => absurd hi (by omega), fun i hi => absurd hi (by omega)⟩, hup⟩
  · refine ⟨_, cap, fun i => addrOf Ab cb (ps.getD i (0, 0)).1, fun i => (ps.getD i (0, 0)).2 - (ps.getD i (0, 0)).1, fun i => cb - (ps.getD i (0, 0)).1, fun i => seg l (ps.getD i (0, 0)), rfl,
      ⟨hn, by unfold maxLen at hm; omega, fun _ => ⟨g, 0, rfl, fun i hi => ?_⟩, fun i hi => part_sl hs _ (h3 _ (hmem i hi)).1 (h3 _ (hmem i hi)).2, fun i hi => seg_bytes hb _⟩, hup⟩
    have := hc g rfl i (part Ab cb (ps.getD i (0, 0))) (by
      rw [List.getElem?_map, List.getD_eq_getElem?_getD, List.getElem?_eq_getElem (by omega)]
      rfl)
    rw [add_cell] at this
    rw [Nat.zero_add]
    exact this
theorem open_spot {H : Type} {enc : TypeId × Value → H} {P : Program} {W : World} {t e : TypeId} {bb bo : Nat} {spot} {len cap : Nat} {d : DataW H} {p : List MemPlace}
    (ht : P.underlying t = some (.slice e)) (he : P.underlying e = some (.int .u8)) (hc : P.cellsOf e = 1) (h : DataW.Trod enc P W 0 (fun _ => true) true t (.slice (some ⟨bb, bo, spot⟩) len cap) d p) (h0 : 0 < cap) : spot = none := by
  obtain ⟨fuel, hf⟩ := h
  rcases open_ints ht he hc hf with ⟨hcs, _⟩ | ⟨x, l, c, zs, hcs, _, hl, hm, hz, _, hcell, hwz⟩
  · simp [Value.cells] at hcs
  · simp [Value.cells] at hcs
    obtain ⟨rfl, rfl, rfl⟩ := hcs
    have hz' : zs.length = cap := by simpa using hz
    have := World.cell?_spot (hcell 0 (by omega))
    simpa [Addr.add] using this
set_option maxRecDepth 100000 in
set_option maxHeartbeats 1000000 in
theorem long_list (w : World) (Ab : Option Addr) (nb cb : Nat) (Ac : Option Addr) (nc cc : Nat) (h : ¬ (nb ≤ 1000 ∧ nc ≤ 40)) :
    Calls Try.prog 5 #[.slice Ab nb cb, .slice Ac nc cc] w fun e w' => e = .returned (.bool true) ∧ Below w.heap.size w w' := by
  by_cases h1 : nb ≤ 1000
  · have dm : decide ((1000 : Int) < nb) = false := by simp; omega
    have dn : decide ((40 : Int) < nc) = true := by simp; omega
    go_enter Try.func5, Try.ntmps5
    go_wp2_with fail
    go_ret
    exact ⟨rfl, Below.refl _ _⟩
  · have dm : decide ((1000 : Int) < nb) = true := by simp; omega
    go_enter Try.func5, Try.ntmps5
    go_wp2_with fail
    go_ret
    exact ⟨rfl, Below.refl _ _⟩
set_option maxRecDepth 100000 in
set_option maxHeartbeats 4000000 in
theorem walk_some (w : World) (bb bo : Nat) (nb cb : Nat) (l : List Int) (Ac : Option Addr) (nc cc : Nat) (z : Nat → Int) (hs : Sl w 0 (some ⟨bb, bo, none⟩) nb cb l) (hx : ∀ x ∈ l, 0 ≤ x ∧ x ≤ 255) (hr : Rd w w.heap.size Ac nc (fun i => .int .i64 (z i))) (hcc : nc ≤ cc) (hcm : cc ≤ maxLen) (hnb : nb ≤ 1000) (hnc : nc ≤ 40) :
    Calls Try.prog 5 #[.slice (some ⟨bb, bo, none⟩) nb cb, .slice Ac nc cc] w fun e w' => e = .returned (.bool true) ∧ Below w.heap.size w w' := by
  obtain ⟨i0, hi, hz0, hz1, hz2⟩ := info_parts sl_info
  have HS := Lib.hid hs
  have HX := Lib.hid hx
  have HC := Lib.hid hr
  have hlb := hs.len
  have hle := hs.le
  have hcp := hs.cap
  unfold maxLen at hcm
  have dm : decide ((1000 : Int) < nb) = false := by simp; omega
  have dn : decide ((40 : Int) < nc) = false := by simp; omega
  clear hx hr
  have hH : Had w w (some ⟨bb, bo, none⟩) nb cb l 0 0 (.slice none 0 0) := ⟨[], rfl, Nat.zero_le _, by simp, by simp, World.ownsRow_nil _ _ _ _, Below.refl _ _⟩
  clear hs
  go_enter Try.func5, Try.ntmps5
  go_wp2_with fail
  go_loopw [5, 6, 7] (fun v at_ i wr => ∃ k a : Nat, k ≤ nc ∧ i = .int .i64 k ∧ at_ = .int .i64 a ∧ Had w wr (some ⟨bb, bo, none⟩) nb cb l k a v) (fun _ _ i _ => nc - (intOf i).toNat)
  case atStart => exact ⟨0, 0, by omega, rfl, rfl, hH⟩
  case round =>
    obtain ⟨k, a, hk, rfl, rfl, hb⟩ := hrel
    clear hH
    by_cases hlt : k < nc
    · obtain ⟨b, off, rfl, hbB, hc⟩ := HC.out (by omega)
      obtain ⟨ps, h1, h2, h3, h4, ho, hbe⟩ := hb
      have c0 : wr.cell? ⟨b, off + k, none⟩ = some (.int .i64 (z k)) := (hbe.cell (p := ⟨b, off + k, none⟩) hbB).trans (hc k hlt)
      obtain ⟨t, ht, ht2⟩ : ∃ t : Nat, bits .and .i64 (z k) 255 = (t : Int) ∧ t < 256 := ⟨(z k % 256).toNat, by rw [mask8]; omega, by omega⟩
      have HP := Lib.hid h3
      have HF := Lib.hid h4
      have hki : (k : Int) < nc := by omega
      clear hc h3 h4
      obtain ⟨q, hq, hqn⟩ : ∃ q : Nat, (if (nb : Int) - a < t then (nb : Int) - a else (t : Int)) = (q : Int) ∧ a + q ≤ nb := by
        by_cases h : (nb : Int) - a < t
        · exact ⟨nb - a, by rw [if_pos h]; omega, by omega⟩
        · exact ⟨t, by rw [if_neg h], by omega⟩
      have ha0 : (a : Int) ≤ (a : Int) + q := by omega
      have ha1 : (a : Int) + q ≤ cb := by omega
      have ha2 : a ≤ a + q := by omega
      have ha3 : a + q ≤ cb := by omega
      by_cases hcs : cb = a
      · have hq0 : q = 0 := by omega
        subst hq0
        subst hcs
        go_upto_region 9 with (fail)
        go_wp2_with (first | (at_builtin; go_loud (refine wpList_append_own _ rfl _ _ 44 rfl w.heap.size 23 i0 (.slice none 0 0) 1 24 Try.underlying44 hi hz0 hz1 hz2 rfl (by decide) _ k (ps.map (part (some ⟨bb, bo, none⟩) cb)) rfl (ho.alloc _) ⟨wr.heap.size, 0, none⟩ 1 1 [.slice (some ⟨bb, bo, none⟩) 0 0] rfl rfl (cells_new wr 23 [.slice (some ⟨bb, bo, none⟩) 0 0]) (by intro u hu; simp at hu; subst hu; rfl) (by unfold maxLen; omega) (by omega) (by have := hbe.size; simp; omega) ?_)) | fail)
        intro v' w2 ho2 hg2 _
        have hbe2 : Below w.heap.size w w2 := (hbe.alloc hbe.size (.cells #[.slice (some ⟨bb, bo, none⟩) 0 0] 23)).grown hg2 (by have := hbe.size; simp; omega) (own_block_ge ho)
        clear hg2 hbe ho
        go_wp2_with fail
        go_roundw
        case rel => exact ⟨k + 1, cb + 0, by omega, rfl, rfl, had_more ps h1 h2 HP.out HF.out hqn (by rw [show part (some ⟨bb, bo, none⟩) cb (cb, cb + 0) = .slice (some ⟨bb, bo, none⟩) 0 0 by unfold part addrOf; simp]; exact ho2) hbe2⟩
        case measure => simp [intOf]; omega
      · go_upto_region 9 with (fail)
        go_wp2_with (first | (at_builtin; go_loud (refine wpList_append_own _ rfl _ _ 44 rfl w.heap.size 23 i0 (.slice none 0 0) 1 24 Try.underlying44 hi hz0 hz1 hz2 rfl (by decide) _ k (ps.map (part (some ⟨bb, bo, none⟩) cb)) rfl (ho.alloc _) ⟨wr.heap.size, 0, none⟩ 1 1 [.slice (some ⟨bb, bo + a, none⟩) q (cb - a)] rfl rfl (cells_new wr 23 [.slice (some ⟨bb, bo + a, none⟩) q (cb - a)]) (by intro u hu; simp at hu; subst hu; rfl) (by unfold maxLen; omega) (by omega) (by have := hbe.size; simp; omega) ?_)) | fail)
        intro v' w2 ho2 hg2 _
        have hbe2 : Below w.heap.size w w2 := (hbe.alloc hbe.size (.cells #[.slice (some ⟨bb, bo + a, none⟩) q (cb - a)] 23)).grown hg2 (by have := hbe.size; simp; omega) (own_block_ge ho)
        clear hg2 hbe ho
        go_wp2_with fail
        go_roundw
        case rel => exact ⟨k + 1, a + q, by omega, rfl, rfl, had_more ps h1 h2 HP.out HF.out hqn (by rw [show part (some ⟨bb, bo, none⟩) cb (a, a + q) = .slice (some ⟨bb, bo + a, none⟩) q (cb - a) by exact part_at bb bo cb a q hcs]; exact ho2) hbe2⟩
        case measure => simp [intOf]; omega
    · obtain rfl : k = nc := by omega
      obtain ⟨ps, h1, h2, h3, h4, ho, hbe⟩ := hb
      have HP := Lib.hid h3
      have HF := Lib.hid h4
      clear HC h3 h4
      have ha0 : (a : Int) ≤ nb := by omega
      have ha1 : (a : Int) ≤ cb := by omega
      have ha3 : a ≤ cb := by omega
      by_cases hcs : cb = a
      · obtain rfl : nb = cb := by omega
        subst hcs
        go_upto_region 11 with (fail)
        go_wp2_with (first | (at_builtin; go_loud (refine wpList_append_own _ rfl _ _ 44 rfl w.heap.size 23 i0 (.slice none 0 0) 1 24 Try.underlying44 hi hz0 hz1 hz2 rfl (by decide) _ k (ps.map (part (some ⟨bb, bo, none⟩) nb)) rfl (ho.alloc _) ⟨wr.heap.size, 0, none⟩ 1 1 [.slice (some ⟨bb, bo, none⟩) 0 0] rfl rfl (cells_new wr 23 [.slice (some ⟨bb, bo, none⟩) 0 0]) (by intro u hu; simp at hu; subst hu; rfl) (by unfold maxLen; omega) (by omega) (by have := hbe.size; simp; omega) ?_)) | fail)
        intro v' w2 ho2 hg2 _
        have hbe2 : Below w.heap.size w w2 := (hbe.alloc hbe.size (.cells #[.slice (some ⟨bb, bo, none⟩) 0 0] 23)).grown hg2 (by have := hbe.size; simp; omega) (own_block_ge ho)
        have hH2 := had_more ps h1 h2 HP.out HF.out (show nb + 0 ≤ nb by omega) (by rw [show part (some ⟨bb, bo, none⟩) nb (nb, nb + 0) = .slice (some ⟨bb, bo, none⟩) 0 0 by unfold part addrOf; simp]; exact ho2) hbe2
        rw [show nb + 0 = nb by omega] at hH2
        have hsl2 := HS.out.kept_below hbe2
        obtain ⟨A9, c9, sa, sn, sc, ls, rfl, hS9, hup⟩ := had_sls hsl2 HX.out hH2
        have hsum := sum_any w2 A9 (k + 1) c9 sa sn sc ls hS9
        rw [hup] at hsum
        have hsum2 := sum_any _ _ 1 1 _ _ _ _ (sls_one w2 (some ⟨bb, bo, none⟩) nb nb l hsl2 HX.out 23)
        rw [upto_one] at hsum2
        generalize crc l = S at *
        clear hg2 hbe ho ho2 hH2 hS9 hup hsl2
        go_wp2_with fail
        refine hsum.mono ?_
        rintro e w3 ⟨rfl, rfl⟩
        clear hsum
        go_wp2_with fail
        refine hsum2.mono ?_
        rintro e w4 ⟨rfl, rfl⟩
        have hbe3 := hbe2.alloc hbe2.size (.cells #[.slice (some ⟨bb, bo, none⟩) nb nb] 23)
        clear hsum2 hbe2
        go_wp2_with fail
        refine (one_any _).mono ?_
        rintro e w5 ⟨rfl, hg5⟩
        go_wp2_with fail
        go_ret
        exact ⟨rfl, hbe3.trans (gb_below hg5 hbe3.size (by simp))⟩
      · go_upto_region 11 with (fail)
        go_wp2_with (first | (at_builtin; go_loud (refine wpList_append_own _ rfl _ _ 44 rfl w.heap.size 23 i0 (.slice none 0 0) 1 24 Try.underlying44 hi hz0 hz1 hz2 rfl (by decide) _ k (ps.map (part (some ⟨bb, bo, none⟩) cb)) rfl (ho.alloc _) ⟨wr.heap.size, 0, none⟩ 1 1 [.slice (some ⟨bb, bo + a, none⟩) (nb - a) (cb - a)] rfl rfl (cells_new wr 23 [.slice (some ⟨bb, bo + a, none⟩) (nb - a) (cb - a)]) (by intro u hu; simp at hu; subst hu; rfl) (by unfold maxLen; omega) (by omega) (by have := hbe.size; simp; omega) ?_)) | fail)
        intro v' w2 ho2 hg2 _
        have hbe2 : Below w.heap.size w w2 := (hbe.alloc hbe.size (.cells #[.slice (some ⟨bb, bo + a, none⟩) (nb - a) (cb - a)] 23)).grown hg2 (by have := hbe.size; simp; omega) (own_block_ge ho)
        have hH2 := had_more ps h1 h2 HP.out HF.out (show a + (nb - a) ≤ nb by omega) (by rw [show part (some ⟨bb, bo, none⟩) cb (a, a + (nb - a)) = .slice (some ⟨bb, bo + a, none⟩) (nb - a) (cb - a) by exact part_at bb bo cb a _ hcs]; exact ho2) hbe2
        rw [show a + (nb - a) = nb by omega] at hH2
        have hsl2 := HS.out.kept_below hbe2
        obtain ⟨A9, c9, sa, sn, sc, ls, rfl, hS9, hup⟩ := had_sls hsl2 HX.out hH2
        have hsum := sum_any w2 A9 (k + 1) c9 sa sn sc ls hS9
        rw [hup] at hsum
        have hsum2 := sum_any _ _ 1 1 _ _ _ _ (sls_one w2 (some ⟨bb, bo, none⟩) nb cb l hsl2 HX.out 23)
        rw [upto_one] at hsum2
        generalize crc l = S at *
        clear hg2 hbe ho ho2 hH2 hS9 hup hsl2
        go_wp2_with fail
        refine hsum.mono ?_
        rintro e w3 ⟨rfl, rfl⟩
        clear hsum
        go_wp2_with fail
        refine hsum2.mono ?_
        rintro e w4 ⟨rfl, rfl⟩
        have hbe3 := hbe2.alloc hbe2.size (.cells #[.slice (some ⟨bb, bo, none⟩) nb cb] 23)
        clear hsum2 hbe2
        go_wp2_with fail
        refine (one_any _).mono ?_
        rintro e w5 ⟨rfl, hg5⟩
        go_wp2_with fail
        go_ret
        exact ⟨rfl, hbe3.trans (gb_below hg5 hbe3.size (by simp))⟩
set_option maxRecDepth 100000 in
set_option maxHeartbeats 4000000 in
theorem walk_nil (w : World) (Ac : Option Addr) (nc cc : Nat) (z : Nat → Int) (hr : Rd w w.heap.size Ac nc (fun i => .int .i64 (z i))) (hcc : nc ≤ cc) (hcm : cc ≤ maxLen) (hnc : nc ≤ 40) :
    Calls Try.prog 5 #[.slice none 0 0, .slice Ac nc cc] w fun e w' => e = .returned (.bool true) ∧ Below w.heap.size w w' := by
  obtain ⟨i0, hi, hz0, hz1, hz2⟩ := info_parts sl_info
  have HC := Lib.hid hr
  have hs : Sl w 0 none 0 0 [] := ⟨rfl, Nat.le_refl _, by omega, fun h => absurd h (by omega)⟩
  have HS := Lib.hid hs
  unfold maxLen at hcm
  have dn : decide ((40 : Int) < nc) = false := by simp; omega
  clear hr
  have hH : Had w w none 0 0 [] 0 0 (.slice none 0 0) := ⟨[], rfl, Nat.zero_le _, by simp, by simp, World.ownsRow_nil _ _ _ _, Below.refl _ _⟩
  clear hs
  go_enter Try.func5, Try.ntmps5
  go_wp2_with fail
  go_loopw [5, 6, 7] (fun v at_ i wr => ∃ k : Nat, k ≤ nc ∧ i = .int .i64 k ∧ at_ = .int .i64 0 ∧ Had w wr none 0 0 [] k 0 v) (fun _ _ i _ => nc - (intOf i).toNat)
  case atStart => exact ⟨0, by omega, rfl, rfl, hH⟩
  case round =>
    obtain ⟨k, hk, rfl, rfl, hb⟩ := hrel
    clear hH
    by_cases hlt : k < nc
    · obtain ⟨b, off, rfl, hbB, hc⟩ := HC.out (by omega)
      obtain ⟨ps, h1, h2, h3, h4, ho, hbe⟩ := hb
      have c0 : wr.cell? ⟨b, off + k, none⟩ = some (.int .i64 (z k)) := (hbe.cell (p := ⟨b, off + k, none⟩) hbB).trans (hc k hlt)
      obtain ⟨t, ht, ht2⟩ : ∃ t : Nat, bits .and .i64 (z k) 255 = (t : Int) ∧ t < 256 := ⟨(z k % 256).toNat, by rw [mask8]; omega, by omega⟩
      have HP := Lib.hid h3
      have HF := Lib.hid h4
      have hki : (k : Int) < nc := by omega
      clear hc h3 h4
      have hq : (if (0 : Int) < (t : Int) then (0 : Int) else (t : Int)) = 0 := by
        by_cases h : (0 : Int) < (t : Int)
        · rw [if_pos h]
        · rw [if_neg h]; omega
      have hq2 : (if 0 < t then (0 : Int) else (t : Int)) = 0 := by
        by_cases h : 0 < t
        · rw [if_pos h]
        · rw [if_neg h]; omega
      go_upto_region 9 with (fail)
      go_wp2_with (first | (at_builtin; go_loud (refine wpList_append_own _ rfl _ _ 44 rfl w.heap.size 23 i0 (.slice none 0 0) 1 24 Try.underlying44 hi hz0 hz1 hz2 rfl (by decide) _ k (ps.map (part none 0)) rfl (ho.alloc _) ⟨wr.heap.size, 0, none⟩ 1 1 [.slice none 0 0] rfl rfl (cells_new wr 23 [.slice none 0 0]) (by intro u hu; simp at hu; subst hu; rfl) (by unfold maxLen; omega) (by omega) (by have := hbe.size; simp; omega) ?_)) | fail)
      intro v' w2 ho2 hg2 _
      have hbe2 : Below w.heap.size w w2 := (hbe.alloc hbe.size (.cells #[.slice none 0 0] 23)).grown hg2 (by have := hbe.size; simp; omega) (own_block_ge ho)
      clear hg2 hbe ho
      go_wp2_with fail
      go_roundw
      case rel => exact ⟨k + 1, by omega, rfl, rfl, had_more ps h1 h2 HP.out HF.out (Nat.le_refl _) (by rw [show part none 0 (0, 0 + 0) = .slice none 0 0 by rfl]; exact ho2) hbe2⟩
      case measure => simp [intOf]; omega
    · obtain rfl : k = nc := by omega
      obtain ⟨ps, h1, h2, h3, h4, ho, hbe⟩ := hb
      have HP := Lib.hid h3
      have HF := Lib.hid h4
      have HX : Hid (∀ x ∈ ([] : List Int), 0 ≤ x ∧ x ≤ 255) := Lib.hid (by simp)
      clear HC h3 h4
      go_upto_region 11 with (fail)
      go_wp2_with (first | (at_builtin; go_loud (refine wpList_append_own _ rfl _ _ 44 rfl w.heap.size 23 i0 (.slice none 0 0) 1 24 Try.underlying44 hi hz0 hz1 hz2 rfl (by decide) _ k (ps.map (part none 0)) rfl (ho.alloc _) ⟨wr.heap.size, 0, none⟩ 1 1 [.slice none 0 0] rfl rfl (cells_new wr 23 [.slice none 0 0]) (by intro u hu; simp at hu; subst hu; rfl) (by unfold maxLen; omega) (by omega) (by have := hbe.size; simp; omega) ?_)) | fail)
      intro v' w2 ho2 hg2 _
      have hbe2 : Below w.heap.size w w2 := (hbe.alloc hbe.size (.cells #[.slice none 0 0] 23)).grown hg2 (by have := hbe.size; simp; omega) (own_block_ge ho)
      have hH2 := had_more ps h1 h2 HP.out HF.out (show 0 + 0 ≤ 0 by omega) (by rw [show part none 0 (0, 0 + 0) = .slice none 0 0 by rfl]; exact ho2) hbe2
      rw [show 0 + 0 = 0 by omega] at hH2
      have hsl2 := HS.out.kept_below hbe2
      obtain ⟨A9, c9, sa, sn, sc, ls, rfl, hS9, hup⟩ := had_sls hsl2 HX.out hH2
      have hsum := sum_any w2 A9 (k + 1) c9 sa sn sc ls hS9
      rw [hup] at hsum
      have hsum2 := sum_any _ _ 1 1 _ _ _ _ (sls_one w2 none 0 0 [] hsl2 HX.out 23)
      rw [upto_one] at hsum2
      generalize crc [] = S at *
      clear hg2 hbe ho ho2 hH2 hS9 hup hsl2
      go_wp2_with fail
      refine hsum.mono ?_
      rintro e w3 ⟨rfl, rfl⟩
      clear hsum
      go_wp2_with fail
      refine hsum2.mono ?_
      rintro e w4 ⟨rfl, rfl⟩
      have hbe3 := hbe2.alloc hbe2.size (.cells #[.slice none 0 0] 23)
      clear hsum2 hbe2
      go_wp2_with fail
      refine (one_any _).mono ?_
      rintro e w5 ⟨rfl, hg5⟩
      go_wp2_with fail
      go_ret
      exact ⟨rfl, hbe3.trans (gb_below hg5 hbe3.size (by simp))⟩
set_option maxRecDepth 100000 in
set_option maxHeartbeats 4000000 in
theorem walk_zero (w : World) (ad : Addr) (Ac : Option Addr) (nc cc : Nat) (z : Nat → Int) (hr : Rd w w.heap.size Ac nc (fun i => .int .i64 (z i))) (hcc : nc ≤ cc) (hcm : cc ≤ maxLen) (hnc : nc ≤ 40) :
    Calls Try.prog 5 #[.slice (some ad) 0 0, .slice Ac nc cc] w fun e w' => e = .returned (.bool true) ∧ Below w.heap.size w w' := by
  obtain ⟨i0, hi, hz0, hz1, hz2⟩ := info_parts sl_info
  have HC := Lib.hid hr
  have hs : Sl w 0 (some ad) 0 0 [] := ⟨rfl, Nat.le_refl _, by omega, fun h => absurd h (by omega)⟩
  have HS := Lib.hid hs
  unfold maxLen at hcm
  have dn : decide ((40 : Int) < nc) = false := by simp; omega
  clear hr
  have hH : Had w w (some ad) 0 0 [] 0 0 (.slice none 0 0) := ⟨[], rfl, Nat.zero_le _, by simp, by simp, World.ownsRow_nil _ _ _ _, Below.refl _ _⟩
  clear hs
  go_enter Try.func5, Try.ntmps5
  go_wp2_with fail
  go_loopw [5, 6, 7] (fun v at_ i wr => ∃ k : Nat, k ≤ nc ∧ i = .int .i64 k ∧ at_ = .int .i64 0 ∧ Had w wr (some ad) 0 0 [] k 0 v) (fun _ _ i _ => nc - (intOf i).toNat)
  case atStart => exact ⟨0, by omega, rfl, rfl, hH⟩
  case round =>
    obtain ⟨k, hk, rfl, rfl, hb⟩ := hrel
    clear hH
    by_cases hlt : k < nc
    · obtain ⟨b, off, rfl, hbB, hc⟩ := HC.out (by omega)
      obtain ⟨ps, h1, h2, h3, h4, ho, hbe⟩ := hb
      have c0 : wr.cell? ⟨b, off + k, none⟩ = some (.int .i64 (z k)) := (hbe.cell (p := ⟨b, off + k, none⟩) hbB).trans (hc k hlt)
      obtain ⟨t, ht, ht2⟩ : ∃ t : Nat, bits .and .i64 (z k) 255 = (t : Int) ∧ t < 256 := ⟨(z k % 256).toNat, by rw [mask8]; omega, by omega⟩
      have HP := Lib.hid h3
      have HF := Lib.hid h4
      have hki : (k : Int) < nc := by omega
      clear hc h3 h4
      have hq : (if (0 : Int) < (t : Int) then (0 : Int) else (t : Int)) = 0 := by
        by_cases h : (0 : Int) < (t : Int)
        · rw [if_pos h]
        · rw [if_neg h]; omega
      have hq2 : (if 0 < t then (0 : Int) else (t : Int)) = 0 := by
        by_cases h : 0 < t
        · rw [if_pos h]
        · rw [if_neg h]; omega
      go_upto_region 9 with (fail)
      go_wp2_with (first | (at_builtin; go_loud (refine wpList_append_own _ rfl _ _ 44 rfl w.heap.size 23 i0 (.slice none 0 0) 1 24 Try.underlying44 hi hz0 hz1 hz2 rfl (by decide) _ k (ps.map (part (some ad) 0)) rfl (ho.alloc _) ⟨wr.heap.size, 0, none⟩ 1 1 [.slice (some ad) 0 0] rfl rfl (cells_new wr 23 [.slice (some ad) 0 0]) (by intro u hu; simp at hu; subst hu; rfl) (by unfold maxLen; omega) (by omega) (by have := hbe.size; simp; omega) ?_)) | fail)
      intro v' w2 ho2 hg2 _
      have hbe2 : Below w.heap.size w w2 := (hbe.alloc hbe.size (.cells #[.slice (some ad) 0 0] 23)).grown hg2 (by have := hbe.size; simp; omega) (own_block_ge ho)
      clear hg2 hbe ho
      go_wp2_with fail
      go_roundw
      case rel => exact ⟨k + 1, by omega, rfl, rfl, had_more ps h1 h2 HP.out HF.out (Nat.le_refl _) (by rw [show part (some ad) 0 (0, 0 + 0) = .slice (some ad) 0 0 by rfl]; exact ho2) hbe2⟩
      case measure => simp [intOf]; omega
    · obtain rfl : k = nc := by omega
      obtain ⟨ps, h1, h2, h3, h4, ho, hbe⟩ := hb
      have HP := Lib.hid h3
      have HF := Lib.hid h4
      have HX : Hid (∀ x ∈ ([] : List Int), 0 ≤ x ∧ x ≤ 255) := Lib.hid (by simp)
      clear HC h3 h4
      go_upto_region 11 with (fail)
      go_wp2_with (first | (at_builtin; go_loud (refine wpList_append_own _ rfl _ _ 44 rfl w.heap.size 23 i0 (.slice none 0 0) 1 24 Try.underlying44 hi hz0 hz1 hz2 rfl (by decide) _ k (ps.map (part (some ad) 0)) rfl (ho.alloc _) ⟨wr.heap.size, 0, none⟩ 1 1 [.slice (some ad) 0 0] rfl rfl (cells_new wr 23 [.slice (some ad) 0 0]) (by intro u hu; simp at hu; subst hu; rfl) (by unfold maxLen; omega) (by omega) (by have := hbe.size; simp; omega) ?_)) | fail)
      intro v' w2 ho2 hg2 _
      have hbe2 : Below w.heap.size w w2 := (hbe.alloc hbe.size (.cells #[.slice (some ad) 0 0] 23)).grown hg2 (by have := hbe.size; simp; omega) (own_block_ge ho)
      have hH2 := had_more ps h1 h2 HP.out HF.out (show 0 + 0 ≤ 0 by omega) (by rw [show part (some ad) 0 (0, 0 + 0) = .slice (some ad) 0 0 by rfl]; exact ho2) hbe2
      rw [show 0 + 0 = 0 by omega] at hH2
      have hsl2 := HS.out.kept_below hbe2
      obtain ⟨A9, c9, sa, sn, sc, ls, rfl, hS9, hup⟩ := had_sls hsl2 HX.out hH2
      have hsum := sum_any w2 A9 (k + 1) c9 sa sn sc ls hS9
      rw [hup] at hsum
      have hsum2 := sum_any _ _ 1 1 _ _ _ _ (sls_one w2 (some ad) 0 0 [] hsl2 HX.out 23)
      rw [upto_one] at hsum2
      generalize crc [] = S at *
      clear hg2 hbe ho ho2 hH2 hS9 hup hsl2
      go_wp2_with fail
      refine hsum.mono ?_
      rintro e w3 ⟨rfl, rfl⟩
      clear hsum
      go_wp2_with fail
      refine hsum2.mono ?_
      rintro e w4 ⟨rfl, rfl⟩
      have hbe3 := hbe2.alloc hbe2.size (.cells #[.slice (some ad) 0 0] 23)
      clear hsum2 hbe2
      go_wp2_with fail
      refine (one_any _).mono ?_
      rintro e w5 ⟨rfl, hg5⟩
      go_wp2_with fail
      go_ret
      exact ⟨rfl, hbe3.trans (gb_below hg5 hbe3.size (by simp))⟩
theorem walk {H : Type} {enc : TypeId × Value → H} (base : Nat) (W : World) (v0 : Value) (d0 : DataW H) (p0 : List MemPlace) (v1 : Value) (d1 : DataW H) (p1 : List MemPlace)
    (o0 : Value.okWide Try.prog W .any base 23 v0) (o1 : Value.okWide Try.prog W .any base 43 v1)
    (h0 : DataW.Trod enc Try.prog W 0 (fun _ => true) true 23 v0 d0 p0) (h1 : DataW.Trod enc Try.prog W 0 (fun _ => true) true 43 v1 d1 p1) :
    Calls Try.prog 5 #[v0, v1] W fun e w' => e = .returned (.bool true) ∧ Below W.heap.size W w' := by
  obtain ⟨Ab, nb, cb, l, rfl, hb, hA, hx⟩ := open_bytes Try.underlying23 Try.underlying5 (by kernel_rfl) o0 h0
  obtain ⟨Ac, nc, cc, z, rfl, hcc, hcm, hr, _⟩ := open_rd Try.underlying43 Try.underlying3 (by kernel_rfl) o1 h1
  by_cases h : nb ≤ 1000 ∧ nc ≤ 40
  · cases Ab with
    | none =>
      obtain rfl := hA rfl
      obtain rfl : nb = 0 := by have := hb.le; omega
      exact walk_nil W Ac nc cc z hr hcc hcm h.2
    | some a =>
      rcases Nat.eq_zero_or_pos cb with hc0 | hc0
      · subst hc0
        obtain rfl : nb = 0 := by have := hb.le; omega
        exact walk_zero W a Ac nc cc z hr hcc hcm h.2
      · obtain ⟨bb, bo, spot⟩ := a
        have hsp : spot = none := open_spot Try.underlying23 Try.underlying5 (by kernel_rfl) h0 hc0
        subst hsp
        exact walk_some W bb bo nb cb l Ac nc cc z hb hx hr hcc hcm h.1 h.2
  · exact long_list W Ab nb cb Ac nc cc h
end imagePartsW
end Go.Proofs.Ytifnmnchpgbimaa
