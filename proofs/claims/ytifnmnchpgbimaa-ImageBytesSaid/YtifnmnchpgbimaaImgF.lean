/- Images: the contract of Read, where the sum is right. -/
import Derived.Test.YtifnmnchpgbimaaImgQ
import Derived.Laws.CopyOwn
import Derived.Deep.RegionLaw
import Derived.Deep.DeepCutAuto
namespace Go.Proofs.Ytifnmnchpgbimaa
open Go.RowKit Go.Joins
set_option linter.unusedVariables false
set_option linter.unusedSimpArgs false
namespace Im
open Cm
attribute [local go_sem] alloc_drewN' setCell_drewN'
/-- The image of bytes. -/
def mg (l : List Int) : Mg := ⟨at_ l 2, 256 * at_ l 3 + at_ l 4, 256 * at_ l 5 + at_ l 6⟩
def code (l : List Int) (n : Nat) : List Int := (l.take (n - 2)).drop 9
/-- make([]byte, k). -/
theorem make_any (w : World) (k : Nat) (hk : k ≤ 70000) :
    (Instr.makeSlice 23 (.int .i64 (k : Int)) (.int .i64 (k : Int))).run Try.prog w = .ok (.slice (some ⟨w.heap.size, 0, none⟩) k k) (w.alloc (.cells (List.replicate k (.int .u8 0)).toArray 5)) := by
  obtain ⟨i0, hi, hz0, hz1, hz2⟩ := info_parts u8_info
  have := run_make (P := Try.prog) w 23 5 i0 (.int .u8 0) Try.underlying23 hi hz0 .i64 .i64 k k (by omega) (Int.le_refl _) (by rw [hz2]; omega) (by omega)
  rw [this, hz1]
  simp only [Int.toNat_natCast, Nat.mul_one]
  congr 3
  apply Array.toList_inj.1
  exact toList_madeCells_one _ _
/-- copy into a row that is the call's own, as one step of a region that draws. -/
theorem step_copy_row {P : Program} {ops : Array Oper} {o : Oper} {a : Act} {w : World} {K : Act → World → Prop} {Q : Exit → Act → World → Prop} {E : Prop} (hgd : o.guard = none) (d s : Operand) (dT sT : TypeId)
    (ho : o.op = .call { callee := .builtin .copy, args := #[d, s], argTypes := #[dT, sT] }) (elem : TypeId) (hu : P.underlying dT = some (.slice elem)) (hsz : (P.info? elem).map (·.size) = some 1)
    (dp sp : Option Addr) (dLen dCap sLen sCap : Nat) (hd : a.eval d = .slice dp dLen dCap) (hs : a.eval s = .slice sp sLen sCap)
    (g off : Nat) (cur : List Value) (t : TypeId) (hg : Blk w g t cur) (cs : List Value) (hn : cs.length = Nat.min sLen dLen)
    (hpos : 0 < cs.length → dp = some ⟨g, off, none⟩ ∧ ∃ ad, sp = some ad ∧ ∀ j v, cs[j]? = some v → w.cell? (ad.add j) = some v)
    (hfit : off + cs.length ≤ cur.length) (h1 : ∀ v ∈ cs, v.oneCell' = true)
    (h : ∀ w', Blk w' g t (splice cur off cs) → w.grownBy w' (some g) → K (a.put o.dst (goInt cs.length)) w') :
    if Region.wanted o (yielded ops a.tmps) = true then Oper.wp P o a w K Q else E := by
  have hw : Region.wanted o (yielded ops a.tmps) = true := by simp [Region.wanted, hgd]
  rw [if_pos hw]
  by_cases h0 : cs.length = 0
  · obtain rfl : cs = [] := List.eq_nil_of_length_eq_zero h0
    have hrun := run_copy_none (P := P) w dT sT o.type elem dp sp dLen dCap sLen sCap hu hsz (by simpa using hn.symm)
    unfold Oper.wp
    simp [execOp, ho, resolve, invoke, builtin, hd, hs, hrun, Result.andThen]
    exact h w (show _ = _ by simpa [splice, Blk] using hg) ⟨rfl, rfl, rfl, Nat.le_refl _, fun _ _ _ => rfl⟩
  · obtain ⟨rfl, ad, rfl, hsrc⟩ := hpos (by omega)
    have hrun := run_copy_row (P := P) w dT sT o.type elem g off dLen dCap ad sLen sCap cur.toArray t cs hu hsz hg hn hsrc (by simpa using hfit) h1
    unfold Oper.wp
    simp [execOp, ho, resolve, invoke, builtin, hd, hs, hrun, Result.andThen]
    exact h _ (show _ = _ by simpa [splice] using setRow_heap w g _ _ t _ hg) ⟨rfl, rfl, rfl, by simp [World.setRow], fun k _ hk => setRow_other w g k _ (fun e => hk (by rw [e]))⟩
/-- What stands behind the making of the image. -/
def Mid (w wx : World) (k : Nat) (m : Mg) (p : Value) : Prop := ∃ B g, p = .pointer (some ⟨B, 0, none⟩) ∧ Blk wx B 25 (m.cells (.slice (some ⟨g, 0, none⟩) k k)) ∧ Blk wx g 5 (List.replicate k (.int .u8 0)) ∧ B ≠ g ∧ w.grownBy wx none ∧ w.heap.size ≤ B ∧ w.heap.size ≤ g
theorem mid1 (w : World) (k : Nat) (a b c : Int) : Mid w ((w.alloc (.cells (Array.replicate k (.int .u8 0)) 5)).alloc (.cells #[.int .i64 a, .int .i64 b, .int .i64 c, .slice (some ⟨w.heap.size, 0, none⟩) k k] 25)).drew.drew.drew k ⟨a, b, c⟩ (.pointer (some ⟨w.heap.size + 1, 0, none⟩)) := by
  have h1 := Blk.new w 5 (List.replicate k (.int .u8 0))
  rw [List.toArray_replicate] at h1
  have h2 := Blk.new (w.alloc (.cells (Array.replicate k (.int .u8 0)) 5)) 25 [.int .i64 a, .int .i64 b, .int .i64 c, .slice (some ⟨w.heap.size, 0, none⟩) k k]
  rw [World.size_alloc] at h2
  exact ⟨_, _, rfl, h2, h1.alloc _, by omega, gb_drew (gb_drew (gb_drew (gb_alloc (gb_alloc (gb_refl _ _) _) _))), by omega, Nat.le_refl _⟩
theorem mid2 (w : World) (k : Nat) (a b c : Int) : Mid w ((w.alloc (.cells #[.int .i64 a, .int .i64 b, .int .i64 c, .slice (some ⟨w.heap.size + 1, 0, none⟩) k k] 25)).alloc (.cells (Array.replicate k (.int .u8 0)) 5)).drew.drew.drew k ⟨a, b, c⟩ (.pointer (some ⟨w.heap.size, 0, none⟩)) := by
  have h1 := Blk.new w 25 [.int .i64 a, .int .i64 b, .int .i64 c, .slice (some ⟨w.heap.size + 1, 0, none⟩) k k]
  have h2 := Blk.new (w.alloc (.cells #[.int .i64 a, .int .i64 b, .int .i64 c, .slice (some ⟨w.heap.size + 1, 0, none⟩) k k] 25)) 5 (List.replicate k (.int .u8 0))
  rw [World.size_alloc, List.toArray_replicate] at h2
  exact ⟨_, _, rfl, h1.alloc _, h2, by omega, gb_drew (gb_drew (gb_drew (gb_alloc (gb_alloc (gb_refl _ _) _) _))), Nat.le_refl _, by omega⟩
theorem Sl_of_blk {w : World} {g base : Nat} {e : TypeId} {l : List Int} {k : Nat} (h : Blk w g e (nums .u8 l)) (hk : l.length = k) (hm : k ≤ 70000) (hb : base ≤ g) : Sl w base (some ⟨g, 0, none⟩) k k l :=
  ⟨hk, Nat.le_refl _, by omega, fun _ => ⟨g, 0, rfl, hb, h.lt, fun i hi => by rw [Nat.zero_add]; exact h.cell i _ (nums_get .u8 l i (by omega))⟩⟩
theorem code_len {l : List Int} {n k : Nat} (hl : l.length = n) (hn : n = 11 + k) : (code l n).length = k := by unfold code; simp; omega
theorem code_get {l : List Int} {n k j : Nat} (hl : l.length = n) (hn : n = 11 + k) (hj : j < k) : (code l n).getD j 0 = l.getD (9 + j) 0 := by
  unfold code
  simp [List.getD_eq_getElem?_getD, List.getElem?_take, show 9 + j < n - 2 by omega]
theorem splice_all (k : Nat) (cs : List Value) (h : cs.length = k) (z : Value) : splice (List.replicate k z) 0 cs = cs := by
  unfold splice
  simp
  omega
/-- How Read ends there. -/
def Full (w : World) (l : List Int) (n : Nat) (e : Ending) (w' : World) : Prop :=
  (right (mg l) (n - 11) ∧ ∃ A c', e = .returned (.tuple #[(mg l).v (.slice A (n - 11) c'), .int .i64 0]) ∧ Sl w' w.heap.size A (n - 11) c' (code l n) ∧ w.grownBy w' none) ∨
  (¬ right (mg l) (n - 11) ∧ e = .returned (.tuple #[none4, .int .i64 11]) ∧ w.grownBy w' none)
set_option maxRecDepth 100000 in
set_option maxHeartbeats 4000000 in
theorem read_full (w : World) {b0 : Nat} (b off n c : Nat) (l : List Int) (h : Sl w b0 (some ⟨b, off, none⟩) n c l) (hb : ∀ x ∈ l, 0 ≤ x ∧ x ≤ 255) (hn : 11 ≤ n) (hm : l.take 2 = [84, 49]) (hL : (n : Int) = 11 + long l) (hS : 256 * at_ l (n - 2) + at_ l (n - 1) = crc (l.take (n - 2))) :
    Calls Try.prog 11 #[.slice (some ⟨b, off, none⟩) n c] w fun e w' => Full w l n e w' := by
  have HM := Lib.hid (decide_eq_true hm)
  have HS := Lib.hid hS
  have H := Lib.hid h
  clear hm hS
  have HB := Lib.hid hb
  have hle := h.le
  have hcp := h.cap
  have hln := h.len
  have z7 := getD_bytes hb 7
  have z8 := getD_bytes hb 8
  have dn : decide ((n : Int) < 11) = false := by simp; omega
  clear h hb
  go_enter Try.func11, Try.ntmps11
  go_upto_region 3 with (fail)
  refine forget_world (fun w' => Blk w' w.heap.size 25 zero4 ∧ w.grownBy w' none) ⟨Blk.new w 25 zero4, gb_alloc (gb_refl w none) _⟩ ?_
  rintro w1 ⟨hB1, hW1⟩
  have h1 := H.out.kept hW1
  obtain ⟨hbl, hc1⟩ := Sl_cells h1 (by omega)
  have c7 := hc1 7 (by omega)
  have c8 : w1.cell? ⟨b, off + 7 + 1, none⟩ = some (.int .u8 (l.getD 8 0)) := hc1 8 (by omega)
  have hLG := Lib.hid (show 256 * l.getD 7 0 + l.getD 8 0 = long l from rfl)
  have d7 : (7 : Int) ≤ n := by omega
  have d7c : (7 : Int) ≤ c := by omega
  have d7d : n ≤ c := by omega
  clear hc1
  go_wp2_with fail
  refine (of_any w1 b (off + 7) (n - 7) (c - 7) _ _ (by omega) c7 c8 z7.1 z7.2 z8.1 z8.2).mono ?_
  rintro e w2 ⟨rfl, hg2⟩
  have hB2 := hB1.kept hg2 (by simp)
  have hW2 := gb_trans hW1 hg2
  have h2 := h1.kept hg2
  rw [show 256 * l.getD 7 0 + l.getD 8 0 = long l from hLG.out]
  have hlg : 0 ≤ long l ∧ long l ≤ 65535 := by unfold long at_; omega
  have hkc : (convert 23 23 (.slice (some ⟨w2.heap.size, 0, none⟩) 2 2)).run Try.prog (w2.alloc (.cells #[.int .u8 84, .int .u8 49] 5)) = .ok (.slice (some ⟨w2.heap.size, 0, none⟩) 2 2) (w2.alloc (.cells #[.int .u8 84, .int .u8 49] 5 (2, 3))) := kc w2 #[.int .u8 84, .int .u8 49] 2 2 _ rfl
  clear c7 c8 hB1 hW1 h1 hg2 z7 z8 hLG hbl
  generalize hLL : long l = L at *
  go_wp2_with fail
  refine (prefix_any _ _ n c l _ 2 [84, 49] (h2.kept (gb_alloc (gb_refl w2 none) _)) (Sl_lit w2) HB.out (by intro x hx; simp at hx; omega) (by omega)).mono ?_
  rintro e w3 ⟨rfl, rfl⟩
  have hB3 := hB2.alloc (.cells #[.int .u8 84, .int .u8 49] 5 (2, 3))
  have hW3 := gb_alloc hW2 (.cells #[.int .u8 84, .int .u8 49] 5 (2, 3))
  clear hB2 h2 hkc hW2
  rw [HM.out]
  have dL : ((n : Int) != 11 + L) = false := by simp; omega
  have d2n : (2 : Int) ≤ n := by omega
  have dn2 : (0 : Int) ≤ (n : Int) - 2 := by omega
  have dnn : (n : Int) - 2 ≤ n := by omega
  have dnc : (n : Int) - 2 ≤ c := by omega
  have dnt : ((n : Int) - 2).toNat = n - 2 := by omega
  have HL := Lib.hid hL
  clear hL
  go_upto_region 6 with (fail)
  refine forget_world (fun w' => Blk w' w.heap.size 25 zero4 ∧ w.grownBy w' none) ⟨hB3, hW3⟩ ?_
  rintro w4 ⟨hB4, hW4⟩
  clear hB3 hW3 dL
  go_region
  all_goals
    have hB5 := hB4.drew
    have hW5 := gb_drew hW4
    clear hB4 hW4
    generalize w4.drew = w5 at *
    have h5 := H.out.kept hW5
    obtain ⟨hbl, hc5⟩ := Sl_cells h5 (by omega)
    have s0 : w5.cell? ⟨b, off + (n - 2), none⟩ = some (.int .u8 (l.getD (n - 2) 0)) := hc5 (n - 2) (by omega)
    have s1 : w5.cell? ⟨b, off + (n - 2) + 1, none⟩ = some (.int .u8 (l.getD (n - 1) 0)) := by
      have := hc5 (n - 1) (by omega)
      rwa [show off + (n - 1) = off + (n - 2) + 1 by omega] at this
    have y0 := getD_bytes HB.out (n - 2)
    have y1 := getD_bytes HB.out (n - 1)
    have HS2 : Hid (256 * l.getD (n - 2) 0 + l.getD (n - 1) 0 = crc (l.take (n - 2))) := HS
    clear hc5 HS
    generalize l.getD (n - 2) 0 = ya at *
    generalize l.getD (n - 1) 0 = yb at *
    go_wp2_with fail
    refine (of_any w5 b (off + (n - 2)) (n - (n - 2)) (c - (n - 2)) _ _ (by omega) s0 s1 y0.1 y0.2 y1.1 y1.2).mono ?_
    rintro e w6 ⟨rfl, hg6⟩
    have hB6 := hB5.kept hg6 (by simp)
    have hW6 := gb_trans hW5 hg6
    have h6 := h5.kept hg6
    have hsum := sum_any _ _ 1 1 _ _ _ _ (sls_one w6 (some ⟨b, off, none⟩) (n - 2) c (l.take (n - 2)) (Sl.mono0 (h6.take (n - 2) (by omega))) (fun x hx => HB.out x (List.mem_of_mem_take hx)) 23)
    rw [upto_one] at hsum
    have hcl := crc_lt (l.take (n - 2))
    clear hg6 h5 hB5 hW5 s0 s1
    generalize crc (l.take (n - 2)) = S at *
    go_wp2_with fail
    refine hsum.mono ?_
    rintro e w7 ⟨rfl, rfl⟩
    have hB7 := hB6.alloc (.cells #[.slice (some ⟨b, off, none⟩) (n - 2) c] 23)
    have hW7 := gb_alloc hW6 (.cells #[.slice (some ⟨b, off, none⟩) (n - 2) c] 23)
    have dS : (256 * ya + yb != (S : Int)) = false := by simpa using HS2.out
    clear hsum hB6 hW6 h6 HS2
    go_upto_region 9 with (fail)
    refine forget_world (fun w' => Blk w' w.heap.size 25 zero4 ∧ w.grownBy w' none) ⟨hB7, hW7⟩ ?_
    rintro w8 ⟨hB8, hW8⟩
    clear hB7 hW7 dS y0 y1
    obtain ⟨k, rfl⟩ := Int.eq_ofNat_of_zero_le hlg.1
    have hnk : n = 11 + k := by have := HL.out; omega
    have h8 := H.out.kept hW8
    obtain ⟨hbl8, hc8⟩ := Sl_cells h8 (by omega)
    have hkeep : ∀ w' : World, w8.grownBy w' none → w'.cell? ⟨b, off + 2, none⟩ = some (.int .u8 (l.getD 2 0)) ∧ w8.grownBy w' none := fun w' hg => ⟨(cell_kept hg hbl8).trans (hc8 2 (by omega)), hg⟩
    have q3 := getD_bytes HB.out 3
    have q4 := getD_bytes HB.out 4
    have q5 := getD_bytes HB.out 5
    have q6 := getD_bytes HB.out 6
    have hof3 : ∀ w' : World, (w'.cell? ⟨b, off + 2, none⟩ = some (.int .u8 (l.getD 2 0)) ∧ w8.grownBy w' none) → Calls Try.prog 20 #[.slice (some ⟨b, off + 3, none⟩) (n - 2 - 3) (c - 3)] w' fun e w'' => e = .returned (.int .i64 (256 * l.getD 3 0 + l.getD 4 0)) ∧ w'.drew = w'' :=
      fun w' hS => of_drew w' b (off + 3) _ _ _ _ (by omega) ((cell_kept hS.2 hbl8).trans (hc8 3 (by omega))) ((cell_kept hS.2 hbl8).trans (hc8 4 (by omega))) q3.1 q3.2 q4.1 q4.2
    have hof5 : ∀ w' : World, (w'.cell? ⟨b, off + 2, none⟩ = some (.int .u8 (l.getD 2 0)) ∧ w8.grownBy w' none) → Calls Try.prog 20 #[.slice (some ⟨b, off + 5, none⟩) (n - 2 - 5) (c - 5)] w' fun e w'' => e = .returned (.int .i64 (256 * l.getD 5 0 + l.getD 6 0)) ∧ w'.drew = w'' :=
      fun w' hS => of_drew w' b (off + 5) _ _ _ _ (by omega) ((cell_kept hS.2 hbl8).trans (hc8 5 (by omega))) ((cell_kept hS.2 hbl8).trans (hc8 6 (by omega))) q5.1 q5.2 q6.1 q6.2
    have mk : ∀ w' : World, (Instr.makeSlice 23 (.int .i64 (k : Int)) (.int .i64 (k : Int))).run Try.prog w' = .ok (.slice (some ⟨w'.heap.size, 0, none⟩) k k) (w'.alloc (.cells (List.replicate k (.int .u8 0)).toArray 5)) := fun w' => make_any w' k (by omega)
    have hMG : Hid (mg l = ⟨l.getD 2 0, 256 * l.getD 3 0 + l.getD 4 0, 256 * l.getD 5 0 + l.getD 6 0⟩) := rfl
    generalize hn2 : n - 2 = n2 at *
    have g2 : (2 : Int) < n2 := by omega
    have g3 : (3 : Int) ≤ n2 := by omega
    have g5 : (5 : Int) ≤ n2 := by omega
    have g2' : 2 < n2 := by omega
    have g3' : 3 ≤ n2 := by omega
    have g5' : 5 ≤ n2 := by omega
    have gc : (n2 : Int) ≤ c := by omega
    have gc' : n2 ≤ c := by omega
    have gc3 : (3 : Int) ≤ c := by omega
    have gc5 : (5 : Int) ≤ c := by omega
    have ec3 : ¬ c = 3 := by omega
    have ec5 : ¬ c = 5 := by omega
    have hS0 := hkeep w8.drew (gb_drew (gb_refl w8 none))
    obtain ⟨q2, q2'⟩ := getD_bytes HB.out 2
    have HC8 := Lib.hid hc8
    have HNK := Lib.hid hnk
    have HN2 := Lib.hid hn2
    clear hc8 q3 q4 q5 q6 hnk hn2
    generalize 256 * l.getD 3 0 + l.getD 4 0 = E0 at *
    generalize 256 * l.getD 5 0 + l.getD 6 0 = E1 at *
    generalize l.getD 2 0 = who at *
    have hwr : IntKind.i64.wrap who = who := by rw [IntKind.wrap_i64]; omega
    go_cut [6] from 45 to 58 (fun p wx => Mid w8 wx k ⟨who, E0, E1⟩ p)
    case first =>
      go_region_held3 (fun w' => w'.cell? ⟨b, off + 2, none⟩ = some (.int .u8 who) ∧ w8.grownBy w' none)
        (first | assumption | (refine hkeep _ ?_; repeat (with_reducible (first | assumption | exact gb_refl _ _ | apply gb_alloc | apply gb_drew | apply gb_drewN | (refine gb_setNew ?_ (by simp <;> omega) _)))))
        (first
          | (go_at_call 20; have hga2 := hga; refine (hof5 _ (by assumption)).mono ?_; rintro e wb ⟨rfl, rfl⟩)
          | (go_at_call 20; refine (hof3 _ (by assumption)).mono ?_; rintro e wa ⟨rfl, rfl⟩; have hga := True.intro))
      all_goals
        go_wp2_with fail
        go_meet
        case rel => first | exact mid1 _ _ _ _ _ | exact mid2 _ _ _ _ _
    case rest =>
      obtain ⟨B, g, rfl, hI, hR, hBg, hgw, hB, hg⟩ := hcut
      have hI' := hI.drew
      have hR' := hR.drew
      have i3 := hI.cell 3 _ rfl
      have hz := hgw.size
      have hcl := code_len hln HNK.out
      have hccs : Hid (∀ j u, (nums .u8 (code l n))[j]? = some u → wc.drew.cell? ((⟨b, off + 9, none⟩ : Addr).add j) = some u) := fun j u hj => by
        have hj2 : j < (code l n).length := by
          rcases Nat.lt_or_ge j (code l n).length with h | h
          · exact h
          · rw [List.getElem?_eq_none (by rw [nums_len]; exact h)] at hj; cases hj
        rw [nums_get .u8 _ j hj2] at hj
        cases hj
        have ea : (⟨b, off + 9, none⟩ : Addr).add j = ⟨b, off + (9 + j), none⟩ := by
          unfold Addr.add
          split
          · rename_i h0; subst h0; rfl
          · rw [Nat.add_assoc]
        rw [ea, code_get hln HNK.out (by omega)]
        exact (cell_kept hgw hbl8).trans (HC8.out (9 + j) (by have := HNK.out; omega))
      have g9 : (9 : Int) ≤ n2 := by have := HNK.out; have := HN2.out; omega
      have g9' : 9 ≤ n2 := by omega
      have gc9 : (9 : Int) ≤ c := by omega
      have ec9 : ¬ c = 9 := by have := HNK.out; omega
      have hk9 : n2 - 9 = k := by have := HNK.out; have := HN2.out; omega
      have hk7 : k ≤ 70000 := by omega
      clear hof3 hof5 hkeep mk hS0
      generalize hcode : code l n = cs at *
      go_upto_region 10 with (fail)
      go_region_law (refine step_copy_row rfl (.tmp 60) (.tmp 62) 23 23 rfl 5 Try.underlying23 (by kernel_rfl) _ _ k k k (c - 9) rfl rfl g 0 (List.replicate k (.int .u8 0)) 5 hR' (nums .u8 cs) (by rw [nums_len, hcl]; exact (Nat.min_self k).symm) (fun _ => ⟨rfl, _, rfl, hccs.out⟩) (by rw [nums_len, hcl, List.length_replicate]; omega) (by intro u hu; unfold nums at hu; simp at hu; obtain ⟨x, _, rfl⟩ := hu; rfl) ?_; intro w10 hR10 hg10)
      rw [splice_all k _ (by rw [nums_len, hcl])] at hR10
      have hI10 := hI'.kept hg10 (by intro e; injection e with e; omega)
      have hwl := hB8.lt
      have hB10 := (hB8.kept hgw (by simp)).drew.kept hg10 (by intro e; injection e with e; omega)
      have hW10 : w.grownBy w10 none := gb_of_below (((below_of_gb hW8).trans (gb_below hgw (by omega) (by simp))).trans (gb_below (gb_drew (gb_refl wc none)) (by omega) (by simp)) |>.trans (gb_below hg10 (by have := hgw.size; show _ ≤ wc.heap.size; omega) (by intro x hx; cases hx; omega)))
      have hk11 : n - 11 = k := by have := HNK.out; omega
      clear hI hR hI' hR' i3 hB8 hW8 hgw hg10 hccs HC8 h8 g2 g3 g5 g2' g3' g5' gc gc' gc3 gc5 ec3 ec5 g9 g9' gc9 ec9 hwr
      have t0 := hI10.cell 0 _ rfl
      have t1 := hI10.cell 1 _ rfl
      have t2 := hI10.cell 2 _ rfl
      have t3 := hI10.cell 3 _ rfl
      by_cases hr : right ⟨who, E0, E1⟩ k
      · have HRR := Lib.hid hr
        clear hr
        go_wp2_with fail
        refine (right_yes _ ⟨who, E0, E1⟩ (some ⟨g, 0, none⟩) k k HRR.out).mono ?_
        rintro e w11 ⟨rfl, hg11⟩
        have hI11 := hI10.kept hg11 (by simp)
        have hBE := hB10.kept hg11 (by simp)
        have hR11 := hR10.kept hg11 (by simp)
        have hWE := gb_trans hW10 hg11
        clear t0 t1 t2 t3 hI10 hB10 hR10 hW10 hg11
        have t0 := hI11.cell 0 _ rfl
        have t1 := hI11.cell 1 _ rfl
        have t2 := hI11.cell 2 _ rfl
        have t3 := hI11.cell 3 _ rfl
        have r0 := hBE.cell 0 _ rfl
        have r1 := hBE.cell 1 _ rfl
        have r2 := hBE.cell 2 _ rfl
        have r3 := hBE.cell 3 _ rfl
        have f0 := hBE.free 0
        have f1 := hBE.free 1
        have f2 := hBE.free 2
        have f3 := hBE.free 3
        go_wp2_with fail
        have hE := ((((hBE.set 0 (.int .i64 who)).set 1 (.int .i64 E0)).set 2 (.int .i64 E1)).set 3 (.slice (some ⟨g, 0, none⟩) k k))
        refine bodyPost_ret (v := .tuple #[Mg.v ⟨who, E0, E1⟩ (.slice (some ⟨g, 0, none⟩) k k), .int .i64 0]) (by simp [results, Try.results11, go_sem, hE.cell 0 _ rfl, hE.cell 1 _ rfl, hE.cell 2 _ rfl, hE.cell 3 _ rfl]) rfl (.inl ⟨?_, some ⟨g, 0, none⟩, k, ?_, ?_, ?_⟩)
        · rw [hMG, hk11]; exact HRR.out
        · rw [hMG, hk11]
        · rw [hk11, hcode]
          refine Sl_of_blk (e := 5) ?_ hcl hk7 (by omega)
          repeat (with_reducible (first | exact hR11 | (refine Blk.other ?_ (by simp <;> omega) _)))
        · repeat (with_reducible (first | exact hWE | apply gb_drewN | apply gb_drew | apply gb_alloc | (refine gb_setNew ?_ (by simp <;> omega) _)))
      · have HRR := Lib.hid hr
        clear hr
        go_wp2_with fail
        refine (right_not _ ⟨who, E0, E1⟩ (some ⟨g, 0, none⟩) k k HRR.out).mono ?_
        rintro e w11 ⟨rfl, hg11⟩
        have hBE := hB10.kept hg11 (by simp)
        have hWE := gb_trans hW10 hg11
        clear t0 t1 t2 t3 hI10 hB10 hR10 hW10 hg11
        have r0 := hBE.cell 0 _ rfl
        have r1 := hBE.cell 1 _ rfl
        have r2 := hBE.cell 2 _ rfl
        have r3 := hBE.cell 3 _ rfl
        have f0 := hBE.free 0
        have f1 := hBE.free 1
        have f2 := hBE.free 2
        have f3 := hBE.free 3
        go_wp2_with fail
        have hE := ((((hBE.set 0 (.int .i64 0)).set 1 (.int .i64 0)).set 2 (.int .i64 0)).set 3 (.slice none 0 0))
        refine bodyPost_ret (v := .tuple #[none4, .int .i64 11]) (by simp [results, Try.results11, go_sem, hE.cell 0 _ rfl, hE.cell 1 _ rfl, hE.cell 2 _ rfl, hE.cell 3 _ rfl]) rfl (.inr ⟨?_, rfl, ?_⟩)
        · rw [hMG, hk11]; exact HRR.out
        repeat (with_reducible (first | exact hWE | apply gb_drewN | apply gb_drew | apply gb_alloc | (refine gb_setNew ?_ (by simp <;> omega) _)))

end Im
end Go.Proofs.Ytifnmnchpgbimaa
