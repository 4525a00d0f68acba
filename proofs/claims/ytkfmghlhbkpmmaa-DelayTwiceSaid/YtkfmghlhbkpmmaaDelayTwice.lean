/- DelayTwice: what is seen through two delays is seen through one of as many ticks as both: the walk. -/
import Derived.Test.YtkfmghlhbkpmmaaDelO
import Derived.Deep.RegionHeld3
namespace Go.Proofs.Ytkfmghlhbkpmmaa
open Go.ChangeShapes Go.WideShapes Go.ChangeAt Go.RowKit
set_option linter.unusedVariables false
namespace delayTwiceW
open Dly
/-- The first k of f. -/
def fst (f : Nat → Int) (k : Nat) : List Int := (List.range k).map f
theorem fst_len (f : Nat → Int) (k : Nat) : (fst f k).length = k := by simp [fst]
theorem fst_succ (f : Nat → Int) (k : Nat) : fst f k ++ [f k] = fst f (k + 1) := by simp [fst, List.range_succ]
theorem fst_get (f : Nat → Int) (k i : Nat) (h : i < k) : (fst f k).getD i 0 = f i := by
  simp [fst, List.getD_eq_getElem?_getD, h]
theorem seen_fst (f : Nat → Int) (k t : Nat) : Dly.seen (fst f (k + 1)) t = if k < t then 0 else f (k - t) := by
  unfold Dly.seen
  rw [fst_len]
  by_cases h : k < t
  · rw [if_pos (by omega), if_pos h]
  · rw [if_neg (by omega), if_neg h, fst_get _ _ _ (by omega), show k + 1 - 1 - t = k - t by omega]
/-- What the first delay tells. -/
def mid (z : Nat → Int) (a : Nat) (i : Nat) : Int := if i < a then 0 else z (i - a)
theorem twice (z : Nat → Int) (a b k : Nat) : Dly.seen (fst (mid z a) (k + 1)) b = Dly.seen (fst z (k + 1)) (a + b) := by
  rw [seen_fst, seen_fst]
  unfold mid
  by_cases h1 : k < b
  · rw [if_pos h1, if_pos (by omega)]
  · rw [if_neg h1]
    by_cases h2 : k - b < a
    · rw [if_pos h2, if_pos (by omega)]
    · rw [if_neg h2, if_neg (by omega), show k - b - a = k - (a + b) by omega]

/-- The three delays behind k lines. -/
def Three (w0 wr : World) (z : Nat → Int) (a b k : Nat) : Prop := At wr w0.heap.size a (fst z k) ∧ At wr (w0.heap.size + 1) b (fst (mid z a) k) ∧ At wr (w0.heap.size + 1 + 1) ((a : Int) + (b : Int)) (fst z k) ∧ Below w0.heap.size w0 wr

set_option maxRecDepth 100000 in
set_option maxHeartbeats 2000000 in
theorem walk_any (w : World) (a0 b0 : Int) (A : Option Addr) (len cap : Nat) (z : Nat → Int) (hlen : len ≤ 500)
    (hr : Rd w w.heap.size A len (fun i => .int .u8 (z i))) :
    Calls Try.prog 4 #[.int .i64 a0, .int .i64 b0, .slice A len cap] w fun e w' => e = .returned (.bool true) ∧ Below w.heap.size w w' := by
  have d0 : decide ((500 : Int) < (len : Int)) = false := by simp; omega
  obtain ⟨ma, hma, HMa, q0, q1⟩ := masked 3 (by omega) a0 7 (by decide)
  obtain ⟨mb, hmb, HMb, q2, q3⟩ := masked 3 (by omega) b0 7 (by decide)
  obtain ⟨a, rfl⟩ : ∃ a : Nat, ma = a := ⟨ma.toNat, by omega⟩
  obtain ⟨b, rfl⟩ : ∃ b : Nat, mb = b := ⟨mb.toNat, by omega⟩
  clear HMa HMb
  have HR := Lib.hid hr
  clear hr
  go_enter Try.func4, Try.ntmps4
  go_wp2_with fail
  refine (new_yes _ a (by omega) (by omega)).mono ?_
  rintro e w1 ⟨rfl, rfl⟩
  go_wp2_with fail
  refine (new_yes _ b (by omega) (by omega)).mono ?_
  rintro e w1 ⟨rfl, rfl⟩
  go_wp2_with fail
  refine (new_yes _ _ (by omega) (by omega)).mono ?_
  rintro e w1 ⟨rfl, rfl⟩
  go_wp2_with fail
  have h3 : Three w (((w.alloc (.cells (cells a 0 (List.replicate 16 0)).toArray 36)).alloc (.cells (cells b 0 (List.replicate 16 0)).toArray 36)).alloc (.cells (cells ((a : Int) + (b : Int)) 0 (List.replicate 16 0)).toArray 36)) z a b 0 := by
    refine ⟨?_, ?_, ?_, ?_⟩
    · exact ((at_new w a).kept (gb_alloc (gb_refl _ none) _) (by simp)).kept (gb_alloc (gb_refl _ none) _) (by simp)
    · have := at_new (w.alloc (.cells (cells a 0 (List.replicate 16 0)).toArray 36)) b
      simp only [World.size_alloc] at this
      exact this.kept (gb_alloc (gb_refl _ none) _) (by simp)
    · have := at_new ((w.alloc (.cells (cells a 0 (List.replicate 16 0)).toArray 36)).alloc (.cells (cells b 0 (List.replicate 16 0)).toArray 36)) ((a : Int) + (b : Int))
      simp only [World.size_alloc] at this
      exact this
    · exact (((Below.refl w.heap.size w).alloc (Nat.le_refl _) _).alloc (by simp) _).alloc (by simp; omega) _
  go_loopw [13] (fun i wr => ∃ k : Nat, k ≤ len ∧ i = .int .i64 k ∧ Three w wr z a b k) (fun i _ => len - (intOf i).toNat)
  case atStart => exact ⟨0, by omega, rfl, h3⟩
  case round =>
    obtain ⟨k, hk, rfl, hx, hy, hz, hW⟩ := hrel
    clear h3
    by_cases hlt : k < len
    · obtain ⟨b1, off, rfl, hbB, hc⟩ := HR.out (by omega)
      have HC := Lib.hid hc
      have hcell : wr.cell? ⟨b1, off + k, none⟩ = some (.int .u8 (z k)) := (hW.cell (p := ⟨b1, off + k, none⟩) hbB).trans (hc k hlt)
      clear hc
      go_wp2_with fail
      have hxd : At wr.drew w.heap.size a (fst z k) := hx
      have hyd : At wr.drew (w.heap.size + 1) b (fst (mid z a) k) := hy
      have hzd : At wr.drew (w.heap.size + 1 + 1) ((a + b : Nat) : Int) (fst z k) := hz
      have hWd : Below w.heap.size w wr.drew := hW.drew
      have l1 : (fst z k).length < 4611686018427387904 := by rw [fst_len]; omega
      have l2 : (fst (mid z a) k).length < 4611686018427387904 := by rw [fst_len]; omega
      have E1 := Lib.hid (seen_fst z k a)
      have E2 := Lib.hid (twice z a b k)
      have E3 := Lib.hid (fst_succ z k)
      have E4 := Lib.hid (fst_succ (mid z a) k)
      have hm : mid z a k = if k < a then 0 else z (k - a) := rfl
      have E5 := Lib.hid hm
      clear hx hy hz hW hm
      have tok1 : True := trivial
      have tok2 : True := trivial
      have tok3 : True := trivial
      go_region_held3 (fun w' => w'.cell? ⟨b1, off + k, none⟩ = some (.int .u8 (z k))) (first | go_keep | exact hcx | exact hcy | exact hcz)
        ((first
          | (go_at_call 8; have _t := tok1; clear tok1 _t; refine (see_any _ w.heap.size a (fst z k) (z k) hxd (by omega) l1).mono ?_; rw [E3.out, E1.out, ← E5.out]; rintro e wx ⟨rfl, hxx, hgx⟩; have hyx := hyd.kept hgx (by intro e; injection e with e; omega); have hzx := hzd.kept hgx (by intro e; injection e with e; omega); have hWx := below_gb hWd hgx hWd.size (Nat.le_refl _); have hcx := (hWx.cell (p := ⟨b1, off + k, none⟩) hbB).trans (HC.out k hlt))
          | (go_at_call 8; have _t := tok2; clear tok2 _t; (refine (see_any _ (w.heap.size + 1) b (fst (mid z a) k) (mid z a k) hyx (by omega) l2).mono ?_; rw [E4.out, E2.out]; rintro e wy ⟨rfl, hyy, hgy⟩; have hxy := hxx.kept hgy (by intro e; injection e with e; omega); have hzy := hzx.kept hgy (by intro e; injection e with e; omega); have hWy := below_gb hWx hgy hWx.size (by omega); have hcy := (hWy.cell (p := ⟨b1, off + k, none⟩) hbB).trans (HC.out k hlt)))
          | (go_at_call 8; have _t := tok3; clear tok3 _t; (refine (see_any _ (w.heap.size + 1 + 1) (a + b) (fst z k) (z k) hzy (by omega) l1).mono ?_; rw [E3.out]; rintro e wz ⟨rfl, hzz, hgz⟩; have hxz := hxy.kept hgz (by intro e; injection e with e; omega); have hyz := hyy.kept hgz (by intro e; injection e with e; omega); have hWz := below_gb hWy hgz hWy.size (by omega); have hcz := (hWz.cell (p := ⟨b1, off + k, none⟩) hbB).trans (HC.out k hlt)))
          | (go_goals; fail)))
      go_wp2_with fail
      go_roundw
      case rel => exact ⟨k + 1, by omega, by go_num, hxz, hyz, hzz, hWz⟩
      case measure => simp [intOf]; omega
    · obtain rfl : k = len := by omega
      clear hx hy hz
      go_wp2_with fail
      obtain ⟨wo, hwo⟩ : ∃ wo : World, wo = wr := ⟨_, rfl⟩
      subst hwo
      go_loopw [14] (fun i wr => ∃ k : Nat, k ≤ 2 ∧ i = .int .i64 k ∧ Below w.heap.size w wr) (fun i _ => 2 - (intOf i).toNat)
      case atStart => exact ⟨0, by omega, rfl, hW⟩
      case round =>
        obtain ⟨q, hq, rfl, hW2⟩ := hrel
        clear hW
        have hs := hW2.size
        by_cases e0 : q = 0
        · subst e0
          have HW := hW2.alloc hs (.cells #[.bool false, .int .i64 0, .int .i64 0, .int .u8 0, .int .u8 0, .int .u8 0, .int .u8 0, .int .u8 0, .int .u8 0, .int .u8 0, .int .u8 0, .int .u8 0, .int .u8 0, .int .u8 0, .int .u8 0, .int .u8 0, .int .u8 0, .int .u8 0, .int .u8 0] 36)
          go_wp2_with fail
          refine (clear_zero _ _ (by simp)).mono ?_
          rintro e w1 ⟨rfl, rfl⟩
          go_wp2_with fail
          refine (see_zero _ _ _ (by simp)).mono ?_
          rintro e w1 ⟨rfl, rfl⟩
          go_wp2_with fail
          refine (ticks_zero _ _ (by simp)).mono ?_
          rintro e w1 ⟨rfl, rfl⟩
          go_wp2_with fail
          refine (last_zero _ _ (by simp)).mono ?_
          rintro e w1 ⟨rfl, rfl⟩
          go_wp2_with fail
          go_roundw
          case rel => exact ⟨1, by omega, rfl, HW⟩
          case measure => simp [intOf]
        · by_cases e1 : q = 1
          · subst e1
            have HW := hW2.alloc hs (.cells #[.bool false, .int .i64 0, .int .i64 0, .int .u8 0, .int .u8 0, .int .u8 0, .int .u8 0, .int .u8 0, .int .u8 0, .int .u8 0, .int .u8 0, .int .u8 0, .int .u8 0, .int .u8 0, .int .u8 0, .int .u8 0, .int .u8 0, .int .u8 0, .int .u8 0] 36)
            go_wp2_with fail
            refine (clear_nil _).mono ?_
            rintro e w1 ⟨rfl, rfl⟩
            go_wp2_with fail
            refine (see_nil _ _).mono ?_
            rintro e w1 ⟨rfl, rfl⟩
            go_wp2_with fail
            refine (ticks_nil _).mono ?_
            rintro e w1 ⟨rfl, rfl⟩
            go_wp2_with fail
            refine (last_nil _).mono ?_
            rintro e w1 ⟨rfl, rfl⟩
            go_wp2_with fail
            go_roundw
            case rel => exact ⟨2, by omega, rfl, HW⟩
            case measure => simp [intOf]
          · obtain rfl : q = 2 := by omega
            go_wp2_with fail
            refine (one_any _).mono ?_
            rintro e w1 ⟨rfl, hbel⟩
            go_wp2_with fail
            go_ret
            exact ⟨rfl, hW2.trans (hbel.mono hs)⟩
set_option maxRecDepth 100000 in
set_option maxHeartbeats 400000 in
theorem long_list (w : World) (a0 b0 : Int) (A : Option Addr) (len cap : Nat) (h : 500 < len) (hm : len ≤ 9223372036854775807) :
    Calls Try.prog 4 #[.int .i64 a0, .int .i64 b0, .slice A len cap] w fun e w' => e = .returned (.bool true) ∧ Below w.heap.size w w' := by
  have d0 : decide ((500 : Int) < (len : Int)) = true := by simp; omega
  obtain ⟨ma, hma, HMa, q0, q1⟩ := masked 3 (by omega) a0 7 (by decide)
  obtain ⟨mb, hmb, HMb, q2, q3⟩ := masked 3 (by omega) b0 7 (by decide)
  clear HMa HMb
  go_enter Try.func4, Try.ntmps4
  go_wp2_with fail
  refine (new_yes _ ma (by omega) (by omega)).mono ?_
  rintro e w1 ⟨rfl, rfl⟩
  go_wp2_with fail
  refine (new_yes _ mb (by omega) (by omega)).mono ?_
  rintro e w1 ⟨rfl, rfl⟩
  go_wp2_with fail
  refine (new_yes _ _ (by omega) (by omega)).mono ?_
  rintro e w1 ⟨rfl, rfl⟩
  go_wp2_with fail
  go_ret
  exact ⟨rfl, (((Below.refl w.heap.size w).alloc (Nat.le_refl _) _).alloc (by simp) _).alloc (by simp; omega) _⟩
theorem walk {H : Type} {enc : TypeId × Value → H} (base : Nat) (W : World) (v0 : Value) (d0 : DataW H) (p0 : List MemPlace) (v1 : Value) (d1 : DataW H) (p1 : List MemPlace) (v2 : Value) (d2 : DataW H) (p2 : List MemPlace)
    (o0 : Value.okWide Try.prog W .any base 3 v0) (o1 : Value.okWide Try.prog W .any base 3 v1) (o2 : Value.okWide Try.prog W .any base 22 v2)
    (h0 : DataW.Trod enc Try.prog W 0 (fun _ => true) true 3 v0 d0 p0) (h1 : DataW.Trod enc Try.prog W 0 (fun _ => true) true 3 v1 d1 p1) (h2 : DataW.Trod enc Try.prog W 0 (fun _ => true) true 22 v2 d2 p2) :
    Calls Try.prog 4 #[v0, v1, v2] W fun e w' => e = .returned (.bool true) ∧ Below W.heap.size W w' := by
  obtain ⟨a, rfl, rfl, rfl, wa⟩ := open_int Try.underlying3 o0 h0
  obtain ⟨b, rfl, rfl, rfl, wb⟩ := open_int Try.underlying3 o1 h1
  obtain ⟨A, len, cap, z, rfl, hl, hm, hr, hz⟩ := open_rd Try.underlying22 Try.underlying29 (by kernel_rfl) o2 h2
  by_cases h : len ≤ 500
  · exact walk_any W a b A len cap z h hr
  · exact long_list W a b A len cap (by omega) (by unfold maxLen at hm; omega)
end delayTwiceW
end Go.Proofs.Ytkfmghlhbkpmmaa
