/- Images: the contracts of of, two, Equal, HasPrefix, Same. -/
import Derived.Test.YtifnmnchpgbimaaImg
namespace Go.Proofs.Ytifnmnchpgbimaa
open Go.RowKit
set_option linter.unusedVariables false
set_option linter.unusedSimpArgs false
namespace Im
open Cm
attribute [local go_sem] alloc_drewN' setCell_drewN'
theorem or256 (x y : Int) (h1 : 0 ≤ x) (h2 : x ≤ 255) (h3 : 0 ≤ y) (h4 : y ≤ 255) : ∃ m, bits .or .i64 (x * 256) y = m ∧ Hid (256 * x + y = m) ∧ 0 ≤ m ∧ m ≤ 65535 := by
  refine ⟨256 * x + y, ?_, rfl, by omega, by omega⟩
  rw [bits_join .i64 62 (by decide) (fun n h0 h1 => by rw [IntKind.wrap_i64]; have : (2:Int)^62 = 4611686018427387904 := by decide
                                                       omega) 8 (x * 256) y (by omega) (by omega) (by have : (2:Int)^62 = 4611686018427387904 := by decide
                                                                                                      omega) h3 (by omega) (by have : (2:Int)^62 = 4611686018427387904 := by decide
                                                                                                                               omega)]
  omega
set_option maxRecDepth 100000 in
set_option maxHeartbeats 2000000 in
theorem of_drew (w : World) (b off n c : Nat) (x y : Int) (hn : 2 ≤ n) (c0 : w.cell? ⟨b, off, none⟩ = some (.int .u8 x)) (c1 : w.cell? ⟨b, off + 1, none⟩ = some (.int .u8 y))
    (h1 : 0 ≤ x) (h2 : x ≤ 255) (h3 : 0 ≤ y) (h4 : y ≤ 255) :
    Calls Try.prog 20 #[.slice (some ⟨b, off, none⟩) n c] w fun e w' => e = .returned (.int .i64 (256 * x + y)) ∧ w.drew = w' := by
  obtain ⟨m, hm, HM, m0, m1⟩ := or256 x y h1 h2 h3 h4
  have d1 : (1 : Int) < n := by omega
  have d0 : (0 : Int) < n := by omega
  go_enter Try.func20, Try.ntmps20
  go_wp2_with fail
  go_region
  all_goals
    go_wp2_with fail
    go_ret
    exact ⟨by rw [show 256 * x + y = m from HM]; rfl, rfl⟩
theorem of_any (w : World) (b off n c : Nat) (x y : Int) (hn : 2 ≤ n) (c0 : w.cell? ⟨b, off, none⟩ = some (.int .u8 x)) (c1 : w.cell? ⟨b, off + 1, none⟩ = some (.int .u8 y))
    (h1 : 0 ≤ x) (h2 : x ≤ 255) (h3 : 0 ≤ y) (h4 : y ≤ 255) :
    Calls Try.prog 20 #[.slice (some ⟨b, off, none⟩) n c] w fun e w' => e = .returned (.int .i64 (256 * x + y)) ∧ w.grownBy w' none :=
  (of_drew w b off n c x y hn c0 c1 h1 h2 h3 h4).mono fun _ _ ⟨he, hw⟩ => ⟨he, by rw [← hw]; exact gb_drew (gb_refl _ _)⟩
theorem add_cell (b j : Nat) : (⟨b, 0, none⟩ : Addr).add j = ⟨b, j, none⟩ := by
  unfold Addr.add
  split
  · rename_i h0; subst h0; rfl
  · simp
theorem cells_new (w : World) (e : TypeId) (l : List Value) (j : Nat) (u : Value) (h : l[j]? = some u) : (w.alloc (.cells l.toArray e)).cell? ((⟨w.heap.size, 0, none⟩ : Addr).add j) = some u := by
  rw [add_cell]
  exact (Blk.new w e l).cell j u h
theorem cells_new2 (w : World) (e : TypeId) (x y : Int) : ∀ (j : Nat) (u : Value), [Value.int .u8 x, .int .u8 y][j]? = some u → (w.alloc (.cells #[.int .u8 x, .int .u8 y] e)).cell? ((⟨w.heap.size, 0, none⟩ : Addr).add j) = some u :=
  cells_new w e [.int .u8 x, .int .u8 y]
theorem one2 (x y : Int) : ∀ u ∈ [Value.int .u8 x, .int .u8 y], u.oneCell' = true := by
  intro u hu
  simp at hu
  rcases hu with rfl | rfl <;> rfl
theorem gb_row {w w1 w2 : World} {r : Option Nat} (h : w.grownBy w1 none) (hg : w1.grownBy w2 r) : w.grownBy w2 r :=
  ⟨hg.os.trans h.os, hg.tape.trans h.tape, hg.output.trans h.output, Nat.le_trans h.size hg.size, fun k hk hr => (hg.block k (Nat.lt_of_lt_of_le hk h.size) hr).trans (h.block k hk (by simp))⟩
set_option maxRecDepth 100000 in
set_option maxHeartbeats 2000000 in
/-- two(b, n): two bytes behind those that the call itself made. -/
theorem two_any (w : World) (base : Nat) (v : Value) (k : Nat) (xs : List Int) (n : Int) (hown : w.ownsRow base 5 1 v k (nums .u8 xs)) (hbase : base ≤ w.heap.size) (hk : k ≤ 10000) (h0 : 0 ≤ n) (h1 : n ≤ 65535) :
    Calls Try.prog 17 #[v, .int .i64 n] w fun e w' => ∃ v', e = .returned v' ∧ w'.ownsRow base 5 1 v' (k + 2) (nums .u8 (xs ++ [n / 256, n % 256])) ∧ w.grownBy w' v.ownBlock := by
  obtain ⟨i0, hi, hz0, hz1, hz2⟩ := info_parts u8_info
  go_enter Try.func17, Try.ntmps17
  go_wp2_with (first | (at_builtin; go_loud (refine wpList_append_own _ rfl _ _ 23 rfl base 5 i0 (.int .u8 0) 1 1 Try.underlying23 hi hz0 hz1 hz2 rfl (by decide) _ _ _ rfl (hown.alloc _) ⟨w.heap.size, 0, none⟩ 2 2 [.int .u8 (n / 256), .int .u8 (n % 256)] rfl rfl (cells_new2 w 5 _ _) (one2 _ _) (by unfold maxLen; omega) (by omega) (by simp; omega) ?_)) | fail)
  intro v' w' ho hg _
  go_wp2_with fail
  go_ret
  refine ⟨v', rfl, ?_, ?_⟩
  · rw [nums_app]; exact ho
  · exact gb_row (gb_alloc (gb_refl w none) _) hg
end Im
end Go.Proofs.Ytifnmnchpgbimaa
