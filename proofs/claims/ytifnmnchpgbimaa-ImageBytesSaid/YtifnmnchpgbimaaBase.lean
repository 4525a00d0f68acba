/- Small words of my own for this seat: a block known whole (Blk), a world that only drew (Same), frames (grownBy). -/
import Derived.Test.YtifnmnchpgbimaaRows
import Derived.WalkKit
import Derived.WalkSpells
import Derived.WalkLawsBesides
import Derived.Deep.QuietTactic
import Derived.BigQuiet
import Derived.Lib.Hide
import Derived.BigRegion
import Derived.Laws.BitsLemmas
namespace Go.Proofs.Ytifnmnchpgbimaa
open Go.RowKit

/-- Block b holds these cells, none of them frozen. -/
def Blk (w : World) (b : Nat) (t : TypeId) (l : List Value) : Prop := w.heap[b]? = some (.cells l.toArray t (0, 0))
section
variable {w : World} {b : Nat} {t : TypeId} {l : List Value}
theorem Blk.cell (h : Blk w b t l) (i : Nat) (v : Value) (hv : l[i]? = some v) : w.cell? ⟨b, i, none⟩ = some v := by
  simp only [Blk] at h
  simp [World.cell?, h, hv]
theorem Blk.free (h : Blk w b t l) (i : Nat) : w.frozen? ⟨b, i, none⟩ = false := by
  simp only [Blk] at h
  simp [World.frozen?, h]
theorem Blk.set (h : Blk w b t l) (i : Nat) (v : Value) : Blk (w.setCell ⟨b, i, none⟩ v) b t (l.set i v) := by
  simp only [Blk] at h ⊢
  simp [World.setCell, Array.getElem?_modify, h]
theorem Blk.lt (h : Blk w b t l) : b < w.heap.size := (Array.getElem?_eq_some_iff.1 h).1
theorem Blk.alloc (h : Blk w b t l) (o : Obj) : Blk (w.alloc o) b t l := by
  unfold Blk at *
  rw [Below.heap_alloc _ _ _ (Array.getElem?_eq_some_iff.1 h).1]; exact h
theorem Blk.other (h : Blk w b t l) {a : Addr} (ha : a.block ≠ b) (v : Value) : Blk (w.setCell a v) b t l := by
  unfold Blk at *
  rw [Below.heap_setCell _ _ _ _ (by omega)]; exact h
theorem Blk.drew (h : Blk w b t l) : Blk w.drew b t l := h
theorem Blk.drewN (h : Blk w b t l) (n : Nat) : Blk (w.drewN n) b t l := h
theorem Blk.new (w : World) (t : TypeId) (l : List Value) : Blk (w.alloc (.cells l.toArray t)) w.heap.size t l := by
  unfold Blk; exact heap_alloc_new w _
theorem Blk.kept {w' : World} {r : Option Nat} (h : Blk w b t l) (hg : w.grownBy w' r) (hr : some b ≠ r) : Blk w' b t l := by
  unfold Blk at *
  rw [hg.block b (Array.getElem?_eq_some_iff.1 h).1 hr]; exact h
theorem Blk.below {B : Nat} {w' : World} (h : Blk w b t l) (hb : Below B w w') (hB : b < B) : Blk w' b t l := by
  unfold Blk at *
  rw [hb.block b hB]; exact h
end

/-- Only orders have been drawn. -/
def Same (w w' : World) : Prop := ∃ n, w' = w.drewN n
theorem Same.refl (w : World) : Same w w := ⟨0, rfl⟩
theorem Same.drew {w w' : World} (h : Same w w') : Same w w'.drew := by obtain ⟨n, rfl⟩ := h; exact ⟨n + 1, rfl⟩
theorem Same.drewN {w w' : World} (h : Same w w') (k : Nat) : Same w (w'.drewN k) := by obtain ⟨n, rfl⟩ := h; exact ⟨n + k, World.drewN_drewN ..⟩
theorem Same.trans {a b c : World} (h : Same a b) (k : Same b c) : Same a c := by obtain ⟨n, rfl⟩ := k; exact h.drewN n
theorem Same.below {w w' : World} (h : Same w w') (B : Nat) : Below B w w' := by obtain ⟨n, rfl⟩ := h; exact ⟨rfl, rfl, rfl, Nat.le_refl _, fun _ _ => rfl⟩

section
variable {w w' : World} {r : Option Nat}
theorem gb_refl (w : World) (r : Option Nat) : w.grownBy w r := ⟨rfl, rfl, rfl, Nat.le_refl _, fun _ _ _ => rfl⟩
theorem gb_drew (h : w.grownBy w' r) : w.grownBy w'.drew r := ⟨h.os, h.tape, h.output, h.size, h.block⟩
theorem gb_drewN (h : w.grownBy w' r) (n : Nat) : w.grownBy (w'.drewN n) r := ⟨h.os, h.tape, h.output, h.size, h.block⟩
theorem gb_alloc (h : w.grownBy w' r) (o : Obj) : w.grownBy (w'.alloc o) r :=
  ⟨h.os, h.tape, h.output, by have := h.size; simp; omega, fun k hk hr => by rw [Below.heap_alloc _ _ _ (by have := h.size; omega)]; exact h.block k hk hr⟩
theorem gb_set {b : Nat} (h : w.grownBy w' (some b)) (i : Nat) (v : Value) : w.grownBy (w'.setCell ⟨b, i, none⟩ v) (some b) :=
  ⟨h.os, h.tape, h.output, by have := h.size; simp [World.setCell]; omega, fun k hk hr => by
    rw [Below.heap_setCell _ _ _ _ (by intro e; exact hr (by rw [e]))]; exact h.block k hk hr⟩
theorem gb_setNew (h : w.grownBy w' r) {a : Addr} (ha : w.heap.size ≤ a.block) (v : Value) : w.grownBy (w'.setCell a v) r :=
  ⟨h.os, h.tape, h.output, by have := h.size; simp [World.setCell]; omega, fun k hk hr => by
    rw [Below.heap_setCell _ _ _ _ (by omega)]; exact h.block k hk hr⟩
theorem gb_trans {w'' : World} (h : w.grownBy w' r) (k : w'.grownBy w'' r) : w.grownBy w'' r :=
  ⟨k.os.trans h.os, k.tape.trans h.tape, k.output.trans h.output, Nat.le_trans h.size k.size, fun i hi hr => (k.block i (by have := h.size; omega) hr).trans (h.block i hi hr)⟩
theorem gb_same (h : Same w w') (r : Option Nat) : w.grownBy w' r := by obtain ⟨n, rfl⟩ := h; exact gb_drewN (gb_refl _ _) n
theorem gb_below {B : Nat} (h : w.grownBy w' r) (hB : B ≤ w.heap.size) (hr : ∀ k, r = some k → B ≤ k) : Below B w w' := (Below.refl B w).grown h hB hr
end

theorem ret_int {k : IntKind} {a b : Int} (h : a = b) : Ending.returned (.int k a) = .returned (.int k b) := by rw [h]
theorem ret_bool {a b : Bool} (h : a = b) : Ending.returned (.bool a) = .returned (.bool b) := by rw [h]
/-- Contracts that only read, offered inside a quiet region. -/
theorem q_eq {P : Program} {f : FuncId} {args : Array Value} {w : World} {n : Nat} {v : Value}
    (h : Calls P f args (w.drewN n) fun e w' => e = .returned v ∧ w.drewN n = w') : Calls P f args (w.drewN n) fun e w'' => e = .returned v ∧ ∃ m, w'' = w.drewN m :=
  h.mono fun _ _ ⟨he, hm⟩ => ⟨he, n, hm.symm⟩
theorem q_same {P : Program} {f : FuncId} {args : Array Value} {w : World} {n : Nat} {v : Value}
    (h : Calls P f args (w.drewN n) fun e w' => e = .returned v ∧ Same (w.drewN n) w') : Calls P f args (w.drewN n) fun e w'' => e = .returned v ∧ ∃ m, w'' = w.drewN m :=
  h.mono fun _ _ ⟨he, k, hk⟩ => ⟨he, n + k, by rw [hk, World.drewN_drewN]⟩

theorem max2_i64 (x y : Int) : Builtin.max2 (.int .i64 x) (.int .i64 y) = pure (.int .i64 (max x y)) := by
  have : max x y = if x < y then y else x := by omega
  simp only [Builtin.max2, gt_iff_lt, this]
theorem min2_i64 (x y : Int) : Builtin.min2 (.int .i64 x) (.int .i64 y) = pure (.int .i64 (min x y)) := by
  have : min x y = if y < x then y else x := by omega
  simp only [Builtin.min2, this]
theorem max_two' (ats : Array TypeId) (ty : TypeId) (a b : Value) : Builtin.max_ ats ty #[a, b] = (Builtin.max2 a b >>= fun s => pure s) := by simp only [Builtin.max_, List.foldlM_cons, List.foldlM_nil]
theorem min_two' (ats : Array TypeId) (ty : TypeId) (a b : Value) : Builtin.min_ ats ty #[a, b] = (Builtin.min2 a b >>= fun s => pure s) := by simp only [Builtin.min_, List.foldlM_cons, List.foldlM_nil]
/-- 'n & (2^i - 1)' on an int. -/
theorem i64_mask (i : Nat) (hi : i ≤ 62) (n : Int) : bits .and .i64 n ((2 ^ i - 1 : Nat) : Int) = n % ((2 ^ i : Nat) : Int) := by
  have hp : 2 ^ i ≤ 2 ^ 62 := Nat.pow_le_pow_right (by omega) hi
  have hpos : 0 < 2 ^ i := Nat.two_pow_pos i
  have h1 : (BitVec.ofInt 64 ((2 ^ i - 1 : Nat) : Int)).toNat = 2 ^ i - 1 := by
    rw [BitVec.toNat_ofInt]
    omega
  have key : (BitVec.ofInt 64 n &&& BitVec.ofInt 64 ((2 ^ i - 1 : Nat) : Int)).toNat = (n % ((2 ^ 64 : Nat) : Int)).toNat % 2 ^ i := by
    rw [BitVec.toNat_and, BitVec.toNat_ofInt, h1, Nat.and_two_pow_sub_one_eq_mod]
  show IntKind.i64.wrap ((BitVec.ofInt 64 n &&& BitVec.ofInt 64 ((2 ^ i - 1 : Nat) : Int)).toNat : Nat) = n % ((2 ^ i : Nat) : Int)
  rw [key, IntKind.wrap_i64]
  have hd : ((2 ^ i : Nat) : Int) ∣ ((2 ^ 64 : Nat) : Int) := by
    refine Int.natCast_dvd_natCast.2 (Nat.pow_dvd_pow 2 (by omega))
  have e1 : (((n % ((2 ^ 64 : Nat) : Int)).toNat % 2 ^ i : Nat) : Int) = n % ((2 ^ i : Nat) : Int) := by
    rw [Int.natCast_emod, Int.toNat_of_nonneg (Int.emod_nonneg _ (by omega)), Int.emod_emod_of_dvd _ hd]
  have e2 : 0 ≤ n % ((2 ^ i : Nat) : Int) := Int.emod_nonneg _ (by omega)
  have e3 : n % ((2 ^ i : Nat) : Int) < ((2 ^ i : Nat) : Int) := Int.emod_lt_of_pos _ (by omega)
  rw [e1]
  omega
/-- What a mask of ones makes of a number: named. -/
theorem masked (i : Nat) (hi : i ≤ 62) (n M : Int) (hM : M = ((2 ^ i - 1 : Nat) : Int)) : ∃ m, bits .and .i64 n M = m ∧ Hid (m = n % (M + 1)) ∧ 0 ≤ m ∧ m ≤ M := by
  have hpos : 0 < 2 ^ i := Nat.two_pow_pos i
  have e : M + 1 = ((2 ^ i : Nat) : Int) := by omega
  refine ⟨n % (M + 1), by rw [hM, i64_mask i hi, ← e, ← hM], rfl, Int.emod_nonneg _ (by omega), ?_⟩
  have := Int.emod_lt_of_pos n (show 0 < M + 1 by omega)
  omega
end Go.Proofs.Ytifnmnchpgbimaa
