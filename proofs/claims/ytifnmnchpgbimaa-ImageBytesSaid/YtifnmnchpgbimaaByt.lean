/- Bytes: a slice of bytes and its cells, strings of bytes, append of a slice of bytes. -/
import Derived.Test.YtifnmnchpgbimaaIn
import Derived.Test.YtifnmnchpgbimaaRow
import Derived.Laws.BytesArg
import Derived.Laws.Concat
import Derived.Laws.AppendOwnNone
namespace Go.Proofs.Ytifnmnchpgbimaa
open Go.ChangeShapes Go.WideShapes Go.ChangeAt Go.RowKit
set_option linter.unusedVariables false
set_option linter.unusedSimpArgs false
namespace Cm
theorem alloc_drewN' (w : World) (n : Nat) (o : Obj) : (w.drewN n).alloc o = (w.alloc o).drewN n := rfl
theorem setCell_drewN' (w : World) (n : Nat) (a : Addr) (v : Value) : (w.drewN n).setCell a v = (w.setCell a v).drewN n := by unfold World.setCell World.drewN; simp <;> (repeat split) <;> rfl
/-- A string's byte. -/
def bz (s : ByteArray) (i : Nat) : Int := ((s.data[i]?).getD 0).toNat
theorem bz_lo (s : ByteArray) (i : Nat) : 0 ≤ bz s i ∧ bz s i ≤ 255 := by
  unfold bz
  have := ((s.data[i]?).getD 0).toNat_lt
  omega
theorem bz_at (s : ByteArray) (i : Nat) (h : i < s.size) : ((s[i]'h).toNat : Int) = bz s i := by
  unfold bz
  have : s.data[i]? = some (s[i]'h) := by
    show s.data[i]? = some (s.data[i]'h)
    simp
  rw [this]; rfl
theorem run_index_bz {P : Program} (w : World) (t : TypeId) (s : ByteArray) (k : IntKind) (i : Int) (h : P.underlying t = some .string) :
    (Instr.index t (.string s) (.int k i)).run P w = if 0 ≤ i ∧ i < s.size then .ok (.int .u8 (bz s i.toNat)) w else (boundsPanic k i s.size .index).run P w := by
  rw [run_index_string w t s k i h]
  by_cases hi : 0 ≤ i ∧ i < s.size
  · rw [dif_pos hi, if_pos hi, bz_at]
  · rw [dif_neg hi, if_neg hi]
theorem bz_extract (s : ByteArray) (a b j : Nat) (hb : b ≤ s.size) (hj : a + j < b) : bz (s.extract a b) j = bz s (a + j) := by
  unfold bz
  have : (s.extract a b).data[j]? = s.data[a + j]? := by
    have hs : s.data.size = s.size := rfl
    rw [ByteArray.data_extract, Array.getElem?_extract]
    rw [if_pos (by omega)]
  rw [this]
theorem size_extract (s : ByteArray) (a b : Nat) (hb : b ≤ s.size) : (s.extract a b).size = b - a := by
  simp; omega
theorem conv_cells {P : Program} (w : World) {src dst e : TypeId} (A : Option Addr) (n c : Nat) (xs : List Int) (hs : P.underlying src = some (.slice e)) (he : P.underlying e = some (.int .u8)) (hd : P.underlying dst = some .string)
    (hlen : xs.length = n) (hA : 0 < n → ∃ b off, A = some ⟨b, off, none⟩ ∧ ∀ i, i < n → w.cell? ⟨b, off + i, none⟩ = some (.int .u8 (xs.getD i 0))) :
    (convert src dst (.slice A n c)).run P w = .ok (.string (strOfNums xs)) w := by
  by_cases hn : 0 < n
  · obtain ⟨b, off, rfl, hc⟩ := hA hn
    exact run_convert_bytes_arg w src e hs he b off n c xs hlen hc dst hd
  · obtain rfl : n = 0 := by omega
    obtain rfl : xs = [] := by simpa using hlen
    cases A with
    | none => exact run_convert_bytes_nil w src e hs he 0 c dst hd
    | some a =>
      rw [run_convert_bytes_string w src dst e _ 0 c hs he hd, run_bytesToString w a 0 c [] (by unfold loadCells loadCellsFrom; simp [Sem.run_pure])]
      rfl
/-- A slice of bytes: its cells. -/
structure Sl (w : World) (base : Nat) (A : Option Addr) (n c : Nat) (l : List Int) : Prop where
  len : l.length = n
  le : n ≤ c
  cap : c ≤ 9223372036854775807
  rd : 0 < n → ∃ b off, A = some ⟨b, off, none⟩ ∧ base ≤ b ∧ b < w.heap.size ∧ ∀ i, i < n → w.cell? ⟨b, off + i, none⟩ = some (.int .u8 (l.getD i 0))
theorem cell_kept {w w' : World} {b off : Nat} (h : w.grownBy w' none) (hb : b < w.heap.size) : w'.cell? ⟨b, off, none⟩ = w.cell? ⟨b, off, none⟩ := by
  simp only [World.cell?]
  rw [h.block b hb (by simp)]
theorem Sl.kept {w w' : World} {base n c : Nat} {A : Option Addr} {l : List Int} (h : Sl w base A n c l) (hg : w.grownBy w' none) : Sl w' base A n c l := by
  refine ⟨h.len, h.le, h.cap, fun hn => ?_⟩
  obtain ⟨b, off, e, h1, h2, h3⟩ := h.rd hn
  exact ⟨b, off, e, h1, Nat.lt_of_lt_of_le h2 hg.size, fun i hi => (cell_kept hg h2).trans (h3 i hi)⟩
theorem Sl.conv {P : Program} {w : World} {base n c : Nat} {A : Option Addr} {l : List Int} {src dst e : TypeId} (h : Sl w base A n c l) (hs : P.underlying src = some (.slice e)) (he : P.underlying e = some (.int .u8)) (hd : P.underlying dst = some .string) :
    (convert src dst (.slice A n c)).run P w = .ok (.string (strOfNums l)) w :=
  conv_cells w A n c l hs he hd h.len fun hn => by
    obtain ⟨b, off, e, h1, h2, h3⟩ := h.rd hn
    exact ⟨b, off, e, h3⟩
theorem Sl.of_own {w : World} {base : Nat} {e : TypeId} {A : Option Addr} {c n : Nat} {l : List Int} (h : w.ownsRow base e 1 (.slice A n c) n (nums .u8 l)) : Sl w base A n c l := by
  have hl := own_len h
  rcases h.2 with ⟨h2, h3⟩ | ⟨g, cap, cur, h2, hb, hg, hn, hm, _⟩
  · injection h2 with v1 v2 v3
    subst v1 v3
    exact ⟨hl, by omega, by omega, fun hn => absurd hn (by omega)⟩
  · injection h2 with v1 v2 v3
    subst v1 v3
    refine ⟨hl, by omega, by unfold maxLen at hm; omega, fun h0 => ?_⟩
    obtain ⟨A', c', hv, hr⟩ := own_rd h
    injection hv with w1 w2 w3
    subst w1 w3
    obtain ⟨b, off, e1, hlt, hc⟩ := hr h0
    have e4 : g = b := by injection e1 with e2; injection e2
    subst e4
    exact ⟨_, off, e1, hb, hlt, hc⟩
theorem getD_bytes {l : List Int} (h : ∀ x ∈ l, 0 ≤ x ∧ x ≤ 255) (i : Nat) : 0 ≤ l.getD i 0 ∧ l.getD i 0 ≤ 255 := by
  rw [List.getD_eq_getElem?_getD]
  cases hx : l[i]? with
  | none => simp
  | some x => exact h x (List.mem_of_getElem? hx)
theorem bz_str {l : List Int} (h : ∀ x ∈ l, 0 ≤ x ∧ x ≤ 255) : bz (strOfNums l) = fun i => l.getD i 0 := by
  funext i
  unfold bz strOfNums
  rw [List.getD_eq_getElem?_getD]
  simp only [List.getElem?_toArray, List.getElem?_map]
  cases hx : l[i]? with
  | none => rfl
  | some x =>
    have := h x (List.mem_of_getElem? hx)
    simp
    omega
theorem sl_in {w : World} {A : Option Addr} {n c : Nat} {z : Nat → Int} (hn : n ≤ c) (hc : c ≤ maxLen) (h : Rd w w.heap.size A n (fun i => .int .u8 (z i))) (hz : ∀ i, i < n → 0 ≤ z i ∧ z i ≤ 255) :
    ∃ l : List Int, Sl w 0 A n c l ∧ ∀ x ∈ l, 0 ≤ x ∧ x ≤ 255 := by
  refine ⟨(List.range n).map z, ⟨by simp, hn, by unfold maxLen at hc; omega, fun h0 => ?_⟩, ?_⟩
  · obtain ⟨b, off, e, hlt, hcell⟩ := h h0
    refine ⟨b, off, e, by omega, hlt, fun i hi => ?_⟩
    rw [hcell i hi]
    simp [List.getD_eq_getElem?_getD, hi]
  · intro x hx
    simp at hx
    obtain ⟨i, hi, rfl⟩ := hx
    exact hz i hi
theorem str_app (l m : List Int) : strOfNums l ++ strOfNums m = strOfNums (l ++ m) := by
  apply ByteArray.ext
  simp [strOfNums, ByteArray.data_append]
theorem Sl.kept_below {w w' : World} {base n c : Nat} {A : Option Addr} {l : List Int} (h : Sl w base A n c l) (hb : Below w.heap.size w w') : Sl w' base A n c l := by
  refine ⟨h.len, h.le, h.cap, fun hn => ?_⟩
  obtain ⟨b, off, e, h1, h2, h3⟩ := h.rd hn
  exact ⟨b, off, e, h1, Nat.lt_of_lt_of_le h2 hb.size, fun i hi => (hb.cell (p := ⟨b, off + i, none⟩) h2).trans (h3 i hi)⟩
theorem Sl.take {w : World} {base n c : Nat} {A : Option Addr} {l : List Int} (h : Sl w base A n c l) (k : Nat) (hk : k ≤ n) : Sl w base A k c (l.take k) := by
  have hl := h.len
  refine ⟨by simp; omega, by have := h.le; omega, h.cap, fun hn => ?_⟩
  obtain ⟨b, off, e, h1, h2, h3⟩ := h.rd (by omega)
  refine ⟨b, off, e, h1, h2, fun i hi => ?_⟩
  rw [h3 i (by omega)]
  simp [List.getD_eq_getElem?_getD, List.getElem?_take, hi]
/-- append(dst, src...): dst is the call's own, src a slice of bytes or nil. -/
theorem wpList_app_sl {P : Program} (w : World) {ops : Array Oper} {rest : List Oper} {o : Oper} {a : Act} {Q : Exit → Act → World → Prop} (hgd : o.guard = none) (s x : Operand) (t : TypeId)
    (ho : o.op = .call { callee := .builtin .append, args := #[s, x], argTypes := #[t, t] })
    (base : Nat) (e : TypeId) (i : TypeInfo) (ht : P.underlying t = some (.slice e)) (hi : P.info? e = some i) (hz : i.zero = some (.int .u8 0)) (hsize : i.size = 1) (hby : i.bytes = 1)
    (v : Value) (n : Nat) (xs : List Int) (hs : a.eval s = v) (hown : w.ownsRow base e 1 v n (nums .u8 xs))
    {bs : Nat} (A : Option Addr) (m c : Nat) (l : List Int) (hx : a.eval x = .slice A m c) (hA : A = none → c = 0) (hl : Sl w bs A m c l) (hsm : n + m ≤ 100000) (hbase : base ≤ w.heap.size)
    (h : ∀ v' w', w'.ownsRow base e 1 v' (n + m) (nums .u8 (xs ++ l)) → w.grownBy w' v.ownBlock → wpList P ops Q rest (a.put o.dst v') w') : wpList P ops Q (o :: rest) a w := by
  cases A with
  | none =>
    obtain rfl := hA rfl
    have hm : m = 0 := by
      rcases Nat.eq_zero_or_pos m with h0 | h0
      · exact h0
      · obtain ⟨b, off, e, _⟩ := hl.rd h0
        cases e
    subst hm
    have hnil : l = [] := by simpa using hl.len
    subst hnil
    refine wpList_append_own_none hgd s x t ho base e i 1 ht hi v n (nums .u8 xs) hs hown hx ?_
    refine h v w (by simpa using hown) (gb_refl _ _)
  | some ad =>
    refine wpList_append_own w hgd s x t ho base e i (.int .u8 0) 1 1 ht hi hz hsize hby rfl (by decide) v n (nums .u8 xs) hs hown ad m c (nums .u8 l) hx (by rw [nums_len, hl.len]; omega) ?_ ?_ (by unfold maxLen; omega) (by omega) hbase ?_
    · intro j u hj
      have hj2 : j < l.length := by
        rcases Nat.lt_or_ge j l.length with h | h
        · exact h
        · rw [List.getElem?_eq_none (by rw [nums_len]; exact h)] at hj; cases hj
      have hlen := hl.len
      obtain ⟨b, off, e, _, _, h3⟩ := hl.rd (by omega)
      cases e
      rw [nums_get .u8 l j hj2] at hj
      cases hj
      have ea : (⟨b, off, none⟩ : Addr).add j = ⟨b, off + j, none⟩ := by
        unfold Addr.add
        split
        · rename_i h0; simp_all
        · rfl
      rw [ea]
      exact h3 j (by omega)
    · intro u hu
      unfold nums at hu
      simp at hu
      obtain ⟨x, _, rfl⟩ := hu
      rfl
    · intro v' w' h1 h2 _
      exact h v' w' (by rw [nums_app]; exact h1) h2
theorem u8_info : (Try.prog.info? 5).map (fun i => (i.zero, i.size, i.bytes)) = some (some (.int .u8 0), 1, 1) := by kernel_rfl
theorem own_empty (w : World) : (w.alloc (.cells #[] 5)).ownsRow w.heap.size 5 1 (.slice (some ⟨w.heap.size, 0, none⟩) 0 0) 0 (nums .u8 []) :=
  ⟨rfl, .inr ⟨w.heap.size, 0, #[], rfl, Nat.le_refl _, heap_alloc_new w _, Nat.le_refl _, by unfold maxLen; omega, rfl, rfl⟩⟩
/-- A slice of bytes that came in. -/
theorem open_bytes {H : Type} {enc : TypeId × Value → H} {P : Program} {W : World} {base : Nat} {t e : TypeId} {v : Value} {d : DataW H} {p : List MemPlace}
    (ht : P.underlying t = some (.slice e)) (he : P.underlying e = some (.int .u8)) (hc : P.cellsOf e = 1)
    (o : Value.okWide P W .any base t v) (h : DataW.Trod enc P W 0 (fun _ => true) true t v d p) :
    ∃ A len cap, ∃ l : List Int, v = .slice A len cap ∧ Sl W 0 A len cap l ∧ (A = none → cap = 0) ∧ ∀ x ∈ l, 0 ≤ x ∧ x ≤ 255 := by
  obtain ⟨A, len, cap, z, rfl, hl, hm, hr, hz⟩ := open_rd ht he hc o h
  obtain ⟨l, hs, hb⟩ := sl_in hl hm hr (fun i hi => wf_u8 (hz i hi))
  refine ⟨A, len, cap, l, rfl, hs, ?_, hb⟩
  rintro rfl
  obtain ⟨fuel, hf⟩ := h
  rcases open_ints ht he hc hf with ⟨hcs, _⟩ | ⟨x, l, c, zs, hcs, _⟩
  · simp [Value.cells] at hcs
    exact hcs.2
  · simp [Value.cells] at hcs
end Cm
end Go.Proofs.Ytifnmnchpgbimaa
