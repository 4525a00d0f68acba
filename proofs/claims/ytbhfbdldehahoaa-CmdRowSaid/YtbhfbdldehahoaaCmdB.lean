/- Commands: the plain law of Back and Row, and append of a slice of bytes. -/
import Derived.Test.YtbhfbdldehahoaaCmdO
import Derived.Laws.AppendOwnNone
namespace Go.Proofs.Ytbhfbdldehahoaa
open Go.ChangeShapes Go.WideShapes Go.ChangeAt Go.RowKit
set_option linter.unusedVariables false
set_option linter.unusedSimpArgs false
namespace Cm
theorem put_len (c : Cd) : (put c).length = 1 + need c.op := by
  unfold put need
  by_cases h1 : c.op = 1
  · simp [h1]
  by_cases h2 : c.op = 2
  · simp [h1, h2]
  by_cases h3 : c.op = 3
  · simp [h1, h2, h3]
  by_cases h4 : c.op = 4
  · simp [h1, h2, h3, h4]
  by_cases h6 : c.op = 6 ∨ c.op = 8
  · simp [h1, h2, h3, h4, h6]
  · simp [h1, h2, h3, h4, h6]
theorem put_op (c : Cd) : (put c).getD 0 0 = c.op := by
  unfold put
  by_cases h1 : c.op = 1
  · simp [h1]
  by_cases h2 : c.op = 2
  · simp [h1, h2]
  by_cases h3 : c.op = 3
  · simp [h1, h2, h3]
  by_cases h4 : c.op = 4
  · simp [h1, h2, h3, h4]
  by_cases h6 : c.op = 6 ∨ c.op = 8
  · simp [h1, h2, h3, h4, h6]
  · simp [h1, h2, h3, h4, h6]
theorem need_le (o : Int) : need o ≤ 4 := by unfold need; repeat (split <;> try omega)
theorem right_op {c : Cd} (h : right c) : 0 ≤ c.op ∧ c.op ≤ 8 := by unfold right at h; omega
/-- The bytes of a command, wherever they stand. -/
theorem dec_put (c : Cd) (h : right c) (z : Nat → Int) (p : Nat) (hz : ∀ j, j < (put c).length → z (p + j) = (put c).getD j 0) : dec z p = clean c := by
  have hl := put_len c
  have h0 := hz 0 (by omega)
  have hop := put_op c
  rw [hop] at h0
  have h0' : z p = c.op := h0
  unfold right at h
  unfold dec
  by_cases h1 : c.op = 1
  · have e : put c = [1, c.addr, c.words, c.cand, c.many] := by simp [put, h1]
    rw [e] at hz
    have a1 := hz 1 (by simp)
    have a2 := hz 2 (by simp)
    have a3 := hz 3 (by simp)
    have a4 := hz 4 (by simp)
    simp at a1 a2 a3 a4
    simp [h0', h1, clean, a1, a2, a3, a4]
  by_cases h2 : c.op = 2
  · have e : put c = [2, c.addr, c.words, c.many] := by simp [put, h2]
    rw [e] at hz
    have a1 := hz 1 (by simp)
    have a2 := hz 2 (by simp)
    have a3 := hz 3 (by simp)
    simp at a1 a2 a3
    simp [h0', h2, clean, a1, a2, a3]
  by_cases h3 : c.op = 3
  · have e : put c = [3, c.words, c.many] := by simp [put, h3]
    rw [e] at hz
    have a1 := hz 1 (by simp)
    have a2 := hz 2 (by simp)
    simp at a1 a2
    simp [h0', h3, clean, a1, a2]
  by_cases h4 : c.op = 4
  · have e : put c = [4, c.bits] := by simp [put, h4]
    rw [e] at hz
    have a1 := hz 1 (by simp)
    simp at a1
    simp [h0', h4, clean, a1]
  by_cases h6 : c.op = 6 ∨ c.op = 8
  · have e : put c = [c.op, c.at_ / 256, c.at_ % 256] := by simp [put, h1, h2, h3, h4, h6]
    rw [e] at hz
    have a1 := hz 1 (by simp)
    have a2 := hz 2 (by simp)
    simp at a1 a2
    simp [h0', h1, h2, h3, h4, h6, clean, a1, a2]
    omega
  · simp [h0', h1, h2, h3, h4, h6, clean]
theorem clean_right {c : Cd} (h : right c) : right (clean c) := by
  unfold right at h ⊢
  unfold clean
  dsimp only
  by_cases h1 : c.op = 1
  · simp [h1] at h ⊢; omega
  by_cases h2 : c.op = 2
  · simp [h2] at h ⊢; omega
  by_cases h3 : c.op = 3
  · simp [h3] at h ⊢; omega
  by_cases h4 : c.op = 4
  · simp [h4] at h ⊢; omega
  by_cases h6 : c.op = 6 ∨ c.op = 8
  · simp [h1, h2, h3, h4, h6] at h ⊢; omega
  · simp [h1, h2, h3, h4, h6] at h ⊢; omega
theorem readV_put (c : Cd) (h : right c) (N : Nat) (z : Nat → Int) (p : Nat) (hN : p + (put c).length ≤ N) (hz : ∀ j, j < (put c).length → z (p + j) = (put c).getD j 0) :
    readV N z p = (clean c, (p : Int) + (put c).length, 0) := by
  have hl := put_len c
  have h0 : z p = c.op := by have := hz 0 (by omega); rw [put_op] at this; exact this
  have ho := right_op h
  unfold readV
  rw [if_neg (by omega), if_neg (by omega), if_neg (by rw [show ((p : Int)).toNat = p by omega, h0]; omega), show ((p : Int)).toNat = p by omega, dec_put c h z p hz, h0,
    if_neg (by omega), if_pos (clean_right h), hl]
  simp
  omega
theorem readV_short (c : Cd) (h : right c) (N : Nat) (z : Nat → Int) (hN : N < (put c).length) (hz : ∀ j, j < N → z j = (put c).getD j 0) : readV N z 0 = (zero, 0, 10) := by
  have hl := put_len c
  have ho := right_op h
  unfold readV
  by_cases h0 : N = 0
  · subst h0
    simp
  · have h1 : z 0 = c.op := by rw [hz 0 (by omega), put_op]
    rw [if_neg (by omega), if_neg (by omega), if_neg (by simp [h1]; omega), if_pos (by simp [h1]; omega)]
/-- What was read is put as it stood. -/
theorem put_dec (z : Nat → Int) (h : right (dec z 0)) (h0 : 0 ≤ z 0) (h8 : z 0 ≤ 8) (hz : ∀ i, 0 ≤ z i ∧ z i ≤ 255) : put (dec z 0) = (List.range (1 + need (z 0))).map z := by
  have a1 := hz 1
  have a2 := hz 2
  obtain k | k | k | k | k | k | k | k | k : z 0 = 0 ∨ z 0 = 1 ∨ z 0 = 2 ∨ z 0 = 3 ∨ z 0 = 4 ∨ z 0 = 5 ∨ z 0 = 6 ∨ z 0 = 7 ∨ z 0 = 8 := by omega
  all_goals
    simp [put, dec, need, k, List.range_succ]
    try omega
theorem dec_op (z : Nat → Int) : (dec z 0).op = z 0 := by
  unfold dec
  repeat (split <;> try simp_all)
theorem readV_back (N : Nat) (z : Nat → Int) (hz : ∀ i, 0 ≤ z i ∧ z i ≤ 255) : (readV N z 0).2.2 = 0 → right (dec z 0) ∧ z 0 ≤ 8 ∧ 1 + need (z 0) ≤ N ∧ readV N z 0 = (dec z 0, 1 + (need (z 0) : Int), 0) := by
  intro h
  have hv := h
  unfold readV at h
  by_cases h1 : ((0 : Int) < 0 ∨ (N : Int) < 0)
  · rw [if_pos h1] at h; simp at h
  rw [if_neg h1] at h
  by_cases h2 : (0 : Int) = N
  · rw [if_pos h2] at h; simp at h
  rw [if_neg h2] at h
  by_cases h3 : 8 < z (0 : Int).toNat
  · rw [if_pos h3] at h; simp at h
  rw [if_neg h3] at h
  by_cases h4 : (N : Int) < 0 + 1 + need (z (0 : Int).toNat)
  · rw [if_pos h4] at h; simp at h
  rw [if_neg h4] at h
  by_cases h5 : right (dec z (0 : Int).toNat)
  · refine ⟨h5, by simpa using h3, by simp at h4; omega, ?_⟩
    unfold readV
    rw [if_neg h1, if_neg h2, if_neg h3, if_neg h4, if_pos h5]
    simp
  · rw [if_neg h5] at h; simp at h
theorem Sl.kept_below {w w' : World} {base n c : Nat} {A : Option Addr} {l : List Int} (h : Sl w base A n c l) (hb : Below w.heap.size w w') : Sl w' base A n c l := by
  refine ⟨h.len, h.le, h.cap, fun hn => ?_⟩
  obtain ⟨b, off, e, h1, h2, h3⟩ := h.rd hn
  exact ⟨b, off, e, h1, Nat.lt_of_lt_of_le h2 hb.size, fun i hi => (hb.cell (p := ⟨b, off + i, none⟩) h2).trans (h3 i hi)⟩
theorem Sl.take {w : World} {base n c : Nat} {A : Option Addr} {l : List Int} (h : Sl w base A n c l) (k : Nat) (hk : k ≤ n) : Sl w base A k c (l.take k) := by
  have hl := h.len
  refine ⟨by simp; omega, by have := h.le; omega, h.cap, fun hn => ?_⟩
  obtain ⟨b, off, e, h1, h2, h3⟩ := h.rd (by omega)
  refine ⟨b, off, e, h1, h2, fun i hi => ?_⟩
  rw [h3 i (by omega)]
  simp [List.getD_eq_getElem?_getD, List.getElem?_take, hi]
/-- append(dst, src...): dst is the call's own, src a slice of bytes or nil. -/
theorem wpList_app_sl {P : Program} (w : World) {ops : Array Oper} {rest : List Oper} {o : Oper} {a : Act} {Q : Exit → Act → World → Prop} (hgd : o.guard = none) (s x : Operand) (t : TypeId)
    (ho : o.op = .call { callee := .builtin .append, args := #[s, x], argTypes := #[t, t] })
    (base : Nat) (e : TypeId) (i : TypeInfo) (ht : P.underlying t = some (.slice e)) (hi : P.info? e = some i) (hz : i.zero = some (.int .u8 0)) (hsize : i.size = 1) (hby : i.bytes = 1)
    (v : Value) (n : Nat) (xs : List Int) (hs : a.eval s = v) (hown : w.ownsRow base e 1 v n (nums .u8 xs))
    {bs : Nat} (A : Option Addr) (m c : Nat) (l : List Int) (hx : a.eval x = .slice A m c) (hA : A = none → c = 0) (hl : Sl w bs A m c l) (hsm : n + m ≤ 100000) (hbase : base ≤ w.heap.size)
    (h : ∀ v' w', w'.ownsRow base e 1 v' (n + m) (nums .u8 (xs ++ l)) → w.grownBy w' v.ownBlock → wpList P ops Q rest (a.put o.dst v') w') : wpList P ops Q (o :: rest) a w := by
  cases A with
  | none =>
    obtain rfl := hA rfl
    have hm : m = 0 := by
      rcases Nat.eq_zero_or_pos m with h0 | h0
      · exact h0
      · obtain ⟨b, off, e, _⟩ := hl.rd h0
        cases e
    subst hm
    have hnil : l = [] := by simpa using hl.len
    subst hnil
    refine wpList_append_own_none hgd s x t ho base e i 1 ht hi v n (nums .u8 xs) hs hown hx ?_
    refine h v w (by simpa using hown) (gb_refl _ _)
  | some ad =>
    refine wpList_append_own w hgd s x t ho base e i (.int .u8 0) 1 1 ht hi hz hsize hby rfl (by decide) v n (nums .u8 xs) hs hown ad m c (nums .u8 l) hx (by rw [nums_len, hl.len]; omega) ?_ ?_ (by unfold maxLen; omega) (by omega) hbase ?_
    · intro j u hj
      have hj2 : j < l.length := by
        rcases Nat.lt_or_ge j l.length with h | h
        · exact h
        · rw [List.getElem?_eq_none (by rw [nums_len]; exact h)] at hj; cases hj
      have hlen := hl.len
      obtain ⟨b, off, e, _, _, h3⟩ := hl.rd (by omega)
      cases e
      rw [nums_get .u8 l j hj2] at hj
      cases hj
      have ea : (⟨b, off, none⟩ : Addr).add j = ⟨b, off + j, none⟩ := by
        unfold Addr.add
        split
        · rename_i h0; simp_all
        · rfl
      rw [ea]
      exact h3 j (by omega)
    · intro u hu
      unfold nums at hu
      simp at hu
      obtain ⟨x, _, rfl⟩ := hu
      rfl
    · intro v' w' h1 h2 _
      exact h v' w' (by rw [nums_app]; exact h1) h2
end Cm
end Go.Proofs.Ytbhfbdldehahoaa
