/- Commands one behind the other: the plain law, and a slice of commands that came in. -/
import Derived.Test.YtbhfbdldehahoaaCmdBack
import Derived.Test.YtbhfbdldehahoaaOpenS
namespace Go.Proofs.Ytbhfbdldehahoaa
open Go.ChangeShapes Go.WideShapes Go.ChangeAt Go.RowKit Go.Deep
set_option linter.unusedVariables false
set_option linter.unusedSimpArgs false
/-- As open_rdS, and each number is one. -/
theorem open_rdSw {H : Type} {enc : TypeId × Value → H} {P : Program} {W : World} {base : Nat} {t e : TypeId} {fs : Array Field} {v : Value} {d : DataW H} {p : List MemPlace}
    (ht : P.underlying t = some (.slice e)) (he : P.underlying e = some (.struct fs)) (hone : oneCellFields P fs = true) (hC : P.cellsOf e = fs.size) (hpos : 0 < fs.size)
    (hint : ∀ (j : Nat) (f : Field), fs[j]? = some f → P.underlying f.type = some (.int .i64))
    (o : Value.okWide P W .any base t v) (h : DataW.Trod enc P W 0 (fun _ => true) true t v d p) :
    ∃ A len cap, ∃ z : Nat → Nat → Int, v = .slice A len cap ∧ len ≤ cap ∧ cap ≤ maxLen ∧ RdS W W.heap.size A len fs.size (fun i j => .int .i64 (z i j)) ∧ ∀ i, i < len → ∀ j, j < fs.size → Cm.fits (z i j) := by
  obtain ⟨A, len, cap, rfl⟩ := okWide_slice ht o
  obtain ⟨fuel, hf⟩ := h
  rcases open_slice ht hf with ⟨hcs, _⟩ | ⟨x, l, c, m, n, D, Pl, hcs, _, hl, hm, hmm, _, hi⟩
  · simp [Value.cells] at hcs
    obtain ⟨rfl, rfl, rfl⟩ := hcs
    exact ⟨none, 0, 0, fun _ _ => 0, rfl, Nat.le_refl _, by unfold maxLen; omega, fun hn => absurd hn (by omega), fun i hi => absurd hi (by omega)⟩
  · simp [Value.cells] at hcs
    obtain ⟨rfl, rfl, rfl⟩ := hcs
    have hmc : m = cap := by simpa using hmm
    subst hmc
    have key : ∀ i, i < len → ∀ j, j < fs.size → ∃ q : Int, W.cell? (x.add (i * fs.size + j)) = some (.int .i64 q) ∧ Cm.fits q := by
      intro i hil j hj
      obtain ⟨cs', hc, ht'⟩ := hi i (by omega)
      rw [hC] at hc
      obtain ⟨ys, n', hn', hy, hlen, hyl, hfd⟩ := DataW.trod_struct he ht'
      obtain ⟨_, hcl, hat⟩ := World.cells?_some hc
      have hfj : fs[j]? = some fs[j] := Array.getElem?_eq_getElem hj
      obtain ⟨ho, hk⟩ := hone_of hone j _ hfj
      have hcell := hat j hj
      have hv : cs'[j]? = some (cs'[j]'(by omega)) := List.getElem?_eq_getElem (by omega)
      have h1 := hfd j _ hfj
      rw [ho, hk] at h1
      have hone' : (cs'.drop j).take 1 = [cs'[j]'(by omega)] := by
        rw [List.drop_eq_getElem_cons (by omega)]
        rfl
      rw [hone'] at h1
      have hys : ys[j]? = some (ys[j]'(by omega)) := List.getElem?_eq_getElem (by omega)
      rw [hys] at h1
      obtain ⟨q, e0, _, wq⟩ := DataW.trod_int (hint j _ hfj) h1
      refine ⟨q, ?_, wf_i64 wq⟩
      rw [← Go.Deep.add_add, hcell, hv]
      simp at e0
      rw [e0]
    have key2 : ∀ ij : Nat × Nat, ∃ q : Int, ij.1 < len → ij.2 < fs.size → W.cell? (x.add (ij.1 * fs.size + ij.2)) = some (.int .i64 q) ∧ Cm.fits q := by
      intro ij
      by_cases h1 : ij.1 < len
      · by_cases h2 : ij.2 < fs.size
        · obtain ⟨q, hq⟩ := key ij.1 h1 ij.2 h2
          exact ⟨q, fun _ _ => hq⟩
        · exact ⟨0, fun _ h => absurd h h2⟩
      · exact ⟨0, fun h => absurd h h1⟩
    obtain ⟨z, hz⟩ := Classical.axiomOfChoice key2
    refine ⟨_, len, _, fun i j => z (i, j), rfl, hl, hm, fun hn => ?_, fun i hi j hj => (hz (i, j) hi hj).2⟩
    have hq0 := (hz (0, 0) hn hpos).1
    obtain ⟨b, off, spot⟩ := x
    have hs : spot = none := by
      have := World.cell?_spot hq0
      simpa [Addr.add] using this
    subst hs
    have ea : ∀ i, (⟨b, off, none⟩ : Addr).add i = ⟨b, off + i, none⟩ := by
      intro i
      unfold Addr.add
      split
      · rename_i h0
        subst h0
        rfl
      · rfl
    refine ⟨b, off, rfl, by have := World.block_lt_of_cell? W _ hq0; simpa [Addr.add] using this, fun i hil j hj => ?_⟩
    have hk := (hz (i, j) hil hj).1
    rw [ea] at hk
    rw [Nat.add_assoc]
    exact hk
namespace Cm
theorem cmd_info : (Try.prog.info? 24).map (fun i => (i.zero, i.size, i.bytes)) = some (some (.agg #[.int .i64 0, .int .i64 0, .int .i64 0, .int .i64 0, .int .i64 0, .int .i64 0, .int .i64 0]), 7, 56) := by kernel_rfl
open Classical in
/-- The commands that are right among the first k. -/
noncomputable def rights (c : Nat → Cd) : Nat → List Cd
  | 0 => []
  | k + 1 => if right (c k) then rights c k ++ [c k] else rights c k
theorem rights_yes {c : Nat → Cd} {k : Nat} (h : right (c k)) : rights c (k + 1) = rights c k ++ [c k] := by simp [rights, h]
theorem rights_not {c : Nat → Cd} {k : Nat} (h : ¬ right (c k)) : rights c (k + 1) = rights c k := by simp [rights, h]
theorem rights_right (c : Nat → Cd) : ∀ k, ∀ x ∈ rights c k, right x
  | 0 => by simp [rights]
  | k + 1 => by
    intro x hx
    by_cases h : right (c k)
    · rw [rights_yes h] at hx
      rcases List.mem_append.1 hx with hx | hx
      · exact rights_right c k x hx
      · simp at hx; rw [hx]; exact h
    · rw [rights_not h] at hx
      exact rights_right c k x hx
theorem rights_len (c : Nat → Cd) : ∀ k, (rights c k).length ≤ k
  | 0 => by simp [rights]
  | k + 1 => by
    have := rights_len c k
    by_cases h : right (c k)
    · rw [rights_yes h]; simp; omega
    · rw [rights_not h]; omega
/-- The bytes of commands. -/
def bytesOf (L : List Cd) : List Int := (L.map put).flatten
/-- The cells of what is read from them. -/
def cellsOf (L : List Cd) : List Value := (L.map fun c => (clean c).cells).flatten
theorem bytes_app (L : List Cd) (c : Cd) : bytesOf (L ++ [c]) = bytesOf L ++ put c := by simp [bytesOf]
theorem cells_app (L : List Cd) (c : Cd) : cellsOf (L ++ [c]) = cellsOf L ++ (clean c).cells := by simp [cellsOf]
theorem put_le (c : Cd) : 1 ≤ (put c).length ∧ (put c).length ≤ 5 := by have := put_len c; have := need_le c.op; omega
theorem bytes_le (L : List Cd) : (bytesOf L).length ≤ 5 * L.length := by
  induction L with
  | nil => simp [bytesOf]
  | cons c L ih =>
    have := (put_le c).2
    simp [bytesOf] at ih ⊢
    omega
theorem cells_len (L : List Cd) : (cellsOf L).length = L.length * 7 := by
  induction L with
  | nil => simp [cellsOf]
  | cons c L ih =>
    have : (clean c).cells.length = 7 := rfl
    simp [cellsOf] at ih ⊢
    omega
theorem bytes_ok {L : List Cd} (h : ∀ x ∈ L, right x) : ∀ x ∈ bytesOf L, 0 ≤ x ∧ x ≤ 255 := by
  intro x hx
  unfold bytesOf at hx
  obtain ⟨l, hl, hx⟩ := List.mem_flatten.1 hx
  obtain ⟨c, hc, rfl⟩ := List.mem_map.1 hl
  exact put_bytes c (h c hc) x hx
theorem cells_get : ∀ (L : List Cd) (k j : Nat), k < L.length → j < 7 → (cellsOf L)[k * 7 + j]? = (clean (L.getD k zero)).cells[j]?
  | [], k, j, h, _ => by simp at h
  | c :: L, 0, j, h, hj => by
    have h7 : (clean c).cells.length = 7 := rfl
    have e : cellsOf (c :: L) = (clean c).cells ++ cellsOf L := by simp [cellsOf]
    rw [e, List.getElem?_append_left (by omega), Nat.zero_mul, Nat.zero_add]
    rfl
  | c :: L, k + 1, j, h, hj => by
    have h7 : (clean c).cells.length = 7 := rfl
    have ih := cells_get L k j (by simpa using h) hj
    have e : cellsOf (c :: L) = (clean c).cells ++ cellsOf L := by simp [cellsOf]
    rw [e, List.getElem?_append_right (by omega), h7, show (k + 1) * 7 + j - 7 = k * 7 + j by omega, ih]
    simp
/-- Where each one ends, and what is read there. -/
theorem row_facts (L : List Cd) (h : ∀ x ∈ L, right x) : ∃ (f : Nat → Nat) (d : Nat → Cd), f 0 = 0 ∧ f L.length = (bytesOf L).length ∧
    ∀ k, k < L.length → readV (bytesOf L).length (fun i => (bytesOf L).getD i 0) (f k) = (d k, (f (k + 1) : Int), 0) ∧ f k < f (k + 1) ∧ ∀ j, j < 7 → (cellsOf L)[k * 7 + j]? = (d k).cells[j]? := by
  refine ⟨fun k => (bytesOf (L.take k)).length, fun k => clean (L.getD k zero), by simp [bytesOf], by simp, fun k hk => ?_⟩
  have e1 : L.take (k + 1) = L.take k ++ [L.getD k zero] := by
    rw [List.take_add_one, List.getD_eq_getElem?_getD, List.getElem?_eq_getElem hk]
    rfl
  have e2 : L = L.take k ++ (L.getD k zero :: L.drop (k + 1)) := by
    rw [List.getD_eq_getElem?_getD, List.getElem?_eq_getElem hk, Option.getD_some, List.getElem_cons_drop, List.take_append_drop]
  have e3 : bytesOf L = bytesOf (L.take k) ++ (put (L.getD k zero) ++ bytesOf (L.drop (k + 1))) := by
    conv => lhs; rw [e2]
    simp [bytesOf]
  have hr : right (L.getD k zero) := by
    refine h _ ?_
    rw [List.getD_eq_getElem?_getD, List.getElem?_eq_getElem hk, Option.getD_some]
    exact List.getElem_mem hk
  have hl := put_le (L.getD k zero)
  have e4 : (bytesOf (L.take (k + 1))).length = (bytesOf (L.take k)).length + (put (L.getD k zero)).length := by rw [e1, bytes_app, List.length_append]
  refine ⟨?_, by show (bytesOf (L.take k)).length < (bytesOf (L.take (k + 1))).length; omega, fun j hj => cells_get L k j hk hj⟩
  show readV (bytesOf L).length (fun i => (bytesOf L).getD i 0) ((bytesOf (L.take k)).length : Nat) = (clean (L.getD k zero), ((bytesOf (L.take (k + 1))).length : Int), 0)
  rw [readV_put (L.getD k zero) hr (bytesOf L).length _ (bytesOf (L.take k)).length (by rw [e3]; simp only [List.length_append]; omega) (fun j hj => by
    rw [e3]
    exact cmdBackW.getD_mid _ _ _ _ j rfl hj), e4]
  simp only [Int.natCast_add]
theorem readV_end (N : Nat) (z : Nat → Int) : readV N z N = (zero, 0, 10) := by
  unfold readV
  rw [if_neg (by omega), if_pos rfl]
/-- What holds behind the first loop's rounds. -/
def Rows2 (w0 w : World) (L : List Cd) (vb va : Value) : Prop :=
  w.ownsRow w0.heap.size 5 1 vb (bytesOf L).length (nums .u8 (bytesOf L)) ∧ w.ownsRow w0.heap.size 24 7 va L.length (cellsOf L) ∧ Below w0.heap.size w0 w
/-- Two rows of other types lie apart. -/
theorem rows_apart {w : World} {b1 b2 : Nat} {e1 e2 : TypeId} {s1 s2 n1 n2 : Nat} {v1 v2 : Value} {x1 x2 : List Value} (h1 : w.ownsRow b1 e1 s1 v1 n1 x1) (h2 : w.ownsRow b2 e2 s2 v2 n2 x2) (hne : e1 ≠ e2) : v1.ownBlock = none ∨ v1.ownBlock ≠ v2.ownBlock := by
  rcases h1.2 with ⟨rfl, _⟩ | ⟨g, cap, cur, rfl, _, hg, _⟩
  · exact .inl rfl
  · refine .inr fun e => ?_
    rcases h2.2 with ⟨rfl, _⟩ | ⟨g', cap', cur', rfl, _, hg', _⟩
    · simp [Value.ownBlock] at e
    · have : g = g' := by simpa [Value.ownBlock] using e
      subst this
      rw [hg] at hg'
      simp at hg'
      exact hne hg'.2
/-- The structs of a row, as cells. -/
theorem own_rd7 {w : World} {base : Nat} {e : TypeId} {v : Value} {n : Nat} {xs : List Value} (h : w.ownsRow base e 7 v n xs) :
    ∃ A c, v = .slice A n c ∧ n ≤ c ∧ c ≤ maxLen ∧ (0 < n → ∃ b off, A = some ⟨b, off, none⟩ ∧ b < w.heap.size ∧ ∀ j u, xs[j]? = some u → w.cell? ⟨b, off + j, none⟩ = some u) := by
  have hc := fun g => h.cells (g := g)
  rcases h.2 with ⟨rfl, rfl⟩ | ⟨g, cap, cur, rfl, hb, hg, hn, hm, hs, ht⟩
  · exact ⟨none, 0, rfl, Nat.le_refl _, by unfold maxLen; omega, fun hn => absurd hn (by omega)⟩
  · refine ⟨_, cap, rfl, hn, hm, fun hn0 => ⟨g, 0, rfl, (Array.getElem?_eq_some_iff.1 hg).1, fun j u hj => ?_⟩⟩
    have := hc g rfl j u hj
    have ea : (⟨g, 0, none⟩ : Addr).add j = ⟨g, 0 + j, none⟩ := by
      unfold Addr.add
      split
      · rename_i h0; subst h0; rfl
      · rfl
    rwa [ea] at this
end Cm
end Go.Proofs.Ytbhfbdldehahoaa
