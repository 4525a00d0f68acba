/- CmdBack: the cases joined. -/
import Derived.Test.YtbhfbdldehahoaaCmdBack
namespace Go.Proofs.Ytbhfbdldehahoaa
open Go.ChangeShapes Go.WideShapes Go.ChangeAt Go.RowKit Go.Proofs.Ytbhfbdldehahoaa.Cm
set_option linter.unusedVariables false
set_option linter.unusedSimpArgs false
namespace cmdBackW
/-- A slice of bytes that came in. -/
theorem open_bytes {H : Type} {enc : TypeId × Value → H} {P : Program} {W : World} {base : Nat} {t e : TypeId} {v : Value} {d : DataW H} {p : List MemPlace}
    (ht : P.underlying t = some (.slice e)) (he : P.underlying e = some (.int .u8)) (hc : P.cellsOf e = 1)
    (o : Value.okWide P W .any base t v) (h : DataW.Trod enc P W 0 (fun _ => true) true t v d p) :
    ∃ A len cap, ∃ l : List Int, v = .slice A len cap ∧ Sl W 0 A len cap l ∧ (A = none → cap = 0) ∧ ∀ x ∈ l, 0 ≤ x ∧ x ≤ 255 := by
  obtain ⟨A, len, cap, z, rfl, hl, hm, hr, hz⟩ := open_rd ht he hc o h
  obtain ⟨l, hs, hb⟩ := sl_in hl hm hr (fun i hi => wf_u8 (hz i hi))
  refine ⟨A, len, cap, l, rfl, hs, ?_, hb⟩
  rintro rfl
  obtain ⟨fuel, hf⟩ := h
  rcases open_ints ht he hc hf with ⟨hcs, _⟩ | ⟨x, l, c, zs, hcs, _⟩
  · simp [Value.cells] at hcs
    exact hcs.2
  · simp [Value.cells] at hcs
set_option maxRecDepth 100000 in
set_option maxHeartbeats 2000000 in
theorem long_a (w : World) (c : Cd) (Aa : Option Addr) (na ca : Nat) (Ab : Option Addr) (nb cb : Nat) (h : 200 < na) :
    Calls Try.prog 5 #[c.v, .slice Aa na ca, .slice Ab nb cb] w fun e w' => e = .returned (.bool true) ∧ Below w.heap.size w w' := by
  have d1 : decide ((200 : Int) < na) = true := by simp; omega
  go_enter Try.func5, Try.ntmps5
  go_wp2_with fail
  go_ret
  exact ⟨rfl, below_of_gb (gb_alloc (gb_refl w none) _)⟩
set_option maxRecDepth 100000 in
set_option maxHeartbeats 2000000 in
theorem long_b (w : World) (c : Cd) (Aa : Option Addr) (na ca : Nat) (Ab : Option Addr) (nb cb : Nat) (h0 : na ≤ 200) (h : 200 < nb) :
    Calls Try.prog 5 #[c.v, .slice Aa na ca, .slice Ab nb cb] w fun e w' => e = .returned (.bool true) ∧ Below w.heap.size w w' := by
  have d1 : decide ((200 : Int) < na) = false := by simp; omega
  have d2 : decide ((200 : Int) < nb) = true := by simp; omega
  go_enter Try.func5, Try.ntmps5
  go_wp2_with fail
  go_ret
  exact ⟨rfl, below_of_gb (gb_alloc (gb_refl w none) _)⟩
theorem take_range (l : List Int) (k : Nat) (h : k ≤ l.length) : (List.range k).map (fun i => l.getD i 0) = l.take k := by
  apply List.ext_getElem
  · simp [h]
  · intro i h1 h2
    simp at h1
    simp [List.getD_eq_getElem?_getD, List.getElem?_eq_getElem (show i < l.length by omega)]
theorem dec_fits (z : Nat → Int) (hz : ∀ i, 0 ≤ z i ∧ z i ≤ 255) : -9223372036854775808 ≤ (dec z 0).words ∧ (dec z 0).words ≤ 9223372036854775807 ∧ -9223372036854775808 ≤ (dec z 0).many ∧ (dec z 0).many ≤ 9223372036854775807 := by
  have a1 := hz 1
  have a2 := hz 2
  have a3 := hz 3
  have a4 := hz 4
  unfold dec
  simp only [Nat.zero_add]
  split
  · dsimp only; omega
  split
  · dsimp only; omega
  split
  · dsimp only; omega
  repeat (split <;> try (dsimp only; omega))
theorem walk {H : Type} {enc : TypeId × Value → H} (base : Nat) (W : World) (v0 : Value) (d0 : DataW H) (p0 : List MemPlace) (v1 : Value) (d1 : DataW H) (p1 : List MemPlace) (v2 : Value) (d2 : DataW H) (p2 : List MemPlace)
    (o0 : Value.okWide Try.prog W .any base 24 v0) (o1 : Value.okWide Try.prog W .any base 22 v1) (o2 : Value.okWide Try.prog W .any base 22 v2)
    (h0 : DataW.Trod enc Try.prog W 0 (fun _ => true) true 24 v0 d0 p0) (h1 : DataW.Trod enc Try.prog W 0 (fun _ => true) true 22 v1 d1 p1) (h2 : DataW.Trod enc Try.prog W 0 (fun _ => true) true 22 v2 d2 p2) :
    Calls Try.prog 5 #[v0, v1, v2] W fun e w' => e = .returned (.bool true) ∧ Below W.heap.size W w' := by
  obtain ⟨c, rfl, _, _, f2, _, f4, _, _⟩ := open_cd Try.underlying24 (by kernel_rfl) (by kernel_rfl) Try.underlying3 Try.underlying3 Try.underlying3 Try.underlying3 Try.underlying3 Try.underlying3 Try.underlying3 o0 h0
  obtain ⟨Aa, na, ca, la, rfl, ha, hAa, hxa⟩ := open_bytes Try.underlying22 Try.underlying5 (by kernel_rfl) o1 h1
  obtain ⟨Ab, nb, cb, lb, rfl, hb, hAb, hxb⟩ := open_bytes Try.underlying22 Try.underlying5 (by kernel_rfl) o2 h2
  rcases Nat.lt_or_ge 200 na with hna | hna
  · exact long_a W c Aa na ca Ab nb cb hna
  rcases Nat.lt_or_ge 200 nb with hnb | hnb
  · exact long_b W c Aa na ca Ab nb cb hna hnb
  have hz : ∀ i, 0 ≤ (fun i => lb.getD i 0) i ∧ (fun i => lb.getD i 0) i ≤ 255 := fun i => getD_bytes hxb i
  by_cases he : (readV nb (fun i => lb.getD i 0) 0).2.2 = 0
  · obtain ⟨q1, q2, q3, q4⟩ := readV_back nb (fun i => lb.getD i 0) hz he
    have hp := put_dec (fun i => lb.getD i 0) q1 (hz 0).1 q2 hz
    have hf := dec_fits (fun i => lb.getD i 0) hz
    rw [take_range lb _ (by rw [hb.len]; exact q3)] at hp
    have q4' : readV nb (fun i => lb.getD i 0) 0 = (dec (fun i => lb.getD i 0) 0, ((1 + need ((fun i => lb.getD i 0) 0) : Nat) : Int), 0) := by
      rw [q4]; simp
    by_cases hr : right c
    · exact yes_r W c Aa na ca la Ab nb cb lb f2.1 f2.2 f4.1 f4.2 ha hb hna hnb hAa hAb hxa hxb hr _ _ q4' ⟨q1, hf⟩ q3 (by omega) hp
    · exact not_r W c Aa na ca la Ab nb cb lb f2.1 f2.2 f4.1 f4.2 ha hb hna hnb hAa hAb hxa hxb hr _ _ q4' ⟨q1, hf⟩ q3 (by omega) hp
  · by_cases hr : right c
    · exact yes_n W c Aa na ca la Ab nb cb lb f2.1 f2.2 f4.1 f4.2 ha hb hna hnb hAa hAb hxa hxb hr he
    · exact not_n W c Aa na ca la Ab nb cb lb f2.1 f2.2 f4.1 f4.2 ha hb hna hnb hAa hAb hxa hxb hr he
end cmdBackW
end Go.Proofs.Ytbhfbdldehahoaa
