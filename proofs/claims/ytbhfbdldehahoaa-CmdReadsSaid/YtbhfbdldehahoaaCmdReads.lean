/- CmdReads. -/
import Derived.Test.YtbhfbdldehahoaaCmdI
namespace Go.Proofs.Ytbhfbdldehahoaa
open Go.ChangeShapes Go.WideShapes Go.ChangeAt Go.RowKit Go.Proofs.Ytbhfbdldehahoaa.Cm
set_option linter.unusedVariables false
set_option linter.unusedSimpArgs false
namespace cmdReadsW
set_option maxHeartbeats 400000 in
theorem long_list (w : World) (A : Option Addr) (n c : Nat) (i : Int) (hl : 2000 < n) : Calls Try.prog 3 #[.slice A n c, .int .i64 i] w fun e w' => e = .returned (.bool true) ∧ Below w.heap.size w w' := by
  have d1 : decide ((2000 : Int) < n) = true := by simp; omega
  go_enter Try.func3, Try.ntmps3
  go_wp2
  go_ret
  exact ⟨rfl, Below.refl _ _⟩
set_option maxRecDepth 100000 in
set_option maxHeartbeats 4000000 in
theorem walk_any (w : World) (A : Option Addr) (n c : Nat) (i : Int) (l : List Int) (h : Sl w 0 A n c l) (hb : ∀ x ∈ l, 0 ≤ x ∧ x ≤ 255) (hl : n ≤ 2000) :
    Calls Try.prog 3 #[.slice A n c, .int .i64 i] w fun e w' => e = .returned (.bool true) ∧ Below w.heap.size w w' := by
  have d1 : decide ((2000 : Int) < n) = false := by simp; omega
  have hrd := fun w' : World => rread_any w' (strOfNums l) i (by rw [strOfNums_size, h.len]; omega)
  rw [strOfNums_size, bz_str hb, h.len] at hrd
  have hrd2 := read_sl w A n c l i h hb
  generalize readV n (fun i => l.getD i 0) i = V at hrd hrd2
  obtain ⟨k, m, er⟩ := V
  go_enter Try.func3, Try.ntmps3
  go_wp2_with fail
  refine hrd2.mono ?_
  rintro e w1 ⟨rfl, hg⟩
  have hcv := ((h.kept hg).kept (gb_alloc (gb_refl w1 none) (.cells #[.int .i64 k.op, .int .i64 k.addr, .int .i64 k.words, .int .i64 k.cand, .int .i64 k.many, .int .i64 k.bits, .int .i64 k.at_] 24))).conv Try.underlying22 Try.underlying5 Try.underlying9
  have HC := Lib.hid (Blk.new w1 24 k.cells)
  clear hrd2
  go_wp2_with fail
  refine (hrd _).mono ?_
  rintro e w2 ⟨rfl, hg2⟩
  have HC2 := HC.out.kept hg2 (by simp)
  have hW := gb_trans (gb_alloc hg _) hg2
  clear hrd hcv HC hg hg2 hb h
  go_upto_region 5 with (fail)
  have hC3 := HC2.alloc (.cells #[.int .i64 k.op, .int .i64 k.addr, .int .i64 k.words, .int .i64 k.cand, .int .i64 k.many, .int .i64 k.bits, .int .i64 k.at_] 28)
  have hR3 := Blk.new w2 28 k.cells
  have hc0 := fun x : New (w2.alloc (.cells #[.int .i64 k.op, .int .i64 k.addr, .int .i64 k.words, .int .i64 k.cand, .int .i64 k.many, .int .i64 k.bits, .int .i64 k.at_] 28)) => (hC3.kept x.ok (by simp)).cell 0 _ rfl
  have hc1 := fun x : New (w2.alloc (.cells #[.int .i64 k.op, .int .i64 k.addr, .int .i64 k.words, .int .i64 k.cand, .int .i64 k.many, .int .i64 k.bits, .int .i64 k.at_] 28)) => (hC3.kept x.ok (by simp)).cell 1 _ rfl
  have hc2 := fun x : New (w2.alloc (.cells #[.int .i64 k.op, .int .i64 k.addr, .int .i64 k.words, .int .i64 k.cand, .int .i64 k.many, .int .i64 k.bits, .int .i64 k.at_] 28)) => (hC3.kept x.ok (by simp)).cell 2 _ rfl
  have hc3 := fun x : New (w2.alloc (.cells #[.int .i64 k.op, .int .i64 k.addr, .int .i64 k.words, .int .i64 k.cand, .int .i64 k.many, .int .i64 k.bits, .int .i64 k.at_] 28)) => (hC3.kept x.ok (by simp)).cell 3 _ rfl
  have hc4 := fun x : New (w2.alloc (.cells #[.int .i64 k.op, .int .i64 k.addr, .int .i64 k.words, .int .i64 k.cand, .int .i64 k.many, .int .i64 k.bits, .int .i64 k.at_] 28)) => (hC3.kept x.ok (by simp)).cell 4 _ rfl
  have hc5 := fun x : New (w2.alloc (.cells #[.int .i64 k.op, .int .i64 k.addr, .int .i64 k.words, .int .i64 k.cand, .int .i64 k.many, .int .i64 k.bits, .int .i64 k.at_] 28)) => (hC3.kept x.ok (by simp)).cell 5 _ rfl
  have hc6 := fun x : New (w2.alloc (.cells #[.int .i64 k.op, .int .i64 k.addr, .int .i64 k.words, .int .i64 k.cand, .int .i64 k.many, .int .i64 k.bits, .int .i64 k.at_] 28)) => (hC3.kept x.ok (by simp)).cell 6 _ rfl
  have hr0 := fun x : New (w2.alloc (.cells #[.int .i64 k.op, .int .i64 k.addr, .int .i64 k.words, .int .i64 k.cand, .int .i64 k.many, .int .i64 k.bits, .int .i64 k.at_] 28)) => (hR3.kept x.ok (by simp)).cell 0 _ rfl
  have hr1 := fun x : New (w2.alloc (.cells #[.int .i64 k.op, .int .i64 k.addr, .int .i64 k.words, .int .i64 k.cand, .int .i64 k.many, .int .i64 k.bits, .int .i64 k.at_] 28)) => (hR3.kept x.ok (by simp)).cell 1 _ rfl
  have hr2 := fun x : New (w2.alloc (.cells #[.int .i64 k.op, .int .i64 k.addr, .int .i64 k.words, .int .i64 k.cand, .int .i64 k.many, .int .i64 k.bits, .int .i64 k.at_] 28)) => (hR3.kept x.ok (by simp)).cell 2 _ rfl
  have hr3 := fun x : New (w2.alloc (.cells #[.int .i64 k.op, .int .i64 k.addr, .int .i64 k.words, .int .i64 k.cand, .int .i64 k.many, .int .i64 k.bits, .int .i64 k.at_] 28)) => (hR3.kept x.ok (by simp)).cell 3 _ rfl
  have hr4 := fun x : New (w2.alloc (.cells #[.int .i64 k.op, .int .i64 k.addr, .int .i64 k.words, .int .i64 k.cand, .int .i64 k.many, .int .i64 k.bits, .int .i64 k.at_] 28)) => (hR3.kept x.ok (by simp)).cell 4 _ rfl
  have hr5 := fun x : New (w2.alloc (.cells #[.int .i64 k.op, .int .i64 k.addr, .int .i64 k.words, .int .i64 k.cand, .int .i64 k.many, .int .i64 k.bits, .int .i64 k.at_] 28)) => (hR3.kept x.ok (by simp)).cell 5 _ rfl
  have hr6 := fun x : New (w2.alloc (.cells #[.int .i64 k.op, .int .i64 k.addr, .int .i64 k.words, .int .i64 k.cand, .int .i64 k.many, .int .i64 k.bits, .int .i64 k.at_] 28)) => (hR3.kept x.ok (by simp)).cell 6 _ rfl
  clear HC2 hC3 hR3
  haveI hnw := new_ne (w2.alloc (.cells #[.int .i64 k.op, .int .i64 k.addr, .int .i64 k.words, .int .i64 k.cand, .int .i64 k.many, .int .i64 k.bits, .int .i64 k.at_] 28))
  refine new_start fun x => ?_
  refine wp_region_later (by kernel_rfl) (by kernel_rfl) ?_
  repeat (go_big_quiet_step ((first | (go_at_call 9; exact new_gb (own_any _ _)) | (go_at_call 10; exact new_gb (one_any _)))))
  refine wpQuiet_nil ?_
  intro _ hw'
  obtain ⟨y, hw''⟩ := hw'
  subst hw''
  go_wp2_with fail
  go_ret
  exact ⟨rfl, below_of_gb (gb_trans hW (new_end _))⟩
theorem walk {H : Type} {enc : TypeId × Value → H} (base : Nat) (W : World) (v0 : Value) (d0 : DataW H) (p0 : List MemPlace) (v1 : Value) (d1 : DataW H) (p1 : List MemPlace)
    (o0 : Value.okWide Try.prog W .any base 22 v0) (o1 : Value.okWide Try.prog W .any base 3 v1)
    (h0 : DataW.Trod enc Try.prog W 0 (fun _ => true) true 22 v0 d0 p0) (h1 : DataW.Trod enc Try.prog W 0 (fun _ => true) true 3 v1 d1 p1) :
    Calls Try.prog 3 #[v0, v1] W fun e w' => e = .returned (.bool true) ∧ Below W.heap.size W w' := by
  obtain ⟨g, rfl, rfl, rfl, wn⟩ := open_int Try.underlying3 o1 h1
  obtain ⟨A, len, cap, z, rfl, hl, hm, hr, hz⟩ := open_rd Try.underlying22 Try.underlying5 (by kernel_rfl) o0 h0
  by_cases h : len ≤ 2000
  · obtain ⟨l, hs, hb⟩ := sl_in hl hm hr (fun i hi => wf_u8 (hz i hi))
    exact walk_any W A len cap g l hs hb h
  · exact long_list W A len cap g (by omega)
end cmdReadsW
end Go.Proofs.Ytbhfbdldehahoaa
