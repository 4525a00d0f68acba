/- Images: the contract of Put. -/
import Derived.Test.YtifnmnchpgbimaaImgB
import Derived.Test.YtifnmnchpgbimaaImgS
import Derived.Deep.RegionHeld3
import Derived.Laws.OwnMore
namespace Go.Proofs.Ytifnmnchpgbimaa
open Go.RowKit Go.Joins
set_option linter.unusedVariables false
set_option linter.unusedSimpArgs false
namespace Im
open Cm
attribute [local go_sem] alloc_drewN' setCell_drewN'
theorem gb_of_below {w w' : World} (h : Below w.heap.size w w') : w.grownBy w' none := ⟨h.os, h.tape, h.output, h.size, fun k hk _ => h.block k hk⟩
theorem below_of_gb {w w' : World} (h : w.grownBy w' none) : Below w.heap.size w w' := gb_below h (Nat.le_refl _) (by simp)
/-- An image's bytes but for its sum. -/
def body (m : Mg) (l : List Int) : List Int := [84, 49, m.who] ++ [m.e0 / 256, m.e0 % 256] ++ [m.e1 / 256, m.e1 % 256] ++ [(l.length : Int) / 256, (l.length : Int) % 256] ++ l
/-- An image's bytes. -/
def putI (m : Mg) (l : List Int) : List Int := body m l ++ [(crc (body m l) : Int) / 256, (crc (body m l) : Int) % 256]
theorem body_len (m : Mg) (l : List Int) : (body m l).length = 9 + l.length := by simp [body]; omega
theorem putI_len (m : Mg) (l : List Int) : (putI m l).length = 11 + l.length := by simp [putI, body_len]; omega
theorem body_bytes (m : Mg) (l : List Int) (hr : right m l.length) (hl : ∀ x ∈ l, 0 ≤ x ∧ x ≤ 255) : ∀ x ∈ body m l, 0 ≤ x ∧ x ≤ 255 := by
  intro x hx
  unfold right at hr
  unfold body at hx
  simp at hx
  rcases hx with h | h | h | h | h | h | h | h | h | h
  all_goals first | exact hl x h | omega
theorem putI_bytes (m : Mg) (l : List Int) (hr : right m l.length) (hl : ∀ x ∈ l, 0 ≤ x ∧ x ≤ 255) : ∀ x ∈ putI m l, 0 ≤ x ∧ x ≤ 255 := by
  intro x hx
  have := crc_lt (body m l)
  unfold putI at hx
  rw [List.mem_append] at hx
  rcases hx with h | h
  · exact body_bytes m l hr hl x h
  · simp at h
    omega
theorem Sl.mono0 {w : World} {base n c : Nat} {A : Option Addr} {l : List Int} (h : Sl w base A n c l) : Sl w 0 A n c l :=
  ⟨h.len, h.le, h.cap, fun hn => by obtain ⟨b, off, e, h1, h2, h3⟩ := h.rd hn; exact ⟨b, off, e, Nat.zero_le _, h2, h3⟩⟩
theorem Sl.mono {w : World} {base b2 n c : Nat} {A : Option Addr} {l : List Int} (h : Sl w base A n c l) (hb : b2 ≤ base) : Sl w b2 A n c l :=
  ⟨h.len, h.le, h.cap, fun hn => by obtain ⟨b, off, e, h1, h2, h3⟩ := h.rd hn; exact ⟨b, off, e, by omega, h2, h3⟩⟩
theorem below_mono {B B' : Nat} {w w' : World} (h : Below B w w') (hB : B' ≤ B) : Below B' w w' := by
  obtain ⟨h1, h2, h3, h4, h5⟩ := h
  exact ⟨h1, h2, h3, h4, fun k hk => h5 k (by omega)⟩
/-- A slice of one slice of bytes. -/
theorem sls_one (w : World) (A : Option Addr) (n c : Nat) (l : List Int) (h : Sl w 0 A n c l) (hb : ∀ x ∈ l, 0 ≤ x ∧ x ≤ 255) (e : TypeId) :
    Sls (w.alloc (.cells #[.slice A n c] e)) (some ⟨w.heap.size, 0, none⟩) 1 1 (fun _ => A) (fun _ => n) (fun _ => c) (fun _ => l) :=
  ⟨Nat.le_refl _, by omega, fun _ => ⟨_, 0, rfl, fun i hi => by
    have hi0 : i = 0 := by omega
    subst hi0
    exact (Blk.new w e [.slice A n c]).cell 0 _ rfl⟩, fun _ _ => h.kept (gb_alloc (gb_refl _ _) _), fun _ _ => hb⟩
theorem upto_one (l : List Int) : upto (fun _ => l) 1 = l := by simp [upto, List.range_succ]
/-- append to a slice that is full: a row of the call's own. -/
theorem run_append_full {P : Program} (w : World) (base : Nat) (t ty e : TypeId) (i : TypeInfo) (z : Value) (size bytes : Nat) (ht : P.underlying t = some (.slice e)) (hi : P.info? e = some i) (hz : i.zero = some z)
    (hsize : i.size = size) (hby : i.bytes = bytes) (hzs : z.cells.size = size) (b : Addr) (n : Nat) (olds : List Value) (hlo : olds.length = n * size) (holds : ∀ j u, olds[j]? = some u → w.cell? (b.add j) = some u)
    (a : Addr) (m c : Nat) (news : List Value) (hl : news.length = m * size) (hnews : ∀ j u, news[j]? = some u → w.cell? (a.add j) = some u) (hm : 0 < m)
    (h63 : n + m ≤ maxLen) (hbytes : (n + m) * bytes ≤ 140737488355328) (hbase : base ≤ w.heap.size) :
    ∃ v' w', (Builtin.append_ #[t, t] ty #[.slice (some b) n n, .slice (some a) m c]).run P w = .ok v' w' ∧ w'.ownsRow base e size v' (n + m) (olds ++ news) ∧ w.grownBy w' none := by
  subst hsize
  subst hby
  have hr := run_append_grow (P := P) w t ty e i z ht hi hz b n n olds hlo holds a m c news hl hnews (by omega) (by unfold maxLen at h63; omega) (growslice_fits (by omega) hbytes)
  have hge := grownCap_ge w (n + m) n e
  have hcm : grownCap w (n + m) n e ≤ maxLen := grownCap_le_maxLen w (n + m) n e h63
  have hlen : (olds ++ news).length = (n + m) * i.size := by rw [List.length_append, hlo, hl, Nat.add_mul]
  refine ⟨_, _, hr, ⟨hlen, .inr ⟨w.heap.size, _, _, rfl, hbase, heap_alloc_new w.drew _, hge, hcm, ?_, ?_⟩⟩, ⟨rfl, rfl, rfl, by simp, fun k hk _ => Below.heap_alloc _ _ _ hk⟩⟩
  · simp only [Array.size_append, List.size_toArray, size_zeroCells, hzs, hlo, hl, ← Nat.add_mul]
    congr 1
    omega
  · simp only [Array.toList_append, List.append_assoc]
    rw [← List.append_assoc, ← hlen]
    exact List.take_left
theorem wpList_append_full {P : Program} (w : World) {ops : Array Oper} {rest : List Oper} {o : Oper} {a : Act} {Q : Exit → Act → World → Prop} (hgd : o.guard = none) (s x : Operand) (t : TypeId)
    (ho : o.op = .call { callee := .builtin .append, args := #[s, x], argTypes := #[t, t] })
    (base : Nat) (e : TypeId) (i : TypeInfo) (z : Value) (size bytes : Nat) (ht : P.underlying t = some (.slice e)) (hi : P.info? e = some i) (hz : i.zero = some z)
    (hsize : i.size = size) (hby : i.bytes = bytes) (hzs : z.cells.size = size) (b : Addr) (n : Nat) (olds : List Value) (hs : a.eval s = .slice (some b) n n) (hlo : olds.length = n * size) (holds : ∀ j u, olds[j]? = some u → w.cell? (b.add j) = some u)
    (ad : Addr) (m c : Nat) (news : List Value) (hx : a.eval x = .slice (some ad) m c) (hl : news.length = m * size) (hnews : ∀ j u, news[j]? = some u → w.cell? (ad.add j) = some u) (hm : 0 < m)
    (h63 : n + m ≤ maxLen) (hbytes : (n + m) * bytes ≤ 140737488355328) (hbase : base ≤ w.heap.size)
    (h : ∀ v' w', w'.ownsRow base e size v' (n + m) (olds ++ news) → w.grownBy w' none → wpList P ops Q rest (a.put o.dst v') w') : wpList P ops Q (o :: rest) a w :=
  wpList_plain hgd fun K hK => by
    obtain ⟨v', w', hr, h2, h3⟩ := run_append_full (P := P) w base t o.type e i z size bytes ht hi hz hsize hby hzs b n olds hlo holds ad m c news hl hnews hm h63 hbytes hbase
    unfold Oper.wp execOp
    simp only [ho, resolve, invoke, builtin, Sem.run_bind, Sem.run_pure, Result.andThen_ok, List.map_toArray, List.map_cons, List.map_nil, hs, hx, hr]
    exact hK _ _ (h v' w' h2 h3)
theorem cells_newm (w : World) (o : Obj) (e : TypeId) (x : Int) : ∀ (j : Nat) (u : Value), [Value.int .u8 x][j]? = some u → ((w.alloc o).alloc (.cells #[.int .u8 x] e)).cell? ((⟨w.heap.size + 1, 0, none⟩ : Addr).add j) = some u := by
  have := cells_new (w.alloc o) e [.int .u8 x]
  simpa using this
/-- []byte(a constant). -/
theorem kc (w : World) (C : Array Value) (n c g : Nat) (hg : g = w.heap.size) : (convert 23 23 (.slice (some ⟨g, 0, none⟩) n c)).run Try.prog (w.alloc (.cells C 5)) = .ok (.slice (some ⟨g, 0, none⟩) n c) (w.alloc (.cells C 5 (C.size, C.size + 1))) :=
  run_convert_bytes_const_at w _ _ C n c g hg Try.underlying23 Try.underlying5
theorem own_ne {w : World} {base : Nat} {e : TypeId} {size : Nat} {v : Value} {n : Nat} {xs : List Value} (h : w.ownsRow base e size v n xs) : v.ownBlock = none ∨ v.ownBlock ≠ none := by
  cases v.ownBlock
  · exact .inl rfl
  · exact .inr (by simp)
theorem keep3 {w w' : World} {B : Nat} {a b c : Value} {base : Nat} {e : TypeId} {size k : Nat} {v : Value} {xs : List Value} (h : w.cell? ⟨B, 1, none⟩ = some a ∧ w.cell? ⟨B, 2, none⟩ = some b ∧ w.cell? ⟨B, 3, none⟩ = some c)
    (ho : w.ownsRow base e size v k xs) (hB : B < base) (hg : w.grownBy w' v.ownBlock) : w'.cell? ⟨B, 1, none⟩ = some a ∧ w'.cell? ⟨B, 2, none⟩ = some b ∧ w'.cell? ⟨B, 3, none⟩ = some c := by
  have hne : some B ≠ v.ownBlock := fun e => by
    have := own_block_ge ho B e.symm
    omega
  exact ⟨hg.cell h.1 hne, hg.cell h.2.1 hne, hg.cell h.2.2 hne⟩
set_option maxRecDepth 100000 in
set_option maxHeartbeats 2000000 in
theorem put_not (w : World) (m : Mg) (A : Option Addr) (n c : Nat) (hr : ¬ right m n) :
    Calls Try.prog 7 #[m.v (.slice A n c)] w fun e w' => e = .returned (.tuple #[.slice none 0 0, .int .i64 2]) ∧ w.grownBy w' none := by
  have HR := Lib.hid hr
  clear hr
  have hB0 := Blk.new w 25 (m.cells (.slice A n c))
  go_enter Try.func7, Try.ntmps7
  go_wp2_with fail
  refine (right_not _ m A n c HR.out).mono ?_
  rintro e w1 ⟨rfl, hg1⟩
  go_wp2_with fail
  go_ret2
  exact ⟨rfl, gb_trans (gb_alloc (gb_refl w none) _) hg1⟩
set_option maxRecDepth 100000 in
set_option maxHeartbeats 2000000 in
theorem put_own (w : World) {b0 : Nat} (m : Mg) (A : Option Addr) (n c : Nat) (l : List Int) (h : Sl w b0 A n c l) (hb : ∀ x ∈ l, 0 ≤ x ∧ x ≤ 255) (hr : right m n) :
    Calls Try.prog 7 #[m.v (.slice A n c)] w fun e w' => ∃ A' c', e = .returned (.tuple #[.slice A' (11 + n) c', .int .i64 0]) ∧ w'.ownsRow (w.heap.size + 1) 5 1 (.slice A' (11 + n) c') (11 + n) (nums .u8 (putI m l)) ∧ w.grownBy w' none := by
  obtain ⟨i0, hi, hz0, hz1, hz2⟩ := info_parts u8_info
  have HR := Lib.hid hr
  have HB := Lib.hid hb
  have q1 : 0 ≤ m.who ∧ m.who < 16 := ⟨hr.1, hr.2.1⟩
  have q2 : n ≤ 1024 := hr.2.2.1
  have q3 : 0 ≤ m.e0 ∧ m.e0 < n := ⟨hr.2.2.2.1, hr.2.2.2.2.1⟩
  have q4 : 0 ≤ m.e1 ∧ m.e1 < n := ⟨hr.2.2.2.2.2.1, hr.2.2.2.2.2.2⟩
  have hA : A = none → c = 0 := fun h0 => by
    obtain ⟨b, off, e, _⟩ := h.rd (by omega)
    rw [h0] at e; cases e
  clear hr hb
  have hB0 := Blk.new w 25 (m.cells (.slice A n c))
  go_enter Try.func7, Try.ntmps7
  go_wp2_with fail
  refine (right_yes _ m A n c HR.out).mono ?_
  rintro e w1 ⟨rfl, hg1⟩
  have hB1 := hB0.kept hg1 (by simp)
  have hW1 := gb_trans (gb_alloc (gb_refl w none) _) hg1
  have h1 := h.kept hW1
  have hsz : w.heap.size + 1 ≤ w1.heap.size := by have := hg1.size; simpa using this
  have hszl : w.heap.size < w1.heap.size := hsz
  clear hB0 hg1
  have p0 := hB1.cell 0 _ rfl
  have p1 := hB1.cell 1 _ rfl
  have p2 := hB1.cell 2 _ rfl
  have p3 := hB1.cell 3 _ rfl
  have hkc : (convert 23 23 (.slice (some ⟨w1.heap.size, 0, none⟩) 2 2)).run Try.prog (w1.alloc (.cells #[.int .u8 84, .int .u8 49] 5)) = .ok (.slice (some ⟨w1.heap.size, 0, none⟩) 2 2) (w1.alloc (.cells #[.int .u8 84, .int .u8 49] 5 (2, 3))) := kc w1 #[.int .u8 84, .int .u8 49] 2 2 _ rfl
  have hlit : ∀ (j : Nat) (u : Value), (nums .u8 [84, 49])[j]? = some u → ((w1.alloc (.cells #[.int .u8 84, .int .u8 49] 5 (2, 3))).alloc (.cells #[.int .u8 m.who] 5)).cell? ((⟨w1.heap.size, 0, none⟩ : Addr).add j) = some u := by
    intro j u hj
    rw [add_cell, World.cell?_alloc_past _ _ _ (by simp), cell_alloc_mark_at _ _ _ _ _ _ rfl, ← Array.getElem?_toList]
    exact hj
  go_wp2_with (first | (at_builtin; go_loud (refine wpList_append_full _ rfl _ _ 23 rfl (w.heap.size + 1) 5 i0 (.int .u8 0) 1 1 Try.underlying23 hi hz0 hz1 hz2 rfl ⟨w1.heap.size, 0, none⟩ 2 (nums .u8 [84, 49]) rfl rfl hlit ⟨w1.heap.size + 1, 0, none⟩ 1 1 [.int .u8 m.who] rfl rfl (cells_newm w1 _ _ _) (by omega) (by unfold maxLen; omega) (by omega) (by simp; omega) ?_)) | fail)
  intro v2 w2 ho2 hg2
  have hW2 : Below (w.heap.size + 1) w1 w2 := (((Below.refl _ w1).alloc hsz _).alloc (by simp; omega) _).grown hg2 (by simp; omega) (by simp)
  replace ho2 : w2.ownsRow (w.heap.size + 1) 5 1 v2 3 (nums .u8 [84, 49, m.who]) := ho2
  clear hg2 p0 p1 p2 p3 hkc hlit
  have hB2 := hB1.below hW2 (by omega)
  have hz2' := hW2.size
  have hS0 : (w2.drew).cell? ⟨w.heap.size, 1, none⟩ = some (.int .i64 m.e0) ∧ (w2.drew).cell? ⟨w.heap.size, 2, none⟩ = some (.int .i64 m.e1) ∧ (w2.drew).cell? ⟨w.heap.size, 3, none⟩ = some (.slice A n c) := ⟨hB2.drew.cell 1 _ rfl, hB2.drew.cell 2 _ rfl, hB2.drew.cell 3 _ rfl⟩
  have hod : (w2.drew).ownsRow (w.heap.size + 1) 5 1 v2 3 (nums .u8 [84, 49, m.who]) := ho2.kept (gb_drew (gb_refl w2 none)) (own_ne ho2)
  have hzd : w2.drew.heap.size = w2.heap.size := rfl
  go_upto_region 4 with (fail)
  go_region_held3 (fun w' => w'.cell? ⟨w.heap.size, 1, none⟩ = some (.int .i64 m.e0) ∧ w'.cell? ⟨w.heap.size, 2, none⟩ = some (.int .i64 m.e1) ∧ w'.cell? ⟨w.heap.size, 3, none⟩ = some (.slice A n c)) (first | exact hS0 | exact hSa | exact hSb | exact hSc)
    (first
      | (go_at_call_of 17 v2; refine (two_any w2.drew (w.heap.size + 1) v2 3 [84, 49, m.who] m.e0 hod (by omega) (by omega) (by omega) (by omega)).mono ?_; rintro e wa ⟨va, rfl, hoa, hga⟩; have hSa := keep3 hS0 hod (by omega) hga; have hza := hga.size)
      | (go_at_call_of 17 va; refine (two_any wa (w.heap.size + 1) va 5 _ m.e1 hoa (by omega) (by omega) (by omega) (by omega)).mono ?_; rintro e wb ⟨vb, rfl, hob, hgb⟩; have hSb := keep3 hSa hoa (by omega) hgb; have hzb := hgb.size)
      | (go_at_call_of 17 vb; refine (two_any wb (w.heap.size + 1) vb 7 _ n hob (by omega) (by omega) (by omega) (by omega)).mono ?_; rintro e wc ⟨vc, rfl, hoc, hgc⟩; have hSc := keep3 hSb hob (by omega) hgc; have hzc := hgc.size))
  have hln := h.len
  have hWc : Below (w.heap.size + 1) w2 wc := ((((Below.refl (w.heap.size + 1) w2).grown (gb_drew (gb_refl w2 none)) (by omega) (by simp)).grown hga (by omega) (own_block_ge hod)).grown hgb (by omega) (own_block_ge hoa)).grown hgc (by omega) (own_block_ge hob)
  have hWW : Below w.heap.size w wc := ((below_of_gb hW1).trans (below_mono hW2 (by omega))).trans (below_mono hWc (by omega))
  have hlc := h.kept_below hWW
  have pc := hSc.2.2
  have hzz := hWW.size
  have hzc' : w.heap.size + 1 ≤ wc.heap.size := by omega
  clear hWc hS0 hSa hSb hSc hod hoa hob hga hgb hgc hza hzb hzc hzd hz2' hB1 hB2 hW2 ho2 h1
  go_wp2_with (first | (at_builtin; go_loud (refine wpList_app_sl _ rfl _ _ 23 rfl (w.heap.size + 1) 5 i0 Try.underlying23 hi hz0 hz1 hz2 _ 9 _ rfl hoc A n c l rfl hA hlc (by omega) (by omega) ?_)) | fail)
  intro v6 w6 ho6 hg6
  have hW6 : Below w.heap.size w w6 := hWW.grown hg6 hzz (fun k hk => by have := own_block_ge hoc k hk; omega)
  have hz6 := hg6.size
  replace ho6 : w6.ownsRow (w.heap.size + 1) 5 1 v6 (9 + n) (nums .u8 (body m l)) := by unfold body; rw [hln]; simpa using ho6
  clear hoc hg6 hlc pc hWW hzz
  obtain ⟨A6, c6, rfl, _⟩ := own_rd ho6
  have hs6 := Sl.of_own ho6
  have hbb := body_bytes m l (by rw [hln]; exact HR.out) HB.out
  have hsum := sum_any _ _ 1 1 _ _ _ _ (sls_one w6 A6 (9 + n) c6 (body m l) (Sl.mono0 hs6) hbb 23)
  rw [upto_one] at hsum
  have hcl := crc_lt (body m l)
  generalize hcc : crc (body m l) = S at hsum hcl
  have HS := Lib.hid hcc
  clear hcc hbb
  go_wp2_with fail
  refine hsum.mono ?_
  rintro e w7 ⟨rfl, rfl⟩
  have ho7 := ho6.alloc (.cells #[.slice A6 (9 + n) c6] 23)
  have hW7 := hW6.alloc hW6.size (.cells #[.slice A6 (9 + n) c6] 23)
  clear hsum ho6 hs6
  go_wp2_with fail
  refine (two_any _ (w.heap.size + 1) _ (9 + n) (body m l) S ho7 (by simp; omega) (by omega) (by omega) (by omega)).mono ?_
  rintro e w8 ⟨v8, rfl, ho8, hg8⟩
  have hW8 : Below w.heap.size w w8 := hW7.grown hg8 hW7.size (fun k hk => by have := own_block_ge ho7 k hk; omega)
  obtain ⟨A8, c8, rfl, _⟩ := own_rd ho8
  go_wp2_with fail
  go_ret2
  refine ⟨A8, c8, by rw [show 11 + n = 9 + n + 2 by omega]; rfl, ?_, gb_of_below hW8⟩
  rw [show 11 + n = 9 + n + 2 by omega]
  unfold putI
  rw [HS.out]
  exact ho8
theorem put_yes (w : World) {b0 : Nat} (m : Mg) (A : Option Addr) (n c : Nat) (l : List Int) (h : Sl w b0 A n c l) (hb : ∀ x ∈ l, 0 ≤ x ∧ x ≤ 255) (hr : right m n) :
    Calls Try.prog 7 #[m.v (.slice A n c)] w fun e w' => ∃ A' c', e = .returned (.tuple #[.slice A' (11 + n) c', .int .i64 0]) ∧ Sl w' w.heap.size A' (11 + n) c' (putI m l) ∧ w.grownBy w' none :=
  (put_own w m A n c l h hb hr).mono fun e w' ⟨A', c', he, ho, hg⟩ => ⟨A', c', he, Sl.mono (Sl.of_own ho) (show w.heap.size ≤ w.heap.size + 1 by omega), hg⟩
end Im
end Go.Proofs.Ytifnmnchpgbimaa
