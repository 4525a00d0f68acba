/- Regions that draw, whose callees may make memory: one walk of the text's order serves every order (over Derived/Deep/Quiet.lean's theorem, at a class of worlds of my own). -/
import Derived.Test.YtifnmnchpgbimaaBase
namespace Go.Proofs.Ytifnmnchpgbimaa
open Go.RowKit
/-- A world of which p holds. -/
structure In (p : World → Prop) where mk :: (w : World) (ok : p w)
theorem wp_region_in {P : Program} {p : World → Prop} {id : Nat} {Q : Exit → Act → World → Prop} {a : Act} {w : World} {l : List Oper} (hm : P.follows .mixedOrders = true) (hB : Region.lexB .any l.toArray = true) (hp : p w.drew)
    (h : wpQuiet P l.toArray (fun w' => ∃ x : In p, w' = x.w) (fun a' => ∀ w', (∃ x : In p, w' = x.w) → Q .normal a' w') l a) : (Code.region id l.toArray true).wp P Q a w :=
  wp_region_quiet (C := fun w' => ∃ x : In p, w' = x.w) hm hB ⟨⟨w.drew, hp⟩, rfl⟩ (by simpa using h)
/-- A callee's contract, met in such a world. -/
theorem in_eq {P : Program} {f : FuncId} {args : Array Value} {p : World → Prop} {x : In p} {v : Value}
    (h : Calls P f args x.w fun e w' => e = .returned v ∧ x.w = w') : Calls P f args x.w fun e w'' => e = .returned v ∧ ∃ y : In p, w'' = y.w :=
  h.mono fun _ _ ⟨he, hm⟩ => ⟨he, x, hm.symm⟩
theorem in_p {P : Program} {f : FuncId} {args : Array Value} {p : World → Prop} {x : In p} {v : Value}
    (h : Calls P f args x.w fun e w' => e = .returned v ∧ p w') : Calls P f args x.w fun e w'' => e = .returned v ∧ ∃ y : In p, w'' = y.w :=
  h.mono fun _ _ ⟨he, hm⟩ => ⟨he, ⟨_, hm⟩, rfl⟩
/-- .. at the class 'what was there is as it was'. -/
abbrev New (w0 : World) : Type := In (fun w' => w0.grownBy w' none)
theorem new_gb {P : Program} {f : FuncId} {args : Array Value} {w0 : World} {x : New w0} {v : Value}
    (h : Calls P f args x.w fun e w' => e = .returned v ∧ x.w.grownBy w' none) : Calls P f args x.w fun e w'' => e = .returned v ∧ ∃ y : New w0, w'' = y.w :=
  h.mono fun _ _ ⟨he, hm⟩ => ⟨he, ⟨_, gb_trans x.ok hm⟩, rfl⟩
theorem new_same {P : Program} {f : FuncId} {args : Array Value} {w0 : World} {x : New w0} {v : Value}
    (h : Calls P f args x.w fun e w' => e = .returned v ∧ Same x.w w') : Calls P f args x.w fun e w'' => e = .returned v ∧ ∃ y : New w0, w'' = y.w :=
  h.mono fun _ _ ⟨he, hm⟩ => ⟨he, ⟨_, gb_trans x.ok (gb_same hm none)⟩, rfl⟩
theorem wp_region_new {P : Program} {id : Nat} {Q : Exit → Act → World → Prop} {a : Act} {w : World} {l : List Oper} (hm : P.follows .mixedOrders = true) (hB : Region.lexB .any l.toArray = true)
    (h : wpQuiet P l.toArray (fun w' => ∃ x : New w, w' = x.w) (fun a' => ∀ w', (∃ x : New w, w' = x.w) → Q .normal a' w') l a) : (Code.region id l.toArray true).wp P Q a w :=
  wp_region_in hm hB (gb_drew (gb_refl _ _)) h
/-- From a world on, only what is new is made: the worlds are named as members of the class. -/
theorem new_start {P : Program} {c : Code} {Q : Exit → Act → World → Prop} {a : Act} {w : World} (h : ∀ x : New w, Code.wp P c Q a x.w) : Code.wp P c Q a w := h ⟨w, gb_refl _ _⟩
theorem new_end {w : World} {o : Obj} (x : New (w.alloc o)) : w.grownBy x.w none := gb_trans (gb_alloc (gb_refl _ _) _) x.ok
theorem new_ne (w : World) : Nonempty (New w) := ⟨⟨w, gb_refl _ _⟩⟩
/-- A drawn region, somewhere in the class. -/
theorem wp_region_later {P : Program} {id : Nat} {Q : Exit → Act → World → Prop} {a : Act} {w0 : World} {x : New w0} {l : List Oper} (hm : P.follows .mixedOrders = true) (hB : Region.lexB .any l.toArray = true)
    (h : wpQuiet P l.toArray (fun w' => ∃ y : New w0, w' = y.w) (fun a' => ∀ w', (∃ y : New w0, w' = y.w) → Q .normal a' w') l a) : (Code.region id l.toArray true).wp P Q a x.w :=
  wp_region_in hm hB (gb_drew x.ok) h
end Go.Proofs.Ytifnmnchpgbimaa
