/- A statement whose order is open and whose calls only make memory: one walk, in the text's order, serves every order. -/
import Derived.Test.YtpgbpcnifhnjjaaDoorWMore
import Derived.BigQuiet
namespace Go.Proofs.YtpgbpcnifhnjjaaDoor.Later
open Go.RowKit Go.Proofs.YtpgbpcnifhnjjaaDoorW.PrintWords

/-- A world behind W: what lay in W is as it was. -/
structure Later (W : World) where
  w : World
  h : Below W.heap.size W w
instance {W : World} : Nonempty (Later W) := ⟨⟨W, Below.refl _ _⟩⟩
section
variable {P : Program} {W : World}
theorem Later.cell (n : Later W) {a : Addr} {v : Value} (h : W.cell? a = some v) : n.w.cell? a = some v := pw_cell_below n.h h
theorem Later.blk (n : Later W) {g : Nat} {o : Obj} (h : W.heap[g]? = some o) : n.w.heap[g]? = some o := blk_below h n.h
/-- A region whose order is open, at the class of the worlds behind W. -/
theorem wp_region_later {id : Nat} {Q : Exit → Act → World → Prop} {a : Act} {w : World} {l : List Oper} (hm : P.follows .mixedOrders = true) (hB : Region.lexB .any l.toArray = true) (hW : Below W.heap.size W w)
    (h : wpQuiet P l.toArray (fun w' => ∃ n : Later W, w' = n.w) (fun a' => ∀ w', (∃ n : Later W, w' = n.w) → Q .normal a' w') l a) : (Code.region id l.toArray true).wp P Q a w :=
  wp_region_quiet (C := fun w' => ∃ n : Later W, w' = n.w) hm hB ⟨⟨_, hW.drew⟩, rfl⟩ (by simpa using h)
/-- A callee's contract, met in a world behind W. -/
theorem calls_later {f : FuncId} {args : Array Value} {n : Later W} {v : Value} (h : Calls P f args n.w fun e w' => e = .returned v ∧ Below n.w.heap.size n.w w') : Calls P f args n.w fun e w'' => e = .returned v ∧ ∃ m : Later W, w'' = m.w :=
  h.mono fun _ w' ⟨he, hb⟩ => ⟨he, ⟨w', below_step n.h hb⟩, rfl⟩
end
end Go.Proofs.YtpgbpcnifhnjjaaDoor.Later
