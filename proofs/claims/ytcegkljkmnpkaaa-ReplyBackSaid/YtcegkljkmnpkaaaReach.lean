/- A region that draws its order, whose operations read what was there, and whose callees only make memory: one walk of the text's order (Derived.Deep.Quiet's theorem at the class of all worlds that hold what was there). Conditions: none. -/
import Derived.Test.YtcegkljkmnpkaaaSep
import Derived.BigQuiet
namespace Go.Proofs.Ytcegkljkmnpkaaa.Sep
open Go.RowKit Go.Proofs.YtcegkljkmnpkaaaW.PrintWords
/-- A world that holds what was there in w. -/
structure Reach (w : World) where
  out : World
  bel : Below w.heap.size w out
instance (w : World) : Nonempty (Reach w) := ⟨⟨w, Below.refl _ _⟩⟩
theorem Reach.cell {w : World} {a : Addr} {v : Value} (h : w.cell? a = some v) (u : Reach w) : u.out.cell? a = some v := pw_cell_below u.bel h
theorem region_reach {P : Program} {id : Nat} {Q : Exit → Act → World → Prop} {a : Act} {w : World} {l : List Oper} (hm : P.follows .mixedOrders = true) (hB : Region.lexB .any l.toArray = true)
    (h : wpQuiet P l.toArray (fun w' => ∃ u : Reach w, w' = u.out) (fun a' => ∀ w', (∃ u : Reach w, w' = u.out) → Q .normal a' w') l a) : (Code.region id l.toArray true).wp P Q a w :=
  wp_region_quiet (C := fun w' => ∃ u : Reach w, w' = u.out) hm hB ⟨⟨_, below_drew (Below.refl _ _)⟩, rfl⟩ (by simpa using h)
theorem calls_reach {P : Program} {f : FuncId} {args : Array Value} {w : World} {v : Value} (u : Reach w)
    (h : Calls P f args u.out fun e w' => e = .returned v ∧ Below u.out.heap.size u.out w') : Calls P f args u.out fun e w'' => e = .returned v ∧ ∃ u' : Reach w, w'' = u'.out :=
  h.mono fun _ w' ⟨he, hb⟩ => ⟨he, ⟨w', below_step u.bel hb⟩, rfl⟩
end Go.Proofs.Ytcegkljkmnpkaaa.Sep
