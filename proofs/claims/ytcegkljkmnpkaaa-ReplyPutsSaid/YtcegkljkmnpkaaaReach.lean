/- A region that draws its order, whose operations read what was there, and whose callees only make memory: one walk of the text's order (Derived.Deep.Quiet's theorem at the class of all worlds that hold what was there). Conditions: none. -/
import Derived.Test.YtcegkljkmnpkaaaSep
import Derived.BigQuiet
namespace Go.Proofs.Ytcegkljkmnpkaaa.Sep
open Go.RowKit Go.Proofs.YtcegkljkmnpkaaaW.PrintWords
/-- A world that holds what was there in w. -/
structure Reach (w : World) where
  out : World
  bel : Below w.heap.size w out
instance (w : World) : Nonempty (Reach w) := ⟨⟨w, Below.refl _ _⟩⟩
theorem Reach.cell {w : World} {a : Addr} {v : Value} (h : w.cell? a = some v) (u : Reach w) : u.out.cell? a = some v := pw_cell_below u.bel h
end Go.Proofs.Ytcegkljkmnpkaaa.Sep
