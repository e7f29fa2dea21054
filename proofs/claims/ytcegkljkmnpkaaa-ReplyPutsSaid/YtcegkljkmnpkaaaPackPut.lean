/- pack.Put, and the reference's: what they make of fields. Conditions: the bounds of the statements. -/
import Derived.Test.YtcegkljkmnpkaaaWriter
import Derived.Test.YtcegkljkmnpkaaaPDatx0
namespace Go.Proofs.Ytcegkljkmnpkaaa.Sep
open Go.RowKit Go.Proofs.Ytcegkljkmnpkaaa.PCore Go.Proofs.Ytcegkljkmnpkaaa.Plain Go.Proofs.YtcegkljkmnpkaaaW.PrintWords Go.Proofs.YtcegkljkmnpkaaaW.PrintLast Go.Proofs.YtcegkljkmnpkaaaW.PrintMore
theorem take_one {α : Type} (l : List α) (i : Nat) (h : i < l.length) : l.take (i + 1) = l.take i ++ [l[i]] := by
  rw [List.take_add_one, List.getElem?_eq_getElem h]
  rfl
theorem size_one (W : World) (o : Obj) : W.heap.size + 1 = (W.alloc o).heap.size := (Array.size_push ..).symm
theorem wr_num1_at (B g n : Nat) (bs : List Int) (x : Int) (W : World) (hn : n = W.heap.size) (hw : WrAt B g W bs) (hx : 0 ≤ x ∧ x < 18446744073709551616) (hlim : bs.length + 10 < 140737488355328) :
    Calls Try.prog 54 #[.pointer (some ⟨g, 0, none⟩), .slice (some ⟨n, 0, none⟩) 1 1] (W.alloc (.cells #[.int .u64 x] 23)) fun e W1 => e = .returned (.tuple #[]) ∧ WrAt B g W1 (bs ++ enc x) ∧ Fr B [98, 5] W W1 := by
  subst hn
  exact wr_num1 B g bs x W hw hx hlim
end Go.Proofs.Ytcegkljkmnpkaaa.Sep
