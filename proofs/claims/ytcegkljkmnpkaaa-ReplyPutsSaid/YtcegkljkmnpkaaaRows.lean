/-
  No cell of these rows narrows 'for every input' (looked for: loops, veiled, ifaces, maps, wideKeys, modest, calm, conditions, laid).
  DERIVED. THE GIVEN ROWS OF THIS SEAT. 3 by the template 'for every input the law returns true; each argument reads behind the call as it read before'; 0 by the template 'total and deterministic' (their statements: YtcegkljkmnpkaaaTotals.lean).
  GIVEN WITH THE SEED: the statements are not yours to turn. If you find one false, say at which input.
  Laid BY PROGRAM, IN A SANDBOX (cutbox-rows.mjs): the forced cells as the released guide's own fill.sh prints them over the translation 0f064486a521596e… (all of the seat's roots in one cut). By AI agents, Wed Nov 11 2026. No macro, syntax, notation, axiom, sorry.
-/
import Derived.Test.YtcegkljkmnpkaaaChecked
import GoSem.Claim
import GoSem.ClaimJoined
import GoSem.ClaimMapViews
import Derived.JoinedTies
import Derived.KernelRfl
namespace Go.Proofs.Ytcegkljkmnpkaaa
/- THE CELL 'sum', in the pinned program and in every row, IS THE sha256 OF THE DUMP (.gsa) THAT YtcegkljkmnpkaaaProg.lean LOADS. Nothing in Lean hashes anything: it is a label: what it is worth is what the hold of that sum in a sandbox is worth. -/
noncomputable def Try.pinned : Pinned := { name := "ytcegkljkmnpkaaa", sum := "0f064486a521596ec1e01255c000490c9c7a81a4a41e27f42b18f30aae7786a8", checked := Try.checked }
namespace Rows
def none {H : Type} : Left H := { results := [], args := [] }

/-- 'apographlaw20.ReplySame': WHATEVER THE INPUT: true; the input reads as it did. -/
def replySameSpec : ChangeSpec := { name := "replySame", fn := fun _ => fun
  | [d1, d2] => { results := [.lit (.bool true)], args := [d1, d2] }
  | _ => none }
def replySameRow : OpenClaim := { program := "ytcegkljkmnpkaaa", sum := "0f064486a521596ec1e01255c000490c9c7a81a4a41e27f42b18f30aae7786a8", func := "apograph/apographlaw20.ReplySame", spec := "replySame", unfollowed := true, recurses := true, apart := false }
def ReplySameSaid : Prop := replySameRow.holds Try.pinned (OpenSpec.ofChange replySameSpec)

/-- ITS FALSE NEIGHBOUR: 'it returns false'. Refute it at one input. -/
def replySameWrong : ChangeSpec := { name := "replySame", fn := fun _ => fun
  | [d1, d2] => { results := [.lit (.bool false)], args := [d1, d2] }
  | _ => none }
def ReplySameWrongFalsely : Prop := replySameRow.holds Try.pinned (OpenSpec.ofChange replySameWrong)

/-- 'apographlaw20.ReplyPuts': WHATEVER THE INPUT: true; the input reads as it did. -/
def replyPutsSpec : ChangeSpec := { name := "replyPuts", fn := fun _ => fun
  | [d1, d2] => { results := [.lit (.bool true)], args := [d1, d2] }
  | _ => none }
def replyPutsRow : OpenClaim := { program := "ytcegkljkmnpkaaa", sum := "0f064486a521596ec1e01255c000490c9c7a81a4a41e27f42b18f30aae7786a8", func := "apograph/apographlaw20.ReplyPuts", spec := "replyPuts", unfollowed := true, recurses := true, apart := false }
def ReplyPutsSaid : Prop := replyPutsRow.holds Try.pinned (OpenSpec.ofChange replyPutsSpec)

/-- ITS FALSE NEIGHBOUR: 'it returns false'. Refute it at one input. -/
def replyPutsWrong : ChangeSpec := { name := "replyPuts", fn := fun _ => fun
  | [d1, d2] => { results := [.lit (.bool false)], args := [d1, d2] }
  | _ => none }
def ReplyPutsWrongFalsely : Prop := replyPutsRow.holds Try.pinned (OpenSpec.ofChange replyPutsWrong)

/-- 'apographlaw20.ReplyBack': WHATEVER THE INPUT: true; the input reads as it did. -/
def replyBackSpec : ChangeSpec := { name := "replyBack", fn := fun _ => fun
  | [d1, d2] => { results := [.lit (.bool true)], args := [d1, d2] }
  | _ => none }
def replyBackRow : OpenClaim := { program := "ytcegkljkmnpkaaa", sum := "0f064486a521596ec1e01255c000490c9c7a81a4a41e27f42b18f30aae7786a8", func := "apograph/apographlaw20.ReplyBack", spec := "replyBack", unfollowed := true, recurses := true, apart := false }
def ReplyBackSaid : Prop := replyBackRow.holds Try.pinned (OpenSpec.ofChange replyBackSpec)

/-- ITS FALSE NEIGHBOUR: 'it returns false'. Refute it at one input. -/
def replyBackWrong : ChangeSpec := { name := "replyBack", fn := fun _ => fun
  | [d1, d2] => { results := [.lit (.bool false)], args := [d1, d2] }
  | _ => none }
def ReplyBackWrongFalsely : Prop := replyBackRow.holds Try.pinned (OpenSpec.ofChange replyBackWrong)

/- THE SECOND FORM. 'bulk': how many values and letters a reading holds, each counted each time it is reached (what is shared counts as often as it is met; a slice's spare places count too). A statement '..UptoSaid' is the law's where the arguments, and the package variables that the reading takes, are together of bulk at most 1048576: NARROWER than '..Said'. Prove '..Said' where nothing that the law and all that it calls make is longer than what came in: it says more and counts as full. Else prove '..UptoSaid'. A law counts once. -/
mutual
def uptoBulk {H : Type} : DataW H → Nat
  | .lit (.string bytes) => bytes.length + 1
  | .lit _ => 1
  | .nil => 1
  | .ptr d => uptoBulk d + 1
  | .slice elems spare => uptoBulkAll elems + uptoBulkAll spare + 1
  | .agg parts => uptoBulkAll parts + 1
  | .iface _ d => uptoBulk d + 1
  | .map entries => uptoBulkEntries entries + 1
  | .held _ => 1
def uptoBulkAll {H : Type} : List (DataW H) → Nat
  | [] => 0
  | d :: r => uptoBulk d + uptoBulkAll r
def uptoBulkEntries {H : Type} : List (Lit × DataW H) → Nat
  | [] => 0
  | x :: r => uptoBulkEntry x + uptoBulkEntries r
def uptoBulkEntry {H : Type} : Lit × DataW H → Nat
  | (.string bytes, d) => bytes.length + uptoBulk d + 1
  | (_, d) => uptoBulk d + 1
 end
def uptoSmall : (H : Type) → List (DataW H) → Bool := fun _ ds => decide (uptoBulkAll ds ≤ 1048576)
def OpenSpec.upto (s : _root_.Go.ChangeSpec) : _root_.Go.OpenSpec := { _root_.Go.OpenSpec.ofChange s with cond := some uptoSmall }

/-- 'apographlaw20.ReplySame', WHERE WHAT IT READS IS OF BULK AT MOST 1048576: true; the input reads as it did. -/
def replySameUptoRow : OpenClaim := { program := "ytcegkljkmnpkaaa", sum := "0f064486a521596ec1e01255c000490c9c7a81a4a41e27f42b18f30aae7786a8", func := "apograph/apographlaw20.ReplySame", spec := "replySame", unfollowed := true, recurses := true, apart := false, narrowed := true }
def ReplySameUptoSaid : Prop := replySameUptoRow.holds Try.pinned (OpenSpec.upto replySameSpec)

/-- 'apographlaw20.ReplyPuts', WHERE WHAT IT READS IS OF BULK AT MOST 1048576: true; the input reads as it did. -/
def replyPutsUptoRow : OpenClaim := { program := "ytcegkljkmnpkaaa", sum := "0f064486a521596ec1e01255c000490c9c7a81a4a41e27f42b18f30aae7786a8", func := "apograph/apographlaw20.ReplyPuts", spec := "replyPuts", unfollowed := true, recurses := true, apart := false, narrowed := true }
def ReplyPutsUptoSaid : Prop := replyPutsUptoRow.holds Try.pinned (OpenSpec.upto replyPutsSpec)

/-- 'apographlaw20.ReplyBack', WHERE WHAT IT READS IS OF BULK AT MOST 1048576: true; the input reads as it did. -/
def replyBackUptoRow : OpenClaim := { program := "ytcegkljkmnpkaaa", sum := "0f064486a521596ec1e01255c000490c9c7a81a4a41e27f42b18f30aae7786a8", func := "apograph/apographlaw20.ReplyBack", spec := "replyBack", unfollowed := true, recurses := true, apart := false, narrowed := true }
def ReplyBackUptoSaid : Prop := replyBackUptoRow.holds Try.pinned (OpenSpec.upto replyBackSpec)

end Rows
end Go.Proofs.Ytcegkljkmnpkaaa
