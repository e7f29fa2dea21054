/-
  No cell of these rows narrows 'for every input' (looked for: loops, veiled, ifaces, maps, wideKeys, modest, calm, conditions, laid).
  DERIVED. THE GIVEN ROWS OF THIS SEAT. 12 by the template 'for every input the law returns true; each argument reads behind the call as it read before'; 0 by the template 'total and deterministic' (their statements: YtmcgafgmhddliaaTotals.lean).
  GIVEN WITH THE SEED: the statements are not yours to turn. If you find one false, say at which input.
  Laid BY PROGRAM, IN A SANDBOX (cutbox-rows.mjs): the forced cells as the released guide's own fill.sh prints them over the translation 6608116dd7e40873… (all of the seat's roots in one cut). By AI agents, Wed Nov 11 2026. No macro, syntax, notation, axiom, sorry.
-/
import Derived.Test.YtmcgafgmhddliaaChecked
import GoSem.Claim
import GoSem.ClaimJoined
import GoSem.ClaimMapViews
import Derived.JoinedTies
import Derived.KernelRfl
namespace Go.Proofs.Ytmcgafgmhddliaa
/- THE CELL 'sum', in the pinned program and in every row, IS THE sha256 OF THE DUMP (.gsa) THAT YtmcgafgmhddliaaProg.lean LOADS. Nothing in Lean hashes anything: it is a label: what it is worth is what the hold of that sum in a sandbox is worth. -/
noncomputable def Try.pinned : Pinned := { name := "ytmcgafgmhddliaa", sum := "6608116dd7e40873733558edbc406ce20cd2e11a106eaeaea23ec0fdb2197061", checked := Try.checked }
namespace Rows
def none {H : Type} : Left H := { results := [], args := [] }

/-- 'apographlaw03.FnvPieces': WHATEVER THE INPUT: true; the input reads as it did. -/
def fnvPiecesSpec : ChangeSpec := { name := "fnvPieces", fn := fun _ => fun
  | [d1, d2, d3] => { results := [.lit (.bool true)], args := [d1, d2, d3] }
  | _ => none }
def fnvPiecesRow : OpenClaim := { program := "ytmcgafgmhddliaa", sum := "6608116dd7e40873733558edbc406ce20cd2e11a106eaeaea23ec0fdb2197061", func := "apograph/apographlaw03.FnvPieces", spec := "fnvPieces", apart := false }
def FnvPiecesSaid : Prop := fnvPiecesRow.holds Try.pinned (OpenSpec.ofChange fnvPiecesSpec)

/-- ITS FALSE NEIGHBOUR: 'it returns false'. Refute it at one input. -/
def fnvPiecesWrong : ChangeSpec := { name := "fnvPieces", fn := fun _ => fun
  | [d1, d2, d3] => { results := [.lit (.bool false)], args := [d1, d2, d3] }
  | _ => none }
def FnvPiecesWrongFalsely : Prop := fnvPiecesRow.holds Try.pinned (OpenSpec.ofChange fnvPiecesWrong)

/-- 'apographlaw03.FnvSums': WHATEVER THE INPUT: true; the input reads as it did. -/
def fnvSumsSpec : ChangeSpec := { name := "fnvSums", fn := fun _ => fun
  | [d1, d2] => { results := [.lit (.bool true)], args := [d1, d2] }
  | _ => none }
def fnvSumsRow : OpenClaim := { program := "ytmcgafgmhddliaa", sum := "6608116dd7e40873733558edbc406ce20cd2e11a106eaeaea23ec0fdb2197061", func := "apograph/apographlaw03.FnvSums", spec := "fnvSums", apart := false }
def FnvSumsSaid : Prop := fnvSumsRow.holds Try.pinned (OpenSpec.ofChange fnvSumsSpec)

/-- ITS FALSE NEIGHBOUR: 'it returns false'. Refute it at one input. -/
def fnvSumsWrong : ChangeSpec := { name := "fnvSums", fn := fun _ => fun
  | [d1, d2] => { results := [.lit (.bool false)], args := [d1, d2] }
  | _ => none }
def FnvSumsWrongFalsely : Prop := fnvSumsRow.holds Try.pinned (OpenSpec.ofChange fnvSumsWrong)

/-- 'apographlaw03.FnvEnds': WHATEVER THE INPUT: true; the input reads as it did. -/
def fnvEndsSpec : ChangeSpec := { name := "fnvEnds", fn := fun _ => fun
  | [d1, d2] => { results := [.lit (.bool true)], args := [d1, d2] }
  | _ => none }
def fnvEndsRow : OpenClaim := { program := "ytmcgafgmhddliaa", sum := "6608116dd7e40873733558edbc406ce20cd2e11a106eaeaea23ec0fdb2197061", func := "apograph/apographlaw03.FnvEnds", spec := "fnvEnds", apart := false }
def FnvEndsSaid : Prop := fnvEndsRow.holds Try.pinned (OpenSpec.ofChange fnvEndsSpec)

/-- ITS FALSE NEIGHBOUR: 'it returns false'. Refute it at one input. -/
def fnvEndsWrong : ChangeSpec := { name := "fnvEnds", fn := fun _ => fun
  | [d1, d2] => { results := [.lit (.bool false)], args := [d1, d2] }
  | _ => none }
def FnvEndsWrongFalsely : Prop := fnvEndsRow.holds Try.pinned (OpenSpec.ofChange fnvEndsWrong)

/-- 'apographlaw03.FnvLevels': WHATEVER THE INPUT: true; the input reads as it did. -/
def fnvLevelsSpec : ChangeSpec := { name := "fnvLevels", fn := fun _ => fun
  | [d1, d2] => { results := [.lit (.bool true)], args := [d1, d2] }
  | _ => none }
def fnvLevelsRow : OpenClaim := { program := "ytmcgafgmhddliaa", sum := "6608116dd7e40873733558edbc406ce20cd2e11a106eaeaea23ec0fdb2197061", func := "apograph/apographlaw03.FnvLevels", spec := "fnvLevels", apart := false }
def FnvLevelsSaid : Prop := fnvLevelsRow.holds Try.pinned (OpenSpec.ofChange fnvLevelsSpec)

/-- ITS FALSE NEIGHBOUR: 'it returns false'. Refute it at one input. -/
def fnvLevelsWrong : ChangeSpec := { name := "fnvLevels", fn := fun _ => fun
  | [d1, d2] => { results := [.lit (.bool false)], args := [d1, d2] }
  | _ => none }
def FnvLevelsWrongFalsely : Prop := fnvLevelsRow.holds Try.pinned (OpenSpec.ofChange fnvLevelsWrong)

/-- 'apographlaw01.LebZig': WHATEVER THE INPUT: true; the input reads as it did. -/
def lebZigSpec : ChangeSpec := { name := "lebZig", fn := fun _ => fun
  | [d1, d2] => { results := [.lit (.bool true)], args := [d1, d2] }
  | _ => none }
def lebZigRow : OpenClaim := { program := "ytmcgafgmhddliaa", sum := "6608116dd7e40873733558edbc406ce20cd2e11a106eaeaea23ec0fdb2197061", func := "apograph/apographlaw01.LebZig", spec := "lebZig", apart := false }
def LebZigSaid : Prop := lebZigRow.holds Try.pinned (OpenSpec.ofChange lebZigSpec)

/-- ITS FALSE NEIGHBOUR: 'it returns false'. Refute it at one input. -/
def lebZigWrong : ChangeSpec := { name := "lebZig", fn := fun _ => fun
  | [d1, d2] => { results := [.lit (.bool false)], args := [d1, d2] }
  | _ => none }
def LebZigWrongFalsely : Prop := lebZigRow.holds Try.pinned (OpenSpec.ofChange lebZigWrong)

/-- 'apographlaw01.LebPuts': WHATEVER THE INPUT: true; the input reads as it did. -/
def lebPutsSpec : ChangeSpec := { name := "lebPuts", fn := fun _ => fun
  | [d1, d2, d3] => { results := [.lit (.bool true)], args := [d1, d2, d3] }
  | _ => none }
def lebPutsRow : OpenClaim := { program := "ytmcgafgmhddliaa", sum := "6608116dd7e40873733558edbc406ce20cd2e11a106eaeaea23ec0fdb2197061", func := "apograph/apographlaw01.LebPuts", spec := "lebPuts", apart := false }
def LebPutsSaid : Prop := lebPutsRow.holds Try.pinned (OpenSpec.ofChange lebPutsSpec)

/-- ITS FALSE NEIGHBOUR: 'it returns false'. Refute it at one input. -/
def lebPutsWrong : ChangeSpec := { name := "lebPuts", fn := fun _ => fun
  | [d1, d2, d3] => { results := [.lit (.bool false)], args := [d1, d2, d3] }
  | _ => none }
def LebPutsWrongFalsely : Prop := lebPutsRow.holds Try.pinned (OpenSpec.ofChange lebPutsWrong)

/-- 'apographlaw01.LebGrows': WHATEVER THE INPUT: true; the input reads as it did. -/
def lebGrowsSpec : ChangeSpec := { name := "lebGrows", fn := fun _ => fun
  | [d1, d2] => { results := [.lit (.bool true)], args := [d1, d2] }
  | _ => none }
def lebGrowsRow : OpenClaim := { program := "ytmcgafgmhddliaa", sum := "6608116dd7e40873733558edbc406ce20cd2e11a106eaeaea23ec0fdb2197061", func := "apograph/apographlaw01.LebGrows", spec := "lebGrows", apart := false }
def LebGrowsSaid : Prop := lebGrowsRow.holds Try.pinned (OpenSpec.ofChange lebGrowsSpec)

/-- ITS FALSE NEIGHBOUR: 'it returns false'. Refute it at one input. -/
def lebGrowsWrong : ChangeSpec := { name := "lebGrows", fn := fun _ => fun
  | [d1, d2] => { results := [.lit (.bool false)], args := [d1, d2] }
  | _ => none }
def LebGrowsWrongFalsely : Prop := lebGrowsRow.holds Try.pinned (OpenSpec.ofChange lebGrowsWrong)

/-- 'apographlaw01.LebOf': WHATEVER THE INPUT: true; the input reads as it did. -/
def lebOfSpec : ChangeSpec := { name := "lebOf", fn := fun _ => fun
  | [d] => { results := [.lit (.bool true)], args := [d] }
  | _ => none }
def lebOfRow : OpenClaim := { program := "ytmcgafgmhddliaa", sum := "6608116dd7e40873733558edbc406ce20cd2e11a106eaeaea23ec0fdb2197061", func := "apograph/apographlaw01.LebOf", spec := "lebOf", apart := false }
def LebOfSaid : Prop := lebOfRow.holds Try.pinned (OpenSpec.ofChange lebOfSpec)

/-- ITS FALSE NEIGHBOUR: 'it returns false'. Refute it at one input. -/
def lebOfWrong : ChangeSpec := { name := "lebOf", fn := fun _ => fun
  | [d] => { results := [.lit (.bool false)], args := [d] }
  | _ => none }
def LebOfWrongFalsely : Prop := lebOfRow.holds Try.pinned (OpenSpec.ofChange lebOfWrong)

/-- 'apographlaw01.LebBack': WHATEVER THE INPUT: true; the input reads as it did. -/
def lebBackSpec : ChangeSpec := { name := "lebBack", fn := fun _ => fun
  | [d1, d2] => { results := [.lit (.bool true)], args := [d1, d2] }
  | _ => none }
def lebBackRow : OpenClaim := { program := "ytmcgafgmhddliaa", sum := "6608116dd7e40873733558edbc406ce20cd2e11a106eaeaea23ec0fdb2197061", func := "apograph/apographlaw01.LebBack", spec := "lebBack", apart := false }
def LebBackSaid : Prop := lebBackRow.holds Try.pinned (OpenSpec.ofChange lebBackSpec)

/-- ITS FALSE NEIGHBOUR: 'it returns false'. Refute it at one input. -/
def lebBackWrong : ChangeSpec := { name := "lebBack", fn := fun _ => fun
  | [d1, d2] => { results := [.lit (.bool false)], args := [d1, d2] }
  | _ => none }
def LebBackWrongFalsely : Prop := lebBackRow.holds Try.pinned (OpenSpec.ofChange lebBackWrong)

/-- 'apographlaw02.PackNone': WHATEVER THE INPUT: true; the input reads as it did. -/
def packNoneSpec : ChangeSpec := { name := "packNone", fn := fun _ => fun
  | [d1, d2] => { results := [.lit (.bool true)], args := [d1, d2] }
  | _ => none }
def packNoneRow : OpenClaim := { program := "ytmcgafgmhddliaa", sum := "6608116dd7e40873733558edbc406ce20cd2e11a106eaeaea23ec0fdb2197061", func := "apograph/apographlaw02.PackNone", spec := "packNone", apart := false }
def PackNoneSaid : Prop := packNoneRow.holds Try.pinned (OpenSpec.ofChange packNoneSpec)

/-- ITS FALSE NEIGHBOUR: 'it returns false'. Refute it at one input. -/
def packNoneWrong : ChangeSpec := { name := "packNone", fn := fun _ => fun
  | [d1, d2] => { results := [.lit (.bool false)], args := [d1, d2] }
  | _ => none }
def PackNoneWrongFalsely : Prop := packNoneRow.holds Try.pinned (OpenSpec.ofChange packNoneWrong)

/-- 'apographlaw02.PackReads': WHATEVER THE INPUT: true; the input reads as it did. -/
def packReadsSpec : ChangeSpec := { name := "packReads", fn := fun _ => fun
  | [d1, d2] => { results := [.lit (.bool true)], args := [d1, d2] }
  | _ => none }
def packReadsRow : OpenClaim := { program := "ytmcgafgmhddliaa", sum := "6608116dd7e40873733558edbc406ce20cd2e11a106eaeaea23ec0fdb2197061", func := "apograph/apographlaw02.PackReads", spec := "packReads", apart := false }
def PackReadsSaid : Prop := packReadsRow.holds Try.pinned (OpenSpec.ofChange packReadsSpec)

/-- ITS FALSE NEIGHBOUR: 'it returns false'. Refute it at one input. -/
def packReadsWrong : ChangeSpec := { name := "packReads", fn := fun _ => fun
  | [d1, d2] => { results := [.lit (.bool false)], args := [d1, d2] }
  | _ => none }
def PackReadsWrongFalsely : Prop := packReadsRow.holds Try.pinned (OpenSpec.ofChange packReadsWrong)

/-- 'apographlaw02.PackFields': WHATEVER THE INPUT: true; the input reads as it did. -/
def packFieldsSpec : ChangeSpec := { name := "packFields", fn := fun _ => fun
  | [d1, d2, d3] => { results := [.lit (.bool true)], args := [d1, d2, d3] }
  | _ => none }
def packFieldsRow : OpenClaim := { program := "ytmcgafgmhddliaa", sum := "6608116dd7e40873733558edbc406ce20cd2e11a106eaeaea23ec0fdb2197061", func := "apograph/apographlaw02.PackFields", spec := "packFields", unfollowed := true, recurses := true, apart := false }
def PackFieldsSaid : Prop := packFieldsRow.holds Try.pinned (OpenSpec.ofChange packFieldsSpec)

/-- ITS FALSE NEIGHBOUR: 'it returns false'. Refute it at one input. -/
def packFieldsWrong : ChangeSpec := { name := "packFields", fn := fun _ => fun
  | [d1, d2, d3] => { results := [.lit (.bool false)], args := [d1, d2, d3] }
  | _ => none }
def PackFieldsWrongFalsely : Prop := packFieldsRow.holds Try.pinned (OpenSpec.ofChange packFieldsWrong)

/- THE SECOND FORM. 'bulk': how many values and letters a reading holds, each counted each time it is reached (what is shared counts as often as it is met; a slice's spare places count too). A statement '..UptoSaid' is the law's where the arguments, and the package variables that the reading takes, are together of bulk at most 1048576: NARROWER than '..Said'. Prove '..Said' where nothing that the law and all that it calls make is longer than what came in: it says more and counts as full. Else prove '..UptoSaid'. A law counts once. -/
mutual
def uptoBulk {H : Type} : DataW H → Nat
  | .lit (.string bytes) => bytes.length + 1
  | .lit _ => 1
  | .nil => 1
  | .ptr d => uptoBulk d + 1
  | .slice elems spare => uptoBulkAll elems + uptoBulkAll spare + 1
  | .agg parts => uptoBulkAll parts + 1
  | .iface _ d => uptoBulk d + 1
  | .map entries => uptoBulkEntries entries + 1
  | .held _ => 1
def uptoBulkAll {H : Type} : List (DataW H) → Nat
  | [] => 0
  | d :: r => uptoBulk d + uptoBulkAll r
def uptoBulkEntries {H : Type} : List (Lit × DataW H) → Nat
  | [] => 0
  | x :: r => uptoBulkEntry x + uptoBulkEntries r
def uptoBulkEntry {H : Type} : Lit × DataW H → Nat
  | (.string bytes, d) => bytes.length + uptoBulk d + 1
  | (_, d) => uptoBulk d + 1
 end
def uptoSmall : (H : Type) → List (DataW H) → Bool := fun _ ds => decide (uptoBulkAll ds ≤ 1048576)
def OpenSpec.upto (s : _root_.Go.ChangeSpec) : _root_.Go.OpenSpec := { _root_.Go.OpenSpec.ofChange s with cond := some uptoSmall }

/-- 'apographlaw03.FnvPieces', WHERE WHAT IT READS IS OF BULK AT MOST 1048576: true; the input reads as it did. -/
def fnvPiecesUptoRow : OpenClaim := { program := "ytmcgafgmhddliaa", sum := "6608116dd7e40873733558edbc406ce20cd2e11a106eaeaea23ec0fdb2197061", func := "apograph/apographlaw03.FnvPieces", spec := "fnvPieces", apart := false, narrowed := true }
def FnvPiecesUptoSaid : Prop := fnvPiecesUptoRow.holds Try.pinned (OpenSpec.upto fnvPiecesSpec)

/-- 'apographlaw03.FnvSums', WHERE WHAT IT READS IS OF BULK AT MOST 1048576: true; the input reads as it did. -/
def fnvSumsUptoRow : OpenClaim := { program := "ytmcgafgmhddliaa", sum := "6608116dd7e40873733558edbc406ce20cd2e11a106eaeaea23ec0fdb2197061", func := "apograph/apographlaw03.FnvSums", spec := "fnvSums", apart := false, narrowed := true }
def FnvSumsUptoSaid : Prop := fnvSumsUptoRow.holds Try.pinned (OpenSpec.upto fnvSumsSpec)

/-- 'apographlaw03.FnvEnds', WHERE WHAT IT READS IS OF BULK AT MOST 1048576: true; the input reads as it did. -/
def fnvEndsUptoRow : OpenClaim := { program := "ytmcgafgmhddliaa", sum := "6608116dd7e40873733558edbc406ce20cd2e11a106eaeaea23ec0fdb2197061", func := "apograph/apographlaw03.FnvEnds", spec := "fnvEnds", apart := false, narrowed := true }
def FnvEndsUptoSaid : Prop := fnvEndsUptoRow.holds Try.pinned (OpenSpec.upto fnvEndsSpec)

/-- 'apographlaw03.FnvLevels', WHERE WHAT IT READS IS OF BULK AT MOST 1048576: true; the input reads as it did. -/
def fnvLevelsUptoRow : OpenClaim := { program := "ytmcgafgmhddliaa", sum := "6608116dd7e40873733558edbc406ce20cd2e11a106eaeaea23ec0fdb2197061", func := "apograph/apographlaw03.FnvLevels", spec := "fnvLevels", apart := false, narrowed := true }
def FnvLevelsUptoSaid : Prop := fnvLevelsUptoRow.holds Try.pinned (OpenSpec.upto fnvLevelsSpec)

/-- 'apographlaw01.LebZig', WHERE WHAT IT READS IS OF BULK AT MOST 1048576: true; the input reads as it did. -/
def lebZigUptoRow : OpenClaim := { program := "ytmcgafgmhddliaa", sum := "6608116dd7e40873733558edbc406ce20cd2e11a106eaeaea23ec0fdb2197061", func := "apograph/apographlaw01.LebZig", spec := "lebZig", apart := false, narrowed := true }
def LebZigUptoSaid : Prop := lebZigUptoRow.holds Try.pinned (OpenSpec.upto lebZigSpec)

/-- 'apographlaw01.LebPuts', WHERE WHAT IT READS IS OF BULK AT MOST 1048576: true; the input reads as it did. -/
def lebPutsUptoRow : OpenClaim := { program := "ytmcgafgmhddliaa", sum := "6608116dd7e40873733558edbc406ce20cd2e11a106eaeaea23ec0fdb2197061", func := "apograph/apographlaw01.LebPuts", spec := "lebPuts", apart := false, narrowed := true }
def LebPutsUptoSaid : Prop := lebPutsUptoRow.holds Try.pinned (OpenSpec.upto lebPutsSpec)

/-- 'apographlaw01.LebGrows', WHERE WHAT IT READS IS OF BULK AT MOST 1048576: true; the input reads as it did. -/
def lebGrowsUptoRow : OpenClaim := { program := "ytmcgafgmhddliaa", sum := "6608116dd7e40873733558edbc406ce20cd2e11a106eaeaea23ec0fdb2197061", func := "apograph/apographlaw01.LebGrows", spec := "lebGrows", apart := false, narrowed := true }
def LebGrowsUptoSaid : Prop := lebGrowsUptoRow.holds Try.pinned (OpenSpec.upto lebGrowsSpec)

/-- 'apographlaw01.LebOf', WHERE WHAT IT READS IS OF BULK AT MOST 1048576: true; the input reads as it did. -/
def lebOfUptoRow : OpenClaim := { program := "ytmcgafgmhddliaa", sum := "6608116dd7e40873733558edbc406ce20cd2e11a106eaeaea23ec0fdb2197061", func := "apograph/apographlaw01.LebOf", spec := "lebOf", apart := false, narrowed := true }
def LebOfUptoSaid : Prop := lebOfUptoRow.holds Try.pinned (OpenSpec.upto lebOfSpec)

/-- 'apographlaw01.LebBack', WHERE WHAT IT READS IS OF BULK AT MOST 1048576: true; the input reads as it did. -/
def lebBackUptoRow : OpenClaim := { program := "ytmcgafgmhddliaa", sum := "6608116dd7e40873733558edbc406ce20cd2e11a106eaeaea23ec0fdb2197061", func := "apograph/apographlaw01.LebBack", spec := "lebBack", apart := false, narrowed := true }
def LebBackUptoSaid : Prop := lebBackUptoRow.holds Try.pinned (OpenSpec.upto lebBackSpec)

/-- 'apographlaw02.PackNone', WHERE WHAT IT READS IS OF BULK AT MOST 1048576: true; the input reads as it did. -/
def packNoneUptoRow : OpenClaim := { program := "ytmcgafgmhddliaa", sum := "6608116dd7e40873733558edbc406ce20cd2e11a106eaeaea23ec0fdb2197061", func := "apograph/apographlaw02.PackNone", spec := "packNone", apart := false, narrowed := true }
def PackNoneUptoSaid : Prop := packNoneUptoRow.holds Try.pinned (OpenSpec.upto packNoneSpec)

/-- 'apographlaw02.PackReads', WHERE WHAT IT READS IS OF BULK AT MOST 1048576: true; the input reads as it did. -/
def packReadsUptoRow : OpenClaim := { program := "ytmcgafgmhddliaa", sum := "6608116dd7e40873733558edbc406ce20cd2e11a106eaeaea23ec0fdb2197061", func := "apograph/apographlaw02.PackReads", spec := "packReads", apart := false, narrowed := true }
def PackReadsUptoSaid : Prop := packReadsUptoRow.holds Try.pinned (OpenSpec.upto packReadsSpec)

/-- 'apographlaw02.PackFields', WHERE WHAT IT READS IS OF BULK AT MOST 1048576: true; the input reads as it did. -/
def packFieldsUptoRow : OpenClaim := { program := "ytmcgafgmhddliaa", sum := "6608116dd7e40873733558edbc406ce20cd2e11a106eaeaea23ec0fdb2197061", func := "apograph/apographlaw02.PackFields", spec := "packFields", unfollowed := true, recurses := true, apart := false, narrowed := true }
def PackFieldsUptoSaid : Prop := packFieldsUptoRow.holds Try.pinned (OpenSpec.upto packFieldsSpec)

end Rows
end Go.Proofs.Ytmcgafgmhddliaa
