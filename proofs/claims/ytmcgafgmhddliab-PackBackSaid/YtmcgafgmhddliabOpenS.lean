/- Written by a program of this session (wip/tools/opens_gen.py). Arguments that are structs, or rows of them: values out of their cells. Conditions: none. -/
import Derived.Test.YtmcgafgmhddliabOpens
import Derived.Test.YtmcgafgmhddliabPDatx0
namespace Go.Proofs.Ytmcgafgmhddliab.Sep
open Go.ChangeShapes Go.WideShapes Go.ChangeAt Go.RowKit Go.Proofs.YtmcgafgmhddliabW.PrintWords
open Go.Proofs.Ytmcgafgmhddliab.PDat (S28 k28)
/-- What holds of a value of type 28. -/
def ok28 (x : S28) : Prop := (Lit.int .i64 x.f0).wf = true ∧ (Lit.int .u64 x.f1).wf = true ∧ x.f2.size ≤ maxLen ∧ True
theorem open28 {H : Type} {enc : TypeId × Value → H} {W : World} {base : Nat} {spare : Nat → Bool} {held : Bool} : Opens enc Try.prog W base spare held 28 k28 ok28 :=
  ⟨by kernel_rfl, fun fuel cs x h => by
    obtain ⟨xs, n, -, -, hl, hx, hf⟩ := DataW.trod_struct Try.underlying28 h
    have hxs : xs.length = 4 := hx
    have hlen : cs.length = k28.sz := hl.trans (by kernel_rfl)
    obtain ⟨v0, K0, o0⟩ := field_at (o := 0) (d := Kd.int .i64) (Opens.int (by kernel_rfl) Try.underlying3) (i := 0) (by omega) (hf 0 _ rfl)
    obtain ⟨v1, K1, o1⟩ := field_at (o := 1) (d := Kd.int .u64) (Opens.int (by kernel_rfl) Try.underlying26) (i := 1) (by omega) (hf 1 _ rfl)
    obtain ⟨v2, K2, o2⟩ := field_at (o := 2) (d := Kd.string) (Opens.string (by kernel_rfl) Try.underlying9) (i := 2) (by omega) (hf 2 _ rfl)
    obtain ⟨v3, K3, o3⟩ := field_at (o := 3) (d := Kd.bool) (Opens.bool (by kernel_rfl) Try.underlying4) (i := 3) (by omega) (hf 3 _ rfl)
    exact ⟨⟨v0, v1, v2, v3⟩, (pair_at (o := 0) K0 (pair_at (o := 1) K1 (pair_at (o := 2) K2 (last_at (o := 3) K3 hlen)))), o0, o1, o2, o3⟩⟩
end Go.Proofs.Ytmcgafgmhddliab.Sep
