/- Written by a program of this session (wip/tools/opens_gen.py). Arguments that are structs, or rows of them: values out of their cells. Conditions: none. -/
import Derived.Test.YtbnlfiklkddolaaOpens
import Derived.Test.YtbnlfiklkddolaaPDatx0
namespace Go.Proofs.Ytbnlfiklkddolaa.Sep
open Go.ChangeShapes Go.WideShapes Go.ChangeAt Go.RowKit Go.Proofs.YtbnlfiklkddolaaW.PrintWords
open Go.Proofs.Ytbnlfiklkddolaa.PDat (S38 k38)
/-- What holds of a value of type 38. -/
def ok38 (x : S38) : Prop := x.f0.size ≤ maxLen ∧ x.f1.size ≤ maxLen
theorem open38 {H : Type} {enc : TypeId × Value → H} {W : World} {base : Nat} {spare : Nat → Bool} {held : Bool} : Opens enc Try.prog W base spare held 38 k38 ok38 :=
  ⟨by kernel_rfl, fun fuel cs x h => by
    obtain ⟨xs, n, -, -, hl, hx, hf⟩ := DataW.trod_struct Try.underlying38 h
    have hxs : xs.length = 2 := hx
    have hlen : cs.length = k38.sz := hl.trans (by kernel_rfl)
    obtain ⟨v0, K0, o0⟩ := field_at (o := 0) (d := Kd.string) (Opens.string (by kernel_rfl) Try.underlying9) (i := 0) (by omega) (hf 0 _ rfl)
    obtain ⟨v1, K1, o1⟩ := field_at (o := 1) (d := Kd.string) (Opens.string (by kernel_rfl) Try.underlying9) (i := 1) (by omega) (hf 1 _ rfl)
    exact ⟨⟨v0, v1⟩, (pair_at (o := 0) K0 (last_at (o := 1) K1 hlen)), o0, o1⟩⟩
end Go.Proofs.Ytbnlfiklkddolaa.Sep
