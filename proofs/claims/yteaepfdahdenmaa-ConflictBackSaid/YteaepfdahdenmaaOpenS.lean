/- Written by a program of this session (wip/tools/opens_gen.py). Arguments that are structs, or rows of them: values out of their cells. Conditions: none. -/
import Derived.Test.YteaepfdahdenmaaOpens
import Derived.Test.YteaepfdahdenmaaPDatx0
namespace Go.Proofs.Yteaepfdahdenmaa.Sep
open Go.ChangeShapes Go.WideShapes Go.ChangeAt Go.RowKit Go.Proofs.YteaepfdahdenmaaW.PrintWords
open Go.Proofs.Yteaepfdahdenmaa.PDat (S44 k44 S46 k46)
/-- What holds of a value of type 44. -/
def ok44 (x : S44) : Prop := True ∧ x.f1.size ≤ maxLen
theorem open44 {H : Type} {enc : TypeId × Value → H} {W : World} {base : Nat} {spare : Nat → Bool} {held : Bool} : Opens enc Try.prog W base spare held 44 k44 ok44 :=
  ⟨by kernel_rfl, fun fuel cs x h => by
    obtain ⟨xs, n, -, -, hl, hx, hf⟩ := DataW.trod_struct Try.underlying44 h
    have hxs : xs.length = 2 := hx
    have hlen : cs.length = k44.sz := hl.trans (by kernel_rfl)
    obtain ⟨v0, K0, o0⟩ := field_at (o := 0) (d := Kd.bool) (Opens.bool (by kernel_rfl) Try.underlying4) (i := 0) (by omega) (hf 0 _ rfl)
    obtain ⟨v1, K1, o1⟩ := field_at (o := 1) (d := Kd.string) (Opens.string (by kernel_rfl) Try.underlying9) (i := 1) (by omega) (hf 1 _ rfl)
    exact ⟨⟨v0, v1⟩, (pair_at (o := 0) K0 (last_at (o := 1) K1 hlen)), o0, o1⟩⟩
/-- What holds of a value of type 46. -/
def ok46 (x : S46) : Prop := x.f0.size ≤ maxLen ∧ ok44 x.f1 ∧ ok44 x.f2 ∧ ok44 x.f3
theorem open46 {H : Type} {enc : TypeId × Value → H} {W : World} {base : Nat} {spare : Nat → Bool} {held : Bool} : Opens enc Try.prog W base spare held 46 k46 ok46 :=
  ⟨by kernel_rfl, fun fuel cs x h => by
    obtain ⟨xs, n, -, -, hl, hx, hf⟩ := DataW.trod_struct Try.underlying46 h
    have hxs : xs.length = 4 := hx
    have hlen : cs.length = k46.sz := hl.trans (by kernel_rfl)
    obtain ⟨v0, K0, o0⟩ := field_at (o := 0) (d := Kd.string) (Opens.string (by kernel_rfl) Try.underlying9) (i := 0) (by omega) (hf 0 _ rfl)
    obtain ⟨v1, K1, o1⟩ := field_at (o := 1) (d := k44) open44 (i := 1) (by omega) (hf 1 _ rfl)
    obtain ⟨v2, K2, o2⟩ := field_at (o := 3) (d := k44) open44 (i := 2) (by omega) (hf 2 _ rfl)
    obtain ⟨v3, K3, o3⟩ := field_at (o := 5) (d := k44) open44 (i := 3) (by omega) (hf 3 _ rfl)
    exact ⟨⟨v0, v1, v2, v3⟩, (pair_at (o := 0) K0 (pair_at (o := 1) K1 (pair_at (o := 3) K2 (last_at (o := 5) K3 hlen)))), o0, o1, o2, o3⟩⟩
end Go.Proofs.Yteaepfdahdenmaa.Sep
