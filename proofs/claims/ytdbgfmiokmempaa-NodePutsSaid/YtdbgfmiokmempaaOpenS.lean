/- Written by a program of this session (wip/tools/opens_gen.py). Arguments that are structs, or rows of them: values out of their cells. Conditions: none. -/
import Derived.Test.YtdbgfmiokmempaaOpens
import Derived.Test.YtdbgfmiokmempaaPDatx0
namespace Go.Proofs.Ytdbgfmiokmempaa.Sep
open Go.ChangeShapes Go.WideShapes Go.ChangeAt Go.RowKit Go.Proofs.YtdbgfmiokmempaaW.PrintWords
open Go.Proofs.Ytdbgfmiokmempaa.PDat (S27 k27 S60 k60)
/-- What holds of a value of type 27. -/
def ok27 (x : S27) : Prop := x.f0.size ≤ maxLen ∧ x.f1.size ≤ maxLen
theorem open27 {H : Type} {enc : TypeId × Value → H} {W : World} {base : Nat} {spare : Nat → Bool} {held : Bool} : Opens enc Try.prog W base spare held 27 k27 ok27 :=
  ⟨by kernel_rfl, fun fuel cs x h => by
    obtain ⟨xs, n, -, -, hl, hx, hf⟩ := DataW.trod_struct Try.underlying27 h
    have hxs : xs.length = 2 := hx
    have hlen : cs.length = k27.sz := hl.trans (by kernel_rfl)
    obtain ⟨v0, K0, o0⟩ := field_at (o := 0) (d := Kd.string) (Opens.string (by kernel_rfl) Try.underlying9) (i := 0) (by omega) (hf 0 _ rfl)
    obtain ⟨v1, K1, o1⟩ := field_at (o := 1) (d := Kd.string) (Opens.string (by kernel_rfl) Try.underlying9) (i := 1) (by omega) (hf 1 _ rfl)
    exact ⟨⟨v0, v1⟩, (pair_at (o := 0) K0 (last_at (o := 1) K1 hlen)), o0, o1⟩⟩
/-- What holds of a value of type 60. -/
def ok60 (x : S60) : Prop := x.f0.size ≤ maxLen ∧ (Lit.int .u64 x.f1).wf = true
theorem open60 {H : Type} {enc : TypeId × Value → H} {W : World} {base : Nat} {spare : Nat → Bool} {held : Bool} : Opens enc Try.prog W base spare held 60 k60 ok60 :=
  ⟨by kernel_rfl, fun fuel cs x h => by
    obtain ⟨xs, n, -, -, hl, hx, hf⟩ := DataW.trod_struct Try.underlying60 h
    have hxs : xs.length = 2 := hx
    have hlen : cs.length = k60.sz := hl.trans (by kernel_rfl)
    obtain ⟨v0, K0, o0⟩ := field_at (o := 0) (d := Kd.string) (Opens.string (by kernel_rfl) Try.underlying9) (i := 0) (by omega) (hf 0 _ rfl)
    obtain ⟨v1, K1, o1⟩ := field_at (o := 1) (d := Kd.int .u64) (Opens.int (by kernel_rfl) Try.underlying58) (i := 1) (by omega) (hf 1 _ rfl)
    exact ⟨⟨v0, v1⟩, (pair_at (o := 0) K0 (last_at (o := 1) K1 hlen)), o0, o1⟩⟩
end Go.Proofs.Ytdbgfmiokmempaa.Sep
