/- Written by a program of this session (wip/tools/opens_gen.py). Arguments that are structs, or rows of them: values out of their cells. Conditions: none. -/
import Derived.Test.YtabfjjcbceibpaaOpens
import Derived.Test.YtabfjjcbceibpaaPDatx0
namespace Go.Proofs.Ytabfjjcbceibpaa.Sep
open Go.ChangeShapes Go.WideShapes Go.ChangeAt Go.RowKit Go.Proofs.YtabfjjcbceibpaaW.PrintWords
open Go.Proofs.Ytabfjjcbceibpaa.PDat (S72 k72 S74 k74 S46 k46 S48 k48)
/-- What holds of a value of type 72. -/
def ok72 (x : S72) : Prop := True ∧ x.f1.size ≤ maxLen
theorem open72 {H : Type} {enc : TypeId × Value → H} {W : World} {base : Nat} {spare : Nat → Bool} {held : Bool} : Opens enc Try.prog W base spare held 72 k72 ok72 :=
  ⟨by kernel_rfl, fun fuel cs x h => by
    obtain ⟨xs, n, -, -, hl, hx, hf⟩ := DataW.trod_struct Try.underlying72 h
    have hxs : xs.length = 2 := hx
    have hlen : cs.length = k72.sz := hl.trans (by kernel_rfl)
    obtain ⟨v0, K0, o0⟩ := field_at (o := 0) (d := Kd.bool) (Opens.bool (by kernel_rfl) Try.underlying4) (i := 0) (by omega) (hf 0 _ rfl)
    obtain ⟨v1, K1, o1⟩ := field_at (o := 1) (d := Kd.string) (Opens.string (by kernel_rfl) Try.underlying9) (i := 1) (by omega) (hf 1 _ rfl)
    exact ⟨⟨v0, v1⟩, (pair_at (o := 0) K0 (last_at (o := 1) K1 hlen)), o0, o1⟩⟩
/-- What holds of a value of type 74. -/
def ok74 (x : S74) : Prop := x.f0.size ≤ maxLen ∧ ok72 x.f1 ∧ ok72 x.f2 ∧ ok72 x.f3
theorem open74 {H : Type} {enc : TypeId × Value → H} {W : World} {base : Nat} {spare : Nat → Bool} {held : Bool} : Opens enc Try.prog W base spare held 74 k74 ok74 :=
  ⟨by kernel_rfl, fun fuel cs x h => by
    obtain ⟨xs, n, -, -, hl, hx, hf⟩ := DataW.trod_struct Try.underlying74 h
    have hxs : xs.length = 4 := hx
    have hlen : cs.length = k74.sz := hl.trans (by kernel_rfl)
    obtain ⟨v0, K0, o0⟩ := field_at (o := 0) (d := Kd.string) (Opens.string (by kernel_rfl) Try.underlying9) (i := 0) (by omega) (hf 0 _ rfl)
    obtain ⟨v1, K1, o1⟩ := field_at (o := 1) (d := k72) open72 (i := 1) (by omega) (hf 1 _ rfl)
    obtain ⟨v2, K2, o2⟩ := field_at (o := 3) (d := k72) open72 (i := 2) (by omega) (hf 2 _ rfl)
    obtain ⟨v3, K3, o3⟩ := field_at (o := 5) (d := k72) open72 (i := 3) (by omega) (hf 3 _ rfl)
    exact ⟨⟨v0, v1, v2, v3⟩, (pair_at (o := 0) K0 (pair_at (o := 1) K1 (pair_at (o := 3) K2 (last_at (o := 5) K3 hlen)))), o0, o1, o2, o3⟩⟩
/-- What holds of a value of type 46. -/
def ok46 (x : S46) : Prop := x.f0.size ≤ maxLen ∧ True ∧ (Lit.int .u64 x.f2).wf = true
theorem open46 {H : Type} {enc : TypeId × Value → H} {W : World} {base : Nat} {spare : Nat → Bool} {held : Bool} : Opens enc Try.prog W base spare held 46 k46 ok46 :=
  ⟨by kernel_rfl, fun fuel cs x h => by
    obtain ⟨xs, n, -, -, hl, hx, hf⟩ := DataW.trod_struct Try.underlying46 h
    have hxs : xs.length = 3 := hx
    have hlen : cs.length = k46.sz := hl.trans (by kernel_rfl)
    obtain ⟨v0, K0, o0⟩ := field_at (o := 0) (d := Kd.string) (Opens.string (by kernel_rfl) Try.underlying9) (i := 0) (by omega) (hf 0 _ rfl)
    obtain ⟨v1, K1, o1⟩ := field_at (o := 1) (d := Kd.bool) (Opens.bool (by kernel_rfl) Try.underlying4) (i := 1) (by omega) (hf 1 _ rfl)
    obtain ⟨v2, K2, o2⟩ := field_at (o := 2) (d := Kd.int .u64) (Opens.int (by kernel_rfl) Try.underlying24) (i := 2) (by omega) (hf 2 _ rfl)
    exact ⟨⟨v0, v1, v2⟩, (pair_at (o := 0) K0 (pair_at (o := 1) K1 (last_at (o := 2) K2 hlen))), o0, o1, o2⟩⟩
/-- What holds of a value of type 48. -/
def ok48 (x : S48) : Prop := (Lit.int .u64 x.f0).wf = true ∧ (Lit.int .u64 x.f1).wf = true
theorem open48 {H : Type} {enc : TypeId × Value → H} {W : World} {base : Nat} {spare : Nat → Bool} {held : Bool} : Opens enc Try.prog W base spare held 48 k48 ok48 :=
  ⟨by kernel_rfl, fun fuel cs x h => by
    obtain ⟨xs, n, -, -, hl, hx, hf⟩ := DataW.trod_struct Try.underlying48 h
    have hxs : xs.length = 2 := hx
    have hlen : cs.length = k48.sz := hl.trans (by kernel_rfl)
    obtain ⟨v0, K0, o0⟩ := field_at (o := 0) (d := Kd.int .u64) (Opens.int (by kernel_rfl) Try.underlying24) (i := 0) (by omega) (hf 0 _ rfl)
    obtain ⟨v1, K1, o1⟩ := field_at (o := 1) (d := Kd.int .u64) (Opens.int (by kernel_rfl) Try.underlying24) (i := 1) (by omega) (hf 1 _ rfl)
    exact ⟨⟨v0, v1⟩, (pair_at (o := 0) K0 (last_at (o := 1) K1 hlen)), o0, o1⟩⟩
end Go.Proofs.Ytabfjjcbceibpaa.Sep
