/- Written by a program of this session (wip/tools/opens_gen.py). Arguments that are structs, or rows of them: values out of their cells. Conditions: none. -/
import Derived.Test.YtcegkljkmnpkaaaOpens
import Derived.Test.YtcegkljkmnpkaaaPDatx0
namespace Go.Proofs.Ytcegkljkmnpkaaa.Sep
open Go.ChangeShapes Go.WideShapes Go.ChangeAt Go.RowKit Go.Proofs.YtcegkljkmnpkaaaW.PrintWords
open Go.Proofs.Ytcegkljkmnpkaaa.PDat (S53 k53 S47 k47 S57 k57 S59 k59 S62 k62)
/-- What holds of a value of type 53. -/
def ok53 (x : S53) : Prop := x.f0.size ≤ maxLen ∧ x.f1.size ≤ maxLen
theorem open53 {H : Type} {enc : TypeId × Value → H} {W : World} {base : Nat} {spare : Nat → Bool} {held : Bool} : Opens enc Try.prog W base spare held 53 k53 ok53 :=
  ⟨by kernel_rfl, fun fuel cs x h => by
    obtain ⟨xs, n, -, -, hl, hx, hf⟩ := DataW.trod_struct Try.underlying53 h
    have hxs : xs.length = 2 := hx
    have hlen : cs.length = k53.sz := hl.trans (by kernel_rfl)
    obtain ⟨v0, K0, o0⟩ := field_at (o := 0) (d := Kd.string) (Opens.string (by kernel_rfl) Try.underlying9) (i := 0) (by omega) (hf 0 _ rfl)
    obtain ⟨v1, K1, o1⟩ := field_at (o := 1) (d := Kd.string) (Opens.string (by kernel_rfl) Try.underlying9) (i := 1) (by omega) (hf 1 _ rfl)
    exact ⟨⟨v0, v1⟩, (pair_at (o := 0) K0 (last_at (o := 1) K1 hlen)), o0, o1⟩⟩
/-- What holds of a value of type 47. -/
def ok47 (x : S47) : Prop := x.f0.size ≤ maxLen ∧ True ∧ x.f2.size ≤ maxLen ∧ True ∧ x.f4.size ≤ maxLen
theorem open47 {H : Type} {enc : TypeId × Value → H} {W : World} {base : Nat} {spare : Nat → Bool} {held : Bool} : Opens enc Try.prog W base spare held 47 k47 ok47 :=
  ⟨by kernel_rfl, fun fuel cs x h => by
    obtain ⟨xs, n, -, -, hl, hx, hf⟩ := DataW.trod_struct Try.underlying47 h
    have hxs : xs.length = 5 := hx
    have hlen : cs.length = k47.sz := hl.trans (by kernel_rfl)
    obtain ⟨v0, K0, o0⟩ := field_at (o := 0) (d := Kd.string) (Opens.string (by kernel_rfl) Try.underlying9) (i := 0) (by omega) (hf 0 _ rfl)
    obtain ⟨v1, K1, o1⟩ := field_at (o := 1) (d := Kd.bool) (Opens.bool (by kernel_rfl) Try.underlying4) (i := 1) (by omega) (hf 1 _ rfl)
    obtain ⟨v2, K2, o2⟩ := field_at (o := 2) (d := Kd.string) (Opens.string (by kernel_rfl) Try.underlying9) (i := 2) (by omega) (hf 2 _ rfl)
    obtain ⟨v3, K3, o3⟩ := field_at (o := 3) (d := Kd.bool) (Opens.bool (by kernel_rfl) Try.underlying4) (i := 3) (by omega) (hf 3 _ rfl)
    obtain ⟨v4, K4, o4⟩ := field_at (o := 4) (d := Kd.string) (Opens.string (by kernel_rfl) Try.underlying9) (i := 4) (by omega) (hf 4 _ rfl)
    exact ⟨⟨v0, v1, v2, v3, v4⟩, (pair_at (o := 0) K0 (pair_at (o := 1) K1 (pair_at (o := 2) K2 (pair_at (o := 3) K3 (last_at (o := 4) K4 hlen))))), o0, o1, o2, o3, o4⟩⟩
/-- What holds of a value of type 57. -/
def ok57 (x : S57) : Prop := True ∧ x.f1.size ≤ maxLen
theorem open57 {H : Type} {enc : TypeId × Value → H} {W : World} {base : Nat} {spare : Nat → Bool} {held : Bool} : Opens enc Try.prog W base spare held 57 k57 ok57 :=
  ⟨by kernel_rfl, fun fuel cs x h => by
    obtain ⟨xs, n, -, -, hl, hx, hf⟩ := DataW.trod_struct Try.underlying57 h
    have hxs : xs.length = 2 := hx
    have hlen : cs.length = k57.sz := hl.trans (by kernel_rfl)
    obtain ⟨v0, K0, o0⟩ := field_at (o := 0) (d := Kd.bool) (Opens.bool (by kernel_rfl) Try.underlying4) (i := 0) (by omega) (hf 0 _ rfl)
    obtain ⟨v1, K1, o1⟩ := field_at (o := 1) (d := Kd.string) (Opens.string (by kernel_rfl) Try.underlying9) (i := 1) (by omega) (hf 1 _ rfl)
    exact ⟨⟨v0, v1⟩, (pair_at (o := 0) K0 (last_at (o := 1) K1 hlen)), o0, o1⟩⟩
/-- What holds of a value of type 59. -/
def ok59 (x : S59) : Prop := x.f0.size ≤ maxLen ∧ ok57 x.f1 ∧ ok57 x.f2 ∧ ok57 x.f3
theorem open59 {H : Type} {enc : TypeId × Value → H} {W : World} {base : Nat} {spare : Nat → Bool} {held : Bool} : Opens enc Try.prog W base spare held 59 k59 ok59 :=
  ⟨by kernel_rfl, fun fuel cs x h => by
    obtain ⟨xs, n, -, -, hl, hx, hf⟩ := DataW.trod_struct Try.underlying59 h
    have hxs : xs.length = 4 := hx
    have hlen : cs.length = k59.sz := hl.trans (by kernel_rfl)
    obtain ⟨v0, K0, o0⟩ := field_at (o := 0) (d := Kd.string) (Opens.string (by kernel_rfl) Try.underlying9) (i := 0) (by omega) (hf 0 _ rfl)
    obtain ⟨v1, K1, o1⟩ := field_at (o := 1) (d := k57) open57 (i := 1) (by omega) (hf 1 _ rfl)
    obtain ⟨v2, K2, o2⟩ := field_at (o := 3) (d := k57) open57 (i := 2) (by omega) (hf 2 _ rfl)
    obtain ⟨v3, K3, o3⟩ := field_at (o := 5) (d := k57) open57 (i := 3) (by omega) (hf 3 _ rfl)
    exact ⟨⟨v0, v1, v2, v3⟩, (pair_at (o := 0) K0 (pair_at (o := 1) K1 (pair_at (o := 3) K2 (last_at (o := 5) K3 hlen)))), o0, o1, o2, o3⟩⟩
/-- What holds of a value of type 62. -/
def ok62 (x : S62) : Prop := x.f0.size ≤ maxLen ∧ True ∧ (Lit.int .u64 x.f2).wf = true
theorem open62 {H : Type} {enc : TypeId × Value → H} {W : World} {base : Nat} {spare : Nat → Bool} {held : Bool} : Opens enc Try.prog W base spare held 62 k62 ok62 :=
  ⟨by kernel_rfl, fun fuel cs x h => by
    obtain ⟨xs, n, -, -, hl, hx, hf⟩ := DataW.trod_struct Try.underlying62 h
    have hxs : xs.length = 3 := hx
    have hlen : cs.length = k62.sz := hl.trans (by kernel_rfl)
    obtain ⟨v0, K0, o0⟩ := field_at (o := 0) (d := Kd.string) (Opens.string (by kernel_rfl) Try.underlying9) (i := 0) (by omega) (hf 0 _ rfl)
    obtain ⟨v1, K1, o1⟩ := field_at (o := 1) (d := Kd.bool) (Opens.bool (by kernel_rfl) Try.underlying4) (i := 1) (by omega) (hf 1 _ rfl)
    obtain ⟨v2, K2, o2⟩ := field_at (o := 2) (d := Kd.int .u64) (Opens.int (by kernel_rfl) Try.underlying23) (i := 2) (by omega) (hf 2 _ rfl)
    exact ⟨⟨v0, v1, v2⟩, (pair_at (o := 0) K0 (pair_at (o := 1) K1 (last_at (o := 2) K2 hlen))), o0, o1, o2⟩⟩
end Go.Proofs.Ytcegkljkmnpkaaa.Sep
