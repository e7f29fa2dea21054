/- What a law's arguments are: values of any type out of the reading of their cells. Conditions: none. -/
import Derived.Test.YtcegkljkmnpkaaaWWords
import Derived.WalkKit
import Derived.ProofKit
import Derived.OpenShut
import Derived.ShutString
import Derived.ChangeOld
import Derived.Below
import Derived.Deep.Slices
namespace Go.Proofs.Ytcegkljkmnpkaaa.Sep
open Go.ChangeShapes Go.WideShapes Go.ChangeAt Go.RowKit Go.Proofs.YtcegkljkmnpkaaaW.PrintWords
variable {H : Type} {enc : TypeId × Value → H} {P : Program} {W : World} {base : Nat} {spare : Nat → Bool} {held : Bool}
/-- Cells of type t are read as values of d's, of which ok holds. -/
def Opens (enc : TypeId × Value → H) (P : Program) (W : World) (base : Nat) (spare : Nat → Bool) (held : Bool) (t : TypeId) {α : Type} (d : Kd α) (ok : α → Prop) : Prop :=
  P.cellsOf t = d.sz ∧ ∀ (fuel : Nat) (cs : List Value) (x : DataW H × List MemPlace), DataW.trod enc P W base spare held fuel t cs = some x → ∃ v : α, d.K W v cs ∧ ok v
theorem Opens.int {t : TypeId} {k : IntKind} (hc : P.cellsOf t = 1) (ht : P.underlying t = some (.int k)) : Opens enc P W base spare held t (Kd.int k) (fun n => (Lit.int k n).wf = true) :=
  ⟨hc, fun fuel cs x h => by
    obtain ⟨n, rfl, _, hw⟩ := DataW.trod_int ht h
    exact ⟨n, rfl, hw⟩⟩
theorem Opens.string {t : TypeId} (hc : P.cellsOf t = 1) (ht : P.underlying t = some .string) : Opens enc P W base spare held t Kd.string (fun s => s.size ≤ maxLen) :=
  ⟨hc, fun fuel cs x h => by
    obtain ⟨s, rfl, _, hw⟩ := DataW.trod_string ht h
    exact ⟨s, rfl, hw⟩⟩
theorem Opens.bool {t : TypeId} (hc : P.cellsOf t = 1) (ht : P.underlying t = some .bool) : Opens enc P W base spare held t Kd.bool (fun _ => True) :=
  ⟨hc, fun fuel cs x h => by
    obtain ⟨b, rfl, _⟩ := DataW.trod_bool ht h
    exact ⟨b, rfl, trivial⟩⟩
theorem Opens.slice {α : Type} {t e : TypeId} {d : Kd α} {ok : α → Prop} (hc : P.cellsOf t = 1) (ht : P.underlying t = some (.slice e)) (he : Opens enc P W base spare held e d ok) :
    Opens enc P W base spare held t (Kd.slice e d) (fun xs => xs.length ≤ maxLen ∧ ∀ x ∈ xs, ok x) :=
  ⟨hc, fun fuel cs x h => by
    rcases Go.Deep.open_slice ht h with ⟨rfl, _⟩ | ⟨a, len, cap, m, n, D, Pl, rfl, _, hl, hm, hmm, _, hi⟩
    · exact ⟨[], ⟨none, 0, rfl, Nat.le_refl _, Kd.C_nil _ _⟩, by simp, fun x hx => by simp at hx⟩
    · have hlm : len ≤ m := by
        rw [hmm]
        split
        · exact hl
        · exact Nat.le_refl _
      have hv : ∀ i : Fin len, ∃ v : α, (∃ c : List Value, c.length = d.sz ∧ d.K W v c ∧ ∀ j u, c[j]? = some u → W.cell? (a.add (i.1 * d.sz + j)) = some u) ∧ ok v := fun i => by
        obtain ⟨cs', hcs, htr⟩ := hi i.1 (Nat.lt_of_lt_of_le i.2 hlm)
        obtain ⟨v, hK, hok⟩ := he.2 _ _ _ htr
        obtain ⟨_, hlen, hat⟩ := World.cells?_some hcs
        rw [he.1] at hlen hat
        refine ⟨v, ⟨cs', hlen, hK, fun j u hj => ?_⟩, hok⟩
        have hj' : j < d.sz := by
          rw [← hlen]
          exact (List.getElem?_eq_some_iff.1 hj).1
        have := hat j hj'
        rw [hj, Go.Deep.add_add] at this
        exact this
      obtain ⟨f, hch⟩ : ∃ f : Fin len → α, ∀ i, (∃ c : List Value, c.length = d.sz ∧ d.K W (f i) c ∧ ∀ j u, c[j]? = some u → W.cell? (a.add (i.1 * d.sz + j)) = some u) ∧ ok (f i) := ⟨fun i => Classical.choose (hv i), fun i => Classical.choose_spec (hv i)⟩
      have hxl : (List.ofFn f).length = len := by simp
      have hcm : cap ≤ 9223372036854775807 := hm
      refine ⟨List.ofFn f, ⟨some a, cap, by rw [hxl], by rw [hxl]; exact hl, rfl, by rw [hxl]; omega, fun _ => ⟨a, rfl, fun j p hj => ?_⟩⟩, by rw [hxl]; omega, fun x hx => ?_⟩
      · have hj' : j < len := by
          have := (List.getElem?_eq_some_iff.1 hj).1
          rwa [hxl] at this
        have hp : f ⟨j, hj'⟩ = p := by
          rw [List.getElem?_eq_getElem (by rw [hxl]; exact hj')] at hj
          injection hj with hj
          rw [← hj]
          simp
        rw [← hp]
        obtain ⟨c, h1, h2, h3⟩ := (hch ⟨j, hj'⟩).1
        exact ⟨c, h1, h2, h3⟩
      · obtain ⟨i, rfl⟩ := List.mem_ofFn.1 hx
        exact (hch i).2⟩
/-- A field, and those behind it. -/
theorem pair_at {α β : Type} {d1 : Kd α} {d2 : Kd β} {v1 : α} {v2 : β} {cs : List Value} {o n : Nat} (h1 : d1.K W v1 ((cs.drop o).take n)) (h2 : d2.K W v2 (cs.drop (o + n))) : (Kd.pair d1 d2).K W (v1, v2) (cs.drop o) :=
  ⟨_, _, by rw [← List.drop_drop]; exact (List.take_append_drop n (cs.drop o)).symm, h1, h2⟩
theorem last_at {α : Type} {d : Kd α} {v : α} {cs : List Value} {o n : Nat} (h : d.K W v ((cs.drop o).take n)) (hl : cs.length = o + n) : d.K W v (cs.drop o) := by
  rw [List.take_of_length_le (by rw [List.length_drop]; omega)] at h
  exact h
theorem field_at {α : Type} {t o : Nat} {d : Kd α} {ok : α → Prop} {n : Nat} {cs : List Value} {xs : List (DataW H × List MemPlace)} {i : Nat} (hO : Opens enc P W base spare held t d ok) (hi : i < xs.length)
    (h : DataW.trod enc P W base spare held n t ((cs.drop o).take (P.cellsOf t)) = xs[i]?) : ∃ v : α, d.K W v ((cs.drop o).take d.sz) ∧ ok v := by
  rw [List.getElem?_eq_getElem hi, hO.1] at h
  exact hO.2 _ _ _ h
end Go.Proofs.Ytcegkljkmnpkaaa.Sep
