/- Small words on which blocks of memory turn, told by the types of their cells. Conditions: none. -/
import Derived.Test.YtcegkljkmnpkaaaLebForms1
namespace Go.Proofs.Ytcegkljkmnpkaaa.Sep
open Go.RowKit Go.Proofs.Ytcegkljkmnpkaaa.PCore Go.Proofs.Ytcegkljkmnpkaaa.Plain Go.Proofs.YtcegkljkmnpkaaaW.PrintWords Go.Proofs.YtcegkljkmnpkaaaW.PrintLast Go.Proofs.YtcegkljkmnpkaaaW.PrintMore
/-- Block k of W holds cells of type t. -/
def Ty (W : World) (k t : Nat) : Prop := ∃ cs fr, W.heap[k]? = some (.cells cs t fr)
theorem Ty.lt {W : World} {k t : Nat} (h : Ty W k t) : k < W.heap.size := by
  obtain ⟨cs, fr, h⟩ := h
  exact blk_lt h
theorem Ty.one {W : World} {k t t' : Nat} (h : Ty W k t) (h' : Ty W k t') : t = t' := by
  obtain ⟨cs, fr, h⟩ := h
  obtain ⟨cs', fr', h'⟩ := h'
  rw [h] at h'
  injection h' with h'
  injection h' with _ h'
/-- From W to W1 only blocks from B on and of the types T have turned, and new ones have come. -/
structure Fr (B : Nat) (T : List Nat) (W W1 : World) : Prop where
  os : W1.os = W.os
  tape : W1.tape = W.tape
  output : W1.output = W.output
  size : W.heap.size ≤ W1.heap.size
  block : ∀ k, k < W.heap.size → (k < B ∨ ∀ t, t ∈ T → ¬ Ty W k t) → W1.heap[k]? = W.heap[k]?
section
variable {B : Nat} {T : List Nat} {W W1 W2 : World}
theorem Fr.refl (B : Nat) (T : List Nat) (W : World) : Fr B T W W := ⟨rfl, rfl, rfl, Nat.le_refl _, fun _ _ _ => rfl⟩
theorem Fr.of_below (h : Below W.heap.size W W1) : Fr B T W W1 := ⟨h.os, h.tape, h.output, h.size, fun k hk _ => h.block k hk⟩
theorem Fr.below (h : Fr B T W W1) (hB : B ≤ W.heap.size) : Below B W W1 := ⟨h.os, h.tape, h.output, h.size, fun k hk => h.block k (Nat.lt_of_lt_of_le hk hB) (.inl hk)⟩
theorem Fr.trans (h : Fr B T W W1) (k : Fr B T W1 W2) : Fr B T W W2 :=
  ⟨k.os.trans h.os, k.tape.trans h.tape, k.output.trans h.output, Nat.le_trans h.size k.size, fun i hi hT => (k.block i (Nat.lt_of_lt_of_le hi h.size) (hT.imp id (fun hT t ht hty => hT t ht (by
    obtain ⟨cs, fr, hc⟩ := hty
    exact ⟨cs, fr, (h.block i hi (.inr hT)).symm.trans hc⟩)))).trans (h.block i hi hT)⟩
theorem Fr.mono {T' : List Nat} (h : Fr B T W W1) (hT : ∀ t, t ∈ T → t ∈ T') : Fr B T' W W1 := ⟨h.os, h.tape, h.output, h.size, fun k hk hk' => h.block k hk (hk'.imp id (fun h' t ht => h' t (hT t ht)))⟩
theorem Fr.lower {B' : Nat} (h : Fr B T W W1) (hB : B' ≤ B) : Fr B' T W W1 := ⟨h.os, h.tape, h.output, h.size, fun k hk hk' => h.block k hk (hk'.imp (fun h' => Nat.lt_of_lt_of_le h' hB) id)⟩
theorem Fr.alloc {o : Obj} (h : Fr B T (W.alloc o) W1) : Fr B T W W1 := Fr.trans (Fr.of_below (below_alloc (Below.refl _ _) o)) h
theorem Fr.allocs (h : Fr B T W W1) (o : Obj) : Fr B T W (W1.alloc o) := Fr.trans h (Fr.of_below (below_alloc (Below.refl _ _) o))
theorem Fr.drewN (h : Fr B T W W1) (n : Nat) : Fr B T W (W1.drewN n) := Fr.trans h (Fr.of_below (pw_below_drewN (Below.refl _ _) n))
theorem Fr.drew (h : Fr B T W W1) : Fr B T W W1.drew := Fr.trans h (Fr.of_below (below_drew (Below.refl _ _)))
theorem Fr.set (h : Fr B T W W1) {g t : Nat} {cs : Array Value} (hb : W.heap[g]? = some (.cells cs t (0, 0))) (hg : B ≤ g) (ht : t ∈ T) (j : Nat) (u : Value) : Fr B T W (W1.setCell ⟨g, j, none⟩ u) :=
  ⟨h.os, h.tape, h.output, by simpa [World.setCell] using h.size, fun k hk hT => by
    have hne : k ≠ g := by
      rintro rfl
      rcases hT with hT | hT
      · omega
      · exact hT t ht ⟨cs, _, hb⟩
    rw [Below.heap_setCell _ _ _ _ hne]
    exact h.block k hk hT⟩
theorem Fr.of_grown {base size n e : Nat} {v : Value} {xs : List Value} (h : W.ownsRow base e size v n xs) (hB : B ≤ base) (hg : W.grownBy W1 v.ownBlock) (he : e ∈ T) : Fr B T W W1 :=
  ⟨hg.os, hg.tape, hg.output, hg.size, fun k hk hT => hg.block k hk (fun ek => by
    obtain ⟨cs, hc⟩ := own_typed h k ek.symm
    have := own_base h k ek.symm
    rcases hT with hT | hT
    · omega
    · exact hT e he ⟨cs, _, hc⟩)⟩
theorem Fr.keep (h : Fr B T W W1) {k t : Nat} (hk : Ty W k t) (ht : t ∉ T) : W1.heap[k]? = W.heap[k]? :=
  h.block k hk.lt (.inr fun _ ht' hk' => ht (hk.one hk' ▸ ht'))
theorem Fr.ty (h : Fr B T W W1) {k t : Nat} (hk : Ty W k t) (ht : t ∉ T) : Ty W1 k t := by
  obtain ⟨cs, fr, hc⟩ := hk
  exact ⟨cs, fr, (h.keep ⟨cs, fr, hc⟩ ht).trans hc⟩
theorem Fr.blk (h : Fr B T W W1) {g t : Nat} {cs : Array Value} (hb : W.heap[g]? = some (.cells cs t (0, 0))) (ht : t ∉ T) : W1.heap[g]? = some (.cells cs t (0, 0)) :=
  (h.keep ⟨cs, _, hb⟩ ht).trans hb
theorem Fr.R {α : Type} {d : Kd α} {e base : Nat} {ok : Nat → Prop} {v : Value} {xs : List α} (h : Fr B T W W1) (hr : d.R e W base ok v xs) (ht : ∀ q, q ∈ e :: d.E → q ∉ T) : d.R e W1 base ok v xs :=
  Kd.R_mono (Kd.R_step (Kd.R_bound hr) (fun k hk _ => by
    obtain ⟨_, _, _, q, hq, cs, hc⟩ := hk
    exact h.keep ⟨cs, _, hc⟩ (ht q hq))) (fun _ hk => hk.1)
theorem Fr.M {α : Type} {d : Kd α} {base : Nat} {ok : Nat → Prop} {x : α} {cs : List Value} (h : Fr B T W W1) (hr : d.M W base ok x cs) (ht : ∀ q, q ∈ d.E → q ∉ T) : d.M W1 base ok x cs :=
  d.M_mono (fun _ hk => hk.1) (Kd.M_step (d.M_bound hr) (fun k hk _ => by
    obtain ⟨_, _, _, q, hq, cs, hc⟩ := hk
    exact h.keep ⟨cs, _, hc⟩ (ht q hq)))
/-- Whole numbers that are read out of a block that stays. -/
theorem C_same {k : IntKind} {A : Option Addr} {n : Nat} {xs : List Int} (h : Kd.C (Kd.int k) W A n xs) (hs : 0 < n → ∀ ad, A = some ad → W1.heap[ad.block]? = W.heap[ad.block]?) : Kd.C (Kd.int k) W1 A n xs := by
  have hr : ReadsInt W k A n xs := Kd.reads_of_C (d := 0) h
  refine Kd.C_of_reads (h1 := fun _ => rfl) (show ReadsInt W1 k A n xs from ⟨hr.1, hr.2.1, fun hn => ?_⟩)
  obtain ⟨ad, e, hc⟩ := hr.2.2 hn
  refine ⟨ad, e, fun j hj => ?_⟩
  have hb : (ad.add j).block = ad.block := add_block ad j
  rw [← hc j hj]
  exact World.cell?_of_block (by rw [hb]; exact hs hn ad e)
theorem lit_reads (k : IntKind) (e : Nat) (W : World) (xs : List Int) (hm : xs.length ≤ 9223372036854775807) : Kd.C (Kd.int k) (W.alloc (.cells (nums k xs).toArray e)) (some ⟨W.heap.size, 0, none⟩) xs.length xs := by
  have h := own_lit W W.heap.size e k xs (Nat.le_refl _) hm
  obtain ⟨A, c, he, hr⟩ := own_reads h
  injection he with h1
  subst h1
  exact Kd.C_of_reads (h1 := fun _ => rfl) hr
theorem own_slice' {base size n e : Nat} {v : Value} {xs : List Value} (h : W.ownsRow base e size v n xs) : ∃ A m c, v = .slice A m c := by
  obtain ⟨A, c, e1⟩ := own_slice h
  exact ⟨A, _, c, e1⟩
theorem R_slice' {α : Type} {d : Kd α} {e base : Nat} {ok : Nat → Prop} {v : Value} {xs : List α} (h : d.R e W base ok v xs) : ∃ A n c, v = .slice A n c := by
  obtain ⟨A, c, e1, _⟩ := Kd.R_reads h
  exact ⟨A, _, c, e1⟩
end
end Go.Proofs.Ytcegkljkmnpkaaa.Sep
