/- law02's own: a field without what its kind doesn't name. Conditions: none. -/
import Derived.Test.YtmcgafgmhddliabPackOf2
import Derived.Test.YtmcgafgmhddliabFew
import Derived.Test.YtmcgafgmhddliabCodec
namespace Go.Proofs.Ytmcgafgmhddliab.Sep
open Go.RowKit Go.Proofs.Ytmcgafgmhddliab.PCore Go.Proofs.Ytmcgafgmhddliab.Plain Go.Proofs.YtmcgafgmhddliabW.PrintWords Go.Proofs.YtmcgafgmhddliabW.PrintLast Go.Proofs.YtmcgafgmhddliabW.PrintMore
open Go.Proofs.Ytmcgafgmhddliab.PDat (S28 k28 z28 rd_T28 at_T28)
/-- A field without what its kind doesn't name. -/
def ownF (x : S28) : S28 := if x.f0 = 1 then ⟨1, x.f1, ⟨#[]⟩, false⟩ else if x.f0 = 2 then ⟨2, 0, x.f2, false⟩ else if x.f0 = 3 then ⟨3, 0, ⟨#[]⟩, x.f3⟩ else ⟨x.f0, 0, ⟨#[]⟩, false⟩
theorem blk_new1 (W : World) (o o' : Obj) : ((W.alloc o).alloc o').heap[W.heap.size + 1]? = some o' := by
  rw [size_one W o]
  exact blk_new _ _
set_option maxHeartbeats 4000000 in
set_option maxRecDepth 100000 in
theorem own_calls (f0 f1 : Int) (f2 : ByteArray) (f3 : Bool) (W : World) :
    Calls Try.prog 6 #[.agg #[.int .i64 f0, .int .u64 f1, .string f2, .bool f3]] W fun e W1 => e = .returned (fieldV (ownF ⟨f0, f1, f2, f3⟩)) ∧ Below W.heap.size W W1 := by
  have huF := Try.underlying28
  by_cases k1 : f0 = 1
  · subst k1
    go_enter Try.func6, Try.ntmps6
    go_wp2
    refine bodyPost_ret (results_cell_row rfl _ _ (W.heap.size + 1) 28 #[.int .i64 1, .int .u64 f1, .string ⟨#[]⟩, .bool false] (0, 0) _ rfl (blk_alloc (blk_new1 _ _ _) _) huF rfl (by kernel_rfl)) rfl ?_
    exact ⟨rfl, below_alloc (below_alloc (below_alloc (Below.refl _ _) _) _) _⟩
  · have k1' : (f0 == 1) = false := beq_eq_false_iff_ne.mpr k1
    by_cases k2 : f0 = 2
    · subst k2
      go_enter Try.func6, Try.ntmps6
      go_wp2
      refine bodyPost_ret (results_cell_row rfl _ _ (W.heap.size + 1) 28 #[.int .i64 2, .int .u64 0, .string f2, .bool false] (0, 0) _ rfl (blk_alloc (blk_new1 _ _ _) _) huF rfl (by kernel_rfl)) rfl ?_
      exact ⟨rfl, below_alloc (below_alloc (below_alloc (Below.refl _ _) _) _) _⟩
    · have k2' : (f0 == 2) = false := beq_eq_false_iff_ne.mpr k2
      by_cases k3 : f0 = 3
      · subst k3
        go_enter Try.func6, Try.ntmps6
        go_wp2
        refine bodyPost_ret (results_cell_row rfl _ _ (W.heap.size + 1) 28 #[.int .i64 3, .int .u64 0, .string ⟨#[]⟩, .bool f3] (0, 0) _ rfl (blk_alloc (blk_new1 _ _ _) _) huF rfl (by kernel_rfl)) rfl ?_
        exact ⟨rfl, below_alloc (below_alloc (below_alloc (Below.refl _ _) _) _) _⟩
      · have k3' : (f0 == 3) = false := beq_eq_false_iff_ne.mpr k3
        go_enter Try.func6, Try.ntmps6
        go_wp2
        refine bodyPost_ret (results_cell_row rfl _ _ (W.heap.size + 1) 28 #[.int .i64 f0, .int .u64 0, .string ⟨#[]⟩, .bool false] (0, 0) _ rfl (blk_alloc (blk_new1 _ _ _) _) huF rfl (by kernel_rfl)) rfl ?_
        exact ⟨by simp [ownF, fieldV, k1, k2, k3], below_alloc (below_alloc (below_alloc (Below.refl _ _) _) _) _⟩
theorem own_at (f0 f1 : Int) (f2 : ByteArray) (f3 : Bool) (W : World) :
    Calls Try.prog 6 #[.agg #[.int .i64 f0, .int .u64 f1, .string f2, .bool f3]] W fun e W1 => e = .returned (.agg #[.int .i64 (ownF ⟨f0, f1, f2, f3⟩).f0, .int .u64 (ownF ⟨f0, f1, f2, f3⟩).f1, .string (ownF ⟨f0, f1, f2, f3⟩).f2, .bool (ownF ⟨f0, f1, f2, f3⟩).f3]) ∧ Below W.heap.size W W1 := own_calls f0 f1 f2 f3 W
theorem i_E {T : List Nat} (h : 3 ∉ T) : ∀ q, q ∈ 3 :: (Kd.int .i64).E → q ∉ T := fun q hq => by
  have : q = 3 := by simpa [Kd.int, Kd.scalar] using hq
  rw [this]
  exact h
theorem encF_own (x : S28) : encF (ownF x) = encF x := by
  obtain ⟨a, b, c, d⟩ := x
  by_cases k1 : a = 1
  · subst k1; rfl
  · by_cases k2 : a = 2
    · subst k2; rfl
    · by_cases k3 : a = 3
      · subst k3; rfl
      · simp [ownF, encF, k1, k2, k3]
theorem encFs_own (l : List S28) : encFs (l.map ownF) = encFs l := by
  induction l with
  | nil => rfl
  | cons x l ih => simp only [encFs, List.map_cons, List.flatten_cons] at ih ⊢; rw [encF_own, ih]
def Known (l : List S28) : Prop := ∀ x ∈ l, x.f0 = 1 ∨ x.f0 = 2 ∨ x.f0 = 3
theorem rdF_enc (x : S28) (r : List Int) (hk : x.f0 = 1 ∨ x.f0 = 2 ∨ x.f0 = 3) (hx : (0 ≤ x.f1 ∧ x.f1 < 18446744073709551616) ∧ x.f2.size ≤ 1000) : rdF x.f0 (encF x ++ r, false) = (ownF x, (r, false)) := by
  obtain ⟨a, b, c, d⟩ := x
  simp only at hk hx
  rcases hk with rfl | rfl | rfl
  · simp only [rdF, encF, ownF, if_true]
    rw [rdNum_enc r hx.1.1 hx.1.2 (by omega)]
  · simp only [rdF, encF, ownF, if_true, (by decide : ¬ ((2 : Int) = 1)), if_false]
    rw [rdText_enc r (by omega) (by omega)]
  · simp only [rdF, encF, ownF, if_true, (by decide : ¬ ((3 : Int) = 1)), (by decide : ¬ ((3 : Int) = 2)), if_false]
    rw [rdFlag_enc d r]
theorem ofL_enc : ∀ (l : List S28) (r : List Int), OkF l → Known l → ofL (l.map (·.f0)) (encFs l ++ r, false) = some (l.map ownF, (r, false))
  | [], r, _, _ => rfl
  | x :: l, r, ho, hk => by
    have ih := ofL_enc l r (fun y hy => ho y (by simp [hy])) (fun y hy => hk y (by simp [hy]))
    have e : encFs (x :: l) ++ r = encF x ++ (encFs l ++ r) := by simp [encFs]
    simp only [List.map_cons, ofL]
    rw [if_pos (hk x (by simp)), e, rdF_enc x _ (hk x (by simp)) (ho x (by simp))]
    simp only
    rw [ih]
    rfl
theorem ofB_enc (l : List S28) (ho : OkF l) (hk : Known l) : ofB (l.map (·.f0)) (encFs l) = (l.map ownF, 0) := by
  have := ofL_enc l [] ho hk
  rw [List.append_nil] at this
  unfold ofB
  rw [this]
  rfl
theorem encF_in (x : S28) (hx : 0 ≤ x.f1) : ∀ y ∈ encF x, 0 ≤ y ∧ y < 256 := by
  intro y hy
  unfold encF at hy
  split at hy
  · exact enc_in hx y hy
  · split at hy
    · exact encT_in _ y hy
    · split at hy
      · exact encB_in _ y hy
      · simp at hy
theorem encFs_in {l : List S28} (ho : OkF l) : ∀ y ∈ encFs l, 0 ≤ y ∧ y < 256 := by
  intro y hy
  simp only [encFs, List.mem_flatten, List.mem_map] at hy
  obtain ⟨_, ⟨x, hx, rfl⟩, hy⟩ := hy
  exact encF_in x (ho x hx).1.1 y hy
theorem encFs_one {l m : List S28} (hl : OkF l) (hm : OkF m) (kl : Known l) (hk : m.map (·.f0) = l.map (·.f0)) : encFs m = encFs l ↔ l.map ownF = m.map ownF := by
  have km : Known m := by
    intro x hx
    have : x.f0 ∈ m.map (·.f0) := List.mem_map_of_mem hx
    rw [hk] at this
    obtain ⟨y, hy, e⟩ := List.mem_map.1 this
    have := kl y hy
    exact (show y.f0 = x.f0 from e) ▸ this
  constructor
  · intro h
    have h1 := ofB_enc l hl kl
    have h2 := ofB_enc m hm km
    rw [hk, h, h1] at h2
    exact (Prod.mk.inj h2).1
  · intro h
    rw [← encFs_own l, ← encFs_own m, h]
end Go.Proofs.Ytmcgafgmhddliab.Sep
