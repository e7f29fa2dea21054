/- pack.Of: what it makes of bytes and kinds. Conditions: the bounds of the statements. -/
import Derived.Test.YtmcgafgmhddliabPackPut
import Derived.Test.YtmcgafgmhddliabReader2
namespace Go.Proofs.Ytmcgafgmhddliab.Sep
open Go.RowKit Go.Proofs.Ytmcgafgmhddliab.PCore Go.Proofs.Ytmcgafgmhddliab.Plain Go.Proofs.YtmcgafgmhddliabW.PrintWords Go.Proofs.YtmcgafgmhddliabW.PrintLast Go.Proofs.YtmcgafgmhddliabW.PrintMore
open Go.Proofs.Ytmcgafgmhddliab.PDat (S28 k28 z28 rd_T28 at_T28)
/-- Reading a field of a kind. -/
def rdF (k : Int) (s : RS) : S28 × RS :=
  if k = 1 then (⟨1, (rdNum 18446744073709551615 s).1, ⟨#[]⟩, false⟩, (rdNum 18446744073709551615 s).2)
  else if k = 2 then (⟨2, 0, (rdText 131072 s).1, false⟩, (rdText 131072 s).2)
  else (⟨3, 0, ⟨#[]⟩, (rdFlag s).1⟩, (rdFlag s).2)
def fieldV (x : S28) : Value := .agg #[.int .i64 x.f0, .int .u64 x.f1, .string x.f2, .bool x.f3]
theorem Fr.set_new {B : Nat} {T : List Nat} {W W1 : World} (h : Fr B T W W1) {g : Nat} (hg : W.heap.size ≤ g) (j : Nat) (u : Value) : Fr B T W (W1.setCell ⟨g, j, none⟩ u) :=
  ⟨h.os, h.tape, h.output, by simpa [World.setCell] using h.size, fun k hk hT => by
    rw [Below.heap_setCell _ _ _ _ (show k ≠ g by omega)]
    exact h.block k hk hT⟩
theorem four_set {B n t : Nat} {w1 : World} {a0 a1 a2 a3 : Value} (hk : w1.heap[n]? = some (.cells #[a0, a1, a2, a3] t (0, 0))) (hB : B ≤ n) (v0 v1 v2 v3 : Value) :
    ((((w1.setCell ⟨n, 0, none⟩ v0).setCell ⟨n, 1, none⟩ v1).setCell ⟨n, 2, none⟩ v2).setCell ⟨n, 3, none⟩ v3).heap[n]? = some (.cells #[v0, v1, v2, v3] t (0, 0)) ∧ Fr B [t] w1 ((((w1.setCell ⟨n, 0, none⟩ v0).setCell ⟨n, 1, none⟩ v1).setCell ⟨n, 2, none⟩ v2).setCell ⟨n, 3, none⟩ v3) := by
  have h1 := blk_set hk 0 v0
  have h2 := blk_set h1 1 v1
  have h3 := blk_set h2 2 v2
  have h4 := blk_set h3 3 v3
  exact ⟨by simpa using h4, ((((Fr.refl B [t] w1).set hk hB (by simp) 0 v0).set hk hB (by simp) 1 v1).set hk hB (by simp) 2 v2).set hk hB (by simp) 3 v3⟩
set_option maxHeartbeats 1000000 in
theorem rd_number (B g : Nat) (s : RS) (W : World) (h : RdAt 49 B g W s) :
    Calls Try.prog 18 #[.pointer (some ⟨g, 0, none⟩)] W fun e W1 => e = .returned (fieldV (rdF 1 s).1) ∧ RdAt 49 B g W1 (rdF 1 s).2 ∧ Fr B [49] W W1 := by
  have HP := Aside0.mk h
  clear h
  have huF := Try.underlying28
  go_enter Try.func18, Try.ntmps18
  go_wp2_with (go_at_call 23; refine (rd_num B g s 18446744073709551615 _ (HP.out.below (below_alloc (Below.refl _ _) _))).mono ?_; rintro e w1 ⟨rfl, hr, hf⟩; have HR := Aside0.mk hr; have HF := Aside0.mk (Fr.alloc hf); have hk := hf.blk (blk_new W _) (by decide); have HK := Aside0.mk hk; have hc0 : w1.cell? ⟨W.heap.size, 0, none⟩ = some (.int .i64 0) := (blk_cell hk 0).trans rfl; have hc1 : w1.cell? ⟨W.heap.size, 1, none⟩ = some (.int .u64 0) := (blk_cell hk 1).trans rfl; have hc2 : w1.cell? ⟨W.heap.size, 2, none⟩ = some (.string ⟨#[]⟩) := (blk_cell hk 2).trans rfl; have hc3 : w1.cell? ⟨W.heap.size, 3, none⟩ = some (.bool false) := (blk_cell hk 3).trans rfl; have hz0 := blk_frozen hk 0; have hz1 := blk_frozen hk 1; have hz2 := blk_frozen hk 2; have hz3 := blk_frozen hk 3; clear hr hf hk)
  obtain ⟨hk, hf⟩ := four_set (B := B) HK.out HP.out.lt (.int .i64 1) (.int .u64 (rdNum 18446744073709551615 s).1) (.string ⟨#[]⟩) (.bool false)
  refine bodyPost_ret (results_cell_row rfl _ _ W.heap.size 28 #[.int .i64 1, .int .u64 (rdNum 18446744073709551615 s).1, .string ⟨#[]⟩, .bool false] (0, 0) _ rfl hk huF rfl (by kernel_rfl)) rfl ?_
  exact ⟨rfl, HR.out.fr hf (by decide), (((HF.out.set_new (Nat.le_refl _) 0 _).set_new (Nat.le_refl _) 1 _).set_new (Nat.le_refl _) 2 _).set_new (Nat.le_refl _) 3 _⟩
set_option maxHeartbeats 1000000 in
theorem rd_textF (B g : Nat) (s : RS) (W : World) (h : RdAt 49 B g W s) :
    Calls Try.prog 19 #[.pointer (some ⟨g, 0, none⟩)] W fun e W1 => e = .returned (fieldV (rdF 2 s).1) ∧ RdAt 49 B g W1 (rdF 2 s).2 ∧ Fr B [49] W W1 := by
  have HP := Aside0.mk h
  clear h
  have huF := Try.underlying28
  go_enter Try.func19, Try.ntmps19
  go_wp2_with (go_at_call 24; refine (rd_text B g s 131072 _ (HP.out.below (below_alloc (Below.refl _ _) _)) (by decide)).mono ?_; rintro e w1 ⟨rfl, hr, hf⟩; have HR := Aside0.mk hr; have HF := Aside0.mk (Fr.alloc hf); have hk := hf.blk (blk_new W _) (by decide); have HK := Aside0.mk hk; have hc0 : w1.cell? ⟨W.heap.size, 0, none⟩ = some (.int .i64 0) := (blk_cell hk 0).trans rfl; have hc1 : w1.cell? ⟨W.heap.size, 1, none⟩ = some (.int .u64 0) := (blk_cell hk 1).trans rfl; have hc2 : w1.cell? ⟨W.heap.size, 2, none⟩ = some (.string ⟨#[]⟩) := (blk_cell hk 2).trans rfl; have hc3 : w1.cell? ⟨W.heap.size, 3, none⟩ = some (.bool false) := (blk_cell hk 3).trans rfl; have hz0 := blk_frozen hk 0; have hz1 := blk_frozen hk 1; have hz2 := blk_frozen hk 2; have hz3 := blk_frozen hk 3; clear hr hf hk)
  obtain ⟨hk, hf⟩ := four_set (B := B) HK.out HP.out.lt (.int .i64 2) (.int .u64 0) (.string (rdText 131072 s).1) (.bool false)
  refine bodyPost_ret (results_cell_row rfl _ _ W.heap.size 28 #[.int .i64 2, .int .u64 0, .string (rdText 131072 s).1, .bool false] (0, 0) _ rfl hk huF rfl (by kernel_rfl)) rfl ?_
  exact ⟨rfl, HR.out.fr hf (by decide), (((HF.out.set_new (Nat.le_refl _) 0 _).set_new (Nat.le_refl _) 1 _).set_new (Nat.le_refl _) 2 _).set_new (Nat.le_refl _) 3 _⟩
set_option maxHeartbeats 1000000 in
theorem rd_flagF (B g : Nat) (s : RS) (W : World) (h : RdAt 49 B g W s) :
    Calls Try.prog 20 #[.pointer (some ⟨g, 0, none⟩)] W fun e W1 => e = .returned (fieldV (rdF 3 s).1) ∧ RdAt 49 B g W1 (rdF 3 s).2 ∧ Fr B [49] W W1 := by
  have HP := Aside0.mk h
  clear h
  have huF := Try.underlying28
  go_enter Try.func20, Try.ntmps20
  go_wp2_with (go_at_call 25; refine (rd_flag B g s _ (HP.out.below (below_alloc (Below.refl _ _) _))).mono ?_; rintro e w1 ⟨rfl, hr, hf⟩; have HR := Aside0.mk hr; have HF := Aside0.mk (Fr.alloc hf); have hk := hf.blk (blk_new W _) (by decide); have HK := Aside0.mk hk; have hc0 : w1.cell? ⟨W.heap.size, 0, none⟩ = some (.int .i64 0) := (blk_cell hk 0).trans rfl; have hc1 : w1.cell? ⟨W.heap.size, 1, none⟩ = some (.int .u64 0) := (blk_cell hk 1).trans rfl; have hc2 : w1.cell? ⟨W.heap.size, 2, none⟩ = some (.string ⟨#[]⟩) := (blk_cell hk 2).trans rfl; have hc3 : w1.cell? ⟨W.heap.size, 3, none⟩ = some (.bool false) := (blk_cell hk 3).trans rfl; have hz0 := blk_frozen hk 0; have hz1 := blk_frozen hk 1; have hz2 := blk_frozen hk 2; have hz3 := blk_frozen hk 3; clear hr hf hk)
  obtain ⟨hk, hf⟩ := four_set (B := B) HK.out HP.out.lt (.int .i64 3) (.int .u64 0) (.string ⟨#[]⟩) (.bool (rdFlag s).1)
  refine bodyPost_ret (results_cell_row rfl _ _ W.heap.size 28 #[.int .i64 3, .int .u64 0, .string ⟨#[]⟩, .bool (rdFlag s).1] (0, 0) _ rfl hk huF rfl (by kernel_rfl)) rfl ?_
  exact ⟨rfl, HR.out.fr hf (by decide), (((HF.out.set_new (Nat.le_refl _) 0 _).set_new (Nat.le_refl _) 1 _).set_new (Nat.le_refl _) 2 _).set_new (Nat.le_refl _) 3 _⟩
/-- What reads fields of a kind. -/
def byV (k : Int) (p : Value) : Value :=
  if k = 1 then .func (.func 18) #[p] #[] else if k = 2 then .func (.func 19) #[p] #[] else if k = 3 then .func (.func 20) #[p] #[] else .nilFunc
theorem rd_by (a : Option Addr) (k : Int) (W : World) :
    Calls Try.prog 11 #[.pointer a, .int .i64 k] W fun e W1 => e = .returned (byV k (.pointer a)) ∧ W = W1 := by
  have hmf : ∀ (fn : Fn) (first cap : Array Value) (w : World), (Instr.makeFunc fn first cap).run Try.prog w = .ok (.func fn first cap) w := fun _ _ _ _ => rfl
  by_cases k1 : k = 1
  · subst k1
    go_enter Try.func11, Try.ntmps11
    go_wp2
    go_ret
    exact ⟨rfl, rfl⟩
  · by_cases k2 : k = 2
    · subst k2
      go_enter Try.func11, Try.ntmps11
      go_wp2
      go_ret
      exact ⟨rfl, rfl⟩
    · by_cases k3 : k = 3
      · subst k3
        go_enter Try.func11, Try.ntmps11
        go_wp2
        go_ret
        exact ⟨rfl, rfl⟩
      · have e : byV k (.pointer a) = .nilFunc := by simp [byV, k1, k2, k3]
        have k1' : (k == 1) = false := beq_eq_false_iff_ne.mpr k1
        have k2' : (k == 2) = false := beq_eq_false_iff_ne.mpr k2
        have k3' : (k == 3) = false := beq_eq_false_iff_ne.mpr k3
        have HE := Aside0.mk e
        clear e
        go_enter Try.func11, Try.ntmps11
        go_wp2
        go_ret
        exact ⟨by rw [HE.out]; rfl, rfl⟩
end Go.Proofs.Ytmcgafgmhddliab.Sep
