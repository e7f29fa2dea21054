/- Law 13's awake. Conditions: none. -/
import Derived.Test.YteaepfdahdenmaaConf2
namespace Go.Proofs.Yteaepfdahdenmaa.Sep
set_option linter.unusedSimpArgs false
set_option linter.unusedVariables false
open Go.RowKit Go.Proofs.Yteaepfdahdenmaa.PCore Go.Proofs.Yteaepfdahdenmaa.Plain Go.Proofs.YteaepfdahdenmaaW.PrintWords Go.Proofs.YteaepfdahdenmaaW.PrintLast Go.Proofs.YteaepfdahdenmaaW.PrintMore
abbrev K : ByteArray := ⟨#[107]⟩
abbrev V : ByteArray := ⟨#[118]⟩
abbrev E0 : ByteArray := ⟨#[]⟩
set_option maxHeartbeats 2000000 in
theorem ours_calls (k : ByteArray) (g0 p0 q0 : Bool) (g1 p1 q1 : ByteArray) (W : World) : Calls Try.prog 48 #[.agg #[.string k, .bool g0, .string g1, .bool p0, .string p1, .bool q0, .string q1]] W fun e W1 => e = .returned (.agg #[.bool p0, .string p1]) ∧ Below W.heap.size W W1 := by
  have huF := Try.underlying46
  have huS := Try.underlying44
  have huC := Try.underlying74
  go_enter Try.func48, Try.ntmps48
  go_wp2
  refine bodyPost_ret (results_cell_row rfl _ _ (W.heap.size + 1) 44 #[.bool p0, .string p1] (0, 0) _ rfl (by rw [size_one W (.cells #[.string k, .bool g0, .string g1, .bool p0, .string p1, .bool q0, .string q1] 74)]; exact blk_new _ _) huS rfl (by kernel_rfl)) rfl ?_
  exact ⟨rfl, below_alloc (below_alloc (Below.refl _ _) _) _⟩
set_option maxHeartbeats 2000000 in
theorem theirs_calls (k : ByteArray) (g0 p0 q0 : Bool) (g1 p1 q1 : ByteArray) (W : World) : Calls Try.prog 49 #[.agg #[.string k, .bool g0, .string g1, .bool p0, .string p1, .bool q0, .string q1]] W fun e W1 => e = .returned (.agg #[.bool q0, .string q1]) ∧ Below W.heap.size W W1 := by
  have huF := Try.underlying46
  have huS := Try.underlying44
  have huC := Try.underlying74
  go_enter Try.func49, Try.ntmps49
  go_wp2
  refine bodyPost_ret (results_cell_row rfl _ _ (W.heap.size + 1) 44 #[.bool q0, .string q1] (0, 0) _ rfl (by rw [size_one W (.cells #[.string k, .bool g0, .string g1, .bool p0, .string p1, .bool q0, .string q1] 74)]; exact blk_new _ _) huS rfl (by kernel_rfl)) rfl ?_
  exact ⟨rfl, below_alloc (below_alloc (Below.refl _ _) _) _⟩
theorem chooser1 (W : World) : Calls Try.prog 35 #[.int .i64 1] W fun e W1 => e = .returned (.func (.func 48) #[] #[]) ∧ W1 = W := by
  go_enter Try.func35, Try.ntmps35
  go_wp2
  go_ret
  exact ⟨rfl, rfl⟩
theorem chooser2 (W : World) : Calls Try.prog 35 #[.int .i64 2] W fun e W1 => e = .returned (.func (.func 49) #[] #[]) ∧ W1 = W := by
  go_enter Try.func35, Try.ntmps35
  go_wp2
  go_ret
  exact ⟨rfl, rfl⟩
theorem fn_nil (f : FuncId) (a b : Array Value) (W : World) : (binOp .eql 72 (.func (.func f) a b) .nilFunc).run Try.prog W = .ok (.bool false) W := by rfl
theorem blk_sec (W : World) (o o' : Obj) : ((W.alloc o).alloc o').heap[W.heap.size + 1]? = some o' := by
  rw [size_one W o]
  exact blk_new _ _
theorem tri_set {B n t : Nat} {w1 : World} {a0 a1 a2 : Value} (hk : w1.heap[n]? = some (.cells #[a0, a1, a2] t (0, 0))) (hB : B ≤ n) (v0 v1 v2 : Value) :
    (((w1.setCell ⟨n, 0, none⟩ v0).setCell ⟨n, 1, none⟩ v1).setCell ⟨n, 2, none⟩ v2).heap[n]? = some (.cells #[v0, v1, v2] t (0, 0)) ∧ Fr B [t] w1 (((w1.setCell ⟨n, 0, none⟩ v0).setCell ⟨n, 1, none⟩ v1).setCell ⟨n, 2, none⟩ v2) := by
  have h1 := blk_set hk 0 v0
  have h2 := blk_set h1 1 v1
  have h3 := blk_set h2 2 v2
  exact ⟨by simpa using h3, (((Fr.refl B [t] w1).set hk hB (by simp) 0 v0).set hk hB (by simp) 1 v1).set hk hB (by simp) 2 v2⟩
set_option maxHeartbeats 4000000 in
set_option maxRecDepth 100000 in
theorem settle2 (W : World) : Calls Try.prog 14 #[.agg #[.string K, .bool false, .string E0, .bool true, .string V, .bool false, .string E0], .int .i64 2] W fun e W1 => e = .returned (.tuple #[.agg #[.string K, .string E0, .bool true], .int .i64 0]) ∧ Below W.heap.size W W1 := by
  have huF := Try.underlying46
  have huS := Try.underlying44
  have huE := Try.underlying40
  have hfn := fn_nil
  go_enter Try.func14, Try.ntmps14
  go_wp2_with (first | (go_at_call 35; refine (chooser2 _).mono ?_; rintro e w1 ⟨rfl, rfl⟩) | (go_at_call 49; refine (theirs_calls K false true false E0 V E0 _).mono ?_; rintro e w2 ⟨rfl, hb⟩; have HB2 := Aside0.mk (below_alloc (below_step (below_alloc (below_alloc (Below.refl W.heap.size W) (.cells #[.string K, .bool false, .string E0, .bool true, .string V, .bool false, .string E0] 46)) (.cells #[.string E0, .string E0, .bool false] 40)) hb) (.cells #[.bool false, .string E0] 44)); have hv := blk_alloc ((Fr.of_below (B := 0) (T := []) hb).blk (blk_alloc (blk_new W (.cells #[.string K, .bool false, .string E0, .bool true, .string V, .bool false, .string E0] 46)) (.cells #[.string E0, .string E0, .bool false] 40)) (by simp)) (.cells #[.bool false, .string E0] 44); have hr := blk_alloc ((Fr.of_below (B := 0) (T := []) hb).blk (blk_sec W (.cells #[.string K, .bool false, .string E0, .bool true, .string V, .bool false, .string E0] 46) (.cells #[.string E0, .string E0, .bool false] 40)) (by simp)) (.cells #[.bool false, .string E0] 44); have HR := Aside0.mk hr; have v0 : World.cell? (w2.alloc (.cells #[.bool false, .string E0] 44)) ⟨W.heap.size, 0, none⟩ = some (.string K) := (blk_cell hv 0).trans rfl; have r0 : World.cell? (w2.alloc (.cells #[.bool false, .string E0] 44)) ⟨W.heap.size + 1, 0, none⟩ = some (.string E0) := (blk_cell hr 0).trans rfl; have r1 : World.cell? (w2.alloc (.cells #[.bool false, .string E0] 44)) ⟨W.heap.size + 1, 1, none⟩ = some (.string E0) := (blk_cell hr 1).trans rfl; have r2 : World.cell? (w2.alloc (.cells #[.bool false, .string E0] 44)) ⟨W.heap.size + 1, 2, none⟩ = some (.bool false) := (blk_cell hr 2).trans rfl; have z0 := blk_frozen hr 0; have z1 := blk_frozen hr 1; have z2 := blk_frozen hr 2; clear hb hv hr))
  obtain ⟨hk, hf⟩ := tri_set (B := W.heap.size) HR.out (Nat.le_succ _) (.string K) (.string E0) (.bool true)
  refine bodyPost_ret (results_ct rfl _ _ (W.heap.size + 1) 40 #[.string K, .string E0, .bool true] (0, 0) _ rfl hk huE rfl (by kernel_rfl)) rfl ?_
  exact ⟨rfl, HB2.out.trans (hf.below HB2.out.size)⟩
set_option maxHeartbeats 4000000 in
set_option maxRecDepth 100000 in
theorem settle1 (W : World) : Calls Try.prog 14 #[.agg #[.string K, .bool false, .string E0, .bool true, .string V, .bool false, .string E0], .int .i64 1] W fun e W1 => e = .returned (.tuple #[.agg #[.string K, .string V, .bool false], .int .i64 0]) ∧ Below W.heap.size W W1 := by
  have huF := Try.underlying46
  have huS := Try.underlying44
  have huE := Try.underlying40
  have hfn := fn_nil
  go_enter Try.func14, Try.ntmps14
  go_wp2_with (first | (go_at_call 35; refine (chooser1 _).mono ?_; rintro e w1 ⟨rfl, rfl⟩) | (go_at_call 48; refine (ours_calls K false true false E0 V E0 _).mono ?_; rintro e w2 ⟨rfl, hb⟩; have HB2 := Aside0.mk (below_alloc (below_step (below_alloc (below_alloc (Below.refl W.heap.size W) (.cells #[.string K, .bool false, .string E0, .bool true, .string V, .bool false, .string E0] 46)) (.cells #[.string E0, .string E0, .bool false] 40)) hb) (.cells #[.bool true, .string V] 44)); have hv := blk_alloc ((Fr.of_below (B := 0) (T := []) hb).blk (blk_alloc (blk_new W (.cells #[.string K, .bool false, .string E0, .bool true, .string V, .bool false, .string E0] 46)) (.cells #[.string E0, .string E0, .bool false] 40)) (by simp)) (.cells #[.bool true, .string V] 44); have hr := blk_alloc ((Fr.of_below (B := 0) (T := []) hb).blk (blk_sec W (.cells #[.string K, .bool false, .string E0, .bool true, .string V, .bool false, .string E0] 46) (.cells #[.string E0, .string E0, .bool false] 40)) (by simp)) (.cells #[.bool true, .string V] 44); have HR := Aside0.mk hr; have v0 : World.cell? (w2.alloc (.cells #[.bool true, .string V] 44)) ⟨W.heap.size, 0, none⟩ = some (.string K) := (blk_cell hv 0).trans rfl; have r0 : World.cell? (w2.alloc (.cells #[.bool true, .string V] 44)) ⟨W.heap.size + 1, 0, none⟩ = some (.string E0) := (blk_cell hr 0).trans rfl; have r1 : World.cell? (w2.alloc (.cells #[.bool true, .string V] 44)) ⟨W.heap.size + 1, 1, none⟩ = some (.string E0) := (blk_cell hr 1).trans rfl; have r2 : World.cell? (w2.alloc (.cells #[.bool true, .string V] 44)) ⟨W.heap.size + 1, 2, none⟩ = some (.bool false) := (blk_cell hr 2).trans rfl; have z0 := blk_frozen hr 0; have z1 := blk_frozen hr 1; have z2 := blk_frozen hr 2; clear hb hv hr))
  obtain ⟨hk, hf⟩ := tri_set (B := W.heap.size) HR.out (Nat.le_succ _) (.string K) (.string V) (.bool false)
  refine bodyPost_ret (results_ct rfl _ _ (W.heap.size + 1) 40 #[.string K, .string V, .bool false] (0, 0) _ rfl hk huE rfl (by kernel_rfl)) rfl ?_
  exact ⟨rfl, HB2.out.trans (hf.below HB2.out.size)⟩
set_option maxHeartbeats 4000000 in
set_option maxRecDepth 100000 in
theorem awake13_calls (W : World) : Calls Try.prog 5 #[] W fun e W1 => e = .returned (.bool true) ∧ Below W.heap.size W W1 := by
  have huE := Try.underlying40
  have H1 := Aside0.mk settle1
  have H2 := Aside0.mk settle2
  go_enter Try.func5, Try.ntmps5
  go_wp2_with (go_at_call 14; first | (have hq := HB1.out; clear hq; refine (H1.out _).mono ?_; rintro e w2 ⟨rfl, hb⟩; have HB2 := Aside0.mk (below_alloc (below_step (below_alloc HB1.out (.cells #[.string K, .string E0, .bool true] 40)) hb) (.cells #[.string K, .string V, .bool false] 40)); have hk := blk_alloc ((Fr.of_below (B := 0) (T := []) hb).blk (blk_new w1 (.cells #[.string K, .string E0, .bool true] 40)) (by simp)) (.cells #[.string K, .string V, .bool false] 40); have k0 : World.cell? (w2.alloc (.cells #[.string K, .string V, .bool false] 40)) ⟨w1.heap.size, 0, none⟩ = some (.string K) := (blk_cell hk 0).trans rfl; have k2 : World.cell? (w2.alloc (.cells #[.string K, .string V, .bool false] 40)) ⟨w1.heap.size, 2, none⟩ = some (.bool true) := (blk_cell hk 2).trans rfl; clear hb hk) | (refine (H2.out _).mono ?_; rintro e w1 ⟨rfl, hb⟩; have HB1 := Aside0.mk hb; clear hb))
  go_ret
  exact ⟨by rfl, HB2.out⟩
end Go.Proofs.Yteaepfdahdenmaa.Sep
