/- A commit told of bytes: the program's Of and the reference's CommitOf. Printed by gen_of.py. Conditions: the bounds of the statements. -/
import Derived.Test.YtaijciijfofbmaaObjTh
import Derived.Deep.RegionWith
import Derived.BigQuiet
import Derived.Deep.RegionHeld3
import Derived.Deep.AppendLies
import Derived.Deep.RegionLaw
namespace Go.Proofs.Ytaijciijfofbmaa.Sep
set_option linter.unusedSimpArgs false
open Go.RowKit Go.Proofs.Ytaijciijfofbmaa.PCore Go.Proofs.Ytaijciijfofbmaa.Plain Go.Proofs.YtaijciijfofbmaaW.PrintWords Go.Proofs.YtaijciijfofbmaaW.PrintLast Go.Proofs.YtaijciijfofbmaaW.PrintMore
abbrev zeroCells : Array Value := #[.int .u64 0, .slice none 0 0, .int .u64 0, .int .u64 0, .string ⟨#[]⟩]
/-- Where reading a commit stands: the reader (type T, block g), the commit's variable (block C), the result's (W0's first new block). -/
structure OfSt (T : Nat) (W0 : World) (g C : Nat) (w : World) (s : RS) (a gen root : Int) (t : ByteArray) (v : Value) (ps : List Int) : Prop where
  rd : RdAt T W0.heap.size g w s
  bC : w.heap[C]? = some (.cells #[.int .u64 a, v, .int .u64 gen, .int .u64 root, .string t] 25 (0, 0))
  bR : w.heap[W0.heap.size]? = some (.cells zeroCells 25 (0, 0))
  hR : Kd.R (Kd.int .u64) 22 w W0.heap.size (fun _ => True) v ps
  lt : W0.heap.size < C
  bel : Below W0.heap.size W0 w
section
variable {T : Nat} {W0 : World} {g C : Nat} {w w1 : World} {s s' : RS} {a gen root : Int} {t : ByteArray} {v : Value} {ps : List Int}
theorem u_E {T : List Nat} (h : 22 ∉ T) : ∀ q, q ∈ 22 :: (Kd.int .u64).E → q ∉ T := fun q hq => by
  have : q = 22 := by simpa [Kd.int, Kd.scalar] using hq
  rw [this]
  exact h
theorem OfSt.fr (h : OfSt T W0 g C w s a gen root t v ps) (hr : RdAt T W0.heap.size g w1 s') (hf : Fr W0.heap.size [T] w w1) (hT : 25 ∉ [T] ∧ 22 ∉ [T]) : OfSt T W0 g C w1 s' a gen root t v ps :=
  ⟨hr, hf.blk h.bC hT.1, hf.blk h.bR hT.1, hf.R h.hR (u_E hT.2), h.lt, h.bel.trans (hf.below h.bel.size)⟩
theorem OfSt.below (h : OfSt T W0 g C w s a gen root t v ps) (hb : Below w.heap.size w w1) : OfSt T W0 g C w1 s a gen root t v ps :=
  ⟨h.rd.below hb, (Fr.of_below (B := 0) (T := []) hb).blk h.bC (by simp), (Fr.of_below (B := 0) (T := []) hb).blk h.bR (by simp), Kd.R_below h.hR hb, h.lt, below_step h.bel hb⟩
theorem OfSt.setv (h : OfSt T W0 g C w s a gen root t v ps) (hT : 25 ≠ T ∧ 25 ≠ 5) (j : Nat) (u : Value) :
    RdAt T W0.heap.size g (w.setCell ⟨C, j, none⟩ u) s ∧ (w.setCell ⟨C, j, none⟩ u).heap[C]? = some (.cells (#[.int .u64 a, v, .int .u64 gen, .int .u64 root, .string t].setIfInBounds j u) 25 (0, 0)) ∧ (w.setCell ⟨C, j, none⟩ u).heap[W0.heap.size]? = some (.cells zeroCells 25 (0, 0)) ∧ Kd.R (Kd.int .u64) 22 (w.setCell ⟨C, j, none⟩ u) W0.heap.size (fun _ => True) v ps ∧ Below W0.heap.size W0 (w.setCell ⟨C, j, none⟩ u) := by
  have hC : W0.heap.size ≤ C := Nat.le_of_lt h.lt
  have hF := (Fr.refl W0.heap.size [25] w).set h.bC hC (by simp) j u
  refine ⟨h.rd.fr hF ⟨by simp; first | done | exact fun e => hT.1 e.symm, by simp; first | done | exact fun e => hT.2 e.symm⟩, blk_set h.bC j u, blk_far h.bR (p := ⟨C, j, none⟩) (show W0.heap.size ≠ C from Nat.ne_of_lt h.lt) u, Kd.R_set h.hR h.bC (fun q hq => ?_) j u, h.bel.trans (hF.below h.bel.size)⟩
  have e : q = 22 := by simpa [Kd.int, Kd.scalar] using hq
  rw [e]
  decide
theorem OfSt.set2 (h : OfSt T W0 g C w s a gen root t v ps) (hT : 25 ≠ T ∧ 25 ≠ 5) (x : Int) : OfSt T W0 g C (w.setCell ⟨C, 2, none⟩ (.int .u64 x)) s a x root t v ps := by
  obtain ⟨h1, h2, h3, h4, h5⟩ := h.setv hT 2 (.int .u64 x)
  exact ⟨h1, h2, h3, h4, h.lt, h5⟩
theorem OfSt.set3 (h : OfSt T W0 g C w s a gen root t v ps) (hT : 25 ≠ T ∧ 25 ≠ 5) (x : Int) : OfSt T W0 g C (w.setCell ⟨C, 3, none⟩ (.int .u64 x)) s a gen x t v ps := by
  obtain ⟨h1, h2, h3, h4, h5⟩ := h.setv hT 3 (.int .u64 x)
  exact ⟨h1, h2, h3, h4, h.lt, h5⟩
theorem OfSt.set4 (h : OfSt T W0 g C w s a gen root t v ps) (hT : 25 ≠ T ∧ 25 ≠ 5) (x : ByteArray) : OfSt T W0 g C (w.setCell ⟨C, 4, none⟩ (.string x)) s a gen root x v ps := by
  obtain ⟨h1, h2, h3, h4, h5⟩ := h.setv hT 4 (.string x)
  exact ⟨h1, h2, h3, h4, h.lt, h5⟩
/-- A number is appended to the parents, and they are stored. -/
theorem OfSt.push (h : OfSt T W0 g C w s a gen root t v ps) (hT : 25 ≠ T ∧ 25 ≠ 5 ∧ T ≠ 22) {v1 : Value} {ps1 : List Int} (ho : Kd.R (Kd.int .u64) 22 w1 W0.heap.size (fun _ => True) v1 ps1) (hf : Fr W0.heap.size [22] w w1) (hb : Below W0.heap.size W0 w1) :
    OfSt T W0 g C (w1.setCell ⟨C, 1, none⟩ v1) s a gen root t v1 ps1 := by
  have hC : W0.heap.size ≤ C := Nat.le_of_lt h.lt
  have b1 := hf.blk h.bC (by decide)
  have b2 := hf.blk h.bR (by decide)
  have r1 := h.rd.fr hf ⟨by simp; exact hT.2.2, by decide⟩
  have hF := (Fr.refl W0.heap.size [25] w1).set b1 hC (by simp) 1 v1
  refine ⟨r1.fr hF ⟨by simp; first | done | exact fun e => hT.1 e.symm, by simp⟩, blk_set b1 1 v1, blk_far b2 (p := ⟨C, 1, none⟩) (show W0.heap.size ≠ C from Nat.ne_of_lt h.lt) v1, Kd.R_set ho b1 (fun q hq => ?_) 1 v1, h.lt, hb.trans (hF.below hb.size)⟩
  have e : q = 22 := by simpa [Kd.int, Kd.scalar] using hq
  rw [e]
  decide
theorem OfSt.c (h : OfSt T W0 g C w s a gen root t v ps) : w.cell? ⟨C, 0, none⟩ = some (.int .u64 a) ∧ w.cell? ⟨C, 1, none⟩ = some v ∧ w.cell? ⟨C, 2, none⟩ = some (.int .u64 gen) ∧ w.cell? ⟨C, 3, none⟩ = some (.int .u64 root) ∧ w.cell? ⟨C, 4, none⟩ = some (.string t) :=
  ⟨(blk_cell h.bC 0).trans rfl, (blk_cell h.bC 1).trans rfl, (blk_cell h.bC 2).trans rfl, (blk_cell h.bC 3).trans rfl, (blk_cell h.bC 4).trans rfl⟩
theorem OfSt.z (h : OfSt T W0 g C w s a gen root t v ps) (j : Nat) : w.frozen? ⟨C, j, none⟩ = false := blk_frozen h.bC j
theorem OfSt.r (h : OfSt T W0 g C w s a gen root t v ps) : w.cell? ⟨W0.heap.size, 0, none⟩ = some (.int .u64 0) ∧ w.cell? ⟨W0.heap.size, 1, none⟩ = some (.slice none 0 0) ∧ w.cell? ⟨W0.heap.size, 2, none⟩ = some (.int .u64 0) ∧ w.cell? ⟨W0.heap.size, 3, none⟩ = some (.int .u64 0) ∧ w.cell? ⟨W0.heap.size, 4, none⟩ = some (.string ⟨#[]⟩) :=
  ⟨(blk_cell h.bR 0).trans rfl, (blk_cell h.bR 1).trans rfl, (blk_cell h.bR 2).trans rfl, (blk_cell h.bR 3).trans rfl, (blk_cell h.bR 4).trans rfl⟩
theorem OfSt.y (h : OfSt T W0 g C w s a gen root t v ps) (j : Nat) : w.frozen? ⟨W0.heap.size, j, none⟩ = false := blk_frozen h.bR j
end
theorem wrap_pred (j : Nat) (h : j ≤ 10) : IntKind.u64.wrap (j : Int) = (j : Int) := by rw [IntKind.wrap_u64]; omega
theorem wrap_succ (j : Nat) (h : j ≤ 10) : IntKind.u64.wrap ((j : Int) + 1) = ((j + 1 : Nat) : Int) := by rw [IntKind.wrap_u64]; omega
theorem nums_snoc (j : Nat) (s s0 : RS) (ps : List Int) (N : Nat) (h : rdNums M64 N s0 = (ps ++ (rdNums M64 (j + 1) s).1, (rdNums M64 (j + 1) s).2)) : rdNums M64 N s0 = ((ps ++ [(rdNum M64 s).1]) ++ (rdNums M64 j (rdNum M64 s).2).1, (rdNums M64 j (rdNum M64 s).2).2) := by
  rw [h]
  simp [rdNums]
theorem five_set {B n t : Nat} {w1 : World} {a0 a1 a2 a3 a4 : Value} (hk : w1.heap[n]? = some (.cells #[a0, a1, a2, a3, a4] t (0, 0))) (hB : B ≤ n) (v0 v1 v2 v3 v4 : Value) :
    (((((w1.setCell ⟨n, 0, none⟩ v0).setCell ⟨n, 1, none⟩ v1).setCell ⟨n, 2, none⟩ v2).setCell ⟨n, 3, none⟩ v3).setCell ⟨n, 4, none⟩ v4).heap[n]? = some (.cells #[v0, v1, v2, v3, v4] t (0, 0)) ∧ Fr B [t] w1 (((((w1.setCell ⟨n, 0, none⟩ v0).setCell ⟨n, 1, none⟩ v1).setCell ⟨n, 2, none⟩ v2).setCell ⟨n, 3, none⟩ v3).setCell ⟨n, 4, none⟩ v4) := by
  have h1 := blk_set hk 0 v0
  have h2 := blk_set h1 1 v1
  have h3 := blk_set h2 2 v2
  have h4 := blk_set h3 3 v3
  have h5 := blk_set h4 4 v4
  exact ⟨by simpa using h5, (((((Fr.refl B [t] w1).set hk hB (by simp) 0 v0).set hk hB (by simp) 1 v1).set hk hB (by simp) 2 v2).set hk hB (by simp) 3 v3).set hk hB (by simp) 4 v4⟩
theorem rf_boxC {W w3 : World} {A0 : Option Addr} {c0 : Nat} {b : List Int} (hC0 : Kd.C (Kd.int .u8) W A0 b.length b) (hc0 : b.length ≤ c0) (hF : Fine (b, false)) (hB : Below W.heap.size W w3) :
    RdAt 59 W.heap.size w3.heap.size (w3.alloc (.cells #[.slice A0 b.length c0, .bool false] 59)) (b, false) := by
  refine ⟨A0, c0, blk_new _ _, hB.size, hc0, Kd.C_below (Kd.C_below hC0 hB) (below_alloc (Below.refl _ _) _), fun hp ad e => .inl ?_, hF⟩
  obtain ⟨ad', e', hc⟩ := (show ReadsInt W .u8 A0 b.length b from Kd.reads_of_C (d := 0) hC0).2.2 hp
  rw [e] at e'
  injection e' with e'
  subst e'
  exact World.block_lt_of_cell? _ _ (hc 0 hp)
theorem rdText_size {s : RS} (h : Fine s) (most : Int) (hm : 0 ≤ most) : ((rdText most s).1.size : Int) ≤ most := by
  unfold rdText
  rw [if_neg (by omega)]
  simp only
  have hn := num_in h most hm
  split
  · exact hm
  · split
    · exact hm
    · simp only
      rw [str_size, List.length_take]
      omega
theorem nil_C (w : World) : Kd.C (Kd.int .u64) w none (zeroC.ps).length zeroC.ps := by
  obtain ⟨h1, h2, h3⟩ := Kd.R_reads' (Kd.R_nil (Kd.int .u64) 22 w w.heap.size (fun _ => True))
  exact h3
theorem ofSt_new {T : Nat} {W w1 w2 : World} {g : Nat} {s' : RS} {x : Int} (hr : RdAt T W.heap.size g w2 s') (hf : Fr W.heap.size [T] w1 w2) (hk : w1.heap[W.heap.size]? = some (.cells zeroCells 25 (0, 0))) (hb : Below W.heap.size W w1) (hT : 25 ∉ [T] ∧ 22 ∉ [T]) :
    OfSt T W g w2.heap.size (w2.alloc (.cells #[.int .u64 x, .slice none 0 0, .int .u64 0, .int .u64 0, .string ⟨#[]⟩] 25)) s' x 0 0 ⟨#[]⟩ (.slice none 0 0) [] :=
  ⟨hr.below (below_alloc (Below.refl _ _) _), blk_new _ _, blk_alloc (hf.blk hk hT.1) _, Kd.R_nil _ _ _ _ _, blk_lt (hf.blk hk hT.1), below_alloc (hb.trans (hf.below hb.size)) _⟩
set_option maxHeartbeats 8000000 in
set_option maxRecDepth 100000 in
theorem of_calls (A : Option Addr) (c : Nat) (b : List Int) (W : World) (hC : Kd.C (Kd.int .u8) W A b.length b) (hF : Fine (b, false)) :
    Calls Try.prog 12 #[.slice A b.length c] W fun e W1 => ∃ A1 c1, e = .returned (.tuple #[.agg #[.int .u64 (ofC b).1.id, .slice A1 (ofC b).1.ps.length c1, .int .u64 (ofC b).1.gen, .int .u64 (ofC b).1.root, .string (ofC b).1.text], .int .i64 (ofC b).2]) ∧ (ofC b).1.ps.length ≤ c1 ∧ Kd.C (Kd.int .u64) W1 A1 (ofC b).1.ps.length (ofC b).1.ps ∧ Below W.heap.size W W1 := by
  have HP := Aside0.mk (rd_read A c b (W.alloc (.cells zeroCells 25)) (Kd.C_below hC (below_alloc (Below.refl _ _) _)) hF)
  have HFF := Aside0.mk hF
  have huF := Try.underlying25
  clear hC hF
  go_enter Try.func12, Try.ntmps12
  go_wp2_with (first | (go_at_call 24; refine HP.out.mono ?_; rintro e w1 ⟨g, rfl, hr, hb⟩; have HR1 := Aside0.mk (hr W.heap.size (below_alloc (Below.refl _ _) _).size); have HK1 := Aside0.mk ((Fr.of_below (T := []) (B := 0) hb).blk (blk_new W _) (by simp)); have HB1 := Aside0.mk (below_step (below_alloc (Below.refl _ _) _) hb); clear hr hb) | (go_at_call 25; have hq := HS2.out; clear hq; refine (rd_num W.heap.size g _ 2 _ HS2.out.rd).mono ?_; rintro e w3 ⟨rfl, hr, hf⟩; have HS3 := Aside0.mk (HS2.out.fr hr hf (by decide)); clear hr hf HS2) | (go_at_call 25; have hq := HR1.out; clear hq; refine (rd_num W.heap.size g (b, false) M64 _ HR1.out).mono ?_; rintro e w2 ⟨rfl, hr, hf⟩; have HS2 := Aside0.mk (ofSt_new (T := 65) (x := (rdNum M64 (b, false)).1) hr hf HK1.out HB1.out ⟨by decide, by decide⟩); clear hr hf HR1 HK1 HB1))
  have HNN := Aside0.mk (num_in (fine_num HFF.out M64) 2 (by decide))
  have HNI := Aside0.mk (show (rdNum 2 (rdNum M64 (b, false)).2).1 = ((rdNum 2 (rdNum M64 (b, false)).2).1.toNat : Int) by have := HNN.out.1; omega)
  go_loopg [6] (rdNum 2 (rdNum M64 (b, false)).2).1.toNat (fun kq v6 w' => ∃ (j : Nat) (s : RS) (v : Value) (ps : List Int), v6 = .int .u64 (j : Int) ∧ Aside0 (kq = j ∧ j + ps.length = (rdNum 2 (rdNum M64 (b, false)).2).1.toNat) ∧ Aside0 (rdNums M64 (rdNum 2 (rdNum M64 (b, false)).2).1.toNat (rdNum 2 (rdNum M64 (b, false)).2).2 = (ps ++ (rdNums M64 j s).1, (rdNums M64 j s).2)) ∧ Aside0 (OfSt 65 W g w2.heap.size w' s (rdNum M64 (b, false)).1 0 0 ⟨#[]⟩ v ps))
  case atStart => exact ⟨(rdNum 2 (rdNum M64 (b, false)).2).1.toNat, (rdNum 2 (rdNum M64 (b, false)).2).2, .slice none 0 0, [], by rw [← HNI.out], ⟨rfl, by simp⟩, ⟨by simp⟩, ⟨HS3.out⟩⟩
  case round =>
    obtain ⟨j, s, v, ps, rfl, HJ, HE, HS⟩ := hrel
    cases j with
    | succ j =>
      have hj : decide ((0 : Int) < (j : Int) + 1) = true := decide_eq_true (by omega)
      have HWI := Aside0.mk (wrap_pred j (by have := HJ.out; have := HNN.out; omega))
      have HSd := Aside0.mk (HS.out.below (below_drew (Below.refl wr.heap.size wr)))
      have hc1 := HS.out.c.2.1
      have hcd : wr.drew.cell? ⟨w2.heap.size, 1, none⟩ = some v := HSd.out.c.2.1
      go_wp2
      go_region_law (first | (refine Kd.R_append_step (Kd.int .u64) (w0 := W) W.heap.size (by rfl) (.tmp 19) (.tmp 22) 23 22 (.int .u64 0) 8 rfl Try.underlying23 (by kernel_rfl) rfl (by decide) (by omega) v ps (rdNum M64 s).1 [.int .u64 (rdNum M64 s).1] (fun _ => True) (fun _ => False) rfl rfl rfl (fun _ hk => hk.elim) (fun _ _ => trivial) HS5.out.hR HS5.out.bel HS5.out.bel.size (by have := HJ.out; have := HNN.out; omega) ?_; intro v1 w6 ho hb hgr hat; obtain ⟨Ax, nx, cx, hvx⟩ := R_slice' ho; subst hvx; have HS6 := Aside0.mk (HS5.out.push ⟨by decide, by decide, by decide⟩ ho (by obtain ⟨inner, h⟩ := Kd.R_own HS5.out.hR; exact Fr.of_grown h (Nat.le_refl _) hgr (by simp)) hb); have hf6 := (show Fr W.heap.size [22] w5 w6 by obtain ⟨inner, h⟩ := Kd.R_own HS5.out.hR; exact Fr.of_grown h (Nat.le_refl _) hgr (by simp)).blk HS5.out.bC (by decide); have hc61 : w6.cell? ⟨w2.heap.size, 1, none⟩ = some v := (blk_cell hf6 1).trans rfl; have hz61 : w6.frozen? ⟨w2.heap.size, 1, none⟩ = false := blk_frozen hf6 1; clear ho hb hgr hat hf6) | (go_simp; (go_at_call 25; refine (rd_num W.heap.size g s M64 _ HSd.out.rd).mono ?_; rintro e w5 ⟨rfl, hr, hf⟩; have HS5 := Aside0.mk (HSd.out.fr hr hf (by decide)); have hc51 := HS5.out.c.2.1; have hc5b : (w5.alloc (.cells #[.int .u64 (rdNum M64 s).1] 22)).cell? ⟨w2.heap.size, 1, none⟩ = some v := (HS5.out.below (below_alloc (Below.refl _ _) _)).c.2.1; clear hr hf)))
      all_goals (
        go_wp2
        go_roundg j
        case measure => have := HJ.out; omega
        case rel => exact ⟨j, (rdNum M64 s).2, .slice Ax nx cx, ps ++ [(rdNum M64 s).1], by rw [HWI.out], ⟨rfl, by have := HJ.out; simp; omega⟩, ⟨nums_snoc _ _ _ _ _ HE.out⟩, ⟨HS6.out⟩⟩)
    | zero =>
      have hj : decide ((0 : Int) < ((0 : Nat) : Int)) = false := decide_eq_false (by omega)
      have HE2 := Aside0.mk (show (rdNums M64 (rdNum 2 (rdNum M64 (b, false)).2).1.toNat (rdNum 2 (rdNum M64 (b, false)).2).2) = (ps, s) by rw [HE.out]; simp [rdNums])
      obtain ⟨A1, n1, hv, _, _⟩ := Kd.R_reads HS.out.hR
      subst hv
      have HSx := HS
      have HLN := Aside0.mk (show ps.length ≤ 2 by have := HJ.out; have := HNN.out; omega)
      have HRD := Aside0.mk (show rdC (b, false) = (⟨(rdNum M64 (b, false)).1, ps, (rdNum M64 s).1, (rdNum M64 (rdNum M64 s).2).1, (rdText 60 (rdNum M64 (rdNum M64 s).2).2).1⟩, (rdText 60 (rdNum M64 (rdNum M64 s).2).2).2) by simp only [rdC, HE2.out])
      have HIN0 := rdC_in HFF.out
      rw [HRD.out] at HIN0
      have HIN := Aside0.mk (show ComIn (rdNum M64 (b, false)).1 ps (rdNum M64 s).1 (rdNum M64 (rdNum M64 s).2).1 from HIN0.1)
      have HTX := Aside0.mk (show (rdText 60 (rdNum M64 (rdNum M64 s).2).2).1.size ≤ 140737488355328 by have := rdText_size (fine_num (fine_num (RdAt.fine HS.out.rd) M64) M64) 60 (by decide); omega)
      clear HIN0 HS HE HFF HNN HNI
      go_wp2_with (first | (go_at_call 26; have hq := HS8.out; clear hq; refine (rd_text W.heap.size g _ 60 _ HS8.out.rd (by decide)).mono ?_; rintro e w9 ⟨rfl, hr, hf⟩; have hH := HS8.out.fr hr hf (by decide); have hc9 := hH.c.2.2.2.2; have hz9 := hH.z 4; have HS9 := Aside0.mk (hH.set4 (by decide) (rdText 60 (rdNum M64 (rdNum M64 s).2).2).1); clear hr hf hH HS8) | (go_at_call 25; have hq := HS7.out; clear hq; refine (rd_num W.heap.size g _ M64 _ HS7.out.rd).mono ?_; rintro e w8 ⟨rfl, hr, hf⟩; have hH := HS7.out.fr hr hf (by decide); have hc8 := hH.c.2.2.2.1; have hz8 := hH.z 3; have HS8 := Aside0.mk (hH.set3 (by decide) (rdNum M64 (rdNum M64 s).2).1); clear hr hf hH HS7) | (go_at_call 25; have hq := HSx.out; clear hq; refine (rd_num W.heap.size g _ M64 _ HSx.out.rd).mono ?_; rintro e w7 ⟨rfl, hr, hf⟩; have hH := HSx.out.fr hr hf (by decide); have hc7 := hH.c.2.2.1; have hz7 := hH.z 2; have HS7 := Aside0.mk (hH.set2 (by decide) (rdNum M64 s).1); clear hr hf hH HSx))
      generalize w9.setCell ⟨w2.heap.size, 4, none⟩ (.string (rdText 60 (rdNum M64 (rdNum M64 s).2).2).1) = wA at HS9 ⊢
      obtain ⟨ca, cb, cc, cd, ce⟩ := HS9.out.c
      obtain ⟨ra, rb, rc, rd', re⟩ := HS9.out.r
      have y0 := HS9.out.y 0
      have y1 := HS9.out.y 1
      have y2 := HS9.out.y 2
      have y3 := HS9.out.y 3
      have y4 := HS9.out.y 4
      refine (rd_done W.heap.size g _ wA HS9.out.rd).mono ?_
      rintro e w10 ⟨rfl, rfl⟩
      have HRC := Aside0.mk (Kd.R_reads' HS9.out.hR)
      cases hd : rdDone (rdText 60 (rdNum M64 (rdNum M64 s).2).2).2 with
      | false =>
        have HOF := Aside0.mk (show ofC b = (zeroC, 20) by unfold ofC; rw [HRD.out, if_neg (by rw [hd]; simp)])
        clear hd
        go_wp2
        obtain ⟨hk, hf⟩ := five_set (B := W.heap.size) HS9.out.bR (Nat.le_refl _) (.int .u64 0) (.slice none 0 0) (.int .u64 0) (.int .u64 0) (.string ⟨#[]⟩)
        refine bodyPost_ret (results_ct rfl _ _ W.heap.size 25 #[.int .u64 0, .slice none 0 0, .int .u64 0, .int .u64 0, .string ⟨#[]⟩] (0, 0) _ rfl hk huF rfl (by kernel_rfl)) rfl ?_
        refine ⟨none, 0, ?_, ?_, ?_, HS9.out.bel.trans (hf.below HS9.out.bel.size)⟩
        · rw [HOF.out]
          rfl
        · rw [HOF.out]
          exact Nat.le_refl _
        · rw [HOF.out]
          exact nil_C _
      | true =>
        by_cases he : comE (rdNum M64 (b, false)).1 ps (rdNum M64 s).1 (rdText 60 (rdNum M64 (rdNum M64 s).2).2).1 = 0
        · have HOF := Aside0.mk (show ofC b = (⟨(rdNum M64 (b, false)).1, ps, (rdNum M64 s).1, (rdNum M64 (rdNum M64 s).2).1, (rdText 60 (rdNum M64 (rdNum M64 s).2).2).1⟩, 0) by unfold ofC; rw [HRD.out, if_pos ⟨hd, he⟩])
          have HEE := Aside0.mk he
          clear hd he
          go_wp2_with (go_at_call 9; refine ((right_calls A1 n1 _ _ _ _ _ _ HRC.out.2.2 (by have := HLN.out; show _ ≤ 9223372036854775807; omega) HIN.out)).mono ?_; rw [HEE.out]; rintro e w11 ⟨rfl, hb11⟩; have HS11 := Aside0.mk (HS9.out.below hb11); obtain ⟨da, db, dc, dd, de⟩ := HS11.out.c; obtain ⟨qa, qb, qc, qd, qe⟩ := HS11.out.r; have x0 := HS11.out.y 0; have x1 := HS11.out.y 1; have x2 := HS11.out.y 2; have x3 := HS11.out.y 3; have x4 := HS11.out.y 4; clear hb11)
          obtain ⟨hk, hf⟩ := five_set (B := W.heap.size) HS11.out.bR (Nat.le_refl _) (.int .u64 (rdNum M64 (b, false)).1) (.slice A1 ps.length n1) (.int .u64 (rdNum M64 s).1) (.int .u64 (rdNum M64 (rdNum M64 s).2).1) (.string (rdText 60 (rdNum M64 (rdNum M64 s).2).2).1)
          refine bodyPost_ret (results_ct rfl _ _ W.heap.size 25 #[.int .u64 (rdNum M64 (b, false)).1, .slice A1 ps.length n1, .int .u64 (rdNum M64 s).1, .int .u64 (rdNum M64 (rdNum M64 s).2).1, .string (rdText 60 (rdNum M64 (rdNum M64 s).2).2).1] (0, 0) _ rfl hk huF rfl (by kernel_rfl)) rfl ?_
          refine ⟨A1, n1, ?_, ?_, ?_, HS11.out.bel.trans (hf.below HS11.out.bel.size)⟩
          · rw [HOF.out]
            rfl
          · rw [HOF.out]
            exact HRC.out.2.1
          · rw [HOF.out]
            exact (Kd.R_reads' (hf.R HS11.out.hR (u_E (by decide)))).2.2
        · have HOF := Aside0.mk (show ofC b = (zeroC, 20) by unfold ofC; rw [HRD.out, if_neg (fun h => he h.2)])
          have he' : (comE (rdNum M64 (b, false)).1 ps (rdNum M64 s).1 (rdText 60 (rdNum M64 (rdNum M64 s).2).2).1 != 0) = true := bne_iff_ne.mpr he
          clear hd he
          go_wp2_with (go_at_call 9; refine ((right_calls A1 n1 _ _ _ _ _ _ HRC.out.2.2 (by have := HLN.out; show _ ≤ 9223372036854775807; omega) HIN.out)).mono ?_; rintro e w11 ⟨rfl, hb11⟩; have HS11 := Aside0.mk (HS9.out.below hb11); obtain ⟨da, db, dc, dd, de⟩ := HS11.out.c; obtain ⟨qa, qb, qc, qd, qe⟩ := HS11.out.r; have x0 := HS11.out.y 0; have x1 := HS11.out.y 1; have x2 := HS11.out.y 2; have x3 := HS11.out.y 3; have x4 := HS11.out.y 4; clear hb11)
          obtain ⟨hk, hf⟩ := five_set (B := W.heap.size) HS11.out.bR (Nat.le_refl _) (.int .u64 0) (.slice none 0 0) (.int .u64 0) (.int .u64 0) (.string ⟨#[]⟩)
          refine bodyPost_ret (results_ct rfl _ _ W.heap.size 25 #[.int .u64 0, .slice none 0 0, .int .u64 0, .int .u64 0, .string ⟨#[]⟩] (0, 0) _ rfl hk huF rfl (by kernel_rfl)) rfl ?_
          refine ⟨none, 0, ?_, ?_, ?_, HS11.out.bel.trans (hf.below HS11.out.bel.size)⟩
          · rw [HOF.out]
            rfl
          · rw [HOF.out]
            exact Nat.le_refl _
          · rw [HOF.out]
            exact nil_C _
set_option maxHeartbeats 8000000 in
set_option maxRecDepth 100000 in
theorem refOf_calls (A : Option Addr) (c : Nat) (b : List Int) (W : World) (hC : Kd.C (Kd.int .u8) W A b.length b) (hc : b.length ≤ c) (hF : Fine (b, false)) :
    Calls Try.prog 13 #[.slice A b.length c] W fun e W1 => ∃ A1 c1, e = .returned (.tuple #[.agg #[.int .u64 (ofC b).1.id, .slice A1 (ofC b).1.ps.length c1, .int .u64 (ofC b).1.gen, .int .u64 (ofC b).1.root, .string (ofC b).1.text], .int .i64 (ofC b).2]) ∧ (ofC b).1.ps.length ≤ c1 ∧ Kd.C (Kd.int .u64) W1 A1 (ofC b).1.ps.length (ofC b).1.ps ∧ Below W.heap.size W W1 := by
  have HR1 := Aside0.mk (show RdAt 59 W.heap.size (W.heap.size + 1) ((W.alloc (.cells zeroCells 25)).alloc (.cells #[.slice A b.length c, .bool false] 59)) (b, false) by rw [size_one W (.cells zeroCells 25)]; exact rf_boxC hC hc hF (below_alloc (Below.refl _ _) (.cells zeroCells 25)))
  have HK1 := Aside0.mk (blk_alloc (blk_new W (.cells zeroCells 25)) (.cells #[.slice A b.length c, .bool false] 59))
  have HB1 := Aside0.mk (below_alloc (below_alloc (Below.refl W.heap.size W) (.cells zeroCells 25)) (.cells #[.slice A b.length c, .bool false] 59))
  have HFF := Aside0.mk hF
  have huF := Try.underlying25
  clear hC hF hc
  go_enter Try.func13, Try.ntmps13
  go_wp2_with (first | (go_at_call 28; have hq := HS2.out; clear hq; refine (rf_num W.heap.size (W.heap.size + 1) _ 2 _ HS2.out.rd).mono ?_; rintro e w3 ⟨rfl, hr, hf⟩; have HS3 := Aside0.mk (HS2.out.fr hr hf (by decide)); clear hr hf HS2) | (go_at_call 28; have hq := HR1.out; clear hq; refine (rf_num W.heap.size (W.heap.size + 1) (b, false) M64 _ HR1.out).mono ?_; rintro e w2 ⟨rfl, hr, hf⟩; have HS2 := Aside0.mk (ofSt_new (T := 59) (x := (rdNum M64 (b, false)).1) hr hf HK1.out HB1.out ⟨by decide, by decide⟩); clear hr hf HR1 HK1 HB1))
  have HNN := Aside0.mk (num_in (fine_num HFF.out M64) 2 (by decide))
  have HNI := Aside0.mk (show (rdNum 2 (rdNum M64 (b, false)).2).1 = ((rdNum 2 (rdNum M64 (b, false)).2).1.toNat : Int) by have := HNN.out.1; omega)
  go_loopg [7] (rdNum 2 (rdNum M64 (b, false)).2).1.toNat (fun kq v6 w' => ∃ (j : Nat) (i : Nat) (s : RS) (v : Value) (ps : List Int), v6 = .int .u64 (i : Int) ∧ Aside0 (kq = j ∧ j + ps.length = (rdNum 2 (rdNum M64 (b, false)).2).1.toNat ∧ i = ps.length) ∧ Aside0 (rdNums M64 (rdNum 2 (rdNum M64 (b, false)).2).1.toNat (rdNum 2 (rdNum M64 (b, false)).2).2 = (ps ++ (rdNums M64 j s).1, (rdNums M64 j s).2)) ∧ Aside0 (OfSt 59 W (W.heap.size + 1) w2.heap.size w' s (rdNum M64 (b, false)).1 0 0 ⟨#[]⟩ v ps))
  case atStart => exact ⟨(rdNum 2 (rdNum M64 (b, false)).2).1.toNat, 0, (rdNum 2 (rdNum M64 (b, false)).2).2, .slice none 0 0, [], rfl, ⟨rfl, by simp, rfl⟩, ⟨by simp⟩, ⟨HS3.out⟩⟩
  case round =>
    obtain ⟨j, i, s, v, ps, rfl, HJ, HE, HS⟩ := hrel
    cases j with
    | succ j =>
      have hj : decide ((i : Int) < (rdNum 2 (rdNum M64 (b, false)).2).1) = true := decide_eq_true (by have := HJ.out; have := HNI.out; omega)
      have HWI := Aside0.mk (wrap_succ i (by have := HJ.out; have := HNN.out; omega))
      have HSd := Aside0.mk (HS.out.below (below_drew (Below.refl wr.heap.size wr)))
      have hc1 := HS.out.c.2.1
      have hcd : wr.drew.cell? ⟨w2.heap.size, 1, none⟩ = some v := HSd.out.c.2.1
      go_wp2
      go_region_law (first | (refine Kd.R_append_step (Kd.int .u64) (w0 := W) W.heap.size (by rfl) (.tmp 22) (.tmp 25) 23 22 (.int .u64 0) 8 rfl Try.underlying23 (by kernel_rfl) rfl (by decide) (by omega) v ps (rdNum M64 s).1 [.int .u64 (rdNum M64 s).1] (fun _ => True) (fun _ => False) rfl rfl rfl (fun _ hk => hk.elim) (fun _ _ => trivial) HS5.out.hR HS5.out.bel HS5.out.bel.size (by have := HJ.out; have := HNN.out; omega) ?_; intro v1 w6 ho hb hgr hat; obtain ⟨Ax, nx, cx, hvx⟩ := R_slice' ho; subst hvx; have HS6 := Aside0.mk (HS5.out.push ⟨by decide, by decide, by decide⟩ ho (by obtain ⟨inner, h⟩ := Kd.R_own HS5.out.hR; exact Fr.of_grown h (Nat.le_refl _) hgr (by simp)) hb); have hf6 := (show Fr W.heap.size [22] w5 w6 by obtain ⟨inner, h⟩ := Kd.R_own HS5.out.hR; exact Fr.of_grown h (Nat.le_refl _) hgr (by simp)).blk HS5.out.bC (by decide); have hc61 : w6.cell? ⟨w2.heap.size, 1, none⟩ = some v := (blk_cell hf6 1).trans rfl; have hz61 : w6.frozen? ⟨w2.heap.size, 1, none⟩ = false := blk_frozen hf6 1; clear ho hb hgr hat hf6) | (go_simp; (go_at_call 28; refine (rf_num W.heap.size (W.heap.size + 1) s M64 _ HSd.out.rd).mono ?_; rintro e w5 ⟨rfl, hr, hf⟩; have HS5 := Aside0.mk (HSd.out.fr hr hf (by decide)); have hc51 := HS5.out.c.2.1; have hc5b : (w5.alloc (.cells #[.int .u64 (rdNum M64 s).1] 22)).cell? ⟨w2.heap.size, 1, none⟩ = some v := (HS5.out.below (below_alloc (Below.refl _ _) _)).c.2.1; clear hr hf)))
      all_goals (
        go_wp2
        go_roundg j
        case measure => have := HJ.out; omega
        case rel => exact ⟨j, i + 1, (rdNum M64 s).2, .slice Ax nx cx, ps ++ [(rdNum M64 s).1], by rw [HWI.out], ⟨rfl, by have := HJ.out; simp; omega, by have := HJ.out; simp; omega⟩, ⟨nums_snoc _ _ _ _ _ HE.out⟩, ⟨HS6.out⟩⟩)
    | zero =>
      have hj : decide ((i : Int) < (rdNum 2 (rdNum M64 (b, false)).2).1) = false := decide_eq_false (by have := HJ.out; have := HNI.out; omega)
      have HE2 := Aside0.mk (show (rdNums M64 (rdNum 2 (rdNum M64 (b, false)).2).1.toNat (rdNum 2 (rdNum M64 (b, false)).2).2) = (ps, s) by rw [HE.out]; simp [rdNums])
      obtain ⟨A1, n1, hv, _, _⟩ := Kd.R_reads HS.out.hR
      subst hv
      have HSx := HS
      have HLN := Aside0.mk (show ps.length ≤ 2 by have := HJ.out; have := HNN.out; omega)
      have HRD := Aside0.mk (show rdC (b, false) = (⟨(rdNum M64 (b, false)).1, ps, (rdNum M64 s).1, (rdNum M64 (rdNum M64 s).2).1, (rdText 60 (rdNum M64 (rdNum M64 s).2).2).1⟩, (rdText 60 (rdNum M64 (rdNum M64 s).2).2).2) by simp only [rdC, HE2.out])
      have HIN0 := rdC_in HFF.out
      rw [HRD.out] at HIN0
      have HIN := Aside0.mk (show ComIn (rdNum M64 (b, false)).1 ps (rdNum M64 s).1 (rdNum M64 (rdNum M64 s).2).1 from HIN0.1)
      have HTX := Aside0.mk (show (rdText 60 (rdNum M64 (rdNum M64 s).2).2).1.size ≤ 140737488355328 by have := rdText_size (fine_num (fine_num (RdAt.fine HS.out.rd) M64) M64) 60 (by decide); omega)
      clear HIN0 HS HE HFF HNN HNI
      go_wp2_with (first | (go_at_call 29; have hq := HS8.out; clear hq; refine (rf_text W.heap.size (W.heap.size + 1) _ 60 _ HS8.out.rd (by decide)).mono ?_; rintro e w9 ⟨rfl, hr, hf⟩; have hH := HS8.out.fr hr hf (by decide); have hc9 := hH.c.2.2.2.2; have hz9 := hH.z 4; have HS9 := Aside0.mk (hH.set4 (by decide) (rdText 60 (rdNum M64 (rdNum M64 s).2).2).1); clear hr hf hH HS8) | (go_at_call 28; have hq := HS7.out; clear hq; refine (rf_num W.heap.size (W.heap.size + 1) _ M64 _ HS7.out.rd).mono ?_; rintro e w8 ⟨rfl, hr, hf⟩; have hH := HS7.out.fr hr hf (by decide); have hc8 := hH.c.2.2.2.1; have hz8 := hH.z 3; have HS8 := Aside0.mk (hH.set3 (by decide) (rdNum M64 (rdNum M64 s).2).1); clear hr hf hH HS7) | (go_at_call 28; have hq := HSx.out; clear hq; refine (rf_num W.heap.size (W.heap.size + 1) _ M64 _ HSx.out.rd).mono ?_; rintro e w7 ⟨rfl, hr, hf⟩; have hH := HSx.out.fr hr hf (by decide); have hc7 := hH.c.2.2.1; have hz7 := hH.z 2; have HS7 := Aside0.mk (hH.set2 (by decide) (rdNum M64 s).1); clear hr hf hH HSx))
      generalize w9.setCell ⟨w2.heap.size, 4, none⟩ (.string (rdText 60 (rdNum M64 (rdNum M64 s).2).2).1) = wA at HS9 ⊢
      obtain ⟨ca, cb, cc, cd, ce⟩ := HS9.out.c
      obtain ⟨ra, rb, rc, rd', re⟩ := HS9.out.r
      have y0 := HS9.out.y 0
      have y1 := HS9.out.y 1
      have y2 := HS9.out.y 2
      have y3 := HS9.out.y 3
      have y4 := HS9.out.y 4
      refine (rf_done W.heap.size (W.heap.size + 1) _ wA HS9.out.rd).mono ?_
      rintro e w10 ⟨rfl, rfl⟩
      have HRC := Aside0.mk (Kd.R_reads' HS9.out.hR)
      cases hd : rdDone (rdText 60 (rdNum M64 (rdNum M64 s).2).2).2 with
      | false =>
        have HOF := Aside0.mk (show ofC b = (zeroC, 20) by unfold ofC; rw [HRD.out, if_neg (by rw [hd]; simp)])
        clear hd
        go_wp2
        obtain ⟨hk, hf⟩ := five_set (B := W.heap.size) HS9.out.bR (Nat.le_refl _) (.int .u64 0) (.slice none 0 0) (.int .u64 0) (.int .u64 0) (.string ⟨#[]⟩)
        refine bodyPost_ret (results_ct rfl _ _ W.heap.size 25 #[.int .u64 0, .slice none 0 0, .int .u64 0, .int .u64 0, .string ⟨#[]⟩] (0, 0) _ rfl hk huF rfl (by kernel_rfl)) rfl ?_
        refine ⟨none, 0, ?_, ?_, ?_, HS9.out.bel.trans (hf.below HS9.out.bel.size)⟩
        · rw [HOF.out]
          rfl
        · rw [HOF.out]
          exact Nat.le_refl _
        · rw [HOF.out]
          exact nil_C _
      | true =>
        by_cases he : comE (rdNum M64 (b, false)).1 ps (rdNum M64 s).1 (rdText 60 (rdNum M64 (rdNum M64 s).2).2).1 = 0
        · have HOF := Aside0.mk (show ofC b = (⟨(rdNum M64 (b, false)).1, ps, (rdNum M64 s).1, (rdNum M64 (rdNum M64 s).2).1, (rdText 60 (rdNum M64 (rdNum M64 s).2).2).1⟩, 0) by unfold ofC; rw [HRD.out, if_pos ⟨hd, he⟩])
          have HEE := Aside0.mk he
          clear hd he
          go_wp2_with (go_at_call 14; refine ((refCom_calls A1 n1 _ _ _ _ _ _ HRC.out.2.2 HRC.out.2.1 HIN.out HTX.out)).mono ?_; rw [HEE.out]; rintro e w11 ⟨rfl, hb11⟩; have HS11 := Aside0.mk (HS9.out.below hb11); obtain ⟨da, db, dc, dd, de⟩ := HS11.out.c; obtain ⟨qa, qb, qc, qd, qe⟩ := HS11.out.r; have x0 := HS11.out.y 0; have x1 := HS11.out.y 1; have x2 := HS11.out.y 2; have x3 := HS11.out.y 3; have x4 := HS11.out.y 4; clear hb11)
          obtain ⟨hk, hf⟩ := five_set (B := W.heap.size) HS11.out.bR (Nat.le_refl _) (.int .u64 (rdNum M64 (b, false)).1) (.slice A1 ps.length n1) (.int .u64 (rdNum M64 s).1) (.int .u64 (rdNum M64 (rdNum M64 s).2).1) (.string (rdText 60 (rdNum M64 (rdNum M64 s).2).2).1)
          refine bodyPost_ret (results_ct rfl _ _ W.heap.size 25 #[.int .u64 (rdNum M64 (b, false)).1, .slice A1 ps.length n1, .int .u64 (rdNum M64 s).1, .int .u64 (rdNum M64 (rdNum M64 s).2).1, .string (rdText 60 (rdNum M64 (rdNum M64 s).2).2).1] (0, 0) _ rfl hk huF rfl (by kernel_rfl)) rfl ?_
          refine ⟨A1, n1, ?_, ?_, ?_, HS11.out.bel.trans (hf.below HS11.out.bel.size)⟩
          · rw [HOF.out]
            rfl
          · rw [HOF.out]
            exact HRC.out.2.1
          · rw [HOF.out]
            exact (Kd.R_reads' (hf.R HS11.out.hR (u_E (by decide)))).2.2
        · have HOF := Aside0.mk (show ofC b = (zeroC, 20) by unfold ofC; rw [HRD.out, if_neg (fun h => he h.2)])
          have he' : (comE (rdNum M64 (b, false)).1 ps (rdNum M64 s).1 (rdText 60 (rdNum M64 (rdNum M64 s).2).2).1 != 0) = true := bne_iff_ne.mpr he
          clear hd he
          go_wp2_with (go_at_call 14; refine ((refCom_calls A1 n1 _ _ _ _ _ _ HRC.out.2.2 HRC.out.2.1 HIN.out HTX.out)).mono ?_; rintro e w11 ⟨rfl, hb11⟩; have HS11 := Aside0.mk (HS9.out.below hb11); obtain ⟨da, db, dc, dd, de⟩ := HS11.out.c; obtain ⟨qa, qb, qc, qd, qe⟩ := HS11.out.r; have x0 := HS11.out.y 0; have x1 := HS11.out.y 1; have x2 := HS11.out.y 2; have x3 := HS11.out.y 3; have x4 := HS11.out.y 4; clear hb11)
          obtain ⟨hk, hf⟩ := five_set (B := W.heap.size) HS11.out.bR (Nat.le_refl _) (.int .u64 0) (.slice none 0 0) (.int .u64 0) (.int .u64 0) (.string ⟨#[]⟩)
          refine bodyPost_ret (results_ct rfl _ _ W.heap.size 25 #[.int .u64 0, .slice none 0 0, .int .u64 0, .int .u64 0, .string ⟨#[]⟩] (0, 0) _ rfl hk huF rfl (by kernel_rfl)) rfl ?_
          refine ⟨none, 0, ?_, ?_, ?_, HS11.out.bel.trans (hf.below HS11.out.bel.size)⟩
          · rw [HOF.out]
            rfl
          · rw [HOF.out]
            exact Nat.le_refl _
          · rw [HOF.out]
            exact nil_C _
end Go.Proofs.Ytaijciijfofbmaa.Sep
