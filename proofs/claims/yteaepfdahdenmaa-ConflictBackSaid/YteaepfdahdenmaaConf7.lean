/- Clashes told of bytes: the program's Of. Printed by gen7.py. Conditions: the bounds of the statements. -/
import Derived.Test.YteaepfdahdenmaaConf6
namespace Go.Proofs.Yteaepfdahdenmaa.Sep
set_option linter.unusedSimpArgs false
set_option linter.unusedVariables false
open Go.RowKit Go.Proofs.Yteaepfdahdenmaa.PCore Go.Proofs.Yteaepfdahdenmaa.Plain Go.Proofs.YteaepfdahdenmaaW.PrintWords Go.Proofs.YteaepfdahdenmaaW.PrintLast Go.Proofs.YteaepfdahdenmaaW.PrintMore
open Go.Proofs.Yteaepfdahdenmaa.PDat (S44 k44 z44 rd_T44 at_T44 S46 k46 z46 rd_T46 at_T46 k46_mkM)
theorem cl_E {T : List Nat} (h : 46 ∉ T) : ∀ q, q ∈ 46 :: (k46).E → q ∉ T := fun q hq => by
  have e : q = 46 := by simpa [k46, k44, Kd.iso, Kd.pair, Kd.int, Kd.scalar, Kd.string, Kd.bool] using hq
  rw [e]
  exact h
/-- Where reading a clash stands: the reader (type T, block g), the clash's variable (block C), the clashes told so far. -/
structure ClSt (T : Nat) (W0 : World) (g C : Nat) (w : World) (s : RS) (c : Clash) (v : Value) (xs : List Clash) : Prop where
  rd : RdAt T W0.heap.size g w s
  bC : w.heap[C]? = some (.cells (claCells c) 46 (0, 0))
  hR : Kd.R k46 46 w W0.heap.size (fun k => k ≠ C) v xs
  le : W0.heap.size ≤ C
  bel : Below W0.heap.size W0 w
section
variable {T : Nat} {W0 : World} {g C : Nat} {w w1 : World} {s s' : RS} {c : Clash} {v : Value} {xs : List Clash}
theorem ClSt.fr (h : ClSt T W0 g C w s c v xs) (hr : RdAt T W0.heap.size g w1 s') (hf : Fr W0.heap.size [T] w w1) (hT : 46 ∉ [T]) : ClSt T W0 g C w1 s' c v xs :=
  ⟨hr, hf.blk h.bC hT, hf.R h.hR (cl_E hT), h.le, h.bel.trans (hf.below h.bel.size)⟩
theorem ClSt.setv (h : ClSt T W0 g C w s c v xs) (hT : 46 ≠ T ∧ 46 ≠ 5) (c' : Clash) (j j' : Nat) (u u' : Value) (hc : ((claCells c).setIfInBounds j u).setIfInBounds j' u' = claCells c') :
    ClSt T W0 g C ((w.setCell ⟨C, j, none⟩ u).setCell ⟨C, j', none⟩ u') s c' v xs := by
  have hF := ((Fr.refl W0.heap.size [46] w).set h.bC h.le (by simp) j u).set h.bC h.le (by simp) j' u'
  refine ⟨h.rd.fr hF ⟨by simp; first | done | exact fun e => hT.1 e.symm, by decide⟩, ?_, Kd.R_far (Kd.R_far h.hR (p := ⟨C, j, none⟩) (fun k hk => hk) u) (p := ⟨C, j', none⟩) (fun k hk => hk) u', h.le, h.bel.trans (hF.below h.bel.size)⟩
  have := blk_set (blk_set h.bC j u) j' u'
  rw [hc] at this
  exact this
theorem ClSt.set1 (h : ClSt T W0 g C w s c v xs) (hT : 46 ≠ T ∧ 46 ≠ 5) (x : Side) : ClSt T W0 g C ((w.setCell ⟨C, 1, none⟩ (.bool x.f0)).setCell ⟨C, 2, none⟩ (.string x.f1)) s ⟨c.f0, x, c.f2, c.f3⟩ v xs := h.setv hT _ 1 2 _ _ rfl
theorem ClSt.set2 (h : ClSt T W0 g C w s c v xs) (hT : 46 ≠ T ∧ 46 ≠ 5) (x : Side) : ClSt T W0 g C ((w.setCell ⟨C, 3, none⟩ (.bool x.f0)).setCell ⟨C, 4, none⟩ (.string x.f1)) s ⟨c.f0, c.f1, x, c.f3⟩ v xs := h.setv hT _ 3 4 _ _ rfl
theorem ClSt.set3 (h : ClSt T W0 g C w s c v xs) (hT : 46 ≠ T ∧ 46 ≠ 5) (x : Side) : ClSt T W0 g C ((w.setCell ⟨C, 5, none⟩ (.bool x.f0)).setCell ⟨C, 6, none⟩ (.string x.f1)) s ⟨c.f0, c.f1, c.f2, x⟩ v xs := h.setv hT _ 5 6 _ _ rfl
theorem clSt_new (hr : RdAt T W0.heap.size g w1 s') (hf : Fr W0.heap.size [T] w w1) (hR : Kd.R k46 46 w W0.heap.size (fun _ => True) v xs) (hb : Below W0.heap.size W0 w) (hT : 46 ∉ [T]) (k : ByteArray) :
    ClSt T W0 g w1.heap.size (w1.alloc (.cells #[.string k, .bool false, .string ⟨#[]⟩, .bool false, .string ⟨#[]⟩, .bool false, .string ⟨#[]⟩] 46)) s' ⟨k, ⟨false, ⟨#[]⟩⟩, ⟨false, ⟨#[]⟩⟩, ⟨false, ⟨#[]⟩⟩⟩ v xs :=
  ⟨hr.below (below_alloc (Below.refl _ _) _), blk_new _ _, Kd.R_alloc (Kd.R_mono (Kd.R_bound (hf.R hR (cl_E hT))) (fun k hk => Nat.ne_of_lt hk.2.2.1)) _, (hb.trans (hf.below hb.size)).size, below_alloc (hb.trans (hf.below hb.size)) _⟩
end
theorem k_pred (j : Nat) (h : j ≤ 2000) : IntKind.u64.wrap (j : Int) = (j : Int) := by rw [IntKind.wrap_u64]; omega
theorem cls_snoc (j : Nat) (s s0 : RS) (xs : List Clash) (N : Nat) (h : rdCls N s0 = (xs ++ (rdCls (j + 1) s).1, (rdCls (j + 1) s).2)) : rdCls N s0 = ((xs ++ [(rdCl s).1]) ++ (rdCls j (rdCl s).2).1, (rdCls j (rdCl s).2).2) := by
  rw [h]
  simp [rdCls]
set_option maxHeartbeats 16000000 in
set_option maxRecDepth 100000 in
theorem of13_calls (A : Option Addr) (n : Nat) (b : List Int) (W : World) (hC : Kd.C (Kd.int .u8) W A b.length b) (hF : Fine (b, false)) :
    Calls Try.prog 9 #[.slice A b.length n] W fun e W1 => ∃ v, e = .returned (.tuple #[v, .int .i64 (ofK b).2]) ∧ Kd.R k46 46 W1 W.heap.size (fun _ => True) v (ofK b).1 ∧ Below W.heap.size W W1 := by
  have HP := Aside0.mk (rd_read A n b W hC hF)
  have HFF := Aside0.mk hF
  clear hC hF
  have huF := Try.underlying46
  have huS := Try.underlying44
  have HNN := Aside0.mk (num_in HFF.out 1000 (by decide))
  have HNI := Aside0.mk (show (rdNum 1000 (b, false)).1 = ((rdNum 1000 (b, false)).1.toNat : Int) by have := HNN.out.1; omega)
  go_enter Try.func9, Try.ntmps9
  go_wp2_with (first | (go_at_call 22; refine HP.out.mono ?_; rintro e w1 ⟨g, rfl, hr, hb⟩; have HR1 := Aside0.mk (hr W.heap.size (Nat.le_refl _)); have HB1 := Aside0.mk hb; clear hr hb) | (go_at_call 23; refine (rd_num W.heap.size g (b, false) 1000 _ HR1.out).mono ?_; rintro e w2 ⟨rfl, hr, hf⟩; have HR2 := Aside0.mk hr; have HB2 := Aside0.mk (HB1.out.trans (hf.below HB1.out.size)); clear hr hf))
  go_loopg [5, 6] (rdNum 1000 (b, false)).1.toNat (fun kq v5 v6 w' => ∃ (j : Nat) (s : RS) (xs : List Clash), v6 = .int .u64 (j : Int) ∧ Aside0 (kq = j ∧ j + xs.length = (rdNum 1000 (b, false)).1.toNat) ∧ Aside0 (rdCls (rdNum 1000 (b, false)).1.toNat (rdNum 1000 (b, false)).2 = (xs ++ (rdCls j s).1, (rdCls j s).2)) ∧ Aside0 (RdAt 79 W.heap.size g w' s) ∧ Aside0 (Kd.R k46 46 w' W.heap.size (fun _ => True) v5 xs) ∧ Aside0 (Below W.heap.size W w'))
  case atStart => exact ⟨(rdNum 1000 (b, false)).1.toNat, (rdNum 1000 (b, false)).2, [], by rw [← HNI.out], ⟨rfl, by simp⟩, ⟨by simp⟩, ⟨HR2.out⟩, ⟨Kd.R_nil _ _ _ _ _⟩, ⟨HB2.out⟩⟩
  case round =>
    obtain ⟨j, s, xs, rfl, HJ, HE, HRd, HO, HB⟩ := hrel
    cases j with
    | succ j =>
      have hj : decide ((0 : Int) < (j : Int) + 1) = true := decide_eq_true (by omega)
      have HWI := Aside0.mk (k_pred j (by have := HJ.out; have := HNN.out; omega))
      go_upto_region 10 with (first | (go_at_call 25; have hq := HC3.out; clear hq; refine (read_calls W.heap.size g _ _ HC3.out.rd).mono ?_; rintro e w4 ⟨rfl, hr, hf⟩; have hH := HC3.out.fr hr hf (by decide); obtain ⟨d0, d1, d2, d3, d4, d5, d6⟩ := cla_cells hH.bC; have zz5 := blk_frozen hH.bC 5; have zz6 := blk_frozen hH.bC 6; have HC4 := Aside0.mk (hH.set3 (by decide) (rdS (rdS (rdS (rdText 40 s).2).2).2).1); clear hr hf hH HC3) | (go_at_call 25; have hq := HC2.out; clear hq; refine (read_calls W.heap.size g _ _ HC2.out.rd).mono ?_; rintro e w3' ⟨rfl, hr, hf⟩; have hH := HC2.out.fr hr hf (by decide); obtain ⟨d0, d1, d2, d3, d4, d5, d6⟩ := cla_cells hH.bC; have zz3 := blk_frozen hH.bC 3; have zz4 := blk_frozen hH.bC 4; have HC3 := Aside0.mk (hH.set2 (by decide) (rdS (rdS (rdText 40 s).2).2).1); clear hr hf hH HC2) | (go_at_call 25; have hq := HC1.out; clear hq; refine (read_calls W.heap.size g _ _ HC1.out.rd).mono ?_; rintro e w2' ⟨rfl, hr, hf⟩; have hH := HC1.out.fr hr hf (by decide); obtain ⟨d0, d1, d2, d3, d4, d5, d6⟩ := cla_cells hH.bC; have zz1 := blk_frozen hH.bC 1; have zz2 := blk_frozen hH.bC 2; have HC2 := Aside0.mk (hH.set1 (by decide) (rdS (rdText 40 s).2).1); clear hr hf hH HC1) | (go_at_call 24; refine (rd_text W.heap.size g s 40 _ HRd.out (by decide)).mono ?_; rintro e w1' ⟨rfl, hr, hf⟩; have HC1 := Aside0.mk (clSt_new hr hf HO.out HB.out (by decide) (rdText 40 s).1); clear hr hf))
      generalize ((w4.setCell ⟨w1'.heap.size, 5, none⟩ (.bool (rdS (rdS (rdS (rdText 40 s).2).2).2).1.f0)).setCell ⟨w1'.heap.size, 6, none⟩ (.string (rdS (rdS (rdS (rdText 40 s).2).2).2).1.f1)) = X at HC4 ⊢
      have HC4' : Aside0 (ClSt 79 W g w1'.heap.size X (rdCl s).2 (rdCl s).1 u5 xs) := HC4
      obtain ⟨c0, c1, c2, c3, c4, c5, c6⟩ := cla_cells HC4'.out.bC
      go_wp2_with (at_builtin; refine Kd.R_append k46 (w0 := W) W.heap.size rfl (.tmp 28) (.tmp 30) 22 46 (.agg #[.string ⟨#[]⟩, .bool false, .string ⟨#[]⟩, .bool false, .string ⟨#[]⟩, .bool false, .string ⟨#[]⟩]) 88 rfl Try.underlying22 (by kernel_rfl) rfl (by decide) (by omega) u5 xs (rdCl s).1 [.string (rdCl s).1.f0, .bool (rdCl s).1.f1.f0, .string (rdCl s).1.f1.f1, .bool (rdCl s).1.f2.f0, .string (rdCl s).1.f2.f1, .bool (rdCl s).1.f3.f0, .string (rdCl s).1.f3.f1] (fun _ => True) (fun _ => False) rfl rfl ?aP (fun _ hk => hk.elim) ?aF ?aO ?aB ?aS ?aL ?_; (case aP => exact k46_mkM _ _ _ _); (case aF => exact fun _ _ => trivial); (case aO => exact Kd.R_mono HC4'.out.hR (fun _ _ => trivial)); (case aB => exact HC4'.out.bel); (case aS => exact HC4'.out.bel.size); (case aL => have := HJ.out; have := HNN.out; omega); intro v9 w9 ho hb hgr hat; have HO9 := Aside0.mk ho; have HB9 := Aside0.mk hb; have HRd9 := Aside0.mk (HC4'.out.rd.fr (show Fr W.heap.size [46] X w9 by obtain ⟨inner, h⟩ := Kd.R_own HC4'.out.hR; exact Fr.of_grown h (Nat.le_refl _) hgr (by simp)) (by decide)); clear ho hb hgr hat)
      go_roundg j
      case measure => have := HJ.out; omega
      case rel => exact ⟨j, (rdCl s).2, xs ++ [(rdCl s).1], by first | rfl | rw [HWI.out], ⟨rfl, by have := HJ.out; simp; omega⟩, ⟨cls_snoc _ _ _ _ _ HE.out⟩, ⟨HRd9.out⟩, ⟨HO9.out⟩, ⟨HB9.out⟩⟩
    | zero =>
      have hE := HE.out
      simp only [rdCls, List.append_nil] at hE
      have HE2 := Aside0.mk hE
      clear hE HE
      obtain ⟨A5, n5, h5, hl5, hC5⟩ := Kd.R_reads HO.out
      subst h5
      have HC5 := Aside0.mk hC5
      have HLN := Aside0.mk (show xs.length ≤ 9223372036854775807 by have := HJ.out; have := HNN.out; omega)
      clear hC5 hl5
      cases hd : rdDone s with
      | false =>
        have HD := Aside0.mk hd
        have HOF := Aside0.mk (show ofK b = ([], 20) by unfold ofK; rw [HE2.out]; simp only [hd]; simp)
        clear hd
        go_wp2_with (go_at_call 26; refine (rd_done W.heap.size g s _ HRd.out).mono ?_; rintro e w2 ⟨rfl, rfl⟩; simp only [HD.out])
        go_ret2
        refine ⟨.slice none 0 0, by rw [HOF.out]; rfl, ?_, HB.out⟩
        rw [HOF.out]
        exact Kd.R_nil _ _ _ _ _
      | true =>
        have HD := Aside0.mk hd
        by_cases he : confE xs = 0
        · have HEE := Aside0.mk he
          have HOF := Aside0.mk (show ofK b = (xs, 0) by unfold ofK; rw [HE2.out]; simp only [hd, he]; simp)
          clear hd he
          go_wp2_with (first | (go_at_call 26; refine (rd_done W.heap.size g s _ HRd.out).mono ?_; rintro e w2 ⟨rfl, rfl⟩; simp only [HD.out]) | (go_at_call 11; refine (right13_calls A5 n5 xs _ HC5.out HLN.out).mono ?_; rw [HEE.out]; rintro e w3 ⟨rfl, hb⟩; have HO3 := Aside0.mk (Kd.R_below HO.out hb); have HB3 := Aside0.mk (below_step HB.out hb); clear hb))
          go_ret2
          refine ⟨.slice A5 xs.length n5, by rw [HOF.out]; rfl, ?_, HB3.out⟩
          rw [HOF.out]
          exact HO3.out
        · have HOF := Aside0.mk (show ofK b = ([], 20) by unfold ofK; rw [HE2.out]; simp only [hd]; simp [he])
          have he' : (confE xs != 0) = true := bne_iff_ne.mpr he
          clear hd he
          go_wp2_with (first | (go_at_call 26; refine (rd_done W.heap.size g s _ HRd.out).mono ?_; rintro e w2 ⟨rfl, rfl⟩; simp only [HD.out]) | (go_at_call 11; refine (right13_calls A5 n5 xs _ HC5.out HLN.out).mono ?_; rintro e w3 ⟨rfl, hb⟩; have HB3 := Aside0.mk (below_step HB.out hb); clear hb))
          go_ret2
          refine ⟨.slice none 0 0, by rw [HOF.out]; rfl, ?_, HB3.out⟩
          rw [HOF.out]
          exact Kd.R_nil _ _ _ _ _
end Go.Proofs.Yteaepfdahdenmaa.Sep
