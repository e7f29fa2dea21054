/- The walk of the reference's Prefix. Conditions: the bounds of the statements. -/
import Derived.Test.YtbnlfiklkddolaaG16
namespace Go.Proofs.Ytbnlfiklkddolaa.Sep
set_option linter.unusedSimpArgs false
set_option linter.unusedVariables false
open Go.RowKit Go.Proofs.Ytbnlfiklkddolaa.PCore Go.Proofs.Ytbnlfiklkddolaa.Plain Go.Proofs.YtbnlfiklkddolaaW.PrintWords Go.Proofs.YtbnlfiklkddolaaW.PrintLast Go.Proofs.YtbnlfiklkddolaaW.PrintMore
theorem conv_one17 (c : Int) (hc : 0 ≤ c ∧ c < 256) (w : World) : (convert 23 9 (.slice (some ⟨w.heap.size, 0, none⟩) 1 1)).run Try.prog (w.alloc (.cells #[.int .u8 c] 5)) = .ok (.string (strOfNums [c])) (w.alloc (.cells #[.int .u8 c] 5)) :=
  Kd.C_string (P := Try.prog) (A := some ⟨w.heap.size, 0, none⟩) (c := 1) Try.underlying23 Try.underlying5 Try.underlying9 (lit_reads .u8 5 w [c] (by simp))
theorem str_snoc (xs : List Int) (c : Int) : strOfNums xs ++ strOfNums [c] = strOfNums (xs ++ [c]) := by
  obtain ⟨a, ha⟩ : ∃ a, a = strOfNums xs := ⟨_, rfl⟩
  rw [ByteArray.ext_iff, ByteArray.data_append]
  simp [strOfNums]
set_option maxHeartbeats 32000000 in
set_option maxRecDepth 100000 in
theorem rprefix_calls (p : ByteArray) (l : List El) (W : World) (hp : p.size ≤ 1000) (hpat : pat (bytesOf p) = some l) :
    Calls Try.prog 14 #[.string p] W fun e W1 => e = .returned (.string (strOfNums (prefL l))) ∧ Below W.heap.size W W1 := by
  have HPZ := Aside0.mk hp
  have HPA := Aside0.mk hpat
  have hz := zeroR
  have hsz0 : (cellsR zeroF false false 0).size = 259 := cellsR_size zeroF_length
  clear hp hpat
  go_enter Try.func14, Try.ntmps14
  go_upto_region 3 with (go_at_call 23; refine (rpattern_calls p _ HPZ.out).mono ?_; rintro e w2 ⟨hb, hm⟩; rw [HPA.out] at hm; obtain ⟨A, n0, rfl, hC, hl, hx⟩ := hm; have HB2 := Aside0.mk hb; have HC2 := Aside0.mk hC; have HL := Aside0.mk hl; have HOK := Aside0.mk hx; clear hb hC hl hx)
  go_wp2
  go_loopg [5, 15] l.length (fun kq v5 v15 w' => ∃ (i : Nat) (xs : List Int), v5 = .string (strOfNums xs) ∧ v15 = .int .i64 (i : Int) ∧ Aside0 (i ≤ l.length ∧ kq = l.length - i ∧ xs.length = i) ∧ Aside0 (prefL l = xs ++ prefL (l.drop i)) ∧ Aside0 (Below W.heap.size W w') ∧ Aside0 (Below w2.heap.size w2 w'))
  case atStart => exact ⟨0, [], rfl, rfl, ⟨by omega, by omega, rfl⟩, ⟨rfl⟩, HB2, ⟨Below.refl _ _⟩⟩
  case round =>
    obtain ⟨i, xs, rfl, rfl, HI, HE, HB, HBX⟩ := hrel
    by_cases hlt : i < l.length
    · obtain ⟨ad, hA, hfl, hcells⟩ := at_ElR (Kd.C_below HC2.out HBX.out) i hlt
      subst hA
      have hoke := HOK.out (l.getD i .any) (by rw [List.getD_eq_getElem?_getD, List.getElem?_eq_getElem hlt]; exact List.getElem_mem hlt)
      have hde := drop_at hlt
      obtain ⟨x, hx⟩ : ∃ x, x = l.getD i .any := ⟨_, rfl⟩
      rw [← hx] at hfl hcells hoke hde
      have HOE := Aside0.mk hoke.2
      have HFL := Aside0.mk hfl
      have HCE := Aside0.mk hcells
      have HDE := Aside0.mk hde
      have hlt' : (i : Int) < (l.length : Int) := by omega
      obtain ⟨i1, hi1⟩ : ∃ z, z = i + 1 := ⟨_, rfl⟩
      have HWI := Aside0.mk (show wrap64 ((i : Int) + 1) = (i1 : Int) by have := HL.out; have := HPZ.out; unfold wrap64; omega)
      have HI1 := Aside0.mk (show i1 = i + 1 ∧ i1 ≤ l.length by omega)
      have hst0 : (storeCells ⟨wr.heap.size, 0, none⟩ (cellsRE x).toList).run Try.prog (wr.alloc (.cells (cellsR zeroF false false 0) 58)) = .ok () (wr.alloc (.cells (cellsRE x) 58)) := (store_row (blk_new _ _) ((cellsR_size hfl).trans hsz0.symm) cellsR_one).trans (congrArg (Result.ok ()) (World.setRow_alloc_new _ _ _ _))
      have hsz1 : (cellsRE x).size = 259 := cellsR_size hfl
      clear hcells hoke hx hfl hde hi1 hlt
      go_upto_region 5 with (fail)
      go_step
      go_step
      go_step
      go_step
      go_step
      refine wp_load_at 58 (.tmp 17) rfl (ad.add (i * 259)) rfl (cellsRE x).toList _ HCE.out Try.underlying58 rfl (by rw [Array.length_toList, hsz1]; exact sizeR) ?_
      simp only [Act.put, List.setIfInBounds_toArray, List.set_cons_zero, List.set_cons_succ, Array.toArray_toList]
      go_upto_region 6 with (fail)
      have HX := Aside0.mk (blk_new wr (.cells (cellsRE x) 58))
      have HB1 := Aside0.mk (below_alloc HB.out (.cells (cellsRE x) 58))
      have HBX1 := Aside0.mk (below_alloc HBX.out (.cells (cellsRE x) 58))
      clear hst0 hsz1
      generalize wr.alloc (.cells (cellsRE x) 58) = w5 at HX HB1 HBX1 ⊢
      generalize wr.heap.size = gx at HX ⊢
      have k7 := (blk_cell HX.out 257).trans (cellsR_tail HFL.out).2.1
      have k8 := (blk_cell HX.out 258).trans (cellsR_tail HFL.out).2.2
      cases x with
      | one c =>
        have hS : rS (.one c) = true := rfl
        have hc : elC (.one c) = c := rfl
        rw [hS] at k7
        rw [hc] at k8
        have hcb := HOE.out
        rw [hc] at hcb
        have cv := fun w => conv_one17 c hcb w
        have HG := Aside0.mk (show prefL l = (xs ++ [c]) ++ prefL (l.drop (i + 1)) by rw [HE.out, HDE.out, prefL]; simp)
        obtain ⟨t, ht⟩ : ∃ t, t = strOfNums xs := ⟨_, rfl⟩
        obtain ⟨t2, ht2⟩ : ∃ t, t = strOfNums [c] := ⟨_, rfl⟩
        have hts : t.size = xs.length := by rw [ht]; exact str_size xs
        have ht2s : t2.size = 1 := by rw [ht2]; rfl
        have e1 : t.size + t2.size ≤ 9223372036854775807 := by have := HI.out; have := HL.out; have := HPZ.out; omega
        have HT := Aside0.mk (show t ++ t2 = strOfNums (xs ++ [c]) by rw [ht, ht2]; exact str_snoc xs c)
        rw [← ht2] at cv
        rw [← ht]
        clear hcb hts ht2s ht ht2
        go_wp2
        go_roundg (l.length - i1)
        case measure => have := HI.out; have := HI1.out; omega
        case rel =>
          refine ⟨i1, xs ++ [c], ?_, ?_, ⟨?_⟩, ⟨?_⟩, ⟨?_⟩, ⟨?_⟩⟩
          · rw [← HT.out]
          · first | rfl | (rw [HWI.out]; done) | simp
          · exact ⟨HI1.out.2, rfl, by have := HI.out; have := HI1.out; simp only [List.length_append, List.length_cons, List.length_nil]; omega⟩
          · rw [HI1.out.1]; exact HG.out
          · exact below_alloc HB1.out _
          · exact below_alloc HBX1.out _
      | any =>
        have hS : rS (.any) = false := rfl
        rw [hS] at k7
        have HPL := Aside0.mk (show prefL l = xs by rw [HE.out, HDE.out]; simp [prefL])
        go_wp2
        go_ret
        rw [HPL.out]
        exact ⟨rfl, HB1.out⟩
      | many =>
        have hS : rS (.many) = false := rfl
        rw [hS] at k7
        have HPL := Aside0.mk (show prefL l = xs by rw [HE.out, HDE.out]; simp [prefL])
        go_wp2
        go_ret
        rw [HPL.out]
        exact ⟨rfl, HB1.out⟩
      | set f =>
        have hS : rS (.set f) = false := rfl
        rw [hS] at k7
        have HPL := Aside0.mk (show prefL l = xs by rw [HE.out, HDE.out]; simp [prefL])
        go_wp2
        go_ret
        rw [HPL.out]
        exact ⟨rfl, HB1.out⟩
    · have hI : i = l.length := by have := HI.out; omega
      have HPL := Aside0.mk (show prefL l = xs by rw [HE.out, List.drop_eq_nil_of_le (by omega)]; simp [prefL])
      have hlt' : ¬ (i : Int) < (l.length : Int) := by omega
      clear hI hlt
      go_wp2
      go_ret
      rw [HPL.out]
      exact ⟨rfl, HB.out⟩
end Go.Proofs.Ytbnlfiklkddolaa.Sep
