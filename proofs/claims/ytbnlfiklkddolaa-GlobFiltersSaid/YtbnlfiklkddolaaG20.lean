/- The walk of Filter. Conditions: the bounds of the statements. -/
import Derived.Test.YtbnlfiklkddolaaG19
namespace Go.Proofs.Ytbnlfiklkddolaa.Sep
set_option linter.unusedSimpArgs false
set_option linter.unusedVariables false
open Go.RowKit Go.Proofs.Ytbnlfiklkddolaa.PCore Go.Proofs.Ytbnlfiklkddolaa.Plain Go.Proofs.YtbnlfiklkddolaaW.PrintWords Go.Proofs.YtbnlfiklkddolaaW.PrintLast Go.Proofs.YtbnlfiklkddolaaW.PrintMore
open Go.Proofs.Ytbnlfiklkddolaa.PDat (S38 k38 z38 rd_T38 at_T38 k38_mkM)
theorem filter_take {α : Type} (f : α → Bool) (l : List α) (i : Nat) (h : i < l.length) : (l.take (i + 1)).filter f = if f l[i] = true then (l.take i).filter f ++ [l[i]] else (l.take i).filter f := by
  rw [take_en l i h, List.filter_append]
  cases hf : f l[i] with
  | true => rw [if_pos rfl]; congr 1; simp [hf]
  | false => rw [if_neg (by decide)]; simp [hf]
theorem filter_len {α : Type} (f : α → Bool) (l : List α) : (l.filter f).length ≤ l.length := List.length_filter_le f l
theorem pair_cells {w : World} {g t : Nat} {a b : Value} (h : w.heap[g]? = some (.cells #[a, b] t (0, 0))) : w.cell? ⟨g, 0, none⟩ = some a ∧ w.cell? ⟨g, 1, none⟩ = some b :=
  ⟨(blk_cell h 0).trans rfl, (blk_cell h 1).trans rfl⟩
set_option maxHeartbeats 16000000 in
set_option maxRecDepth 100000 in
theorem filter31_calls (gv : Value) (fB : ByteArray → Bool) (A0 : Option Addr) (c0 : Nat) (l : List Entry) (W : World) (hC : Kd.C k38 W A0 l.length l) (hc : l.length ≤ c0) (hl : l.length ≤ 1000)
    (hM : ∀ x : Entry, x ∈ l → ∀ w1, Below W.heap.size W w1 → Calls Try.prog 10 #[gv, .string x.f0] w1 fun e w2 => e = .returned (.bool (fB x.f0)) ∧ Below w1.heap.size w1 w2) :
    Calls Try.prog 17 #[.slice A0 l.length c0, gv] W fun e W1 => ∃ A n, e = .returned (.slice A (l.filter (fun x => fB x.f0)).length n) ∧ Kd.C k38 W1 A (l.filter (fun x => fB x.f0)).length (l.filter (fun x => fB x.f0)) ∧ (l.filter (fun x => fB x.f0)).length ≤ n ∧ Below W.heap.size W W1 := by
  have HC := Aside0.mk hC
  have HLN := Aside0.mk hl
  have HM := Aside0.mk hM
  have huE := Try.underlying38
  clear hC hl hM
  go_enter Try.func17, Try.ntmps17
  go_wp2
  go_loopg [5, 10] l.length (fun kq v5 v10 w' => ∃ i : Nat, v10 = .int .i64 (i : Int) ∧ Aside0 (i ≤ l.length ∧ kq = l.length - i) ∧ Aside0 (Kd.R k38 38 w' W.heap.size (fun _ => True) v5 ((l.take i).filter (fun x => fB x.f0))) ∧ Aside0 (Below W.heap.size W w'))
  case atStart => exact ⟨0, rfl, ⟨by omega, by omega⟩, ⟨by rw [List.take_zero]; exact Kd.R_nil _ _ _ _ _⟩, ⟨Below.refl _ _⟩⟩
  case round =>
    rename_i v5 v10
    obtain ⟨i, rfl, HI, HR, HB⟩ := hrel
    obtain ⟨ys, hys⟩ : ∃ ys, ys = (l.take i).filter (fun x => fB x.f0) := ⟨_, rfl⟩
    rw [← hys] at HR
    have HYS := Aside0.mk hys
    have HYL := Aside0.mk (show ys.length ≤ 1000 by rw [hys]; have h1 := filter_len (fun x : Entry => fB x.f0) (l.take i); have h2 : (l.take i).length ≤ l.length := by rw [List.length_take]; omega
                                                    have h3 := HLN.out; exact Nat.le_trans h1 (Nat.le_trans h2 h3))
    clear hys
    by_cases hlt : i < l.length
    · obtain ⟨ad, hA, h0, h1⟩ := at_T38 (Kd.C_below HC.out HB.out) (i : Int) (by omega) (by omega)
      subst hA
      simp only [Int.toNat_natCast] at h0 h1
      have hx := en_at (l := l) i hlt
      have HF := Aside0.mk (filter_take (fun x : Entry => fB x.f0) l i hlt)
      have HMX := Aside0.mk (HM.out (l[i]) (List.getElem_mem hlt))
      rw [← hx] at HF HMX
      generalize rd_T38 l (i : Int) = x at h0 h1 HF HMX
      clear hx
      obtain ⟨f0, f1⟩ := x
      simp only at h0 h1
      have hlt' : (i : Int) < (l.length : Int) := by omega
      obtain ⟨i1, hi1⟩ : ∃ z, z = i + 1 := ⟨_, rfl⟩
      have HWI := Aside0.mk (show wrap64 ((i : Int) + 1) = (i1 : Int) by have := HLN.out; unfold wrap64; omega)
      have HI1 := Aside0.mk (show i1 = i + 1 ∧ i1 ≤ l.length by omega)
      have HX := Aside0.mk (blk_new wr (.cells #[.string f0, .string f1] 38))
      have HB1 := Aside0.mk (below_alloc HB.out (.cells #[.string f0, .string f1] 38))
      have HR1 := Aside0.mk (Kd.R_alloc HR.out (.cells #[.string f0, .string f1] 38))
      clear hi1 hlt
      cases hf : fB f0 with
      | true =>
        have HMT := Aside0.mk (show ∀ w1, Below W.heap.size W w1 → Calls Try.prog 10 #[gv, .string f0] w1 fun e w2 => e = .returned (.bool true) ∧ Below w1.heap.size w1 w2 from fun w1 hb => by have h := HMX.out w1 hb; simp only at h; rw [hf] at h; exact h)
        have HFE := Aside0.mk (show (l.take i1).filter (fun x => fB x.f0) = ys ++ [⟨f0, f1⟩] by rw [HI1.out.1, HF.out, HYS.out]; simp [hf])
        clear hf
        go_wp2_with (first | (at_builtin; refine Kd.R_append k38 (w0 := W) W.heap.size rfl (.tmp 18) (.tmp 20) 34 38 (.agg #[(.string ⟨#[]⟩), (.string ⟨#[]⟩)]) 32 rfl Try.underlying34 (by kernel_rfl) rfl (by decide) (by omega) _ ys ⟨f0, f1⟩ [.string f0, .string f1] (fun _ => True) (fun _ => False) rfl rfl ?aP (fun _ hk => hk.elim) (fun _ _ => trivial) ?aO ?aB ?aS ?aL ?_; (case aP => exact k38_mkM _ _ _ _); (case aO => exact HR2.out); (case aB => exact HB2.out); (case aS => exact HB2.out.size); (case aL => have := HYL.out; omega); intro v9 w9 hr hb hg hat; have HR9 := Aside0.mk hr; have HB9 := Aside0.mk hb; clear hr hb hg hat) | (go_at_call 10; refine (HMT.out _ HB1.out).mono ?_; rintro e w2 ⟨rfl, hb⟩; have hk := blk_below HX.out hb; obtain ⟨x0, x1⟩ := pair_cells hk; have HB2 := Aside0.mk (below_step HB1.out hb); have HR2 := Aside0.mk (Kd.R_below HR1.out hb); clear hb hk))
        go_roundg (l.length - i1)
        case measure => have := HI.out; have := HI1.out; omega
        case rel =>
          refine ⟨i1, ?_, ⟨?_⟩, ⟨?_⟩, HB9⟩
          · first | rfl | (rw [HWI.out]; done) | simp
          · exact ⟨HI1.out.2, rfl⟩
          · rw [HFE.out]; exact HR9.out
      | false =>
        have HMT := Aside0.mk (show ∀ w1, Below W.heap.size W w1 → Calls Try.prog 10 #[gv, .string f0] w1 fun e w2 => e = .returned (.bool false) ∧ Below w1.heap.size w1 w2 from fun w1 hb => by have h := HMX.out w1 hb; simp only at h; rw [hf] at h; exact h)
        have HFE := Aside0.mk (show (l.take i1).filter (fun x => fB x.f0) = ys by rw [HI1.out.1, HF.out, HYS.out]; simp [hf])
        clear hf
        go_wp2_with (go_at_call 10; refine (HMT.out _ HB1.out).mono ?_; rintro e w2 ⟨rfl, hb⟩; have HB2 := Aside0.mk (below_step HB1.out hb); have HR2 := Aside0.mk (Kd.R_below HR1.out hb); clear hb)
        go_roundg (l.length - i1)
        case measure => have := HI.out; have := HI1.out; omega
        case rel =>
          refine ⟨i1, ?_, ⟨?_⟩, ⟨?_⟩, HB2⟩
          · first | rfl | (rw [HWI.out]; done) | simp
          · exact ⟨HI1.out.2, rfl⟩
          · rw [HFE.out]; exact HR2.out
    · have hI : i = l.length := by have := HI.out; omega
      have hlt' : ¬ (i : Int) < (l.length : Int) := by omega
      have hr := HR.out
      rw [HYS.out, hI, List.take_length] at hr
      obtain ⟨A, n, hv, hn, hC⟩ := Kd.R_reads hr
      subst hv
      have HCA := Aside0.mk hC
      have HNN := Aside0.mk hn
      clear hI hlt hr hC hn HR
      go_wp2
      go_ret
      exact ⟨A, n, rfl, HCA.out, HNN.out, HB.out⟩
end Go.Proofs.Ytbnlfiklkddolaa.Sep
