/- The walk of a pattern's Match. Printed by gen6.py. Conditions: the bounds of the statements. -/
import Derived.Test.YtbnlfiklkddolaaG5
import Derived.WalkMore
namespace Go.Proofs.Ytbnlfiklkddolaa.Sep
set_option linter.unusedSimpArgs false
set_option linter.unusedVariables false
open Go.RowKit Go.Proofs.Ytbnlfiklkddolaa.PCore Go.Proofs.Ytbnlfiklkddolaa.Plain Go.Proofs.YtbnlfiklkddolaaW.PrintWords Go.Proofs.YtbnlfiklkddolaaW.PrintLast Go.Proofs.YtbnlfiklkddolaaW.PrintMore
theorem add_add (a : Addr) (m j : Nat) : (a.add m).add j = a.add (m + j) := by
  unfold Addr.add
  rcases Nat.eq_zero_or_pos m with rfl | hm
  · rcases Nat.eq_zero_or_pos j with rfl | hj
    · simp
    · rw [if_pos rfl, if_neg (by omega), if_neg (by omega)]; simp
  · rcases Nat.eq_zero_or_pos j with rfl | hj
    · simp
    · rw [if_neg (by omega : ¬ m = 0), if_neg (by omega : ¬ j = 0), if_neg (by omega)]
      simp only [Addr.mk.injEq, true_and, and_true]
      omega
theorem at_El {w : World} {A : Option Addr} {n : Nat} {xs : List El} (h : Kd.C kEl w A n xs) (i : Nat) (hi : i < n) : ∃ ad, A = some ad ∧ (elF (xs.getD i .any)).length = 256 ∧ ∀ j v, (cellsE (xs.getD i .any)).toList[j]? = some v → w.cell? ((ad.add (i * 258)).add j) = some v := by
  obtain ⟨ad, c, e, hl, ⟨h1, h2⟩, hc⟩ := ReadsRow.get_ h .any (i : Int) (by omega) (by omega)
  rw [Int.toNat_natCast] at h1 h2 hc
  refine ⟨ad, e, h1, fun j v hv => ?_⟩
  rw [add_add]
  exact hc j v (by rw [h2]; exact hv)
theorem run_loadVar_at {P : Program} (w : World) (a : Addr) (ty : TypeId) (cs : List Value) (d : TypeDesc) (hc : ∀ j v, cs[j]? = some v → w.cell? (a.add j) = some v)
    (hu : P.underlying ty = some d) (hd : (match d with | .struct _ | .array _ _ => true | _ => false) = true) (hi : (P.info? ty).map (·.size) = some cs.length) :
    (loadVar ty a).run P w = .ok (.agg cs.toArray) w := by
  have hl : (loadCells a cs.length).run P w = .ok cs.toArray w := run_loadCells_list (P := P) (w := w) a cs hc
  cases hq : P.info? ty with
  | none => simp [hq] at hi
  | some i =>
    have hs : i.size = cs.length := by simpa [hq] using hi
    have hagg : (isAgg ty).run P w = .ok true w := by
      unfold isAgg
      rw [Sem.run_bind, run_underlying hu w]
      cases d <;> simp_all
    simp [loadVar, Sem.run_bind, hagg, sizeOf, typeInfo, hq, hs, hl]
theorem quiet_load_at {P : Program} {ops : Array Oper} {o : Oper} {a : Act} {C : World → Prop} {K : Act → Prop} (hw : Region.wanted o (yielded ops a.tmps) = true) (ty : TypeId) (x : Operand) (ho : o.op = .load ty x)
    (ad : Addr) (hx : a.eval x = .pointer (some ad)) (cs : List Value) (d : TypeDesc) (hc : ∀ w, C w → ∀ j v, cs[j]? = some v → w.cell? (ad.add j) = some v)
    (hu : P.underlying ty = some d) (hd : (match d with | .struct _ | .array _ _ => true | _ => false) = true) (hi : (P.info? ty).map (·.size) = some cs.length)
    (h : K (a.put o.dst (.agg cs.toArray))) : if Region.wanted o (yielded ops a.tmps) then o.quiet P a C K else K (a.put o.dst undef) := by
  rw [if_pos hw]
  refine ⟨.agg cs.toArray, fun w hC => ?_, h⟩
  unfold Oper.quietAt execOp
  simp only [ho, hx, Instr.loadAt, Instr.sureAddr, Sem.run_bind, Sem.run_pure, Result.andThen_ok, run_loadVar_at w ad ty cs d (hc w hC) hu hd hi]
  exact ⟨rfl, rfl⟩
/-- A star, or none. -/
def stI : Option Nat → Int
  | none => -1
  | some k => (k : Int)
open Classical in
noncomputable def mtB (l : List El) (s : List Int) : Bool := decide (Mt l s)
open Classical in
theorem mtB_t {l : List El} {s : List Int} (h : Mt l s) : mtB l s = true := by unfold mtB; exact decide_eq_true h
open Classical in
theorem mtB_f {l : List El} {s : List Int} (h : ¬ Mt l s) : mtB l s = false := by unfold mtB; exact decide_eq_false h
theorem bytes_getD (s : ByteArray) (i : Nat) : (bytesOf s).getD i 0 = bt s (i : Int) := by
  rw [← rd_bytesOf]
  unfold rd
  rw [Int.toNat_natCast]
theorem match31_none (s : ByteArray) (W : World) : Calls Try.prog 10 #[.pointer none, .string s] W fun e W1 => e = .returned (.bool false) ∧ Below W.heap.size W W1 := by
  have huG := Try.underlying24
  go_enter Try.func10, Try.ntmps10
  go_wp2
  go_step3
  go_wp2
  try rw [Exit.noGoto_ret]
  go_ret
  exact ⟨rfl, Below.refl _ _⟩
set_option maxHeartbeats 16000000 in
set_option maxRecDepth 100000 in
theorem match31_calls (g : Nat) (p : ByteArray) (l : List El) (s : ByteArray) (W : World) (h : GlAt W g p l) (hs : s.size ≤ 1000000) :
    Calls Try.prog 10 #[.pointer (some ⟨g, 0, none⟩), .string s] W fun e W1 => e = .returned (.bool (mtB l (bytesOf s))) ∧ Below W.heap.size W W1 := by
  have HG := Aside0.mk h
  have HSZ := Aside0.mk hs
  have HSL := Aside0.mk (bytesOf_length s)
  have huG := Try.underlying24
  clear h hs
  go_enter Try.func10, Try.ntmps10
  go_wp2
  go_step3
  go_wp2
  go_step3
  go_wp2
  go_loopg [5, 6, 7, 8] (grM l.length (bytesOf s).length 0 0 none) (fun kq v5 v6 v7 v8 w' => ∃ (a i fr : Nat) (st : Option Nat), v5 = .int .i64 (a : Int) ∧ v6 = .int .i64 (i : Int) ∧ v7 = .int .i64 (stI st) ∧ v8 = .int .i64 (fr : Int) ∧ Aside0 (kq = grM l.length (bytesOf s).length a fr st) ∧ Aside0 (Gr l (bytesOf s) a i st fr) ∧ Aside0 (Below W.heap.size W w'))
  case atStart => exact ⟨0, 0, 0, none, rfl, rfl, rfl, rfl, ⟨rfl⟩, ⟨gr_start _ _⟩, ⟨Below.refl _ _⟩⟩
  case round =>
    obtain ⟨a, i, fr, st, rfl, rfl, rfl, rfl, HQ, HR, HB⟩ := hrel
    obtain ⟨A, n, hblk, hC, hn, hok, hlen⟩ := HG.out.below HB.out
    have HLEN := Aside0.mk hlen
    have hai := HR.out.ha
    have hii := HR.out.hi
    rw [HSL.out] at hii
    have HA := Aside0.mk hai
    have HI := Aside0.mk hii
    have c1 : World.cell? wr ⟨g, 1, none⟩ = some (.slice A l.length n) := (blk_cell hblk 1).trans rfl
    have x1 := Reach.cell c1
    have HC := Aside0.mk hC
    have HOK := Aside0.mk hok
    clear hblk hC hn hok hlen hai hii
    by_cases hl : a < l.length
    · obtain ⟨ad, hA, hfl, hcells⟩ := at_El HC.out a hl
      subst hA
      have HFL := Aside0.mk hfl
      have hoke := HOK.out (l.getD a .any) (by rw [List.getD_eq_getElem?_getD, List.getElem?_eq_getElem hl]; exact List.getElem_mem hl)
      have k0 : World.cell? wr (ad.add (a * 258)) = some (.int .i64 (elK (l.getD a .any))) := hcells 0 _ rfl
      have HCE := Aside0.mk hcells
      have HL := Aside0.mk hl
      have hlI : (a : Int) < (l.length : Int) := by omega
      have e1 : decide ((a : Int) < (l.length : Int)) = true := decide_eq_true (by omega)
      have e1N : decide (a < l.length) = true := decide_eq_true (by omega)
      have hw0 : wrap64 ((a : Int) + 1) = ((a + 1 : Nat) : Int) := by have := HLEN.out; unfold wrap64; omega
      obtain ⟨x, hx⟩ : ∃ x, x = l.getD a .any := ⟨_, rfl⟩
      have HXE := Aside0.mk hx
      rw [← hx] at hoke k0
      have HOE := Aside0.mk hoke
      clear hcells hfl hoke hx
      cases hm : x.isMany with
      | true =>
        have hxm := isMany_eq hm
        subst hxm
        have HR2 := Aside0.mk (gr_many HR.out HL.out (by rw [← HXE.out]; rfl))
        have HME := Aside0.mk (gr_m1 HR.out HL.out)
        have hk3 : elK .many = 3 := rfl
        rw [hk3] at k0
        by_cases hi : i < s.size
        · skip
          have e2 : decide ((i : Int) < (s.size : Int)) = true := decide_eq_true (by omega)
          have e2N : decide (i < s.size) = true := decide_eq_true (by omega)
          clear hl hi
          go_wp2
          go_roundg (grM l.length (bytesOf s).length (a + 1) i (some a))
          case measure => have := HQ.out; have := HME.out; omega
          case rel => exact ⟨a + 1, i, i, some a, by first | rfl | (rw [hw0]; done) | simp, rfl, rfl, rfl, ⟨rfl⟩, HR2, HB⟩
        · skip
          have e2 : decide ((i : Int) < (s.size : Int)) = false := decide_eq_false (by omega)
          have e2N : decide (i < s.size) = false := decide_eq_false (by omega)
          clear hl hi
          go_wp2
          go_roundg (grM l.length (bytesOf s).length (a + 1) i (some a))
          case measure => have := HQ.out; have := HME.out; omega
          case rel => exact ⟨a + 1, i, i, some a, by first | rfl | (rw [hw0]; done) | simp, rfl, rfl, rfl, ⟨rfl⟩, HR2, HB⟩
      | false =>
        have HM := Aside0.mk hm
        have hk3 : (elK x == 3) = false := by rw [elK_many, hm]
        by_cases hi : i < s.size
        · skip
          have e2 : decide ((i : Int) < (s.size : Int)) = true := decide_eq_true (by omega)
          have e2N : decide (i < s.size) = true := decide_eq_true (by omega)
          have hiI : (i : Int) < (s.size : Int) := by omega
          have hb0 : ∀ h : i < s.size, ((s[i]'h).toNat : Int) = bt s (i : Int) := fun h' => bt_at s (i : Int) h'
          have hbr := bt_range s (i : Int)
          have hbg := bytes_getD s i
          generalize bt s (i : Int) = c at hb0 hbr hbg
          have HBG := Aside0.mk hbg
          have HHI := Aside0.mk hi
          have HTK := Aside0.mk (fun w => takes31_calls x c w HOE.out ⟨hbr.1, by omega⟩)
          have k0r := Reach.cell k0
          clear hbg hbr hl
          cases ht : x.takes c with
          | true =>
            have HT := Aside0.mk ht
            rw [ht] at HTK
            go_upto_region 8 with (fail)
            refine region_reach (by kernel_rfl) (by kernel_rfl) ?_
            iterate 20 (go_big_quiet_step (fail))
            refine wpQuiet_step (fun K hK => ?_)
            refine quiet_load_at (by rfl) 49 _ rfl (ad.add (a * 258)) (by rfl) (cellsE x).toList _ (fun w' hw' j v hv => ?_) Try.underlying49 rfl (by rw [Array.length_toList, cellsP_size HOE.out.1]; exact sizeP) (hK _ ?_)
            · obtain ⟨u, rfl⟩ := hw'
              exact Reach.cell (HCE.out j v (by rw [← HXE.out]; exact hv)) u
            clear hK K
            simp only [Act.put, List.setIfInBounds_toArray, List.set_cons_zero, List.set_cons_succ, Array.toArray_toList]
            repeat (go_big_quiet_step ((go_at_call 22; exact calls_reach _ (HTK.out _))))
            refine wpQuiet_nil ?_
            rintro w4 ⟨⟨_, hb4⟩, rfl⟩
            have HB4 := Aside0.mk (below_step HB.out hb4)
            clear hb4
            have HR2 := Aside0.mk (gr_one HR.out HL.out (by rw [HSL.out]; exact HHI.out) (by rw [← HXE.out]; exact HM.out) (by rw [← HXE.out, HBG.out]; exact HT.out))
            have HME := Aside0.mk (gr_m2 l.length (bytesOf s).length a fr st HL.out)
            have hwi : wrap64 ((i : Int) + 1) = ((i + 1 : Nat) : Int) := by have := HSZ.out; unfold wrap64; omega
            go_wp2
            go_roundg (grM l.length (bytesOf s).length (a + 1) fr st)
            case measure => have := HQ.out; have := HME.out; omega
            case rel => exact ⟨a + 1, i + 1, fr, st, by first | rfl | (rw [hw0]; done) | simp, by first | rfl | (rw [hwi]; done) | simp, rfl, rfl, ⟨rfl⟩, HR2, HB4⟩
          | false =>
            have HT := Aside0.mk ht
            rw [ht] at HTK
            go_upto_region 8 with (fail)
            refine region_reach (by kernel_rfl) (by kernel_rfl) ?_
            iterate 20 (go_big_quiet_step (fail))
            refine wpQuiet_step (fun K hK => ?_)
            refine quiet_load_at (by rfl) 49 _ rfl (ad.add (a * 258)) (by rfl) (cellsE x).toList _ (fun w' hw' j v hv => ?_) Try.underlying49 rfl (by rw [Array.length_toList, cellsP_size HOE.out.1]; exact sizeP) (hK _ ?_)
            · obtain ⟨u, rfl⟩ := hw'
              exact Reach.cell (HCE.out j v (by rw [← HXE.out]; exact hv)) u
            clear hK K
            simp only [Act.put, List.setIfInBounds_toArray, List.set_cons_zero, List.set_cons_succ, Array.toArray_toList]
            repeat (go_big_quiet_step ((go_at_call 22; exact calls_reach _ (HTK.out _))))
            refine wpQuiet_nil ?_
            rintro w4 ⟨⟨_, hb4⟩, rfl⟩
            have HB4 := Aside0.mk (below_step HB.out hb4)
            clear hb4
            have HN := Aside0.mk (gr_stuck (l := l) (s := bytesOf s) (a := a) (i := i) (.inl HL.out) (fun _ => by rw [← HXE.out]; exact HM.out) (fun _ _ => by rw [← HXE.out, HBG.out]; exact HT.out))
            cases st with
            | none =>
              have HG2 := Aside0.mk (mtB_f (gr_fail HR.out HN.out (.inl rfl)))
              have hst : stI none = -1 := rfl
              go_wp2
              try rw [Exit.noGoto_ret]
              go_ret
              exact ⟨by rw [HG2.out]; rfl, HB4.out⟩
            | some k =>
              have hst : stI (some k) = (k : Int) := rfl
              by_cases hf : s.size ≤ fr
              · have f1 : decide ((s.size : Int) ≤ (fr : Int)) = true := decide_eq_true (by omega)
                have f1N : decide (s.size ≤ fr) = true := decide_eq_true hf
                have f2 : decide ((k : Int) < 0) = false := decide_eq_false (by omega)
                have HG2 := Aside0.mk (mtB_f (gr_fail HR.out HN.out (.inr (by rw [HSL.out]; exact hf))))
                go_wp2
                try rw [Exit.noGoto_ret]
                go_ret
                exact ⟨by rw [HG2.out]; rfl, HB4.out⟩
              · have f1 : decide ((s.size : Int) ≤ (fr : Int)) = false := decide_eq_false (by omega)
                have f1N : decide (s.size ≤ fr) = false := decide_eq_false hf
                have f2 : decide ((k : Int) < 0) = false := decide_eq_false (by omega)
                have HR2 := Aside0.mk (gr_back HR.out HN.out (by rw [HSL.out]; omega))
                have HKL := Aside0.mk (show k < l.length from by have := (HR.out.hs k rfl).1; have := HA.out; omega)
                have hw1 : wrap64 ((fr : Int) + 1) = ((fr + 1 : Nat) : Int) := by have := HSZ.out; unfold wrap64; omega
                have hw2 : wrap64 ((k : Int) + 1) = ((k + 1 : Nat) : Int) := by have := HKL.out; have := HLEN.out; unfold wrap64; omega
                have HME := Aside0.mk (gr_m3 l.length (bytesOf s).length a fr k HKL.out (by rw [HSL.out]; omega) HA.out)
                clear hf
                go_wp2
                go_roundg (grM l.length (bytesOf s).length (k + 1) (fr + 1) (some k))
                case measure => have := HQ.out; have := HME.out; omega
                case rel => exact ⟨k + 1, fr + 1, fr + 1, some k, by first | rfl | (rw [hw2]; done) | simp, by first | rfl | (rw [hw1]; done) | simp, rfl, by first | rfl | (rw [hw1]; done) | simp, ⟨rfl⟩, HR2, HB4⟩
        · skip
          have e2 : decide ((i : Int) < (s.size : Int)) = false := decide_eq_false (by omega)
          have e2N : decide (i < s.size) = false := decide_eq_false (by omega)
          have HHI := Aside0.mk hi
          have k0r := Reach.cell k0
          clear hl
          go_upto_region 8 with (fail)
          refine region_reach (by kernel_rfl) (by kernel_rfl) ?_
          repeat (go_big_quiet_step (fail))
          refine wpQuiet_nil ?_
          rintro w4 ⟨⟨_, hb4⟩, rfl⟩
          have HB4 := Aside0.mk (below_step HB.out hb4)
          clear hb4
          have HN := Aside0.mk (gr_stuck (l := l) (s := bytesOf s) (a := a) (i := i) (.inl HL.out) (fun _ => by rw [← HXE.out]; exact HM.out) (fun _ h => absurd h (by rw [HSL.out]; exact HHI.out)))
          cases st with
          | none =>
            have HG2 := Aside0.mk (mtB_f (gr_fail HR.out HN.out (.inl rfl)))
            have hst : stI none = -1 := rfl
            go_wp2
            try rw [Exit.noGoto_ret]
            go_ret
            exact ⟨by rw [HG2.out]; rfl, HB4.out⟩
          | some k =>
            have hst : stI (some k) = (k : Int) := rfl
            by_cases hf : s.size ≤ fr
            · have f1 : decide ((s.size : Int) ≤ (fr : Int)) = true := decide_eq_true (by omega)
              have f1N : decide (s.size ≤ fr) = true := decide_eq_true hf
              have f2 : decide ((k : Int) < 0) = false := decide_eq_false (by omega)
              have HG2 := Aside0.mk (mtB_f (gr_fail HR.out HN.out (.inr (by rw [HSL.out]; exact hf))))
              go_wp2
              try rw [Exit.noGoto_ret]
              go_ret
              exact ⟨by rw [HG2.out]; rfl, HB4.out⟩
            · have f1 : decide ((s.size : Int) ≤ (fr : Int)) = false := decide_eq_false (by omega)
              have f1N : decide (s.size ≤ fr) = false := decide_eq_false hf
              have f2 : decide ((k : Int) < 0) = false := decide_eq_false (by omega)
              have HR2 := Aside0.mk (gr_back HR.out HN.out (by rw [HSL.out]; omega))
              have HKL := Aside0.mk (show k < l.length from by have := (HR.out.hs k rfl).1; have := HA.out; omega)
              have hw1 : wrap64 ((fr : Int) + 1) = ((fr + 1 : Nat) : Int) := by have := HSZ.out; unfold wrap64; omega
              have hw2 : wrap64 ((k : Int) + 1) = ((k + 1 : Nat) : Int) := by have := HKL.out; have := HLEN.out; unfold wrap64; omega
              have HME := Aside0.mk (gr_m3 l.length (bytesOf s).length a fr k HKL.out (by rw [HSL.out]; omega) HA.out)
              clear hf
              go_wp2
              go_roundg (grM l.length (bytesOf s).length (k + 1) (fr + 1) (some k))
              case measure => have := HQ.out; have := HME.out; omega
              case rel => exact ⟨k + 1, fr + 1, fr + 1, some k, by first | rfl | (rw [hw2]; done) | simp, by first | rfl | (rw [hw1]; done) | simp, rfl, by first | rfl | (rw [hw1]; done) | simp, ⟨rfl⟩, HR2, HB4⟩
    · have HL := Aside0.mk hl
      have e1 : decide ((a : Int) < (l.length : Int)) = false := decide_eq_false (by omega)
      have e1N : decide (a < l.length) = false := decide_eq_false (by omega)
      by_cases hi : i < s.size
      · skip
        have e2 : decide ((i : Int) < (s.size : Int)) = true := decide_eq_true (by omega)
        have e2N : decide (i < s.size) = true := decide_eq_true (by omega)
        have HHI := Aside0.mk hi
        clear hl hi
        go_upto_region 8 with (fail)
        refine region_reach (by kernel_rfl) (by kernel_rfl) ?_
        repeat (go_big_quiet_step (fail))
        refine wpQuiet_nil ?_
        rintro w4 ⟨⟨_, hb4⟩, rfl⟩
        have HB4 := Aside0.mk (below_step HB.out hb4)
        clear hb4
        have HN := Aside0.mk (gr_stuck (l := l) (s := bytesOf s) (a := a) (i := i) (.inr (by rw [HSL.out]; exact HHI.out)) (fun h => absurd h HL.out) (fun h => absurd h HL.out))
        cases st with
        | none =>
          have HG2 := Aside0.mk (mtB_f (gr_fail HR.out HN.out (.inl rfl)))
          have hst : stI none = -1 := rfl
          go_wp2
          try rw [Exit.noGoto_ret]
          go_ret
          exact ⟨by rw [HG2.out]; rfl, HB4.out⟩
        | some k =>
          have hst : stI (some k) = (k : Int) := rfl
          by_cases hf : s.size ≤ fr
          · have f1 : decide ((s.size : Int) ≤ (fr : Int)) = true := decide_eq_true (by omega)
            have f1N : decide (s.size ≤ fr) = true := decide_eq_true hf
            have f2 : decide ((k : Int) < 0) = false := decide_eq_false (by omega)
            have HG2 := Aside0.mk (mtB_f (gr_fail HR.out HN.out (.inr (by rw [HSL.out]; exact hf))))
            go_wp2
            try rw [Exit.noGoto_ret]
            go_ret
            exact ⟨by rw [HG2.out]; rfl, HB4.out⟩
          · have f1 : decide ((s.size : Int) ≤ (fr : Int)) = false := decide_eq_false (by omega)
            have f1N : decide (s.size ≤ fr) = false := decide_eq_false hf
            have f2 : decide ((k : Int) < 0) = false := decide_eq_false (by omega)
            have HR2 := Aside0.mk (gr_back HR.out HN.out (by rw [HSL.out]; omega))
            have HKL := Aside0.mk (show k < l.length from by have := (HR.out.hs k rfl).1; have := HA.out; omega)
            have hw1 : wrap64 ((fr : Int) + 1) = ((fr + 1 : Nat) : Int) := by have := HSZ.out; unfold wrap64; omega
            have hw2 : wrap64 ((k : Int) + 1) = ((k + 1 : Nat) : Int) := by have := HKL.out; have := HLEN.out; unfold wrap64; omega
            have HME := Aside0.mk (gr_m3 l.length (bytesOf s).length a fr k HKL.out (by rw [HSL.out]; omega) HA.out)
            clear hf
            go_wp2
            go_roundg (grM l.length (bytesOf s).length (k + 1) (fr + 1) (some k))
            case measure => have := HQ.out; have := HME.out; omega
            case rel => exact ⟨k + 1, fr + 1, fr + 1, some k, by first | rfl | (rw [hw2]; done) | simp, by first | rfl | (rw [hw1]; done) | simp, rfl, by first | rfl | (rw [hw1]; done) | simp, ⟨rfl⟩, HR2, HB4⟩
      · skip
        have e2 : decide ((i : Int) < (s.size : Int)) = false := decide_eq_false (by omega)
        have e2N : decide (i < s.size) = false := decide_eq_false (by omega)
        have HG2 := Aside0.mk (mtB_t (gr_end HR.out (by omega) (by rw [HSL.out]; omega)))
        clear hl hi
        go_wp2
        try rw [Exit.noGoto_ret]
        go_ret
        exact ⟨by rw [HG2.out]; rfl, HB.out⟩
end Go.Proofs.Ytbnlfiklkddolaa.Sep
