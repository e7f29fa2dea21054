/- The walk of the reference's class. Printed by gen13.py. Conditions: the bounds of the statements. -/
import Derived.Test.YtbnlfiklkddolaaG9
namespace Go.Proofs.Ytbnlfiklkddolaa.Sep
set_option linter.unusedSimpArgs false
set_option linter.unusedVariables false
open Go.RowKit Go.Proofs.Ytbnlfiklkddolaa.PCore Go.Proofs.Ytbnlfiklkddolaa.Plain Go.Proofs.YtbnlfiklkddolaaW.PrintWords Go.Proofs.YtbnlfiklkddolaaW.PrintLast Go.Proofs.YtbnlfiklkddolaaW.PrintMore
/-- An element's cells. -/
def cellsR (f : List Bool) (m sf : Bool) (c : Int) : Array Value := (f.map Value.bool ++ [Value.bool m, Value.bool sf, Value.int .u8 c]).toArray
section
variable {f : List Bool} {m sf : Bool} {c : Int}
theorem cellsR_size (hf : f.length = 256) : (cellsR f m sf c).size = 259 := by simp [cellsR, hf]
theorem cellsR_get (i : Nat) (hi : i < f.length) : (cellsR f m sf c)[i]? = some (.bool (f.getD i false)) := by
  rw [cellsR, List.getElem?_toArray, List.getElem?_append_left (by rw [List.length_map]; exact hi), List.getElem?_map, List.getElem?_eq_getElem hi]
  simp [List.getD, List.getElem?_eq_getElem hi]
theorem cellsR_set (i : Nat) (hi : i < f.length) (v : Bool) : (cellsR f m sf c).setIfInBounds i (.bool v) = cellsR (f.set i v) m sf c := by
  unfold cellsR
  rw [List.setIfInBounds_toArray, List.set_append_left _ _ (by rw [List.length_map]; exact hi), List.map_set]
theorem cellsR_one : ∀ v ∈ (cellsR f m sf c).toList, v.oneCell' = true := by
  intro v hv
  simp only [cellsR, List.mem_append, List.mem_map, List.mem_cons, List.not_mem_nil, or_false] at hv
  rcases hv with ⟨b, _, rfl⟩ | rfl | rfl | rfl <;> rfl
theorem cellsR_at {w : World} {g : Nat} (h : w.heap[g]? = some (.cells (cellsR f m sf c) 58 (0, 0))) (i : Nat) (hi : i < f.length) : w.cell? ⟨g, i, none⟩ = some (.bool (f.getD i false)) := (blk_cell h i).trans (cellsR_get i hi)
theorem cellsR_put {w : World} {g : Nat} (h : w.heap[g]? = some (.cells (cellsR f m sf c) 58 (0, 0))) (i : Nat) (hi : i < f.length) (v : Bool) : (w.setCell ⟨g, i, none⟩ (.bool v)).heap[g]? = some (.cells (cellsR (f.set i v) m sf c) 58 (0, 0)) := by
  rw [blk_set h, cellsR_set i hi]
end
theorem pln_at (s : ByteArray) (i : Nat) (h : i < s.size) : pln ((bytesOf s).drop i) = if bt s (i : Int) = 92 then (if i + 1 < s.size then ((bt s ((i + 1 : Nat) : Int), true), (bytesOf s).drop (i + 2)) else ((0, false), [])) else ((bt s (i : Int), true), (bytesOf s).drop (i + 1)) := by
  rw [bytes_drop s i h]
  simp only [pln]
  split
  · split
    · rename_i h2
      rw [bytes_drop s (i + 1) h2]
      rfl
    · rename_i h2
      rw [bytes_done s (i + 1) (by omega)]
      rfl
  · rfl
theorem head_at (s : ByteArray) (i : Nat) (h : i < s.size) : ((bytesOf s).drop i).head? = some (bt s (i : Int)) := by rw [bytes_drop s i h]; rfl
theorem dash_at2 (s : ByteArray) (i : Nat) : dash ((bytesOf s).drop i) = (decide (i + 1 < s.size) && (bt s (i : Int) == 45 && bt s ((i + 1 : Nat) : Int) != 93)) := by
  by_cases h1 : i + 1 < s.size
  · rw [bytes_drop s i (by omega), bytes_drop s (i + 1) h1, decide_eq_true h1, Bool.true_and]
    rfl
  · rw [decide_eq_false h1, Bool.false_and]
    by_cases h2 : i < s.size
    · rw [bytes_drop s i h2, bytes_done s (i + 1) (by omega)]; rfl
    · rw [bytes_done s i (by omega)]; rfl
theorem bt_byte (s : ByteArray) (i : Nat) (h : i < s.size) : 0 ≤ bt s (i : Int) ∧ bt s (i : Int) < 256 := by
  have h1 := bt_at s ((i : Nat) : Int) h
  rw [← h1]
  exact ⟨Int.natCast_nonneg _, by have := UInt8.toNat_lt (s[((i : Nat) : Int).toNat]'h); omega⟩
theorem clsL_nil {nt : Bool} {k n : Nat} {f : List Bool} : clsL nt (k + 1) f n [] = none := clsL_bad (by simp) rfl
/-- What the reference's class answers. -/
def RClsAns (B g : Nat) (W : World) (m sf : Bool) (c : Int) (s : ByteArray) (res : Option (List Bool × List Int)) (e : Ending) (W1 : World) : Prop :=
  Fr B [58, 5] W W1 ∧ (match res with
    | none => e = .returned (.int .i64 0) ∧ ∃ f, f.length = 256 ∧ W1.heap[g]? = some (.cells (cellsR f m sf c) 58 (0, 0))
    | some (f, r') => ∃ i : Nat, e = .returned (.int .i64 ((i + 1 : Nat) : Int)) ∧ i < s.size ∧ r' = (bytesOf s).drop (i + 1) ∧ f.length = 256 ∧ W1.heap[g]? = some (.cells (cellsR f m sf c) 58 (0, 0)))
set_option maxHeartbeats 32000000 in
set_option maxRecDepth 100000 in
theorem rclass_calls (B g : Nat) (m sf : Bool) (c : Int) (s : ByteArray) (W : World) (hg : W.heap[g]? = some (.cells (cellsR zeroF m sf c) 58 (0, 0))) (hB : B ≤ g) (hs : s.size ≤ 1000) :
    Calls Try.prog 27 #[.string s, .pointer (some ⟨g, 0, none⟩)] W fun e W1 => RClsAns B g W m sf c s (cls (bytesOf s)) e W1 := by
  have HG := Aside0.mk hg
  have HBG := Aside0.mk hB
  have HSZ := Aside0.mk hs
  clear hg hB hs
  by_cases hn : (bytesOf s).head? = some 33
  · have hz : 0 < s.size := by cases h : bytesOf s with | nil => rw [h] at hn; cases hn | cons a b => have := bytesOf_length s; rw [h] at this; simp at this; omega
    have hh := head_at s 0 hz
    rw [List.drop_zero, hn] at hh
    have h33 : bt s ((0 : Nat) : Int) = 33 := by injection hh with e; exact e.symm
    have hb0 : ∀ h : 0 < s.size, ((s[0]'h).toNat : Int) = 33 := fun h => by rw [← h33]; exact bt_at s ((0 : Nat) : Int) h
    have hzI : (0 : Int) < (s.size : Int) := by omega
    have e1 : decide ((0 : Int) < (s.size : Int)) = true := decide_eq_true hzI
    have e1N : decide (0 < s.size) = true := decide_eq_true hz
    have HC0 := Aside0.mk (show cls (bytesOf s) = clsL true ((bytesOf s).length + 1) zeroF 0 ((bytesOf s).drop 1) by rw [cls, if_pos hn, List.drop_one])
    clear hh h33 hn
    go_enter Try.func27, Try.ntmps27
    go_wp2
    clear e1 e1N hb0 hzI
    go_loopg [5, 6] (s.size + 1 - 1) (fun kq v5 v6 w' => ∃ (q : Nat) (f : List Bool) (n i : Nat), v5 = .int .i64 (i : Int) ∧ v6 = .int .i64 (n : Int) ∧ Aside0 (kq = s.size + 1 - i ∧ n ≤ i ∧ i ≤ s.size ∧ s.size - i < q) ∧ Aside0 (f.length = 256) ∧ Aside0 (cls (bytesOf s) = clsL true q f n ((bytesOf s).drop i)) ∧ Aside0 (w'.heap[g]? = some (.cells (cellsR f m sf c) 58 (0, 0))) ∧ Aside0 (Fr B [58, 5] W w'))
    case atStart => exact ⟨(bytesOf s).length + 1, zeroF, 0, 1, rfl, rfl, ⟨rfl, by omega, by omega, by rw [bytesOf_length]; omega⟩, ⟨zeroF_length⟩, HC0, HG, ⟨Fr.refl _ _ _⟩⟩
    case round =>
      obtain ⟨q, f, n, i, rfl, rfl, HQ, HFL, HC, HX, HF⟩ := hrel
      obtain ⟨q, rfl⟩ : ∃ q', q = q' + 1 := ⟨q - 1, by have := HQ.out; omega⟩
      generalize wr = w1 at HX HF ⊢
      by_cases hlti : i < s.size
      · skip
        have hlIi : (i : Int) < (s.size : Int) := by omega
        have elti : decide ((i : Int) < (s.size : Int)) = true := decide_eq_true hlIi
        have elNi : decide (i < s.size) = true := decide_eq_true hlti
        have elei : decide ((s.size : Int) ≤ (i : Int)) = false := decide_eq_false (by omega)
        have elni : decide (s.size ≤ i) = false := decide_eq_false (by omega)
        obtain ⟨di, hdi⟩ : ∃ z, z = bt s (i : Int) := ⟨_, rfl⟩
        have hbi : ∀ h : i < s.size, ((s[i]'h).toNat : Int) = di := fun h => by rw [hdi]; exact bt_at s ((i : Nat) : Int) h
        have hbyi := bt_byte s i hlti
        rw [← hdi] at hbyi
        have HDi := Aside0.mk hdi
        have HBYi := Aside0.mk hbyi
        clear hdi hbyi
        have hhd := head_at s i hlti
        rw [← HDi.out] at hhd
        by_cases h93 : di = 93
        · rw [h93] at hbi hhd
          skip
          skip
          have hcl := (HC.out).trans (clsL_end hhd)
          by_cases hn0 : n = 0
          · subst hn0
            have HG := Aside0.mk (hcl.trans (if_pos rfl))
            clear hcl hhd
            go_wp2
            go_ret
            refine ⟨HF.out, ?_⟩
            rw [HG.out]
            exact ⟨rfl, _, HFL.out, HX.out⟩
          · have HG := Aside0.mk (hcl.trans (if_neg hn0))
            have en : ((n : Int) == 0) = false := beq_eq_false_iff_ne.mpr (by omega)
            have enN : (n == 0) = false := beq_eq_false_iff_ne.mpr hn0
            have hwi : wrap64 ((i : Int) + 1) = ((i + 1 : Nat) : Int) := by have := HSZ.out; unfold wrap64; omega
            have HWI := Aside0.mk hwi
            have HLT := Aside0.mk hlti
            clear hcl hhd
            rw [List.tail_drop] at HG
            clear hwi
            go_wp2
            clear en enN hlIi elti elNi elei elni hbi h93 hn0 hlti
            go_loopg [117] 256 (fun kq v117 w' => ∃ j : Nat, v117 = .int .i64 (j : Int) ∧ Aside0 (j ≤ 256 ∧ kq = 256 - j) ∧ Aside0 (w'.heap[g]? = some (.cells (cellsR (notUp f j) m sf c) 58 (0, 0))) ∧ Aside0 (Fr B [58, 5] W w'))
            case atStart => exact ⟨0, rfl, ⟨by omega, by omega⟩, by rw [notUp_zero]; exact HX, HF⟩
            case round =>
              obtain ⟨j, rfl, HI, HXi, HFi⟩ := hrel
              by_cases hj : j < 256
              · have e1 : decide ((j : Int) < 256) = true := decide_eq_true (by omega)
                have e2 : decide (j < 256) = true := decide_eq_true hj
                have hif : j < f.length := by rw [HFL.out]; exact hj
                have z := blk_frozen HXi.out j
                have c0 := cellsR_at HXi.out j (by rw [notUp_length]; exact hif)
                have ev : (notUp f j).getD j false = f.getD j false := by rw [List.getD_eq_getElem?_getD, notUp_get f j hif]; rfl
                rw [ev] at c0
                have hxk := cellsR_put HXi.out j (by rw [notUp_length]; exact hif) (!(f.getD j false))
                rw [← notUp_succ f j hif] at hxk
                have HXk := Aside0.mk hxk
                have HFk := Aside0.mk (HFi.out.trans ((Fr.refl B [58, 5] wr).set HXi.out HBG.out (by simp) j (.bool (!(f.getD j false)))))
                have hw1 : wrap64 ((j : Int) + 1) = ((j + 1 : Nat) : Int) := by unfold wrap64; omega
                generalize f.getD j false = fb at c0 HXk HFk
                clear ev hxk hif
                go_wp2
                go_region
                go_wp2
                go_roundg (256 - (j + 1))
                case measure => have := HI.out; omega
                case rel => exact ⟨j + 1, by first | rfl | simp | rw [hw1], ⟨by have := HI.out; have := of_decide_eq_true e2; omega, rfl⟩, HXk, ⟨HFk.out.trans (Fr.of_below (below_drew (Below.refl _ _)))⟩⟩
              · have e1 : decide ((j : Int) < 256) = false := decide_eq_false (by omega)
                have e2 : decide (j < 256) = false := decide_eq_false hj
                have hnu : notUp f j = f.map (!·) := notUp_all f j (by rw [HFL.out]; omega)
                have hxi := HXi.out
                rw [hnu] at hxi
                have HXi := Aside0.mk hxi
                have HFm := Aside0.mk (show (f.map (!·)).length = 256 by rw [List.length_map]; exact HFL.out)
                clear hnu hxi hj
                have hwi := HWI.out
                go_wp2
                go_ret
                refine ⟨HFi.out, ?_⟩
                rw [HG.out]
                exact ⟨i, by first | rfl | (rw [HWI.out]; done) | (simp; done) | (simp; exact HWI.out), HLT.out, rfl, HFm.out, HXi.out⟩
        · have b93 : (di == 93) = false := beq_eq_false_iff_ne.mpr h93
          have b93n : (di != 93) = true := bne_iff_ne.mpr h93
          have HH := Aside0.mk (show ((bytesOf s).drop i).head? ≠ some 93 by rw [hhd]; intro e; injection e with e; exact h93 e)
          clear hhd
          have HB0 := Aside0.mk (Below.refl w1.heap.size w1)
          go_wp2
          go_loopg [5, 8] 3 (fun kq v5 v8 w' => (v5 = .int .i64 (i : Int) ∧ v8 = .slice none 0 0 ∧ Aside0 (kq = 3) ∧ Aside0 (Below w1.heap.size w1 w')) ∨ (∃ (d : Int) (j p : Nat) (A : Option Addr) (cc : Nat), v5 = .int .i64 (p : Int) ∧ v8 = .slice A 1 cc ∧ Aside0 (kq = 2 ∧ p = j + 1 ∧ p < s.size ∧ i < j ∧ 0 ≤ d ∧ d < 256) ∧ Aside0 (pln ((bytesOf s).drop i) = ((d, true), (bytesOf s).drop j)) ∧ Aside0 (dash ((bytesOf s).drop j) = true) ∧ Aside0 (Kd.R (Kd.int .u8) 5 w' w1.heap.size (fun _ => True) v8 [d]) ∧ Aside0 (Below w1.heap.size w1 w')) ∨ (∃ (d e : Int) (j p : Nat) (A : Option Addr) (cc : Nat), v5 = .int .i64 (p : Int) ∧ v8 = .slice A 2 cc ∧ Aside0 (kq = 1 ∧ p ≤ s.size ∧ i < p ∧ 0 ≤ d ∧ d < 256 ∧ 0 ≤ e ∧ e < 256) ∧ Aside0 (pln ((bytesOf s).drop i) = ((d, true), (bytesOf s).drop j)) ∧ Aside0 (dash ((bytesOf s).drop j) = true) ∧ Aside0 (pln ((bytesOf s).drop j).tail = ((e, true), (bytesOf s).drop p)) ∧ Aside0 (Kd.R (Kd.int .u8) 5 w' w1.heap.size (fun _ => True) v8 [d, e]) ∧ Aside0 (Below w1.heap.size w1 w')))
          case atStart => exact .inl ⟨rfl, rfl, ⟨rfl⟩, HB0⟩
          case round =>
            rcases hrel with ⟨rfl, rfl, HKQ, HB⟩ | ⟨d, j, t, A, cc, rfl, rfl, HJ, HPJ, HDJ, HR, HB⟩ | ⟨d, e, j, t, A, cc, rfl, rfl, HJ, HPJ, HDJ, HPE, HR, HB⟩
            · have HR := Aside0.mk (Kd.R_nil (Kd.int .u8) 5 wr w1.heap.size (fun _ => True))
              by_cases h92 : di = 92
              · rw [h92] at hbi HBYi HDi
                have hpl := pln_at s i hlti
                rw [← HDi.out, if_pos rfl] at hpl
                obtain ⟨p, hpp⟩ : ∃ z, z = i + 1 := ⟨_, rfl⟩
                have HWp := Aside0.mk (show wrap64 ((i : Int) + 1) = (p : Int) by have := HSZ.out; have := HQ.out; rw [hpp]; unfold wrap64; omega)
                by_cases hltp : p < s.size
                · rw [← hpp, if_pos hltp] at hpl
                  have hlIp : (p : Int) < (s.size : Int) := by omega
                  have eltp : decide ((p : Int) < (s.size : Int)) = true := decide_eq_true hlIp
                  have elNp : decide (p < s.size) = true := decide_eq_true hltp
                  have elep : decide ((s.size : Int) ≤ (p : Int)) = false := decide_eq_false (by omega)
                  have elnp : decide (s.size ≤ p) = false := decide_eq_false (by omega)
                  obtain ⟨dp, hdp⟩ : ∃ z, z = bt s (p : Int) := ⟨_, rfl⟩
                  have hbp : ∀ h : p < s.size, ((s[p]'h).toNat : Int) = dp := fun h => by rw [hdp]; exact bt_at s ((p : Nat) : Int) h
                  have hbyp := bt_byte s p hltp
                  rw [← hdp] at hbyp
                  have HDp := Aside0.mk hdp
                  have HBYp := Aside0.mk hbyp
                  clear hdp hbyp
                  obtain ⟨n1, hpn1⟩ : ∃ z, z = p + 1 := ⟨_, rfl⟩
                  have HWn1 := Aside0.mk (show wrap64 ((p : Int) + 1) = (n1 : Int) by have := HSZ.out; have := HQ.out; rw [hpn1]; unfold wrap64; omega)
                  rw [show i + 2 = n1 by omega, ← HDp.out] at hpl
                  have HP := Aside0.mk hpl
                  clear hpl h92
                  obtain ⟨m1, hpm1⟩ : ∃ z, z = n1 + 1 := ⟨_, rfl⟩
                  have HWm1 := Aside0.mk (show wrap64 ((n1 : Int) + 1) = (m1 : Int) by have := HSZ.out; have := HQ.out; rw [hpm1]; unfold wrap64; omega)
                  by_cases hltm1 : m1 < s.size
                  · have hltn1 : n1 < s.size := by omega
                    have hlIm1 : (m1 : Int) < (s.size : Int) := by omega
                    have eltm1 : decide ((m1 : Int) < (s.size : Int)) = true := decide_eq_true hlIm1
                    have elNm1 : decide (m1 < s.size) = true := decide_eq_true hltm1
                    have elem1 : decide ((s.size : Int) ≤ (m1 : Int)) = false := decide_eq_false (by omega)
                    have elnm1 : decide (s.size ≤ m1) = false := decide_eq_false (by omega)
                    obtain ⟨dm1, hdm1⟩ : ∃ z, z = bt s (m1 : Int) := ⟨_, rfl⟩
                    have hbm1 : ∀ h : m1 < s.size, ((s[m1]'h).toNat : Int) = dm1 := fun h => by rw [hdm1]; exact bt_at s ((m1 : Nat) : Int) h
                    have hbym1 := bt_byte s m1 hltm1
                    rw [← hdm1] at hbym1
                    have HDm1 := Aside0.mk hdm1
                    have HBYm1 := Aside0.mk hbym1
                    clear hdm1 hbym1
                    have hlIn1 : (n1 : Int) < (s.size : Int) := by omega
                    have eltn1 : decide ((n1 : Int) < (s.size : Int)) = true := decide_eq_true hlIn1
                    have elNn1 : decide (n1 < s.size) = true := decide_eq_true hltn1
                    have elen1 : decide ((s.size : Int) ≤ (n1 : Int)) = false := decide_eq_false (by omega)
                    have elnn1 : decide (s.size ≤ n1) = false := decide_eq_false (by omega)
                    obtain ⟨dn, hdn1⟩ : ∃ z, z = bt s (n1 : Int) := ⟨_, rfl⟩
                    have hbn1 : ∀ h : n1 < s.size, ((s[n1]'h).toNat : Int) = dn := fun h => by rw [hdn1]; exact bt_at s ((n1 : Nat) : Int) h
                    have hbyn1 := bt_byte s n1 hltn1
                    rw [← hdn1] at hbyn1
                    have HDn1 := Aside0.mk hdn1
                    have HBYn1 := Aside0.mk hbyn1
                    clear hdn1 hbyn1
                    by_cases h45 : dn = 45
                    · rw [h45] at hbn1 HDn1
                      by_cases h93' : dm1 = 93
                      · rw [h93'] at hbm1 HDm1
                        have HDS := Aside0.mk (show dash ((bytesOf s).drop n1) = false by rw [dash_at2]; rw [← hpm1, ← HDm1.out]; simp)
                        have hwp := HWp.out
                        have hwn1 := HWn1.out
                        have hwm1 := HWm1.out
                        have HHpp := Aside0.mk hpp
                        have HHpn1 := Aside0.mk hpn1
                        have HHpm1 := Aside0.mk hpm1
                        clear hpp hpn1 hpm1
                        go_wp2_with (at_builtin; refine Kd.R_append (Kd.int .u8) (w0 := w1) w1.heap.size rfl (.tmp 50) (.tmp 54) 23 5 (.int .u8 0) 1 rfl Try.underlying23 (by kernel_rfl) rfl (by decide) (by omega) _ ([]) dp [.int .u8 dp] (fun _ => True) (fun _ => False) rfl rfl ?aP (fun _ hk => hk.elim) ?aF ?aO ?aB ?aS ?aL ?_; (case aP => exact rfl); (case aF => exact fun _ _ => trivial); (case aO => exact HR.out); (case aB => exact HB.out); (case aS => exact HB.out.size); (case aL => simp); intro v3 w3 ho hb hgr hat; obtain ⟨A3, c3, hv3⟩ := Kd.R_slice ho; have hv3 : v3 = .slice A3 1 c3 := hv3; subst hv3; have HR3 := Aside0.mk ho; have HB3 := Aside0.mk hb; clear ho hb hgr hat)
                        have HX3 := Aside0.mk (blk_below HX.out HB3.out)
                        have HF3 := Aside0.mk (HF.out.trans (Fr.of_below HB3.out))
                        try clear hlIi elti elNi elei elni hbi
                        try clear hlIp eltp elNp elep elnp hbp
                        try clear eltp elNp elep elnp
                        try clear hlIm1 eltm1 elNm1 elem1 elnm1 hbm1
                        try clear eltm1 elNm1 elem1 elnm1
                        try clear hlIn1 eltn1 elNn1 elen1 elnn1 hbn1
                        try clear b93 b93n
                        try clear b92
                        try clear b45
                        try clear h45
                        try clear h92
                        try clear h93'
                        try clear b93'
                        try clear hwp
                        try clear hwn1
                        try clear hwm1
                        obtain ⟨L, hL⟩ : ∃ L : Nat, dp = (L : Int) := ⟨dp.toNat, by have := HBYp.out; omega⟩
                        have HLH := Aside0.mk (show L < 256 by have := HBYp.out; omega)
                        rw [hL] at HP HR3
                        have HG := Aside0.mk ((HC.out).trans (clsL_one HH.out (by rw [HP.out]) (by rw [HP.out]; exact HDS.out)))
                        rw [HP.out] at HG
                        have HG := Aside0.mk (show cls (bytesOf s) = clsL true q (setUp f L 1) (n + 1) ((bytesOf s).drop n1) from HG.out)
                        try clear hL
                        have hwL : wrap64 (L : Int) = (L : Int) := by have := HLH.out; unfold wrap64; omega
                        obtain ⟨A4, c4, hv4, hl4, hC4⟩ := Kd.R_reads HR3.out
                        injection hv4 with q1 q2 q3
                        subst q1
                        obtain ⟨ad, hA, x0⟩ := Kd.at_int hC4 0 (by omega) (by simp)
                        subst hA
                        have x0 : w3.cell? (ad.add 0) = some (.int .u8 (L : Int)) := x0
                        have y0 := Reach.cell x0
                        have x1 : w3.cell? ad = some (.int .u8 (L : Int)) := by cases ad; exact x0
                        have y1 := Reach.cell x1
                        clear hC4 hl4 q2 q3 x0 x1
                        refine region_reach (by kernel_rfl) (by kernel_rfl) ?_
                        repeat (go_big_quiet_step (fail))
                        refine wpQuiet_nil ?_
                        rintro _ ⟨⟨w4, hb⟩, rfl⟩
                        have HX4 := Aside0.mk (blk_below HX3.out hb)
                        have HF4 := Aside0.mk (HF3.out.trans (Fr.of_below hb))
                        clear hb y0 y1
                        try clear y2 y3
                        try simp only [hwL]
                        have HLN := Aside0.mk (show L + 1 = L + 1 from rfl)
                        have HNX := Aside0.mk (show i < n1 ∧ n1 ≤ s.size by have := HHpp.out; have := HHpn1.out; have := HHpm1.out; omega)
                        go_wp2
                        try clear hwL
                        try clear hwH
                        go_loopg [11] 1 (fun kq v11 w' => ∃ (j c' : Nat), v11 = .int .i64 (c' : Int) ∧ Aside0 (j ≤ 1 ∧ kq = 1 - j ∧ c' = L + j) ∧ Aside0 (w'.heap[g]? = some (.cells (cellsR (setUp f L j) m sf c) 58 (0, 0))) ∧ Aside0 (Fr B [58, 5] W w'))
                        case atStart => exact ⟨0, L, rfl, ⟨by omega, by omega, by omega⟩, HX4, HF4⟩
                        case round =>
                          obtain ⟨j, c', rfl, HJ', HXj, HFj⟩ := hrel
                          by_cases hj : j < 1
                          · have e0 : c' ≤ L := by have := HLN.out; have := HJ'.out; omega
                            have e4 : c' < 256 := by have := HLH.out; have := HLN.out; have := HJ'.out; omega
                            have e1 : decide ((c' : Int) ≤ (L : Int)) = true := decide_eq_true (by omega)
                            have e2 : decide (c' ≤ L) = true := decide_eq_true e0
                            have z := blk_frozen HXj.out c'
                            have HJ2 := Aside0.mk hj
                            have c0 := cellsR_at HXj.out c' (by rw [setUp_length, HFL.out]; omega)
                            have hxk := cellsR_put HXj.out c' (by rw [setUp_length, HFL.out]; omega) true
                            rw [show (setUp f L j).set c' true = setUp f L (j + 1) by rw [HJ'.out.2.2]; rfl] at hxk
                            have HXk := Aside0.mk hxk
                            have HFk := Aside0.mk (HFj.out.trans ((Fr.refl B [58, 5] wr).set HXj.out HBG.out (by simp) c' (.bool true)))
                            have hw3 : wrap64 ((c' : Int) + 1) = ((c' + 1 : Nat) : Int) := by unfold wrap64; omega
                            clear hxk hj
                            go_wp2
                            go_roundg (1 - (j + 1))
                            case measure => have := HJ'.out; have := HJ2.out; omega
                            case rel => exact ⟨j + 1, c' + 1, by first | rfl | (rw [hw3]; done) | (rw [hw3]; rfl) | simp, ⟨by have := HJ2.out; omega, rfl, by have := HJ'.out; omega⟩, HXk, HFk⟩
                          · have hje : 1 = j := by have := HJ'.out; omega
                            subst hje
                            have e0 : ¬ c' ≤ L := by have := HLN.out; have := HJ'.out; omega
                            have e1 : decide ((c' : Int) ≤ (L : Int)) = false := decide_eq_false (by omega)
                            have e2 : decide (c' ≤ L) = false := decide_eq_false e0
                            have hwn : wrap64 ((n : Int) + 1) = ((n + 1 : Nat) : Int) := by have := HQ.out; have := HSZ.out; unfold wrap64; omega
                            go_wp2
                            go_roundg (s.size + 1 - n1)
                            case measure => have := HQ.out; have := HNX.out; omega
                            case rel => exact ⟨q, setUp f L 1, n + 1, n1, rfl, by first | rfl | (rw [hwn]; done) | (rw [hwn]; rfl) | simp, ⟨rfl, by have := HQ.out; have := HNX.out; omega, by have := HNX.out; omega, by have := HQ.out; have := HNX.out; omega⟩, ⟨by rw [setUp_length]; exact HFL.out⟩, HG, HXj, HFj⟩
                      · have b93' : (dm1 == 93) = false := beq_eq_false_iff_ne.mpr h93'
                        have HDS := Aside0.mk (show dash ((bytesOf s).drop n1) = true by rw [dash_at2, ← hpm1, ← HDm1.out, ← HDn1.out]; simp [hltm1, h93'])
                        have hwp := HWp.out
                        have hwn1 := HWn1.out
                        have hwm1 := HWm1.out
                        have HHpp := Aside0.mk hpp
                        have HHpn1 := Aside0.mk hpn1
                        have HHpm1 := Aside0.mk hpm1
                        clear hpp hpn1 hpm1
                        go_wp2_with (at_builtin; refine Kd.R_append (Kd.int .u8) (w0 := w1) w1.heap.size rfl (.tmp 50) (.tmp 54) 23 5 (.int .u8 0) 1 rfl Try.underlying23 (by kernel_rfl) rfl (by decide) (by omega) _ ([]) dp [.int .u8 dp] (fun _ => True) (fun _ => False) rfl rfl ?aP (fun _ hk => hk.elim) ?aF ?aO ?aB ?aS ?aL ?_; (case aP => exact rfl); (case aF => exact fun _ _ => trivial); (case aO => exact HR.out); (case aB => exact HB.out); (case aS => exact HB.out.size); (case aL => simp); intro v3 w3 ho hb hgr hat; obtain ⟨A3, c3, hv3⟩ := Kd.R_slice ho; have hv3 : v3 = .slice A3 1 c3 := hv3; subst hv3; have HR3 := Aside0.mk ho; have HB3 := Aside0.mk hb; clear ho hb hgr hat)
                        go_roundg 2
                        case measure => have := HKQ.out; omega
                        case rel => exact .inr (.inl ⟨dp, n1, m1, A3, c3, by first | rfl | (rw [HWm1.out]; done) | simp, rfl, ⟨rfl, HHpm1.out, by omega, by have := HHpp.out; have := HHpn1.out; have := HHpm1.out; omega, HBYp.out.1, HBYp.out.2⟩, HP, HDS, HR3, HB3⟩)
                    · have b45 : (dn == 45) = false := beq_eq_false_iff_ne.mpr h45
                      have HDS := Aside0.mk (show dash ((bytesOf s).drop n1) = false by rw [dash_at2]; rw [← HDn1.out, b45]; simp)
                      have hwp := HWp.out
                      have hwn1 := HWn1.out
                      have hwm1 := HWm1.out
                      have HHpp := Aside0.mk hpp
                      have HHpn1 := Aside0.mk hpn1
                      have HHpm1 := Aside0.mk hpm1
                      clear hpp hpn1 hpm1
                      go_wp2_with (at_builtin; refine Kd.R_append (Kd.int .u8) (w0 := w1) w1.heap.size rfl (.tmp 50) (.tmp 54) 23 5 (.int .u8 0) 1 rfl Try.underlying23 (by kernel_rfl) rfl (by decide) (by omega) _ ([]) dp [.int .u8 dp] (fun _ => True) (fun _ => False) rfl rfl ?aP (fun _ hk => hk.elim) ?aF ?aO ?aB ?aS ?aL ?_; (case aP => exact rfl); (case aF => exact fun _ _ => trivial); (case aO => exact HR.out); (case aB => exact HB.out); (case aS => exact HB.out.size); (case aL => simp); intro v3 w3 ho hb hgr hat; obtain ⟨A3, c3, hv3⟩ := Kd.R_slice ho; have hv3 : v3 = .slice A3 1 c3 := hv3; subst hv3; have HR3 := Aside0.mk ho; have HB3 := Aside0.mk hb; clear ho hb hgr hat)
                      have HX3 := Aside0.mk (blk_below HX.out HB3.out)
                      have HF3 := Aside0.mk (HF.out.trans (Fr.of_below HB3.out))
                      try clear hlIi elti elNi elei elni hbi
                      try clear hlIp eltp elNp elep elnp hbp
                      try clear eltp elNp elep elnp
                      try clear hlIm1 eltm1 elNm1 elem1 elnm1 hbm1
                      try clear eltm1 elNm1 elem1 elnm1
                      try clear hlIn1 eltn1 elNn1 elen1 elnn1 hbn1
                      try clear b93 b93n
                      try clear b92
                      try clear b45
                      try clear h45
                      try clear h92
                      try clear h93'
                      try clear b93'
                      try clear hwp
                      try clear hwn1
                      try clear hwm1
                      obtain ⟨L, hL⟩ : ∃ L : Nat, dp = (L : Int) := ⟨dp.toNat, by have := HBYp.out; omega⟩
                      have HLH := Aside0.mk (show L < 256 by have := HBYp.out; omega)
                      rw [hL] at HP HR3
                      have HG := Aside0.mk ((HC.out).trans (clsL_one HH.out (by rw [HP.out]) (by rw [HP.out]; exact HDS.out)))
                      rw [HP.out] at HG
                      have HG := Aside0.mk (show cls (bytesOf s) = clsL true q (setUp f L 1) (n + 1) ((bytesOf s).drop n1) from HG.out)
                      try clear hL
                      have hwL : wrap64 (L : Int) = (L : Int) := by have := HLH.out; unfold wrap64; omega
                      obtain ⟨A4, c4, hv4, hl4, hC4⟩ := Kd.R_reads HR3.out
                      injection hv4 with q1 q2 q3
                      subst q1
                      obtain ⟨ad, hA, x0⟩ := Kd.at_int hC4 0 (by omega) (by simp)
                      subst hA
                      have x0 : w3.cell? (ad.add 0) = some (.int .u8 (L : Int)) := x0
                      have y0 := Reach.cell x0
                      have x1 : w3.cell? ad = some (.int .u8 (L : Int)) := by cases ad; exact x0
                      have y1 := Reach.cell x1
                      clear hC4 hl4 q2 q3 x0 x1
                      refine region_reach (by kernel_rfl) (by kernel_rfl) ?_
                      repeat (go_big_quiet_step (fail))
                      refine wpQuiet_nil ?_
                      rintro _ ⟨⟨w4, hb⟩, rfl⟩
                      have HX4 := Aside0.mk (blk_below HX3.out hb)
                      have HF4 := Aside0.mk (HF3.out.trans (Fr.of_below hb))
                      clear hb y0 y1
                      try clear y2 y3
                      try simp only [hwL]
                      have HLN := Aside0.mk (show L + 1 = L + 1 from rfl)
                      have HNX := Aside0.mk (show i < n1 ∧ n1 ≤ s.size by have := HHpp.out; have := HHpn1.out; have := HHpm1.out; omega)
                      go_wp2
                      try clear hwL
                      try clear hwH
                      go_loopg [11] 1 (fun kq v11 w' => ∃ (j c' : Nat), v11 = .int .i64 (c' : Int) ∧ Aside0 (j ≤ 1 ∧ kq = 1 - j ∧ c' = L + j) ∧ Aside0 (w'.heap[g]? = some (.cells (cellsR (setUp f L j) m sf c) 58 (0, 0))) ∧ Aside0 (Fr B [58, 5] W w'))
                      case atStart => exact ⟨0, L, rfl, ⟨by omega, by omega, by omega⟩, HX4, HF4⟩
                      case round =>
                        obtain ⟨j, c', rfl, HJ', HXj, HFj⟩ := hrel
                        by_cases hj : j < 1
                        · have e0 : c' ≤ L := by have := HLN.out; have := HJ'.out; omega
                          have e4 : c' < 256 := by have := HLH.out; have := HLN.out; have := HJ'.out; omega
                          have e1 : decide ((c' : Int) ≤ (L : Int)) = true := decide_eq_true (by omega)
                          have e2 : decide (c' ≤ L) = true := decide_eq_true e0
                          have z := blk_frozen HXj.out c'
                          have HJ2 := Aside0.mk hj
                          have c0 := cellsR_at HXj.out c' (by rw [setUp_length, HFL.out]; omega)
                          have hxk := cellsR_put HXj.out c' (by rw [setUp_length, HFL.out]; omega) true
                          rw [show (setUp f L j).set c' true = setUp f L (j + 1) by rw [HJ'.out.2.2]; rfl] at hxk
                          have HXk := Aside0.mk hxk
                          have HFk := Aside0.mk (HFj.out.trans ((Fr.refl B [58, 5] wr).set HXj.out HBG.out (by simp) c' (.bool true)))
                          have hw3 : wrap64 ((c' : Int) + 1) = ((c' + 1 : Nat) : Int) := by unfold wrap64; omega
                          clear hxk hj
                          go_wp2
                          go_roundg (1 - (j + 1))
                          case measure => have := HJ'.out; have := HJ2.out; omega
                          case rel => exact ⟨j + 1, c' + 1, by first | rfl | (rw [hw3]; done) | (rw [hw3]; rfl) | simp, ⟨by have := HJ2.out; omega, rfl, by have := HJ'.out; omega⟩, HXk, HFk⟩
                        · have hje : 1 = j := by have := HJ'.out; omega
                          subst hje
                          have e0 : ¬ c' ≤ L := by have := HLN.out; have := HJ'.out; omega
                          have e1 : decide ((c' : Int) ≤ (L : Int)) = false := decide_eq_false (by omega)
                          have e2 : decide (c' ≤ L) = false := decide_eq_false e0
                          have hwn : wrap64 ((n : Int) + 1) = ((n + 1 : Nat) : Int) := by have := HQ.out; have := HSZ.out; unfold wrap64; omega
                          go_wp2
                          go_roundg (s.size + 1 - n1)
                          case measure => have := HQ.out; have := HNX.out; omega
                          case rel => exact ⟨q, setUp f L 1, n + 1, n1, rfl, by first | rfl | (rw [hwn]; done) | (rw [hwn]; rfl) | simp, ⟨rfl, by have := HQ.out; have := HNX.out; omega, by have := HNX.out; omega, by have := HQ.out; have := HNX.out; omega⟩, ⟨by rw [setUp_length]; exact HFL.out⟩, HG, HXj, HFj⟩
                  · skip
                    have eltm1 : decide ((m1 : Int) < (s.size : Int)) = false := decide_eq_false (by omega)
                    have elNm1 : decide (m1 < s.size) = false := decide_eq_false (by omega)
                    have elem1 : decide ((s.size : Int) ≤ (m1 : Int)) = true := decide_eq_true (by omega)
                    have elnm1 : decide (s.size ≤ m1) = true := decide_eq_true (by omega)
                    have HDS := Aside0.mk (show dash ((bytesOf s).drop n1) = false by rw [dash_at2]; rw [← hpm1, decide_eq_false (show ¬ m1 < s.size by omega)]; rfl)
                    have hwp := HWp.out
                    have hwn1 := HWn1.out
                    have hwm1 := HWm1.out
                    have HHpp := Aside0.mk hpp
                    have HHpn1 := Aside0.mk hpn1
                    have HHpm1 := Aside0.mk hpm1
                    clear hpp hpn1 hpm1
                    go_wp2_with (at_builtin; refine Kd.R_append (Kd.int .u8) (w0 := w1) w1.heap.size rfl (.tmp 50) (.tmp 54) 23 5 (.int .u8 0) 1 rfl Try.underlying23 (by kernel_rfl) rfl (by decide) (by omega) _ ([]) dp [.int .u8 dp] (fun _ => True) (fun _ => False) rfl rfl ?aP (fun _ hk => hk.elim) ?aF ?aO ?aB ?aS ?aL ?_; (case aP => exact rfl); (case aF => exact fun _ _ => trivial); (case aO => exact HR.out); (case aB => exact HB.out); (case aS => exact HB.out.size); (case aL => simp); intro v3 w3 ho hb hgr hat; obtain ⟨A3, c3, hv3⟩ := Kd.R_slice ho; have hv3 : v3 = .slice A3 1 c3 := hv3; subst hv3; have HR3 := Aside0.mk ho; have HB3 := Aside0.mk hb; clear ho hb hgr hat)
                    have HX3 := Aside0.mk (blk_below HX.out HB3.out)
                    have HF3 := Aside0.mk (HF.out.trans (Fr.of_below HB3.out))
                    try clear hlIi elti elNi elei elni hbi
                    try clear hlIp eltp elNp elep elnp hbp
                    try clear eltp elNp elep elnp
                    try clear hlIm1 eltm1 elNm1 elem1 elnm1 hbm1
                    try clear eltm1 elNm1 elem1 elnm1
                    try clear hlIn1 eltn1 elNn1 elen1 elnn1 hbn1
                    try clear b93 b93n
                    try clear b92
                    try clear b45
                    try clear h45
                    try clear h92
                    try clear h93'
                    try clear b93'
                    try clear hwp
                    try clear hwn1
                    try clear hwm1
                    obtain ⟨L, hL⟩ : ∃ L : Nat, dp = (L : Int) := ⟨dp.toNat, by have := HBYp.out; omega⟩
                    have HLH := Aside0.mk (show L < 256 by have := HBYp.out; omega)
                    rw [hL] at HP HR3
                    have HG := Aside0.mk ((HC.out).trans (clsL_one HH.out (by rw [HP.out]) (by rw [HP.out]; exact HDS.out)))
                    rw [HP.out] at HG
                    have HG := Aside0.mk (show cls (bytesOf s) = clsL true q (setUp f L 1) (n + 1) ((bytesOf s).drop n1) from HG.out)
                    try clear hL
                    have hwL : wrap64 (L : Int) = (L : Int) := by have := HLH.out; unfold wrap64; omega
                    obtain ⟨A4, c4, hv4, hl4, hC4⟩ := Kd.R_reads HR3.out
                    injection hv4 with q1 q2 q3
                    subst q1
                    obtain ⟨ad, hA, x0⟩ := Kd.at_int hC4 0 (by omega) (by simp)
                    subst hA
                    have x0 : w3.cell? (ad.add 0) = some (.int .u8 (L : Int)) := x0
                    have y0 := Reach.cell x0
                    have x1 : w3.cell? ad = some (.int .u8 (L : Int)) := by cases ad; exact x0
                    have y1 := Reach.cell x1
                    clear hC4 hl4 q2 q3 x0 x1
                    refine region_reach (by kernel_rfl) (by kernel_rfl) ?_
                    repeat (go_big_quiet_step (fail))
                    refine wpQuiet_nil ?_
                    rintro _ ⟨⟨w4, hb⟩, rfl⟩
                    have HX4 := Aside0.mk (blk_below HX3.out hb)
                    have HF4 := Aside0.mk (HF3.out.trans (Fr.of_below hb))
                    clear hb y0 y1
                    try clear y2 y3
                    try simp only [hwL]
                    have HLN := Aside0.mk (show L + 1 = L + 1 from rfl)
                    have HNX := Aside0.mk (show i < n1 ∧ n1 ≤ s.size by have := HHpp.out; have := HHpn1.out; have := HHpm1.out; omega)
                    go_wp2
                    try clear hwL
                    try clear hwH
                    go_loopg [11] 1 (fun kq v11 w' => ∃ (j c' : Nat), v11 = .int .i64 (c' : Int) ∧ Aside0 (j ≤ 1 ∧ kq = 1 - j ∧ c' = L + j) ∧ Aside0 (w'.heap[g]? = some (.cells (cellsR (setUp f L j) m sf c) 58 (0, 0))) ∧ Aside0 (Fr B [58, 5] W w'))
                    case atStart => exact ⟨0, L, rfl, ⟨by omega, by omega, by omega⟩, HX4, HF4⟩
                    case round =>
                      obtain ⟨j, c', rfl, HJ', HXj, HFj⟩ := hrel
                      by_cases hj : j < 1
                      · have e0 : c' ≤ L := by have := HLN.out; have := HJ'.out; omega
                        have e4 : c' < 256 := by have := HLH.out; have := HLN.out; have := HJ'.out; omega
                        have e1 : decide ((c' : Int) ≤ (L : Int)) = true := decide_eq_true (by omega)
                        have e2 : decide (c' ≤ L) = true := decide_eq_true e0
                        have z := blk_frozen HXj.out c'
                        have HJ2 := Aside0.mk hj
                        have c0 := cellsR_at HXj.out c' (by rw [setUp_length, HFL.out]; omega)
                        have hxk := cellsR_put HXj.out c' (by rw [setUp_length, HFL.out]; omega) true
                        rw [show (setUp f L j).set c' true = setUp f L (j + 1) by rw [HJ'.out.2.2]; rfl] at hxk
                        have HXk := Aside0.mk hxk
                        have HFk := Aside0.mk (HFj.out.trans ((Fr.refl B [58, 5] wr).set HXj.out HBG.out (by simp) c' (.bool true)))
                        have hw3 : wrap64 ((c' : Int) + 1) = ((c' + 1 : Nat) : Int) := by unfold wrap64; omega
                        clear hxk hj
                        go_wp2
                        go_roundg (1 - (j + 1))
                        case measure => have := HJ'.out; have := HJ2.out; omega
                        case rel => exact ⟨j + 1, c' + 1, by first | rfl | (rw [hw3]; done) | (rw [hw3]; rfl) | simp, ⟨by have := HJ2.out; omega, rfl, by have := HJ'.out; omega⟩, HXk, HFk⟩
                      · have hje : 1 = j := by have := HJ'.out; omega
                        subst hje
                        have e0 : ¬ c' ≤ L := by have := HLN.out; have := HJ'.out; omega
                        have e1 : decide ((c' : Int) ≤ (L : Int)) = false := decide_eq_false (by omega)
                        have e2 : decide (c' ≤ L) = false := decide_eq_false e0
                        have hwn : wrap64 ((n : Int) + 1) = ((n + 1 : Nat) : Int) := by have := HQ.out; have := HSZ.out; unfold wrap64; omega
                        go_wp2
                        go_roundg (s.size + 1 - n1)
                        case measure => have := HQ.out; have := HNX.out; omega
                        case rel => exact ⟨q, setUp f L 1, n + 1, n1, rfl, by first | rfl | (rw [hwn]; done) | (rw [hwn]; rfl) | simp, ⟨rfl, by have := HQ.out; have := HNX.out; omega, by have := HNX.out; omega, by have := HQ.out; have := HNX.out; omega⟩, ⟨by rw [setUp_length]; exact HFL.out⟩, HG, HXj, HFj⟩
                · rw [← hpp, if_neg hltp] at hpl
                  have eltp : decide ((p : Int) < (s.size : Int)) = false := decide_eq_false (by omega)
                  have elNp : decide (p < s.size) = false := decide_eq_false (by omega)
                  have elep : decide ((s.size : Int) ≤ (p : Int)) = true := decide_eq_true (by omega)
                  have elnp : decide (s.size ≤ p) = true := decide_eq_true (by omega)
                  have HG := Aside0.mk ((HC.out).trans (clsL_bad HH.out (by rw [hpl])))
                  have HX3 := Aside0.mk (blk_below HX.out HB.out)
                  have HF3 := Aside0.mk (HF.out.trans (Fr.of_below HB.out))
                  have hwp := HWp.out
                  have HHpp := Aside0.mk hpp
                  clear hpp
                  go_wp2
                  go_ret
                  refine ⟨HF3.out, ?_⟩
                  rw [HG.out]
                  exact ⟨rfl, _, HFL.out, HX3.out⟩
              · have b92 : (di == 92) = false := beq_eq_false_iff_ne.mpr h92
                have hpl := pln_at s i hlti
                rw [← HDi.out, if_neg h92] at hpl
                obtain ⟨n1, hpn1⟩ : ∃ z, z = i + 1 := ⟨_, rfl⟩
                have HWn1 := Aside0.mk (show wrap64 ((i : Int) + 1) = (n1 : Int) by have := HSZ.out; have := HQ.out; rw [hpn1]; unfold wrap64; omega)
                rw [← hpn1] at hpl
                have HP := Aside0.mk hpl
                clear hpl
                obtain ⟨m1, hpm1⟩ : ∃ z, z = n1 + 1 := ⟨_, rfl⟩
                have HWm1 := Aside0.mk (show wrap64 ((n1 : Int) + 1) = (m1 : Int) by have := HSZ.out; have := HQ.out; rw [hpm1]; unfold wrap64; omega)
                by_cases hltm1 : m1 < s.size
                · have hltn1 : n1 < s.size := by omega
                  have hlIm1 : (m1 : Int) < (s.size : Int) := by omega
                  have eltm1 : decide ((m1 : Int) < (s.size : Int)) = true := decide_eq_true hlIm1
                  have elNm1 : decide (m1 < s.size) = true := decide_eq_true hltm1
                  have elem1 : decide ((s.size : Int) ≤ (m1 : Int)) = false := decide_eq_false (by omega)
                  have elnm1 : decide (s.size ≤ m1) = false := decide_eq_false (by omega)
                  obtain ⟨dm1, hdm1⟩ : ∃ z, z = bt s (m1 : Int) := ⟨_, rfl⟩
                  have hbm1 : ∀ h : m1 < s.size, ((s[m1]'h).toNat : Int) = dm1 := fun h => by rw [hdm1]; exact bt_at s ((m1 : Nat) : Int) h
                  have hbym1 := bt_byte s m1 hltm1
                  rw [← hdm1] at hbym1
                  have HDm1 := Aside0.mk hdm1
                  have HBYm1 := Aside0.mk hbym1
                  clear hdm1 hbym1
                  have hlIn1 : (n1 : Int) < (s.size : Int) := by omega
                  have eltn1 : decide ((n1 : Int) < (s.size : Int)) = true := decide_eq_true hlIn1
                  have elNn1 : decide (n1 < s.size) = true := decide_eq_true hltn1
                  have elen1 : decide ((s.size : Int) ≤ (n1 : Int)) = false := decide_eq_false (by omega)
                  have elnn1 : decide (s.size ≤ n1) = false := decide_eq_false (by omega)
                  obtain ⟨dn, hdn1⟩ : ∃ z, z = bt s (n1 : Int) := ⟨_, rfl⟩
                  have hbn1 : ∀ h : n1 < s.size, ((s[n1]'h).toNat : Int) = dn := fun h => by rw [hdn1]; exact bt_at s ((n1 : Nat) : Int) h
                  have hbyn1 := bt_byte s n1 hltn1
                  rw [← hdn1] at hbyn1
                  have HDn1 := Aside0.mk hdn1
                  have HBYn1 := Aside0.mk hbyn1
                  clear hdn1 hbyn1
                  by_cases h45 : dn = 45
                  · rw [h45] at hbn1 HDn1
                    by_cases h93' : dm1 = 93
                    · rw [h93'] at hbm1 HDm1
                      have HDS := Aside0.mk (show dash ((bytesOf s).drop n1) = false by rw [dash_at2]; rw [← hpm1, ← HDm1.out]; simp)
                      have hwn1 := HWn1.out
                      have hwm1 := HWm1.out
                      have HHpn1 := Aside0.mk hpn1
                      have HHpm1 := Aside0.mk hpm1
                      clear hpn1 hpm1
                      go_wp2_with (at_builtin; refine Kd.R_append (Kd.int .u8) (w0 := w1) w1.heap.size rfl (.tmp 50) (.tmp 54) 23 5 (.int .u8 0) 1 rfl Try.underlying23 (by kernel_rfl) rfl (by decide) (by omega) _ ([]) di [.int .u8 di] (fun _ => True) (fun _ => False) rfl rfl ?aP (fun _ hk => hk.elim) ?aF ?aO ?aB ?aS ?aL ?_; (case aP => exact rfl); (case aF => exact fun _ _ => trivial); (case aO => exact HR.out); (case aB => exact HB.out); (case aS => exact HB.out.size); (case aL => simp); intro v3 w3 ho hb hgr hat; obtain ⟨A3, c3, hv3⟩ := Kd.R_slice ho; have hv3 : v3 = .slice A3 1 c3 := hv3; subst hv3; have HR3 := Aside0.mk ho; have HB3 := Aside0.mk hb; clear ho hb hgr hat)
                      have HX3 := Aside0.mk (blk_below HX.out HB3.out)
                      have HF3 := Aside0.mk (HF.out.trans (Fr.of_below HB3.out))
                      try clear hlIi elti elNi elei elni hbi
                      try clear hlIp eltp elNp elep elnp hbp
                      try clear eltp elNp elep elnp
                      try clear hlIm1 eltm1 elNm1 elem1 elnm1 hbm1
                      try clear eltm1 elNm1 elem1 elnm1
                      try clear hlIn1 eltn1 elNn1 elen1 elnn1 hbn1
                      try clear b93 b93n
                      try clear b92
                      try clear b45
                      try clear h45
                      try clear h92
                      try clear h93'
                      try clear b93'
                      try clear hwn1
                      try clear hwm1
                      obtain ⟨L, hL⟩ : ∃ L : Nat, di = (L : Int) := ⟨di.toNat, by have := HBYi.out; omega⟩
                      have HLH := Aside0.mk (show L < 256 by have := HBYi.out; omega)
                      rw [hL] at HP HR3
                      have HG := Aside0.mk ((HC.out).trans (clsL_one HH.out (by rw [HP.out]) (by rw [HP.out]; exact HDS.out)))
                      rw [HP.out] at HG
                      have HG := Aside0.mk (show cls (bytesOf s) = clsL true q (setUp f L 1) (n + 1) ((bytesOf s).drop n1) from HG.out)
                      try clear hL
                      have hwL : wrap64 (L : Int) = (L : Int) := by have := HLH.out; unfold wrap64; omega
                      obtain ⟨A4, c4, hv4, hl4, hC4⟩ := Kd.R_reads HR3.out
                      injection hv4 with q1 q2 q3
                      subst q1
                      obtain ⟨ad, hA, x0⟩ := Kd.at_int hC4 0 (by omega) (by simp)
                      subst hA
                      have x0 : w3.cell? (ad.add 0) = some (.int .u8 (L : Int)) := x0
                      have y0 := Reach.cell x0
                      have x1 : w3.cell? ad = some (.int .u8 (L : Int)) := by cases ad; exact x0
                      have y1 := Reach.cell x1
                      clear hC4 hl4 q2 q3 x0 x1
                      refine region_reach (by kernel_rfl) (by kernel_rfl) ?_
                      repeat (go_big_quiet_step (fail))
                      refine wpQuiet_nil ?_
                      rintro _ ⟨⟨w4, hb⟩, rfl⟩
                      have HX4 := Aside0.mk (blk_below HX3.out hb)
                      have HF4 := Aside0.mk (HF3.out.trans (Fr.of_below hb))
                      clear hb y0 y1
                      try clear y2 y3
                      try simp only [hwL]
                      have HLN := Aside0.mk (show L + 1 = L + 1 from rfl)
                      have HNX := Aside0.mk (show i < n1 ∧ n1 ≤ s.size by have := HHpn1.out; have := HHpm1.out; omega)
                      go_wp2
                      try clear hwL
                      try clear hwH
                      go_loopg [11] 1 (fun kq v11 w' => ∃ (j c' : Nat), v11 = .int .i64 (c' : Int) ∧ Aside0 (j ≤ 1 ∧ kq = 1 - j ∧ c' = L + j) ∧ Aside0 (w'.heap[g]? = some (.cells (cellsR (setUp f L j) m sf c) 58 (0, 0))) ∧ Aside0 (Fr B [58, 5] W w'))
                      case atStart => exact ⟨0, L, rfl, ⟨by omega, by omega, by omega⟩, HX4, HF4⟩
                      case round =>
                        obtain ⟨j, c', rfl, HJ', HXj, HFj⟩ := hrel
                        by_cases hj : j < 1
                        · have e0 : c' ≤ L := by have := HLN.out; have := HJ'.out; omega
                          have e4 : c' < 256 := by have := HLH.out; have := HLN.out; have := HJ'.out; omega
                          have e1 : decide ((c' : Int) ≤ (L : Int)) = true := decide_eq_true (by omega)
                          have e2 : decide (c' ≤ L) = true := decide_eq_true e0
                          have z := blk_frozen HXj.out c'
                          have HJ2 := Aside0.mk hj
                          have c0 := cellsR_at HXj.out c' (by rw [setUp_length, HFL.out]; omega)
                          have hxk := cellsR_put HXj.out c' (by rw [setUp_length, HFL.out]; omega) true
                          rw [show (setUp f L j).set c' true = setUp f L (j + 1) by rw [HJ'.out.2.2]; rfl] at hxk
                          have HXk := Aside0.mk hxk
                          have HFk := Aside0.mk (HFj.out.trans ((Fr.refl B [58, 5] wr).set HXj.out HBG.out (by simp) c' (.bool true)))
                          have hw3 : wrap64 ((c' : Int) + 1) = ((c' + 1 : Nat) : Int) := by unfold wrap64; omega
                          clear hxk hj
                          go_wp2
                          go_roundg (1 - (j + 1))
                          case measure => have := HJ'.out; have := HJ2.out; omega
                          case rel => exact ⟨j + 1, c' + 1, by first | rfl | (rw [hw3]; done) | (rw [hw3]; rfl) | simp, ⟨by have := HJ2.out; omega, rfl, by have := HJ'.out; omega⟩, HXk, HFk⟩
                        · have hje : 1 = j := by have := HJ'.out; omega
                          subst hje
                          have e0 : ¬ c' ≤ L := by have := HLN.out; have := HJ'.out; omega
                          have e1 : decide ((c' : Int) ≤ (L : Int)) = false := decide_eq_false (by omega)
                          have e2 : decide (c' ≤ L) = false := decide_eq_false e0
                          have hwn : wrap64 ((n : Int) + 1) = ((n + 1 : Nat) : Int) := by have := HQ.out; have := HSZ.out; unfold wrap64; omega
                          go_wp2
                          go_roundg (s.size + 1 - n1)
                          case measure => have := HQ.out; have := HNX.out; omega
                          case rel => exact ⟨q, setUp f L 1, n + 1, n1, rfl, by first | rfl | (rw [hwn]; done) | (rw [hwn]; rfl) | simp, ⟨rfl, by have := HQ.out; have := HNX.out; omega, by have := HNX.out; omega, by have := HQ.out; have := HNX.out; omega⟩, ⟨by rw [setUp_length]; exact HFL.out⟩, HG, HXj, HFj⟩
                    · have b93' : (dm1 == 93) = false := beq_eq_false_iff_ne.mpr h93'
                      have HDS := Aside0.mk (show dash ((bytesOf s).drop n1) = true by rw [dash_at2, ← hpm1, ← HDm1.out, ← HDn1.out]; simp [hltm1, h93'])
                      have hwn1 := HWn1.out
                      have hwm1 := HWm1.out
                      have HHpn1 := Aside0.mk hpn1
                      have HHpm1 := Aside0.mk hpm1
                      clear hpn1 hpm1
                      go_wp2_with (at_builtin; refine Kd.R_append (Kd.int .u8) (w0 := w1) w1.heap.size rfl (.tmp 50) (.tmp 54) 23 5 (.int .u8 0) 1 rfl Try.underlying23 (by kernel_rfl) rfl (by decide) (by omega) _ ([]) di [.int .u8 di] (fun _ => True) (fun _ => False) rfl rfl ?aP (fun _ hk => hk.elim) ?aF ?aO ?aB ?aS ?aL ?_; (case aP => exact rfl); (case aF => exact fun _ _ => trivial); (case aO => exact HR.out); (case aB => exact HB.out); (case aS => exact HB.out.size); (case aL => simp); intro v3 w3 ho hb hgr hat; obtain ⟨A3, c3, hv3⟩ := Kd.R_slice ho; have hv3 : v3 = .slice A3 1 c3 := hv3; subst hv3; have HR3 := Aside0.mk ho; have HB3 := Aside0.mk hb; clear ho hb hgr hat)
                      go_roundg 2
                      case measure => have := HKQ.out; omega
                      case rel => exact .inr (.inl ⟨di, n1, m1, A3, c3, by first | rfl | (rw [HWm1.out]; done) | simp, rfl, ⟨rfl, HHpm1.out, by omega, by have := HHpn1.out; have := HHpm1.out; omega, HBYi.out.1, HBYi.out.2⟩, HP, HDS, HR3, HB3⟩)
                  · have b45 : (dn == 45) = false := beq_eq_false_iff_ne.mpr h45
                    have HDS := Aside0.mk (show dash ((bytesOf s).drop n1) = false by rw [dash_at2]; rw [← HDn1.out, b45]; simp)
                    have hwn1 := HWn1.out
                    have hwm1 := HWm1.out
                    have HHpn1 := Aside0.mk hpn1
                    have HHpm1 := Aside0.mk hpm1
                    clear hpn1 hpm1
                    go_wp2_with (at_builtin; refine Kd.R_append (Kd.int .u8) (w0 := w1) w1.heap.size rfl (.tmp 50) (.tmp 54) 23 5 (.int .u8 0) 1 rfl Try.underlying23 (by kernel_rfl) rfl (by decide) (by omega) _ ([]) di [.int .u8 di] (fun _ => True) (fun _ => False) rfl rfl ?aP (fun _ hk => hk.elim) ?aF ?aO ?aB ?aS ?aL ?_; (case aP => exact rfl); (case aF => exact fun _ _ => trivial); (case aO => exact HR.out); (case aB => exact HB.out); (case aS => exact HB.out.size); (case aL => simp); intro v3 w3 ho hb hgr hat; obtain ⟨A3, c3, hv3⟩ := Kd.R_slice ho; have hv3 : v3 = .slice A3 1 c3 := hv3; subst hv3; have HR3 := Aside0.mk ho; have HB3 := Aside0.mk hb; clear ho hb hgr hat)
                    have HX3 := Aside0.mk (blk_below HX.out HB3.out)
                    have HF3 := Aside0.mk (HF.out.trans (Fr.of_below HB3.out))
                    try clear hlIi elti elNi elei elni hbi
                    try clear hlIp eltp elNp elep elnp hbp
                    try clear eltp elNp elep elnp
                    try clear hlIm1 eltm1 elNm1 elem1 elnm1 hbm1
                    try clear eltm1 elNm1 elem1 elnm1
                    try clear hlIn1 eltn1 elNn1 elen1 elnn1 hbn1
                    try clear b93 b93n
                    try clear b92
                    try clear b45
                    try clear h45
                    try clear h92
                    try clear h93'
                    try clear b93'
                    try clear hwn1
                    try clear hwm1
                    obtain ⟨L, hL⟩ : ∃ L : Nat, di = (L : Int) := ⟨di.toNat, by have := HBYi.out; omega⟩
                    have HLH := Aside0.mk (show L < 256 by have := HBYi.out; omega)
                    rw [hL] at HP HR3
                    have HG := Aside0.mk ((HC.out).trans (clsL_one HH.out (by rw [HP.out]) (by rw [HP.out]; exact HDS.out)))
                    rw [HP.out] at HG
                    have HG := Aside0.mk (show cls (bytesOf s) = clsL true q (setUp f L 1) (n + 1) ((bytesOf s).drop n1) from HG.out)
                    try clear hL
                    have hwL : wrap64 (L : Int) = (L : Int) := by have := HLH.out; unfold wrap64; omega
                    obtain ⟨A4, c4, hv4, hl4, hC4⟩ := Kd.R_reads HR3.out
                    injection hv4 with q1 q2 q3
                    subst q1
                    obtain ⟨ad, hA, x0⟩ := Kd.at_int hC4 0 (by omega) (by simp)
                    subst hA
                    have x0 : w3.cell? (ad.add 0) = some (.int .u8 (L : Int)) := x0
                    have y0 := Reach.cell x0
                    have x1 : w3.cell? ad = some (.int .u8 (L : Int)) := by cases ad; exact x0
                    have y1 := Reach.cell x1
                    clear hC4 hl4 q2 q3 x0 x1
                    refine region_reach (by kernel_rfl) (by kernel_rfl) ?_
                    repeat (go_big_quiet_step (fail))
                    refine wpQuiet_nil ?_
                    rintro _ ⟨⟨w4, hb⟩, rfl⟩
                    have HX4 := Aside0.mk (blk_below HX3.out hb)
                    have HF4 := Aside0.mk (HF3.out.trans (Fr.of_below hb))
                    clear hb y0 y1
                    try clear y2 y3
                    try simp only [hwL]
                    have HLN := Aside0.mk (show L + 1 = L + 1 from rfl)
                    have HNX := Aside0.mk (show i < n1 ∧ n1 ≤ s.size by have := HHpn1.out; have := HHpm1.out; omega)
                    go_wp2
                    try clear hwL
                    try clear hwH
                    go_loopg [11] 1 (fun kq v11 w' => ∃ (j c' : Nat), v11 = .int .i64 (c' : Int) ∧ Aside0 (j ≤ 1 ∧ kq = 1 - j ∧ c' = L + j) ∧ Aside0 (w'.heap[g]? = some (.cells (cellsR (setUp f L j) m sf c) 58 (0, 0))) ∧ Aside0 (Fr B [58, 5] W w'))
                    case atStart => exact ⟨0, L, rfl, ⟨by omega, by omega, by omega⟩, HX4, HF4⟩
                    case round =>
                      obtain ⟨j, c', rfl, HJ', HXj, HFj⟩ := hrel
                      by_cases hj : j < 1
                      · have e0 : c' ≤ L := by have := HLN.out; have := HJ'.out; omega
                        have e4 : c' < 256 := by have := HLH.out; have := HLN.out; have := HJ'.out; omega
                        have e1 : decide ((c' : Int) ≤ (L : Int)) = true := decide_eq_true (by omega)
                        have e2 : decide (c' ≤ L) = true := decide_eq_true e0
                        have z := blk_frozen HXj.out c'
                        have HJ2 := Aside0.mk hj
                        have c0 := cellsR_at HXj.out c' (by rw [setUp_length, HFL.out]; omega)
                        have hxk := cellsR_put HXj.out c' (by rw [setUp_length, HFL.out]; omega) true
                        rw [show (setUp f L j).set c' true = setUp f L (j + 1) by rw [HJ'.out.2.2]; rfl] at hxk
                        have HXk := Aside0.mk hxk
                        have HFk := Aside0.mk (HFj.out.trans ((Fr.refl B [58, 5] wr).set HXj.out HBG.out (by simp) c' (.bool true)))
                        have hw3 : wrap64 ((c' : Int) + 1) = ((c' + 1 : Nat) : Int) := by unfold wrap64; omega
                        clear hxk hj
                        go_wp2
                        go_roundg (1 - (j + 1))
                        case measure => have := HJ'.out; have := HJ2.out; omega
                        case rel => exact ⟨j + 1, c' + 1, by first | rfl | (rw [hw3]; done) | (rw [hw3]; rfl) | simp, ⟨by have := HJ2.out; omega, rfl, by have := HJ'.out; omega⟩, HXk, HFk⟩
                      · have hje : 1 = j := by have := HJ'.out; omega
                        subst hje
                        have e0 : ¬ c' ≤ L := by have := HLN.out; have := HJ'.out; omega
                        have e1 : decide ((c' : Int) ≤ (L : Int)) = false := decide_eq_false (by omega)
                        have e2 : decide (c' ≤ L) = false := decide_eq_false e0
                        have hwn : wrap64 ((n : Int) + 1) = ((n + 1 : Nat) : Int) := by have := HQ.out; have := HSZ.out; unfold wrap64; omega
                        go_wp2
                        go_roundg (s.size + 1 - n1)
                        case measure => have := HQ.out; have := HNX.out; omega
                        case rel => exact ⟨q, setUp f L 1, n + 1, n1, rfl, by first | rfl | (rw [hwn]; done) | (rw [hwn]; rfl) | simp, ⟨rfl, by have := HQ.out; have := HNX.out; omega, by have := HNX.out; omega, by have := HQ.out; have := HNX.out; omega⟩, ⟨by rw [setUp_length]; exact HFL.out⟩, HG, HXj, HFj⟩
                · skip
                  have eltm1 : decide ((m1 : Int) < (s.size : Int)) = false := decide_eq_false (by omega)
                  have elNm1 : decide (m1 < s.size) = false := decide_eq_false (by omega)
                  have elem1 : decide ((s.size : Int) ≤ (m1 : Int)) = true := decide_eq_true (by omega)
                  have elnm1 : decide (s.size ≤ m1) = true := decide_eq_true (by omega)
                  have HDS := Aside0.mk (show dash ((bytesOf s).drop n1) = false by rw [dash_at2]; rw [← hpm1, decide_eq_false (show ¬ m1 < s.size by omega)]; rfl)
                  have hwn1 := HWn1.out
                  have hwm1 := HWm1.out
                  have HHpn1 := Aside0.mk hpn1
                  have HHpm1 := Aside0.mk hpm1
                  clear hpn1 hpm1
                  go_wp2_with (at_builtin; refine Kd.R_append (Kd.int .u8) (w0 := w1) w1.heap.size rfl (.tmp 50) (.tmp 54) 23 5 (.int .u8 0) 1 rfl Try.underlying23 (by kernel_rfl) rfl (by decide) (by omega) _ ([]) di [.int .u8 di] (fun _ => True) (fun _ => False) rfl rfl ?aP (fun _ hk => hk.elim) ?aF ?aO ?aB ?aS ?aL ?_; (case aP => exact rfl); (case aF => exact fun _ _ => trivial); (case aO => exact HR.out); (case aB => exact HB.out); (case aS => exact HB.out.size); (case aL => simp); intro v3 w3 ho hb hgr hat; obtain ⟨A3, c3, hv3⟩ := Kd.R_slice ho; have hv3 : v3 = .slice A3 1 c3 := hv3; subst hv3; have HR3 := Aside0.mk ho; have HB3 := Aside0.mk hb; clear ho hb hgr hat)
                  have HX3 := Aside0.mk (blk_below HX.out HB3.out)
                  have HF3 := Aside0.mk (HF.out.trans (Fr.of_below HB3.out))
                  try clear hlIi elti elNi elei elni hbi
                  try clear hlIp eltp elNp elep elnp hbp
                  try clear eltp elNp elep elnp
                  try clear hlIm1 eltm1 elNm1 elem1 elnm1 hbm1
                  try clear eltm1 elNm1 elem1 elnm1
                  try clear hlIn1 eltn1 elNn1 elen1 elnn1 hbn1
                  try clear b93 b93n
                  try clear b92
                  try clear b45
                  try clear h45
                  try clear h92
                  try clear h93'
                  try clear b93'
                  try clear hwn1
                  try clear hwm1
                  obtain ⟨L, hL⟩ : ∃ L : Nat, di = (L : Int) := ⟨di.toNat, by have := HBYi.out; omega⟩
                  have HLH := Aside0.mk (show L < 256 by have := HBYi.out; omega)
                  rw [hL] at HP HR3
                  have HG := Aside0.mk ((HC.out).trans (clsL_one HH.out (by rw [HP.out]) (by rw [HP.out]; exact HDS.out)))
                  rw [HP.out] at HG
                  have HG := Aside0.mk (show cls (bytesOf s) = clsL true q (setUp f L 1) (n + 1) ((bytesOf s).drop n1) from HG.out)
                  try clear hL
                  have hwL : wrap64 (L : Int) = (L : Int) := by have := HLH.out; unfold wrap64; omega
                  obtain ⟨A4, c4, hv4, hl4, hC4⟩ := Kd.R_reads HR3.out
                  injection hv4 with q1 q2 q3
                  subst q1
                  obtain ⟨ad, hA, x0⟩ := Kd.at_int hC4 0 (by omega) (by simp)
                  subst hA
                  have x0 : w3.cell? (ad.add 0) = some (.int .u8 (L : Int)) := x0
                  have y0 := Reach.cell x0
                  have x1 : w3.cell? ad = some (.int .u8 (L : Int)) := by cases ad; exact x0
                  have y1 := Reach.cell x1
                  clear hC4 hl4 q2 q3 x0 x1
                  refine region_reach (by kernel_rfl) (by kernel_rfl) ?_
                  repeat (go_big_quiet_step (fail))
                  refine wpQuiet_nil ?_
                  rintro _ ⟨⟨w4, hb⟩, rfl⟩
                  have HX4 := Aside0.mk (blk_below HX3.out hb)
                  have HF4 := Aside0.mk (HF3.out.trans (Fr.of_below hb))
                  clear hb y0 y1
                  try clear y2 y3
                  try simp only [hwL]
                  have HLN := Aside0.mk (show L + 1 = L + 1 from rfl)
                  have HNX := Aside0.mk (show i < n1 ∧ n1 ≤ s.size by have := HHpn1.out; have := HHpm1.out; omega)
                  go_wp2
                  try clear hwL
                  try clear hwH
                  go_loopg [11] 1 (fun kq v11 w' => ∃ (j c' : Nat), v11 = .int .i64 (c' : Int) ∧ Aside0 (j ≤ 1 ∧ kq = 1 - j ∧ c' = L + j) ∧ Aside0 (w'.heap[g]? = some (.cells (cellsR (setUp f L j) m sf c) 58 (0, 0))) ∧ Aside0 (Fr B [58, 5] W w'))
                  case atStart => exact ⟨0, L, rfl, ⟨by omega, by omega, by omega⟩, HX4, HF4⟩
                  case round =>
                    obtain ⟨j, c', rfl, HJ', HXj, HFj⟩ := hrel
                    by_cases hj : j < 1
                    · have e0 : c' ≤ L := by have := HLN.out; have := HJ'.out; omega
                      have e4 : c' < 256 := by have := HLH.out; have := HLN.out; have := HJ'.out; omega
                      have e1 : decide ((c' : Int) ≤ (L : Int)) = true := decide_eq_true (by omega)
                      have e2 : decide (c' ≤ L) = true := decide_eq_true e0
                      have z := blk_frozen HXj.out c'
                      have HJ2 := Aside0.mk hj
                      have c0 := cellsR_at HXj.out c' (by rw [setUp_length, HFL.out]; omega)
                      have hxk := cellsR_put HXj.out c' (by rw [setUp_length, HFL.out]; omega) true
                      rw [show (setUp f L j).set c' true = setUp f L (j + 1) by rw [HJ'.out.2.2]; rfl] at hxk
                      have HXk := Aside0.mk hxk
                      have HFk := Aside0.mk (HFj.out.trans ((Fr.refl B [58, 5] wr).set HXj.out HBG.out (by simp) c' (.bool true)))
                      have hw3 : wrap64 ((c' : Int) + 1) = ((c' + 1 : Nat) : Int) := by unfold wrap64; omega
                      clear hxk hj
                      go_wp2
                      go_roundg (1 - (j + 1))
                      case measure => have := HJ'.out; have := HJ2.out; omega
                      case rel => exact ⟨j + 1, c' + 1, by first | rfl | (rw [hw3]; done) | (rw [hw3]; rfl) | simp, ⟨by have := HJ2.out; omega, rfl, by have := HJ'.out; omega⟩, HXk, HFk⟩
                    · have hje : 1 = j := by have := HJ'.out; omega
                      subst hje
                      have e0 : ¬ c' ≤ L := by have := HLN.out; have := HJ'.out; omega
                      have e1 : decide ((c' : Int) ≤ (L : Int)) = false := decide_eq_false (by omega)
                      have e2 : decide (c' ≤ L) = false := decide_eq_false e0
                      have hwn : wrap64 ((n : Int) + 1) = ((n + 1 : Nat) : Int) := by have := HQ.out; have := HSZ.out; unfold wrap64; omega
                      go_wp2
                      go_roundg (s.size + 1 - n1)
                      case measure => have := HQ.out; have := HNX.out; omega
                      case rel => exact ⟨q, setUp f L 1, n + 1, n1, rfl, by first | rfl | (rw [hwn]; done) | (rw [hwn]; rfl) | simp, ⟨rfl, by have := HQ.out; have := HNX.out; omega, by have := HNX.out; omega, by have := HQ.out; have := HNX.out; omega⟩, ⟨by rw [setUp_length]; exact HFL.out⟩, HG, HXj, HFj⟩
            · have hltt : t < s.size := HJ.out.2.2.1
              have HT := Aside0.mk (show ((bytesOf s).drop j).tail = (bytesOf s).drop t by rw [List.tail_drop, HJ.out.2.1])
              clear hlIi elti elNi elei elni hbi
              try clear b93 b93n h93
              have hlIt : (t : Int) < (s.size : Int) := by omega
              have eltt : decide ((t : Int) < (s.size : Int)) = true := decide_eq_true hlIt
              have elNt : decide (t < s.size) = true := decide_eq_true hltt
              have elet : decide ((s.size : Int) ≤ (t : Int)) = false := decide_eq_false (by omega)
              have elnt : decide (s.size ≤ t) = false := decide_eq_false (by omega)
              obtain ⟨dt, hdt⟩ : ∃ z, z = bt s (t : Int) := ⟨_, rfl⟩
              have hbt : ∀ h : t < s.size, ((s[t]'h).toNat : Int) = dt := fun h => by rw [hdt]; exact bt_at s ((t : Nat) : Int) h
              have hbyt := bt_byte s t hltt
              rw [← hdt] at hbyt
              have HDt := Aside0.mk hdt
              have HBYt := Aside0.mk hbyt
              clear hdt hbyt
              by_cases h92 : dt = 92
              · rw [h92] at hbt HBYt HDt
                have hpl := pln_at s t hltt
                rw [← HDt.out, if_pos rfl] at hpl
                obtain ⟨p, hpp⟩ : ∃ z, z = t + 1 := ⟨_, rfl⟩
                have HWp := Aside0.mk (show wrap64 ((t : Int) + 1) = (p : Int) by have := HSZ.out; have := HQ.out; rw [hpp]; unfold wrap64; omega)
                by_cases hltp : p < s.size
                · rw [← hpp, if_pos hltp] at hpl
                  have hlIp : (p : Int) < (s.size : Int) := by omega
                  have eltp : decide ((p : Int) < (s.size : Int)) = true := decide_eq_true hlIp
                  have elNp : decide (p < s.size) = true := decide_eq_true hltp
                  have elep : decide ((s.size : Int) ≤ (p : Int)) = false := decide_eq_false (by omega)
                  have elnp : decide (s.size ≤ p) = false := decide_eq_false (by omega)
                  obtain ⟨dp, hdp⟩ : ∃ z, z = bt s (p : Int) := ⟨_, rfl⟩
                  have hbp : ∀ h : p < s.size, ((s[p]'h).toNat : Int) = dp := fun h => by rw [hdp]; exact bt_at s ((p : Nat) : Int) h
                  have hbyp := bt_byte s p hltp
                  rw [← hdp] at hbyp
                  have HDp := Aside0.mk hdp
                  have HBYp := Aside0.mk hbyp
                  clear hdp hbyp
                  obtain ⟨n1, hpn1⟩ : ∃ z, z = p + 1 := ⟨_, rfl⟩
                  have HWn1 := Aside0.mk (show wrap64 ((p : Int) + 1) = (n1 : Int) by have := HSZ.out; have := HQ.out; rw [hpn1]; unfold wrap64; omega)
                  rw [show t + 2 = n1 by omega, ← HDp.out] at hpl
                  have HP := Aside0.mk hpl
                  clear hpl h92
                  have hwp := HWp.out
                  have hwn1 := HWn1.out
                  have HHpp := Aside0.mk hpp
                  have HHpn1 := Aside0.mk hpn1
                  clear hpp hpn1
                  go_wp2_with (at_builtin; refine Kd.R_append (Kd.int .u8) (w0 := w1) w1.heap.size rfl (.tmp 50) (.tmp 54) 23 5 (.int .u8 0) 1 rfl Try.underlying23 (by kernel_rfl) rfl (by decide) (by omega) _ ([d]) dp [.int .u8 dp] (fun _ => True) (fun _ => False) rfl rfl ?aP (fun _ hk => hk.elim) ?aF ?aO ?aB ?aS ?aL ?_; (case aP => exact rfl); (case aF => exact fun _ _ => trivial); (case aO => exact HR.out); (case aB => exact HB.out); (case aS => exact HB.out.size); (case aL => simp); intro v3 w3 ho hb hgr hat; obtain ⟨A3, c3, hv3⟩ := Kd.R_slice ho; have hv3 : v3 = .slice A3 2 c3 := hv3; subst hv3; have HR3 := Aside0.mk ho; have HB3 := Aside0.mk hb; clear ho hb hgr hat)
                  go_roundg 1
                  case measure => have := HJ.out; omega
                  case rel => exact .inr (.inr ⟨d, dp, j, n1, A3, c3, by first | rfl | (rw [HWn1.out]; done) | simp, rfl, ⟨rfl, by have := HHpp.out; have := HHpn1.out; omega, by have := HHpp.out; have := HHpn1.out; have := HJ.out; omega, HJ.out.2.2.2.2.1, HJ.out.2.2.2.2.2, HBYp.out.1, HBYp.out.2⟩, HPJ, HDJ, ⟨by rw [HT.out]; exact HP.out⟩, HR3, HB3⟩)
                · rw [← hpp, if_neg hltp] at hpl
                  have eltp : decide ((p : Int) < (s.size : Int)) = false := decide_eq_false (by omega)
                  have elNp : decide (p < s.size) = false := decide_eq_false (by omega)
                  have elep : decide ((s.size : Int) ≤ (p : Int)) = true := decide_eq_true (by omega)
                  have elnp : decide (s.size ≤ p) = true := decide_eq_true (by omega)
                  have HG := Aside0.mk ((HC.out).trans (clsL_bad2 HH.out (by rw [HPJ.out]) (by rw [HPJ.out]; exact HDJ.out) (.inl (by rw [HPJ.out]; show (pln ((bytesOf s).drop j).tail).1.2 = false; rw [HT.out, hpl]))))
                  have HX3 := Aside0.mk (blk_below HX.out HB.out)
                  have HF3 := Aside0.mk (HF.out.trans (Fr.of_below HB.out))
                  have hwp := HWp.out
                  have HHpp := Aside0.mk hpp
                  clear hpp
                  go_wp2
                  go_ret
                  refine ⟨HF3.out, ?_⟩
                  rw [HG.out]
                  exact ⟨rfl, _, HFL.out, HX3.out⟩
              · have b92 : (dt == 92) = false := beq_eq_false_iff_ne.mpr h92
                have hpl := pln_at s t hltt
                rw [← HDt.out, if_neg h92] at hpl
                obtain ⟨n1, hpn1⟩ : ∃ z, z = t + 1 := ⟨_, rfl⟩
                have HWn1 := Aside0.mk (show wrap64 ((t : Int) + 1) = (n1 : Int) by have := HSZ.out; have := HQ.out; rw [hpn1]; unfold wrap64; omega)
                rw [← hpn1] at hpl
                have HP := Aside0.mk hpl
                clear hpl
                have hwn1 := HWn1.out
                have HHpn1 := Aside0.mk hpn1
                clear hpn1
                go_wp2_with (at_builtin; refine Kd.R_append (Kd.int .u8) (w0 := w1) w1.heap.size rfl (.tmp 50) (.tmp 54) 23 5 (.int .u8 0) 1 rfl Try.underlying23 (by kernel_rfl) rfl (by decide) (by omega) _ ([d]) dt [.int .u8 dt] (fun _ => True) (fun _ => False) rfl rfl ?aP (fun _ hk => hk.elim) ?aF ?aO ?aB ?aS ?aL ?_; (case aP => exact rfl); (case aF => exact fun _ _ => trivial); (case aO => exact HR.out); (case aB => exact HB.out); (case aS => exact HB.out.size); (case aL => simp); intro v3 w3 ho hb hgr hat; obtain ⟨A3, c3, hv3⟩ := Kd.R_slice ho; have hv3 : v3 = .slice A3 2 c3 := hv3; subst hv3; have HR3 := Aside0.mk ho; have HB3 := Aside0.mk hb; clear ho hb hgr hat)
                go_roundg 1
                case measure => have := HJ.out; omega
                case rel => exact .inr (.inr ⟨d, dt, j, n1, A3, c3, by first | rfl | (rw [HWn1.out]; done) | simp, rfl, ⟨rfl, by have := HHpn1.out; omega, by have := HHpn1.out; have := HJ.out; omega, HJ.out.2.2.2.2.1, HJ.out.2.2.2.2.2, HBYt.out.1, HBYt.out.2⟩, HPJ, HDJ, ⟨by rw [HT.out]; exact HP.out⟩, HR3, HB3⟩)
            · have HR3 := HR
              have HB3 := HB
              have HBYd := Aside0.mk (show 0 ≤ d ∧ d < 256 from ⟨HJ.out.2.2.2.1, HJ.out.2.2.2.2.1⟩)
              have HBYe := Aside0.mk (show 0 ≤ e ∧ e < 256 from HJ.out.2.2.2.2.2)
              have HNX := Aside0.mk (show i < t ∧ t ≤ s.size from ⟨HJ.out.2.2.1, HJ.out.2.1⟩)
              clear hlIi elti elNi elei elni hbi
              generalize wr = w3 at HR HB HR3 HB3 ⊢
              go_wp2
              have HX3 := Aside0.mk (blk_below HX.out HB3.out)
              have HF3 := Aside0.mk (HF.out.trans (Fr.of_below HB3.out))
              try clear hlIi elti elNi elei elni hbi
              try clear hlIp eltp elNp elep elnp hbp
              try clear eltp elNp elep elnp
              try clear hlIm1 eltm1 elNm1 elem1 elnm1 hbm1
              try clear eltm1 elNm1 elem1 elnm1
              try clear hlIn1 eltn1 elNn1 elen1 elnn1 hbn1
              try clear b93 b93n
              try clear b92
              try clear b45
              try clear h45
              try clear h92
              try clear h93'
              try clear b93'
              obtain ⟨L, rfl⟩ : ∃ L : Nat, d = (L : Int) := ⟨d.toNat, by have := HBYd.out; omega⟩
              obtain ⟨H, rfl⟩ : ∃ H : Nat, e = (H : Int) := ⟨e.toNat, by have := HBYe.out; omega⟩
              have HLH := Aside0.mk (show H < 256 by have := HBYe.out; omega)
              have hwL : wrap64 (L : Int) = (L : Int) := by have := HBYd.out; unfold wrap64; omega
              have hwH : wrap64 (H : Int) = (H : Int) := by have := HLH.out; unfold wrap64; omega
              obtain ⟨A4, c4, hv4, hl4, hC4⟩ := Kd.R_reads HR3.out
              injection hv4 with q1 q2 q3
              subst q1
              have hC5 := hC4
              obtain ⟨ad, hA, x0⟩ := Kd.at_int hC4 0 (by omega) (by simp)
              subst hA
              have x0 : w3.cell? (ad.add 0) = some (.int .u8 (L : Int)) := x0
              have y0 := Reach.cell x0
              have x1 : w3.cell? ad = some (.int .u8 (L : Int)) := by cases ad; exact x0
              have y1 := Reach.cell x1
              clear hC4 hl4 q2 q3 x0 x1
              obtain ⟨ad', hA', x2⟩ := Kd.at_int hC5 1 (by omega) (by simp)
              injection hA' with hA'
              subst hA'
              have x2 : w3.cell? (ad.add 1) = some (.int .u8 (H : Int)) := x2
              have y2 := Reach.cell x2
              have x3 : w3.cell? { block := ad.block, off := ad.off + 1 } = some (.int .u8 (H : Int)) := by first | exact x2 | (cases ad; exact x2)
              have y3 := Reach.cell x3
              clear hC5 x2 x3
              refine region_reach (by kernel_rfl) (by kernel_rfl) ?_
              repeat (go_big_quiet_step (fail))
              refine wpQuiet_nil ?_
              rintro _ ⟨⟨w4, hb⟩, rfl⟩
              have HX4 := Aside0.mk (blk_below HX3.out hb)
              have HF4 := Aside0.mk (HF3.out.trans (Fr.of_below hb))
              clear hb y0 y1
              try clear y2 y3
              try simp only [hwL]
              try simp only [hwH]
              by_cases hlt : (H : Int) < (L : Int)
              · have e1 : decide ((H : Int) < (L : Int)) = true := decide_eq_true hlt
                have e2 : decide (H < L) = true := decide_eq_true (by omega)
                have HG := Aside0.mk ((HC.out).trans (clsL_bad2 HH.out (by rw [HPJ.out]) (by rw [HPJ.out]; exact HDJ.out) (.inr (by rw [HPJ.out]; show (pln ((bytesOf s).drop j).tail).1.1 < (L : Int); rw [HPE.out]; exact hlt))))
                clear hlt
                go_wp2
                go_ret
                refine ⟨HF4.out, ?_⟩
                rw [HG.out]
                exact ⟨rfl, _, HFL.out, HX4.out⟩
              · have e1 : decide ((H : Int) < (L : Int)) = false := decide_eq_false hlt
                have e2 : decide (H < L) = false := decide_eq_false (by omega)
                have hG := ((HC.out).trans (clsL_two HH.out (by rw [HPJ.out]) (by rw [HPJ.out]; exact HDJ.out) (by rw [HPJ.out]; show ¬ ((pln ((bytesOf s).drop j).tail).1.2 = false ∨ (pln ((bytesOf s).drop j).tail).1.1 < (L : Int)); rw [HPE.out]; exact fun h => h.elim (fun h => by cases h) (fun h => hlt h))))
                rw [HPJ.out] at hG
                simp only at hG
                rw [HPE.out] at hG
                simp only at hG
                rw [show ((H : Int) - (L : Int) + 1).toNat = H - L + 1 by omega, Int.toNat_natCast] at hG
                have HG := Aside0.mk hG
                clear hG
                obtain ⟨cn, hcn⟩ : ∃ cn, cn = H - L + 1 := ⟨_, rfl⟩
                rw [← hcn] at HG
                have HLN := Aside0.mk (show L + cn = H + 1 by omega)
                clear hcn hlt
                go_wp2
                try clear hwL
                try clear hwH
                go_loopg [11] cn (fun kq v11 w' => ∃ (j c' : Nat), v11 = .int .i64 (c' : Int) ∧ Aside0 (j ≤ cn ∧ kq = cn - j ∧ c' = L + j) ∧ Aside0 (w'.heap[g]? = some (.cells (cellsR (setUp f L j) m sf c) 58 (0, 0))) ∧ Aside0 (Fr B [58, 5] W w'))
                case atStart => exact ⟨0, L, rfl, ⟨by omega, by omega, by omega⟩, HX4, HF4⟩
                case round =>
                  obtain ⟨j, c', rfl, HJ', HXj, HFj⟩ := hrel
                  by_cases hj : j < cn
                  · have e0 : c' ≤ H := by have := HLN.out; have := HJ'.out; omega
                    have e4 : c' < 256 := by have := HLH.out; have := HLN.out; have := HJ'.out; omega
                    have e1 : decide ((c' : Int) ≤ (H : Int)) = true := decide_eq_true (by omega)
                    have e2 : decide (c' ≤ H) = true := decide_eq_true e0
                    have z := blk_frozen HXj.out c'
                    have HJ2 := Aside0.mk hj
                    have c0 := cellsR_at HXj.out c' (by rw [setUp_length, HFL.out]; omega)
                    have hxk := cellsR_put HXj.out c' (by rw [setUp_length, HFL.out]; omega) true
                    rw [show (setUp f L j).set c' true = setUp f L (j + 1) by rw [HJ'.out.2.2]; rfl] at hxk
                    have HXk := Aside0.mk hxk
                    have HFk := Aside0.mk (HFj.out.trans ((Fr.refl B [58, 5] wr).set HXj.out HBG.out (by simp) c' (.bool true)))
                    have hw3 : wrap64 ((c' : Int) + 1) = ((c' + 1 : Nat) : Int) := by unfold wrap64; omega
                    clear hxk hj
                    go_wp2
                    go_roundg (cn - (j + 1))
                    case measure => have := HJ'.out; have := HJ2.out; omega
                    case rel => exact ⟨j + 1, c' + 1, by first | rfl | (rw [hw3]; done) | (rw [hw3]; rfl) | simp, ⟨by have := HJ2.out; omega, rfl, by have := HJ'.out; omega⟩, HXk, HFk⟩
                  · have hje : cn = j := by have := HJ'.out; omega
                    subst hje
                    have e0 : ¬ c' ≤ H := by have := HLN.out; have := HJ'.out; omega
                    have e1 : decide ((c' : Int) ≤ (H : Int)) = false := decide_eq_false (by omega)
                    have e2 : decide (c' ≤ H) = false := decide_eq_false e0
                    have hwn : wrap64 ((n : Int) + 1) = ((n + 1 : Nat) : Int) := by have := HQ.out; have := HSZ.out; unfold wrap64; omega
                    go_wp2
                    go_roundg (s.size + 1 - t)
                    case measure => have := HQ.out; have := HNX.out; omega
                    case rel => exact ⟨q, setUp f L cn, n + 1, t, rfl, by first | rfl | (rw [hwn]; done) | (rw [hwn]; rfl) | simp, ⟨rfl, by have := HQ.out; have := HNX.out; omega, by have := HNX.out; omega, by have := HQ.out; have := HNX.out; omega⟩, ⟨by rw [setUp_length]; exact HFL.out⟩, HG, HXj, HFj⟩
      · have HG := Aside0.mk ((HC.out).trans (show clsL true (q + 1) f n ((bytesOf s).drop i) = none by rw [bytes_done s i (by omega)]; exact clsL_nil))
        have elti : decide ((i : Int) < (s.size : Int)) = false := decide_eq_false (by omega)
        have elNi : decide (i < s.size) = false := decide_eq_false (by omega)
        have elei : decide ((s.size : Int) ≤ (i : Int)) = true := decide_eq_true (by omega)
        have elni : decide (s.size ≤ i) = true := decide_eq_true (by omega)
        go_wp2
        go_ret
        refine ⟨HF.out, ?_⟩
        rw [HG.out]
        exact ⟨rfl, _, HFL.out, HX.out⟩
  · have HC0 := Aside0.mk (show cls (bytesOf s) = clsL false ((bytesOf s).length + 1) zeroF 0 ((bytesOf s).drop 0) by rw [cls, if_neg hn, List.drop_zero])
    by_cases hz : 0 < s.size
    · have hh := head_at s 0 hz
      rw [List.drop_zero] at hh
      have h33 : bt s ((0 : Nat) : Int) ≠ 33 := fun e => hn (by rw [hh, e])
      have hbs := bt_at s ((0 : Nat) : Int)
      generalize bt s ((0 : Nat) : Int) = d at h33 hbs
      have hb0 : ∀ h : 0 < s.size, ((s[0]'h).toNat : Int) = d := fun h => hbs h
      have h33b : (d == 33) = false := beq_eq_false_iff_ne.mpr h33
      have hzI : (0 : Int) < (s.size : Int) := by omega
      have e1 : decide ((0 : Int) < (s.size : Int)) = true := decide_eq_true hzI
      have e1N : decide (0 < s.size) = true := decide_eq_true hz
      clear hh h33 hbs hn
      go_enter Try.func27, Try.ntmps27
      go_wp2
      clear e1 e1N
      clear hb0 hzI h33b
      go_loopg [5, 6] (s.size + 1 - 0) (fun kq v5 v6 w' => ∃ (q : Nat) (f : List Bool) (n i : Nat), v5 = .int .i64 (i : Int) ∧ v6 = .int .i64 (n : Int) ∧ Aside0 (kq = s.size + 1 - i ∧ n ≤ i ∧ i ≤ s.size ∧ s.size - i < q) ∧ Aside0 (f.length = 256) ∧ Aside0 (cls (bytesOf s) = clsL false q f n ((bytesOf s).drop i)) ∧ Aside0 (w'.heap[g]? = some (.cells (cellsR f m sf c) 58 (0, 0))) ∧ Aside0 (Fr B [58, 5] W w'))
      case atStart => exact ⟨(bytesOf s).length + 1, zeroF, 0, 0, rfl, rfl, ⟨rfl, by omega, by omega, by rw [bytesOf_length]; omega⟩, ⟨zeroF_length⟩, HC0, HG, ⟨Fr.refl _ _ _⟩⟩
      case round =>
        obtain ⟨q, f, n, i, rfl, rfl, HQ, HFL, HC, HX, HF⟩ := hrel
        obtain ⟨q, rfl⟩ : ∃ q', q = q' + 1 := ⟨q - 1, by have := HQ.out; omega⟩
        generalize wr = w1 at HX HF ⊢
        by_cases hlti : i < s.size
        · skip
          have hlIi : (i : Int) < (s.size : Int) := by omega
          have elti : decide ((i : Int) < (s.size : Int)) = true := decide_eq_true hlIi
          have elNi : decide (i < s.size) = true := decide_eq_true hlti
          have elei : decide ((s.size : Int) ≤ (i : Int)) = false := decide_eq_false (by omega)
          have elni : decide (s.size ≤ i) = false := decide_eq_false (by omega)
          obtain ⟨di, hdi⟩ : ∃ z, z = bt s (i : Int) := ⟨_, rfl⟩
          have hbi : ∀ h : i < s.size, ((s[i]'h).toNat : Int) = di := fun h => by rw [hdi]; exact bt_at s ((i : Nat) : Int) h
          have hbyi := bt_byte s i hlti
          rw [← hdi] at hbyi
          have HDi := Aside0.mk hdi
          have HBYi := Aside0.mk hbyi
          clear hdi hbyi
          have hhd := head_at s i hlti
          rw [← HDi.out] at hhd
          by_cases h93 : di = 93
          · rw [h93] at hbi hhd
            skip
            skip
            have hcl := (HC.out).trans (clsL_end hhd)
            by_cases hn0 : n = 0
            · subst hn0
              have HG := Aside0.mk (hcl.trans (if_pos rfl))
              clear hcl hhd
              go_wp2
              go_ret
              refine ⟨HF.out, ?_⟩
              rw [HG.out]
              exact ⟨rfl, _, HFL.out, HX.out⟩
            · have HG := Aside0.mk (hcl.trans (if_neg hn0))
              have en : ((n : Int) == 0) = false := beq_eq_false_iff_ne.mpr (by omega)
              have enN : (n == 0) = false := beq_eq_false_iff_ne.mpr hn0
              have hwi : wrap64 ((i : Int) + 1) = ((i + 1 : Nat) : Int) := by have := HSZ.out; unfold wrap64; omega
              have HWI := Aside0.mk hwi
              have HLT := Aside0.mk hlti
              clear hcl hhd
              rw [List.tail_drop] at HG
              go_wp2
              go_ret
              refine ⟨HF.out, ?_⟩
              rw [HG.out]
              exact ⟨i, by first | rfl | (rw [HWI.out]; done) | (simp; done) | (simp; exact HWI.out), HLT.out, rfl, HFL.out, HX.out⟩
          · have b93 : (di == 93) = false := beq_eq_false_iff_ne.mpr h93
            have b93n : (di != 93) = true := bne_iff_ne.mpr h93
            have HH := Aside0.mk (show ((bytesOf s).drop i).head? ≠ some 93 by rw [hhd]; intro e; injection e with e; exact h93 e)
            clear hhd
            have HB0 := Aside0.mk (Below.refl w1.heap.size w1)
            go_wp2
            go_loopg [5, 8] 3 (fun kq v5 v8 w' => (v5 = .int .i64 (i : Int) ∧ v8 = .slice none 0 0 ∧ Aside0 (kq = 3) ∧ Aside0 (Below w1.heap.size w1 w')) ∨ (∃ (d : Int) (j p : Nat) (A : Option Addr) (cc : Nat), v5 = .int .i64 (p : Int) ∧ v8 = .slice A 1 cc ∧ Aside0 (kq = 2 ∧ p = j + 1 ∧ p < s.size ∧ i < j ∧ 0 ≤ d ∧ d < 256) ∧ Aside0 (pln ((bytesOf s).drop i) = ((d, true), (bytesOf s).drop j)) ∧ Aside0 (dash ((bytesOf s).drop j) = true) ∧ Aside0 (Kd.R (Kd.int .u8) 5 w' w1.heap.size (fun _ => True) v8 [d]) ∧ Aside0 (Below w1.heap.size w1 w')) ∨ (∃ (d e : Int) (j p : Nat) (A : Option Addr) (cc : Nat), v5 = .int .i64 (p : Int) ∧ v8 = .slice A 2 cc ∧ Aside0 (kq = 1 ∧ p ≤ s.size ∧ i < p ∧ 0 ≤ d ∧ d < 256 ∧ 0 ≤ e ∧ e < 256) ∧ Aside0 (pln ((bytesOf s).drop i) = ((d, true), (bytesOf s).drop j)) ∧ Aside0 (dash ((bytesOf s).drop j) = true) ∧ Aside0 (pln ((bytesOf s).drop j).tail = ((e, true), (bytesOf s).drop p)) ∧ Aside0 (Kd.R (Kd.int .u8) 5 w' w1.heap.size (fun _ => True) v8 [d, e]) ∧ Aside0 (Below w1.heap.size w1 w')))
            case atStart => exact .inl ⟨rfl, rfl, ⟨rfl⟩, HB0⟩
            case round =>
              rcases hrel with ⟨rfl, rfl, HKQ, HB⟩ | ⟨d, j, t, A, cc, rfl, rfl, HJ, HPJ, HDJ, HR, HB⟩ | ⟨d, e, j, t, A, cc, rfl, rfl, HJ, HPJ, HDJ, HPE, HR, HB⟩
              · have HR := Aside0.mk (Kd.R_nil (Kd.int .u8) 5 wr w1.heap.size (fun _ => True))
                by_cases h92 : di = 92
                · rw [h92] at hbi HBYi HDi
                  have hpl := pln_at s i hlti
                  rw [← HDi.out, if_pos rfl] at hpl
                  obtain ⟨p, hpp⟩ : ∃ z, z = i + 1 := ⟨_, rfl⟩
                  have HWp := Aside0.mk (show wrap64 ((i : Int) + 1) = (p : Int) by have := HSZ.out; have := HQ.out; rw [hpp]; unfold wrap64; omega)
                  by_cases hltp : p < s.size
                  · rw [← hpp, if_pos hltp] at hpl
                    have hlIp : (p : Int) < (s.size : Int) := by omega
                    have eltp : decide ((p : Int) < (s.size : Int)) = true := decide_eq_true hlIp
                    have elNp : decide (p < s.size) = true := decide_eq_true hltp
                    have elep : decide ((s.size : Int) ≤ (p : Int)) = false := decide_eq_false (by omega)
                    have elnp : decide (s.size ≤ p) = false := decide_eq_false (by omega)
                    obtain ⟨dp, hdp⟩ : ∃ z, z = bt s (p : Int) := ⟨_, rfl⟩
                    have hbp : ∀ h : p < s.size, ((s[p]'h).toNat : Int) = dp := fun h => by rw [hdp]; exact bt_at s ((p : Nat) : Int) h
                    have hbyp := bt_byte s p hltp
                    rw [← hdp] at hbyp
                    have HDp := Aside0.mk hdp
                    have HBYp := Aside0.mk hbyp
                    clear hdp hbyp
                    obtain ⟨n1, hpn1⟩ : ∃ z, z = p + 1 := ⟨_, rfl⟩
                    have HWn1 := Aside0.mk (show wrap64 ((p : Int) + 1) = (n1 : Int) by have := HSZ.out; have := HQ.out; rw [hpn1]; unfold wrap64; omega)
                    rw [show i + 2 = n1 by omega, ← HDp.out] at hpl
                    have HP := Aside0.mk hpl
                    clear hpl h92
                    obtain ⟨m1, hpm1⟩ : ∃ z, z = n1 + 1 := ⟨_, rfl⟩
                    have HWm1 := Aside0.mk (show wrap64 ((n1 : Int) + 1) = (m1 : Int) by have := HSZ.out; have := HQ.out; rw [hpm1]; unfold wrap64; omega)
                    by_cases hltm1 : m1 < s.size
                    · have hltn1 : n1 < s.size := by omega
                      have hlIm1 : (m1 : Int) < (s.size : Int) := by omega
                      have eltm1 : decide ((m1 : Int) < (s.size : Int)) = true := decide_eq_true hlIm1
                      have elNm1 : decide (m1 < s.size) = true := decide_eq_true hltm1
                      have elem1 : decide ((s.size : Int) ≤ (m1 : Int)) = false := decide_eq_false (by omega)
                      have elnm1 : decide (s.size ≤ m1) = false := decide_eq_false (by omega)
                      obtain ⟨dm1, hdm1⟩ : ∃ z, z = bt s (m1 : Int) := ⟨_, rfl⟩
                      have hbm1 : ∀ h : m1 < s.size, ((s[m1]'h).toNat : Int) = dm1 := fun h => by rw [hdm1]; exact bt_at s ((m1 : Nat) : Int) h
                      have hbym1 := bt_byte s m1 hltm1
                      rw [← hdm1] at hbym1
                      have HDm1 := Aside0.mk hdm1
                      have HBYm1 := Aside0.mk hbym1
                      clear hdm1 hbym1
                      have hlIn1 : (n1 : Int) < (s.size : Int) := by omega
                      have eltn1 : decide ((n1 : Int) < (s.size : Int)) = true := decide_eq_true hlIn1
                      have elNn1 : decide (n1 < s.size) = true := decide_eq_true hltn1
                      have elen1 : decide ((s.size : Int) ≤ (n1 : Int)) = false := decide_eq_false (by omega)
                      have elnn1 : decide (s.size ≤ n1) = false := decide_eq_false (by omega)
                      obtain ⟨dn, hdn1⟩ : ∃ z, z = bt s (n1 : Int) := ⟨_, rfl⟩
                      have hbn1 : ∀ h : n1 < s.size, ((s[n1]'h).toNat : Int) = dn := fun h => by rw [hdn1]; exact bt_at s ((n1 : Nat) : Int) h
                      have hbyn1 := bt_byte s n1 hltn1
                      rw [← hdn1] at hbyn1
                      have HDn1 := Aside0.mk hdn1
                      have HBYn1 := Aside0.mk hbyn1
                      clear hdn1 hbyn1
                      by_cases h45 : dn = 45
                      · rw [h45] at hbn1 HDn1
                        by_cases h93' : dm1 = 93
                        · rw [h93'] at hbm1 HDm1
                          have HDS := Aside0.mk (show dash ((bytesOf s).drop n1) = false by rw [dash_at2]; rw [← hpm1, ← HDm1.out]; simp)
                          have hwp := HWp.out
                          have hwn1 := HWn1.out
                          have hwm1 := HWm1.out
                          have HHpp := Aside0.mk hpp
                          have HHpn1 := Aside0.mk hpn1
                          have HHpm1 := Aside0.mk hpm1
                          clear hpp hpn1 hpm1
                          go_wp2_with (at_builtin; refine Kd.R_append (Kd.int .u8) (w0 := w1) w1.heap.size rfl (.tmp 50) (.tmp 54) 23 5 (.int .u8 0) 1 rfl Try.underlying23 (by kernel_rfl) rfl (by decide) (by omega) _ ([]) dp [.int .u8 dp] (fun _ => True) (fun _ => False) rfl rfl ?aP (fun _ hk => hk.elim) ?aF ?aO ?aB ?aS ?aL ?_; (case aP => exact rfl); (case aF => exact fun _ _ => trivial); (case aO => exact HR.out); (case aB => exact HB.out); (case aS => exact HB.out.size); (case aL => simp); intro v3 w3 ho hb hgr hat; obtain ⟨A3, c3, hv3⟩ := Kd.R_slice ho; have hv3 : v3 = .slice A3 1 c3 := hv3; subst hv3; have HR3 := Aside0.mk ho; have HB3 := Aside0.mk hb; clear ho hb hgr hat)
                          have HX3 := Aside0.mk (blk_below HX.out HB3.out)
                          have HF3 := Aside0.mk (HF.out.trans (Fr.of_below HB3.out))
                          try clear hlIi elti elNi elei elni hbi
                          try clear hlIp eltp elNp elep elnp hbp
                          try clear eltp elNp elep elnp
                          try clear hlIm1 eltm1 elNm1 elem1 elnm1 hbm1
                          try clear eltm1 elNm1 elem1 elnm1
                          try clear hlIn1 eltn1 elNn1 elen1 elnn1 hbn1
                          try clear b93 b93n
                          try clear b92
                          try clear b45
                          try clear h45
                          try clear h92
                          try clear h93'
                          try clear b93'
                          try clear hwp
                          try clear hwn1
                          try clear hwm1
                          obtain ⟨L, hL⟩ : ∃ L : Nat, dp = (L : Int) := ⟨dp.toNat, by have := HBYp.out; omega⟩
                          have HLH := Aside0.mk (show L < 256 by have := HBYp.out; omega)
                          rw [hL] at HP HR3
                          have HG := Aside0.mk ((HC.out).trans (clsL_one HH.out (by rw [HP.out]) (by rw [HP.out]; exact HDS.out)))
                          rw [HP.out] at HG
                          have HG := Aside0.mk (show cls (bytesOf s) = clsL false q (setUp f L 1) (n + 1) ((bytesOf s).drop n1) from HG.out)
                          try clear hL
                          have hwL : wrap64 (L : Int) = (L : Int) := by have := HLH.out; unfold wrap64; omega
                          obtain ⟨A4, c4, hv4, hl4, hC4⟩ := Kd.R_reads HR3.out
                          injection hv4 with q1 q2 q3
                          subst q1
                          obtain ⟨ad, hA, x0⟩ := Kd.at_int hC4 0 (by omega) (by simp)
                          subst hA
                          have x0 : w3.cell? (ad.add 0) = some (.int .u8 (L : Int)) := x0
                          have y0 := Reach.cell x0
                          have x1 : w3.cell? ad = some (.int .u8 (L : Int)) := by cases ad; exact x0
                          have y1 := Reach.cell x1
                          clear hC4 hl4 q2 q3 x0 x1
                          refine region_reach (by kernel_rfl) (by kernel_rfl) ?_
                          repeat (go_big_quiet_step (fail))
                          refine wpQuiet_nil ?_
                          rintro _ ⟨⟨w4, hb⟩, rfl⟩
                          have HX4 := Aside0.mk (blk_below HX3.out hb)
                          have HF4 := Aside0.mk (HF3.out.trans (Fr.of_below hb))
                          clear hb y0 y1
                          try clear y2 y3
                          try simp only [hwL]
                          have HLN := Aside0.mk (show L + 1 = L + 1 from rfl)
                          have HNX := Aside0.mk (show i < n1 ∧ n1 ≤ s.size by have := HHpp.out; have := HHpn1.out; have := HHpm1.out; omega)
                          go_wp2
                          try clear hwL
                          try clear hwH
                          go_loopg [11] 1 (fun kq v11 w' => ∃ (j c' : Nat), v11 = .int .i64 (c' : Int) ∧ Aside0 (j ≤ 1 ∧ kq = 1 - j ∧ c' = L + j) ∧ Aside0 (w'.heap[g]? = some (.cells (cellsR (setUp f L j) m sf c) 58 (0, 0))) ∧ Aside0 (Fr B [58, 5] W w'))
                          case atStart => exact ⟨0, L, rfl, ⟨by omega, by omega, by omega⟩, HX4, HF4⟩
                          case round =>
                            obtain ⟨j, c', rfl, HJ', HXj, HFj⟩ := hrel
                            by_cases hj : j < 1
                            · have e0 : c' ≤ L := by have := HLN.out; have := HJ'.out; omega
                              have e4 : c' < 256 := by have := HLH.out; have := HLN.out; have := HJ'.out; omega
                              have e1 : decide ((c' : Int) ≤ (L : Int)) = true := decide_eq_true (by omega)
                              have e2 : decide (c' ≤ L) = true := decide_eq_true e0
                              have z := blk_frozen HXj.out c'
                              have HJ2 := Aside0.mk hj
                              have c0 := cellsR_at HXj.out c' (by rw [setUp_length, HFL.out]; omega)
                              have hxk := cellsR_put HXj.out c' (by rw [setUp_length, HFL.out]; omega) true
                              rw [show (setUp f L j).set c' true = setUp f L (j + 1) by rw [HJ'.out.2.2]; rfl] at hxk
                              have HXk := Aside0.mk hxk
                              have HFk := Aside0.mk (HFj.out.trans ((Fr.refl B [58, 5] wr).set HXj.out HBG.out (by simp) c' (.bool true)))
                              have hw3 : wrap64 ((c' : Int) + 1) = ((c' + 1 : Nat) : Int) := by unfold wrap64; omega
                              clear hxk hj
                              go_wp2
                              go_roundg (1 - (j + 1))
                              case measure => have := HJ'.out; have := HJ2.out; omega
                              case rel => exact ⟨j + 1, c' + 1, by first | rfl | (rw [hw3]; done) | (rw [hw3]; rfl) | simp, ⟨by have := HJ2.out; omega, rfl, by have := HJ'.out; omega⟩, HXk, HFk⟩
                            · have hje : 1 = j := by have := HJ'.out; omega
                              subst hje
                              have e0 : ¬ c' ≤ L := by have := HLN.out; have := HJ'.out; omega
                              have e1 : decide ((c' : Int) ≤ (L : Int)) = false := decide_eq_false (by omega)
                              have e2 : decide (c' ≤ L) = false := decide_eq_false e0
                              have hwn : wrap64 ((n : Int) + 1) = ((n + 1 : Nat) : Int) := by have := HQ.out; have := HSZ.out; unfold wrap64; omega
                              go_wp2
                              go_roundg (s.size + 1 - n1)
                              case measure => have := HQ.out; have := HNX.out; omega
                              case rel => exact ⟨q, setUp f L 1, n + 1, n1, rfl, by first | rfl | (rw [hwn]; done) | (rw [hwn]; rfl) | simp, ⟨rfl, by have := HQ.out; have := HNX.out; omega, by have := HNX.out; omega, by have := HQ.out; have := HNX.out; omega⟩, ⟨by rw [setUp_length]; exact HFL.out⟩, HG, HXj, HFj⟩
                        · have b93' : (dm1 == 93) = false := beq_eq_false_iff_ne.mpr h93'
                          have HDS := Aside0.mk (show dash ((bytesOf s).drop n1) = true by rw [dash_at2, ← hpm1, ← HDm1.out, ← HDn1.out]; simp [hltm1, h93'])
                          have hwp := HWp.out
                          have hwn1 := HWn1.out
                          have hwm1 := HWm1.out
                          have HHpp := Aside0.mk hpp
                          have HHpn1 := Aside0.mk hpn1
                          have HHpm1 := Aside0.mk hpm1
                          clear hpp hpn1 hpm1
                          go_wp2_with (at_builtin; refine Kd.R_append (Kd.int .u8) (w0 := w1) w1.heap.size rfl (.tmp 50) (.tmp 54) 23 5 (.int .u8 0) 1 rfl Try.underlying23 (by kernel_rfl) rfl (by decide) (by omega) _ ([]) dp [.int .u8 dp] (fun _ => True) (fun _ => False) rfl rfl ?aP (fun _ hk => hk.elim) ?aF ?aO ?aB ?aS ?aL ?_; (case aP => exact rfl); (case aF => exact fun _ _ => trivial); (case aO => exact HR.out); (case aB => exact HB.out); (case aS => exact HB.out.size); (case aL => simp); intro v3 w3 ho hb hgr hat; obtain ⟨A3, c3, hv3⟩ := Kd.R_slice ho; have hv3 : v3 = .slice A3 1 c3 := hv3; subst hv3; have HR3 := Aside0.mk ho; have HB3 := Aside0.mk hb; clear ho hb hgr hat)
                          go_roundg 2
                          case measure => have := HKQ.out; omega
                          case rel => exact .inr (.inl ⟨dp, n1, m1, A3, c3, by first | rfl | (rw [HWm1.out]; done) | simp, rfl, ⟨rfl, HHpm1.out, by omega, by have := HHpp.out; have := HHpn1.out; have := HHpm1.out; omega, HBYp.out.1, HBYp.out.2⟩, HP, HDS, HR3, HB3⟩)
                      · have b45 : (dn == 45) = false := beq_eq_false_iff_ne.mpr h45
                        have HDS := Aside0.mk (show dash ((bytesOf s).drop n1) = false by rw [dash_at2]; rw [← HDn1.out, b45]; simp)
                        have hwp := HWp.out
                        have hwn1 := HWn1.out
                        have hwm1 := HWm1.out
                        have HHpp := Aside0.mk hpp
                        have HHpn1 := Aside0.mk hpn1
                        have HHpm1 := Aside0.mk hpm1
                        clear hpp hpn1 hpm1
                        go_wp2_with (at_builtin; refine Kd.R_append (Kd.int .u8) (w0 := w1) w1.heap.size rfl (.tmp 50) (.tmp 54) 23 5 (.int .u8 0) 1 rfl Try.underlying23 (by kernel_rfl) rfl (by decide) (by omega) _ ([]) dp [.int .u8 dp] (fun _ => True) (fun _ => False) rfl rfl ?aP (fun _ hk => hk.elim) ?aF ?aO ?aB ?aS ?aL ?_; (case aP => exact rfl); (case aF => exact fun _ _ => trivial); (case aO => exact HR.out); (case aB => exact HB.out); (case aS => exact HB.out.size); (case aL => simp); intro v3 w3 ho hb hgr hat; obtain ⟨A3, c3, hv3⟩ := Kd.R_slice ho; have hv3 : v3 = .slice A3 1 c3 := hv3; subst hv3; have HR3 := Aside0.mk ho; have HB3 := Aside0.mk hb; clear ho hb hgr hat)
                        have HX3 := Aside0.mk (blk_below HX.out HB3.out)
                        have HF3 := Aside0.mk (HF.out.trans (Fr.of_below HB3.out))
                        try clear hlIi elti elNi elei elni hbi
                        try clear hlIp eltp elNp elep elnp hbp
                        try clear eltp elNp elep elnp
                        try clear hlIm1 eltm1 elNm1 elem1 elnm1 hbm1
                        try clear eltm1 elNm1 elem1 elnm1
                        try clear hlIn1 eltn1 elNn1 elen1 elnn1 hbn1
                        try clear b93 b93n
                        try clear b92
                        try clear b45
                        try clear h45
                        try clear h92
                        try clear h93'
                        try clear b93'
                        try clear hwp
                        try clear hwn1
                        try clear hwm1
                        obtain ⟨L, hL⟩ : ∃ L : Nat, dp = (L : Int) := ⟨dp.toNat, by have := HBYp.out; omega⟩
                        have HLH := Aside0.mk (show L < 256 by have := HBYp.out; omega)
                        rw [hL] at HP HR3
                        have HG := Aside0.mk ((HC.out).trans (clsL_one HH.out (by rw [HP.out]) (by rw [HP.out]; exact HDS.out)))
                        rw [HP.out] at HG
                        have HG := Aside0.mk (show cls (bytesOf s) = clsL false q (setUp f L 1) (n + 1) ((bytesOf s).drop n1) from HG.out)
                        try clear hL
                        have hwL : wrap64 (L : Int) = (L : Int) := by have := HLH.out; unfold wrap64; omega
                        obtain ⟨A4, c4, hv4, hl4, hC4⟩ := Kd.R_reads HR3.out
                        injection hv4 with q1 q2 q3
                        subst q1
                        obtain ⟨ad, hA, x0⟩ := Kd.at_int hC4 0 (by omega) (by simp)
                        subst hA
                        have x0 : w3.cell? (ad.add 0) = some (.int .u8 (L : Int)) := x0
                        have y0 := Reach.cell x0
                        have x1 : w3.cell? ad = some (.int .u8 (L : Int)) := by cases ad; exact x0
                        have y1 := Reach.cell x1
                        clear hC4 hl4 q2 q3 x0 x1
                        refine region_reach (by kernel_rfl) (by kernel_rfl) ?_
                        repeat (go_big_quiet_step (fail))
                        refine wpQuiet_nil ?_
                        rintro _ ⟨⟨w4, hb⟩, rfl⟩
                        have HX4 := Aside0.mk (blk_below HX3.out hb)
                        have HF4 := Aside0.mk (HF3.out.trans (Fr.of_below hb))
                        clear hb y0 y1
                        try clear y2 y3
                        try simp only [hwL]
                        have HLN := Aside0.mk (show L + 1 = L + 1 from rfl)
                        have HNX := Aside0.mk (show i < n1 ∧ n1 ≤ s.size by have := HHpp.out; have := HHpn1.out; have := HHpm1.out; omega)
                        go_wp2
                        try clear hwL
                        try clear hwH
                        go_loopg [11] 1 (fun kq v11 w' => ∃ (j c' : Nat), v11 = .int .i64 (c' : Int) ∧ Aside0 (j ≤ 1 ∧ kq = 1 - j ∧ c' = L + j) ∧ Aside0 (w'.heap[g]? = some (.cells (cellsR (setUp f L j) m sf c) 58 (0, 0))) ∧ Aside0 (Fr B [58, 5] W w'))
                        case atStart => exact ⟨0, L, rfl, ⟨by omega, by omega, by omega⟩, HX4, HF4⟩
                        case round =>
                          obtain ⟨j, c', rfl, HJ', HXj, HFj⟩ := hrel
                          by_cases hj : j < 1
                          · have e0 : c' ≤ L := by have := HLN.out; have := HJ'.out; omega
                            have e4 : c' < 256 := by have := HLH.out; have := HLN.out; have := HJ'.out; omega
                            have e1 : decide ((c' : Int) ≤ (L : Int)) = true := decide_eq_true (by omega)
                            have e2 : decide (c' ≤ L) = true := decide_eq_true e0
                            have z := blk_frozen HXj.out c'
                            have HJ2 := Aside0.mk hj
                            have c0 := cellsR_at HXj.out c' (by rw [setUp_length, HFL.out]; omega)
                            have hxk := cellsR_put HXj.out c' (by rw [setUp_length, HFL.out]; omega) true
                            rw [show (setUp f L j).set c' true = setUp f L (j + 1) by rw [HJ'.out.2.2]; rfl] at hxk
                            have HXk := Aside0.mk hxk
                            have HFk := Aside0.mk (HFj.out.trans ((Fr.refl B [58, 5] wr).set HXj.out HBG.out (by simp) c' (.bool true)))
                            have hw3 : wrap64 ((c' : Int) + 1) = ((c' + 1 : Nat) : Int) := by unfold wrap64; omega
                            clear hxk hj
                            go_wp2
                            go_roundg (1 - (j + 1))
                            case measure => have := HJ'.out; have := HJ2.out; omega
                            case rel => exact ⟨j + 1, c' + 1, by first | rfl | (rw [hw3]; done) | (rw [hw3]; rfl) | simp, ⟨by have := HJ2.out; omega, rfl, by have := HJ'.out; omega⟩, HXk, HFk⟩
                          · have hje : 1 = j := by have := HJ'.out; omega
                            subst hje
                            have e0 : ¬ c' ≤ L := by have := HLN.out; have := HJ'.out; omega
                            have e1 : decide ((c' : Int) ≤ (L : Int)) = false := decide_eq_false (by omega)
                            have e2 : decide (c' ≤ L) = false := decide_eq_false e0
                            have hwn : wrap64 ((n : Int) + 1) = ((n + 1 : Nat) : Int) := by have := HQ.out; have := HSZ.out; unfold wrap64; omega
                            go_wp2
                            go_roundg (s.size + 1 - n1)
                            case measure => have := HQ.out; have := HNX.out; omega
                            case rel => exact ⟨q, setUp f L 1, n + 1, n1, rfl, by first | rfl | (rw [hwn]; done) | (rw [hwn]; rfl) | simp, ⟨rfl, by have := HQ.out; have := HNX.out; omega, by have := HNX.out; omega, by have := HQ.out; have := HNX.out; omega⟩, ⟨by rw [setUp_length]; exact HFL.out⟩, HG, HXj, HFj⟩
                    · skip
                      have eltm1 : decide ((m1 : Int) < (s.size : Int)) = false := decide_eq_false (by omega)
                      have elNm1 : decide (m1 < s.size) = false := decide_eq_false (by omega)
                      have elem1 : decide ((s.size : Int) ≤ (m1 : Int)) = true := decide_eq_true (by omega)
                      have elnm1 : decide (s.size ≤ m1) = true := decide_eq_true (by omega)
                      have HDS := Aside0.mk (show dash ((bytesOf s).drop n1) = false by rw [dash_at2]; rw [← hpm1, decide_eq_false (show ¬ m1 < s.size by omega)]; rfl)
                      have hwp := HWp.out
                      have hwn1 := HWn1.out
                      have hwm1 := HWm1.out
                      have HHpp := Aside0.mk hpp
                      have HHpn1 := Aside0.mk hpn1
                      have HHpm1 := Aside0.mk hpm1
                      clear hpp hpn1 hpm1
                      go_wp2_with (at_builtin; refine Kd.R_append (Kd.int .u8) (w0 := w1) w1.heap.size rfl (.tmp 50) (.tmp 54) 23 5 (.int .u8 0) 1 rfl Try.underlying23 (by kernel_rfl) rfl (by decide) (by omega) _ ([]) dp [.int .u8 dp] (fun _ => True) (fun _ => False) rfl rfl ?aP (fun _ hk => hk.elim) ?aF ?aO ?aB ?aS ?aL ?_; (case aP => exact rfl); (case aF => exact fun _ _ => trivial); (case aO => exact HR.out); (case aB => exact HB.out); (case aS => exact HB.out.size); (case aL => simp); intro v3 w3 ho hb hgr hat; obtain ⟨A3, c3, hv3⟩ := Kd.R_slice ho; have hv3 : v3 = .slice A3 1 c3 := hv3; subst hv3; have HR3 := Aside0.mk ho; have HB3 := Aside0.mk hb; clear ho hb hgr hat)
                      have HX3 := Aside0.mk (blk_below HX.out HB3.out)
                      have HF3 := Aside0.mk (HF.out.trans (Fr.of_below HB3.out))
                      try clear hlIi elti elNi elei elni hbi
                      try clear hlIp eltp elNp elep elnp hbp
                      try clear eltp elNp elep elnp
                      try clear hlIm1 eltm1 elNm1 elem1 elnm1 hbm1
                      try clear eltm1 elNm1 elem1 elnm1
                      try clear hlIn1 eltn1 elNn1 elen1 elnn1 hbn1
                      try clear b93 b93n
                      try clear b92
                      try clear b45
                      try clear h45
                      try clear h92
                      try clear h93'
                      try clear b93'
                      try clear hwp
                      try clear hwn1
                      try clear hwm1
                      obtain ⟨L, hL⟩ : ∃ L : Nat, dp = (L : Int) := ⟨dp.toNat, by have := HBYp.out; omega⟩
                      have HLH := Aside0.mk (show L < 256 by have := HBYp.out; omega)
                      rw [hL] at HP HR3
                      have HG := Aside0.mk ((HC.out).trans (clsL_one HH.out (by rw [HP.out]) (by rw [HP.out]; exact HDS.out)))
                      rw [HP.out] at HG
                      have HG := Aside0.mk (show cls (bytesOf s) = clsL false q (setUp f L 1) (n + 1) ((bytesOf s).drop n1) from HG.out)
                      try clear hL
                      have hwL : wrap64 (L : Int) = (L : Int) := by have := HLH.out; unfold wrap64; omega
                      obtain ⟨A4, c4, hv4, hl4, hC4⟩ := Kd.R_reads HR3.out
                      injection hv4 with q1 q2 q3
                      subst q1
                      obtain ⟨ad, hA, x0⟩ := Kd.at_int hC4 0 (by omega) (by simp)
                      subst hA
                      have x0 : w3.cell? (ad.add 0) = some (.int .u8 (L : Int)) := x0
                      have y0 := Reach.cell x0
                      have x1 : w3.cell? ad = some (.int .u8 (L : Int)) := by cases ad; exact x0
                      have y1 := Reach.cell x1
                      clear hC4 hl4 q2 q3 x0 x1
                      refine region_reach (by kernel_rfl) (by kernel_rfl) ?_
                      repeat (go_big_quiet_step (fail))
                      refine wpQuiet_nil ?_
                      rintro _ ⟨⟨w4, hb⟩, rfl⟩
                      have HX4 := Aside0.mk (blk_below HX3.out hb)
                      have HF4 := Aside0.mk (HF3.out.trans (Fr.of_below hb))
                      clear hb y0 y1
                      try clear y2 y3
                      try simp only [hwL]
                      have HLN := Aside0.mk (show L + 1 = L + 1 from rfl)
                      have HNX := Aside0.mk (show i < n1 ∧ n1 ≤ s.size by have := HHpp.out; have := HHpn1.out; have := HHpm1.out; omega)
                      go_wp2
                      try clear hwL
                      try clear hwH
                      go_loopg [11] 1 (fun kq v11 w' => ∃ (j c' : Nat), v11 = .int .i64 (c' : Int) ∧ Aside0 (j ≤ 1 ∧ kq = 1 - j ∧ c' = L + j) ∧ Aside0 (w'.heap[g]? = some (.cells (cellsR (setUp f L j) m sf c) 58 (0, 0))) ∧ Aside0 (Fr B [58, 5] W w'))
                      case atStart => exact ⟨0, L, rfl, ⟨by omega, by omega, by omega⟩, HX4, HF4⟩
                      case round =>
                        obtain ⟨j, c', rfl, HJ', HXj, HFj⟩ := hrel
                        by_cases hj : j < 1
                        · have e0 : c' ≤ L := by have := HLN.out; have := HJ'.out; omega
                          have e4 : c' < 256 := by have := HLH.out; have := HLN.out; have := HJ'.out; omega
                          have e1 : decide ((c' : Int) ≤ (L : Int)) = true := decide_eq_true (by omega)
                          have e2 : decide (c' ≤ L) = true := decide_eq_true e0
                          have z := blk_frozen HXj.out c'
                          have HJ2 := Aside0.mk hj
                          have c0 := cellsR_at HXj.out c' (by rw [setUp_length, HFL.out]; omega)
                          have hxk := cellsR_put HXj.out c' (by rw [setUp_length, HFL.out]; omega) true
                          rw [show (setUp f L j).set c' true = setUp f L (j + 1) by rw [HJ'.out.2.2]; rfl] at hxk
                          have HXk := Aside0.mk hxk
                          have HFk := Aside0.mk (HFj.out.trans ((Fr.refl B [58, 5] wr).set HXj.out HBG.out (by simp) c' (.bool true)))
                          have hw3 : wrap64 ((c' : Int) + 1) = ((c' + 1 : Nat) : Int) := by unfold wrap64; omega
                          clear hxk hj
                          go_wp2
                          go_roundg (1 - (j + 1))
                          case measure => have := HJ'.out; have := HJ2.out; omega
                          case rel => exact ⟨j + 1, c' + 1, by first | rfl | (rw [hw3]; done) | (rw [hw3]; rfl) | simp, ⟨by have := HJ2.out; omega, rfl, by have := HJ'.out; omega⟩, HXk, HFk⟩
                        · have hje : 1 = j := by have := HJ'.out; omega
                          subst hje
                          have e0 : ¬ c' ≤ L := by have := HLN.out; have := HJ'.out; omega
                          have e1 : decide ((c' : Int) ≤ (L : Int)) = false := decide_eq_false (by omega)
                          have e2 : decide (c' ≤ L) = false := decide_eq_false e0
                          have hwn : wrap64 ((n : Int) + 1) = ((n + 1 : Nat) : Int) := by have := HQ.out; have := HSZ.out; unfold wrap64; omega
                          go_wp2
                          go_roundg (s.size + 1 - n1)
                          case measure => have := HQ.out; have := HNX.out; omega
                          case rel => exact ⟨q, setUp f L 1, n + 1, n1, rfl, by first | rfl | (rw [hwn]; done) | (rw [hwn]; rfl) | simp, ⟨rfl, by have := HQ.out; have := HNX.out; omega, by have := HNX.out; omega, by have := HQ.out; have := HNX.out; omega⟩, ⟨by rw [setUp_length]; exact HFL.out⟩, HG, HXj, HFj⟩
                  · rw [← hpp, if_neg hltp] at hpl
                    have eltp : decide ((p : Int) < (s.size : Int)) = false := decide_eq_false (by omega)
                    have elNp : decide (p < s.size) = false := decide_eq_false (by omega)
                    have elep : decide ((s.size : Int) ≤ (p : Int)) = true := decide_eq_true (by omega)
                    have elnp : decide (s.size ≤ p) = true := decide_eq_true (by omega)
                    have HG := Aside0.mk ((HC.out).trans (clsL_bad HH.out (by rw [hpl])))
                    have HX3 := Aside0.mk (blk_below HX.out HB.out)
                    have HF3 := Aside0.mk (HF.out.trans (Fr.of_below HB.out))
                    have hwp := HWp.out
                    have HHpp := Aside0.mk hpp
                    clear hpp
                    go_wp2
                    go_ret
                    refine ⟨HF3.out, ?_⟩
                    rw [HG.out]
                    exact ⟨rfl, _, HFL.out, HX3.out⟩
                · have b92 : (di == 92) = false := beq_eq_false_iff_ne.mpr h92
                  have hpl := pln_at s i hlti
                  rw [← HDi.out, if_neg h92] at hpl
                  obtain ⟨n1, hpn1⟩ : ∃ z, z = i + 1 := ⟨_, rfl⟩
                  have HWn1 := Aside0.mk (show wrap64 ((i : Int) + 1) = (n1 : Int) by have := HSZ.out; have := HQ.out; rw [hpn1]; unfold wrap64; omega)
                  rw [← hpn1] at hpl
                  have HP := Aside0.mk hpl
                  clear hpl
                  obtain ⟨m1, hpm1⟩ : ∃ z, z = n1 + 1 := ⟨_, rfl⟩
                  have HWm1 := Aside0.mk (show wrap64 ((n1 : Int) + 1) = (m1 : Int) by have := HSZ.out; have := HQ.out; rw [hpm1]; unfold wrap64; omega)
                  by_cases hltm1 : m1 < s.size
                  · have hltn1 : n1 < s.size := by omega
                    have hlIm1 : (m1 : Int) < (s.size : Int) := by omega
                    have eltm1 : decide ((m1 : Int) < (s.size : Int)) = true := decide_eq_true hlIm1
                    have elNm1 : decide (m1 < s.size) = true := decide_eq_true hltm1
                    have elem1 : decide ((s.size : Int) ≤ (m1 : Int)) = false := decide_eq_false (by omega)
                    have elnm1 : decide (s.size ≤ m1) = false := decide_eq_false (by omega)
                    obtain ⟨dm1, hdm1⟩ : ∃ z, z = bt s (m1 : Int) := ⟨_, rfl⟩
                    have hbm1 : ∀ h : m1 < s.size, ((s[m1]'h).toNat : Int) = dm1 := fun h => by rw [hdm1]; exact bt_at s ((m1 : Nat) : Int) h
                    have hbym1 := bt_byte s m1 hltm1
                    rw [← hdm1] at hbym1
                    have HDm1 := Aside0.mk hdm1
                    have HBYm1 := Aside0.mk hbym1
                    clear hdm1 hbym1
                    have hlIn1 : (n1 : Int) < (s.size : Int) := by omega
                    have eltn1 : decide ((n1 : Int) < (s.size : Int)) = true := decide_eq_true hlIn1
                    have elNn1 : decide (n1 < s.size) = true := decide_eq_true hltn1
                    have elen1 : decide ((s.size : Int) ≤ (n1 : Int)) = false := decide_eq_false (by omega)
                    have elnn1 : decide (s.size ≤ n1) = false := decide_eq_false (by omega)
                    obtain ⟨dn, hdn1⟩ : ∃ z, z = bt s (n1 : Int) := ⟨_, rfl⟩
                    have hbn1 : ∀ h : n1 < s.size, ((s[n1]'h).toNat : Int) = dn := fun h => by rw [hdn1]; exact bt_at s ((n1 : Nat) : Int) h
                    have hbyn1 := bt_byte s n1 hltn1
                    rw [← hdn1] at hbyn1
                    have HDn1 := Aside0.mk hdn1
                    have HBYn1 := Aside0.mk hbyn1
                    clear hdn1 hbyn1
                    by_cases h45 : dn = 45
                    · rw [h45] at hbn1 HDn1
                      by_cases h93' : dm1 = 93
                      · rw [h93'] at hbm1 HDm1
                        have HDS := Aside0.mk (show dash ((bytesOf s).drop n1) = false by rw [dash_at2]; rw [← hpm1, ← HDm1.out]; simp)
                        have hwn1 := HWn1.out
                        have hwm1 := HWm1.out
                        have HHpn1 := Aside0.mk hpn1
                        have HHpm1 := Aside0.mk hpm1
                        clear hpn1 hpm1
                        go_wp2_with (at_builtin; refine Kd.R_append (Kd.int .u8) (w0 := w1) w1.heap.size rfl (.tmp 50) (.tmp 54) 23 5 (.int .u8 0) 1 rfl Try.underlying23 (by kernel_rfl) rfl (by decide) (by omega) _ ([]) di [.int .u8 di] (fun _ => True) (fun _ => False) rfl rfl ?aP (fun _ hk => hk.elim) ?aF ?aO ?aB ?aS ?aL ?_; (case aP => exact rfl); (case aF => exact fun _ _ => trivial); (case aO => exact HR.out); (case aB => exact HB.out); (case aS => exact HB.out.size); (case aL => simp); intro v3 w3 ho hb hgr hat; obtain ⟨A3, c3, hv3⟩ := Kd.R_slice ho; have hv3 : v3 = .slice A3 1 c3 := hv3; subst hv3; have HR3 := Aside0.mk ho; have HB3 := Aside0.mk hb; clear ho hb hgr hat)
                        have HX3 := Aside0.mk (blk_below HX.out HB3.out)
                        have HF3 := Aside0.mk (HF.out.trans (Fr.of_below HB3.out))
                        try clear hlIi elti elNi elei elni hbi
                        try clear hlIp eltp elNp elep elnp hbp
                        try clear eltp elNp elep elnp
                        try clear hlIm1 eltm1 elNm1 elem1 elnm1 hbm1
                        try clear eltm1 elNm1 elem1 elnm1
                        try clear hlIn1 eltn1 elNn1 elen1 elnn1 hbn1
                        try clear b93 b93n
                        try clear b92
                        try clear b45
                        try clear h45
                        try clear h92
                        try clear h93'
                        try clear b93'
                        try clear hwn1
                        try clear hwm1
                        obtain ⟨L, hL⟩ : ∃ L : Nat, di = (L : Int) := ⟨di.toNat, by have := HBYi.out; omega⟩
                        have HLH := Aside0.mk (show L < 256 by have := HBYi.out; omega)
                        rw [hL] at HP HR3
                        have HG := Aside0.mk ((HC.out).trans (clsL_one HH.out (by rw [HP.out]) (by rw [HP.out]; exact HDS.out)))
                        rw [HP.out] at HG
                        have HG := Aside0.mk (show cls (bytesOf s) = clsL false q (setUp f L 1) (n + 1) ((bytesOf s).drop n1) from HG.out)
                        try clear hL
                        have hwL : wrap64 (L : Int) = (L : Int) := by have := HLH.out; unfold wrap64; omega
                        obtain ⟨A4, c4, hv4, hl4, hC4⟩ := Kd.R_reads HR3.out
                        injection hv4 with q1 q2 q3
                        subst q1
                        obtain ⟨ad, hA, x0⟩ := Kd.at_int hC4 0 (by omega) (by simp)
                        subst hA
                        have x0 : w3.cell? (ad.add 0) = some (.int .u8 (L : Int)) := x0
                        have y0 := Reach.cell x0
                        have x1 : w3.cell? ad = some (.int .u8 (L : Int)) := by cases ad; exact x0
                        have y1 := Reach.cell x1
                        clear hC4 hl4 q2 q3 x0 x1
                        refine region_reach (by kernel_rfl) (by kernel_rfl) ?_
                        repeat (go_big_quiet_step (fail))
                        refine wpQuiet_nil ?_
                        rintro _ ⟨⟨w4, hb⟩, rfl⟩
                        have HX4 := Aside0.mk (blk_below HX3.out hb)
                        have HF4 := Aside0.mk (HF3.out.trans (Fr.of_below hb))
                        clear hb y0 y1
                        try clear y2 y3
                        try simp only [hwL]
                        have HLN := Aside0.mk (show L + 1 = L + 1 from rfl)
                        have HNX := Aside0.mk (show i < n1 ∧ n1 ≤ s.size by have := HHpn1.out; have := HHpm1.out; omega)
                        go_wp2
                        try clear hwL
                        try clear hwH
                        go_loopg [11] 1 (fun kq v11 w' => ∃ (j c' : Nat), v11 = .int .i64 (c' : Int) ∧ Aside0 (j ≤ 1 ∧ kq = 1 - j ∧ c' = L + j) ∧ Aside0 (w'.heap[g]? = some (.cells (cellsR (setUp f L j) m sf c) 58 (0, 0))) ∧ Aside0 (Fr B [58, 5] W w'))
                        case atStart => exact ⟨0, L, rfl, ⟨by omega, by omega, by omega⟩, HX4, HF4⟩
                        case round =>
                          obtain ⟨j, c', rfl, HJ', HXj, HFj⟩ := hrel
                          by_cases hj : j < 1
                          · have e0 : c' ≤ L := by have := HLN.out; have := HJ'.out; omega
                            have e4 : c' < 256 := by have := HLH.out; have := HLN.out; have := HJ'.out; omega
                            have e1 : decide ((c' : Int) ≤ (L : Int)) = true := decide_eq_true (by omega)
                            have e2 : decide (c' ≤ L) = true := decide_eq_true e0
                            have z := blk_frozen HXj.out c'
                            have HJ2 := Aside0.mk hj
                            have c0 := cellsR_at HXj.out c' (by rw [setUp_length, HFL.out]; omega)
                            have hxk := cellsR_put HXj.out c' (by rw [setUp_length, HFL.out]; omega) true
                            rw [show (setUp f L j).set c' true = setUp f L (j + 1) by rw [HJ'.out.2.2]; rfl] at hxk
                            have HXk := Aside0.mk hxk
                            have HFk := Aside0.mk (HFj.out.trans ((Fr.refl B [58, 5] wr).set HXj.out HBG.out (by simp) c' (.bool true)))
                            have hw3 : wrap64 ((c' : Int) + 1) = ((c' + 1 : Nat) : Int) := by unfold wrap64; omega
                            clear hxk hj
                            go_wp2
                            go_roundg (1 - (j + 1))
                            case measure => have := HJ'.out; have := HJ2.out; omega
                            case rel => exact ⟨j + 1, c' + 1, by first | rfl | (rw [hw3]; done) | (rw [hw3]; rfl) | simp, ⟨by have := HJ2.out; omega, rfl, by have := HJ'.out; omega⟩, HXk, HFk⟩
                          · have hje : 1 = j := by have := HJ'.out; omega
                            subst hje
                            have e0 : ¬ c' ≤ L := by have := HLN.out; have := HJ'.out; omega
                            have e1 : decide ((c' : Int) ≤ (L : Int)) = false := decide_eq_false (by omega)
                            have e2 : decide (c' ≤ L) = false := decide_eq_false e0
                            have hwn : wrap64 ((n : Int) + 1) = ((n + 1 : Nat) : Int) := by have := HQ.out; have := HSZ.out; unfold wrap64; omega
                            go_wp2
                            go_roundg (s.size + 1 - n1)
                            case measure => have := HQ.out; have := HNX.out; omega
                            case rel => exact ⟨q, setUp f L 1, n + 1, n1, rfl, by first | rfl | (rw [hwn]; done) | (rw [hwn]; rfl) | simp, ⟨rfl, by have := HQ.out; have := HNX.out; omega, by have := HNX.out; omega, by have := HQ.out; have := HNX.out; omega⟩, ⟨by rw [setUp_length]; exact HFL.out⟩, HG, HXj, HFj⟩
                      · have b93' : (dm1 == 93) = false := beq_eq_false_iff_ne.mpr h93'
                        have HDS := Aside0.mk (show dash ((bytesOf s).drop n1) = true by rw [dash_at2, ← hpm1, ← HDm1.out, ← HDn1.out]; simp [hltm1, h93'])
                        have hwn1 := HWn1.out
                        have hwm1 := HWm1.out
                        have HHpn1 := Aside0.mk hpn1
                        have HHpm1 := Aside0.mk hpm1
                        clear hpn1 hpm1
                        go_wp2_with (at_builtin; refine Kd.R_append (Kd.int .u8) (w0 := w1) w1.heap.size rfl (.tmp 50) (.tmp 54) 23 5 (.int .u8 0) 1 rfl Try.underlying23 (by kernel_rfl) rfl (by decide) (by omega) _ ([]) di [.int .u8 di] (fun _ => True) (fun _ => False) rfl rfl ?aP (fun _ hk => hk.elim) ?aF ?aO ?aB ?aS ?aL ?_; (case aP => exact rfl); (case aF => exact fun _ _ => trivial); (case aO => exact HR.out); (case aB => exact HB.out); (case aS => exact HB.out.size); (case aL => simp); intro v3 w3 ho hb hgr hat; obtain ⟨A3, c3, hv3⟩ := Kd.R_slice ho; have hv3 : v3 = .slice A3 1 c3 := hv3; subst hv3; have HR3 := Aside0.mk ho; have HB3 := Aside0.mk hb; clear ho hb hgr hat)
                        go_roundg 2
                        case measure => have := HKQ.out; omega
                        case rel => exact .inr (.inl ⟨di, n1, m1, A3, c3, by first | rfl | (rw [HWm1.out]; done) | simp, rfl, ⟨rfl, HHpm1.out, by omega, by have := HHpn1.out; have := HHpm1.out; omega, HBYi.out.1, HBYi.out.2⟩, HP, HDS, HR3, HB3⟩)
                    · have b45 : (dn == 45) = false := beq_eq_false_iff_ne.mpr h45
                      have HDS := Aside0.mk (show dash ((bytesOf s).drop n1) = false by rw [dash_at2]; rw [← HDn1.out, b45]; simp)
                      have hwn1 := HWn1.out
                      have hwm1 := HWm1.out
                      have HHpn1 := Aside0.mk hpn1
                      have HHpm1 := Aside0.mk hpm1
                      clear hpn1 hpm1
                      go_wp2_with (at_builtin; refine Kd.R_append (Kd.int .u8) (w0 := w1) w1.heap.size rfl (.tmp 50) (.tmp 54) 23 5 (.int .u8 0) 1 rfl Try.underlying23 (by kernel_rfl) rfl (by decide) (by omega) _ ([]) di [.int .u8 di] (fun _ => True) (fun _ => False) rfl rfl ?aP (fun _ hk => hk.elim) ?aF ?aO ?aB ?aS ?aL ?_; (case aP => exact rfl); (case aF => exact fun _ _ => trivial); (case aO => exact HR.out); (case aB => exact HB.out); (case aS => exact HB.out.size); (case aL => simp); intro v3 w3 ho hb hgr hat; obtain ⟨A3, c3, hv3⟩ := Kd.R_slice ho; have hv3 : v3 = .slice A3 1 c3 := hv3; subst hv3; have HR3 := Aside0.mk ho; have HB3 := Aside0.mk hb; clear ho hb hgr hat)
                      have HX3 := Aside0.mk (blk_below HX.out HB3.out)
                      have HF3 := Aside0.mk (HF.out.trans (Fr.of_below HB3.out))
                      try clear hlIi elti elNi elei elni hbi
                      try clear hlIp eltp elNp elep elnp hbp
                      try clear eltp elNp elep elnp
                      try clear hlIm1 eltm1 elNm1 elem1 elnm1 hbm1
                      try clear eltm1 elNm1 elem1 elnm1
                      try clear hlIn1 eltn1 elNn1 elen1 elnn1 hbn1
                      try clear b93 b93n
                      try clear b92
                      try clear b45
                      try clear h45
                      try clear h92
                      try clear h93'
                      try clear b93'
                      try clear hwn1
                      try clear hwm1
                      obtain ⟨L, hL⟩ : ∃ L : Nat, di = (L : Int) := ⟨di.toNat, by have := HBYi.out; omega⟩
                      have HLH := Aside0.mk (show L < 256 by have := HBYi.out; omega)
                      rw [hL] at HP HR3
                      have HG := Aside0.mk ((HC.out).trans (clsL_one HH.out (by rw [HP.out]) (by rw [HP.out]; exact HDS.out)))
                      rw [HP.out] at HG
                      have HG := Aside0.mk (show cls (bytesOf s) = clsL false q (setUp f L 1) (n + 1) ((bytesOf s).drop n1) from HG.out)
                      try clear hL
                      have hwL : wrap64 (L : Int) = (L : Int) := by have := HLH.out; unfold wrap64; omega
                      obtain ⟨A4, c4, hv4, hl4, hC4⟩ := Kd.R_reads HR3.out
                      injection hv4 with q1 q2 q3
                      subst q1
                      obtain ⟨ad, hA, x0⟩ := Kd.at_int hC4 0 (by omega) (by simp)
                      subst hA
                      have x0 : w3.cell? (ad.add 0) = some (.int .u8 (L : Int)) := x0
                      have y0 := Reach.cell x0
                      have x1 : w3.cell? ad = some (.int .u8 (L : Int)) := by cases ad; exact x0
                      have y1 := Reach.cell x1
                      clear hC4 hl4 q2 q3 x0 x1
                      refine region_reach (by kernel_rfl) (by kernel_rfl) ?_
                      repeat (go_big_quiet_step (fail))
                      refine wpQuiet_nil ?_
                      rintro _ ⟨⟨w4, hb⟩, rfl⟩
                      have HX4 := Aside0.mk (blk_below HX3.out hb)
                      have HF4 := Aside0.mk (HF3.out.trans (Fr.of_below hb))
                      clear hb y0 y1
                      try clear y2 y3
                      try simp only [hwL]
                      have HLN := Aside0.mk (show L + 1 = L + 1 from rfl)
                      have HNX := Aside0.mk (show i < n1 ∧ n1 ≤ s.size by have := HHpn1.out; have := HHpm1.out; omega)
                      go_wp2
                      try clear hwL
                      try clear hwH
                      go_loopg [11] 1 (fun kq v11 w' => ∃ (j c' : Nat), v11 = .int .i64 (c' : Int) ∧ Aside0 (j ≤ 1 ∧ kq = 1 - j ∧ c' = L + j) ∧ Aside0 (w'.heap[g]? = some (.cells (cellsR (setUp f L j) m sf c) 58 (0, 0))) ∧ Aside0 (Fr B [58, 5] W w'))
                      case atStart => exact ⟨0, L, rfl, ⟨by omega, by omega, by omega⟩, HX4, HF4⟩
                      case round =>
                        obtain ⟨j, c', rfl, HJ', HXj, HFj⟩ := hrel
                        by_cases hj : j < 1
                        · have e0 : c' ≤ L := by have := HLN.out; have := HJ'.out; omega
                          have e4 : c' < 256 := by have := HLH.out; have := HLN.out; have := HJ'.out; omega
                          have e1 : decide ((c' : Int) ≤ (L : Int)) = true := decide_eq_true (by omega)
                          have e2 : decide (c' ≤ L) = true := decide_eq_true e0
                          have z := blk_frozen HXj.out c'
                          have HJ2 := Aside0.mk hj
                          have c0 := cellsR_at HXj.out c' (by rw [setUp_length, HFL.out]; omega)
                          have hxk := cellsR_put HXj.out c' (by rw [setUp_length, HFL.out]; omega) true
                          rw [show (setUp f L j).set c' true = setUp f L (j + 1) by rw [HJ'.out.2.2]; rfl] at hxk
                          have HXk := Aside0.mk hxk
                          have HFk := Aside0.mk (HFj.out.trans ((Fr.refl B [58, 5] wr).set HXj.out HBG.out (by simp) c' (.bool true)))
                          have hw3 : wrap64 ((c' : Int) + 1) = ((c' + 1 : Nat) : Int) := by unfold wrap64; omega
                          clear hxk hj
                          go_wp2
                          go_roundg (1 - (j + 1))
                          case measure => have := HJ'.out; have := HJ2.out; omega
                          case rel => exact ⟨j + 1, c' + 1, by first | rfl | (rw [hw3]; done) | (rw [hw3]; rfl) | simp, ⟨by have := HJ2.out; omega, rfl, by have := HJ'.out; omega⟩, HXk, HFk⟩
                        · have hje : 1 = j := by have := HJ'.out; omega
                          subst hje
                          have e0 : ¬ c' ≤ L := by have := HLN.out; have := HJ'.out; omega
                          have e1 : decide ((c' : Int) ≤ (L : Int)) = false := decide_eq_false (by omega)
                          have e2 : decide (c' ≤ L) = false := decide_eq_false e0
                          have hwn : wrap64 ((n : Int) + 1) = ((n + 1 : Nat) : Int) := by have := HQ.out; have := HSZ.out; unfold wrap64; omega
                          go_wp2
                          go_roundg (s.size + 1 - n1)
                          case measure => have := HQ.out; have := HNX.out; omega
                          case rel => exact ⟨q, setUp f L 1, n + 1, n1, rfl, by first | rfl | (rw [hwn]; done) | (rw [hwn]; rfl) | simp, ⟨rfl, by have := HQ.out; have := HNX.out; omega, by have := HNX.out; omega, by have := HQ.out; have := HNX.out; omega⟩, ⟨by rw [setUp_length]; exact HFL.out⟩, HG, HXj, HFj⟩
                  · skip
                    have eltm1 : decide ((m1 : Int) < (s.size : Int)) = false := decide_eq_false (by omega)
                    have elNm1 : decide (m1 < s.size) = false := decide_eq_false (by omega)
                    have elem1 : decide ((s.size : Int) ≤ (m1 : Int)) = true := decide_eq_true (by omega)
                    have elnm1 : decide (s.size ≤ m1) = true := decide_eq_true (by omega)
                    have HDS := Aside0.mk (show dash ((bytesOf s).drop n1) = false by rw [dash_at2]; rw [← hpm1, decide_eq_false (show ¬ m1 < s.size by omega)]; rfl)
                    have hwn1 := HWn1.out
                    have hwm1 := HWm1.out
                    have HHpn1 := Aside0.mk hpn1
                    have HHpm1 := Aside0.mk hpm1
                    clear hpn1 hpm1
                    go_wp2_with (at_builtin; refine Kd.R_append (Kd.int .u8) (w0 := w1) w1.heap.size rfl (.tmp 50) (.tmp 54) 23 5 (.int .u8 0) 1 rfl Try.underlying23 (by kernel_rfl) rfl (by decide) (by omega) _ ([]) di [.int .u8 di] (fun _ => True) (fun _ => False) rfl rfl ?aP (fun _ hk => hk.elim) ?aF ?aO ?aB ?aS ?aL ?_; (case aP => exact rfl); (case aF => exact fun _ _ => trivial); (case aO => exact HR.out); (case aB => exact HB.out); (case aS => exact HB.out.size); (case aL => simp); intro v3 w3 ho hb hgr hat; obtain ⟨A3, c3, hv3⟩ := Kd.R_slice ho; have hv3 : v3 = .slice A3 1 c3 := hv3; subst hv3; have HR3 := Aside0.mk ho; have HB3 := Aside0.mk hb; clear ho hb hgr hat)
                    have HX3 := Aside0.mk (blk_below HX.out HB3.out)
                    have HF3 := Aside0.mk (HF.out.trans (Fr.of_below HB3.out))
                    try clear hlIi elti elNi elei elni hbi
                    try clear hlIp eltp elNp elep elnp hbp
                    try clear eltp elNp elep elnp
                    try clear hlIm1 eltm1 elNm1 elem1 elnm1 hbm1
                    try clear eltm1 elNm1 elem1 elnm1
                    try clear hlIn1 eltn1 elNn1 elen1 elnn1 hbn1
                    try clear b93 b93n
                    try clear b92
                    try clear b45
                    try clear h45
                    try clear h92
                    try clear h93'
                    try clear b93'
                    try clear hwn1
                    try clear hwm1
                    obtain ⟨L, hL⟩ : ∃ L : Nat, di = (L : Int) := ⟨di.toNat, by have := HBYi.out; omega⟩
                    have HLH := Aside0.mk (show L < 256 by have := HBYi.out; omega)
                    rw [hL] at HP HR3
                    have HG := Aside0.mk ((HC.out).trans (clsL_one HH.out (by rw [HP.out]) (by rw [HP.out]; exact HDS.out)))
                    rw [HP.out] at HG
                    have HG := Aside0.mk (show cls (bytesOf s) = clsL false q (setUp f L 1) (n + 1) ((bytesOf s).drop n1) from HG.out)
                    try clear hL
                    have hwL : wrap64 (L : Int) = (L : Int) := by have := HLH.out; unfold wrap64; omega
                    obtain ⟨A4, c4, hv4, hl4, hC4⟩ := Kd.R_reads HR3.out
                    injection hv4 with q1 q2 q3
                    subst q1
                    obtain ⟨ad, hA, x0⟩ := Kd.at_int hC4 0 (by omega) (by simp)
                    subst hA
                    have x0 : w3.cell? (ad.add 0) = some (.int .u8 (L : Int)) := x0
                    have y0 := Reach.cell x0
                    have x1 : w3.cell? ad = some (.int .u8 (L : Int)) := by cases ad; exact x0
                    have y1 := Reach.cell x1
                    clear hC4 hl4 q2 q3 x0 x1
                    refine region_reach (by kernel_rfl) (by kernel_rfl) ?_
                    repeat (go_big_quiet_step (fail))
                    refine wpQuiet_nil ?_
                    rintro _ ⟨⟨w4, hb⟩, rfl⟩
                    have HX4 := Aside0.mk (blk_below HX3.out hb)
                    have HF4 := Aside0.mk (HF3.out.trans (Fr.of_below hb))
                    clear hb y0 y1
                    try clear y2 y3
                    try simp only [hwL]
                    have HLN := Aside0.mk (show L + 1 = L + 1 from rfl)
                    have HNX := Aside0.mk (show i < n1 ∧ n1 ≤ s.size by have := HHpn1.out; have := HHpm1.out; omega)
                    go_wp2
                    try clear hwL
                    try clear hwH
                    go_loopg [11] 1 (fun kq v11 w' => ∃ (j c' : Nat), v11 = .int .i64 (c' : Int) ∧ Aside0 (j ≤ 1 ∧ kq = 1 - j ∧ c' = L + j) ∧ Aside0 (w'.heap[g]? = some (.cells (cellsR (setUp f L j) m sf c) 58 (0, 0))) ∧ Aside0 (Fr B [58, 5] W w'))
                    case atStart => exact ⟨0, L, rfl, ⟨by omega, by omega, by omega⟩, HX4, HF4⟩
                    case round =>
                      obtain ⟨j, c', rfl, HJ', HXj, HFj⟩ := hrel
                      by_cases hj : j < 1
                      · have e0 : c' ≤ L := by have := HLN.out; have := HJ'.out; omega
                        have e4 : c' < 256 := by have := HLH.out; have := HLN.out; have := HJ'.out; omega
                        have e1 : decide ((c' : Int) ≤ (L : Int)) = true := decide_eq_true (by omega)
                        have e2 : decide (c' ≤ L) = true := decide_eq_true e0
                        have z := blk_frozen HXj.out c'
                        have HJ2 := Aside0.mk hj
                        have c0 := cellsR_at HXj.out c' (by rw [setUp_length, HFL.out]; omega)
                        have hxk := cellsR_put HXj.out c' (by rw [setUp_length, HFL.out]; omega) true
                        rw [show (setUp f L j).set c' true = setUp f L (j + 1) by rw [HJ'.out.2.2]; rfl] at hxk
                        have HXk := Aside0.mk hxk
                        have HFk := Aside0.mk (HFj.out.trans ((Fr.refl B [58, 5] wr).set HXj.out HBG.out (by simp) c' (.bool true)))
                        have hw3 : wrap64 ((c' : Int) + 1) = ((c' + 1 : Nat) : Int) := by unfold wrap64; omega
                        clear hxk hj
                        go_wp2
                        go_roundg (1 - (j + 1))
                        case measure => have := HJ'.out; have := HJ2.out; omega
                        case rel => exact ⟨j + 1, c' + 1, by first | rfl | (rw [hw3]; done) | (rw [hw3]; rfl) | simp, ⟨by have := HJ2.out; omega, rfl, by have := HJ'.out; omega⟩, HXk, HFk⟩
                      · have hje : 1 = j := by have := HJ'.out; omega
                        subst hje
                        have e0 : ¬ c' ≤ L := by have := HLN.out; have := HJ'.out; omega
                        have e1 : decide ((c' : Int) ≤ (L : Int)) = false := decide_eq_false (by omega)
                        have e2 : decide (c' ≤ L) = false := decide_eq_false e0
                        have hwn : wrap64 ((n : Int) + 1) = ((n + 1 : Nat) : Int) := by have := HQ.out; have := HSZ.out; unfold wrap64; omega
                        go_wp2
                        go_roundg (s.size + 1 - n1)
                        case measure => have := HQ.out; have := HNX.out; omega
                        case rel => exact ⟨q, setUp f L 1, n + 1, n1, rfl, by first | rfl | (rw [hwn]; done) | (rw [hwn]; rfl) | simp, ⟨rfl, by have := HQ.out; have := HNX.out; omega, by have := HNX.out; omega, by have := HQ.out; have := HNX.out; omega⟩, ⟨by rw [setUp_length]; exact HFL.out⟩, HG, HXj, HFj⟩
              · have hltt : t < s.size := HJ.out.2.2.1
                have HT := Aside0.mk (show ((bytesOf s).drop j).tail = (bytesOf s).drop t by rw [List.tail_drop, HJ.out.2.1])
                clear hlIi elti elNi elei elni hbi
                try clear b93 b93n h93
                have hlIt : (t : Int) < (s.size : Int) := by omega
                have eltt : decide ((t : Int) < (s.size : Int)) = true := decide_eq_true hlIt
                have elNt : decide (t < s.size) = true := decide_eq_true hltt
                have elet : decide ((s.size : Int) ≤ (t : Int)) = false := decide_eq_false (by omega)
                have elnt : decide (s.size ≤ t) = false := decide_eq_false (by omega)
                obtain ⟨dt, hdt⟩ : ∃ z, z = bt s (t : Int) := ⟨_, rfl⟩
                have hbt : ∀ h : t < s.size, ((s[t]'h).toNat : Int) = dt := fun h => by rw [hdt]; exact bt_at s ((t : Nat) : Int) h
                have hbyt := bt_byte s t hltt
                rw [← hdt] at hbyt
                have HDt := Aside0.mk hdt
                have HBYt := Aside0.mk hbyt
                clear hdt hbyt
                by_cases h92 : dt = 92
                · rw [h92] at hbt HBYt HDt
                  have hpl := pln_at s t hltt
                  rw [← HDt.out, if_pos rfl] at hpl
                  obtain ⟨p, hpp⟩ : ∃ z, z = t + 1 := ⟨_, rfl⟩
                  have HWp := Aside0.mk (show wrap64 ((t : Int) + 1) = (p : Int) by have := HSZ.out; have := HQ.out; rw [hpp]; unfold wrap64; omega)
                  by_cases hltp : p < s.size
                  · rw [← hpp, if_pos hltp] at hpl
                    have hlIp : (p : Int) < (s.size : Int) := by omega
                    have eltp : decide ((p : Int) < (s.size : Int)) = true := decide_eq_true hlIp
                    have elNp : decide (p < s.size) = true := decide_eq_true hltp
                    have elep : decide ((s.size : Int) ≤ (p : Int)) = false := decide_eq_false (by omega)
                    have elnp : decide (s.size ≤ p) = false := decide_eq_false (by omega)
                    obtain ⟨dp, hdp⟩ : ∃ z, z = bt s (p : Int) := ⟨_, rfl⟩
                    have hbp : ∀ h : p < s.size, ((s[p]'h).toNat : Int) = dp := fun h => by rw [hdp]; exact bt_at s ((p : Nat) : Int) h
                    have hbyp := bt_byte s p hltp
                    rw [← hdp] at hbyp
                    have HDp := Aside0.mk hdp
                    have HBYp := Aside0.mk hbyp
                    clear hdp hbyp
                    obtain ⟨n1, hpn1⟩ : ∃ z, z = p + 1 := ⟨_, rfl⟩
                    have HWn1 := Aside0.mk (show wrap64 ((p : Int) + 1) = (n1 : Int) by have := HSZ.out; have := HQ.out; rw [hpn1]; unfold wrap64; omega)
                    rw [show t + 2 = n1 by omega, ← HDp.out] at hpl
                    have HP := Aside0.mk hpl
                    clear hpl h92
                    have hwp := HWp.out
                    have hwn1 := HWn1.out
                    have HHpp := Aside0.mk hpp
                    have HHpn1 := Aside0.mk hpn1
                    clear hpp hpn1
                    go_wp2_with (at_builtin; refine Kd.R_append (Kd.int .u8) (w0 := w1) w1.heap.size rfl (.tmp 50) (.tmp 54) 23 5 (.int .u8 0) 1 rfl Try.underlying23 (by kernel_rfl) rfl (by decide) (by omega) _ ([d]) dp [.int .u8 dp] (fun _ => True) (fun _ => False) rfl rfl ?aP (fun _ hk => hk.elim) ?aF ?aO ?aB ?aS ?aL ?_; (case aP => exact rfl); (case aF => exact fun _ _ => trivial); (case aO => exact HR.out); (case aB => exact HB.out); (case aS => exact HB.out.size); (case aL => simp); intro v3 w3 ho hb hgr hat; obtain ⟨A3, c3, hv3⟩ := Kd.R_slice ho; have hv3 : v3 = .slice A3 2 c3 := hv3; subst hv3; have HR3 := Aside0.mk ho; have HB3 := Aside0.mk hb; clear ho hb hgr hat)
                    go_roundg 1
                    case measure => have := HJ.out; omega
                    case rel => exact .inr (.inr ⟨d, dp, j, n1, A3, c3, by first | rfl | (rw [HWn1.out]; done) | simp, rfl, ⟨rfl, by have := HHpp.out; have := HHpn1.out; omega, by have := HHpp.out; have := HHpn1.out; have := HJ.out; omega, HJ.out.2.2.2.2.1, HJ.out.2.2.2.2.2, HBYp.out.1, HBYp.out.2⟩, HPJ, HDJ, ⟨by rw [HT.out]; exact HP.out⟩, HR3, HB3⟩)
                  · rw [← hpp, if_neg hltp] at hpl
                    have eltp : decide ((p : Int) < (s.size : Int)) = false := decide_eq_false (by omega)
                    have elNp : decide (p < s.size) = false := decide_eq_false (by omega)
                    have elep : decide ((s.size : Int) ≤ (p : Int)) = true := decide_eq_true (by omega)
                    have elnp : decide (s.size ≤ p) = true := decide_eq_true (by omega)
                    have HG := Aside0.mk ((HC.out).trans (clsL_bad2 HH.out (by rw [HPJ.out]) (by rw [HPJ.out]; exact HDJ.out) (.inl (by rw [HPJ.out]; show (pln ((bytesOf s).drop j).tail).1.2 = false; rw [HT.out, hpl]))))
                    have HX3 := Aside0.mk (blk_below HX.out HB.out)
                    have HF3 := Aside0.mk (HF.out.trans (Fr.of_below HB.out))
                    have hwp := HWp.out
                    have HHpp := Aside0.mk hpp
                    clear hpp
                    go_wp2
                    go_ret
                    refine ⟨HF3.out, ?_⟩
                    rw [HG.out]
                    exact ⟨rfl, _, HFL.out, HX3.out⟩
                · have b92 : (dt == 92) = false := beq_eq_false_iff_ne.mpr h92
                  have hpl := pln_at s t hltt
                  rw [← HDt.out, if_neg h92] at hpl
                  obtain ⟨n1, hpn1⟩ : ∃ z, z = t + 1 := ⟨_, rfl⟩
                  have HWn1 := Aside0.mk (show wrap64 ((t : Int) + 1) = (n1 : Int) by have := HSZ.out; have := HQ.out; rw [hpn1]; unfold wrap64; omega)
                  rw [← hpn1] at hpl
                  have HP := Aside0.mk hpl
                  clear hpl
                  have hwn1 := HWn1.out
                  have HHpn1 := Aside0.mk hpn1
                  clear hpn1
                  go_wp2_with (at_builtin; refine Kd.R_append (Kd.int .u8) (w0 := w1) w1.heap.size rfl (.tmp 50) (.tmp 54) 23 5 (.int .u8 0) 1 rfl Try.underlying23 (by kernel_rfl) rfl (by decide) (by omega) _ ([d]) dt [.int .u8 dt] (fun _ => True) (fun _ => False) rfl rfl ?aP (fun _ hk => hk.elim) ?aF ?aO ?aB ?aS ?aL ?_; (case aP => exact rfl); (case aF => exact fun _ _ => trivial); (case aO => exact HR.out); (case aB => exact HB.out); (case aS => exact HB.out.size); (case aL => simp); intro v3 w3 ho hb hgr hat; obtain ⟨A3, c3, hv3⟩ := Kd.R_slice ho; have hv3 : v3 = .slice A3 2 c3 := hv3; subst hv3; have HR3 := Aside0.mk ho; have HB3 := Aside0.mk hb; clear ho hb hgr hat)
                  go_roundg 1
                  case measure => have := HJ.out; omega
                  case rel => exact .inr (.inr ⟨d, dt, j, n1, A3, c3, by first | rfl | (rw [HWn1.out]; done) | simp, rfl, ⟨rfl, by have := HHpn1.out; omega, by have := HHpn1.out; have := HJ.out; omega, HJ.out.2.2.2.2.1, HJ.out.2.2.2.2.2, HBYt.out.1, HBYt.out.2⟩, HPJ, HDJ, ⟨by rw [HT.out]; exact HP.out⟩, HR3, HB3⟩)
              · have HR3 := HR
                have HB3 := HB
                have HBYd := Aside0.mk (show 0 ≤ d ∧ d < 256 from ⟨HJ.out.2.2.2.1, HJ.out.2.2.2.2.1⟩)
                have HBYe := Aside0.mk (show 0 ≤ e ∧ e < 256 from HJ.out.2.2.2.2.2)
                have HNX := Aside0.mk (show i < t ∧ t ≤ s.size from ⟨HJ.out.2.2.1, HJ.out.2.1⟩)
                clear hlIi elti elNi elei elni hbi
                generalize wr = w3 at HR HB HR3 HB3 ⊢
                go_wp2
                have HX3 := Aside0.mk (blk_below HX.out HB3.out)
                have HF3 := Aside0.mk (HF.out.trans (Fr.of_below HB3.out))
                try clear hlIi elti elNi elei elni hbi
                try clear hlIp eltp elNp elep elnp hbp
                try clear eltp elNp elep elnp
                try clear hlIm1 eltm1 elNm1 elem1 elnm1 hbm1
                try clear eltm1 elNm1 elem1 elnm1
                try clear hlIn1 eltn1 elNn1 elen1 elnn1 hbn1
                try clear b93 b93n
                try clear b92
                try clear b45
                try clear h45
                try clear h92
                try clear h93'
                try clear b93'
                obtain ⟨L, rfl⟩ : ∃ L : Nat, d = (L : Int) := ⟨d.toNat, by have := HBYd.out; omega⟩
                obtain ⟨H, rfl⟩ : ∃ H : Nat, e = (H : Int) := ⟨e.toNat, by have := HBYe.out; omega⟩
                have HLH := Aside0.mk (show H < 256 by have := HBYe.out; omega)
                have hwL : wrap64 (L : Int) = (L : Int) := by have := HBYd.out; unfold wrap64; omega
                have hwH : wrap64 (H : Int) = (H : Int) := by have := HLH.out; unfold wrap64; omega
                obtain ⟨A4, c4, hv4, hl4, hC4⟩ := Kd.R_reads HR3.out
                injection hv4 with q1 q2 q3
                subst q1
                have hC5 := hC4
                obtain ⟨ad, hA, x0⟩ := Kd.at_int hC4 0 (by omega) (by simp)
                subst hA
                have x0 : w3.cell? (ad.add 0) = some (.int .u8 (L : Int)) := x0
                have y0 := Reach.cell x0
                have x1 : w3.cell? ad = some (.int .u8 (L : Int)) := by cases ad; exact x0
                have y1 := Reach.cell x1
                clear hC4 hl4 q2 q3 x0 x1
                obtain ⟨ad', hA', x2⟩ := Kd.at_int hC5 1 (by omega) (by simp)
                injection hA' with hA'
                subst hA'
                have x2 : w3.cell? (ad.add 1) = some (.int .u8 (H : Int)) := x2
                have y2 := Reach.cell x2
                have x3 : w3.cell? { block := ad.block, off := ad.off + 1 } = some (.int .u8 (H : Int)) := by first | exact x2 | (cases ad; exact x2)
                have y3 := Reach.cell x3
                clear hC5 x2 x3
                refine region_reach (by kernel_rfl) (by kernel_rfl) ?_
                repeat (go_big_quiet_step (fail))
                refine wpQuiet_nil ?_
                rintro _ ⟨⟨w4, hb⟩, rfl⟩
                have HX4 := Aside0.mk (blk_below HX3.out hb)
                have HF4 := Aside0.mk (HF3.out.trans (Fr.of_below hb))
                clear hb y0 y1
                try clear y2 y3
                try simp only [hwL]
                try simp only [hwH]
                by_cases hlt : (H : Int) < (L : Int)
                · have e1 : decide ((H : Int) < (L : Int)) = true := decide_eq_true hlt
                  have e2 : decide (H < L) = true := decide_eq_true (by omega)
                  have HG := Aside0.mk ((HC.out).trans (clsL_bad2 HH.out (by rw [HPJ.out]) (by rw [HPJ.out]; exact HDJ.out) (.inr (by rw [HPJ.out]; show (pln ((bytesOf s).drop j).tail).1.1 < (L : Int); rw [HPE.out]; exact hlt))))
                  clear hlt
                  go_wp2
                  go_ret
                  refine ⟨HF4.out, ?_⟩
                  rw [HG.out]
                  exact ⟨rfl, _, HFL.out, HX4.out⟩
                · have e1 : decide ((H : Int) < (L : Int)) = false := decide_eq_false hlt
                  have e2 : decide (H < L) = false := decide_eq_false (by omega)
                  have hG := ((HC.out).trans (clsL_two HH.out (by rw [HPJ.out]) (by rw [HPJ.out]; exact HDJ.out) (by rw [HPJ.out]; show ¬ ((pln ((bytesOf s).drop j).tail).1.2 = false ∨ (pln ((bytesOf s).drop j).tail).1.1 < (L : Int)); rw [HPE.out]; exact fun h => h.elim (fun h => by cases h) (fun h => hlt h))))
                  rw [HPJ.out] at hG
                  simp only at hG
                  rw [HPE.out] at hG
                  simp only at hG
                  rw [show ((H : Int) - (L : Int) + 1).toNat = H - L + 1 by omega, Int.toNat_natCast] at hG
                  have HG := Aside0.mk hG
                  clear hG
                  obtain ⟨cn, hcn⟩ : ∃ cn, cn = H - L + 1 := ⟨_, rfl⟩
                  rw [← hcn] at HG
                  have HLN := Aside0.mk (show L + cn = H + 1 by omega)
                  clear hcn hlt
                  go_wp2
                  try clear hwL
                  try clear hwH
                  go_loopg [11] cn (fun kq v11 w' => ∃ (j c' : Nat), v11 = .int .i64 (c' : Int) ∧ Aside0 (j ≤ cn ∧ kq = cn - j ∧ c' = L + j) ∧ Aside0 (w'.heap[g]? = some (.cells (cellsR (setUp f L j) m sf c) 58 (0, 0))) ∧ Aside0 (Fr B [58, 5] W w'))
                  case atStart => exact ⟨0, L, rfl, ⟨by omega, by omega, by omega⟩, HX4, HF4⟩
                  case round =>
                    obtain ⟨j, c', rfl, HJ', HXj, HFj⟩ := hrel
                    by_cases hj : j < cn
                    · have e0 : c' ≤ H := by have := HLN.out; have := HJ'.out; omega
                      have e4 : c' < 256 := by have := HLH.out; have := HLN.out; have := HJ'.out; omega
                      have e1 : decide ((c' : Int) ≤ (H : Int)) = true := decide_eq_true (by omega)
                      have e2 : decide (c' ≤ H) = true := decide_eq_true e0
                      have z := blk_frozen HXj.out c'
                      have HJ2 := Aside0.mk hj
                      have c0 := cellsR_at HXj.out c' (by rw [setUp_length, HFL.out]; omega)
                      have hxk := cellsR_put HXj.out c' (by rw [setUp_length, HFL.out]; omega) true
                      rw [show (setUp f L j).set c' true = setUp f L (j + 1) by rw [HJ'.out.2.2]; rfl] at hxk
                      have HXk := Aside0.mk hxk
                      have HFk := Aside0.mk (HFj.out.trans ((Fr.refl B [58, 5] wr).set HXj.out HBG.out (by simp) c' (.bool true)))
                      have hw3 : wrap64 ((c' : Int) + 1) = ((c' + 1 : Nat) : Int) := by unfold wrap64; omega
                      clear hxk hj
                      go_wp2
                      go_roundg (cn - (j + 1))
                      case measure => have := HJ'.out; have := HJ2.out; omega
                      case rel => exact ⟨j + 1, c' + 1, by first | rfl | (rw [hw3]; done) | (rw [hw3]; rfl) | simp, ⟨by have := HJ2.out; omega, rfl, by have := HJ'.out; omega⟩, HXk, HFk⟩
                    · have hje : cn = j := by have := HJ'.out; omega
                      subst hje
                      have e0 : ¬ c' ≤ H := by have := HLN.out; have := HJ'.out; omega
                      have e1 : decide ((c' : Int) ≤ (H : Int)) = false := decide_eq_false (by omega)
                      have e2 : decide (c' ≤ H) = false := decide_eq_false e0
                      have hwn : wrap64 ((n : Int) + 1) = ((n + 1 : Nat) : Int) := by have := HQ.out; have := HSZ.out; unfold wrap64; omega
                      go_wp2
                      go_roundg (s.size + 1 - t)
                      case measure => have := HQ.out; have := HNX.out; omega
                      case rel => exact ⟨q, setUp f L cn, n + 1, t, rfl, by first | rfl | (rw [hwn]; done) | (rw [hwn]; rfl) | simp, ⟨rfl, by have := HQ.out; have := HNX.out; omega, by have := HNX.out; omega, by have := HQ.out; have := HNX.out; omega⟩, ⟨by rw [setUp_length]; exact HFL.out⟩, HG, HXj, HFj⟩
        · have HG := Aside0.mk ((HC.out).trans (show clsL false (q + 1) f n ((bytesOf s).drop i) = none by rw [bytes_done s i (by omega)]; exact clsL_nil))
          have elti : decide ((i : Int) < (s.size : Int)) = false := decide_eq_false (by omega)
          have elNi : decide (i < s.size) = false := decide_eq_false (by omega)
          have elei : decide ((s.size : Int) ≤ (i : Int)) = true := decide_eq_true (by omega)
          have elni : decide (s.size ≤ i) = true := decide_eq_true (by omega)
          go_wp2
          go_ret
          refine ⟨HF.out, ?_⟩
          rw [HG.out]
          exact ⟨rfl, _, HFL.out, HX.out⟩
    · have e1 : decide ((0 : Int) < (s.size : Int)) = false := decide_eq_false (by omega)
      have e1N : decide (0 < s.size) = false := decide_eq_false hz
      clear hn
      go_enter Try.func27, Try.ntmps27
      go_wp2
      clear e1 e1N
      go_loopg [5, 6] (s.size + 1 - 0) (fun kq v5 v6 w' => ∃ (q : Nat) (f : List Bool) (n i : Nat), v5 = .int .i64 (i : Int) ∧ v6 = .int .i64 (n : Int) ∧ Aside0 (kq = s.size + 1 - i ∧ n ≤ i ∧ i ≤ s.size ∧ s.size - i < q) ∧ Aside0 (f.length = 256) ∧ Aside0 (cls (bytesOf s) = clsL false q f n ((bytesOf s).drop i)) ∧ Aside0 (w'.heap[g]? = some (.cells (cellsR f m sf c) 58 (0, 0))) ∧ Aside0 (Fr B [58, 5] W w'))
      case atStart => exact ⟨(bytesOf s).length + 1, zeroF, 0, 0, rfl, rfl, ⟨rfl, by omega, by omega, by rw [bytesOf_length]; omega⟩, ⟨zeroF_length⟩, HC0, HG, ⟨Fr.refl _ _ _⟩⟩
      case round =>
        obtain ⟨q, f, n, i, rfl, rfl, HQ, HFL, HC, HX, HF⟩ := hrel
        obtain ⟨q, rfl⟩ : ∃ q', q = q' + 1 := ⟨q - 1, by have := HQ.out; omega⟩
        generalize wr = w1 at HX HF ⊢
        have hno : ¬ i < s.size := by omega
        have HG := Aside0.mk ((HC.out).trans (show clsL false (q + 1) f n ((bytesOf s).drop i) = none by rw [bytes_done s i (by omega)]; exact clsL_nil))
        have elti : decide ((i : Int) < (s.size : Int)) = false := decide_eq_false (by omega)
        have elNi : decide (i < s.size) = false := decide_eq_false (by omega)
        have elei : decide ((s.size : Int) ≤ (i : Int)) = true := decide_eq_true (by omega)
        have elni : decide (s.size ≤ i) = true := decide_eq_true (by omega)
        clear hno hz
        go_wp2
        go_ret
        refine ⟨HF.out, ?_⟩
        rw [HG.out]
        exact ⟨rfl, _, HFL.out, HX.out⟩
end Go.Proofs.Ytbnlfiklkddolaa.Sep
