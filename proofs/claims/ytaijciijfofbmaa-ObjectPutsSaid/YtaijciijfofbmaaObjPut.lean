/- A commit's bytes: the program's Put and the reference's PutCommit. Conditions: the bounds of the statements. -/
import Derived.Test.YtaijciijfofbmaaObjRight
import Derived.Test.YtaijciijfofbmaaRefPut
import Derived.Deep.RegionWith
import Derived.Deep.RegionHeld3
import Derived.BigQuiet
namespace Go.Proofs.Ytaijciijfofbmaa.Sep
set_option linter.unusedSimpArgs false
open Go.RowKit Go.Proofs.Ytaijciijfofbmaa.PCore Go.Proofs.Ytaijciijfofbmaa.Plain Go.Proofs.YtaijciijfofbmaaW.PrintWords Go.Proofs.YtaijciijfofbmaaW.PrintLast Go.Proofs.YtaijciijfofbmaaW.PrintMore
/-- A commit's bytes. -/
def encC (id : Int) (ps : List Int) (gen root : Int) (t : ByteArray) : List Int := enc id ++ enc ps.length ++ encs ps ++ enc gen ++ enc root ++ encT t
/-- What Put tells. -/
def putC (id : Int) (ps : List Int) (gen root : Int) (t : ByteArray) : List Int := if comE id ps gen t = 0 then encC id ps gen root t else []
theorem encC_len {id : Int} {ps : List Int} {gen root : Int} {t : ByteArray} (hI : ComIn id ps gen root) (hl : ps.length ≤ 2) (ht : t.size ≤ 60) :
    (enc id).length ≤ 10 ∧ (enc (ps.length : Int)).length ≤ 10 ∧ (encs ps).length ≤ 20 ∧ (enc gen).length ≤ 10 ∧ (enc root).length ≤ 10 ∧ (encT t).length ≤ 70 := by
  have h1 := enc_len_u64 hI.1.1 hI.1.2
  have h2 := enc_len_u64 (n := (ps.length : Int)) (by omega) (by omega)
  have h3 := encs_le ps hI.2.1
  have h4 := enc_len_u64 hI.2.2.1.1 hI.2.2.1.2
  have h5 := enc_len_u64 hI.2.2.2.1 hI.2.2.2.2
  have h6 := encT_len t (by omega)
  omega
theorem wr_num2_at (B g n : Nat) (bs : List Int) (x y : Int) (W : World) (hn : n = W.heap.size) (hw : WrAt B g W bs) (hx : 0 ≤ x ∧ x < 18446744073709551616) (hy : 0 ≤ y ∧ y < 18446744073709551616) (hlim : bs.length + 20 < 140737488355328) :
    Calls Try.prog 18 #[.pointer (some ⟨g, 0, none⟩), .slice (some ⟨n, 0, none⟩) 2 2] (W.alloc (.cells #[.int .u64 x, .int .u64 y] 22)) fun e W1 => e = .returned (.tuple #[]) ∧ WrAt B g W1 (bs ++ enc x ++ enc y) ∧ Fr B [46, 5] W W1 := by
  subst hn
  exact wr_num2 B g bs x y W hw hx hy hlim
set_option maxHeartbeats 4000000 in
set_option maxRecDepth 100000 in
theorem put_calls (A : Option Addr) (c : Nat) (id : Int) (ps : List Int) (gen root : Int) (t : ByteArray) (W : World) (hC : Kd.C (Kd.int .u64) W A ps.length ps) (hc : ps.length ≤ c) (hn : ps.length ≤ maxLen) (hI : ComIn id ps gen root) :
    Calls Try.prog 8 #[.agg #[.int .u64 id, .slice A ps.length c, .int .u64 gen, .int .u64 root, .string t]] W fun e W1 => ∃ v, e = .returned (.tuple #[v, .int .i64 (comE id ps gen t)]) ∧ Kd.R (Kd.int .u8) 5 W1 W.heap.size (fun _ => True) v (putC id ps gen root t) ∧ Below W.heap.size W W1 := by
  have HC := Aside0.mk hC
  have HCC := Aside0.mk hc
  have HR := fun w (hb : Below W.heap.size W w) => right_calls A c id ps gen root t w (Kd.C_below hC hb) hn hI
  have HRA := Aside0.mk HR
  have HI := Aside0.mk hI
  have huF := Try.underlying25
  clear hC hc hn hI HR
  by_cases h : comE id ps gen t = 0
  · have HP := Aside0.mk (show putC id ps gen root t = encC id ps gen root t by unfold putC; rw [if_pos h])
    have HE := Aside0.mk h
    have HL := Aside0.mk (encC_len HI.out (comE_zero h).2.2.1 (comE_zero h).2.2.2)
    have HT60 := Aside0.mk (comE_zero h).2.2.2
    have HP2 := Aside0.mk (comE_zero h).2.2.1
    have hcl : IntKind.u64.wrap (ps.length : Int) = (ps.length : Int) := by rw [IntKind.wrap_u64]; have := (comE_zero h).2.2.1; omega
    clear h
    go_enter Try.func8, Try.ntmps8
    go_wp2_with (first | (go_at_call 9; refine (HRA.out _ (below_alloc (Below.refl _ _) _)).mono ?_; rw [HE.out]; rintro e w2 ⟨rfl, hb2⟩; have HK2 := Aside0.mk (blk_alloc ((Fr.of_below (T := []) (B := 0) hb2).blk (blk_new _ _) (by simp)) (.cells #[.slice none 0 0] 46)); have HB2 := Aside0.mk (below_alloc (below_step (below_alloc (Below.refl _ _) _) hb2) (.cells #[.slice none 0 0] 46)); have HW2 := Aside0.mk (show WrAt W.heap.size w2.heap.size (w2.alloc (.cells #[.slice none 0 0] 46)) [] from ⟨_, blk_new _ _, by have := (below_step (below_alloc (Below.refl W.heap.size W) _) hb2).size; exact this, Kd.R_nil _ _ _ _ _⟩); have hca0 : (w2.alloc (.cells #[.slice none 0 0] 46)).cell? ⟨W.heap.size, 0, none⟩ = some (.int .u64 id) := (blk_cell HK2.out 0).trans rfl; have hca1 : (w2.alloc (.cells #[.slice none 0 0] 46)).cell? ⟨W.heap.size, 1, none⟩ = some (.slice A ps.length c) := (blk_cell HK2.out 1).trans rfl; clear hb2) | (go_at_call 20; refine (wr_bytes W.heap.size w2.heap.size _ _ HW6.out (by have := HL.out; simp only [List.length_append, List.length_nil]; omega)).mono ?_; rintro e w7 ⟨v, rfl, hr, hb⟩; have HR7 := Aside0.mk hr; have HB7 := Aside0.mk (below_step HB6.out hb); clear hr hb) | (go_at_call 19; have hq := HW5.out; clear hq; refine (wr_text W.heap.size w2.heap.size _ t _ HW5.out (by have := HL.out; simp only [List.length_append, List.length_nil]; have := HT60.out; omega)).mono ?_; rintro e w6 ⟨rfl, hw, hf⟩; have HW6 := Aside0.mk hw; have HK6 := Aside0.mk (hf.blk HK5.out (by decide)); have HB6 := Aside0.mk (HB5.out.trans (hf.below HB5.out.size)); clear hw hf HW5) | (go_at_call 18; have hq := HW4.out; clear hq; refine (wr_num2 W.heap.size w2.heap.size _ gen root _ HW4.out HI.out.2.2.1 HI.out.2.2.2 (by have := HL.out; simp only [List.length_append, List.length_nil]; omega)).mono ?_; rintro e w5 ⟨rfl, hw, hf⟩; have HW5 := Aside0.mk hw; have HK5 := Aside0.mk (hf.blk HK4.out (by decide)); have HB5 := Aside0.mk (HB4.out.trans (hf.below HB4.out.size)); have hcd4 : w5.cell? ⟨W.heap.size, 4, none⟩ = some (.string t) := (blk_cell HK5.out 4).trans rfl; clear hw hf HW4) | (go_at_call 18; have hq := HW3.out; clear hq; refine (wr_num W.heap.size w2.heap.size _ ps A c _ HW3.out (Kd.C_below HC.out HB3.out) HCC.out HI.out.2.1 (by have := HL.out; simp only [List.length_append, List.length_nil]; have := HP2.out; omega)).mono ?_; rintro e w4 ⟨rfl, hw, hf⟩; have HW4 := Aside0.mk hw; have HK4 := Aside0.mk (hf.blk HK3.out (by decide)); have HB4 := Aside0.mk (HB3.out.trans (hf.below HB3.out.size)); have hcc2 : w4.cell? ⟨W.heap.size, 2, none⟩ = some (.int .u64 gen) := (blk_cell HK4.out 2).trans rfl; have hcc3 : w4.cell? ⟨W.heap.size, 3, none⟩ = some (.int .u64 root) := (blk_cell HK4.out 3).trans rfl; clear hw hf HW3) | (go_at_call 18; have hq := HW2.out; clear hq; refine (wr_num2_at W.heap.size w2.heap.size _ [] id (ps.length : Int) _ (size_one _ _) HW2.out HI.out.1 ⟨by omega, by have := HP2.out; omega⟩ (by decide)).mono ?_; rintro e w3 ⟨rfl, hw, hf⟩; have HW3 := Aside0.mk hw; have HK3 := Aside0.mk (hf.blk HK2.out (by decide)); have HB3 := Aside0.mk (HB2.out.trans (hf.below HB2.out.size)); have hcb1 : w3.cell? ⟨W.heap.size, 1, none⟩ = some (.slice A ps.length c) := (blk_cell HK3.out 1).trans rfl; clear hw hf HW2))
    go_ret2
    refine ⟨v, by rw [HE.out]; rfl, ?_, HB7.out⟩
    rw [HP.out, encC]
    have := HR7.out
    rw [List.nil_append] at this
    exact Kd.R_lower this HB6.out.size
  · have HP := Aside0.mk (show putC id ps gen root t = [] by unfold putC; rw [if_neg h])
    have h' : (comE id ps gen t != 0) = true := bne_iff_ne.mpr h
    clear h
    go_enter Try.func8, Try.ntmps8
    go_wp2_with (go_at_call 9; refine (HRA.out _ (below_alloc (Below.refl _ _) _)).mono ?_; rintro e w2 ⟨rfl, hb2⟩; have HB2 := Aside0.mk (below_step (below_alloc (Below.refl _ _) _) hb2); clear hb2)
    go_ret2
    refine ⟨.slice none 0 0, rfl, ?_, HB2.out⟩
    rw [HP.out]
    exact Kd.R_nil _ _ _ _ _
theorem encs_take (ps : List Int) (i : Nat) (h : i < ps.length) : encs (ps.take (i + 1)) = encs (ps.take i) ++ enc (rd ps (i : Int)) := by
  rw [take_one ps i h, Plain.encs_append, rd_nat ps i h, encs_cons, encs_nil, List.append_nil]
theorem rd_mem (ps : List Int) (i : Nat) (h : i < ps.length) : rd ps (i : Int) ∈ ps := by
  rw [rd_nat ps i h]
  exact List.getElem_mem h
theorem encs_take_len (ps : List Int) (i : Nat) (h : ∀ p ∈ ps, 0 ≤ p ∧ p < 18446744073709551616) : (encs (ps.take i)).length ≤ 10 * ps.length := by
  have := encs_le (ps.take i) (fun x hx => h x (List.mem_of_mem_take hx))
  rw [List.length_take] at this
  omega
set_option maxHeartbeats 8000000 in
set_option maxRecDepth 100000 in
theorem refPut_calls (A : Option Addr) (c : Nat) (id : Int) (ps : List Int) (gen root : Int) (t : ByteArray) (W : World) (hC : Kd.C (Kd.int .u64) W A ps.length ps) (hc : ps.length ≤ c) (hI : ComIn id ps gen root) (ht : t.size ≤ 140737488355328) :
    Calls Try.prog 11 #[.agg #[.int .u64 id, .slice A ps.length c, .int .u64 gen, .int .u64 root, .string t]] W fun e W1 => ∃ v, e = .returned (.tuple #[v, .int .i64 (comE id ps gen t)]) ∧ Kd.R (Kd.int .u8) 5 W1 W.heap.size (fun _ => True) v (putC id ps gen root t) ∧ Below W.heap.size W W1 := by
  have HC := Aside0.mk hC
  have HR := fun w (hb : Below W.heap.size W w) => refCom_calls A c id ps gen root t w (Kd.C_below hC hb) hc hI ht
  have HRA := Aside0.mk HR
  have HI := Aside0.mk hI
  have huF := Try.underlying25
  clear hC hc hI HR
  by_cases h : comE id ps gen t = 0
  · have HP := Aside0.mk (show putC id ps gen root t = encC id ps gen root t by unfold putC; rw [if_pos h])
    have HE := Aside0.mk h
    have HL := Aside0.mk (encC_len HI.out (comE_zero h).2.2.1 (comE_zero h).2.2.2)
    have HT60 := Aside0.mk (comE_zero h).2.2.2
    have HP2 := Aside0.mk (comE_zero h).2.2.1
    have hcl : IntKind.u64.wrap (ps.length : Int) = (ps.length : Int) := by rw [IntKind.wrap_u64]; have := (comE_zero h).2.2.1; omega
    clear h ht
    go_enter Try.func11, Try.ntmps11
    go_wp2_with (go_at_call 14; refine (HRA.out _ (below_alloc (Below.refl _ _) _)).mono ?_; rw [HE.out]; rintro e w2 ⟨rfl, hb2⟩; have HK2 := Aside0.mk ((Fr.of_below (T := []) (B := 0) hb2).blk (blk_new _ _) (by simp)); have HB2 := Aside0.mk (below_step (below_alloc (Below.refl _ _) _) hb2); clear hb2)
    have HB2d := Aside0.mk (below_drew (Below.refl w2.heap.size w2))
    have HR2 := Aside0.mk (Kd.R_nil (Kd.int .u8) 5 w2.drew w2.heap.size (fun _ => True))
    have hc20 : w2.cell? ⟨W.heap.size, 0, none⟩ = some (.int .u64 id) := (blk_cell HK2.out 0).trans rfl
    have hc21 : w2.cell? ⟨W.heap.size, 1, none⟩ = some (.slice A ps.length c) := (blk_cell HK2.out 1).trans rfl
    go_region_held3 (fun w' => w'.cell? ⟨W.heap.size, 0, none⟩ = some (.int .u64 id) ∧ w'.cell? ⟨W.heap.size, 1, none⟩ = some (.slice A ps.length c)) (first | exact ⟨hc20, hc21⟩ | exact ⟨hcw30, hcw31⟩ | exact ⟨hcw40, hcw41⟩ | go_keep) (first | (go_at_call 22; have hq := HR3.out; clear hq; refine (rn_num w2 _ _ _ (ps.length : Int) HB3.out HR3.out ⟨by omega, by have := HP2.out; omega⟩ (by have := HL.out; simp only [List.length_append, List.length_nil]; omega)).mono ?_; rintro e w4 ⟨v4, rfl, hr, hb⟩; have HR4 := Aside0.mk hr; have HB4 := Aside0.mk hb; have hkw4 := (Fr.of_below (T := []) (B := 0) HB4.out).blk HK2.out (by simp); have hcw40 : w4.cell? ⟨W.heap.size, 0, none⟩ = some (.int .u64 id) := (blk_cell hkw4 0).trans rfl; have hcw41 : w4.cell? ⟨W.heap.size, 1, none⟩ = some (.slice A ps.length c) := (blk_cell hkw4 1).trans rfl; clear hkw4; clear hr hb HR3) | (go_at_call 22; have hq := HR2.out; clear hq; refine (rn_num w2 _ _ _ id HB2d.out HR2.out HI.out.1 (by have := HL.out; simp only [List.length_append, List.length_nil]; omega)).mono ?_; rintro e w3 ⟨v3, rfl, hr, hb⟩; have HR3 := Aside0.mk hr; have HB3 := Aside0.mk hb; have hkw3 := (Fr.of_below (T := []) (B := 0) HB3.out).blk HK2.out (by simp); have hcw30 : w3.cell? ⟨W.heap.size, 0, none⟩ = some (.int .u64 id) := (blk_cell hkw3 0).trans rfl; have hcw31 : w3.cell? ⟨W.heap.size, 1, none⟩ = some (.slice A ps.length c) := (blk_cell hkw3 1).trans rfl; clear hkw3; clear hr hb HR2))
    all_goals (
      go_wp2
      go_loopg [5, 24] ps.length (fun kq v5 v24 w' => ∃ i : Nat, v24 = .int .i64 i ∧ Aside0 (i ≤ ps.length ∧ kq = ps.length - i) ∧ Aside0 (Kd.R (Kd.int .u8) 5 w' w2.heap.size (fun _ => True) v5 (enc id ++ enc ps.length ++ encs (ps.take i))) ∧ Aside0 (Below w2.heap.size w2 w'))
      case atStart => exact ⟨0, rfl, ⟨by omega, by omega⟩, ⟨by have := HR4.out; rw [List.nil_append] at this; rw [List.take_zero, encs_nil, List.append_nil]; exact this⟩, ⟨HB4.out⟩⟩
      case round =>
        obtain ⟨i, rfl, HI2, HR5, HB5⟩ := hrel
        by_cases hlt : i < ps.length
        · obtain ⟨ad, rfl, h0⟩ := (show ReadsInt wr .u64 A ps.length ps from Kd.reads_of_C (d := 0) (Kd.C_below HC.out (below_step HB2.out HB5.out))).at_ (i : Int) (by omega) (by omega)
          simp only [Int.toNat_natCast] at h0
          have HTK := Aside0.mk (encs_take ps i hlt)
          have HPI := Aside0.mk (HI.out.2.1 _ (rd_mem ps i hlt))
          have HTL := Aside0.mk (encs_take_len ps i HI.out.2.1)
          generalize rd ps (i : Int) = p at h0 HTK HPI
          have hlt' : (i : Int) < (ps.length : Int) := by omega
          have HWI := Aside0.mk (show wrap64 ((i : Int) + 1) = ((i + 1 : Nat) : Int) by have := HP2.out; unfold wrap64; omega)
          go_wp2_with (go_at_call 22; refine (rn_num w2 _ _ _ p HB5.out HR5.out HPI.out (by have := HL.out; have := HTL.out; have := HP2.out; simp only [List.length_append]; omega)).mono ?_; rintro e w6 ⟨v6, rfl, hr, hb⟩; have HR6 := Aside0.mk hr; have HB6 := Aside0.mk hb; have hkw6 := (Fr.of_below (T := []) (B := 0) HB6.out).blk HK2.out (by simp); have hcw62 : w6.cell? ⟨W.heap.size, 2, none⟩ = some (.int .u64 gen) := (blk_cell hkw6 2).trans rfl; have hcw63 : w6.cell? ⟨W.heap.size, 3, none⟩ = some (.int .u64 root) := (blk_cell hkw6 3).trans rfl; have hcw64 : w6.cell? ⟨W.heap.size, 4, none⟩ = some (.string t) := (blk_cell hkw6 4).trans rfl; clear hkw6; clear hr hb)
          go_roundg (ps.length - (i + 1))
          case measure => have := HI2.out; omega
          case rel => exact ⟨i + 1, by rw [HWI.out], ⟨by omega, rfl⟩, ⟨by have := HR6.out; rw [List.append_assoc, ← HTK.out] at this; exact this⟩, ⟨HB6.out⟩⟩
        · have hI : i = ps.length := by have := HI2.out; omega
          subst hI
          have hr5 := HR5.out
          rw [List.take_length] at hr5
          have HR5' := Aside0.mk hr5
          clear hr5 HR5 HR4 HB4
          have hkwr := (Fr.of_below (T := []) (B := 0) HB5.out).blk HK2.out (by simp); have hcwr2 : wr.cell? ⟨W.heap.size, 2, none⟩ = some (.int .u64 gen) := (blk_cell hkwr 2).trans rfl; have hcwr3 : wr.cell? ⟨W.heap.size, 3, none⟩ = some (.int .u64 root) := (blk_cell hkwr 3).trans rfl; have hcwr4 : wr.cell? ⟨W.heap.size, 4, none⟩ = some (.string t) := (blk_cell hkwr 4).trans rfl; clear hkwr
          go_wp2
          have HB5d := Aside0.mk (below_drew HB5.out)
          have HR5d := Aside0.mk (Kd.R_drew HR5'.out)
          go_region_held3 (fun w' => w'.cell? ⟨W.heap.size, 2, none⟩ = some (.int .u64 gen) ∧ w'.cell? ⟨W.heap.size, 3, none⟩ = some (.int .u64 root) ∧ w'.cell? ⟨W.heap.size, 4, none⟩ = some (.string t)) (first | exact ⟨hcwr2, hcwr3, hcwr4⟩ | exact ⟨hcw62, hcw63, hcw64⟩ | exact ⟨hcw72, hcw73, hcw74⟩ | exact ⟨hcw82, hcw83, hcw84⟩ | go_keep) (first | (go_at_call 23; have hq := HR7.out; clear hq; refine (rn_text w2 _ _ _ t HB7.out HR7.out (by have := HL.out; simp only [List.length_append, List.length_nil]; have := HT60.out; omega)).mono ?_; rintro e w8 ⟨v8, rfl, hr, hb⟩; have HR8 := Aside0.mk hr; have HB8 := Aside0.mk hb; have hkw8 := (Fr.of_below (T := []) (B := 0) HB8.out).blk HK2.out (by simp); have hcw82 : w8.cell? ⟨W.heap.size, 2, none⟩ = some (.int .u64 gen) := (blk_cell hkw8 2).trans rfl; have hcw83 : w8.cell? ⟨W.heap.size, 3, none⟩ = some (.int .u64 root) := (blk_cell hkw8 3).trans rfl; have hcw84 : w8.cell? ⟨W.heap.size, 4, none⟩ = some (.string t) := (blk_cell hkw8 4).trans rfl; clear hkw8; clear hr hb HR7) | (go_at_call 22; have hq := HR6.out; clear hq; refine (rn_num w2 _ _ _ root HB6.out HR6.out HI.out.2.2.2 (by have := HL.out; simp only [List.length_append, List.length_nil]; omega)).mono ?_; rintro e w7 ⟨v7, rfl, hr, hb⟩; have HR7 := Aside0.mk hr; have HB7 := Aside0.mk hb; have hkw7 := (Fr.of_below (T := []) (B := 0) HB7.out).blk HK2.out (by simp); have hcw72 : w7.cell? ⟨W.heap.size, 2, none⟩ = some (.int .u64 gen) := (blk_cell hkw7 2).trans rfl; have hcw73 : w7.cell? ⟨W.heap.size, 3, none⟩ = some (.int .u64 root) := (blk_cell hkw7 3).trans rfl; have hcw74 : w7.cell? ⟨W.heap.size, 4, none⟩ = some (.string t) := (blk_cell hkw7 4).trans rfl; clear hkw7; clear hr hb HR6) | (go_at_call 22; have hq := HR5d.out; clear hq; refine (rn_num w2 _ _ _ gen HB5d.out HR5d.out HI.out.2.2.1 (by have := HL.out; simp only [List.length_append, List.length_nil]; omega)).mono ?_; rintro e w6 ⟨v6, rfl, hr, hb⟩; have HR6 := Aside0.mk hr; have HB6 := Aside0.mk hb; have hkw6 := (Fr.of_below (T := []) (B := 0) HB6.out).blk HK2.out (by simp); have hcw62 : w6.cell? ⟨W.heap.size, 2, none⟩ = some (.int .u64 gen) := (blk_cell hkw6 2).trans rfl; have hcw63 : w6.cell? ⟨W.heap.size, 3, none⟩ = some (.int .u64 root) := (blk_cell hkw6 3).trans rfl; have hcw64 : w6.cell? ⟨W.heap.size, 4, none⟩ = some (.string t) := (blk_cell hkw6 4).trans rfl; clear hkw6; clear hr hb HR5d))
          all_goals (
            go_wp2
            go_ret2
            refine ⟨v8, ?_, ?_, below_step HB2.out HB8.out⟩
            · rw [HE.out]
              rfl
            · rw [HP.out, encC]
              exact Kd.R_lower HR8.out HB2.out.size)
    )
  · have HP := Aside0.mk (show putC id ps gen root t = [] by unfold putC; rw [if_neg h])
    have h' : (comE id ps gen t != 0) = true := bne_iff_ne.mpr h
    clear h
    go_enter Try.func11, Try.ntmps11
    go_wp2_with (go_at_call 14; refine (HRA.out _ (below_alloc (Below.refl _ _) _)).mono ?_; rintro e w2 ⟨rfl, hb2⟩; have HK2 := Aside0.mk ((Fr.of_below (T := []) (B := 0) hb2).blk (blk_new _ _) (by simp)); have HB2 := Aside0.mk (below_step (below_alloc (Below.refl _ _) _) hb2); clear hb2)
    go_ret2
    refine ⟨.slice none 0 0, rfl, ?_, HB2.out⟩
    rw [HP.out]
    exact Kd.R_nil _ _ _ _ _
end Go.Proofs.Ytaijciijfofbmaa.Sep
