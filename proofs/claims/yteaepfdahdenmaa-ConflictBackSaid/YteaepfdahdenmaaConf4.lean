/- Clashes' bytes: the program's Put. Printed by gen4.py. Conditions: the bounds of the statements. -/
import Derived.Test.YteaepfdahdenmaaConf2
namespace Go.Proofs.Yteaepfdahdenmaa.Sep
set_option linter.unusedSimpArgs false
set_option linter.unusedVariables false
open Go.RowKit Go.Proofs.Yteaepfdahdenmaa.PCore Go.Proofs.Yteaepfdahdenmaa.Plain Go.Proofs.YteaepfdahdenmaaW.PrintWords Go.Proofs.YteaepfdahdenmaaW.PrintLast Go.Proofs.YteaepfdahdenmaaW.PrintMore
open Go.Proofs.Yteaepfdahdenmaa.PDat (S44 k44 z44 rd_T44 at_T44 S46 k46 z46 rd_T46 at_T46)
def encS (s : Side) : List Int := encB s.f0 ++ encT s.f1
def sidesEnc (c : Clash) : Nat → List Int
  | 0 => []
  | k + 1 => sidesEnc c k ++ encS (sideAt c k)
def encCl (c : Clash) : List Int := encT c.f0 ++ sidesEnc c 3
def encCls (l : List Clash) : List Int := (l.map encCl).flatten
def encL (l : List Clash) : List Int := enc l.length ++ encCls l
/-- What Put tells. -/
def putE (l : List Clash) : Int := if confE l ≠ 0 then confE l else if l.length ≤ 1000 then 0 else 132
def putL (l : List Clash) : List Int := if putE l = 0 then encL l else []
def SmallC (c : Clash) : Prop := c.f0.size ≤ 40 ∧ c.f1.f1.size ≤ 200 ∧ c.f2.f1.size ≤ 200 ∧ c.f3.f1.size ≤ 200
theorem side_small {s : Side} (h : sideE s = 0) : s.f1.size ≤ 200 := by
  unfold sideE at h
  split at h
  · cases h
  · omega
theorem one_small {c : Clash} (h : oneE c = 0) : SmallC c := by
  unfold oneE at h
  split at h
  · rename_i hk; exact absurd h hk
  · rename_i hk
    split at h
    · rename_i h1; exact absurd h h1
    · rename_i h1
      split at h
      · rename_i h2; exact absurd h h2
      · rename_i h2
        split at h
        · rename_i h3; exact absurd h h3
        · rename_i h3
          refine ⟨?_, side_small (by simpa using h1), side_small (by simpa using h2), side_small (by simpa using h3)⟩
          have hk' : keyE c.f0 = 0 := by simpa using hk
          unfold keyE at hk'
          split at hk'
          · cases hk'
          · split at hk'
            · cases hk'
            · omega
theorem confL_ones : ∀ {p : Option ByteArray} {l : List Clash}, confL p l = 0 → ∀ c ∈ l, oneE c = 0
  | p, [], _, c, hc => by simp at hc
  | p, x :: l, h, c, hc => by
    by_cases ho : oneE x = 0
    · rcases List.mem_cons.1 hc with rfl | hc
      · exact ho
      · cases p with
        | none =>
          have : confL none (x :: l) = confL (some x.f0) l := by simp [confL, ho]
          rw [this] at h
          exact confL_ones h c hc
        | some k =>
          cases hp : lessK k x.f0 with
          | true =>
            have : confL (some k) (x :: l) = confL (some x.f0) l := by simp [confL, ho, hp]
            rw [this] at h
            exact confL_ones h c hc
          | false =>
            have : confL (some k) (x :: l) = 132 := by simp [confL, ho, hp]
            rw [this] at h
            cases h
    · have : confL p (x :: l) = oneE x := by simp [confL, ho]
      rw [this] at h
      exact absurd h ho
theorem putE_zero {l : List Clash} (h : putE l = 0) : confE l = 0 ∧ l.length ≤ 1000 ∧ ∀ c ∈ l, SmallC c := by
  unfold putE at h
  split at h
  · rename_i hc; exact absurd h hc
  · rename_i hc
    have hc' : confE l = 0 := by simpa using hc
    split at h
    · rename_i hl
      exact ⟨hc', hl, fun c hcl => one_small (confL_ones hc' c hcl)⟩
    · cases h
theorem encS_len {s : Side} (h : s.f1.size ≤ 200) : (encS s).length ≤ 211 := by
  have := encT_len s.f1 (by omega)
  simp only [encS, List.length_append, encB, List.length_cons, List.length_nil]
  omega
theorem sides_len {c : Clash} (h : SmallC c) : ∀ k : Nat, (sidesEnc c k).length ≤ 211 * k
  | 0 => by simp [sidesEnc]
  | k + 1 => by
    have h1 := sides_len h k
    have h2 : (encS (sideAt c k)).length ≤ 211 := by
      unfold sideAt
      split
      · exact encS_len h.2.1
      · split
        · exact encS_len h.2.2.1
        · exact encS_len h.2.2.2
    simp only [sidesEnc, List.length_append]
    omega
theorem encCl_len {c : Clash} (h : SmallC c) : (encCl c).length ≤ 700 := by
  have h1 := encT_len c.f0 (by have := h.1; omega)
  have h2 := sides_len h 3
  have := h.1
  simp only [encCl, List.length_append]
  omega
theorem encCls_len : ∀ {l : List Clash}, (∀ c ∈ l, SmallC c) → (encCls l).length ≤ 700 * l.length
  | [], _ => by simp [encCls]
  | x :: l, h => by
    have h1 := encCl_len (h x (by simp))
    have h2 := encCls_len (l := l) (fun y hy => h y (by simp [hy]))
    simp only [encCls, List.map_cons, List.flatten_cons, List.length_append, List.length_cons] at h2 ⊢
    omega
theorem encCls_take {l : List Clash} (i : Nat) (h : i < l.length) : encCls (l.take (i + 1)) = encCls (l.take i) ++ encCl (rd_T46 l (i : Int)) := by
  rw [cl_at i h, take_one l i h]
  unfold encCls
  rw [List.map_append, List.flatten_append]
  simp
set_option maxHeartbeats 16000000 in
set_option maxRecDepth 100000 in
theorem put13_calls (A : Option Addr) (n : Nat) (l : List Clash) (W : World) (hC : Kd.C k46 W A l.length l) (hn : l.length ≤ 9223372036854775807) :
    Calls Try.prog 7 #[.slice A l.length n] W fun e W1 => ∃ v, e = .returned (.tuple #[v, .int .i64 (putE l)]) ∧ Kd.R (Kd.int .u8) 5 W1 W.heap.size (fun _ => True) v (putL l) ∧ Below W.heap.size W W1 := by
  have HC := Aside0.mk hC
  have HN := Aside0.mk hn
  have HR := Aside0.mk (right13_calls A n l W hC hn)
  clear hC hn
  have huF := Try.underlying46
  have huS := Try.underlying44
  by_cases he : confE l = 0
  · by_cases hl : (1000 : Int) < (l.length : Int)
    · have hl' : decide ((1000 : Int) < (l.length : Int)) = true := decide_eq_true hl
      have HE := Aside0.mk he
      have HP := Aside0.mk (show putE l = 132 by unfold putE; rw [if_neg (by simpa using he), if_neg (by omega)])
      clear he hl
      go_enter Try.func7, Try.ntmps7
      go_wp2_with (go_at_call 11; refine HR.out.mono ?_; rw [HE.out]; rintro e w2 ⟨rfl, hb⟩; have HB2 := Aside0.mk hb; clear hb)
      go_ret2
      refine ⟨.slice none 0 0, by rw [HP.out]; rfl, ?_, HB2.out⟩
      have : putL l = [] := by unfold putL; rw [HP.out]; rfl
      rw [this]
      exact Kd.R_nil _ _ _ _ _
    · have hl' : decide ((1000 : Int) < (l.length : Int)) = false := decide_eq_false hl
      have HE := Aside0.mk he
      have HP := Aside0.mk (show putE l = 0 by unfold putE; rw [if_neg (by simpa using he), if_pos (by omega)])
      have HPL := Aside0.mk (show putL l = encL l by unfold putL; rw [if_pos HP.out])
      have HSM := Aside0.mk (putE_zero HP.out)
      have HL := Aside0.mk (enc_len_u64 (n := (l.length : Int)) (by omega) (by omega))
      have hcl : IntKind.u64.wrap (l.length : Int) = (l.length : Int) := by rw [IntKind.wrap_u64]; omega
      clear he hl
      go_enter Try.func7, Try.ntmps7
      go_wp2_with (first | (go_at_call 11; refine HR.out.mono ?_; rw [HE.out]; rintro e w2 ⟨rfl, hb⟩; have HB2 := Aside0.mk (below_alloc hb (.cells #[.slice none 0 0] 49)); have HW2 := Aside0.mk (show WrAt W.heap.size w2.heap.size (w2.alloc (.cells #[.slice none 0 0] 49)) [] from ⟨_, blk_new _ _, hb.size, Kd.R_nil _ _ _ _ _⟩); clear hb) | (go_at_call 15; refine (wr_num1_at W.heap.size w2.heap.size _ [] (l.length : Int) _ (size_one _ _) HW2.out ⟨by omega, by have := HSM.out.2.1; omega⟩ (by decide)).mono ?_; rintro e w3 ⟨rfl, hw, hf⟩; have HW3 := Aside0.mk hw; have HB3 := Aside0.mk (HB2.out.trans (hf.below HB2.out.size)); clear hw hf))
      generalize w2.heap.size = gw at HW3 ⊢
      go_loopg [28] l.length (fun kq v28 w' => ∃ i : Nat, v28 = .int .i64 i ∧ Aside0 (i ≤ l.length ∧ kq = l.length - i) ∧ Aside0 (WrAt W.heap.size gw w' (enc l.length ++ encCls (l.take i))) ∧ Aside0 (Below W.heap.size W w'))
      case atStart => exact ⟨0, rfl, ⟨by omega, by omega⟩, ⟨by have := HW3.out; rw [List.nil_append] at this; simpa [encCls] using this⟩, ⟨HB3.out⟩⟩
      case round =>
        obtain ⟨i, rfl, HI, HW, HB⟩ := hrel
        by_cases hlt : i < l.length
        · obtain ⟨ad, rfl, h0, h1, h2, h3, h4, h5, h6⟩ := at_T46 (Kd.C_below HC.out HB.out) (i : Int) (by omega) (by omega)
          have HTK := Aside0.mk (encCls_take i hlt)
          have HSI0 := HSM.out.2.2 _ (List.getElem_mem hlt)
          rw [← cl_at i hlt] at HSI0
          have HSI := Aside0.mk HSI0
          clear HSI0
          have HLB := Aside0.mk (show (enc (l.length : Int) ++ encCls (l.take i)).length ≤ 700100 by
            have h1 := encCls_len (l := l.take i) (fun c hc => HSM.out.2.2 c (List.mem_of_mem_take hc))
            have h2 := HL.out
            have h3 := HSM.out.2.1
            rw [List.length_take] at h1
            rw [List.length_append]
            omega)
          simp only [Int.toNat_natCast] at h0 h1 h2 h3 h4 h5 h6
          generalize hc : rd_T46 l (i : Int) = c at h0 h1 h2 h3 h4 h5 h6 HTK HSI
          clear hc
          obtain ⟨f0, ⟨g0, g1⟩, ⟨p0, p1⟩, ⟨q0, q1⟩⟩ := c
          simp only at h0 h1 h2 h3 h4 h5 h6
          have hlt' : (i : Int) < (l.length : Int) := by omega
          have HWI := Aside0.mk (show wrap64 ((i : Int) + 1) = ((i + 1 : Nat) : Int) by have := HN.out; unfold wrap64; omega)
          have HZ0 := Aside0.mk (show f0.size ≤ 40 from HSI.out.1)
          have HSL := Aside0.mk (sides_len HSI.out)
          generalize hbs : enc (l.length : Int) ++ encCls (l.take i) = bs at HW HLB
          have HBS := Aside0.mk hbs
          clear hbs
          have hi0 := fun w => idx0 g0 p0 q0 g1 p1 q1 w
          have hi1 := fun w => idx1 g0 p0 q0 g1 p1 q1 w
          have hi2 := fun w => idx2 g0 p0 q0 g1 p1 q1 w
          go_wp2_with (go_at_call 16; refine (wr_text W.heap.size gw bs f0 _ (HW.out.below (below_alloc (Below.refl _ _) _)) (by have := HLB.out; have := HZ0.out; omega)).mono ?_; rintro e w4 ⟨rfl, hw, hf⟩; have HW4 := Aside0.mk hw; have HB4 := Aside0.mk (HB.out.trans ((Fr.alloc hf).below HB.out.size)); have hv4 := hf.blk (blk_new wr (.cells #[.string f0, .bool g0, .string g1, .bool p0, .string p1, .bool q0, .string q1] 46)) (by decide); have v0 : World.cell? w4 ⟨wr.heap.size, 0, none⟩ = some (.string f0) := (blk_cell hv4 0).trans rfl; have v1 : World.cell? w4 ⟨wr.heap.size, 1, none⟩ = some (.bool g0) := (blk_cell hv4 1).trans rfl; have v2 : World.cell? w4 ⟨wr.heap.size, 2, none⟩ = some (.string g1) := (blk_cell hv4 2).trans rfl; have v3 : World.cell? w4 ⟨wr.heap.size, 3, none⟩ = some (.bool p0) := (blk_cell hv4 3).trans rfl; have v4 : World.cell? w4 ⟨wr.heap.size, 4, none⟩ = some (.string p1) := (blk_cell hv4 4).trans rfl; have v5 : World.cell? w4 ⟨wr.heap.size, 5, none⟩ = some (.bool q0) := (blk_cell hv4 5).trans rfl; have v6 : World.cell? w4 ⟨wr.heap.size, 6, none⟩ = some (.string q1) := (blk_cell hv4 6).trans rfl; clear hw hf hv4)
          clear h0 h1 h2 h3 h4 h5 h6 v0 v1 v2 v3 v4 v5 v6
          go_loopg [43] 3 (fun kq v43 w' => ∃ k : Nat, v43 = .int .i64 k ∧ Aside0 (k ≤ 3 ∧ kq = 3 - k) ∧ Aside0 (WrAt W.heap.size gw w' (bs ++ encT f0 ++ sidesEnc ⟨f0, ⟨g0, g1⟩, ⟨p0, p1⟩, ⟨q0, q1⟩⟩ k)) ∧ Aside0 (Below W.heap.size W w'))
          case atStart => exact ⟨0, rfl, ⟨by omega, by omega⟩, ⟨by have := HW4.out; simpa [sidesEnc] using this⟩, ⟨HB4.out⟩⟩
          case round =>
            obtain ⟨k, rfl, HI3, HWk, HBk⟩ := hrel
            have HT0 := Aside0.mk (encT_len f0 (by have := HZ0.out; omega))
            rcases (show k = 0 ∨ k = 1 ∨ k = 2 ∨ k = 3 by have := HI3.out; omega) with rfl | rfl | rfl | rfl
            · go_wp2_with (first | (go_at_call 17; refine (wr_flag W.heap.size gw _ g0 _ (HWk.out.below (below_alloc (Below.refl _ _) _)) (by have h1 := HLB.out; have h2 := HT0.out; have h3 := HZ0.out; have h4 := HSL.out 0; simp only [List.length_append]; omega)).mono ?_; rintro e w5 ⟨rfl, hw, hf⟩; have HW5 := Aside0.mk hw; have HB5 := Aside0.mk (HBk.out.trans ((Fr.alloc hf).below HBk.out.size)); have hy := hf.blk (blk_new wr (.cells #[.bool g0, .string g1] 44)) (by decide); have y1 : World.cell? w5 ⟨wr.heap.size, 1, none⟩ = some (.string g1) := (blk_cell hy 1).trans rfl; clear hw hf hy) | (go_at_call 16; refine (wr_text W.heap.size gw _ g1 _ HW5.out (by have h1 := HLB.out; have h2 := HT0.out; have h3 := HZ0.out; have h4 := HSL.out 0; have h5 := HSI.out.2; have h6 : g1.size ≤ 200 := (by first | exact h5.1 | exact h5.2.1 | exact h5.2.2); have h7 : (encB g0).length = 1 := rfl; simp only [List.length_append, h7]; omega)).mono ?_; rintro e w6 ⟨rfl, hw, hf⟩; have HW6 := Aside0.mk hw; have HB6 := Aside0.mk (HB5.out.trans (hf.below HB5.out.size)); clear hw hf))
              go_roundg 2
              case measure => have := HI3.out; omega
              case rel => exact ⟨1, rfl, ⟨by omega, by omega⟩, ⟨by have := HW6.out; simpa [sidesEnc, encS, sideAt, List.append_assoc] using this⟩, ⟨HB6.out⟩⟩
            · go_wp2_with (first | (go_at_call 17; refine (wr_flag W.heap.size gw _ p0 _ (HWk.out.below (below_alloc (Below.refl _ _) _)) (by have h1 := HLB.out; have h2 := HT0.out; have h3 := HZ0.out; have h4 := HSL.out 1; simp only [List.length_append]; omega)).mono ?_; rintro e w5 ⟨rfl, hw, hf⟩; have HW5 := Aside0.mk hw; have HB5 := Aside0.mk (HBk.out.trans ((Fr.alloc hf).below HBk.out.size)); have hy := hf.blk (blk_new wr (.cells #[.bool p0, .string p1] 44)) (by decide); have y1 : World.cell? w5 ⟨wr.heap.size, 1, none⟩ = some (.string p1) := (blk_cell hy 1).trans rfl; clear hw hf hy) | (go_at_call 16; refine (wr_text W.heap.size gw _ p1 _ HW5.out (by have h1 := HLB.out; have h2 := HT0.out; have h3 := HZ0.out; have h4 := HSL.out 1; have h5 := HSI.out.2; have h6 : p1.size ≤ 200 := (by first | exact h5.1 | exact h5.2.1 | exact h5.2.2); have h7 : (encB p0).length = 1 := rfl; simp only [List.length_append, h7]; omega)).mono ?_; rintro e w6 ⟨rfl, hw, hf⟩; have HW6 := Aside0.mk hw; have HB6 := Aside0.mk (HB5.out.trans (hf.below HB5.out.size)); clear hw hf))
              go_roundg 1
              case measure => have := HI3.out; omega
              case rel => exact ⟨2, rfl, ⟨by omega, by omega⟩, ⟨by have := HW6.out; simpa [sidesEnc, encS, sideAt, List.append_assoc] using this⟩, ⟨HB6.out⟩⟩
            · go_wp2_with (first | (go_at_call 17; refine (wr_flag W.heap.size gw _ q0 _ (HWk.out.below (below_alloc (Below.refl _ _) _)) (by have h1 := HLB.out; have h2 := HT0.out; have h3 := HZ0.out; have h4 := HSL.out 2; simp only [List.length_append]; omega)).mono ?_; rintro e w5 ⟨rfl, hw, hf⟩; have HW5 := Aside0.mk hw; have HB5 := Aside0.mk (HBk.out.trans ((Fr.alloc hf).below HBk.out.size)); have hy := hf.blk (blk_new wr (.cells #[.bool q0, .string q1] 44)) (by decide); have y1 : World.cell? w5 ⟨wr.heap.size, 1, none⟩ = some (.string q1) := (blk_cell hy 1).trans rfl; clear hw hf hy) | (go_at_call 16; refine (wr_text W.heap.size gw _ q1 _ HW5.out (by have h1 := HLB.out; have h2 := HT0.out; have h3 := HZ0.out; have h4 := HSL.out 2; have h5 := HSI.out.2; have h6 : q1.size ≤ 200 := (by first | exact h5.1 | exact h5.2.1 | exact h5.2.2); have h7 : (encB q0).length = 1 := rfl; simp only [List.length_append, h7]; omega)).mono ?_; rintro e w6 ⟨rfl, hw, hf⟩; have HW6 := Aside0.mk hw; have HB6 := Aside0.mk (HB5.out.trans (hf.below HB5.out.size)); clear hw hf))
              go_roundg 0
              case measure => have := HI3.out; omega
              case rel => exact ⟨3, rfl, ⟨by omega, by omega⟩, ⟨by have := HW6.out; simpa [sidesEnc, encS, sideAt, List.append_assoc] using this⟩, ⟨HB6.out⟩⟩
            · go_wp2
              go_roundg (l.length - (i + 1))
              case measure => have := HI.out; omega
              case rel => exact ⟨i + 1, by rw [HWI.out], ⟨by omega, rfl⟩, ⟨by
                have h := HWk.out
                rw [HTK.out, ← List.append_assoc, HBS.out, encCl, ← List.append_assoc]
                exact h⟩, ⟨HBk.out⟩⟩
        · have hI : i = l.length := by have := HI.out; omega
          subst hI
          go_wp2_with (go_at_call 18; refine (wr_bytes W.heap.size gw _ _ HW.out (by have h1 := encCls_len (l := l.take l.length) (fun c hc => HSM.out.2.2 c (List.mem_of_mem_take hc)); have h2 := HL.out; have h3 := HSM.out.2.1; rw [List.length_take] at h1; rw [List.length_append]; omega)).mono ?_; rintro e w7 ⟨v, rfl, hr, hb⟩; have HR7 := Aside0.mk hr; have HB7 := Aside0.mk (below_step HB.out hb); clear hr hb)
          go_ret2
          refine ⟨v, by rw [HP.out]; rfl, ?_, HB7.out⟩
          rw [HPL.out, encL]
          have := HR7.out
          rw [List.take_length] at this
          exact Kd.R_lower this HB.out.size
  · have he' : (confE l != 0) = true := bne_iff_ne.mpr he
    have HP := Aside0.mk (show putE l = confE l by unfold putE; rw [if_pos he])
    have HPL := Aside0.mk (show putL l = [] by unfold putL; rw [HP.out, if_neg he])
    clear he
    go_enter Try.func7, Try.ntmps7
    go_wp2_with (go_at_call 11; refine HR.out.mono ?_; rintro e w2 ⟨rfl, hb⟩; have HB2 := Aside0.mk hb; clear hb)
    go_ret2
    refine ⟨.slice none 0 0, by rw [HP.out]; rfl, ?_, HB2.out⟩
    rw [HPL.out]
    exact Kd.R_nil _ _ _ _ _
end Go.Proofs.Yteaepfdahdenmaa.Sep
