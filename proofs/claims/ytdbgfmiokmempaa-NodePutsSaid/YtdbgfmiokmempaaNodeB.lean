/- Which nodes may be: the program's Right. Conditions: the bounds of the statements. · Which nodes may be: the walk of the program's Right. Printed by gen7.py. Conditions: the bounds of the statements. -/
import Derived.Test.YtdbgfmiokmempaaNodeA
import Derived.Test.YtdbgfmiokmempaaCodec
import Derived.Test.YtdbgfmiokmempaaPackPut
import Derived.Deep.RegionWith
import Derived.BigQuiet
namespace Go.Proofs.Ytdbgfmiokmempaa.Sep
set_option linter.unusedSimpArgs false
set_option linter.unusedVariables false
open Go.RowKit Go.Proofs.Ytdbgfmiokmempaa.PCore Go.Proofs.Ytdbgfmiokmempaa.Plain Go.Proofs.YtdbgfmiokmempaaW.PrintWords Go.Proofs.YtdbgfmiokmempaaW.PrintLast Go.Proofs.YtdbgfmiokmempaaW.PrintMore
open Go.Proofs.Ytdbgfmiokmempaa.PDat (S27 k27 z27 rd_T27 at_T27 S60 k60 z60 rd_T60 at_T60 node_keys.f node_keys.calls node_texts.f node_texts.calls)
open Ends (endsB)
/-- Whether a key comes ahead of another one. -/
def lessK (a b : ByteArray) : Bool := Op.bytesLess a.toList b.toList
theorem str_geq (a b : ByteArray) (w : World) : (binOp .geq 9 (.string a) (.string b)).run Try.prog w = .ok (.bool (!Op.bytesLess a.toList b.toList)) w := by
  first | rfl | kernel_rfl
/-- Whether keys rise, and none but the last ends a node. -/
def riseB (lev : Int) : Option ByteArray → List ByteArray → Bool
  | _, [] => true
  | p, k :: l => (match p with | some q => lessK q k | none => true) && ((l.isEmpty || !endsB lev k) && riseB lev (some k) l)
def idsB (ks : List Kid) : Bool := ks.all fun k => !(k.f1 == 0)
def shapeB (lev : Int) (ne nk : Nat) : Bool := if 0 < lev then decide (lev ≤ 20) && (decide (0 < nk) && decide (ne = 0)) else decide (lev = 0) && (decide (0 < ne) && decide (nk = 0))
/-- A node's keys. -/
def keysL (es : List Entry) (ks : List Kid) : List ByteArray := es.map (·.f0) ++ ks.map (·.f0)
/-- What is wrong with a node. -/
def nodeE (lev : Int) (es : List Entry) (ks : List Kid) : Int :=
  if textsE es ks = 0 then (if shapeB lev es.length ks.length = true then (if riseB lev none (keysL es ks) = true then (if idsB ks = true then 0 else 90) else 90) else 90) else textsE es ks
theorem texts_calls (lev : Int) (A0 : Option Addr) (c0 : Nat) (es : List Entry) (A1 : Option Addr) (c1 : Nat) (ks : List Kid) (w : World) (hC0 : Kd.C k27 w A0 es.length es) (hc0 : es.length ≤ c0) (hC1 : Kd.C k60 w A1 ks.length ks) (hc1 : ks.length ≤ c1) (hn0 : es.length ≤ 1000000) (hn1 : ks.length ≤ 1000000) :
    Calls Try.prog 49 #[.agg #[.int .i64 lev, .slice A0 es.length c0, .slice A1 ks.length c1]] w fun e w' => e = .returned (.int .i64 (textsE es ks)) ∧ Below w.heap.size w w' := by
  obtain ⟨k, h⟩ := Ev.rounds (texts_form lev es ks hn0 hn1)
  exact node_texts.calls k lev A0 c0 es A1 c1 ks _ w hC0 hc0 hC1 hc1 h
theorem keys_calls (lev : Int) (A0 : Option Addr) (c0 : Nat) (es : List Entry) (A1 : Option Addr) (c1 : Nat) (ks : List Kid) (w : World) (hC0 : Kd.C k27 w A0 es.length es) (hc0 : es.length ≤ c0) (hC1 : Kd.C k60 w A1 ks.length ks) (hc1 : ks.length ≤ c1) (hn0 : es.length ≤ 1000000) (hn1 : ks.length ≤ 1000000) :
    Calls Try.prog 50 #[.agg #[.int .i64 lev, .slice A0 es.length c0, .slice A1 ks.length c1]] w fun e w' => ∃ A c, e = .returned (.slice A (keysL es ks).length c) ∧ (keysL es ks).length ≤ c ∧ Kd.C Kd.string w' A (keysL es ks).length (keysL es ks) ∧ Below w.heap.size w w' := by
  obtain ⟨k, h⟩ := Ev.rounds (keys_form lev es ks hn0 hn1)
  refine (node_keys.calls k lev A0 c0 es A1 c1 ks _ w hC0 hc0 hC1 hc1 h).mono ?_
  rintro e w' ⟨v, rfl, hr, hb⟩
  obtain ⟨A, c, rfl, hc, hC⟩ := Kd.R_reads hr
  exact ⟨A, c, rfl, hc, hC, hb⟩
theorem nodeE_texts {lev : Int} {es : List Entry} {ks : List Kid} (h : textsE es ks ≠ 0) : nodeE lev es ks = textsE es ks := by unfold nodeE; rw [if_neg h]
theorem nodeE_shape {lev : Int} {es : List Entry} {ks : List Kid} (h : textsE es ks = 0) (hs : shapeB lev es.length ks.length = false) : nodeE lev es ks = 90 := by unfold nodeE; rw [if_pos h, if_neg (by rw [hs]; decide)]
theorem nodeE_rise {lev : Int} {es : List Entry} {ks : List Kid} (h : textsE es ks = 0) (hr : riseB lev none (keysL es ks) = false) : nodeE lev es ks = 90 := by
  unfold nodeE
  rw [if_pos h, hr]
  simp
theorem nodeE_ids {lev : Int} {es : List Entry} {ks : List Kid} (h : textsE es ks = 0) (hr : idsB ks = false) : nodeE lev es ks = 90 := by
  unfold nodeE
  rw [if_pos h, hr]
  simp
theorem nodeE_ok {lev : Int} {es : List Entry} {ks : List Kid} (h : textsE es ks = 0) (hs : shapeB lev es.length ks.length = true) (hr : riseB lev none (keysL es ks) = true) (hi : idsB ks = true) : nodeE lev es ks = 0 := by
  unfold nodeE
  rw [if_pos h, hs, hr, hi]
  simp
def prevS (l : List ByteArray) (i : Nat) : Option ByteArray := if i = 0 then none else some (rdOf ByteArray.empty l ((i - 1 : Nat) : Int))
theorem st_at {l : List ByteArray} (i : Nat) (hi : i < l.length) : rdOf ByteArray.empty l (i : Int) = l[i] := by simp [rdOf, List.getD, hi]
theorem st_drop (l : List ByteArray) (i : Nat) (h : i < l.length) : l.drop i = rdOf ByteArray.empty l (i : Int) :: l.drop (i + 1) := by
  rw [List.drop_eq_getElem_cons h, st_at i h]
theorem prevS_succ (l : List ByteArray) (i : Nat) : prevS l (i + 1) = some (rdOf ByteArray.empty l (i : Int)) := by simp [prevS]
theorem entsE_in : ∀ {es : List Entry}, entsE es = 0 → ∀ x ∈ es, x.f0.size ≤ 40 ∧ x.f1.size ≤ 200
  | [], _, x, hx => by simp at hx
  | y :: l, h, x, hx => by
    unfold entsE at h
    by_cases h1 : keyE y.f0 = 0
    · rw [if_pos h1] at h
      by_cases h2 : valE y.f1 = 0
      · rw [if_pos h2] at h
        rcases List.mem_cons.1 hx with rfl | hx
        · unfold keyE at h1
          unfold valE at h2
          constructor
          · split at h1
            · cases h1
            · split at h1
              · cases h1
              · omega
          · split at h2
            · cases h2
            · omega
        · exact entsE_in h x hx
      · rw [if_neg h2] at h; exact absurd h h2
    · rw [if_neg h1] at h; exact absurd h h1
theorem kidsE_in : ∀ {ks : List Kid}, kidsE ks = 0 → ∀ x ∈ ks, x.f0.size ≤ 40
  | [], _, x, hx => by simp at hx
  | y :: l, h, x, hx => by
    unfold kidsE at h
    by_cases h1 : keyE y.f0 = 0
    · rw [if_pos h1] at h
      rcases List.mem_cons.1 hx with rfl | hx
      · unfold keyE at h1
        split at h1
        · cases h1
        · split at h1
          · cases h1
          · omega
      · exact kidsE_in h x hx
    · rw [if_neg h1] at h; exact absurd h h1
theorem textsE_in {es : List Entry} {ks : List Kid} (h : textsE es ks = 0) : (∀ x ∈ es, x.f0.size ≤ 40 ∧ x.f1.size ≤ 200) ∧ ∀ x ∈ ks, x.f0.size ≤ 40 := by
  unfold textsE at h
  by_cases h1 : entsE es = 0
  · rw [if_pos h1] at h
    exact ⟨entsE_in h1, kidsE_in h⟩
  · rw [if_neg h1] at h; exact absurd h h1
theorem keysL_in {es : List Entry} {ks : List Kid} (h : textsE es ks = 0) : ∀ k ∈ keysL es ks, k.size ≤ 40 := by
  obtain ⟨h1, h2⟩ := textsE_in h
  intro k hk
  unfold keysL at hk
  rcases List.mem_append.1 hk with hk | hk
  · obtain ⟨x, hx, rfl⟩ := List.mem_map.1 hk
    exact (h1 x hx).1
  · obtain ⟨x, hx, rfl⟩ := List.mem_map.1 hk
    exact h2 x hx
theorem keysL_len (es : List Entry) (ks : List Kid) : (keysL es ks).length = es.length + ks.length := by simp [keysL]
end Go.Proofs.Ytdbgfmiokmempaa.Sep
namespace Go.Proofs.Ytdbgfmiokmempaa.Sep
set_option linter.unusedSimpArgs false
set_option linter.unusedVariables false
open Go.RowKit Go.Proofs.Ytdbgfmiokmempaa.PCore Go.Proofs.Ytdbgfmiokmempaa.Plain Go.Proofs.YtdbgfmiokmempaaW.PrintWords Go.Proofs.YtdbgfmiokmempaaW.PrintLast Go.Proofs.YtdbgfmiokmempaaW.PrintMore
open Go.Proofs.Ytdbgfmiokmempaa.PDat (S27 k27 z27 rd_T27 at_T27 S60 k60 z60 rd_T60 at_T60)
open Ends (endsB)
theorem rise_none (lev : Int) (k : ByteArray) (l : List ByteArray) : riseB lev none (k :: l) = ((l.isEmpty || !endsB lev k) && riseB lev (some k) l) := by simp [riseB]
theorem rise_some (lev : Int) (q k : ByteArray) (l : List ByteArray) (h : lessK q k = true) : riseB lev (some q) (k :: l) = ((l.isEmpty || !endsB lev k) && riseB lev (some k) l) := by simp [riseB, h]
theorem rise_bad (lev : Int) (q k : ByteArray) (l : List ByteArray) (h : lessK q k = false) : riseB lev (some q) (k :: l) = false := by simp [riseB, h]
theorem drop_empty {l : List ByteArray} {i m : Nat} (hm : l.length = m + 1) (h : ¬ i < m) : (l.drop (i + 1)).isEmpty = true := by
  rw [List.drop_eq_nil_of_le (by omega)]
  rfl
theorem drop_full {l : List ByteArray} {i m : Nat} (hm : l.length = m + 1) (h : i < m) : (l.drop (i + 1)).isEmpty = false := by
  rw [List.isEmpty_eq_false_iff]
  intro h'
  have := congrArg List.length h'
  rw [List.length_drop] at this
  simp at this
  omega
theorem all_take (ks : List Kid) (i : Nat) (h : i < ks.length) : idsB (ks.take (i + 1)) = (idsB (ks.take i) && !((rd_T60 ks (i : Int)).f1 == 0)) := by
  unfold idsB
  rw [ki_at i h, take_one ks i h, List.all_append]
  simp
theorem all_bad (ks : List Kid) (i : Nat) (h : i < ks.length) (h0 : (rd_T60 ks (i : Int)).f1 = 0) : idsB ks = false := by
  rw [← Bool.not_eq_true]
  intro hl
  simp only [idsB, List.all_eq_true] at hl
  have := hl _ (List.getElem_mem h)
  rw [← ki_at i h, h0] at this
  cases this
set_option maxHeartbeats 16000000 in
set_option maxRecDepth 100000 in
theorem right9_calls (lev : Int) (A0 : Option Addr) (c0 : Nat) (es : List Entry) (A1 : Option Addr) (c1 : Nat) (ks : List Kid) (W : World) (hC0 : Kd.C k27 W A0 es.length es) (hc0 : es.length ≤ c0) (hC1 : Kd.C k60 W A1 ks.length ks) (hc1 : ks.length ≤ c1) (hn0 : es.length ≤ 1000000) (hn1 : ks.length ≤ 1000000) :
    Calls Try.prog 25 #[.agg #[.int .i64 lev, .slice A0 es.length c0, .slice A1 ks.length c1]] W fun e W1 => e = .returned (.int .i64 (nodeE lev es ks)) ∧ Below W.heap.size W W1 := by
  have HT := Aside0.mk (fun w (hb : Below W.heap.size W w) => texts_calls lev A0 c0 es A1 c1 ks w (Kd.C_below hC0 hb) hc0 (Kd.C_below hC1 hb) hc1 hn0 hn1)
  have HK := Aside0.mk (fun w (hb : Below W.heap.size W w) => keys_calls lev A0 c0 es A1 c1 ks w (Kd.C_below hC0 hb) hc0 (Kd.C_below hC1 hb) hc1 hn0 hn1)
  have HC1 := Aside0.mk hC1
  have HN0 := Aside0.mk hn0
  have HN1 := Aside0.mk hn1
  have HKL := Aside0.mk (keysL_len es ks)
  clear hC0 hc0 hC1 hc1 hn0 hn1
  have huF := Try.underlying34
  have huK := Try.underlying60
  have hgeq := str_geq
  by_cases ht : textsE es ks = 0
  · have HT0 := Aside0.mk ht
    have HKI := Aside0.mk (keysL_in ht)
    clear ht
    by_cases hs : shapeB lev es.length ks.length = true
    · have HS := Aside0.mk hs
      clear hs
      by_cases hl0 : 0 < lev
      · have hh : lev ≤ 20 ∧ 0 < ks.length ∧ es.length = 0 := by have h := HS.out; simp only [shapeB] at h; rw [if_pos hl0] at h; simpa only [Bool.and_eq_true, decide_eq_true_eq] using h
        have d1 : decide (lev < 0) = false := decide_eq_false (by omega)
        have d0 : decide (0 < lev) = true := decide_eq_true (by omega)
        have d20 : decide (20 < lev) = false := decide_eq_false (by omega)
        have ek : ((ks.length : Int) == 0) = false := beq_eq_false_iff_ne.mpr (by omega)
        have ek' : (ks.length == 0) = false := beq_eq_false_iff_ne.mpr (by omega)
        have gk : decide ((0 : Int) < (ks.length : Int)) = true := decide_eq_true (by omega)
        have gk' : decide (0 < ks.length) = true := decide_eq_true (by omega)
        have ee : ((es.length : Int) == 0) = true := beq_iff_eq.mpr (by omega)
        have ee' : (es.length == 0) = true := beq_iff_eq.mpr (by omega)
        have ge : decide ((0 : Int) < (es.length : Int)) = false := decide_eq_false (by omega)
        have ge' : decide (0 < es.length) = false := decide_eq_false (by omega)
        clear hl0 hh
        go_enter Try.func25, Try.ntmps25
        go_wp2_with (go_at_call 49; refine (HT.out _ (below_alloc (Below.refl _ _) _)).mono ?_; rw [HT0.out]; rintro e w1 ⟨rfl, hb⟩; have HB1 := Aside0.mk (below_step (below_alloc (Below.refl _ _) (.cells #[.int .i64 lev, .slice A0 es.length c0, .slice A1 ks.length c1] 34)) hb); have hk1 := (Fr.of_below (B := 0) (T := []) hb).blk (blk_new W (.cells #[.int .i64 lev, .slice A0 es.length c0, .slice A1 ks.length c1] 34)) (by simp); have HK1 := Aside0.mk hk1; have a0 : World.cell? w1 ⟨W.heap.size, 0, none⟩ = some (.int .i64 lev) := (blk_cell hk1 0).trans rfl; have a1 : World.cell? w1 ⟨W.heap.size, 1, none⟩ = some (.slice A0 es.length c0) := (blk_cell hk1 1).trans rfl; have a2 : World.cell? w1 ⟨W.heap.size, 2, none⟩ = some (.slice A1 ks.length c1) := (blk_cell hk1 2).trans rfl; clear hb hk1)
        go_quiet (fail)
        go_wp2_with (go_at_call 50; refine (HK.out _ (pw_below_drewN HB1.out _)).mono ?_; rintro e w2 ⟨A2, c2, rfl, hc2, hC2, hb⟩; have HB2 := Aside0.mk (below_step (pw_below_drewN HB1.out _) hb); have HC2 := Aside0.mk hC2; have HK2 := Aside0.mk ((Fr.of_below (B := 0) (T := []) hb).blk (blk_drewN HK1.out _) (by simp)); clear hb hC2 hc2 a0 a1 a2)
        have HKC := Aside0.mk (show (keysL es ks).length ≤ 2000000 by have := HKL.out; have := HN0.out; have := HN1.out; omega)
        generalize hl9 : keysL es ks = l at HKI HC2 HKC ⊢
        have HLE := Aside0.mk hl9
        clear hl9 HKL
        go_loopg [47] l.length (fun kq v47 w' => ∃ i : Nat, v47 = .int .i64 i ∧ Aside0 (i ≤ l.length ∧ kq = l.length - i) ∧ Aside0 (riseB lev none l = riseB lev (prevS l i) (l.drop i)) ∧ Aside0 (Below w2.heap.size w2 w'))
        case atStart => exact ⟨0, rfl, ⟨by omega, by omega⟩, ⟨rfl⟩, ⟨Below.refl _ _⟩⟩
        case round =>
          obtain ⟨i, rfl, HI, HE, HB⟩ := hrel
          by_cases hlt : i < l.length
          · obtain ⟨ad, rfl, h0⟩ := Kd.at_string (Kd.C_below HC2.out HB.out) (i : Int) (by omega) (by omega)
            have hE := HE.out
            rw [st_drop l i hlt] at hE
            have hin := HKI.out _ (List.getElem_mem hlt)
            rw [← st_at i hlt] at hin
            have HE2 := Aside0.mk hE
            have HPS := Aside0.mk (prevS_succ l i)
            have hk3 := (Fr.of_below (B := 0) (T := []) HB.out).blk HK2.out (by simp)
            have a0 : World.cell? wr ⟨W.heap.size, 0, none⟩ = some (.int .i64 lev) := (blk_cell hk3 0).trans rfl
            clear hE HE hk3
            simp only [Int.toNat_natCast] at h0
            generalize hc : rdOf ByteArray.empty l (i : Int) = key at h0 HE2 HPS hin
            clear hc
            have HKZ := Aside0.mk (show key.size ≤ 140737488355328 by omega)
            clear hin
            have hlt' : (i : Int) < (l.length : Int) := by omega
            have HWI := Aside0.mk (show wrap64 ((i : Int) + 1) = ((i + 1 : Nat) : Int) by have := HKC.out; unfold wrap64; omega)
            obtain ⟨m, hm⟩ : ∃ m : Nat, l.length = m + 1 := ⟨l.length - 1, by omega⟩
            have hwm : wrap64 ((l.length : Int) - 1) = (m : Int) := by have := HKC.out; unfold wrap64; omega
            have hwm2 : IntKind.i64.wrap ((l.length : Int) - 1) = (m : Int) := by first | exact hwm | (rw [i64_w]; exact hwm)
            have HM := Aside0.mk hm
            clear hm
            by_cases hi : i = 0
            · have hi' : decide ((0 : Int) < (i : Int)) = false := decide_eq_false (by omega)
              have hiN : decide (0 < i) = false := decide_eq_false (by omega)
              have HST := Aside0.mk (show riseB lev none l = (((l.drop (i + 1)).isEmpty || !endsB lev key) && riseB lev (some key) (l.drop (i + 1))) by rw [HE2.out, prevS, if_pos hi, rise_none])
              clear hi HE2
              by_cases hla : i < m
              · have g1 : decide ((i : Int) < (m : Int)) = true := decide_eq_true (by omega)
                have g2 : decide (i < m) = true := decide_eq_true (by omega)
                have HEM := Aside0.mk (drop_full HM.out hla)
                clear hla
                cases hen : endsB lev key with
                | true =>
                  have HEN := Aside0.mk hen
                  have HG := Aside0.mk (nodeE_rise (lev := lev) HT0.out (by rw [HLE.out, HST.out, HEM.out, hen]; rfl))
                  clear hen
                  go_wp2_with (go_at_call 32; refine (ends_calls lev key _ HKZ.out).mono ?_; rw [HEN.out]; rintro e w4 ⟨rfl, hb⟩; have HB4 := Aside0.mk (below_step HB.out hb); clear hb)
                  go_ret
                  rw [HG.out]
                  exact ⟨rfl, below_step HB2.out HB4.out⟩
                | false =>
                  have HEN := Aside0.mk hen
                  have HG := Aside0.mk (show riseB lev none l = riseB lev (some key) (l.drop (i + 1)) by rw [HST.out, hen]; simp)
                  clear hen
                  go_wp2_with (go_at_call 32; refine (ends_calls lev key _ HKZ.out).mono ?_; rw [HEN.out]; rintro e w4 ⟨rfl, hb⟩; have HB4 := Aside0.mk (below_step HB.out hb); clear hb)
                  go_roundg (l.length - (i + 1))
                  case measure => have := HI.out; omega
                  case rel => exact ⟨i + 1, by rw [HWI.out], ⟨by omega, rfl⟩, ⟨by rw [HPS.out]; exact HG.out⟩, ⟨HB4.out⟩⟩
              · have g1 : decide ((i : Int) < (m : Int)) = false := decide_eq_false (by omega)
                have g2 : decide (i < m) = false := decide_eq_false (by omega)
                have HEM := Aside0.mk (drop_empty HM.out hla)
                have HG := Aside0.mk (show riseB lev none l = riseB lev (some key) (l.drop (i + 1)) by rw [HST.out, HEM.out]; simp)
                clear hla
                go_wp2
                go_roundg (l.length - (i + 1))
                case measure => have := HI.out; omega
                case rel => exact ⟨i + 1, by rw [HWI.out], ⟨by omega, rfl⟩, ⟨by rw [HPS.out]; exact HG.out⟩, ⟨HB.out⟩⟩
            · obtain ⟨j, hj⟩ : ∃ j : Nat, i = j + 1 := ⟨i - 1, by omega⟩
              have hi' : decide ((0 : Int) < (i : Int)) = true := decide_eq_true (by omega)
              have hiN : decide (0 < i) = true := decide_eq_true (by omega)
              have hwj : wrap64 ((i : Int) - 1) = (j : Int) := by have := HKC.out; unfold wrap64; omega
              have hwj2 : IntKind.i64.wrap ((i : Int) - 1) = (j : Int) := by first | exact hwj | (rw [i64_w]; exact hwj)
              have hjl : (j : Int) < (l.length : Int) := by omega
              obtain ⟨ad', had, k0⟩ := Kd.at_string (Kd.C_below HC2.out HB.out) (j : Int) (by omega) (by omega)
              obtain rfl : ad = ad' := by injection had
              simp only [Int.toNat_natCast] at k0
              have HPV := Aside0.mk (show prevS l i = some (rdOf ByteArray.empty l (j : Int)) by rw [hj, prevS_succ])
              generalize rdOf ByteArray.empty l (j : Int) = q at k0 HPV
              cases hless : lessK q key with
              | true =>
                have HST := Aside0.mk (show riseB lev none l = (((l.drop (i + 1)).isEmpty || !endsB lev key) && riseB lev (some key) (l.drop (i + 1))) by rw [HE2.out, HPV.out, rise_some _ _ _ _ hless])
                have hl' : Op.bytesLess q.toList key.toList = true := hless
                have hge : ∀ w, (binOp .geq 9 (.string q) (.string key)).run Try.prog w = .ok (.bool false) w := fun w => by rw [str_geq, hl']; rfl
                clear hi hj hless HE2 HPV had
                by_cases hla : i < m
                · have g1 : decide ((i : Int) < (m : Int)) = true := decide_eq_true (by omega)
                  have g2 : decide (i < m) = true := decide_eq_true (by omega)
                  have HEM := Aside0.mk (drop_full HM.out hla)
                  clear hla
                  cases hen : endsB lev key with
                  | true =>
                    have HEN := Aside0.mk hen
                    have HG := Aside0.mk (nodeE_rise (lev := lev) HT0.out (by rw [HLE.out, HST.out, HEM.out, hen]; rfl))
                    clear hen
                    go_wp2_with (go_at_call 32; refine (ends_calls lev key _ HKZ.out).mono ?_; rw [HEN.out]; rintro e w4 ⟨rfl, hb⟩; have HB4 := Aside0.mk (below_step HB.out hb); clear hb)
                    go_ret
                    rw [HG.out]
                    exact ⟨rfl, below_step HB2.out HB4.out⟩
                  | false =>
                    have HEN := Aside0.mk hen
                    have HG := Aside0.mk (show riseB lev none l = riseB lev (some key) (l.drop (i + 1)) by rw [HST.out, hen]; simp)
                    clear hen
                    go_wp2_with (go_at_call 32; refine (ends_calls lev key _ HKZ.out).mono ?_; rw [HEN.out]; rintro e w4 ⟨rfl, hb⟩; have HB4 := Aside0.mk (below_step HB.out hb); clear hb)
                    go_roundg (l.length - (i + 1))
                    case measure => have := HI.out; omega
                    case rel => exact ⟨i + 1, by rw [HWI.out], ⟨by omega, rfl⟩, ⟨by rw [HPS.out]; exact HG.out⟩, ⟨HB4.out⟩⟩
                · have g1 : decide ((i : Int) < (m : Int)) = false := decide_eq_false (by omega)
                  have g2 : decide (i < m) = false := decide_eq_false (by omega)
                  have HEM := Aside0.mk (drop_empty HM.out hla)
                  have HG := Aside0.mk (show riseB lev none l = riseB lev (some key) (l.drop (i + 1)) by rw [HST.out, HEM.out]; simp)
                  clear hla
                  go_wp2
                  go_roundg (l.length - (i + 1))
                  case measure => have := HI.out; omega
                  case rel => exact ⟨i + 1, by rw [HWI.out], ⟨by omega, rfl⟩, ⟨by rw [HPS.out]; exact HG.out⟩, ⟨HB.out⟩⟩
              | false =>
                have HG := Aside0.mk (nodeE_rise (lev := lev) HT0.out (by rw [HLE.out, HE2.out, HPV.out, rise_bad _ _ _ _ hless]))
                have hl' : Op.bytesLess q.toList key.toList = false := hless
                have hge : ∀ w, (binOp .geq 9 (.string q) (.string key)).run Try.prog w = .ok (.bool true) w := fun w => by rw [str_geq, hl']; rfl
                clear hi hj hless HE2 HPV had
                go_wp2
                go_ret
                rw [HG.out]
                exact ⟨rfl, below_step HB2.out HB.out⟩
          · have hI : i = l.length := by have := HI.out; omega
            subst hI
            have HRS := Aside0.mk (show riseB lev none (keysL es ks) = true by rw [HLE.out, HE.out, List.drop_length]; rfl)
            have hk3 := (Fr.of_below (B := 0) (T := []) HB.out).blk HK2.out (by simp)
            have a2 : World.cell? wr ⟨W.heap.size, 2, none⟩ = some (.slice A1 ks.length c1) := (blk_cell hk3 2).trans rfl
            have HB5 := Aside0.mk (below_step HB2.out HB.out)
            clear hk3 HE HB
            go_wp2
            go_loopg [80] ks.length (fun kq v80 w' => ∃ i : Nat, v80 = .int .i64 i ∧ Aside0 (i ≤ ks.length ∧ kq = ks.length - i) ∧ Aside0 (idsB (ks.take i) = true) ∧ Aside0 (Below W.heap.size W w'))
            case atStart => exact ⟨0, rfl, ⟨by omega, by omega⟩, ⟨rfl⟩, ⟨HB5.out⟩⟩
            case round =>
              obtain ⟨i, rfl, HI, HE, HB⟩ := hrel
              by_cases hlt : i < ks.length
              · obtain ⟨ad, rfl, h0, h1⟩ := at_T60 (Kd.C_below HC1.out HB.out) (i : Int) (by omega) (by omega)
                simp only [Int.toNat_natCast] at h0 h1
                have HTK := Aside0.mk (all_take ks i hlt)
                have HBD := Aside0.mk (all_bad ks i hlt)
                generalize rd_T60 ks (i : Int) = x at h0 h1 HTK HBD
                obtain ⟨f0, f1⟩ := x
                simp only at h0 h1
                have hlt' : (i : Int) < (ks.length : Int) := by omega
                have HWI := Aside0.mk (show wrap64 ((i : Int) + 1) = ((i + 1 : Nat) : Int) by have := HN1.out; unfold wrap64; omega)
                by_cases hz : f1 = 0
                · have HG := Aside0.mk (nodeE_ids (lev := lev) HT0.out (HBD.out hz))
                  have hz' : (f1 == 0) = true := beq_iff_eq.mpr hz
                  clear hz
                  go_wp2
                  go_ret
                  rw [HG.out]
                  exact ⟨rfl, below_alloc HB.out _⟩
                · have HG := Aside0.mk (show idsB (ks.take (i + 1)) = true by rw [HTK.out, HE.out]; simpa using hz)
                  have hz' : (f1 == 0) = false := beq_eq_false_iff_ne.mpr hz
                  clear hz
                  go_wp2
                  go_roundg (ks.length - (i + 1))
                  case measure => have := HI.out; omega
                  case rel => exact ⟨i + 1, by rw [HWI.out], ⟨by omega, rfl⟩, ⟨HG.out⟩, ⟨below_alloc HB.out _⟩⟩
              · have hI : i = ks.length := by have := HI.out; omega
                subst hI
                have hE := HE.out
                rw [List.take_length] at hE
                have HG := Aside0.mk (nodeE_ok (lev := lev) HT0.out HS.out HRS.out hE)
                clear hE
                go_wp2
                go_ret
                rw [HG.out]
                exact ⟨rfl, HB.out⟩
      · have hh : lev = 0 ∧ 0 < es.length ∧ ks.length = 0 := by have h := HS.out; simp only [shapeB] at h; rw [if_neg hl0] at h; simpa only [Bool.and_eq_true, decide_eq_true_eq] using h
        obtain ⟨hl, hh⟩ := hh
        subst hl
        have ek : ((ks.length : Int) == 0) = true := beq_iff_eq.mpr (by omega)
        have ek' : (ks.length == 0) = true := beq_iff_eq.mpr (by omega)
        have gk : decide ((0 : Int) < (ks.length : Int)) = false := decide_eq_false (by omega)
        have gk' : decide (0 < ks.length) = false := decide_eq_false (by omega)
        have ee : ((es.length : Int) == 0) = false := beq_eq_false_iff_ne.mpr (by omega)
        have ee' : (es.length == 0) = false := beq_eq_false_iff_ne.mpr (by omega)
        have ge : decide ((0 : Int) < (es.length : Int)) = true := decide_eq_true (by omega)
        have ge' : decide (0 < es.length) = true := decide_eq_true (by omega)
        clear hl0 hh
        go_enter Try.func25, Try.ntmps25
        go_wp2_with (go_at_call 49; refine (HT.out _ (below_alloc (Below.refl _ _) _)).mono ?_; rw [HT0.out]; rintro e w1 ⟨rfl, hb⟩; have HB1 := Aside0.mk (below_step (below_alloc (Below.refl _ _) (.cells #[.int .i64 0, .slice A0 es.length c0, .slice A1 ks.length c1] 34)) hb); have hk1 := (Fr.of_below (B := 0) (T := []) hb).blk (blk_new W (.cells #[.int .i64 0, .slice A0 es.length c0, .slice A1 ks.length c1] 34)) (by simp); have HK1 := Aside0.mk hk1; have a0 : World.cell? w1 ⟨W.heap.size, 0, none⟩ = some (.int .i64 0) := (blk_cell hk1 0).trans rfl; have a1 : World.cell? w1 ⟨W.heap.size, 1, none⟩ = some (.slice A0 es.length c0) := (blk_cell hk1 1).trans rfl; have a2 : World.cell? w1 ⟨W.heap.size, 2, none⟩ = some (.slice A1 ks.length c1) := (blk_cell hk1 2).trans rfl; clear hb hk1)
        go_quiet (fail)
        go_wp2_with (go_at_call 50; refine (HK.out _ (pw_below_drewN HB1.out _)).mono ?_; rintro e w2 ⟨A2, c2, rfl, hc2, hC2, hb⟩; have HB2 := Aside0.mk (below_step (pw_below_drewN HB1.out _) hb); have HC2 := Aside0.mk hC2; have HK2 := Aside0.mk ((Fr.of_below (B := 0) (T := []) hb).blk (blk_drewN HK1.out _) (by simp)); clear hb hC2 hc2 a0 a1 a2)
        have HKC := Aside0.mk (show (keysL es ks).length ≤ 2000000 by have := HKL.out; have := HN0.out; have := HN1.out; omega)
        generalize hl9 : keysL es ks = l at HKI HC2 HKC ⊢
        have HLE := Aside0.mk hl9
        clear hl9 HKL
        go_loopg [47] l.length (fun kq v47 w' => ∃ i : Nat, v47 = .int .i64 i ∧ Aside0 (i ≤ l.length ∧ kq = l.length - i) ∧ Aside0 (riseB 0 none l = riseB 0 (prevS l i) (l.drop i)) ∧ Aside0 (Below w2.heap.size w2 w'))
        case atStart => exact ⟨0, rfl, ⟨by omega, by omega⟩, ⟨rfl⟩, ⟨Below.refl _ _⟩⟩
        case round =>
          obtain ⟨i, rfl, HI, HE, HB⟩ := hrel
          by_cases hlt : i < l.length
          · obtain ⟨ad, rfl, h0⟩ := Kd.at_string (Kd.C_below HC2.out HB.out) (i : Int) (by omega) (by omega)
            have hE := HE.out
            rw [st_drop l i hlt] at hE
            have hin := HKI.out _ (List.getElem_mem hlt)
            rw [← st_at i hlt] at hin
            have HE2 := Aside0.mk hE
            have HPS := Aside0.mk (prevS_succ l i)
            have hk3 := (Fr.of_below (B := 0) (T := []) HB.out).blk HK2.out (by simp)
            have a0 : World.cell? wr ⟨W.heap.size, 0, none⟩ = some (.int .i64 0) := (blk_cell hk3 0).trans rfl
            clear hE HE hk3
            simp only [Int.toNat_natCast] at h0
            generalize hc : rdOf ByteArray.empty l (i : Int) = key at h0 HE2 HPS hin
            clear hc
            have HKZ := Aside0.mk (show key.size ≤ 140737488355328 by omega)
            clear hin
            have hlt' : (i : Int) < (l.length : Int) := by omega
            have HWI := Aside0.mk (show wrap64 ((i : Int) + 1) = ((i + 1 : Nat) : Int) by have := HKC.out; unfold wrap64; omega)
            obtain ⟨m, hm⟩ : ∃ m : Nat, l.length = m + 1 := ⟨l.length - 1, by omega⟩
            have hwm : wrap64 ((l.length : Int) - 1) = (m : Int) := by have := HKC.out; unfold wrap64; omega
            have hwm2 : IntKind.i64.wrap ((l.length : Int) - 1) = (m : Int) := by first | exact hwm | (rw [i64_w]; exact hwm)
            have HM := Aside0.mk hm
            clear hm
            by_cases hi : i = 0
            · have hi' : decide ((0 : Int) < (i : Int)) = false := decide_eq_false (by omega)
              have hiN : decide (0 < i) = false := decide_eq_false (by omega)
              have HST := Aside0.mk (show riseB 0 none l = (((l.drop (i + 1)).isEmpty || !endsB 0 key) && riseB 0 (some key) (l.drop (i + 1))) by rw [HE2.out, prevS, if_pos hi, rise_none])
              clear hi HE2
              by_cases hla : i < m
              · have g1 : decide ((i : Int) < (m : Int)) = true := decide_eq_true (by omega)
                have g2 : decide (i < m) = true := decide_eq_true (by omega)
                have HEM := Aside0.mk (drop_full HM.out hla)
                clear hla
                cases hen : endsB 0 key with
                | true =>
                  have HEN := Aside0.mk hen
                  have HG := Aside0.mk (nodeE_rise (lev := 0) HT0.out (by rw [HLE.out, HST.out, HEM.out, hen]; rfl))
                  clear hen
                  go_wp2_with (go_at_call 32; refine (ends_calls 0 key _ HKZ.out).mono ?_; rw [HEN.out]; rintro e w4 ⟨rfl, hb⟩; have HB4 := Aside0.mk (below_step HB.out hb); clear hb)
                  go_ret
                  rw [HG.out]
                  exact ⟨rfl, below_step HB2.out HB4.out⟩
                | false =>
                  have HEN := Aside0.mk hen
                  have HG := Aside0.mk (show riseB 0 none l = riseB 0 (some key) (l.drop (i + 1)) by rw [HST.out, hen]; simp)
                  clear hen
                  go_wp2_with (go_at_call 32; refine (ends_calls 0 key _ HKZ.out).mono ?_; rw [HEN.out]; rintro e w4 ⟨rfl, hb⟩; have HB4 := Aside0.mk (below_step HB.out hb); clear hb)
                  go_roundg (l.length - (i + 1))
                  case measure => have := HI.out; omega
                  case rel => exact ⟨i + 1, by rw [HWI.out], ⟨by omega, rfl⟩, ⟨by rw [HPS.out]; exact HG.out⟩, ⟨HB4.out⟩⟩
              · have g1 : decide ((i : Int) < (m : Int)) = false := decide_eq_false (by omega)
                have g2 : decide (i < m) = false := decide_eq_false (by omega)
                have HEM := Aside0.mk (drop_empty HM.out hla)
                have HG := Aside0.mk (show riseB 0 none l = riseB 0 (some key) (l.drop (i + 1)) by rw [HST.out, HEM.out]; simp)
                clear hla
                go_wp2
                go_roundg (l.length - (i + 1))
                case measure => have := HI.out; omega
                case rel => exact ⟨i + 1, by rw [HWI.out], ⟨by omega, rfl⟩, ⟨by rw [HPS.out]; exact HG.out⟩, ⟨HB.out⟩⟩
            · obtain ⟨j, hj⟩ : ∃ j : Nat, i = j + 1 := ⟨i - 1, by omega⟩
              have hi' : decide ((0 : Int) < (i : Int)) = true := decide_eq_true (by omega)
              have hiN : decide (0 < i) = true := decide_eq_true (by omega)
              have hwj : wrap64 ((i : Int) - 1) = (j : Int) := by have := HKC.out; unfold wrap64; omega
              have hwj2 : IntKind.i64.wrap ((i : Int) - 1) = (j : Int) := by first | exact hwj | (rw [i64_w]; exact hwj)
              have hjl : (j : Int) < (l.length : Int) := by omega
              obtain ⟨ad', had, k0⟩ := Kd.at_string (Kd.C_below HC2.out HB.out) (j : Int) (by omega) (by omega)
              obtain rfl : ad = ad' := by injection had
              simp only [Int.toNat_natCast] at k0
              have HPV := Aside0.mk (show prevS l i = some (rdOf ByteArray.empty l (j : Int)) by rw [hj, prevS_succ])
              generalize rdOf ByteArray.empty l (j : Int) = q at k0 HPV
              cases hless : lessK q key with
              | true =>
                have HST := Aside0.mk (show riseB 0 none l = (((l.drop (i + 1)).isEmpty || !endsB 0 key) && riseB 0 (some key) (l.drop (i + 1))) by rw [HE2.out, HPV.out, rise_some _ _ _ _ hless])
                have hl' : Op.bytesLess q.toList key.toList = true := hless
                have hge : ∀ w, (binOp .geq 9 (.string q) (.string key)).run Try.prog w = .ok (.bool false) w := fun w => by rw [str_geq, hl']; rfl
                clear hi hj hless HE2 HPV had
                by_cases hla : i < m
                · have g1 : decide ((i : Int) < (m : Int)) = true := decide_eq_true (by omega)
                  have g2 : decide (i < m) = true := decide_eq_true (by omega)
                  have HEM := Aside0.mk (drop_full HM.out hla)
                  clear hla
                  cases hen : endsB 0 key with
                  | true =>
                    have HEN := Aside0.mk hen
                    have HG := Aside0.mk (nodeE_rise (lev := 0) HT0.out (by rw [HLE.out, HST.out, HEM.out, hen]; rfl))
                    clear hen
                    go_wp2_with (go_at_call 32; refine (ends_calls 0 key _ HKZ.out).mono ?_; rw [HEN.out]; rintro e w4 ⟨rfl, hb⟩; have HB4 := Aside0.mk (below_step HB.out hb); clear hb)
                    go_ret
                    rw [HG.out]
                    exact ⟨rfl, below_step HB2.out HB4.out⟩
                  | false =>
                    have HEN := Aside0.mk hen
                    have HG := Aside0.mk (show riseB 0 none l = riseB 0 (some key) (l.drop (i + 1)) by rw [HST.out, hen]; simp)
                    clear hen
                    go_wp2_with (go_at_call 32; refine (ends_calls 0 key _ HKZ.out).mono ?_; rw [HEN.out]; rintro e w4 ⟨rfl, hb⟩; have HB4 := Aside0.mk (below_step HB.out hb); clear hb)
                    go_roundg (l.length - (i + 1))
                    case measure => have := HI.out; omega
                    case rel => exact ⟨i + 1, by rw [HWI.out], ⟨by omega, rfl⟩, ⟨by rw [HPS.out]; exact HG.out⟩, ⟨HB4.out⟩⟩
                · have g1 : decide ((i : Int) < (m : Int)) = false := decide_eq_false (by omega)
                  have g2 : decide (i < m) = false := decide_eq_false (by omega)
                  have HEM := Aside0.mk (drop_empty HM.out hla)
                  have HG := Aside0.mk (show riseB 0 none l = riseB 0 (some key) (l.drop (i + 1)) by rw [HST.out, HEM.out]; simp)
                  clear hla
                  go_wp2
                  go_roundg (l.length - (i + 1))
                  case measure => have := HI.out; omega
                  case rel => exact ⟨i + 1, by rw [HWI.out], ⟨by omega, rfl⟩, ⟨by rw [HPS.out]; exact HG.out⟩, ⟨HB.out⟩⟩
              | false =>
                have HG := Aside0.mk (nodeE_rise (lev := 0) HT0.out (by rw [HLE.out, HE2.out, HPV.out, rise_bad _ _ _ _ hless]))
                have hl' : Op.bytesLess q.toList key.toList = false := hless
                have hge : ∀ w, (binOp .geq 9 (.string q) (.string key)).run Try.prog w = .ok (.bool true) w := fun w => by rw [str_geq, hl']; rfl
                clear hi hj hless HE2 HPV had
                go_wp2
                go_ret
                rw [HG.out]
                exact ⟨rfl, below_step HB2.out HB.out⟩
          · have hI : i = l.length := by have := HI.out; omega
            subst hI
            have HRS := Aside0.mk (show riseB 0 none (keysL es ks) = true by rw [HLE.out, HE.out, List.drop_length]; rfl)
            have hk3 := (Fr.of_below (B := 0) (T := []) HB.out).blk HK2.out (by simp)
            have a2 : World.cell? wr ⟨W.heap.size, 2, none⟩ = some (.slice A1 ks.length c1) := (blk_cell hk3 2).trans rfl
            have HB5 := Aside0.mk (below_step HB2.out HB.out)
            clear hk3 HE HB
            go_wp2
            go_loopg [80] ks.length (fun kq v80 w' => ∃ i : Nat, v80 = .int .i64 i ∧ Aside0 (i ≤ ks.length ∧ kq = ks.length - i) ∧ Aside0 (idsB (ks.take i) = true) ∧ Aside0 (Below W.heap.size W w'))
            case atStart => exact ⟨0, rfl, ⟨by omega, by omega⟩, ⟨rfl⟩, ⟨HB5.out⟩⟩
            case round =>
              obtain ⟨i, rfl, HI, HE, HB⟩ := hrel
              by_cases hlt : i < ks.length
              · obtain ⟨ad, rfl, h0, h1⟩ := at_T60 (Kd.C_below HC1.out HB.out) (i : Int) (by omega) (by omega)
                simp only [Int.toNat_natCast] at h0 h1
                have HTK := Aside0.mk (all_take ks i hlt)
                have HBD := Aside0.mk (all_bad ks i hlt)
                generalize rd_T60 ks (i : Int) = x at h0 h1 HTK HBD
                obtain ⟨f0, f1⟩ := x
                simp only at h0 h1
                have hlt' : (i : Int) < (ks.length : Int) := by omega
                have HWI := Aside0.mk (show wrap64 ((i : Int) + 1) = ((i + 1 : Nat) : Int) by have := HN1.out; unfold wrap64; omega)
                by_cases hz : f1 = 0
                · have HG := Aside0.mk (nodeE_ids (lev := 0) HT0.out (HBD.out hz))
                  have hz' : (f1 == 0) = true := beq_iff_eq.mpr hz
                  clear hz
                  go_wp2
                  go_ret
                  rw [HG.out]
                  exact ⟨rfl, below_alloc HB.out _⟩
                · have HG := Aside0.mk (show idsB (ks.take (i + 1)) = true by rw [HTK.out, HE.out]; simpa using hz)
                  have hz' : (f1 == 0) = false := beq_eq_false_iff_ne.mpr hz
                  clear hz
                  go_wp2
                  go_roundg (ks.length - (i + 1))
                  case measure => have := HI.out; omega
                  case rel => exact ⟨i + 1, by rw [HWI.out], ⟨by omega, rfl⟩, ⟨HG.out⟩, ⟨below_alloc HB.out _⟩⟩
              · have hI : i = ks.length := by have := HI.out; omega
                subst hI
                have hE := HE.out
                rw [List.take_length] at hE
                have HG := Aside0.mk (nodeE_ok (lev := 0) HT0.out HS.out HRS.out hE)
                clear hE
                go_wp2
                go_ret
                rw [HG.out]
                exact ⟨rfl, HB.out⟩
    · have hs' : shapeB lev es.length ks.length = false := by simpa using hs
      have HE := Aside0.mk (nodeE_shape (lev := lev) HT0.out hs')
      have HS := Aside0.mk hs'
      clear hs hs'
      by_cases hl : lev < 0
      · have d1 : decide (lev < 0) = true := decide_eq_true (by omega)
        have d0 : decide (0 < lev) = false := decide_eq_false (by omega)
        clear hl
        go_enter Try.func25, Try.ntmps25
        go_wp2_with (go_at_call 49; refine (HT.out _ (below_alloc (Below.refl _ _) _)).mono ?_; rw [HT0.out]; rintro e w1 ⟨rfl, hb⟩; have HB1 := Aside0.mk (below_step (below_alloc (Below.refl _ _) (.cells #[.int .i64 lev, .slice A0 es.length c0, .slice A1 ks.length c1] 34)) hb); have hk1 := (Fr.of_below (B := 0) (T := []) hb).blk (blk_new W (.cells #[.int .i64 lev, .slice A0 es.length c0, .slice A1 ks.length c1] 34)) (by simp); have HK1 := Aside0.mk hk1; have a0 : World.cell? w1 ⟨W.heap.size, 0, none⟩ = some (.int .i64 lev) := (blk_cell hk1 0).trans rfl; have a1 : World.cell? w1 ⟨W.heap.size, 1, none⟩ = some (.slice A0 es.length c0) := (blk_cell hk1 1).trans rfl; have a2 : World.cell? w1 ⟨W.heap.size, 2, none⟩ = some (.slice A1 ks.length c1) := (blk_cell hk1 2).trans rfl; clear hb hk1)
        go_quiet (fail)
        go_wp2
        go_ret
        rw [HE.out]
        exact ⟨rfl, pw_below_drewN HB1.out _⟩
      · have d1 : decide (lev < 0) = false := decide_eq_false (by omega)
        by_cases hl0 : 0 < lev
        · have d0 : decide (0 < lev) = true := decide_eq_true (by omega)
          by_cases h20 : 20 < lev
          · have d20 : decide (20 < lev) = true := decide_eq_true (by omega)
            clear hl hl0 h20
            go_enter Try.func25, Try.ntmps25
            go_wp2_with (go_at_call 49; refine (HT.out _ (below_alloc (Below.refl _ _) _)).mono ?_; rw [HT0.out]; rintro e w1 ⟨rfl, hb⟩; have HB1 := Aside0.mk (below_step (below_alloc (Below.refl _ _) (.cells #[.int .i64 lev, .slice A0 es.length c0, .slice A1 ks.length c1] 34)) hb); have hk1 := (Fr.of_below (B := 0) (T := []) hb).blk (blk_new W (.cells #[.int .i64 lev, .slice A0 es.length c0, .slice A1 ks.length c1] 34)) (by simp); have HK1 := Aside0.mk hk1; have a0 : World.cell? w1 ⟨W.heap.size, 0, none⟩ = some (.int .i64 lev) := (blk_cell hk1 0).trans rfl; have a1 : World.cell? w1 ⟨W.heap.size, 1, none⟩ = some (.slice A0 es.length c0) := (blk_cell hk1 1).trans rfl; have a2 : World.cell? w1 ⟨W.heap.size, 2, none⟩ = some (.slice A1 ks.length c1) := (blk_cell hk1 2).trans rfl; clear hb hk1)
            go_quiet (fail)
            go_wp2
            go_ret
            rw [HE.out]
            exact ⟨rfl, pw_below_drewN HB1.out _⟩
          · have d20 : decide (20 < lev) = false := decide_eq_false (by omega)
            by_cases hk : ks.length = 0
            · have ek : ((ks.length : Int) == 0) = true := beq_iff_eq.mpr (by omega)
              have ek' : (ks.length == 0) = true := beq_iff_eq.mpr (by omega)
              have gk : decide ((0 : Int) < (ks.length : Int)) = false := decide_eq_false (by omega)
              have gk' : decide (0 < ks.length) = false := decide_eq_false (by omega)
              clear hl hl0 h20 hk
              go_enter Try.func25, Try.ntmps25
              go_wp2_with (go_at_call 49; refine (HT.out _ (below_alloc (Below.refl _ _) _)).mono ?_; rw [HT0.out]; rintro e w1 ⟨rfl, hb⟩; have HB1 := Aside0.mk (below_step (below_alloc (Below.refl _ _) (.cells #[.int .i64 lev, .slice A0 es.length c0, .slice A1 ks.length c1] 34)) hb); have hk1 := (Fr.of_below (B := 0) (T := []) hb).blk (blk_new W (.cells #[.int .i64 lev, .slice A0 es.length c0, .slice A1 ks.length c1] 34)) (by simp); have HK1 := Aside0.mk hk1; have a0 : World.cell? w1 ⟨W.heap.size, 0, none⟩ = some (.int .i64 lev) := (blk_cell hk1 0).trans rfl; have a1 : World.cell? w1 ⟨W.heap.size, 1, none⟩ = some (.slice A0 es.length c0) := (blk_cell hk1 1).trans rfl; have a2 : World.cell? w1 ⟨W.heap.size, 2, none⟩ = some (.slice A1 ks.length c1) := (blk_cell hk1 2).trans rfl; clear hb hk1)
              go_quiet (fail)
              go_wp2
              go_ret
              rw [HE.out]
              exact ⟨rfl, pw_below_drewN HB1.out _⟩
            · have ek : ((ks.length : Int) == 0) = false := beq_eq_false_iff_ne.mpr (by omega)
              have ek' : (ks.length == 0) = false := beq_eq_false_iff_ne.mpr (by omega)
              have gk : decide ((0 : Int) < (ks.length : Int)) = true := decide_eq_true (by omega)
              have gk' : decide (0 < ks.length) = true := decide_eq_true (by omega)
              have he : es.length ≠ 0 := fun he => by have h := HS.out; simp only [shapeB] at h; rw [if_pos hl0, decide_eq_true (show lev ≤ 20 by omega), decide_eq_true (show 0 < ks.length by omega), decide_eq_true he] at h; cases h
              have ee : ((es.length : Int) == 0) = false := beq_eq_false_iff_ne.mpr (by omega)
              have ee' : (es.length == 0) = false := beq_eq_false_iff_ne.mpr (by omega)
              have ge : decide ((0 : Int) < (es.length : Int)) = true := decide_eq_true (by omega)
              have ge' : decide (0 < es.length) = true := decide_eq_true (by omega)
              clear hl hl0 h20 hk he
              go_enter Try.func25, Try.ntmps25
              go_wp2_with (go_at_call 49; refine (HT.out _ (below_alloc (Below.refl _ _) _)).mono ?_; rw [HT0.out]; rintro e w1 ⟨rfl, hb⟩; have HB1 := Aside0.mk (below_step (below_alloc (Below.refl _ _) (.cells #[.int .i64 lev, .slice A0 es.length c0, .slice A1 ks.length c1] 34)) hb); have hk1 := (Fr.of_below (B := 0) (T := []) hb).blk (blk_new W (.cells #[.int .i64 lev, .slice A0 es.length c0, .slice A1 ks.length c1] 34)) (by simp); have HK1 := Aside0.mk hk1; have a0 : World.cell? w1 ⟨W.heap.size, 0, none⟩ = some (.int .i64 lev) := (blk_cell hk1 0).trans rfl; have a1 : World.cell? w1 ⟨W.heap.size, 1, none⟩ = some (.slice A0 es.length c0) := (blk_cell hk1 1).trans rfl; have a2 : World.cell? w1 ⟨W.heap.size, 2, none⟩ = some (.slice A1 ks.length c1) := (blk_cell hk1 2).trans rfl; clear hb hk1)
              go_quiet (fail)
              go_wp2
              go_ret
              rw [HE.out]
              exact ⟨rfl, pw_below_drewN HB1.out _⟩
        · obtain rfl : lev = 0 := by omega
          by_cases hk : es.length = 0
          · have ee : ((es.length : Int) == 0) = true := beq_iff_eq.mpr (by omega)
            have ee' : (es.length == 0) = true := beq_iff_eq.mpr (by omega)
            have ge : decide ((0 : Int) < (es.length : Int)) = false := decide_eq_false (by omega)
            have ge' : decide (0 < es.length) = false := decide_eq_false (by omega)
            clear hl hl0 hk d1
            go_enter Try.func25, Try.ntmps25
            go_wp2_with (go_at_call 49; refine (HT.out _ (below_alloc (Below.refl _ _) _)).mono ?_; rw [HT0.out]; rintro e w1 ⟨rfl, hb⟩; have HB1 := Aside0.mk (below_step (below_alloc (Below.refl _ _) (.cells #[.int .i64 0, .slice A0 es.length c0, .slice A1 ks.length c1] 34)) hb); have hk1 := (Fr.of_below (B := 0) (T := []) hb).blk (blk_new W (.cells #[.int .i64 0, .slice A0 es.length c0, .slice A1 ks.length c1] 34)) (by simp); have HK1 := Aside0.mk hk1; have a0 : World.cell? w1 ⟨W.heap.size, 0, none⟩ = some (.int .i64 0) := (blk_cell hk1 0).trans rfl; have a1 : World.cell? w1 ⟨W.heap.size, 1, none⟩ = some (.slice A0 es.length c0) := (blk_cell hk1 1).trans rfl; have a2 : World.cell? w1 ⟨W.heap.size, 2, none⟩ = some (.slice A1 ks.length c1) := (blk_cell hk1 2).trans rfl; clear hb hk1)
            go_quiet (fail)
            go_wp2
            go_ret
            rw [HE.out]
            exact ⟨rfl, pw_below_drewN HB1.out _⟩
          · have ee : ((es.length : Int) == 0) = false := beq_eq_false_iff_ne.mpr (by omega)
            have ee' : (es.length == 0) = false := beq_eq_false_iff_ne.mpr (by omega)
            have ge : decide ((0 : Int) < (es.length : Int)) = true := decide_eq_true (by omega)
            have ge' : decide (0 < es.length) = true := decide_eq_true (by omega)
            have he : ks.length ≠ 0 := fun he => by have h := HS.out; simp only [shapeB] at h; rw [if_neg (by omega), decide_eq_true (show 0 < es.length by omega), decide_eq_true he] at h; simp at h
            have ek : ((ks.length : Int) == 0) = false := beq_eq_false_iff_ne.mpr (by omega)
            have ek' : (ks.length == 0) = false := beq_eq_false_iff_ne.mpr (by omega)
            have gk : decide ((0 : Int) < (ks.length : Int)) = true := decide_eq_true (by omega)
            have gk' : decide (0 < ks.length) = true := decide_eq_true (by omega)
            clear hl hl0 hk he d1
            go_enter Try.func25, Try.ntmps25
            go_wp2_with (go_at_call 49; refine (HT.out _ (below_alloc (Below.refl _ _) _)).mono ?_; rw [HT0.out]; rintro e w1 ⟨rfl, hb⟩; have HB1 := Aside0.mk (below_step (below_alloc (Below.refl _ _) (.cells #[.int .i64 0, .slice A0 es.length c0, .slice A1 ks.length c1] 34)) hb); have hk1 := (Fr.of_below (B := 0) (T := []) hb).blk (blk_new W (.cells #[.int .i64 0, .slice A0 es.length c0, .slice A1 ks.length c1] 34)) (by simp); have HK1 := Aside0.mk hk1; have a0 : World.cell? w1 ⟨W.heap.size, 0, none⟩ = some (.int .i64 0) := (blk_cell hk1 0).trans rfl; have a1 : World.cell? w1 ⟨W.heap.size, 1, none⟩ = some (.slice A0 es.length c0) := (blk_cell hk1 1).trans rfl; have a2 : World.cell? w1 ⟨W.heap.size, 2, none⟩ = some (.slice A1 ks.length c1) := (blk_cell hk1 2).trans rfl; clear hb hk1)
            go_quiet (fail)
            go_wp2
            go_ret
            rw [HE.out]
            exact ⟨rfl, pw_below_drewN HB1.out _⟩
  · have ht' : (textsE es ks != 0) = true := bne_iff_ne.mpr ht
    have HE := Aside0.mk (nodeE_texts (lev := lev) ht)
    clear ht
    go_enter Try.func25, Try.ntmps25
    go_wp2_with (go_at_call 49; refine (HT.out _ (below_alloc (Below.refl _ _) _)).mono ?_; rintro e w1 ⟨rfl, hb⟩; have HB1 := Aside0.mk (below_step (below_alloc (Below.refl _ _) (.cells #[.int .i64 lev, .slice A0 es.length c0, .slice A1 ks.length c1] 34)) hb); clear hb)
    go_ret
    rw [HE.out]
    exact ⟨rfl, HB1.out⟩
end Go.Proofs.Ytdbgfmiokmempaa.Sep
