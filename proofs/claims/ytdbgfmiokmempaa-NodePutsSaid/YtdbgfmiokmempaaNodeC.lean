/- A node's bytes: plain; and the program's Put. Conditions: the bounds of the statements. · A node's bytes: the walk of the program's Put. Printed by gen9.py. Conditions: the bounds of the statements. · Law 09's awake. Conditions: none. -/
import Derived.Test.YtdbgfmiokmempaaNodeB
import Derived.Deep.RegionHeld3
namespace Go.Proofs.Ytdbgfmiokmempaa.Sep
set_option linter.unusedSimpArgs false
set_option linter.unusedVariables false
open Go.RowKit Go.Proofs.Ytdbgfmiokmempaa.PCore Go.Proofs.Ytdbgfmiokmempaa.Plain Go.Proofs.YtdbgfmiokmempaaW.PrintWords Go.Proofs.YtdbgfmiokmempaaW.PrintLast Go.Proofs.YtdbgfmiokmempaaW.PrintMore
open Go.Proofs.Ytdbgfmiokmempaa.PDat (S27 k27 z27 rd_T27 at_T27 S60 k60 z60 rd_T60 at_T60)
open Ends (endsB)
def encE (x : Entry) : List Int := encT x.f0 ++ encT x.f1
def encK (k : Kid) : List Int := encT k.f0 ++ enc k.f1
def encEs (l : List Entry) : List Int := (l.map encE).flatten
def encKs (l : List Kid) : List Int := (l.map encK).flatten
/-- A node's bytes. -/
def encN (lev : Int) (es : List Entry) (ks : List Kid) : List Int := enc lev ++ enc ((es.length + ks.length : Nat) : Int) ++ encEs es ++ encKs ks
/-- Children whose numbers are numbers. -/
def KidsIn (ks : List Kid) : Prop := ∀ x ∈ ks, 0 ≤ x.f1 ∧ x.f1 < 18446744073709551616
def putNE (lev : Int) (es : List Entry) (ks : List Kid) : Int := if nodeE lev es ks = 0 then (if (encN lev es ks).length ≤ 131072 then 0 else 2) else nodeE lev es ks
def putNL (lev : Int) (es : List Entry) (ks : List Kid) : List Int := if putNE lev es ks = 0 then encN lev es ks else []
theorem nodeE_zero {lev : Int} {es : List Entry} {ks : List Kid} (h : nodeE lev es ks = 0) : textsE es ks = 0 ∧ shapeB lev es.length ks.length = true ∧ riseB lev none (keysL es ks) = true ∧ idsB ks = true := by
  unfold nodeE at h
  split at h
  · rename_i h1
    split at h
    · rename_i h2
      split at h
      · rename_i h3
        split at h
        · rename_i h4
          exact ⟨h1, h2, h3, h4⟩
        · cases h
      · cases h
    · cases h
  · rename_i h1; exact absurd h h1
theorem shapeB_lev {lev : Int} {a b : Nat} (h : shapeB lev a b = true) : 0 ≤ lev ∧ lev ≤ 20 := by
  unfold shapeB at h
  split at h
  · rename_i h1
    simp only [Bool.and_eq_true, decide_eq_true_eq] at h
    omega
  · simp only [Bool.and_eq_true, decide_eq_true_eq] at h
    omega
theorem encE_len {x : Entry} (h : x.f0.size ≤ 40 ∧ x.f1.size ≤ 200) : (encE x).length ≤ 300 := by
  have h1 := encT_len x.f0 (by omega)
  have h2 := encT_len x.f1 (by omega)
  simp only [encE, List.length_append]
  omega
theorem encK_len {x : Kid} (h : x.f0.size ≤ 40) (hi : 0 ≤ x.f1 ∧ x.f1 < 18446744073709551616) : (encK x).length ≤ 100 := by
  have h1 := encT_len x.f0 (by omega)
  have h2 := enc_len_u64 hi.1 hi.2
  simp only [encK, List.length_append]
  omega
theorem encEs_len : ∀ {l : List Entry}, (∀ x ∈ l, x.f0.size ≤ 40 ∧ x.f1.size ≤ 200) → (encEs l).length ≤ 300 * l.length
  | [], _ => by simp [encEs]
  | x :: l, h => by
    have h1 := encE_len (h x (by simp))
    have h2 := encEs_len (l := l) (fun y hy => h y (by simp [hy]))
    simp only [encEs, List.map_cons, List.flatten_cons, List.length_append, List.length_cons] at h2 ⊢
    omega
theorem encKs_len : ∀ {l : List Kid}, (∀ x ∈ l, x.f0.size ≤ 40) → KidsIn l → (encKs l).length ≤ 100 * l.length
  | [], _, _ => by simp [encKs]
  | x :: l, h, hi => by
    have h1 := encK_len (h x (by simp)) (hi x (by simp))
    have h2 := encKs_len (l := l) (fun y hy => h y (by simp [hy])) (fun y hy => hi y (by simp [hy]))
    simp only [encKs, List.map_cons, List.flatten_cons, List.length_append, List.length_cons] at h2 ⊢
    omega
theorem encEs_take {l : List Entry} (i : Nat) (h : i < l.length) : encEs (l.take (i + 1)) = encEs (l.take i) ++ encE (rd_T27 l (i : Int)) := by
  rw [en_at i h, take_one l i h]
  unfold encEs
  rw [List.map_append, List.flatten_append]
  simp
theorem encKs_take {l : List Kid} (i : Nat) (h : i < l.length) : encKs (l.take (i + 1)) = encKs (l.take i) ++ encK (rd_T60 l (i : Int)) := by
  rw [ki_at i h, take_one l i h]
  unfold encKs
  rw [List.map_append, List.flatten_append]
  simp
theorem wr_num2_at (B g n : Nat) (bs : List Int) (x y : Int) (W : World) (hn : n = W.heap.size) (hw : WrAt B g W bs) (hx : 0 ≤ x ∧ x < 18446744073709551616) (hy : 0 ≤ y ∧ y < 18446744073709551616) (hlim : bs.length + 20 < 140737488355328) :
    Calls Try.prog 35 #[.pointer (some ⟨g, 0, none⟩), .slice (some ⟨n, 0, none⟩) 2 2] (W.alloc (.cells #[.int .u64 x, .int .u64 y] 58)) fun e W1 => e = .returned (.tuple #[]) ∧ WrAt B g W1 (bs ++ enc x ++ enc y) ∧ Fr B [65, 5] W W1 := by
  subst hn
  exact wr_num2 B g bs x y W hw hx hy hlim
/-- What is known of a node that may be written. -/
theorem put_facts {lev : Int} {es : List Entry} {ks : List Kid} (h : nodeE lev es ks = 0) (hi : KidsIn ks) (hn0 : es.length ≤ 1000000) (hn1 : ks.length ≤ 1000000) :
    (0 ≤ lev ∧ lev < 18446744073709551616) ∧ (enc lev ++ enc ((es.length + ks.length : Nat) : Int)).length ≤ 20 ∧ (∀ i, (encEs (es.take i)).length ≤ 300000000) ∧ (∀ i, (encKs (ks.take i)).length ≤ 100000000) ∧ (∀ x ∈ es, x.f0.size ≤ 40 ∧ x.f1.size ≤ 200) ∧ ∀ x ∈ ks, x.f0.size ≤ 40 := by
  obtain ⟨h1, h2, _, _⟩ := nodeE_zero h
  have h3 := shapeB_lev h2
  obtain ⟨h4, h5⟩ := textsE_in h1
  have e1 := enc_len_u64 (n := lev) (by omega) (by omega)
  have e2 := enc_len_u64 (n := ((es.length + ks.length : Nat) : Int)) (by omega) (by omega)
  refine ⟨by omega, by rw [List.length_append]; omega, fun i => ?_, fun i => ?_, h4, h5⟩
  · have := encEs_len (l := es.take i) (fun x hx => h4 x (List.mem_of_mem_take hx))
    rw [List.length_take] at this
    omega
  · have := encKs_len (l := ks.take i) (fun x hx => h5 x (List.mem_of_mem_take hx)) (fun x hx => hi x (List.mem_of_mem_take hx))
    rw [List.length_take] at this
    omega
end Go.Proofs.Ytdbgfmiokmempaa.Sep
namespace Go.Proofs.Ytdbgfmiokmempaa.Sep
set_option linter.unusedSimpArgs false
set_option linter.unusedVariables false
open Go.RowKit Go.Proofs.Ytdbgfmiokmempaa.PCore Go.Proofs.Ytdbgfmiokmempaa.Plain Go.Proofs.YtdbgfmiokmempaaW.PrintWords Go.Proofs.YtdbgfmiokmempaaW.PrintLast Go.Proofs.YtdbgfmiokmempaaW.PrintMore
open Go.Proofs.Ytdbgfmiokmempaa.PDat (S27 k27 z27 rd_T27 at_T27 S60 k60 z60 rd_T60 at_T60)
open Ends (endsB)
set_option maxHeartbeats 16000000 in
set_option maxRecDepth 100000 in
theorem put9_calls (lev : Int) (A0 : Option Addr) (c0 : Nat) (es : List Entry) (A1 : Option Addr) (c1 : Nat) (ks : List Kid) (W : World) (hC0 : Kd.C k27 W A0 es.length es) (hc0 : es.length ≤ c0) (hC1 : Kd.C k60 W A1 ks.length ks) (hc1 : ks.length ≤ c1) (hn0 : es.length ≤ 1000000) (hn1 : ks.length ≤ 1000000) (hI : KidsIn ks) :
    Calls Try.prog 21 #[.agg #[.int .i64 lev, .slice A0 es.length c0, .slice A1 ks.length c1]] W fun e W1 => ∃ v, e = .returned (.tuple #[v, .int .i64 (putNE lev es ks)]) ∧ Kd.R (Kd.int .u8) 5 W1 W.heap.size (fun _ => True) v (putNL lev es ks) ∧ Below W.heap.size W W1 := by
  have HR := Aside0.mk (fun w (hb : Below W.heap.size W w) => right9_calls lev A0 c0 es A1 c1 ks w (Kd.C_below hC0 hb) hc0 (Kd.C_below hC1 hb) hc1 hn0 hn1)
  have HC0 := Aside0.mk hC0
  have HC1 := Aside0.mk hC1
  have HN0 := Aside0.mk hn0
  have HN1 := Aside0.mk hn1
  have HII := Aside0.mk hI
  have huF := Try.underlying34
  have huE := Try.underlying27
  have huK := Try.underlying60
  by_cases he : nodeE lev es ks = 0
  · have HE := Aside0.mk he
    obtain ⟨q1, q2, q3, q4, q5, q6⟩ := put_facts he hI hn0 hn1
    have HQ1 := Aside0.mk q1
    have HQ2 := Aside0.mk q2
    have HQ3 := Aside0.mk q3
    have HQ4 := Aside0.mk q4
    have HQ5 := Aside0.mk q5
    have HQ6 := Aside0.mk q6
    have hwl : IntKind.u64.wrap lev = lev := by rw [IntKind.wrap_u64]; omega
    obtain ⟨N, hN⟩ : ∃ N : Nat, N = es.length + ks.length := ⟨_, rfl⟩
    have hw64 : wrap64 ((es.length : Int) + (ks.length : Int)) = (N : Int) := by unfold wrap64; omega
    have hwi64 : IntKind.i64.wrap ((es.length : Int) + (ks.length : Int)) = (N : Int) := by first | exact hw64 | (rw [i64_w]; exact hw64)
    have hwu : IntKind.u64.wrap (N : Int) = (N : Int) := by rw [IntKind.wrap_u64]; omega
    have HNN := Aside0.mk hN
    have HNB := Aside0.mk (show 0 ≤ (N : Int) ∧ (N : Int) < 18446744073709551616 by omega)
    clear hC0 hc0 hC1 hc1 hn0 hn1 hI he q1 q2 q3 q4 q5 q6 hN
    go_enter Try.func21, Try.ntmps21
    go_wp2_with (first | (go_at_call 25; refine (HR.out _ (below_alloc (Below.refl _ _) _)).mono ?_; rw [HE.out]; rintro e w2 ⟨rfl, hb⟩; have HB2 := Aside0.mk (below_alloc (below_step (below_alloc (Below.refl W.heap.size W) (.cells #[.int .i64 lev, .slice A0 es.length c0, .slice A1 ks.length c1] 34)) hb) (.cells #[.slice none 0 0] 65)); have hk2 := blk_alloc ((Fr.of_below (B := 0) (T := []) hb).blk (blk_new W (.cells #[.int .i64 lev, .slice A0 es.length c0, .slice A1 ks.length c1] 34)) (by simp)) (.cells #[.slice none 0 0] 65); have HK2 := Aside0.mk hk2; have a0 : World.cell? (w2.alloc (.cells #[.slice none 0 0] 65)) ⟨W.heap.size, 0, none⟩ = some (.int .i64 lev) := (blk_cell hk2 0).trans rfl; have a1 : World.cell? (w2.alloc (.cells #[.slice none 0 0] 65)) ⟨W.heap.size, 1, none⟩ = some (.slice A0 es.length c0) := (blk_cell hk2 1).trans rfl; have a2 : World.cell? (w2.alloc (.cells #[.slice none 0 0] 65)) ⟨W.heap.size, 2, none⟩ = some (.slice A1 ks.length c1) := (blk_cell hk2 2).trans rfl; have HW2 := Aside0.mk (show WrAt W.heap.size w2.heap.size (w2.alloc (.cells #[.slice none 0 0] 65)) [] from ⟨_, blk_new _ _, by have := (below_step (below_alloc (Below.refl W.heap.size W) (.cells #[.int .i64 lev, .slice A0 es.length c0, .slice A1 ks.length c1] 34)) hb).size; exact this, Kd.R_nil _ _ _ _ _⟩); clear hk2; clear hb) | (go_at_call 35; refine (wr_num2_at W.heap.size w2.heap.size _ [] lev (N : Int) _ (size_one _ _) HW2.out HQ1.out HNB.out (by decide)).mono ?_; rintro e w3 ⟨rfl, hw, hf⟩; have HW3 := Aside0.mk hw; have hk3 := hf.blk HK2.out (by decide); have HK3 := Aside0.mk hk3; have HB3 := Aside0.mk (HB2.out.trans (hf.below HB2.out.size)); have b1 : World.cell? w3 ⟨W.heap.size, 1, none⟩ = some (.slice A0 es.length c0) := (blk_cell hk3 1).trans rfl; clear hw hf hk3 a0 a1 a2))
    generalize w2.heap.size = gw at HW3 ⊢
    generalize hbs : enc lev ++ enc ((es.length + ks.length : Nat) : Int) = hd at HQ2
    have HHD := Aside0.mk hbs
    have HW3' := Aside0.mk (show WrAt W.heap.size gw w3 hd by have h := HW3.out; rw [List.nil_append, HNN.out, hbs] at h; exact h)
    clear hbs HW3 HW2 HK2 HB2
    go_loopg [35] es.length (fun kq v35 w' => ∃ i : Nat, v35 = .int .i64 i ∧ Aside0 (i ≤ es.length ∧ kq = es.length - i) ∧ Aside0 (WrAt W.heap.size gw w' (hd ++ encEs (es.take i))) ∧ Aside0 (w'.heap[W.heap.size]? = some (.cells #[.int .i64 lev, .slice A0 es.length c0, .slice A1 ks.length c1] 34 (0, 0))) ∧ Aside0 (Below W.heap.size W w'))
    case atStart => exact ⟨0, rfl, ⟨by omega, by omega⟩, ⟨by simpa [encEs] using HW3'.out⟩, ⟨HK3.out⟩, ⟨HB3.out⟩⟩
    case round =>
      clear b1 HK3 HB3 HW3'
      obtain ⟨i, rfl, HI, HW, HK, HB⟩ := hrel
      by_cases hlt : i < es.length
      · obtain ⟨ad, rfl, h0, h1⟩ := at_T27 (Kd.C_below HC0.out HB.out) (i : Int) (by omega) (by omega)
        simp only [Int.toNat_natCast] at h0 h1
        have HTK := Aside0.mk (encEs_take i hlt)
        have hsz := HQ5.out _ (List.getElem_mem hlt)
        rw [← en_at i hlt] at hsz
        generalize rd_T27 es (i : Int) = x at h0 h1 HTK hsz
        obtain ⟨f0, f1⟩ := x
        simp only at h0 h1 hsz
        have HSZ := Aside0.mk hsz
        have HT0 := Aside0.mk (encT_len f0 (by omega))
        clear hsz
        have hlt' : (i : Int) < (es.length : Int) := by omega
        have HWI := Aside0.mk (show wrap64 ((i : Int) + 1) = ((i + 1 : Nat) : Int) by have := HN0.out; unfold wrap64; omega)
        have HLB := Aside0.mk (show (hd ++ encEs (es.take i)).length ≤ 400000000 by have h1 := HQ2.out; have h2 := HQ3.out i; rw [List.length_append]; omega)
        generalize hbs : hd ++ encEs (es.take i) = bs at HW HLB
        have HBS := Aside0.mk hbs
        clear hbs
        go_wp2_with (first | (go_at_call 36; have hq := HW4.out; clear hq; refine (wr_text W.heap.size gw _ f1 _ HW4.out (by have h1 := HLB.out; have h2 := HT0.out; have h3 := HSZ.out; simp only [List.length_append]; omega)).mono ?_; rintro e w5 ⟨rfl, hw, hf⟩; have HW5 := Aside0.mk hw; have HK5 := Aside0.mk (hf.blk HK4.out (by decide)); have HB5 := Aside0.mk (HB4.out.trans (hf.below HB4.out.size)); clear hw hf) | (go_at_call 36; refine (wr_text W.heap.size gw bs f0 _ (HW.out.below (below_alloc (Below.refl _ _) _)) (by have := HLB.out; have := HSZ.out; omega)).mono ?_; rintro e w4 ⟨rfl, hw, hf⟩; have HW4 := Aside0.mk hw; have HB4 := Aside0.mk (HB.out.trans ((Fr.alloc hf).below HB.out.size)); have HK4 := Aside0.mk (hf.blk (blk_alloc HK.out _) (by decide)); have hv4 := hf.blk (blk_new wr (.cells #[.string f0, .string f1] 27)) (by decide); have y1 : World.cell? w4 ⟨wr.heap.size, 1, none⟩ = some (.string f1) := (blk_cell hv4 1).trans rfl; clear hw hf hv4))
        go_roundg (es.length - (i + 1))
        case measure => have := HI.out; omega
        case rel => exact ⟨i + 1, by rw [HWI.out], ⟨by omega, rfl⟩, ⟨by rw [HTK.out, ← List.append_assoc, HBS.out]; simpa [encE, List.append_assoc] using HW5.out⟩, ⟨HK5.out⟩, ⟨HB5.out⟩⟩
      · have hI : i = es.length := by have := HI.out; omega
        subst hI
        have b2 : World.cell? wr ⟨W.heap.size, 2, none⟩ = some (.slice A1 ks.length c1) := (blk_cell HK.out 2).trans rfl
        have HLB := Aside0.mk (show (hd ++ encEs es).length ≤ 400000000 by have h1 := HQ2.out; have h2 := HQ3.out es.length; rw [List.take_length] at h2; rw [List.length_append]; omega)
        have hW := HW.out
        rw [List.take_length] at hW
        have HWa := Aside0.mk hW
        clear hW HW
        generalize hbs : hd ++ encEs es = bs at HWa HLB
        have HBS := Aside0.mk hbs
        clear hbs
        go_wp2
        go_loopg [51] ks.length (fun kq v51 w' => ∃ i : Nat, v51 = .int .i64 i ∧ Aside0 (i ≤ ks.length ∧ kq = ks.length - i) ∧ Aside0 (WrAt W.heap.size gw w' (bs ++ encKs (ks.take i))) ∧ Aside0 (Below W.heap.size W w'))
        case atStart => exact ⟨0, rfl, ⟨by omega, by omega⟩, ⟨by simpa [encKs] using HWa.out⟩, ⟨HB.out⟩⟩
        case round =>
          clear b2 HWa
          clear HK HB HI
          obtain ⟨i, rfl, HI, HW, HB⟩ := hrel
          by_cases hlt : i < ks.length
          · obtain ⟨ad, rfl, h0, h1⟩ := at_T60 (Kd.C_below HC1.out HB.out) (i : Int) (by omega) (by omega)
            simp only [Int.toNat_natCast] at h0 h1
            have HTK := Aside0.mk (encKs_take i hlt)
            have hsz := HQ6.out _ (List.getElem_mem hlt)
            have hin := HII.out _ (List.getElem_mem hlt)
            rw [← ki_at i hlt] at hsz hin
            generalize rd_T60 ks (i : Int) = x at h0 h1 HTK hsz hin
            obtain ⟨f0, f1⟩ := x
            simp only at h0 h1 hsz hin
            have HSZ := Aside0.mk hsz
            have HIN := Aside0.mk hin
            have HT0 := Aside0.mk (encT_len f0 (by omega))
            clear hsz hin
            have hlt' : (i : Int) < (ks.length : Int) := by omega
            have HWI := Aside0.mk (show wrap64 ((i : Int) + 1) = ((i + 1 : Nat) : Int) by have := HN1.out; unfold wrap64; omega)
            have HLC := Aside0.mk (show (bs ++ encKs (ks.take i)).length ≤ 600000000 by have h1 := HLB.out; have h2 := HQ4.out i; rw [List.length_append]; omega)
            generalize hcs : bs ++ encKs (ks.take i) = cs at HW HLC
            have HCS := Aside0.mk hcs
            clear hcs
            go_wp2_with (first | (go_at_call 35; have hq := HW4.out; clear hq; refine (wr_num1_at W.heap.size gw _ _ f1 _ rfl HW4.out HIN.out (by have h1 := HLC.out; have h2 := HT0.out; have h3 := HSZ.out; simp only [List.length_append]; omega)).mono ?_; rintro e w5 ⟨rfl, hw, hf⟩; have HW5 := Aside0.mk hw; have HB5 := Aside0.mk (HB4.out.trans (hf.below HB4.out.size)); clear hw hf) | (go_at_call 36; refine (wr_text W.heap.size gw cs f0 _ (HW.out.below (below_alloc (Below.refl _ _) _)) (by have := HLC.out; have := HSZ.out; omega)).mono ?_; rintro e w4 ⟨rfl, hw, hf⟩; have HW4 := Aside0.mk hw; have HB4 := Aside0.mk (HB.out.trans ((Fr.alloc hf).below HB.out.size)); have hv4 := hf.blk (blk_new wr (.cells #[.string f0, .int .u64 f1] 60)) (by decide); have y1 : World.cell? w4 ⟨wr.heap.size, 1, none⟩ = some (.int .u64 f1) := (blk_cell hv4 1).trans rfl; clear hw hf hv4))
            go_roundg (ks.length - (i + 1))
            case measure => have := HI.out; omega
            case rel => exact ⟨i + 1, by rw [HWI.out], ⟨by omega, rfl⟩, ⟨by rw [HTK.out, ← List.append_assoc, HCS.out]; simpa [encK, List.append_assoc] using HW5.out⟩, ⟨HB5.out⟩⟩
          · have hI : i = ks.length := by have := HI.out; omega
            subst hI
            have hW := HW.out
            rw [List.take_length] at hW
            have HLC := Aside0.mk (show (bs ++ encKs ks).length ≤ 600000000 by have h1 := HLB.out; have h2 := HQ4.out ks.length; rw [List.take_length] at h2; rw [List.length_append]; omega)
            have HZ := Aside0.mk (show bs ++ encKs ks = encN lev es ks by rw [encN, HHD.out, HBS.out])
            generalize bs ++ encKs ks = cs at hW HLC HZ
            have HWc := Aside0.mk hW
            clear hW HW
            by_cases hlong : (131072 : Int) < (cs.length : Int)
            · have hl1 : decide ((131072 : Int) < (cs.length : Int)) = true := decide_eq_true hlong
              have HP := Aside0.mk (show putNE lev es ks = 2 by unfold putNE; rw [if_pos HE.out, ← HZ.out, if_neg (by omega)])
              have HPL := Aside0.mk (show putNL lev es ks = [] by unfold putNL; rw [HP.out]; rfl)
              clear hlong
              go_wp2_with (go_at_call 37; refine (wr_bytes W.heap.size gw _ _ HWc.out (by have := HLC.out; omega)).mono ?_; rintro e w7 ⟨v, rfl, hr, hb⟩; obtain ⟨A7, c7, hv7, _, _⟩ := Kd.R_reads hr; subst hv7; have HR7 := Aside0.mk (Kd.R_lower hr HB.out.size); have HB7 := Aside0.mk (below_step HB.out hb); clear hr hb)
              go_ret2
              refine ⟨.slice none 0 0, by rw [HP.out]; rfl, ?_, HB7.out⟩
              rw [HPL.out]
              exact Kd.R_nil _ _ _ _ _
            · have hl1 : decide ((131072 : Int) < (cs.length : Int)) = false := decide_eq_false hlong
              have HP := Aside0.mk (show putNE lev es ks = 0 by unfold putNE; rw [if_pos HE.out, ← HZ.out, if_pos (by omega)])
              have HPL := Aside0.mk (show putNL lev es ks = cs by unfold putNL; rw [HP.out, HZ.out]; rfl)
              clear hlong
              go_wp2_with (go_at_call 37; refine (wr_bytes W.heap.size gw _ _ HWc.out (by have := HLC.out; omega)).mono ?_; rintro e w7 ⟨v, rfl, hr, hb⟩; obtain ⟨A7, c7, hv7, _, _⟩ := Kd.R_reads hr; subst hv7; have HR7 := Aside0.mk (Kd.R_lower hr HB.out.size); have HB7 := Aside0.mk (below_step HB.out hb); clear hr hb)
              go_ret2
              refine ⟨_, by rw [HP.out]; rfl, ?_, HB7.out⟩
              rw [HPL.out]
              exact HR7.out
  · have he' : (nodeE lev es ks != 0) = true := bne_iff_ne.mpr he
    have HP := Aside0.mk (show putNE lev es ks = nodeE lev es ks by unfold putNE; rw [if_neg he])
    have HPL := Aside0.mk (show putNL lev es ks = [] by unfold putNL; rw [HP.out, if_neg he])
    clear hC0 hc0 hC1 hc1 hn0 hn1 hI he
    go_enter Try.func21, Try.ntmps21
    go_wp2_with (go_at_call 25; refine (HR.out _ (below_alloc (Below.refl _ _) _)).mono ?_; rintro e w2 ⟨rfl, hb⟩; have HB2 := Aside0.mk (below_step (below_alloc (Below.refl _ _) (.cells #[.int .i64 lev, .slice A0 es.length c0, .slice A1 ks.length c1] 34)) hb); clear hb)
    go_ret2
    refine ⟨.slice none 0 0, by rw [HP.out]; rfl, ?_, HB2.out⟩
    rw [HPL.out]
    exact Kd.R_nil _ _ _ _ _
end Go.Proofs.Ytdbgfmiokmempaa.Sep
namespace Go.Proofs.Ytdbgfmiokmempaa.Sep
set_option linter.unusedSimpArgs false
set_option linter.unusedVariables false
open Go.RowKit Go.Proofs.Ytdbgfmiokmempaa.PCore Go.Proofs.Ytdbgfmiokmempaa.Plain Go.Proofs.YtdbgfmiokmempaaW.PrintWords Go.Proofs.YtdbgfmiokmempaaW.PrintLast Go.Proofs.YtdbgfmiokmempaaW.PrintMore
open Go.Proofs.Ytdbgfmiokmempaa.PDat (S27 k27 z27 rd_T27 at_T27 k27_mk S60 k60 z60 rd_T60 at_T60)
open Ends (endsB)
/-- Put, told of its bytes as a row that is read. -/
theorem putB9 (lev : Int) (A0 : Option Addr) (c0 : Nat) (es : List Entry) (A1 : Option Addr) (c1 : Nat) (ks : List Kid) (W : World) (hC0 : Kd.C k27 W A0 es.length es) (hc0 : es.length ≤ c0) (hC1 : Kd.C k60 W A1 ks.length ks) (hc1 : ks.length ≤ c1) (hn0 : es.length ≤ 1000000) (hn1 : ks.length ≤ 1000000) (hI : KidsIn ks) :
    Calls Try.prog 21 #[.agg #[.int .i64 lev, .slice A0 es.length c0, .slice A1 ks.length c1]] W fun e W1 => ∃ A c, e = .returned (.tuple #[.slice A (putNL lev es ks).length c, .int .i64 (putNE lev es ks)]) ∧ (putNL lev es ks).length ≤ c ∧ Kd.C (Kd.int .u8) W1 A (putNL lev es ks).length (putNL lev es ks) ∧ Below W.heap.size W W1 := by
  refine (put9_calls lev A0 c0 es A1 c1 ks W hC0 hc0 hC1 hc1 hn0 hn1 hI).mono ?_
  rintro e W1 ⟨v, rfl, hr, hb⟩
  obtain ⟨A, c, rfl, hc, hC⟩ := Kd.R_reads hr
  exact ⟨A, c, rfl, hc, hC, hb⟩
abbrev Ka : ByteArray := ⟨#[97]⟩
abbrev K1 : ByteArray := ⟨#[49]⟩
theorem leaf_C (W : World) (a b : ByteArray) : Kd.C k27 (W.alloc (.cells #[.string a, .string b] 27)) (some ⟨W.heap.size, 0, none⟩) [(⟨a, b⟩ : Entry)].length [⟨a, b⟩] := by
  have hk := blk_new W (.cells #[.string a, .string b] 27)
  refine ⟨rfl, by simp, fun _ => ⟨_, rfl, fun j p hj => ?_⟩⟩
  obtain ⟨rfl, rfl⟩ : j = 0 ∧ p = ⟨a, b⟩ := by
    cases j with
    | zero => simp at hj; exact ⟨rfl, hj.symm⟩
    | succ j => simp at hj
  refine ⟨_, rfl, k27_mk _ ⟨a, b⟩, fun j u hu => ?_⟩
  rw [add_plain]
  rw [blk_cell hk]
  simpa using hu
theorem put_none : putNE 0 [] [] = 90 := by
  have h : nodeE 0 [] [] = 90 := by simp [nodeE, textsE, entsE, kidsE, shapeB]
  unfold putNE
  rw [h]
  rfl
theorem put_leaf : putNE 0 [⟨Ka, K1⟩] [] = 0 ∧ (putNL 0 [⟨Ka, K1⟩] []).length = 6 := by
  have ha : Ka.size = 1 := rfl
  have hb : K1.size = 1 := rfl
  have h : nodeE 0 [⟨Ka, K1⟩] [] = 0 := by
    have h1 : textsE [⟨Ka, K1⟩] [] = 0 := by
      simp only [textsE, entsE, kidsE, keyE, valE, ha, hb]
      rfl
    have h2 : riseB 0 none (keysL [⟨Ka, K1⟩] []) = true := by simp [keysL, riseB]
    exact nodeE_ok h1 rfl h2 rfl
  have hl : (encN 0 [⟨Ka, K1⟩] []).length = 6 := by
    simp only [encN, encEs, encKs, encE, encT, List.map_cons, List.map_nil, List.flatten_cons, List.flatten_nil, List.length_append, List.length_nil, bytesOf_length, ha, hb]
    rw [enc_lt (by decide), enc_lt (by decide), enc_lt (by decide)]
    rfl
  have hp : putNE 0 [⟨Ka, K1⟩] [] = 0 := by
    unfold putNE
    rw [if_pos h, if_pos (by omega)]
  refine ⟨hp, ?_⟩
  unfold putNL
  rw [if_pos hp, hl]
set_option maxHeartbeats 4000000 in
set_option maxRecDepth 100000 in
theorem awake9_calls (W : World) : Calls Try.prog 7 #[] W fun e W1 => e = .returned (.bool true) ∧ Below W.heap.size W W1 := by
  have huF := Try.underlying34
  have H1 := Aside0.mk (fun w => putB9 0 none 0 [] none 0 [] w (Kd.C_nil _ _) (by simp) (Kd.C_nil _ _) (by simp) (by simp) (by simp) (fun x hx => by simp at hx))
  have H2 := Aside0.mk (fun w => putB9 0 (some ⟨w.heap.size, 0, none⟩) 1 [⟨Ka, K1⟩] none 0 [] (w.alloc (.cells #[.string Ka, .string K1] 27)) (leaf_C w Ka K1) (by simp) (Kd.C_nil _ _) (by simp) (by simp) (by simp) (fun x hx => by simp at hx))
  have hp := put_leaf
  have HP1 := Aside0.mk hp.1
  have hp2 := hp.2
  have HP0 := Aside0.mk put_none
  clear hp
  go_enter Try.func7, Try.ntmps7
  go_wp2_with (go_at_call 21; first | (have hq := HB1.out; clear hq; refine (H2.out _).mono ?_; rw [HP1.out, hp2]; rintro e w2 ⟨A2, c2, rfl, hc2, hC2, hb⟩; have HB2 := Aside0.mk (below_step (below_alloc HB1.out (.cells #[.string Ka, .string K1] 27)) hb); clear hb hC2 hc2) | (refine (H1.out _).mono ?_; rw [HP0.out]; rintro e w1 ⟨A1, c1, rfl, hc1, hC1, hb⟩; have HB1 := Aside0.mk hb; clear hb hC1 hc1))
  go_ret
  exact ⟨by first | rfl | simp, HB2.out⟩
end Go.Proofs.Ytdbgfmiokmempaa.Sep
