/- The walk of the law NodeBack. Printed by gen20.py. Conditions: the bounds of the statement. -/
import Derived.Test.YtdbgfmiokmempaaNodeG
import Derived.Deep.RegionHeld3
namespace Go.Proofs.Ytdbgfmiokmempaa.Sep
set_option linter.unusedSimpArgs false
set_option linter.unusedVariables false
open Go.RowKit Go.Proofs.Ytdbgfmiokmempaa.PCore Go.Proofs.Ytdbgfmiokmempaa.Plain Go.Proofs.YtdbgfmiokmempaaW.PrintWords Go.Proofs.YtdbgfmiokmempaaW.PrintLast Go.Proofs.YtdbgfmiokmempaaW.PrintMore
open Go.Proofs.Ytdbgfmiokmempaa.PDat (S27 k27 S60 k60)
open Ends (endsB)
theorem nod_cells {w : World} {g t : Nat} {a b c : Value} (h : w.heap[g]? = some (.cells #[a, b, c] t (0, 0))) : w.cell? ⟨g, 0, none⟩ = some a ∧ w.cell? ⟨g, 1, none⟩ = some b ∧ w.cell? ⟨g, 2, none⟩ = some c :=
  ⟨(blk_cell h 0).trans rfl, (blk_cell h 1).trans rfl, (blk_cell h 2).trans rfl⟩
theorem of_wf_u8 {x : Int} (h : (Lit.int .u8 x).wf = true) : 0 ≤ x ∧ x < 256 := Plain.u8_of h
set_option maxHeartbeats 32000000 in
set_option maxRecDepth 100000 in
theorem nodeBack_walk (A : Option Addr) (n : Nat) (B : Option Addr) (m : Nat) (x : Nod) (A1 : Option Addr) (c1 : Nat) (b : List Int) (W : World)
    (hn0 : x.es.length ≤ n) (hm0 : x.ks.length ≤ m) (hC0 : Kd.C k27 W A x.es.length x.es) (hD0 : Kd.C k60 W B x.ks.length x.ks) (hw0 : okN x)
    (hC1 : Kd.C (Kd.int .u8) W A1 b.length b) (hc1 : b.length ≤ c1) (hm1 : b.length ≤ maxLen) (hw1 : ∀ y ∈ b, (Lit.int .u8 y).wf = true) :
    Calls Try.prog 6 #[.agg #[.int .i64 x.lev, .slice A x.es.length n, .slice B x.ks.length m], .slice A1 b.length c1] W fun e W1 => e = .returned (.bool true) ∧ Below W.heap.size W W1 := by
  have HA := Aside0.mk (fun w => awake9_calls w)
  have HC0 := Aside0.mk hC0
  have HD0 := Aside0.mk hD0
  have HN0 := Aside0.mk hn0
  have HM0 := Aside0.mk hm0
  have HC1 := Aside0.mk hC1
  have HN1 := Aside0.mk hc1
  have HKI := Aside0.mk (okN_kids hw0)
  have huF := Try.underlying34
  cases hsm : smallN x.es x.ks with
  | false =>
    have HSM := Aside0.mk hsm
    clear hsm hC0 hD0 hn0 hm0 hC1 hc1 hm1 hw1 hw0
    go_enter Try.func6, Try.ntmps6
    go_wp2_with (first | (go_at_call 7; refine (HA.out _).mono ?_; rintro e w1 ⟨rfl, hb⟩; have HB1 := Aside0.mk (below_step (below_alloc (Below.refl W.heap.size W) (.cells #[.int .i64 x.lev, .slice A x.es.length n, .slice B x.ks.length m] 34)) hb); have hk1 := (Fr.of_below (B := 0) (T := []) hb).blk (blk_new W (.cells #[.int .i64 x.lev, .slice A x.es.length n, .slice B x.ks.length m] 34)) (by simp); have HK1 := Aside0.mk hk1; obtain ⟨a0, a1, a2⟩ := nod_cells hk1; clear hb hk1) | (go_at_call 12; refine (small9_calls x.lev A n x.es B m x.ks _ (Kd.C_below HC0.out HB1.out) HN0.out (Kd.C_below HD0.out HB1.out) HM0.out).mono ?_; rw [HSM.out]; rintro e w2 ⟨rfl, hb⟩; have HB2 := Aside0.mk (below_step HB1.out hb); have hk2 := (Fr.of_below (B := 0) (T := []) hb).blk HK1.out (by simp); have HK2 := Aside0.mk hk2; obtain ⟨b0, b1, b2⟩ := nod_cells hk2; clear hb hk2))
    go_ret
    exact ⟨rfl, HB2.out⟩
  | true =>
    have HSM := Aside0.mk hsm
    by_cases hb : (2000 : Int) < (b.length : Int)
    · have hb' : decide ((2000 : Int) < (b.length : Int)) = true := decide_eq_true hb
      clear hsm hC0 hD0 hn0 hm0 hC1 hc1 hm1 hw1 hb hw0
      go_enter Try.func6, Try.ntmps6
      go_wp2_with (first | (go_at_call 7; refine (HA.out _).mono ?_; rintro e w1 ⟨rfl, hb⟩; have HB1 := Aside0.mk (below_step (below_alloc (Below.refl W.heap.size W) (.cells #[.int .i64 x.lev, .slice A x.es.length n, .slice B x.ks.length m] 34)) hb); have hk1 := (Fr.of_below (B := 0) (T := []) hb).blk (blk_new W (.cells #[.int .i64 x.lev, .slice A x.es.length n, .slice B x.ks.length m] 34)) (by simp); have HK1 := Aside0.mk hk1; obtain ⟨a0, a1, a2⟩ := nod_cells hk1; clear hb hk1) | (go_at_call 12; refine (small9_calls x.lev A n x.es B m x.ks _ (Kd.C_below HC0.out HB1.out) HN0.out (Kd.C_below HD0.out HB1.out) HM0.out).mono ?_; rw [HSM.out]; rintro e w2 ⟨rfl, hb⟩; have HB2 := Aside0.mk (below_step HB1.out hb); have hk2 := (Fr.of_below (B := 0) (T := []) hb).blk HK1.out (by simp); have HK2 := Aside0.mk hk2; obtain ⟨b0, b1, b2⟩ := nod_cells hk2; clear hb hk2))
      go_ret
      exact ⟨rfl, HB2.out⟩
    · have hb' : decide ((2000 : Int) < (b.length : Int)) = false := decide_eq_false hb
      obtain ⟨q1, q2, q3⟩ := smallN_in hsm
      obtain ⟨q4, q5⟩ := lightE_in q3
      have HL0 := Aside0.mk (show x.es.length ≤ 1000000 by omega)
      have HL1 := Aside0.mk (show x.ks.length ≤ 1000000 by omega)
      have HFB := Aside0.mk (show Fine (b, false) from ⟨fun y hy => of_wf_u8 (hw1 y hy), by show b.length ≤ 1000000; omega, fun h => by simp at h⟩)
      have HOT := Aside0.mk (ofN_two b)
      have HPF := Aside0.mk (putNL_fine (lev := x.lev) (es := x.es) HKI.out)
      clear hsm hC0 hD0 hn0 hm0 hC1 hc1 hm1 hw1 hb q1 q2 q3 q4 q5 hw0
      by_cases he : putNE x.lev x.es x.ks = 0
      · have HPE := Aside0.mk he
        have HOE := Aside0.mk (ofN_enc he HKI.out)
        clear he
        go_enter Try.func6, Try.ntmps6
        go_wp2_with (first | (go_at_call 7; refine (HA.out _).mono ?_; rintro e w1 ⟨rfl, hb⟩; have HB1 := Aside0.mk (below_step (below_alloc (Below.refl W.heap.size W) (.cells #[.int .i64 x.lev, .slice A x.es.length n, .slice B x.ks.length m] 34)) hb); have hk1 := (Fr.of_below (B := 0) (T := []) hb).blk (blk_new W (.cells #[.int .i64 x.lev, .slice A x.es.length n, .slice B x.ks.length m] 34)) (by simp); have HK1 := Aside0.mk hk1; obtain ⟨a0, a1, a2⟩ := nod_cells hk1; clear hb hk1) | (go_at_call 12; refine (small9_calls x.lev A n x.es B m x.ks _ (Kd.C_below HC0.out HB1.out) HN0.out (Kd.C_below HD0.out HB1.out) HM0.out).mono ?_; rw [HSM.out]; rintro e w2 ⟨rfl, hb⟩; have HB2 := Aside0.mk (below_step HB1.out hb); have hk2 := (Fr.of_below (B := 0) (T := []) hb).blk HK1.out (by simp); have HK2 := Aside0.mk hk2; obtain ⟨b0, b1, b2⟩ := nod_cells hk2; clear hb hk2) | (go_at_call 21; refine (putB9 x.lev A n x.es B m x.ks _ (Kd.C_below HC0.out HB2.out) HN0.out (Kd.C_below HD0.out HB2.out) HM0.out HL0.out HL1.out HKI.out).mono ?_; rw [HPE.out]; rintro e w3 ⟨A3, c3, rfl, hn3, hC3, hb⟩; have HC3 := Aside0.mk hC3; have HK3 := Aside0.mk ((Fr.of_below (B := 0) (T := []) hb).blk HK2.out (by simp)); have HB3 := Aside0.mk (below_step HB2.out hb); clear hb hC3 hn3) | (go_at_call 23; have hq := HC3.out; clear hq; refine (of9_calls A3 c3 _ _ HC3.out HPF.out).mono ?_; rw [HOE.out]; rintro e w4 ⟨B4, d4, B5, d5, rfl, hd4, hd5, hC4, hD4, hb⟩; simp only at hd4 hd5 hC4 hD4; have HC4 := Aside0.mk hC4; have HD4 := Aside0.mk hD4; have HE4 := Aside0.mk hd4; have HG4 := Aside0.mk hd5; have HK4 := Aside0.mk ((Fr.of_below (B := 0) (T := []) hb).blk HK3.out (by simp)); have HB4 := Aside0.mk (below_step HB3.out hb); clear hb hC4 hD4 hd4 hd5 HC3))
        have hkm := blk_new w4 (.cells #[.int .i64 x.lev, .slice B4 x.es.length d4, .slice B5 x.ks.length d5] 34)
        have hkn := blk_alloc HK4.out (.cells #[.int .i64 x.lev, .slice B4 x.es.length d4, .slice B5 x.ks.length d5] 34)
        have HB5 := Aside0.mk (below_alloc HB4.out (.cells #[.int .i64 x.lev, .slice B4 x.es.length d4, .slice B5 x.ks.length d5] 34))
        have HC5 := Aside0.mk (Kd.C_alloc HC4.out (.cells #[.int .i64 x.lev, .slice B4 x.es.length d4, .slice B5 x.ks.length d5] 34))
        have HD5 := Aside0.mk (Kd.C_alloc HD4.out (.cells #[.int .i64 x.lev, .slice B4 x.es.length d4, .slice B5 x.ks.length d5] 34))
        generalize w4.alloc (.cells #[.int .i64 x.lev, .slice B4 x.es.length d4, .slice B5 x.ks.length d5] 34) = w5 at hkm hkn HB5 HC5 HD5 ⊢
        generalize w4.heap.size = gm at hkm ⊢
        have HKm := Aside0.mk hkm
        have HKn := Aside0.mk hkn
        obtain ⟨m0, m1, m2⟩ := nod_cells (blk_drew hkm)
        obtain ⟨n0, n1, n2⟩ := nod_cells (blk_drew hkn)
        have HKmd := Aside0.mk (blk_drew hkm)
        have HKnd := Aside0.mk (blk_drew hkn)
        clear hkm hkn a0 a1 a2 b0 b1 b2
        go_region_held3 (fun w' => (World.cell? w' ⟨gm, 0, none⟩ = some (.int .i64 x.lev) ∧ World.cell? w' ⟨gm, 1, none⟩ = some (.slice B4 x.es.length d4) ∧ World.cell? w' ⟨gm, 2, none⟩ = some (.slice B5 x.ks.length d5)) ∧ World.cell? w' ⟨W.heap.size, 0, none⟩ = some (.int .i64 x.lev) ∧ World.cell? w' ⟨W.heap.size, 1, none⟩ = some (.slice A x.es.length n) ∧ World.cell? w' ⟨W.heap.size, 2, none⟩ = some (.slice B x.ks.length m)) (first | exact ⟨⟨m0, m1, m2⟩, n0, n1, n2⟩ | exact ⟨⟨m60, m61, m62⟩, n60, n61, n62⟩ | exact ⟨⟨m70, m71, m72⟩, n70, n71, n72⟩ | exact ⟨⟨m80, m81, m82⟩, n80, n81, n82⟩ | go_keep) (first | (go_at_call 28; have hq := HB7.out; clear hq; refine (last9_calls x.lev A n x.es B m x.ks _ (Kd.C_below HC0.out HB7.out) HN0.out (Kd.C_below HD0.out HB7.out) HM0.out HL0.out HL1.out).mono ?_; rintro e w8 ⟨rfl, hb⟩; have HB8 := Aside0.mk (below_step HB7.out hb); have hkm8 := (Fr.of_below (B := 0) (T := []) hb).blk HKm7.out (by simp); have hkn8 := (Fr.of_below (B := 0) (T := []) hb).blk HKn7.out (by simp); have HKm8 := Aside0.mk hkm8; have HKn8 := Aside0.mk hkn8; obtain ⟨m80, m81, m82⟩ := nod_cells hkm8; obtain ⟨n80, n81, n82⟩ := nod_cells hkn8; clear hb hkm8 hkn8) | (go_at_call 28; refine (last9_calls x.lev B4 d4 x.es B5 d5 x.ks _ HC6.out HE4.out HD6.out HG4.out HL0.out HL1.out).mono ?_; rintro e w7 ⟨rfl, hb⟩; have HB7 := Aside0.mk (below_step HB6.out hb); have hkm7 := (Fr.of_below (B := 0) (T := []) hb).blk HKm6.out (by simp); have hkn7 := (Fr.of_below (B := 0) (T := []) hb).blk HKn6.out (by simp); have HKm7 := Aside0.mk hkm7; have HKn7 := Aside0.mk hkn7; obtain ⟨m70, m71, m72⟩ := nod_cells hkm7; obtain ⟨n70, n71, n72⟩ := nod_cells hkn7; clear hb hkm7 hkn7) | (go_at_call 27; refine (sameN_calls x.lev B4 d4 x.es B5 d5 x.ks x.lev A n x.es B m x.ks _ (Kd.C_drew HC5.out) HE4.out (Kd.C_drew HD5.out) HG4.out (Kd.C_drew (Kd.C_below HC0.out HB5.out)) HN0.out (Kd.C_drew (Kd.C_below HD0.out HB5.out)) HM0.out).mono ?_; rw [oneN_self]; rintro e w6 ⟨rfl, hb⟩; have HB6 := Aside0.mk (below_step (below_drew HB5.out) hb); have HC6 := Aside0.mk (Kd.C_below (Kd.C_drew HC5.out) hb); have HD6 := Aside0.mk (Kd.C_below (Kd.C_drew HD5.out) hb); have hkm6 := (Fr.of_below (B := 0) (T := []) hb).blk HKmd.out (by simp); have hkn6 := (Fr.of_below (B := 0) (T := []) hb).blk HKnd.out (by simp); have HKm6 := Aside0.mk hkm6; have HKn6 := Aside0.mk hkn6; obtain ⟨m60, m61, m62⟩ := nod_cells hkm6; obtain ⟨n60, n61, n62⟩ := nod_cells hkn6; clear hb hkm6 hkn6))
        all_goals (
          have HBP := Aside0.mk HB8.out
          clear m0 m1 m2 n0 n1 n2 m60 m61 m62 n60 n61 n62 m70 m71 m72 n70 n71 n72 m80 m81 m82 n80 n81 n82
          rcases HOT.out with hz | hy
          · obtain ⟨y, hy⟩ : ∃ y : Nod, ofN b = (y, 0) := ⟨(ofN b).1, by rw [← hz]⟩
            have HOB := Aside0.mk hy
            have hby := ofN_bytes HFB.out hz
            have hiy := ofN_in HFB.out
            rw [hy] at hby hiy
            have HPY := Aside0.mk hby.1
            have HLY := Aside0.mk hby.2
            have HIY := Aside0.mk hiy
            clear hy hz hby hiy
            go_wp2_with (first | (go_at_call 21; have hq := HB9.out; clear hq; refine (putB9 y.lev B9 d9 y.es E9 f9 y.ks _ (Kd.C_alloc HC9.out _) HE9.out (Kd.C_alloc HD9.out _) HG9.out HIY.out.2.1 HIY.out.2.2 HIY.out.1).mono ?_; rw [HPY.out, HLY.out]; rintro e wb ⟨Bb, cb, rfl, hnb, hCb, hb⟩; have hs1 := Kd.C_string (P := Try.prog) (A := Bb) (c := cb) Try.underlying42 Try.underlying5 Try.underlying9 hCb; have HBE := Aside0.mk (below_step HB9.out hb); have hs2 := Kd.C_string (P := Try.prog) (A := A1) (c := c1) Try.underlying42 Try.underlying5 Try.underlying9 (Kd.C_below HC1.out HBE.out); clear hb hCb hnb) | (go_at_call 23; have hq := HBP.out; clear hq; refine (of9_calls A1 c1 b _ (Kd.C_below HC1.out HBP.out) HFB.out).mono ?_; rw [HOB.out]; rintro e w9 ⟨B9, d9, E9, f9, rfl, hd9, hf9, hC9, hD9, hb⟩; simp only at hd9 hf9 hC9 hD9; have HC9 := Aside0.mk hC9; have HD9 := Aside0.mk hD9; have HE9 := Aside0.mk hd9; have HG9 := Aside0.mk hf9; have HB9 := Aside0.mk (below_alloc (below_step HBP.out hb) (.cells #[.int .i64 y.lev, .slice B9 y.es.length d9, .slice E9 y.ks.length f9] 34)); clear hb hC9 hD9 hd9 hf9))
            go_ret
            exact ⟨by first | rfl | simp, HBE.out⟩
          · have HOB := Aside0.mk hy
            clear hy
            go_wp2_with ((go_at_call 23; have hq := HBP.out; clear hq; refine (of9_calls A1 c1 b _ (Kd.C_below HC1.out HBP.out) HFB.out).mono ?_; rw [HOB.out]; rintro e w9 ⟨B9, d9, E9, f9, rfl, hd9, hf9, hC9, hD9, hb⟩; have HBE := Aside0.mk (below_alloc (below_step HBP.out hb) (.cells #[.int .i64 zeroN.lev, .slice B9 zeroN.es.length d9, .slice E9 zeroN.ks.length f9] 34)); clear hb hC9 hD9 hd9 hf9))
            go_ret
            exact ⟨rfl, HBE.out⟩)
      · have he' : (putNE x.lev x.es x.ks == 0) = false := beq_eq_false_iff_ne.mpr he
        clear he HPF
        rcases HOT.out with hz | hy
        · obtain ⟨y, hy⟩ : ∃ y : Nod, ofN b = (y, 0) := ⟨(ofN b).1, by rw [← hz]⟩
          have HOB := Aside0.mk hy
          have hby := ofN_bytes HFB.out hz
          have hiy := ofN_in HFB.out
          rw [hy] at hby hiy
          have HPY := Aside0.mk hby.1
          have HLY := Aside0.mk hby.2
          have HIY := Aside0.mk hiy
          clear hy hz hby hiy
          go_enter Try.func6, Try.ntmps6
          go_wp2_with (first | (go_at_call 21; have hq := HB9.out; clear hq; refine (putB9 y.lev B9 d9 y.es E9 f9 y.ks _ (Kd.C_alloc HC9.out _) HE9.out (Kd.C_alloc HD9.out _) HG9.out HIY.out.2.1 HIY.out.2.2 HIY.out.1).mono ?_; rw [HPY.out, HLY.out]; rintro e wb ⟨Bb, cb, rfl, hnb, hCb, hb⟩; have hs1 := Kd.C_string (P := Try.prog) (A := Bb) (c := cb) Try.underlying42 Try.underlying5 Try.underlying9 hCb; have HBE := Aside0.mk (below_step HB9.out hb); have hs2 := Kd.C_string (P := Try.prog) (A := A1) (c := c1) Try.underlying42 Try.underlying5 Try.underlying9 (Kd.C_below HC1.out HBE.out); clear hb hCb hnb) | (go_at_call 23; have hq := HBP.out; clear hq; refine (of9_calls A1 c1 b _ (Kd.C_below HC1.out HBP.out) HFB.out).mono ?_; rw [HOB.out]; rintro e w9 ⟨B9, d9, E9, f9, rfl, hd9, hf9, hC9, hD9, hb⟩; simp only at hd9 hf9 hC9 hD9; have HC9 := Aside0.mk hC9; have HD9 := Aside0.mk hD9; have HE9 := Aside0.mk hd9; have HG9 := Aside0.mk hf9; have HB9 := Aside0.mk (below_alloc (below_step HBP.out hb) (.cells #[.int .i64 y.lev, .slice B9 y.es.length d9, .slice E9 y.ks.length f9] 34)); clear hb hC9 hD9 hd9 hf9) | (go_at_call 7; refine (HA.out _).mono ?_; rintro e w1 ⟨rfl, hb⟩; have HB1 := Aside0.mk (below_step (below_alloc (Below.refl W.heap.size W) (.cells #[.int .i64 x.lev, .slice A x.es.length n, .slice B x.ks.length m] 34)) hb); have hk1 := (Fr.of_below (B := 0) (T := []) hb).blk (blk_new W (.cells #[.int .i64 x.lev, .slice A x.es.length n, .slice B x.ks.length m] 34)) (by simp); have HK1 := Aside0.mk hk1; obtain ⟨a0, a1, a2⟩ := nod_cells hk1; clear hb hk1) | (go_at_call 12; refine (small9_calls x.lev A n x.es B m x.ks _ (Kd.C_below HC0.out HB1.out) HN0.out (Kd.C_below HD0.out HB1.out) HM0.out).mono ?_; rw [HSM.out]; rintro e w2 ⟨rfl, hb⟩; have HB2 := Aside0.mk (below_step HB1.out hb); have hk2 := (Fr.of_below (B := 0) (T := []) hb).blk HK1.out (by simp); have HK2 := Aside0.mk hk2; obtain ⟨b0, b1, b2⟩ := nod_cells hk2; clear hb hk2) | (go_at_call 21; refine (putB9 x.lev A n x.es B m x.ks _ (Kd.C_below HC0.out HB2.out) HN0.out (Kd.C_below HD0.out HB2.out) HM0.out HL0.out HL1.out HKI.out).mono ?_; rintro e w3 ⟨A3, c3, rfl, hn3, hC3, hb⟩; have HC3 := Aside0.mk hC3; have HK3 := Aside0.mk ((Fr.of_below (B := 0) (T := []) hb).blk HK2.out (by simp)); have HB3 := Aside0.mk (below_step HB2.out hb); have HBP := Aside0.mk HB3.out; clear hb hC3 hn3))
          go_ret
          exact ⟨by first | rfl | simp, HBE.out⟩
        · have HOB := Aside0.mk hy
          clear hy
          go_enter Try.func6, Try.ntmps6
          go_wp2_with (first | (go_at_call 23; have hq := HBP.out; clear hq; refine (of9_calls A1 c1 b _ (Kd.C_below HC1.out HBP.out) HFB.out).mono ?_; rw [HOB.out]; rintro e w9 ⟨B9, d9, E9, f9, rfl, hd9, hf9, hC9, hD9, hb⟩; have HBE := Aside0.mk (below_alloc (below_step HBP.out hb) (.cells #[.int .i64 zeroN.lev, .slice B9 zeroN.es.length d9, .slice E9 zeroN.ks.length f9] 34)); clear hb hC9 hD9 hd9 hf9) | (go_at_call 7; refine (HA.out _).mono ?_; rintro e w1 ⟨rfl, hb⟩; have HB1 := Aside0.mk (below_step (below_alloc (Below.refl W.heap.size W) (.cells #[.int .i64 x.lev, .slice A x.es.length n, .slice B x.ks.length m] 34)) hb); have hk1 := (Fr.of_below (B := 0) (T := []) hb).blk (blk_new W (.cells #[.int .i64 x.lev, .slice A x.es.length n, .slice B x.ks.length m] 34)) (by simp); have HK1 := Aside0.mk hk1; obtain ⟨a0, a1, a2⟩ := nod_cells hk1; clear hb hk1) | (go_at_call 12; refine (small9_calls x.lev A n x.es B m x.ks _ (Kd.C_below HC0.out HB1.out) HN0.out (Kd.C_below HD0.out HB1.out) HM0.out).mono ?_; rw [HSM.out]; rintro e w2 ⟨rfl, hb⟩; have HB2 := Aside0.mk (below_step HB1.out hb); have hk2 := (Fr.of_below (B := 0) (T := []) hb).blk HK1.out (by simp); have HK2 := Aside0.mk hk2; obtain ⟨b0, b1, b2⟩ := nod_cells hk2; clear hb hk2) | (go_at_call 21; refine (putB9 x.lev A n x.es B m x.ks _ (Kd.C_below HC0.out HB2.out) HN0.out (Kd.C_below HD0.out HB2.out) HM0.out HL0.out HL1.out HKI.out).mono ?_; rintro e w3 ⟨A3, c3, rfl, hn3, hC3, hb⟩; have HC3 := Aside0.mk hC3; have HK3 := Aside0.mk ((Fr.of_below (B := 0) (T := []) hb).blk HK2.out (by simp)); have HB3 := Aside0.mk (below_step HB2.out hb); have HBP := Aside0.mk HB3.out; clear hb hC3 hn3))
          go_ret
          exact ⟨rfl, HBE.out⟩
end Go.Proofs.Ytdbgfmiokmempaa.Sep
