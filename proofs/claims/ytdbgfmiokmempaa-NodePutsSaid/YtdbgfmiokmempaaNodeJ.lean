/- The walk of the law NodePuts. Printed by gen25.py. Conditions: the bounds of the statement. -/
import Derived.Test.YtdbgfmiokmempaaNodeG
import Derived.Test.YtdbgfmiokmempaaNodeI
namespace Go.Proofs.Ytdbgfmiokmempaa.Sep
set_option linter.unusedSimpArgs false
set_option linter.unusedVariables false
open Go.RowKit Go.Proofs.Ytdbgfmiokmempaa.PCore Go.Proofs.Ytdbgfmiokmempaa.Plain Go.Proofs.YtdbgfmiokmempaaW.PrintWords Go.Proofs.YtdbgfmiokmempaaW.PrintLast Go.Proofs.YtdbgfmiokmempaaW.PrintMore
open Go.Proofs.Ytdbgfmiokmempaa.PDat (S27 k27 S60 k60)
open Ends (endsB)
theorem nod_cells {w : World} {g t : Nat} {a b c : Value} (h : w.heap[g]? = some (.cells #[a, b, c] t (0, 0))) : w.cell? ⟨g, 0, none⟩ = some a ∧ w.cell? ⟨g, 1, none⟩ = some b ∧ w.cell? ⟨g, 2, none⟩ = some c := nod3_cells h
theorem of_wf_u8 {x : Int} (h : (Lit.int .u8 x).wf = true) : 0 ≤ x ∧ x < 256 := Plain.u8_of h
theorem rputB9 (lev : Int) (A0 : Option Addr) (c0 : Nat) (es : List Entry) (A1 : Option Addr) (c1 : Nat) (ks : List Kid) (W : World) (hC0 : Kd.C k27 W A0 es.length es) (hc0 : es.length ≤ c0) (hC1 : Kd.C k60 W A1 ks.length ks) (hc1 : ks.length ≤ c1) (hn0 : es.length ≤ 1000000) (hn1 : ks.length ≤ 1000000) (hI : KidsIn ks) :
    Calls Try.prog 22 #[.agg #[.int .i64 lev, .slice A0 es.length c0, .slice A1 ks.length c1]] W fun e W1 => ∃ A c, e = .returned (.tuple #[.slice A (putNL lev es ks).length c, .int .i64 (putNE lev es ks)]) ∧ (putNL lev es ks).length ≤ c ∧ Kd.C (Kd.int .u8) W1 A (putNL lev es ks).length (putNL lev es ks) ∧ Below W.heap.size W W1 := by
  refine (rput9_calls lev A0 c0 es A1 c1 ks W hC0 hc0 hC1 hc1 hn0 hn1 hI).mono ?_
  rintro e W1 ⟨v, rfl, hr, hb⟩
  obtain ⟨A, c, rfl, hc, hC⟩ := Kd.R_reads hr
  exact ⟨A, c, rfl, hc, hC, hb⟩
set_option maxHeartbeats 32000000 in
set_option maxRecDepth 100000 in
theorem nodePuts_walk (A : Option Addr) (n : Nat) (B : Option Addr) (m : Nat) (x : Nod) (A1 : Option Addr) (c1 : Nat) (b : List Int) (W : World)
    (hn0 : x.es.length ≤ n) (hm0 : x.ks.length ≤ m) (hC0 : Kd.C k27 W A x.es.length x.es) (hD0 : Kd.C k60 W B x.ks.length x.ks) (hw0 : okN x)
    (hC1 : Kd.C (Kd.int .u8) W A1 b.length b) (hc1 : b.length ≤ c1) (hm1 : b.length ≤ maxLen) (hw1 : ∀ y ∈ b, (Lit.int .u8 y).wf = true) :
    Calls Try.prog 5 #[.agg #[.int .i64 x.lev, .slice A x.es.length n, .slice B x.ks.length m], .slice A1 b.length c1] W fun e W1 => e = .returned (.bool true) ∧ Below W.heap.size W W1 := by
  have HA := Aside0.mk (fun w => awake9_calls w)
  have HC0 := Aside0.mk hC0
  have HD0 := Aside0.mk hD0
  have HN0 := Aside0.mk hn0
  have HM0 := Aside0.mk hm0
  have HC1 := Aside0.mk hC1
  have HN1 := Aside0.mk hc1
  have HKI := Aside0.mk (okN_kids hw0)
  have huF := Try.underlying34
  cases hsm : smallN x.es x.ks with
  | false =>
    have HSM := Aside0.mk hsm
    clear hsm hC0 hD0 hn0 hm0 hC1 hc1 hm1 hw1 hw0
    go_enter Try.func5, Try.ntmps5
    go_wp2_with (first | (go_at_call 7; refine (HA.out _).mono ?_; rintro e w1 ⟨rfl, hb⟩; have HB1 := Aside0.mk (below_step (below_alloc (Below.refl W.heap.size W) (.cells #[.int .i64 x.lev, .slice A x.es.length n, .slice B x.ks.length m] 34)) hb); have hk1 := (Fr.of_below (B := 0) (T := []) hb).blk (blk_new W (.cells #[.int .i64 x.lev, .slice A x.es.length n, .slice B x.ks.length m] 34)) (by simp); have HK1 := Aside0.mk hk1; obtain ⟨a0, a1, a2⟩ := nod_cells hk1; clear hb hk1) | (go_at_call 12; refine (small9_calls x.lev A n x.es B m x.ks _ (Kd.C_below HC0.out HB1.out) HN0.out (Kd.C_below HD0.out HB1.out) HM0.out).mono ?_; rw [HSM.out]; rintro e w2 ⟨rfl, hb⟩; have HB2 := Aside0.mk (below_step HB1.out hb); have hk2 := (Fr.of_below (B := 0) (T := []) hb).blk HK1.out (by simp); have HK2 := Aside0.mk hk2; obtain ⟨b0, b1, b2⟩ := nod_cells hk2; clear hb hk2))
    go_ret
    exact ⟨rfl, HB2.out⟩
  | true =>
    have HSM := Aside0.mk hsm
    by_cases hb : (2000 : Int) < (b.length : Int)
    · have hb' : decide ((2000 : Int) < (b.length : Int)) = true := decide_eq_true hb
      clear hsm hC0 hD0 hn0 hm0 hC1 hc1 hm1 hw1 hb hw0
      go_enter Try.func5, Try.ntmps5
      go_wp2_with (first | (go_at_call 7; refine (HA.out _).mono ?_; rintro e w1 ⟨rfl, hb⟩; have HB1 := Aside0.mk (below_step (below_alloc (Below.refl W.heap.size W) (.cells #[.int .i64 x.lev, .slice A x.es.length n, .slice B x.ks.length m] 34)) hb); have hk1 := (Fr.of_below (B := 0) (T := []) hb).blk (blk_new W (.cells #[.int .i64 x.lev, .slice A x.es.length n, .slice B x.ks.length m] 34)) (by simp); have HK1 := Aside0.mk hk1; obtain ⟨a0, a1, a2⟩ := nod_cells hk1; clear hb hk1) | (go_at_call 12; refine (small9_calls x.lev A n x.es B m x.ks _ (Kd.C_below HC0.out HB1.out) HN0.out (Kd.C_below HD0.out HB1.out) HM0.out).mono ?_; rw [HSM.out]; rintro e w2 ⟨rfl, hb⟩; have HB2 := Aside0.mk (below_step HB1.out hb); have hk2 := (Fr.of_below (B := 0) (T := []) hb).blk HK1.out (by simp); have HK2 := Aside0.mk hk2; obtain ⟨b0, b1, b2⟩ := nod_cells hk2; clear hb hk2))
      go_ret
      exact ⟨rfl, HB2.out⟩
    · have hb' : decide ((2000 : Int) < (b.length : Int)) = false := decide_eq_false hb
      obtain ⟨q1, q2, q3⟩ := smallN_in hsm
      obtain ⟨q4, q5⟩ := lightE_in q3
      have HL0 := Aside0.mk (show x.es.length ≤ 1000000 by omega)
      have HL1 := Aside0.mk (show x.ks.length ≤ 1000000 by omega)
      have HFB := Aside0.mk (show Fine (b, false) from ⟨fun y hy => of_wf_u8 (hw1 y hy), by show b.length ≤ 1000000; omega, fun h => by simp at h⟩)
      obtain ⟨y, r, hy⟩ : ∃ (y : Nod) (r : Int), ofN b = (y, r) := ⟨_, _, rfl⟩
      have HOB := Aside0.mk hy
      clear hsm hC0 hD0 hn0 hm0 hC1 hc1 hm1 hw1 hb q1 q2 q3 q4 q5 hw0 hy
      go_enter Try.func5, Try.ntmps5
      go_wp2_with (first | (go_at_call 7; refine (HA.out _).mono ?_; rintro e w1 ⟨rfl, hb⟩; have HB1 := Aside0.mk (below_step (below_alloc (Below.refl W.heap.size W) (.cells #[.int .i64 x.lev, .slice A x.es.length n, .slice B x.ks.length m] 34)) hb); have hk1 := (Fr.of_below (B := 0) (T := []) hb).blk (blk_new W (.cells #[.int .i64 x.lev, .slice A x.es.length n, .slice B x.ks.length m] 34)) (by simp); have HK1 := Aside0.mk hk1; obtain ⟨a0, a1, a2⟩ := nod_cells hk1; clear hb hk1) | (go_at_call 12; refine (small9_calls x.lev A n x.es B m x.ks _ (Kd.C_below HC0.out HB1.out) HN0.out (Kd.C_below HD0.out HB1.out) HM0.out).mono ?_; rw [HSM.out]; rintro e w2 ⟨rfl, hb⟩; have HB2 := Aside0.mk (below_step HB1.out hb); have hk2 := (Fr.of_below (B := 0) (T := []) hb).blk HK1.out (by simp); have HK2 := Aside0.mk hk2; obtain ⟨b0, b1, b2⟩ := nod_cells hk2; clear hb hk2) | (go_at_call 21; refine (putB9 x.lev A n x.es B m x.ks _ (Kd.C_below HC0.out HB2.out) HN0.out (Kd.C_below HD0.out HB2.out) HM0.out HL0.out HL1.out HKI.out).mono ?_; rintro e w3 ⟨A3, c3, rfl, hn3, hC3, hb⟩; have HC3 := Aside0.mk hC3; have hk3 := (Fr.of_below (B := 0) (T := []) hb).blk HK2.out (by simp); have HK3 := Aside0.mk hk3; obtain ⟨e0, e1, e2⟩ := nod_cells hk3; have HB3 := Aside0.mk (below_step HB2.out hb); clear hb hC3 hn3 hk3) | (go_at_call 22; refine (rputB9 x.lev A n x.es B m x.ks _ (Kd.C_below HC0.out HB3.out) HN0.out (Kd.C_below HD0.out HB3.out) HM0.out HL0.out HL1.out HKI.out).mono ?_; rintro e w4 ⟨A4, c4, rfl, hn4, hC4, hb⟩; have HC4 := Aside0.mk hC4; have HC34 := Aside0.mk (Kd.C_below HC3.out hb); have HK4 := Aside0.mk ((Fr.of_below (B := 0) (T := []) hb).blk HK3.out (by simp)); have HB4 := Aside0.mk (below_step HB3.out hb); clear hb hC4 hn4) | (go_at_call 23; refine (of9_calls A1 c1 b _ (Kd.C_below HC1.out HB4.out) HFB.out).mono ?_; rw [HOB.out]; rintro e w5 ⟨B5, d5, E5, f5, rfl, hd, hf, hC, hD, hb⟩; simp only at hd hf hC hD; have HD5 := Aside0.mk hd; have HF5 := Aside0.mk hf; have HC5 := Aside0.mk (Kd.C_alloc hC (.cells #[.int .i64 y.lev, .slice B5 y.es.length d5, .slice E5 y.ks.length f5] 34)); have HE5 := Aside0.mk (Kd.C_alloc hD (.cells #[.int .i64 y.lev, .slice B5 y.es.length d5, .slice E5 y.ks.length f5] 34)); have HC45 := Aside0.mk (Kd.C_alloc (Kd.C_below HC4.out hb) (.cells #[.int .i64 y.lev, .slice B5 y.es.length d5, .slice E5 y.ks.length f5] 34)); have HC35 := Aside0.mk (Kd.C_alloc (Kd.C_below HC34.out hb) (.cells #[.int .i64 y.lev, .slice B5 y.es.length d5, .slice E5 y.ks.length f5] 34)); have HK5 := Aside0.mk (blk_alloc ((Fr.of_below (B := 0) (T := []) hb).blk HK4.out (by simp)) (.cells #[.int .i64 y.lev, .slice B5 y.es.length d5, .slice E5 y.ks.length f5] 34)); have HM5 := Aside0.mk (blk_new w5 (.cells #[.int .i64 y.lev, .slice B5 y.es.length d5, .slice E5 y.ks.length f5] 34)); have HB5 := Aside0.mk (below_alloc (below_step HB4.out hb) (.cells #[.int .i64 y.lev, .slice B5 y.es.length d5, .slice E5 y.ks.length f5] 34)); clear hb hC hD hd hf) | (go_at_call 24; refine (rof9_calls A1 c1 b _ (Kd.C_below HC1.out HB5.out) HN1.out HFB.out).mono ?_; rw [HOB.out]; rintro e w6 ⟨B6, d6, E6, f6, rfl, hd, hf, hC, hD, hb⟩; simp only at hd hf hC hD; have HD6 := Aside0.mk hd; have HF6 := Aside0.mk hf; have HC6 := Aside0.mk (Kd.C_alloc hC (.cells #[.int .i64 y.lev, .slice B6 y.es.length d6, .slice E6 y.ks.length f6] 34)); have HE6 := Aside0.mk (Kd.C_alloc hD (.cells #[.int .i64 y.lev, .slice B6 y.es.length d6, .slice E6 y.ks.length f6] 34)); have HC56 := Aside0.mk (Kd.C_alloc (Kd.C_below HC5.out hb) (.cells #[.int .i64 y.lev, .slice B6 y.es.length d6, .slice E6 y.ks.length f6] 34)); have HE56 := Aside0.mk (Kd.C_alloc (Kd.C_below HE5.out hb) (.cells #[.int .i64 y.lev, .slice B6 y.es.length d6, .slice E6 y.ks.length f6] 34)); have HC46 := Aside0.mk (Kd.C_alloc (Kd.C_below HC45.out hb) (.cells #[.int .i64 y.lev, .slice B6 y.es.length d6, .slice E6 y.ks.length f6] 34)); have HC36 := Aside0.mk (Kd.C_alloc (Kd.C_below HC35.out hb) (.cells #[.int .i64 y.lev, .slice B6 y.es.length d6, .slice E6 y.ks.length f6] 34)); have HK6 := Aside0.mk (blk_alloc ((Fr.of_below (B := 0) (T := []) hb).blk HK5.out (by simp)) (.cells #[.int .i64 y.lev, .slice B6 y.es.length d6, .slice E6 y.ks.length f6] 34)); have HM6 := Aside0.mk (blk_alloc ((Fr.of_below (B := 0) (T := []) hb).blk HM5.out (by simp)) (.cells #[.int .i64 y.lev, .slice B6 y.es.length d6, .slice E6 y.ks.length f6] 34)); have HJ6 := Aside0.mk (blk_new w6 (.cells #[.int .i64 y.lev, .slice B6 y.es.length d6, .slice E6 y.ks.length f6] 34)); have HB6 := Aside0.mk (below_alloc (below_step HB5.out hb) (.cells #[.int .i64 y.lev, .slice B6 y.es.length d6, .slice E6 y.ks.length f6] 34)); clear hb hC hD hd hf))
      have HRC := Aside0.mk (fun w (hb : Below W.heap.size W w) => right9_calls x.lev A n x.es B m x.ks w (Kd.C_below HC0.out hb) HN0.out (Kd.C_below HD0.out hb) HM0.out HL0.out HL1.out)
      have HRN := Aside0.mk (fun w (hb : Below W.heap.size W w) => rnode_calls x.lev A n x.es B m x.ks w (Kd.C_below HC0.out hb) HN0.out (Kd.C_below HD0.out hb) HM0.out HL0.out HL1.out)
      generalize nodeE x.lev x.es x.ks = ne at HRC HRN
      generalize putNE x.lev x.es x.ks = pe
      generalize putNL x.lev x.es x.ks = pl at HC36 HC46 ⊢
      generalize w6.alloc (.cells #[.int .i64 y.lev, .slice B6 y.es.length d6, .slice E6 y.ks.length f6] 34) = w7 at HD6 HC6 HE6 HC56 HE56 HC46 HC36 HK6 HM6 HJ6 HB6 ⊢
      generalize w6.heap.size = gk at HJ6 ⊢
      generalize w5.heap.size = gm at HM6 ⊢
      generalize hgn : W.heap.size = gn at HK6 ⊢
      obtain ⟨x0, x1, x2⟩ := nod_cells HK6.out
      obtain ⟨y0, y1, y2⟩ := nod_cells HM6.out
      obtain ⟨z0, z1, z2⟩ := nod_cells HJ6.out
      have x0r := Reach.cell x0
      have x1r := Reach.cell x1
      have x2r := Reach.cell x2
      have y0r := Reach.cell y0
      have y1r := Reach.cell y1
      have y2r := Reach.cell y2
      have z0r := Reach.cell z0
      have z1r := Reach.cell z1
      have z2r := Reach.cell z2
      have s1r := fun u : Reach w7 => Kd.C_string (P := Try.prog) (A := A3) (c := c3) Try.underlying42 Try.underlying5 Try.underlying9 (Kd.C_below HC36.out u.bel)
      have s2r := fun u : Reach w7 => Kd.C_string (P := Try.prog) (A := A4) (c := c4) Try.underlying42 Try.underlying5 Try.underlying9 (Kd.C_below HC46.out u.bel)
      subst hgn
      have HSN := Aside0.mk (fun u : Reach w7 => sameN_calls y.lev B5 d5 y.es E5 f5 y.ks y.lev B6 d6 y.es E6 f6 y.ks u.out (Kd.C_below HC56.out u.bel) HD5.out (Kd.C_below HE56.out u.bel) HF5.out (Kd.C_below HC6.out u.bel) HD6.out (Kd.C_below HE6.out u.bel) HF6.out)
      rw [oneN_self] at HSN
      clear x0 x1 x2 y0 y1 y2 z0 z1 z2 a0 a1 a2 b0 b1 b2 e0 e1 e2
      refine region_reach (by kernel_rfl) (by kernel_rfl) ?_
      repeat (go_big_quiet_step ((first | (go_at_call 25; exact calls_reach _ (HRC.out _ (below_step HB6.out (Reach.bel _)))) | (go_at_call 26; exact calls_reach _ (HRN.out _ (below_step HB6.out (Reach.bel _)))) | (go_at_call 27; exact calls_reach _ (HSN.out _)))))
      refine wpQuiet_nil ?_
      rintro _ ⟨⟨w8, hb8⟩, rfl⟩
      have HB8 := Aside0.mk (below_step HB6.out hb8)
      clear hb8 x0r x1r x2r y0r y1r y2r z0r z1r z2r s1r s2r
      go_wp2
      go_ret
      exact ⟨by first | rfl | simp, HB8.out⟩
end Go.Proofs.Ytdbgfmiokmempaa.Sep
