/- The walk of the law NodeParts. Printed by gen15.py. Conditions: the bounds of the statement. -/
import Derived.Test.YtdbgfmiokmempaaNodeE
namespace Go.Proofs.Ytdbgfmiokmempaa.Sep
set_option linter.unusedSimpArgs false
set_option linter.unusedVariables false
open Go.RowKit Go.Proofs.Ytdbgfmiokmempaa.PCore Go.Proofs.Ytdbgfmiokmempaa.Plain Go.Proofs.YtdbgfmiokmempaaW.PrintWords Go.Proofs.YtdbgfmiokmempaaW.PrintLast Go.Proofs.YtdbgfmiokmempaaW.PrintMore
open Go.Proofs.Ytdbgfmiokmempaa.PDat (S27 k27 z27 rd_T27 at_T27 k27_open k27_mkM S60 k60)
open Ends (endsB)
theorem rows_back {α : Type} (E : α → Bool) : ∀ (row l : List α), l ≠ [] → (rowsL E row l).flatten = row ++ l
  | _, [], h => absurd rfl h
  | row, x :: l, _ => by
    cases l with
    | nil => simp [rowsL]
    | cons y l =>
      by_cases h : E x = true
      · rw [rows_end E row (y :: l) x (.inr h), List.flatten_cons, rows_back E [] (y :: l) (by simp)]
        simp
      · rw [rows_go E row (y :: l) x rfl (by simpa using h), rows_back E (row ++ [x]) (y :: l) (by simp)]
        simp
theorem rows_all {α : Type} (E : α → Bool) (l : List α) : (rowsL E [] l).flatten = l := by
  cases l with
  | nil => rfl
  | cons x l => rw [rows_back E [] (x :: l) (by simp)]; rfl
theorem rows_two {α : Type} (E : α → Bool) (m : List α) : ∀ (row l : List α) (x : α), E x = true → rowsL E row (l ++ [x] ++ m) = rowsL E row (l ++ [x]) ++ rowsL E [] m
  | row, [], x, h => by
    show rowsL E row (x :: m) = rowsL E row (x :: []) ++ rowsL E [] m
    rw [rows_end E row m x (.inr h), rows_end E row [] x (.inr h)]
    rfl
  | row, y :: l, x, h => by
    show rowsL E row (y :: (l ++ [x] ++ m)) = rowsL E row (y :: (l ++ [x])) ++ rowsL E [] m
    by_cases hy : E y = true
    · rw [rows_end E row _ y (.inr hy), rows_end E row _ y (.inr hy), rows_two E m [] l x h]
      rfl
    · have hy' : E y = false := by simpa using hy
      rw [rows_go E row _ y (by simp) hy', rows_go E row _ y (by simp) hy', rows_two E m (row ++ [y]) l x h]
theorem rows_ne {α : Type} (E : α → Bool) : ∀ (row l r : List α), r ∈ rowsL E row l → r ≠ []
  | _, [], r, h => by simp [rowsL] at h
  | row, x :: l, r, h => by
    rw [rowsL] at h
    split at h
    · rcases List.mem_cons.1 h with rfl | h
      · simp
      · exact rows_ne E [] l r h
    · exact rows_ne E (row ++ [x]) l r h
/-- Rows of two parts, the first of which ends a node. -/
theorem rows_parts (l m : List Entry) (hl : 0 < l.length) (h : endsB 0 (rd_T27 l ((l.length - 1 : Nat) : Int)).f0 = true) : rowE (l ++ m) = rowE l ++ rowE m := by
  obtain ⟨l', x, rfl⟩ : ∃ l' x, l = l' ++ [x] := ⟨l.dropLast, l.getLast (by intro e; rw [e] at hl; simp at hl), (List.dropLast_concat_getLast _).symm⟩
  have e : rd_T27 (l' ++ [x]) (((l' ++ [x]).length - 1 : Nat) : Int) = x := by
    rw [en_at _ (by simp)]
    simp
  rw [e] at h
  exact rows_two (fun y : Entry => endsB 0 y.f0) m [] l' x h
theorem R_len {α : Type} {d : Kd α} {e base : Nat} {ok : Nat → Prop} {w : World} {A : Option Addr} {n c : Nat} {xs : List α} (h : d.R e w base ok (.slice A n c) xs) : n = xs.length := (Kd.R_reads' h).1
theorem R_readsM {α : Type} {d : Kd α} {e base : Nat} {ok okp : Nat → Prop} {w : World} {A : Option Addr} {n c : Nat} {xs : List α} (h : d.R e w base ok (.slice A n c) xs) (hok : ∀ k, ok k → okp k) : ReadsRow (d.M w base okp) d.sz w A n xs := by
  obtain ⟨A', c', he, _, hr⟩ := (h.2.imp_ (R' := d.M w base okp) (fun _ _ hp => d.M_mono (fun k hk => hok k hk.1) hp)).reads
  injection he with h1 h2 h3
  rw [h1, h2]
  exact hr
set_option maxHeartbeats 16000000 in
set_option maxRecDepth 100000 in
theorem nodeParts_walk (A0 : Option Addr) (c0 : Nat) (l : List S27) (A1 : Option Addr) (c1 : Nat) (m : List S27) (W : World)
    (hC0 : Kd.C k27 W A0 l.length l) (hn0 : l.length ≤ c0) (hm0 : l.length ≤ maxLen) (hw0 : ∀ x ∈ l, ok27 x)
    (hC1 : Kd.C k27 W A1 m.length m) (hn1 : m.length ≤ c1) (hm1 : m.length ≤ maxLen) (hw1 : ∀ x ∈ m, ok27 x) :
    Calls Try.prog 3 #[.slice A0 l.length c0, .slice A1 m.length c1] W fun e W1 => e = .returned (.bool true) ∧ Below W.heap.size W W1 := by
  have HA := Aside0.mk (fun w => awake9_calls w)
  have HC0 := Aside0.mk hC0
  have HN0 := Aside0.mk hn0
  have HC1 := Aside0.mk hC1
  have HN1 := Aside0.mk hn1
  clear hC0 hn0 hm0 hw0 hC1 hn1 hm1 hw1
  have huE := Try.underlying27
  cases hli : lightE l with
  | false =>
    have HLI := Aside0.mk hli
    clear hli
    go_enter Try.func3, Try.ntmps3
    go_wp2_with (first | (go_at_call 8; have hq := HB1.out; clear hq; refine (light9_calls _ c0 l _ (Kd.C_below HC0.out HB1.out) HN0.out).mono ?_; rw [HLI.out]; rintro e w2 ⟨rfl, hb⟩; have HB2 := Aside0.mk (below_step HB1.out hb); clear hb) | (go_at_call 7; refine (HA.out _).mono ?_; rintro e w1 ⟨rfl, hb⟩; have HB1 := Aside0.mk hb; clear hb))
    go_ret
    exact ⟨rfl, HB2.out⟩
  | true =>
    have HLI := Aside0.mk hli
    cases hmi : lightE m with
    | false =>
      have HMI := Aside0.mk hmi
      clear hli hmi
      go_enter Try.func3, Try.ntmps3
      go_wp2_with (first | (go_at_call 8; have hq := HB2.out; clear hq; refine (light9_calls A1 c1 m _ (Kd.C_below HC1.out HB2.out) HN1.out).mono ?_; rw [HMI.out]; rintro e w3 ⟨rfl, hb⟩; have HB3 := Aside0.mk (below_step HB2.out hb); clear hb) | (go_at_call 8; have hq := HB1.out; clear hq; refine (light9_calls _ c0 l _ (Kd.C_below HC0.out HB1.out) HN0.out).mono ?_; rw [HLI.out]; rintro e w2 ⟨rfl, hb⟩; have HB2 := Aside0.mk (below_step HB1.out hb); clear hb) | (go_at_call 7; refine (HA.out _).mono ?_; rintro e w1 ⟨rfl, hb⟩; have HB1 := Aside0.mk hb; clear hb))
      go_ret
      exact ⟨rfl, HB3.out⟩
    | true =>
      have HMI := Aside0.mk hmi
      by_cases h0 : l.length = 0
      · have e1 : ((l.length : Int) == 0) = true := beq_iff_eq.mpr (by omega)
        have e2 : (l.length == 0) = true := beq_iff_eq.mpr h0
        clear hli hmi h0
        go_enter Try.func3, Try.ntmps3
        go_wp2_with (first | (go_at_call 8; have hq := HB2.out; clear hq; refine (light9_calls A1 c1 m _ (Kd.C_below HC1.out HB2.out) HN1.out).mono ?_; rw [HMI.out]; rintro e w3 ⟨rfl, hb⟩; have HB3 := Aside0.mk (below_step HB2.out hb); clear hb) | (go_at_call 8; have hq := HB1.out; clear hq; refine (light9_calls _ c0 l _ (Kd.C_below HC0.out HB1.out) HN0.out).mono ?_; rw [HLI.out]; rintro e w2 ⟨rfl, hb⟩; have HB2 := Aside0.mk (below_step HB1.out hb); clear hb) | (go_at_call 7; refine (HA.out _).mono ?_; rintro e w1 ⟨rfl, hb⟩; have HB1 := Aside0.mk hb; clear hb))
        go_ret
        exact ⟨rfl, HB3.out⟩
      · have e1 : ((l.length : Int) == 0) = false := beq_eq_false_iff_ne.mpr (by omega)
        have e2 : (l.length == 0) = false := beq_eq_false_iff_ne.mpr h0
        obtain ⟨n, hn⟩ : ∃ n : Nat, l.length = n + 1 := ⟨l.length - 1, by omega⟩
        obtain ⟨q1, q2⟩ := lightE_in hli
        obtain ⟨q3, q4⟩ := lightE_in hmi
        have HZ0 := Aside0.mk (show ∀ x ∈ l, x.f0.size ≤ 140737488355328 from fun x hx => by have := (q2 x hx).1; omega)
        have HZ1 := Aside0.mk (show ∀ x ∈ m, x.f0.size ≤ 140737488355328 from fun x hx => by have := (q4 x hx).1; omega)
        have HL0 := Aside0.mk (show l.length ≤ 60 from q1)
        have HL1 := Aside0.mk (show m.length ≤ 60 from q3)
        have hwn : wrap64 ((l.length : Int) - 1) = (n : Int) := by unfold wrap64; omega
        have hwn2 : IntKind.i64.wrap ((l.length : Int) - 1) = (n : Int) := by first | exact hwn | (rw [i64_w]; exact hwn)
        have hnl : (n : Int) < (l.length : Int) := by omega
        have HNN := Aside0.mk hn
        have HKZ := Aside0.mk (show (rd_T27 l (n : Int)).f0.size ≤ 140737488355328 by rw [en_at n (by omega)]; exact HZ0.out _ (List.getElem_mem _))
        obtain ⟨ad, hAd, _⟩ := at_T27 HC0.out (n : Int) (by omega) (by omega)
        subst hAd
        have HLA := Aside0.mk (fun w (hb : Below W.heap.size W w) => by
          obtain ⟨ad', e', k0, _⟩ := at_T27 (Kd.C_below HC0.out hb) (n : Int) (by have := HNN.out; omega) (by have := HNN.out; omega)
          have e'' : ad = ad' := by injection e'
          rw [← e''] at k0
          simp only [Int.toNat_natCast] at k0
          exact k0)
        have HPT := Aside0.mk (fun (h : endsB 0 (rd_T27 l (n : Int)).f0 = true) => rows_parts l m (by have := HNN.out; omega) (by rw [show l.length - 1 = n by have := HNN.out; omega]; exact h))
        generalize rd_T27 l (n : Int) = x at HLA HKZ HPT
        obtain ⟨f0, f1⟩ := x
        simp only at HLA HKZ HPT
        cases hen : endsB 0 f0 with
        | false =>
          have HEN := Aside0.mk hen
          clear hli hmi h0 hn q1 q2 q3 q4 hen
          go_enter Try.func3, Try.ntmps3
          go_wp2_with (first | (go_at_call 9; refine (rends_calls 0 f0 _ HKZ.out).mono ?_; rw [HEN.out]; rintro e w4 ⟨rfl, hb⟩; have HB4 := Aside0.mk (below_step HB3.out hb); clear hb) | (go_at_call 8; have hq := HB2.out; clear hq; refine (light9_calls A1 c1 m _ (Kd.C_below HC1.out HB2.out) HN1.out).mono ?_; rw [HMI.out]; rintro e w3 ⟨rfl, hb⟩; have HB3 := Aside0.mk (below_step HB2.out hb); clear hb; have kk := HLA.out _ HB3.out) | (go_at_call 8; have hq := HB1.out; clear hq; refine (light9_calls _ c0 l _ (Kd.C_below HC0.out HB1.out) HN0.out).mono ?_; rw [HLI.out]; rintro e w2 ⟨rfl, hb⟩; have HB2 := Aside0.mk (below_step HB1.out hb); clear hb) | (go_at_call 7; refine (HA.out _).mono ?_; rintro e w1 ⟨rfl, hb⟩; have HB1 := Aside0.mk hb; clear hb))
          go_ret
          exact ⟨rfl, HB4.out⟩
        | true =>
          have HEN := Aside0.mk hen
          have HPP := Aside0.mk (HPT.out hen)
          obtain ⟨al, hal⟩ : ∃ al : List Entry, al = l ++ m := ⟨_, rfl⟩
          have HAL := Aside0.mk hal
          have HAL' := Aside0.mk (show rowE (l ++ m) = rowE al by rw [hal])
          have HALL := Aside0.mk (show al.length ≤ 120 by rw [hal, List.length_append]; omega)
          have HZA := Aside0.mk (show ∀ x ∈ al, x.f0.size ≤ 140737488355328 from fun x hx => by rw [hal] at hx; exact (List.mem_append.1 hx).elim (HZ0.out x) (HZ1.out x))
          have HRL := Aside0.mk (show (rowE l).length ≤ 60 by have : (rowE l).length ≤ l.length := rows_len _ [] l; omega)
          have HRM := Aside0.mk (show (rowE m).length ≤ 60 by have : (rowE m).length ≤ m.length := rows_len _ [] m; omega)
          have HRA := Aside0.mk (show (rowE al).length ≤ 120 by have : (rowE al).length ≤ al.length := rows_len _ [] al; have := HALL.out; omega)
          clear hal
          clear hli hmi h0 hn q1 q2 q3 q4 hen
          go_enter Try.func3, Try.ntmps3
          go_wp2_with (first | (at_builtin; refine Kd.R_append_rows (Kd.slice 27 k27) (Rr := (Kd.slice 27 k27).M w9 w7.heap.size (fun k => some k ≠ (Value.slice B8 n8 c8).ownBlock)) (w0 := w7) w7.heap.size rfl (.tmp 44) (.tmp 46) 28 22 (.slice none 0 0) 24 rfl Try.underlying28 (by kernel_rfl) rfl (by decide) (by omega) (.slice B8 n8 c8) (rowE l) (rowE m) _ _ _ (fun _ => True) (fun k => some k ≠ (Value.slice B8 n8 c8).ownBlock) rfl rfl ?aO ?aR (fun _ _ h => h) (fun _ h => ⟨trivial, h⟩) ?aF ?aB ?aS ?aL ?_; (case aO => exact HR89.out); (case aR => exact R_readsM HR9.out (fun _ h => h)); (case aF => exact fun _ _ => trivial); (case aB => exact HB79.out); (case aS => exact HB79.out.size); (case aL => have := HRL.out; have := HRM.out; have h9 := R_len HR9.out; omega); intro vb wb hr hb hg hat; rw [← HPP.out, HAL'.out] at hr; obtain ⟨Bb, cb, hvb, hcb, hCb⟩ := Kd.R_reads hr; subst hvb; have HCb := Aside0.mk hCb; have HBb := Aside0.mk (below_step HB7.out hb); have HC7b := Aside0.mk (Kd.C_below HC7.out hb); have HC6b := Aside0.mk (Kd.C_below HC67.out hb); clear hr hb hg hat hCb hcb) | (go_at_call 10; have hq := HB8.out; clear hq; refine (splitR_calls A1 c1 m _ (Kd.C_below HC1.out HB8.out) HN1.out (by have := HL1.out; omega) HZ1.out).mono ?_; rintro e w9 ⟨v9, rfl, hr, hb⟩; obtain ⟨B9, n9, c9, hv9⟩ := R_slice' hr; subst hv9; have HR9 := Aside0.mk (Kd.R_lower (Kd.R_mono (Kd.R_bound hr) (fun k hk => Kd.fresh_ok HR8.out k hk.2.1)) HB78.out.size); have HR89 := Aside0.mk (Kd.R_below HR8.out hb); have HB79 := Aside0.mk (below_step HB78.out hb); have HB9 := Aside0.mk (below_step HB8.out hb); clear hb hr) | (go_at_call 10; have hq := HB7.out; clear hq; refine (splitR_calls _ c0 l _ (Kd.C_below HC0.out HB7.out) HN0.out (by have := HL0.out; omega) HZ0.out).mono ?_; rintro e w8 ⟨v8, rfl, hr, hb⟩; obtain ⟨B8, n8, c8, hv8⟩ := R_slice' hr; subst hv8; have HR8 := Aside0.mk hr; have HB78 := Aside0.mk hb; have HB8 := Aside0.mk (below_step HB7.out hb); clear hb hr) | (go_at_call 10; have hq := HB6.out; clear hq; refine (splitC_calls A6 c6 al _ HC6.out HN6.out (by have := HALL.out; omega) HZA.out).mono ?_; rintro e w7 ⟨B7, c7, rfl, hn7, hC7, hb⟩; have HC7 := Aside0.mk hC7; have HC67 := Aside0.mk (Kd.C_below HC6.out hb); have HB7 := Aside0.mk (below_step HB6.out hb); clear hb hC7 hn7) | (at_builtin; refine Kd.R_append_rows k27 (Rr := (k27).K w5) (w0 := w4) w4.heap.size rfl (.tmp 38) (.tmp 39) 22 27 (.agg #[(.string ⟨#[]⟩), (.string ⟨#[]⟩)]) 32 rfl Try.underlying22 (by kernel_rfl) rfl (by decide) (by omega) (.slice A5 n5 c5) l m _ _ _ (fun _ => True) (fun _ => False) rfl rfl ?aO ?aR (fun x cs h => by rw [k27_open h]; exact k27_mkM _ _ _ _) (fun _ h => h.elim) ?aF ?aB ?aS ?aL ?_; (case aO => exact HR5.out); (case aR => exact Kd.C_below HC1.out (below_step HB4.out HB5.out)); (case aF => exact fun _ _ => trivial); (case aB => exact HB5.out); (case aS => exact HB5.out.size); (case aL => have := HL0.out; have := HL1.out; omega); intro v6 w6 hr hb hg hat; rw [← HAL.out] at hr; obtain ⟨A6, c6, hv6, hc6, hC6⟩ := Kd.R_reads hr; subst hv6; have HC6 := Aside0.mk hC6; have HN6 := Aside0.mk hc6; have HB6 := Aside0.mk (below_step HB4.out hb); clear hr hb hg hat hC6 hc6) | (at_builtin; refine Kd.R_append_rows k27 (Rr := (k27).K w4) (w0 := w4) w4.heap.size rfl (.const (.slice none 0 0)) (.tmp 37) 22 27 (.agg #[(.string ⟨#[]⟩), (.string ⟨#[]⟩)]) 32 rfl Try.underlying22 (by kernel_rfl) rfl (by decide) (by omega) (.slice none 0 0) ([] : List Entry) l _ _ _ (fun _ => True) (fun _ => False) rfl rfl ?aO ?aR (fun x cs h => by rw [k27_open h]; exact k27_mkM _ _ _ _) (fun _ h => h.elim) ?aF ?aB ?aS ?aL ?_; (case aO => exact Kd.R_nil _ _ _ _ _); (case aR => exact Kd.C_below HC0.out HB4.out); (case aF => exact fun _ _ => trivial); (case aB => exact (Below.refl w4.heap.size w4)); (case aS => exact (Below.refl w4.heap.size w4).size); (case aL => have := HL0.out; simp; omega); intro v5 w5 hr hb hg hat; rw [List.nil_append] at hr; obtain ⟨A5, n5, c5, hv5⟩ := R_slice' hr; subst hv5; have HR5 := Aside0.mk hr; have HB5 := Aside0.mk hb; clear hr hb hg hat) | (go_at_call 9; refine (rends_calls 0 f0 _ HKZ.out).mono ?_; rw [HEN.out]; rintro e w4 ⟨rfl, hb⟩; have HB4 := Aside0.mk (below_step HB3.out hb); clear hb) | (go_at_call 8; have hq := HB2.out; clear hq; refine (light9_calls A1 c1 m _ (Kd.C_below HC1.out HB2.out) HN1.out).mono ?_; rw [HMI.out]; rintro e w3 ⟨rfl, hb⟩; have HB3 := Aside0.mk (below_step HB2.out hb); clear hb; have kk := HLA.out _ HB3.out) | (go_at_call 8; have hq := HB1.out; clear hq; refine (light9_calls _ c0 l _ (Kd.C_below HC0.out HB1.out) HN0.out).mono ?_; rw [HLI.out]; rintro e w2 ⟨rfl, hb⟩; have HB2 := Aside0.mk (below_step HB1.out hb); clear hb) | (go_at_call 7; refine (HA.out _).mono ?_; rintro e w1 ⟨rfl, hb⟩; have HB1 := Aside0.mk hb; clear hb))
          have hRA := HRA.out
          have HNE := Aside0.mk (rows_ne (fun x : Entry => endsB 0 x.f0) [] al)
          have HBK := Aside0.mk (rows_all (fun x : Entry => endsB 0 x.f0) al)
          have HRS := Aside0.mk (show ∀ i, ((rowE al).take i).flatten.length ≤ 120 from fun i => by
            show ((rowsL (fun x : Entry => endsB 0 x.f0) [] al).take i).flatten.length ≤ 120
            have h1 := HBK.out
            have h2 := HALL.out
            rw [← List.take_append_drop i (rowsL (fun x : Entry => endsB 0 x.f0) [] al), List.flatten_append] at h1
            have := congrArg List.length h1
            rw [List.length_append] at this
            omega)
          change Aside0 (∀ r, r ∈ rowE al → r ≠ []) at HNE
          change Aside0 ((rowE al).flatten = al) at HBK
          generalize rowE al = R at HC7b HCb hRA HNE HBK HRS
          go_loopg [8, 50] R.length (fun kq v8 v50 w' => ∃ i : Nat, v50 = .int .i64 i ∧ Aside0 (i ≤ R.length ∧ kq = R.length - i) ∧ Aside0 (Kd.R k27 27 w' wb.heap.size (fun _ => True) v8 (R.take i).flatten) ∧ Aside0 (Below wb.heap.size wb w'))
          case atStart => exact ⟨0, rfl, ⟨by omega, by omega⟩, ⟨Kd.R_nil _ _ _ _ _⟩, ⟨Below.refl _ _⟩⟩
          case round =>
            obtain ⟨i, rfl, HI, HR, HB⟩ := hrel
            obtain ⟨Ak, nk, ck, hk⟩ := R_slice' HR.out
            subst hk
            by_cases hlt : i < R.length
            · obtain ⟨ad1, Aa, ca, rfl, ka, la, Ka⟩ := at_row (Kd.C_below HC7b.out HB.out) i hlt rfl
              obtain ⟨ad2, Ab, cb', rfl, kb, lb, Kb⟩ := at_row (Kd.C_below HCb.out HB.out) i hlt rfl
              have hlt' : (i : Int) < (R.length : Int) := by omega
              have g1 : decide ((R.length : Int) ≤ (i : Int)) = false := decide_eq_false (by omega)
              have g2 : decide (R.length ≤ i) = false := decide_eq_false (by omega)
              have HWI := Aside0.mk (show wrap64 ((i : Int) + 1) = ((i + 1 : Nat) : Int) by unfold wrap64; omega)
              have HTK := Aside0.mk (show (R.take (i + 1)).flatten = (R.take i).flatten ++ R[i] by rw [take_one R i hlt, List.flatten_append]; simp)
              have hne := HNE.out _ (List.getElem_mem hlt)
              have HS := Aside0.mk (sameE_calls Aa ca (R[i]) Ab cb' (R[i]) wr Ka la Kb lb)
              rw [oneL_self] at HS
              have HLN := Aside0.mk (show ((R.take i).flatten ++ R[i]).length ≤ 120 by rw [← HTK.out]; exact HRS.out _)
              have HKa := Aside0.mk Ka
              clear Ka Kb la lb
              generalize R[i] = row at ka kb HS HTK HLN HKa hne
              have hz1 : ((row.length : Int) == 0) = false := beq_eq_false_iff_ne.mpr (by have := List.length_pos_iff.2 hne; omega)
              have hz2 : (row.length == 0) = false := beq_eq_false_iff_ne.mpr (by have := List.length_pos_iff.2 hne; omega)
              clear hne
              go_wp2_with (first | (at_builtin; refine Kd.R_append_rows k27 (Rr := (k27).K (wr.drewN k)) (w0 := wb) wb.heap.size rfl (.tmp 73) (.tmp 74) 22 27 (.agg #[(.string ⟨#[]⟩), (.string ⟨#[]⟩)]) 32 rfl Try.underlying22 (by kernel_rfl) rfl (by decide) (by omega) (.slice Ak nk ck) (R.take i).flatten row _ _ _ (fun _ => True) (fun _ => False) rfl rfl ?aO ?aR (fun x cs h => by rw [k27_open h]; exact k27_mkM _ _ _ _) (fun _ h => h.elim) ?aF ?aB ?aS ?aL ?_; (case aO => exact Kd.R_drewN HR.out _); (case aR => exact Kd.C_drewN HKa.out _); (case aF => exact fun _ _ => trivial); (case aB => exact pw_below_drewN HB.out _); (case aS => exact (pw_below_drewN HB.out k).size); (case aL => have := HLN.out; rw [List.length_append] at this; omega); intro vd wd hr hb hg hat; have HRd := Aside0.mk hr; have HBd := Aside0.mk hb; clear hr hb hg hat) | (go_at_call 11; refine HS.out.mono ?_; rintro e wc ⟨rfl, k, rfl⟩))
              go_roundg (R.length - (i + 1))
              case measure => have := HI.out; omega
              case rel => exact ⟨i + 1, by first | rw [HWI.out] | simp, ⟨by omega, rfl⟩, ⟨by rw [HTK.out]; exact HRd.out⟩, ⟨HBd.out⟩⟩
            · have hI : i = R.length := by have := HI.out; omega
              subst hI
              have hR := HR.out
              rw [List.take_length, HBK.out] at hR
              obtain ⟨hnk, hck, hCk⟩ := Kd.R_reads' hR
              subst hnk
              have HSA := Aside0.mk (sameE_calls Ak ck al A6 c6 al wr hCk hck (Kd.C_below HC6b.out HB.out) HN6.out)
              rw [oneL_self] at HSA
              clear hR hck hCk
              go_wp2_with (go_at_call 11; refine HSA.out.mono ?_; rintro e wc ⟨rfl, k, rfl⟩)
              go_ret
              exact ⟨by first | rfl | simp, pw_below_drewN (below_step HBb.out HB.out) _⟩
end Go.Proofs.Ytdbgfmiokmempaa.Sep
