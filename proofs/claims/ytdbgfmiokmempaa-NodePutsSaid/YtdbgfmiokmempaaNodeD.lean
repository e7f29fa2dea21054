/- Rows of entries: plain; and a cut out of a row. Conditions: the bounds of the statements. · Rows of entries, of children: the walks of the program's rows, Split, Group. Printed by gen12.py. Conditions: the bounds of the statements. · Rows alike, nodes alike, small ones; Split and Group: for law 09. Conditions: the bounds of the statements. -/
import Derived.Test.YtdbgfmiokmempaaNodeC
namespace Go.Proofs.Ytdbgfmiokmempaa.Sep
set_option linter.unusedSimpArgs false
set_option linter.unusedVariables false
open Go.RowKit Go.Proofs.Ytdbgfmiokmempaa.PCore Go.Proofs.Ytdbgfmiokmempaa.Plain Go.Proofs.YtdbgfmiokmempaaW.PrintWords Go.Proofs.YtdbgfmiokmempaaW.PrintLast Go.Proofs.YtdbgfmiokmempaaW.PrintMore
open Go.Proofs.Ytdbgfmiokmempaa.PDat (S27 k27 z27 rd_T27 at_T27 S60 k60 z60 rd_T60 at_T60 node_ends.f)
open Ends (endsB pends_form)
theorem rows_end {α : Type} (E : α → Bool) (row l : List α) (x : α) (h : l.isEmpty = true ∨ E x = true) : rowsL E row (x :: l) = (row ++ [x]) :: rowsL E [] l := by
  rw [rowsL, if_pos (by simpa using h)]
theorem rows_go {α : Type} (E : α → Bool) (row l : List α) (x : α) (h : l.isEmpty = false) (hE : E x = false) : rowsL E row (x :: l) = rowsL E (row ++ [x]) l := by
  rw [rowsL, if_neg (by simp [h, hE])]
theorem mid_snoc {α : Type} (l : List α) (i m : Nat) (hi : i < l.length) (hm : m ≤ i) : (l.take (i + 1)).drop m = (l.take i).drop m ++ [l[i]] := by
  rw [take_one l i hi, List.drop_append_of_le_length (by rw [List.length_take]; omega)]
theorem mid_nil {α : Type} (l : List α) (i : Nat) : (l.take i).drop i = [] := by
  apply List.drop_eq_nil_of_le
  rw [List.length_take]
  omega
theorem drop_none {α : Type} {l : List α} {i m : Nat} (hm : l.length = m + 1) (h : i = m) : (l.drop (i + 1)).isEmpty = true := by
  rw [List.drop_eq_nil_of_le (by omega)]
  rfl
theorem drop_some {α : Type} {l : List α} {i m : Nat} (hm : l.length = m + 1) (h : i < m) : (l.drop (i + 1)).isEmpty = false := by
  rw [List.isEmpty_eq_false_iff]
  intro h'
  have := congrArg List.length h'
  rw [List.length_drop] at this
  simp at this
  omega
theorem cut_rows {α : Type} (d : Kd α) (t e : TypeId) {i : TypeInfo} (ht : Try.prog.underlying t = some (.slice e)) (hi : Try.prog.info? e = some i) (hsz : i.size = d.sz) (A : Option Addr) (xs : List α) (c lo hi' : Nat) (h1 : lo ≤ hi') (h2 : hi' ≤ xs.length) (hc : xs.length ≤ c) :
    ∃ A' n', (∀ W : World, (Instr.slice t (.slice A xs.length c) (some (.int .i64 (lo : Int))) (some (.int .i64 (hi' : Int))) (some (.int .i64 (hi' : Int)))).run Try.prog W = .ok (.slice A' ((xs.take hi').drop lo).length n') W) ∧
      ∀ w, d.C w A xs.length xs → d.C w A' ((xs.take hi').drop lo).length ((xs.take hi').drop lo) := by
  have hel : Try.prog.elem t = e := by simp [Program.elem, ht]
  have hu : Try.prog.underlying t = some (.slice (Try.prog.elem t)) := by rw [hel]; exact ht
  have hl : (xs.take hi').length = hi' := by rw [List.length_take]; omega
  refine ⟨if hi' = lo then A else A.map (·.add (lo * d.sz)), hi' - lo, fun W => ?_, fun w h => ?_⟩
  · rw [run_slice_lhm W t A xs.length c hu .i64 .i64 .i64 (lo : Int) (hi' : Int) (hi' : Int) (by omega) (by omega) (by omega) (by omega), hel, List.length_drop, hl]
    simp [sizeOf, typeInfo, hi, hsz, sliced, Result.andThen]
  · have := Kd.C_drop (k := d) (c := hi') (Kd.C_take h h2) (by rw [hl]; exact h1) (by rw [hl]; exact Nat.le_refl _)
    exact this
theorem group1_calls (k : ByteArray) (id lev : Int) (g : Nat) (W : World) (hg : W.heap[g]? = some (.cells #[.int .i64 lev] 3 (0, 0))) (hn : k.size ≤ 140737488355328) : Calls Try.prog 34 #[.agg #[.string k, .int .u64 id], .pointer (some ⟨g, 0, none⟩)] W fun e W1 => e = .returned (.bool (endsB lev k)) ∧ Below W.heap.size W W1 := by
  have H := Aside0.mk (fun w => ends_calls lev k w hn)
  have huE := Try.underlying60
  have hg' := blk_alloc hg (.cells #[.string k, .int .u64 id] 60)
  have hc : World.cell? (W.alloc (.cells #[.string k, .int .u64 id] 60)) ⟨g, 0, none⟩ = some (.int .i64 lev) := (blk_cell hg' 0).trans rfl
  clear hg hg'
  go_enter Try.func34, Try.ntmps34
  go_wp2_with (go_at_call 32; refine (H.out _).mono ?_; rintro e w1 ⟨rfl, hb⟩; have HB := Aside0.mk (below_step (below_alloc (Below.refl _ _) _) hb); clear hb)
  go_ret
  exact ⟨rfl, HB.out⟩
end Go.Proofs.Ytdbgfmiokmempaa.Sep
namespace Go.Proofs.Ytdbgfmiokmempaa.Sep
set_option linter.unusedSimpArgs false
set_option linter.unusedVariables false
open Go.RowKit Go.Proofs.Ytdbgfmiokmempaa.PCore Go.Proofs.Ytdbgfmiokmempaa.Plain Go.Proofs.YtdbgfmiokmempaaW.PrintWords Go.Proofs.YtdbgfmiokmempaaW.PrintLast Go.Proofs.YtdbgfmiokmempaaW.PrintMore
open Go.Proofs.Ytdbgfmiokmempaa.PDat (S27 k27 z27 rd_T27 at_T27 k27_open k27_mkM S60 k60 z60 rd_T60 at_T60 k60_open k60_mkM)
open Ends (endsB)
theorem fresh_okQ {α β : Type} {d : Kd α} {d' : Kd β} {e e' : Nat} {W w1 : World} {base : Nat} {ok : Nat → Prop} {v u : Value} {xs : List α} {ys : List β} (hu : d'.R e' W base ok u ys) (h : d.R e w1 W.heap.size (fun _ => True) v xs) : d.R e w1 W.heap.size (fun k => some k ≠ u.ownBlock) v xs :=
  Kd.R_mono (Kd.R_bound h) (fun k hk => Kd.fresh_ok hu k hk.2.1)
set_option maxHeartbeats 16000000 in
set_option maxRecDepth 100000 in
theorem rowsE_calls (A : Option Addr) (c : Nat) (l : List Entry) (W : World) (hC : Kd.C k27 W A l.length l) (hc : l.length ≤ c) (hn : l.length ≤ 1000000) (hz : ∀ x ∈ l, x.f0.size ≤ 140737488355328) :
    Calls Try.prog 30 #[.slice A l.length c, .func (.func 31) #[] #[]] W fun e W1 => ∃ v, e = .returned v ∧ Kd.R (Kd.slice 27 k27) 22 W1 W.heap.size (fun _ => True) v (rowsL (fun x => endsB 0 x.f0) [] l) ∧ Below W.heap.size W W1 := by
  have HC := Aside0.mk hC
  have HCC := Aside0.mk hc
  have HN := Aside0.mk hn
  have HZ := Aside0.mk hz

  clear hC hc hn hz
  have huE := Try.underlying27
  go_enter Try.func30, Try.ntmps30
  go_wp2
  go_loopg [5, 6, 11] l.length (fun kq v5 v6 v11 w' => ∃ (i m : Nat) (out : List (List Entry)), v6 = .int .i64 m ∧ v11 = .int .i64 i ∧ Aside0 (m ≤ i ∧ i ≤ l.length ∧ kq = l.length - i) ∧ Aside0 (rowsL (fun x => endsB 0 x.f0) [] l = out ++ rowsL (fun x => endsB 0 x.f0) ((l.take i).drop m) (l.drop i)) ∧ Aside0 (out.length ≤ i) ∧ Aside0 (Kd.R (Kd.slice 27 k27) 22 w' W.heap.size (fun _ => True) v5 out) ∧ Aside0 (Below W.heap.size W w'))
  case atStart => exact ⟨0, 0, [], rfl, rfl, ⟨by omega, by omega, by omega⟩, ⟨by simp⟩, ⟨by simp⟩, ⟨Kd.R_nil _ _ _ _ _⟩, ⟨Below.refl _ _⟩⟩
  case round =>
    obtain ⟨i, m, out, rfl, rfl, HI, HE, HO, HR, HB⟩ := hrel
    by_cases hlt : i < l.length
    · obtain ⟨ad, rfl, h0, h1⟩ := at_T27 (Kd.C_below HC.out HB.out) (i : Int) (by omega) (by omega)
      simp only [Int.toNat_natCast] at h0 h1
      have HMS := Aside0.mk (mid_snoc l i m hlt HI.out.1)
      have hE := HE.out
      rw [List.drop_eq_getElem_cons hlt] at hE
      have hin := HZ.out _ (List.getElem_mem hlt)
      rw [en_at i hlt] at h0 h1
      generalize l[i] = x at h0 h1 hE hin HMS
      have HE2 := Aside0.mk hE
      clear hE HE
      obtain ⟨f0, f1⟩ := x
      simp only at h0 h1 hin
      have HKZ := Aside0.mk hin
      clear hin
      have hlt' : (i : Int) < (l.length : Int) := by omega
      obtain ⟨q, hq⟩ : ∃ q : Nat, q = i + 1 := ⟨_, rfl⟩
      have hwq : wrap64 ((i : Int) + 1) = (q : Int) := by have := HN.out; unfold wrap64; omega
      have hwq2 : IntKind.i64.wrap ((i : Int) + 1) = (q : Int) := by first | exact hwq | (rw [i64_w]; exact hwq)
      obtain ⟨n, hn⟩ : ∃ n : Nat, l.length = n + 1 := ⟨l.length - 1, by omega⟩
      have hwm : wrap64 ((l.length : Int) - 1) = (n : Int) := by have := HN.out; unfold wrap64; omega
      have hwm2 : IntKind.i64.wrap ((l.length : Int) - 1) = (n : Int) := by first | exact hwm | (rw [i64_w]; exact hwm)
      have HM := Aside0.mk hn
      have HQ := Aside0.mk hq
      obtain ⟨i0, hi0, -, hsz0, -⟩ := info_parts Go.Proofs.Ytdbgfmiokmempaa.PDat.info27
      obtain ⟨A', n', hcut, hcutC⟩ := cut_rows k27 22 27 Try.underlying22 hi0 hsz0 (some ad) l c m q (by have := HI.out.1; omega) (by omega) HCC.out
      have HCT := Aside0.mk hcutC
      have HRW := Aside0.mk (show (l.take q).drop m = (l.take i).drop m ++ [⟨f0, f1⟩] by rw [hq]; exact HMS.out)
      have HRL := Aside0.mk (show ((l.take q).drop m).length ≤ 1000000 by rw [List.length_drop, List.length_take]; have := HN.out; omega)
      have HEX := Aside0.mk (show endsB 0 f0 = (fun x : Entry => endsB 0 x.f0) ⟨f0, f1⟩ from rfl)
      clear hn hq hcutC hi0 hsz0
      generalize (l.take q).drop m = row at hcut HCT HRW HRL
      obtain ⟨k, hk⟩ : ∃ k : Nat, k = row.length := ⟨_, rfl⟩
      by_cases hla : i = n
      · have e1 : ((i : Int) == (n : Int)) = true := beq_iff_eq.mpr (by omega)
        have e2 : (i == n) = true := beq_iff_eq.mpr hla
        have HG := Aside0.mk (show rowsL (fun x => endsB 0 x.f0) [] l = (out ++ [row]) ++ rowsL (fun x => endsB 0 x.f0) ((l.take q).drop q) (l.drop q) by
          rw [HE2.out, rows_end (fun x : Entry => endsB 0 x.f0) _ _ ⟨f0, f1⟩ (.inl (drop_none HM.out hla)), HRW.out, mid_nil, HQ.out]; simp)
        clear hla
        have HR4 := Aside0.mk (Kd.R_alloc HR.out (.cells #[.string f0, .string f1] 27))
        have HB4 := Aside0.mk (below_alloc HB.out (.cells #[.string f0, .string f1] 27))
        go_wp2_with (first | (at_builtin; refine Kd.R_append (Kd.slice 27 k27) (w0 := W) W.heap.size rfl (.tmp 26) (.tmp 35) 28 22 (.slice none 0 0) 24 rfl Try.underlying28 (by kernel_rfl) rfl (by decide) (by omega) u5 out row [.slice A7 n7 c7] (fun _ => True) (fun k => some k ≠ u5.ownBlock) rfl rfl ?aP (fun _ hk => ⟨trivial, hk⟩) (fun _ _ => trivial) ?aO ?aB ?aS ?aL ?_; (case aP => exact Kd.M_row (Kd.R_lower HFR.out HB4.out.size)); (case aO => exact HO7.out); (case aB => exact HB7.out); (case aS => exact HB7.out.size); (case aL => have := HO.out; have := HN.out; have := HI.out; omega); intro v9 w9 hr hb hg hat; have HR9 := Aside0.mk hr; have HB9 := Aside0.mk hb; clear hr hb hg hat) | (at_builtin; refine Kd.R_append_rows k27 (Rr := (k27).K (wr.alloc (.cells #[.string f0, .string f1] 27))) (w0 := wr.alloc (.cells #[.string f0, .string f1] 27)) (wr.alloc (.cells #[.string f0, .string f1] 27)).heap.size rfl (.const (.slice none 0 0)) (.tmp 33) 22 27 (.agg #[(.string ⟨#[]⟩), (.string ⟨#[]⟩)]) 32 rfl Try.underlying22 (by kernel_rfl) rfl (by decide) (by omega) (.slice none 0 0) ([] : List Entry) row _ _ _ (fun _ => True) (fun _ => False) rfl rfl ?aO ?aR (fun x cs h => by rw [k27_open h]; exact k27_mkM _ _ _ _) (fun _ h => h.elim) ?aF ?aB ?aS ?aL ?_; (case aO => exact Kd.R_nil _ _ _ _ _); (case aR => exact HCT.out _ (Kd.C_below HC.out HB4.out)); (case aF => exact fun _ _ => trivial); (case aB => exact Below.refl _ _); (case aS => exact Nat.le_refl _); (case aL => have := HRL.out; simp; omega); intro v7 w7 hr hb hg hat; obtain ⟨A7, n7, c7, hv7⟩ := R_slice' hr; subst hv7; have HR7 := Aside0.mk hr; have HO7 := Aside0.mk (Kd.R_below HR4.out hb); have HB7 := Aside0.mk (below_step HB4.out hb); have HFR := Aside0.mk (fresh_okQ HR4.out hr); clear hr hb hg hat))
        go_roundg (l.length - (i + 1))
        case measure => have := HI.out; omega
        case rel => exact ⟨q, q, out ++ [row], rfl, rfl, ⟨by omega, by have := HQ.out; omega, by have := HQ.out; omega⟩, ⟨HG.out⟩, ⟨by have := HO.out; have := HQ.out; simp; omega⟩, ⟨HR9.out⟩, ⟨HB9.out⟩⟩
      · have e1 : ((i : Int) == (n : Int)) = false := beq_eq_false_iff_ne.mpr (by omega)
        have e2 : (i == n) = false := beq_eq_false_iff_ne.mpr hla
        cases hen : endsB 0 f0 with
        | true =>
          have HEN := Aside0.mk hen
          have HG := Aside0.mk (show rowsL (fun x => endsB 0 x.f0) [] l = (out ++ [row]) ++ rowsL (fun x => endsB 0 x.f0) ((l.take q).drop q) (l.drop q) by
            rw [HE2.out, rows_end (fun x : Entry => endsB 0 x.f0) _ _ ⟨f0, f1⟩ (.inr hen), HRW.out, mid_nil, HQ.out]; simp)
          clear hla hen
          go_wp2_with (first | (at_builtin; refine Kd.R_append (Kd.slice 27 k27) (w0 := W) W.heap.size rfl (.tmp 26) (.tmp 35) 28 22 (.slice none 0 0) 24 rfl Try.underlying28 (by kernel_rfl) rfl (by decide) (by omega) u5 out row [.slice A7 n7 c7] (fun _ => True) (fun k => some k ≠ u5.ownBlock) rfl rfl ?aP (fun _ hk => ⟨trivial, hk⟩) (fun _ _ => trivial) ?aO ?aB ?aS ?aL ?_; (case aP => exact Kd.M_row (Kd.R_lower HFR.out HB4.out.size)); (case aO => exact HO7.out); (case aB => exact HB7.out); (case aS => exact HB7.out.size); (case aL => have := HO.out; have := HN.out; have := HI.out; omega); intro v9 w9 hr hb hg hat; have HR9 := Aside0.mk hr; have HB9 := Aside0.mk hb; clear hr hb hg hat) | (at_builtin; refine Kd.R_append_rows k27 (Rr := (k27).K (w4)) (w0 := w4) (w4).heap.size rfl (.const (.slice none 0 0)) (.tmp 33) 22 27 (.agg #[(.string ⟨#[]⟩), (.string ⟨#[]⟩)]) 32 rfl Try.underlying22 (by kernel_rfl) rfl (by decide) (by omega) (.slice none 0 0) ([] : List Entry) row _ _ _ (fun _ => True) (fun _ => False) rfl rfl ?aO ?aR (fun x cs h => by rw [k27_open h]; exact k27_mkM _ _ _ _) (fun _ h => h.elim) ?aF ?aB ?aS ?aL ?_; (case aO => exact Kd.R_nil _ _ _ _ _); (case aR => exact HCT.out _ (Kd.C_below HC.out HB4.out)); (case aF => exact fun _ _ => trivial); (case aB => exact Below.refl _ _); (case aS => exact Nat.le_refl _); (case aL => have := HRL.out; simp; omega); intro v7 w7 hr hb hg hat; obtain ⟨A7, n7, c7, hv7⟩ := R_slice' hr; subst hv7; have HR7 := Aside0.mk hr; have HO7 := Aside0.mk (Kd.R_below HR4.out hb); have HB7 := Aside0.mk (below_step HB4.out hb); have HFR := Aside0.mk (fresh_okQ HR4.out hr); clear hr hb hg hat) | (go_at_call 31; refine (split1_calls f0 f1 _ HKZ.out).mono ?_; rw [HEN.out]; rintro e w4 ⟨rfl, hb⟩; have HR4 := Aside0.mk (Kd.R_below (Kd.R_alloc HR.out (.cells #[.string f0, .string f1] 27)) hb); have HB4 := Aside0.mk (below_step (below_alloc HB.out (.cells #[.string f0, .string f1] 27)) hb); have hv4 := (Fr.of_below (B := 0) (T := []) hb).blk (blk_new wr (.cells #[.string f0, .string f1] 27)) (by simp); clear hb hv4))
          go_roundg (l.length - (i + 1))
          case measure => have := HI.out; omega
          case rel => exact ⟨q, q, out ++ [row], rfl, rfl, ⟨by omega, by have := HQ.out; omega, by have := HQ.out; omega⟩, ⟨HG.out⟩, ⟨by have := HO.out; have := HQ.out; simp; omega⟩, ⟨HR9.out⟩, ⟨HB9.out⟩⟩
        | false =>
          have HEN := Aside0.mk hen
          have HG := Aside0.mk (show rowsL (fun x => endsB 0 x.f0) [] l = out ++ rowsL (fun x => endsB 0 x.f0) ((l.take q).drop m) (l.drop q) by
            rw [HE2.out, rows_go (fun x : Entry => endsB 0 x.f0) _ _ ⟨f0, f1⟩ (drop_some HM.out (by have := HM.out; omega)) hen, HQ.out, HMS.out])
          clear hla hen
          go_wp2_with (go_at_call 31; refine (split1_calls f0 f1 _ HKZ.out).mono ?_; rw [HEN.out]; rintro e w4 ⟨rfl, hb⟩; have HR4 := Aside0.mk (Kd.R_below (Kd.R_alloc HR.out (.cells #[.string f0, .string f1] 27)) hb); have HB4 := Aside0.mk (below_step (below_alloc HB.out (.cells #[.string f0, .string f1] 27)) hb); have hv4 := (Fr.of_below (B := 0) (T := []) hb).blk (blk_new wr (.cells #[.string f0, .string f1] 27)) (by simp); clear hb hv4)
          go_roundg (l.length - (i + 1))
          case measure => have := HI.out; omega
          case rel => exact ⟨q, m, out, rfl, rfl, ⟨by have := HI.out; have := HQ.out; omega, by have := HQ.out; omega, by have := HQ.out; omega⟩, ⟨HG.out⟩, ⟨by have := HO.out; have := HQ.out; omega⟩, ⟨HR4.out⟩, ⟨HB4.out⟩⟩
    · have hI : i = l.length := by have := HI.out; omega
      subst hI
      have HG := Aside0.mk (show rowsL (fun x => endsB 0 x.f0) [] l = out by rw [HE.out, List.drop_length]; simp [rowsL])
      go_wp2
      go_ret
      rw [HG.out]
      exact ⟨_, rfl, HR.out, HB.out⟩
set_option maxHeartbeats 16000000 in
set_option maxRecDepth 100000 in
theorem rowsK_calls (lev : Int) (g : Nat) (A : Option Addr) (c : Nat) (l : List Kid) (W : World) (hC : Kd.C k60 W A l.length l) (hc : l.length ≤ c) (hn : l.length ≤ 1000000) (hz : ∀ x ∈ l, x.f0.size ≤ 140737488355328) (hg : W.heap[g]? = some (.cells #[.int .i64 lev] 3 (0, 0))) :
    Calls Try.prog 33 #[.slice A l.length c, .func (.func 34) #[] #[.pointer (some ⟨g, 0, none⟩)]] W fun e W1 => ∃ v, e = .returned v ∧ Kd.R (Kd.slice 60 k60) 31 W1 W.heap.size (fun _ => True) v (rowsL (fun x => endsB lev x.f0) [] l) ∧ Below W.heap.size W W1 := by
  have HC := Aside0.mk hC
  have HCC := Aside0.mk hc
  have HN := Aside0.mk hn
  have HZ := Aside0.mk hz
  have HGG := Aside0.mk hg
  clear hg
  clear hC hc hn hz
  have huE := Try.underlying60
  go_enter Try.func33, Try.ntmps33
  go_wp2
  go_loopg [5, 6, 11] l.length (fun kq v5 v6 v11 w' => ∃ (i m : Nat) (out : List (List Kid)), v6 = .int .i64 m ∧ v11 = .int .i64 i ∧ Aside0 (m ≤ i ∧ i ≤ l.length ∧ kq = l.length - i) ∧ Aside0 (rowsL (fun x => endsB lev x.f0) [] l = out ++ rowsL (fun x => endsB lev x.f0) ((l.take i).drop m) (l.drop i)) ∧ Aside0 (out.length ≤ i) ∧ Aside0 (Kd.R (Kd.slice 60 k60) 31 w' W.heap.size (fun _ => True) v5 out) ∧ Aside0 (Below W.heap.size W w'))
  case atStart => exact ⟨0, 0, [], rfl, rfl, ⟨by omega, by omega, by omega⟩, ⟨by simp⟩, ⟨by simp⟩, ⟨Kd.R_nil _ _ _ _ _⟩, ⟨Below.refl _ _⟩⟩
  case round =>
    obtain ⟨i, m, out, rfl, rfl, HI, HE, HO, HR, HB⟩ := hrel
    by_cases hlt : i < l.length
    · obtain ⟨ad, rfl, h0, h1⟩ := at_T60 (Kd.C_below HC.out HB.out) (i : Int) (by omega) (by omega)
      simp only [Int.toNat_natCast] at h0 h1
      have HMS := Aside0.mk (mid_snoc l i m hlt HI.out.1)
      have hE := HE.out
      rw [List.drop_eq_getElem_cons hlt] at hE
      have hin := HZ.out _ (List.getElem_mem hlt)
      rw [ki_at i hlt] at h0 h1
      generalize l[i] = x at h0 h1 hE hin HMS
      have HE2 := Aside0.mk hE
      clear hE HE
      obtain ⟨f0, f1⟩ := x
      simp only at h0 h1 hin
      have HKZ := Aside0.mk hin
      clear hin
      have hlt' : (i : Int) < (l.length : Int) := by omega
      obtain ⟨q, hq⟩ : ∃ q : Nat, q = i + 1 := ⟨_, rfl⟩
      have hwq : wrap64 ((i : Int) + 1) = (q : Int) := by have := HN.out; unfold wrap64; omega
      have hwq2 : IntKind.i64.wrap ((i : Int) + 1) = (q : Int) := by first | exact hwq | (rw [i64_w]; exact hwq)
      obtain ⟨n, hn⟩ : ∃ n : Nat, l.length = n + 1 := ⟨l.length - 1, by omega⟩
      have hwm : wrap64 ((l.length : Int) - 1) = (n : Int) := by have := HN.out; unfold wrap64; omega
      have hwm2 : IntKind.i64.wrap ((l.length : Int) - 1) = (n : Int) := by first | exact hwm | (rw [i64_w]; exact hwm)
      have HM := Aside0.mk hn
      have HQ := Aside0.mk hq
      obtain ⟨i0, hi0, -, hsz0, -⟩ := info_parts Go.Proofs.Ytdbgfmiokmempaa.PDat.info60
      obtain ⟨A', n', hcut, hcutC⟩ := cut_rows k60 31 60 Try.underlying31 hi0 hsz0 (some ad) l c m q (by have := HI.out.1; omega) (by omega) HCC.out
      have HCT := Aside0.mk hcutC
      have HRW := Aside0.mk (show (l.take q).drop m = (l.take i).drop m ++ [⟨f0, f1⟩] by rw [hq]; exact HMS.out)
      have HRL := Aside0.mk (show ((l.take q).drop m).length ≤ 1000000 by rw [List.length_drop, List.length_take]; have := HN.out; omega)
      have HEX := Aside0.mk (show endsB lev f0 = (fun x : Kid => endsB lev x.f0) ⟨f0, f1⟩ from rfl)
      clear hn hq hcutC hi0 hsz0
      generalize (l.take q).drop m = row at hcut HCT HRW HRL
      obtain ⟨k, hk⟩ : ∃ k : Nat, k = row.length := ⟨_, rfl⟩
      by_cases hla : i = n
      · have e1 : ((i : Int) == (n : Int)) = true := beq_iff_eq.mpr (by omega)
        have e2 : (i == n) = true := beq_iff_eq.mpr hla
        have HG := Aside0.mk (show rowsL (fun x => endsB lev x.f0) [] l = (out ++ [row]) ++ rowsL (fun x => endsB lev x.f0) ((l.take q).drop q) (l.drop q) by
          rw [HE2.out, rows_end (fun x : Kid => endsB lev x.f0) _ _ ⟨f0, f1⟩ (.inl (drop_none HM.out hla)), HRW.out, mid_nil, HQ.out]; simp)
        clear hla
        have HR4 := Aside0.mk (Kd.R_alloc HR.out (.cells #[.string f0, .int .u64 f1] 60))
        have HB4 := Aside0.mk (below_alloc HB.out (.cells #[.string f0, .int .u64 f1] 60))
        go_wp2_with (first | (at_builtin; refine Kd.R_append (Kd.slice 60 k60) (w0 := W) W.heap.size rfl (.tmp 26) (.tmp 35) 35 31 (.slice none 0 0) 24 rfl Try.underlying35 (by kernel_rfl) rfl (by decide) (by omega) u5 out row [.slice A7 n7 c7] (fun _ => True) (fun k => some k ≠ u5.ownBlock) rfl rfl ?aP (fun _ hk => ⟨trivial, hk⟩) (fun _ _ => trivial) ?aO ?aB ?aS ?aL ?_; (case aP => exact Kd.M_row (Kd.R_lower HFR.out HB4.out.size)); (case aO => exact HO7.out); (case aB => exact HB7.out); (case aS => exact HB7.out.size); (case aL => have := HO.out; have := HN.out; have := HI.out; omega); intro v9 w9 hr hb hg hat; have HR9 := Aside0.mk hr; have HB9 := Aside0.mk hb; clear hr hb hg hat) | (at_builtin; refine Kd.R_append_rows k60 (Rr := (k60).K (wr.alloc (.cells #[.string f0, .int .u64 f1] 60))) (w0 := wr.alloc (.cells #[.string f0, .int .u64 f1] 60)) (wr.alloc (.cells #[.string f0, .int .u64 f1] 60)).heap.size rfl (.const (.slice none 0 0)) (.tmp 33) 31 60 (.agg #[(.string ⟨#[]⟩), (.int .u64 0)]) 24 rfl Try.underlying31 (by kernel_rfl) rfl (by decide) (by omega) (.slice none 0 0) ([] : List Kid) row _ _ _ (fun _ => True) (fun _ => False) rfl rfl ?aO ?aR (fun x cs h => by rw [k60_open h]; exact k60_mkM _ _ _ _) (fun _ h => h.elim) ?aF ?aB ?aS ?aL ?_; (case aO => exact Kd.R_nil _ _ _ _ _); (case aR => exact HCT.out _ (Kd.C_below HC.out HB4.out)); (case aF => exact fun _ _ => trivial); (case aB => exact Below.refl _ _); (case aS => exact Nat.le_refl _); (case aL => have := HRL.out; simp; omega); intro v7 w7 hr hb hg hat; obtain ⟨A7, n7, c7, hv7⟩ := R_slice' hr; subst hv7; have HR7 := Aside0.mk hr; have HO7 := Aside0.mk (Kd.R_below HR4.out hb); have HB7 := Aside0.mk (below_step HB4.out hb); have HFR := Aside0.mk (fresh_okQ HR4.out hr); clear hr hb hg hat))
        go_roundg (l.length - (i + 1))
        case measure => have := HI.out; omega
        case rel => exact ⟨q, q, out ++ [row], rfl, rfl, ⟨by omega, by have := HQ.out; omega, by have := HQ.out; omega⟩, ⟨HG.out⟩, ⟨by have := HO.out; have := HQ.out; simp; omega⟩, ⟨HR9.out⟩, ⟨HB9.out⟩⟩
      · have e1 : ((i : Int) == (n : Int)) = false := beq_eq_false_iff_ne.mpr (by omega)
        have e2 : (i == n) = false := beq_eq_false_iff_ne.mpr hla
        cases hen : endsB lev f0 with
        | true =>
          have HEN := Aside0.mk hen
          have HG := Aside0.mk (show rowsL (fun x => endsB lev x.f0) [] l = (out ++ [row]) ++ rowsL (fun x => endsB lev x.f0) ((l.take q).drop q) (l.drop q) by
            rw [HE2.out, rows_end (fun x : Kid => endsB lev x.f0) _ _ ⟨f0, f1⟩ (.inr hen), HRW.out, mid_nil, HQ.out]; simp)
          clear hla hen
          go_wp2_with (first | (at_builtin; refine Kd.R_append (Kd.slice 60 k60) (w0 := W) W.heap.size rfl (.tmp 26) (.tmp 35) 35 31 (.slice none 0 0) 24 rfl Try.underlying35 (by kernel_rfl) rfl (by decide) (by omega) u5 out row [.slice A7 n7 c7] (fun _ => True) (fun k => some k ≠ u5.ownBlock) rfl rfl ?aP (fun _ hk => ⟨trivial, hk⟩) (fun _ _ => trivial) ?aO ?aB ?aS ?aL ?_; (case aP => exact Kd.M_row (Kd.R_lower HFR.out HB4.out.size)); (case aO => exact HO7.out); (case aB => exact HB7.out); (case aS => exact HB7.out.size); (case aL => have := HO.out; have := HN.out; have := HI.out; omega); intro v9 w9 hr hb hg hat; have HR9 := Aside0.mk hr; have HB9 := Aside0.mk hb; clear hr hb hg hat) | (at_builtin; refine Kd.R_append_rows k60 (Rr := (k60).K (w4)) (w0 := w4) (w4).heap.size rfl (.const (.slice none 0 0)) (.tmp 33) 31 60 (.agg #[(.string ⟨#[]⟩), (.int .u64 0)]) 24 rfl Try.underlying31 (by kernel_rfl) rfl (by decide) (by omega) (.slice none 0 0) ([] : List Kid) row _ _ _ (fun _ => True) (fun _ => False) rfl rfl ?aO ?aR (fun x cs h => by rw [k60_open h]; exact k60_mkM _ _ _ _) (fun _ h => h.elim) ?aF ?aB ?aS ?aL ?_; (case aO => exact Kd.R_nil _ _ _ _ _); (case aR => exact HCT.out _ (Kd.C_below HC.out HB4.out)); (case aF => exact fun _ _ => trivial); (case aB => exact Below.refl _ _); (case aS => exact Nat.le_refl _); (case aL => have := HRL.out; simp; omega); intro v7 w7 hr hb hg hat; obtain ⟨A7, n7, c7, hv7⟩ := R_slice' hr; subst hv7; have HR7 := Aside0.mk hr; have HO7 := Aside0.mk (Kd.R_below HR4.out hb); have HB7 := Aside0.mk (below_step HB4.out hb); have HFR := Aside0.mk (fresh_okQ HR4.out hr); clear hr hb hg hat) | (go_at_call 34; refine (group1_calls f0 f1 lev g _ (blk_alloc ((Fr.of_below (B := 0) (T := []) HB.out).blk HGG.out (by simp)) _) HKZ.out).mono ?_; rw [HEN.out]; rintro e w4 ⟨rfl, hb⟩; have HR4 := Aside0.mk (Kd.R_below (Kd.R_alloc HR.out (.cells #[.string f0, .int .u64 f1] 60)) hb); have HB4 := Aside0.mk (below_step (below_alloc HB.out (.cells #[.string f0, .int .u64 f1] 60)) hb); clear hb))
          go_roundg (l.length - (i + 1))
          case measure => have := HI.out; omega
          case rel => exact ⟨q, q, out ++ [row], rfl, rfl, ⟨by omega, by have := HQ.out; omega, by have := HQ.out; omega⟩, ⟨HG.out⟩, ⟨by have := HO.out; have := HQ.out; simp; omega⟩, ⟨HR9.out⟩, ⟨HB9.out⟩⟩
        | false =>
          have HEN := Aside0.mk hen
          have HG := Aside0.mk (show rowsL (fun x => endsB lev x.f0) [] l = out ++ rowsL (fun x => endsB lev x.f0) ((l.take q).drop m) (l.drop q) by
            rw [HE2.out, rows_go (fun x : Kid => endsB lev x.f0) _ _ ⟨f0, f1⟩ (drop_some HM.out (by have := HM.out; omega)) hen, HQ.out, HMS.out])
          clear hla hen
          go_wp2_with (go_at_call 34; refine (group1_calls f0 f1 lev g _ (blk_alloc ((Fr.of_below (B := 0) (T := []) HB.out).blk HGG.out (by simp)) _) HKZ.out).mono ?_; rw [HEN.out]; rintro e w4 ⟨rfl, hb⟩; have HR4 := Aside0.mk (Kd.R_below (Kd.R_alloc HR.out (.cells #[.string f0, .int .u64 f1] 60)) hb); have HB4 := Aside0.mk (below_step (below_alloc HB.out (.cells #[.string f0, .int .u64 f1] 60)) hb); clear hb)
          go_roundg (l.length - (i + 1))
          case measure => have := HI.out; omega
          case rel => exact ⟨q, m, out, rfl, rfl, ⟨by have := HI.out; have := HQ.out; omega, by have := HQ.out; omega, by have := HQ.out; omega⟩, ⟨HG.out⟩, ⟨by have := HO.out; have := HQ.out; omega⟩, ⟨HR4.out⟩, ⟨HB4.out⟩⟩
    · have hI : i = l.length := by have := HI.out; omega
      subst hI
      have HG := Aside0.mk (show rowsL (fun x => endsB lev x.f0) [] l = out by rw [HE.out, List.drop_length]; simp [rowsL])
      go_wp2
      go_ret
      rw [HG.out]
      exact ⟨_, rfl, HR.out, HB.out⟩
end Go.Proofs.Ytdbgfmiokmempaa.Sep
namespace Go.Proofs.Ytdbgfmiokmempaa.Sep
set_option linter.unusedSimpArgs false
set_option linter.unusedVariables false
open Go.RowKit Go.Proofs.Ytdbgfmiokmempaa.PCore Go.Proofs.Ytdbgfmiokmempaa.Plain Go.Proofs.YtdbgfmiokmempaaW.PrintWords Go.Proofs.YtdbgfmiokmempaaW.PrintLast Go.Proofs.YtdbgfmiokmempaaW.PrintMore
open Go.Proofs.Ytdbgfmiokmempaa.PDat (S27 k27 z27 rd_T27 at_T27 S60 k60 z60 rd_T60 at_T60 apographref09_SameEntries.f apographref09_SameEntries.l0 apographref09_SameEntries.calls apographref09_SameKids.f apographref09_SameKids.l0 apographref09_SameKids.calls apographref09_SameNode.f apographref09_SameNode.calls apographlaw09_Light.f apographlaw09_Light.l0 apographlaw09_Light.calls apographlaw09_small.f apographlaw09_small.l0 apographlaw09_small.calls apographref09_Split.f apographref09_Split.calls apographref09_Group.f apographref09_Group.calls apographref09_Key.f apographref09_Key.calls apographref09_Val.f apographref09_Val.calls node_Key.f node_Key.calls node_Val.f node_Val.calls apographref09_Ends.f apographref09_Ends.calls)
open Ends (endsB rends_form)
theorem text_one {s t : ByteArray} : s.toList = t.toList ↔ s = t := ⟨fun h => by
  rw [ByteArray.toList_eq, ByteArray.toList_eq] at h
  obtain ⟨⟨x⟩⟩ := s
  obtain ⟨⟨y⟩⟩ := t
  simp only at h
  rw [h], fun h => by rw [h]⟩
open Classical in
/-- Whether rows are one. -/
noncomputable def oneL {α : Type} (a b : List α) : Bool := decide (a = b)
theorem oneL_self {α : Type} (a : List α) : oneL a a = true := by simp [oneL]
theorem oneL_iff {α : Type} (a b : List α) : oneL a b = true ↔ a = b := by simp [oneL]
theorem en_drop (l : List Entry) (i : Nat) (h : i < l.length) : l.drop i = rd_T27 l (i : Int) :: l.drop (i + 1) := by rw [List.drop_eq_getElem_cons h, en_at i h]
theorem ki_drop (l : List Kid) (i : Nat) (h : i < l.length) : l.drop i = rd_T60 l (i : Int) :: l.drop (i + 1) := by rw [List.drop_eq_getElem_cons h, ki_at i h]
theorem en_alike (x y : Entry) : (!((x.f0).toList == (y.f0).toList) || (!((x.f1).toList == (y.f1).toList))) = true ↔ x ≠ y := by
  obtain ⟨a, b⟩ := x
  obtain ⟨a', b'⟩ := y
  simp only [← Bool.not_and, Bool.not_eq_true', ne_eq, PDat.S27.mk.injEq]
  rw [← Bool.not_eq_true, Bool.and_eq_true]
  simp only [beq_iff_eq, text_one]
theorem ki_alike (x y : Kid) : (!((x.f0).toList == (y.f0).toList) || (!(x.f1 == y.f1))) = true ↔ x ≠ y := by
  obtain ⟨a, b⟩ := x
  obtain ⟨a', b'⟩ := y
  simp only [← Bool.not_and, Bool.not_eq_true', ne_eq, PDat.S60.mk.injEq]
  rw [← Bool.not_eq_true, Bool.and_eq_true]
  simp only [beq_iff_eq, text_one]
theorem sameE_loop : ∀ (d : Nat) (a b : List Entry) (i : Nat), a.length = b.length → i + d = a.length → a.length ≤ 9223372036854775807 → Ev (fun k => apographref09_SameEntries.l0 k a b a.length i) (oneL (a.drop i) (b.drop i)) := by
  intro d
  induction d with
  | zero =>
    intro a b i hab hi hn
    rw [List.drop_eq_nil_of_le (by omega), List.drop_eq_nil_of_le (by omega), oneL_self]
    refine Ev.step (f := fun _ => some true) (fun k => ?_) (Ev.now _)
    simp only [apographref09_SameEntries.l0]
    rw [if_neg (by omega)]
  | succ d ih =>
    intro a b i hab hi hn
    have ew : wrap64 ((i : Int) + 1) = ((i + 1 : Nat) : Int) := by unfold wrap64; omega
    have ea := en_drop a i (by omega)
    have eb := en_drop b i (by omega)
    by_cases c : rd_T27 a i = rd_T27 b i
    · refine Ev.step (f := fun k => apographref09_SameEntries.l0 k a b a.length ((i + 1 : Nat) : Int)) (fun k => ?_) ?_
      · simp only [apographref09_SameEntries.l0, ew]
        rw [if_pos (by omega), if_pos (by omega), if_pos (by omega), if_pos (by omega), if_neg (by rw [en_alike]; exact fun h => h c)]
      · have e : oneL (a.drop i) (b.drop i) = oneL (a.drop (i + 1)) (b.drop (i + 1)) := by
          rw [Bool.eq_iff_iff, oneL_iff, oneL_iff, ea, eb, List.cons.injEq]
          exact ⟨fun h => h.2, fun h => ⟨c, h⟩⟩
        rw [e]
        exact ih a b (i + 1) hab (by omega) hn
    · refine Ev.step (f := fun _ => some false) (fun k => ?_) ?_
      · simp only [apographref09_SameEntries.l0]
        rw [if_pos (by omega), if_pos (by omega), if_pos (by omega), if_pos (by omega), if_pos (by rw [en_alike]; exact c)]
      · have e : oneL (a.drop i) (b.drop i) = false := by
          rw [← Bool.not_eq_true, oneL_iff, ea, eb, List.cons.injEq]
          exact fun h => c h.1
        rw [e]
        exact Ev.now _
theorem sameE_form (a b : List Entry) (hn : a.length ≤ 9223372036854775807) : Ev (fun k => apographref09_SameEntries.f k a b) (oneL a b) := by
  by_cases hab : a.length = b.length
  · refine Ev.congr (fun k => ?_) (sameE_loop a.length a b 0 hab (by omega) hn)
    simp only [apographref09_SameEntries.f]
    rw [if_pos (by omega)]
    rfl
  · have e : oneL a b = false := by
      rw [← Bool.not_eq_true, oneL_iff]
      exact fun h => hab (by rw [h])
    rw [e]
    refine Ev.congr (fun k => ?_) (Ev.now false)
    simp only [apographref09_SameEntries.f]
    rw [if_neg (by omega)]
theorem sameK_loop : ∀ (d : Nat) (a b : List Kid) (i : Nat), a.length = b.length → i + d = a.length → a.length ≤ 9223372036854775807 → Ev (fun k => apographref09_SameKids.l0 k a b a.length i) (oneL (a.drop i) (b.drop i)) := by
  intro d
  induction d with
  | zero =>
    intro a b i hab hi hn
    rw [List.drop_eq_nil_of_le (by omega), List.drop_eq_nil_of_le (by omega), oneL_self]
    refine Ev.step (f := fun _ => some true) (fun k => ?_) (Ev.now _)
    simp only [apographref09_SameKids.l0]
    rw [if_neg (by omega)]
  | succ d ih =>
    intro a b i hab hi hn
    have ew : wrap64 ((i : Int) + 1) = ((i + 1 : Nat) : Int) := by unfold wrap64; omega
    have ea := ki_drop a i (by omega)
    have eb := ki_drop b i (by omega)
    by_cases c : rd_T60 a i = rd_T60 b i
    · refine Ev.step (f := fun k => apographref09_SameKids.l0 k a b a.length ((i + 1 : Nat) : Int)) (fun k => ?_) ?_
      · simp only [apographref09_SameKids.l0, ew]
        rw [if_pos (by omega), if_pos (by omega), if_pos (by omega), if_pos (by omega), if_neg (by rw [ki_alike]; exact fun h => h c)]
      · have e : oneL (a.drop i) (b.drop i) = oneL (a.drop (i + 1)) (b.drop (i + 1)) := by
          rw [Bool.eq_iff_iff, oneL_iff, oneL_iff, ea, eb, List.cons.injEq]
          exact ⟨fun h => h.2, fun h => ⟨c, h⟩⟩
        rw [e]
        exact ih a b (i + 1) hab (by omega) hn
    · refine Ev.step (f := fun _ => some false) (fun k => ?_) ?_
      · simp only [apographref09_SameKids.l0]
        rw [if_pos (by omega), if_pos (by omega), if_pos (by omega), if_pos (by omega), if_pos (by rw [ki_alike]; exact c)]
      · have e : oneL (a.drop i) (b.drop i) = false := by
          rw [← Bool.not_eq_true, oneL_iff, ea, eb, List.cons.injEq]
          exact fun h => c h.1
        rw [e]
        exact Ev.now _
theorem sameK_form (a b : List Kid) (hn : a.length ≤ 9223372036854775807) : Ev (fun k => apographref09_SameKids.f k a b) (oneL a b) := by
  by_cases hab : a.length = b.length
  · refine Ev.congr (fun k => ?_) (sameK_loop a.length a b 0 hab (by omega) hn)
    simp only [apographref09_SameKids.f]
    rw [if_pos (by omega)]
    rfl
  · have e : oneL a b = false := by
      rw [← Bool.not_eq_true, oneL_iff]
      exact fun h => hab (by rw [h])
    rw [e]
    refine Ev.congr (fun k => ?_) (Ev.now false)
    simp only [apographref09_SameKids.f]
    rw [if_neg (by omega)]
theorem sameE_calls (A0 : Option Addr) (c0 : Nat) (a : List Entry) (A1 : Option Addr) (c1 : Nat) (b : List Entry) (w : World) (hr0 : Kd.C k27 w A0 a.length a) (hc0 : a.length ≤ c0) (hr1 : Kd.C k27 w A1 b.length b) (hc1 : b.length ≤ c1) :
    Calls Try.prog 11 #[.slice A0 a.length c0, .slice A1 b.length c1] w fun e w' => e = .returned (.bool (oneL a b)) ∧ ∃ m, w' = w.drewN m := by
  obtain ⟨k, h⟩ := Ev.rounds (sameE_form a b (Kd.C_max hr0))
  exact (apographref09_SameEntries.calls k A0 c0 a A1 c1 b _ w hr0 hc0 hr1 hc1 h).mono fun e w' ⟨h1, h2⟩ => ⟨h1, h2.out⟩
theorem sameK_calls (A0 : Option Addr) (c0 : Nat) (a : List Kid) (A1 : Option Addr) (c1 : Nat) (b : List Kid) (w : World) (hr0 : Kd.C k60 w A0 a.length a) (hc0 : a.length ≤ c0) (hr1 : Kd.C k60 w A1 b.length b) (hc1 : b.length ≤ c1) :
    Calls Try.prog 16 #[.slice A0 a.length c0, .slice A1 b.length c1] w fun e w' => e = .returned (.bool (oneL a b)) ∧ ∃ m, w' = w.drewN m := by
  obtain ⟨k, h⟩ := Ev.rounds (sameK_form a b (Kd.C_max hr0))
  exact (apographref09_SameKids.calls k A0 c0 a A1 c1 b _ w hr0 hc0 hr1 hc1 h).mono fun e w' ⟨h1, h2⟩ => ⟨h1, h2.out⟩
/-- Whether nodes are one. -/
noncomputable def oneN (lev : Int) (es : List Entry) (ks : List Kid) (lev' : Int) (es' : List Entry) (ks' : List Kid) : Bool := decide (lev = lev') && (oneL es es' && oneL ks ks')
theorem oneN_self (lev : Int) (es : List Entry) (ks : List Kid) : oneN lev es ks lev es ks = true := by simp [oneN, oneL_self]
theorem sameN_form (lev : Int) (es : List Entry) (ks : List Kid) (lev' : Int) (es' : List Entry) (ks' : List Kid) (h0 : es.length ≤ 9223372036854775807) (h1 : ks.length ≤ 9223372036854775807) : Ev (fun k => apographref09_SameNode.f k lev es ks lev' es' ks') (oneN lev es ks lev' es' ks') := by
  unfold oneN
  by_cases hl : lev = lev'
  · rw [decide_eq_true hl, Bool.true_and]
    refine Ev.congr (f := fun k => (apographref09_SameEntries.f k es es').bind fun t138 => (if t138 = true then ((apographref09_SameKids.f k ks ks').bind fun t139 => (some t139)) else (some false))) (fun k => by simp only [apographref09_SameNode.f]; rw [if_pos hl]) ?_
    refine Ev.bind (sameE_form es es' h0) ?_
    cases oneL es es' with
    | true =>
      rw [Bool.true_and]
      exact Ev.congr (fun k => by rw [if_pos rfl]) (Ev.bind (sameK_form ks ks' h1) (Ev.now _))
    | false => exact Ev.congr (fun k => by rw [if_neg (by decide)]) (Ev.now false)
  · rw [decide_eq_false hl, Bool.false_and]
    exact Ev.congr (fun k => by simp only [apographref09_SameNode.f]; rw [if_neg hl]) (Ev.now false)
theorem sameN_calls (lev : Int) (A0 : Option Addr) (c0 : Nat) (es : List Entry) (A1 : Option Addr) (c1 : Nat) (ks : List Kid) (lev' : Int) (B0 : Option Addr) (d0 : Nat) (es' : List Entry) (B1 : Option Addr) (d1 : Nat) (ks' : List Kid) (w : World) (h0 : Kd.C k27 w A0 es.length es) (hc0 : es.length ≤ c0) (h1 : Kd.C k60 w A1 ks.length ks) (hc1 : ks.length ≤ c1) (g0 : Kd.C k27 w B0 es'.length es') (hd0 : es'.length ≤ d0) (g1 : Kd.C k60 w B1 ks'.length ks') (hd1 : ks'.length ≤ d1) :
    Calls Try.prog 27 #[.agg #[.int .i64 lev, .slice A0 es.length c0, .slice A1 ks.length c1], .agg #[.int .i64 lev', .slice B0 es'.length d0, .slice B1 ks'.length d1]] w fun e w' => e = .returned (.bool (oneN lev es ks lev' es' ks')) ∧ Below w.heap.size w w' := by
  obtain ⟨k, h⟩ := Ev.rounds (sameN_form lev es ks lev' es' ks' (Kd.C_max h0) (Kd.C_max h1))
  exact apographref09_SameNode.calls k lev A0 c0 es A1 c1 ks lev' B0 d0 es' B1 d1 ks' _ w h0 hc0 h1 hc1 g0 hd0 g1 hd1 h
/-- Whether entries, a node are small. -/
def lightX (x : Entry) : Bool := decide (x.f0.size ≤ 60) && decide (x.f1.size ≤ 250)
def lightE (l : List Entry) : Bool := l.all lightX && decide (l.length ≤ 60)
def smallK (l : List Kid) : Bool := l.all (fun k => decide (k.f0.size ≤ 60))
def smallN (es : List Entry) (ks : List Kid) : Bool := smallK ks && (decide (ks.length ≤ 60) && lightE es)
theorem all_split {α : Type} (f : α → Bool) (l : List α) (i : Nat) (h : i < l.length) : l.all f = ((l.take i).all f && (f (l[i]) && (l.drop (i + 1)).all f)) := by
  conv => lhs; rw [← List.take_append_drop i l, List.drop_eq_getElem_cons h, List.all_append, List.all_cons]
theorem light_loop : ∀ (d : Nat) (l : List Entry) (i : Nat), i + d = l.length → l.length ≤ 9223372036854775807 → (l.take i).all lightX = true → Ev (fun k => apographlaw09_Light.l0 k l l l.length i) (lightE l) := by
  intro d
  induction d with
  | zero =>
    intro l i hi hn ha
    rw [List.take_of_length_le (by omega)] at ha
    refine Ev.step (f := fun _ => some (lightE l)) (fun k => ?_) (Ev.now _)
    simp only [apographlaw09_Light.l0]
    rw [if_neg (by omega)]
    simp only [lightE, ha, Bool.true_and]
    exact congrArg some (decide_eq_decide.2 ⟨fun h => by omega, fun h => by omega⟩)
  | succ d ih =>
    intro l i hi hn ha
    have ew : wrap64 ((i : Int) + 1) = ((i + 1 : Nat) : Int) := by unfold wrap64; omega
    have hs := all_split lightX l i (by omega)
    have hx := en_at (l := l) i (by omega)
    rw [ha, Bool.true_and] at hs
    have hT : (l.take (i + 1)).all lightX = lightX (l[i]'(by omega)) := by rw [take_one l i (by omega), List.all_append, ha]; simp
    generalize l[i] = c at hx hs hT
    by_cases h0 : (c.f0.size : Int) > 60
    · have e : lightE l = false := by unfold lightE; rw [hs]; simp [lightX] <;> omega
      rw [e]
      refine Ev.step (f := fun _ => some false) (fun k => ?_) (Ev.now _)
      simp only [apographlaw09_Light.l0, hx]
      rw [if_pos (by omega), if_pos (by omega), if_pos (by omega), if_pos h0]
    · by_cases h1 : (c.f1.size : Int) > 250
      · have e : lightE l = false := by unfold lightE; rw [hs]; simp [lightX] <;> omega
        rw [e]
        refine Ev.step (f := fun _ => some false) (fun k => ?_) (Ev.now _)
        simp only [apographlaw09_Light.l0, hx]
        rw [if_pos (by omega), if_pos (by omega), if_pos (by omega), if_neg h0, if_pos h1]
      · refine Ev.step (f := fun k => apographlaw09_Light.l0 k l l l.length ((i + 1 : Nat) : Int)) (fun k => ?_) (ih l (i + 1) (by omega) hn (by rw [hT]; simp [lightX]; omega))
        simp only [apographlaw09_Light.l0, hx, ew]
        rw [if_pos (by omega), if_pos (by omega), if_pos (by omega), if_neg h0, if_neg h1]
theorem light_form (l : List Entry) (hn : l.length ≤ 9223372036854775807) : Ev (fun k => apographlaw09_Light.f k l) (lightE l) := light_loop l.length l 0 (by omega) hn (by simp)
theorem light9_calls (A : Option Addr) (c : Nat) (l : List Entry) (w : World) (h : Kd.C k27 w A l.length l) (hc : l.length ≤ c) :
    Calls Try.prog 8 #[.slice A l.length c] w fun e w' => e = .returned (.bool (lightE l)) ∧ Below w.heap.size w w' := by
  obtain ⟨k, h'⟩ := Ev.rounds (light_form l (Kd.C_max h))
  exact apographlaw09_Light.calls k A c l _ w h hc h'
theorem small_loop (lev : Int) (es : List Entry) (he : es.length ≤ 9223372036854775807) : ∀ (d : Nat) (l : List Kid) (i : Nat), i + d = l.length → l.length ≤ 9223372036854775807 → (l.take i).all (fun k => decide (k.f0.size ≤ 60)) = true → Ev (fun k => apographlaw09_small.l0 k l l.length i lev es l) (smallN es l) := by
  intro d
  induction d with
  | zero =>
    intro l i hi hn ha
    rw [List.take_of_length_le (by omega)] at ha
    unfold smallN smallK
    rw [ha, Bool.true_and]
    by_cases h60 : l.length ≤ 60
    · rw [decide_eq_true h60, Bool.true_and]
      refine Ev.step (f := fun k => (apographlaw09_Light.f k es).bind fun t => some t) (fun k => ?_) (Ev.bind (light_form es he) (Ev.now _))
      simp only [apographlaw09_small.l0]
      rw [if_neg (by omega), if_pos (by omega)]
    · rw [decide_eq_false h60, Bool.false_and]
      refine Ev.step (f := fun k => some false) (fun k => ?_) (Ev.now _)
      simp only [apographlaw09_small.l0]
      rw [if_neg (by omega), if_neg (by omega)]
  | succ d ih =>
    intro l i hi hn ha
    have ew : wrap64 ((i : Int) + 1) = ((i + 1 : Nat) : Int) := by unfold wrap64; omega
    have hs := all_split (fun k : Kid => decide (k.f0.size ≤ 60)) l i (by omega)
    have hx := ki_at (l := l) i (by omega)
    rw [ha, Bool.true_and] at hs
    have hT : (l.take (i + 1)).all (fun k => decide (k.f0.size ≤ 60)) = decide ((l[i]'(show i < l.length by omega)).f0.size ≤ 60) := by rw [take_one l i (by omega), List.all_append, ha]; simp
    generalize l[i] = c at hx hs hT
    by_cases h0 : (c.f0.size : Int) > 60
    · have e : smallN es l = false := by
        unfold smallN smallK
        rw [hs, decide_eq_false (show ¬ c.f0.size ≤ 60 by omega)]
        rfl
      rw [e]
      refine Ev.step (f := fun _ => some false) (fun k => ?_) (Ev.now _)
      simp only [apographlaw09_small.l0, hx]
      rw [if_pos (by omega), if_pos (by omega), if_pos (by omega), if_pos h0]
    · refine Ev.step (f := fun k => apographlaw09_small.l0 k l l.length ((i + 1 : Nat) : Int) lev es l) (fun k => ?_) (ih l (i + 1) (by omega) hn (by rw [hT]; exact decide_eq_true (by omega)))
      simp only [apographlaw09_small.l0, hx, ew]
      rw [if_pos (by omega), if_pos (by omega), if_pos (by omega), if_neg h0]
theorem small9_calls (lev : Int) (A0 : Option Addr) (c0 : Nat) (es : List Entry) (A1 : Option Addr) (c1 : Nat) (ks : List Kid) (w : World) (hC0 : Kd.C k27 w A0 es.length es) (hc0 : es.length ≤ c0) (hC1 : Kd.C k60 w A1 ks.length ks) (hc1 : ks.length ≤ c1) :
    Calls Try.prog 12 #[.agg #[.int .i64 lev, .slice A0 es.length c0, .slice A1 ks.length c1]] w fun e w' => e = .returned (.bool (smallN es ks)) ∧ Below w.heap.size w w' := by
  obtain ⟨k, h⟩ := Ev.rounds (small_loop lev es (Kd.C_max hC0) ks.length ks 0 (by omega) (Kd.C_max hC1) (by simp))
  exact apographlaw09_small.calls k lev A0 c0 es A1 c1 ks _ w hC0 hc0 hC1 hc1 h
theorem lightE_in {l : List Entry} (h : lightE l = true) : l.length ≤ 60 ∧ ∀ x ∈ l, x.f0.size ≤ 60 ∧ x.f1.size ≤ 250 := by
  simp only [lightE, lightX, Bool.and_eq_true, List.all_eq_true, decide_eq_true_eq] at h
  exact ⟨h.2, fun x hx => h.1 x hx⟩
theorem smallN_in {es : List Entry} {ks : List Kid} (h : smallN es ks = true) : ks.length ≤ 60 ∧ (∀ x ∈ ks, x.f0.size ≤ 60) ∧ lightE es = true := by
  simp only [smallN, smallK, Bool.and_eq_true, List.all_eq_true, decide_eq_true_eq] at h
  exact ⟨h.2.1, h.1, h.2.2⟩
/-- What is told of keys and values. -/
theorem pkey_calls (k : ByteArray) (w : World) : Calls Try.prog 17 #[.string k] w fun e w' => e = .returned (.int .i64 (keyE k)) ∧ Below w.heap.size w w' := (node_Key.calls k _ w (key_form k)).mono fun e w' ⟨h1, h2⟩ => ⟨h1, h2.below⟩
theorem pval_calls (k : ByteArray) (w : World) : Calls Try.prog 19 #[.string k] w fun e w' => e = .returned (.int .i64 (valE k)) ∧ Below w.heap.size w w' := (node_Val.calls k _ w (val_form k)).mono fun e w' ⟨h1, h2⟩ => ⟨h1, h2.below⟩
theorem rkey_form (k : ByteArray) : apographref09_Key.f k = some (keyE k) := by
  unfold apographref09_Key.f keyE
  split
  · rfl
  · split <;> rfl
theorem rval_form (v : ByteArray) : apographref09_Val.f v = some (valE v) := by
  unfold apographref09_Val.f valE
  split <;> rfl
theorem rkey_calls (k : ByteArray) (w : World) : Calls Try.prog 18 #[.string k] w fun e w' => e = .returned (.int .i64 (keyE k)) ∧ Below w.heap.size w w' := (apographref09_Key.calls k _ w (rkey_form k)).mono fun e w' ⟨h1, h2⟩ => ⟨h1, h2.below⟩
theorem rval_calls (k : ByteArray) (w : World) : Calls Try.prog 20 #[.string k] w fun e w' => e = .returned (.int .i64 (valE k)) ∧ Below w.heap.size w w' := (apographref09_Val.calls k _ w (rval_form k)).mono fun e w' ⟨h1, h2⟩ => ⟨h1, h2.below⟩
theorem rends_calls (lev : Int) (k : ByteArray) (w : World) (hn : k.size ≤ 140737488355328) : Calls Try.prog 9 #[.int .i64 lev, .string k] w fun e w' => e = .returned (.bool (endsB lev k)) ∧ Below w.heap.size w w' := by
  obtain ⟨n, h⟩ := Ev.rounds (rends_form lev k hn)
  exact apographref09_Ends.calls n lev k _ w h
/-- A row of rows, an element. -/
theorem at_row {α : Type} {d : Kd α} {e : Nat} {w : World} {A : Option Addr} {n : Nat} {xs : List (List α)} (h : Kd.C (Kd.slice e d) w A n xs) (i : Nat) (hi : i < xs.length) (hn : xs.length = n) :
    ∃ ad A' c', A = some ad ∧ w.cell? (ad.add i) = some (.slice A' (xs[i]).length c') ∧ (xs[i]).length ≤ c' ∧ Kd.C d w A' (xs[i]).length (xs[i]) := by
  obtain ⟨ad, c, h1, h2, h3, h4⟩ := Kd.C_get h [] (i : Int) (by omega) (by omega)
  obtain ⟨A', c', rfl, h5, h6⟩ := h3
  have e : xs.getD (i : Int).toNat [] = xs[i] := by simp [List.getD, hi]
  rw [e] at h4 h5 h6
  refine ⟨ad, A', c', h1, ?_, h5, h6⟩
  have := h4 0 _ rfl
  simpa [Kd.slice] using this
/-- Split and Group, told of rows that are read. -/
abbrev rowE (l : List Entry) : List (List Entry) := rowsL (fun x => endsB 0 x.f0) [] l
abbrev rowK (lev : Int) (l : List Kid) : List (List Kid) := rowsL (fun x => endsB lev x.f0) [] l
set_option maxHeartbeats 4000000 in
theorem splitR_calls (A : Option Addr) (c : Nat) (l : List Entry) (W : World) (hC : Kd.C k27 W A l.length l) (hc : l.length ≤ c) (hn : l.length ≤ 1000000) (hz : ∀ x ∈ l, x.f0.size ≤ 140737488355328) :
    Calls Try.prog 10 #[.slice A l.length c] W fun e W1 => ∃ v, e = .returned v ∧ Kd.R (Kd.slice 27 k27) 22 W1 W.heap.size (fun _ => True) v (rowE l) ∧ Below W.heap.size W W1 := by
  have H := Aside0.mk (rowsE_calls A c l W hC hc hn hz)
  clear hC hc hn hz
  go_enter Try.func10, Try.ntmps10
  go_wp2_with (go_at_call 30; refine H.out.mono ?_; rintro e w1 ⟨v, rfl, hr, hb⟩; have HR := Aside0.mk hr; have HB := Aside0.mk hb; clear hr hb)
  go_ret
  exact ⟨_, rfl, HR.out, HB.out⟩
set_option maxHeartbeats 4000000 in
theorem groupR_calls (lev : Int) (A : Option Addr) (c : Nat) (l : List Kid) (W : World) (hC : Kd.C k60 W A l.length l) (hc : l.length ≤ c) (hn : l.length ≤ 1000000) (hz : ∀ x ∈ l, x.f0.size ≤ 140737488355328) :
    Calls Try.prog 14 #[.int .i64 lev, .slice A l.length c] W fun e W1 => ∃ v, e = .returned v ∧ Kd.R (Kd.slice 60 k60) 31 W1 W.heap.size (fun _ => True) v (rowK lev l) ∧ Below W.heap.size W W1 := by
  have H := Aside0.mk (rowsK_calls lev W.heap.size A c l (W.alloc (.cells #[.int .i64 lev] 3)) (Kd.C_alloc hC _) hc hn hz (blk_new _ _))
  clear hC hc hn hz
  go_enter Try.func14, Try.ntmps14
  go_wp2_with (go_at_call 33; refine H.out.mono ?_; rintro e w1 ⟨v, rfl, hr, hb⟩; have HB := Aside0.mk (below_step (below_alloc (Below.refl W.heap.size W) (.cells #[.int .i64 lev] 3)) hb); have HR := Aside0.mk (Kd.R_lower hr (below_alloc (Below.refl W.heap.size W) (.cells #[.int .i64 lev] 3)).size); clear hr hb)
  go_ret
  exact ⟨_, rfl, HR.out, HB.out⟩
theorem splitC_calls (A : Option Addr) (c : Nat) (l : List Entry) (W : World) (hC : Kd.C k27 W A l.length l) (hc : l.length ≤ c) (hn : l.length ≤ 1000000) (hz : ∀ x ∈ l, x.f0.size ≤ 140737488355328) :
    Calls Try.prog 10 #[.slice A l.length c] W fun e W1 => ∃ B n, e = .returned (.slice B (rowE l).length n) ∧ (rowE l).length ≤ n ∧ Kd.C (Kd.slice 27 k27) W1 B (rowE l).length (rowE l) ∧ Below W.heap.size W W1 := by
  refine (splitR_calls A c l W hC hc hn hz).mono ?_
  rintro e W1 ⟨v, rfl, hr, hb⟩
  obtain ⟨B, n, rfl, hn, hC⟩ := Kd.R_reads hr
  exact ⟨B, n, rfl, hn, hC, hb⟩
theorem groupC_calls (lev : Int) (A : Option Addr) (c : Nat) (l : List Kid) (W : World) (hC : Kd.C k60 W A l.length l) (hc : l.length ≤ c) (hn : l.length ≤ 1000000) (hz : ∀ x ∈ l, x.f0.size ≤ 140737488355328) :
    Calls Try.prog 14 #[.int .i64 lev, .slice A l.length c] W fun e W1 => ∃ B n, e = .returned (.slice B (rowK lev l).length n) ∧ (rowK lev l).length ≤ n ∧ Kd.C (Kd.slice 60 k60) W1 B (rowK lev l).length (rowK lev l) ∧ Below W.heap.size W W1 := by
  refine (groupR_calls lev A c l W hC hc hn hz).mono ?_
  rintro e W1 ⟨v, rfl, hr, hb⟩
  obtain ⟨B, n, rfl, hn, hC⟩ := Kd.R_reads hr
  exact ⟨B, n, rfl, hn, hC, hb⟩
theorem rsplitC_calls (A : Option Addr) (c : Nat) (l : List Entry) (W : World) (hC : Kd.C k27 W A l.length l) (hc : l.length ≤ c) (hn : l.length ≤ 1000000) (hz : ∀ x ∈ l, x.f0.size ≤ 140737488355328) :
    Calls Try.prog 13 #[.slice A l.length c] W fun e W1 => ∃ B n, e = .returned (.slice B (rowE l).length n) ∧ (rowE l).length ≤ n ∧ Kd.C (Kd.slice 27 k27) W1 B (rowE l).length (rowE l) ∧ Below W.heap.size W W1 := by
  obtain ⟨k, h⟩ := Ev.rounds (split_form (endsB 0) l (fun x hx => rends_form 0 x.f0 (hz x hx)) hn)
  refine (apographref09_Split.calls k A c l _ W hC hc h).mono ?_
  rintro e W1 ⟨v, rfl, hr, hb⟩
  obtain ⟨B, n, rfl, hn, hC⟩ := Kd.R_reads (Kd.S_R hr)
  exact ⟨B, n, rfl, hn, hC, hb⟩
theorem rgroupC_calls (lev : Int) (A : Option Addr) (c : Nat) (l : List Kid) (W : World) (hC : Kd.C k60 W A l.length l) (hc : l.length ≤ c) (hn : l.length ≤ 1000000) (hz : ∀ x ∈ l, x.f0.size ≤ 140737488355328) :
    Calls Try.prog 15 #[.int .i64 lev, .slice A l.length c] W fun e W1 => ∃ B n, e = .returned (.slice B (rowK lev l).length n) ∧ (rowK lev l).length ≤ n ∧ Kd.C (Kd.slice 60 k60) W1 B (rowK lev l).length (rowK lev l) ∧ Below W.heap.size W W1 := by
  obtain ⟨k, h⟩ := Ev.rounds (group_form (endsB lev) lev l (fun x hx => rends_form lev x.f0 (hz x hx)) hn)
  refine (apographref09_Group.calls k lev A c l _ W hC hc h).mono ?_
  rintro e W1 ⟨v, rfl, hr, hb⟩
  obtain ⟨B, n, rfl, hn, hC⟩ := Kd.R_reads (Kd.S_R hr)
  exact ⟨B, n, rfl, hn, hC, hb⟩
end Go.Proofs.Ytdbgfmiokmempaa.Sep
