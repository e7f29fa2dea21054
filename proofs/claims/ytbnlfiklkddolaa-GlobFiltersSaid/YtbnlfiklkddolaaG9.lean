/- The walks of a pattern's Prefix and String, and of Quote. Printed by gen9.py. Conditions: the bounds of the statements. -/
import Derived.Test.YtbnlfiklkddolaaG7
import Derived.Lib.Bytealg
import Derived.BigCall
namespace Go.Proofs.Ytbnlfiklkddolaa.Sep
set_option linter.unusedSimpArgs false
set_option linter.unusedVariables false
open Go.RowKit Go.Proofs.Ytbnlfiklkddolaa.PCore Go.Proofs.Ytbnlfiklkddolaa.Plain Go.Proofs.YtbnlfiklkddolaaW.PrintWords Go.Proofs.YtbnlfiklkddolaaW.PrintLast Go.Proofs.YtbnlfiklkddolaaW.PrintMore
set_option maxHeartbeats 4000000 in
set_option maxRecDepth 100000 in
theorem ib0_calls (s : ByteArray) (c : Int) (W : World) : Calls Try.prog 28 #[.string s, .int .u8 c] W fun e W1 => e = .returned (.int .i64 (Lib.indexByte s.data.toList c.toNat.toUInt8)) ∧ Below W.heap.size W W1 := by
  go_enter Try.func28, Try.ntmps28
  go_wp2
  rw [run_callFunc_extern Try.func31 (by kernel_rfl) (by kernel_rfl) (by kernel_rfl) (e := Extern.BytealgIndexByte.indexByte) (by kernel_rfl), Lib.run_indexByteString]
  simp only [Result.andThen]
  rw [Oper.upon_value]
  go_wp2
  go_ret
  exact ⟨rfl, Below.refl _ _⟩
theorem ib_calls (s : ByteArray) (c : Int) (W : World) : Calls Try.prog 24 #[.string s, .int .u8 c] W fun e W1 => e = .returned (.int .i64 (Lib.indexByte s.data.toList c.toNat.toUInt8)) ∧ Below W.heap.size W W1 := by
  go_enter Try.func24, Try.ntmps24
  go_wp2_with (go_at_call 28; refine (ib0_calls s c _).mono ?_; rintro e w1 ⟨rfl, hb⟩; have HB1 := Aside0.mk hb; clear hb)
  go_ret
  exact ⟨rfl, HB1.out⟩
/-- A byte that a pattern does not take for itself. -/
def specB (c : Int) : Bool := c == 42 || c == 63 || c == 91 || c == 93 || c == 92
theorem ix_cons (b : UInt8) (l : List UInt8) (c : UInt8) : decide (0 ≤ Lib.indexByte (b :: l) c) = ((b == c) || decide (0 ≤ Lib.indexByte l c)) := by
  have h := Lib.indexByte_ge l c
  rw [Lib.indexByte]
  cases hb : b == c with
  | true => simp
  | false =>
    simp only [Bool.false_eq_true, if_false, Bool.false_or]
    by_cases h2 : Lib.indexByte l c = -1
    · rw [if_pos (by simp [h2]), h2]
    · rw [if_neg (by simp [h2])]
      exact decide_eq_decide.2 ⟨fun h => by omega, fun h => by omega⟩
theorem u8_eq (n : Nat) (hn : n < 256) (c : Int) (hc : 0 ≤ c ∧ c < 256) : (n.toUInt8 == c.toNat.toUInt8) = (c == (n : Int)) := by
  by_cases h : c = (n : Int)
  · subst h; simp
  · rw [beq_eq_false_iff_ne.mpr h, beq_eq_false_iff_ne]
    intro e
    have := congrArg UInt8.toNat e
    simp only [Nat.toUInt8, UInt8.toNat_ofNat'] at this
    rw [Nat.mod_eq_of_lt hn, Nat.mod_eq_of_lt (by omega)] at this
    omega
theorem ix_spec (c : Int) (hc : 0 ≤ c ∧ c < 256) : decide (0 ≤ Lib.indexByte (⟨#[42, 63, 91, 93, 92]⟩ : ByteArray).data.toList c.toNat.toUInt8) = specB c := by
  show decide (0 ≤ Lib.indexByte [42, 63, 91, 93, 92] c.toNat.toUInt8) = specB c
  have e : ∀ x, decide (0 ≤ Lib.indexByte [] x) = false := fun x => rfl
  rw [ix_cons, ix_cons, ix_cons, ix_cons, ix_cons, e]
  have k : ∀ n : Nat, n < 256 → (n.toUInt8 == c.toNat.toUInt8) = (c == (n : Int)) := fun n hn => u8_eq n hn c hc
  have k1 := k 42 (by decide)
  have k2 := k 63 (by decide)
  have k3 := k 91 (by decide)
  have k4 := k 93 (by decide)
  have k5 := k 92 (by decide)
  rw [show (42 : UInt8) = (42 : Nat).toUInt8 from rfl, show (63 : UInt8) = (63 : Nat).toUInt8 from rfl, show (91 : UInt8) = (91 : Nat).toUInt8 from rfl, show (93 : UInt8) = (93 : Nat).toUInt8 from rfl, show (92 : UInt8) = (92 : Nat).toUInt8 from rfl, k1, k2, k3, k4, k5]
  unfold specB
  simp only [Bool.or_false, Bool.or_assoc]
  rfl
def quoteL (l : List Int) : List Int := l.flatMap fun c => if specB c = true then [92, c] else [c]
theorem quoteL_in {l : List Int} (h : ∀ x ∈ l, 0 ≤ x ∧ x < 256) : ∀ x ∈ quoteL l, 0 ≤ x ∧ x < 256 := by
  intro x hx
  simp only [quoteL, List.mem_flatMap] at hx
  obtain ⟨c, hc, hx⟩ := hx
  have := h c hc
  split at hx
  · simp only [List.mem_cons, List.not_mem_nil, or_false] at hx
    rcases hx with rfl | rfl
    · omega
    · exact this
  · simp only [List.mem_cons, List.not_mem_nil, or_false] at hx
    subst hx; exact this
theorem quoteL_len (l : List Int) : (quoteL l).length ≤ 2 * l.length := by
  induction l with
  | nil => simp [quoteL]
  | cons c l ih =>
    have e : quoteL (c :: l) = (if specB c = true then [92, c] else [c]) ++ quoteL l := rfl
    rw [e, List.length_append, List.length_cons]
    have h : (if specB c = true then [92, c] else [c]).length ≤ 2 := by split <;> simp
    omega
theorem quoteL_snoc (l : List Int) (c : Int) : quoteL (l ++ [c]) = quoteL l ++ (if specB c = true then [92, c] else [c]) := by simp [quoteL]
theorem take_snoc (l : List Int) (i : Nat) (h : i < l.length) : l.take (i + 1) = l.take i ++ [rd l (i : Int)] := by
  rw [rd_nat l i h, List.take_succ_eq_append_getElem h]
set_option maxHeartbeats 16000000 in
set_option maxRecDepth 100000 in
theorem quote_calls (s : ByteArray) (W : World) (hs : s.size ≤ 1000000) : Calls Try.prog 19 #[.string s] W fun e W1 => e = .returned (.string (strOfNums (quoteL (bytesOf s)))) ∧ Below W.heap.size W W1 := by
  have HSZ := Aside0.mk hs
  have kb := fun W => print_bytes (P := Try.prog) 9 23 5 Try.underlying9 Try.underlying23 Try.underlying5 s W
  have hrd := bytes_reads W 5 s (by omega)
  have HB0 := Aside0.mk (bytes_below (Below.refl W.heap.size W) (Nat.le_refl _) 5 s)
  clear hs
  go_enter Try.func19, Try.ntmps19
  go_wp2
  generalize grownCap W s.size 0 5 = cc
  generalize Lib.bytesWorld W 5 s = w0 at hrd HB0 ⊢
  have HRD := Aside0.mk hrd
  clear hrd kb
  go_loopg [3, 9] s.size (fun kq v3 v9 w' => ∃ (i : Nat), v9 = .int .i64 (i : Int) ∧ Aside0 (i ≤ s.size ∧ kq = s.size - i) ∧ Aside0 (Kd.R (Kd.int .u8) 5 w' w0.heap.size (fun _ => True) v3 (quoteL ((bytesOf s).take i))) ∧ Aside0 (Below w0.heap.size w0 w'))
  case atStart => exact ⟨0, rfl, ⟨by omega, by omega⟩, ⟨Kd.R_nil _ _ _ _ _⟩, ⟨Below.refl _ _⟩⟩
  case round =>
    rename_i v3 v9
    obtain ⟨i, rfl, HI, HR, HB⟩ := hrel
    by_cases hlt : i < s.size
    · obtain ⟨ad, had, h0⟩ := (HRD.out.below HB.out).at_ (i : Int) (by omega) (by omega)
      have had' : ad = ⟨W.heap.size, 0, none⟩ := by injection had with h; exact h.symm
      subst had'
      rw [Int.toNat_natCast, add_plain] at h0
      have hlt' : (i : Int) < (s.size : Int) := by omega
      have HWI := Aside0.mk (show wrap64 ((i : Int) + 1) = ((i + 1 : Nat) : Int) by have := HSZ.out; unfold wrap64; omega)
      have hcb := bytesOf_in s (rd (bytesOf s) (i : Int)) (by rw [rd_nat _ i (by rw [bytesOf_length]; exact hlt)]; exact List.getElem_mem _)
      have HTK := Aside0.mk (take_snoc (bytesOf s) i (by rw [bytesOf_length]; exact hlt))
      have HLN := Aside0.mk (show (quoteL ((bytesOf s).take i)).length ≤ 2000000 by have := quoteL_len ((bytesOf s).take i); rw [List.length_take] at this; have := HSZ.out; omega)
      generalize rd (bytesOf s) (i : Int) = c at h0 hcb HTK
      have HSP := Aside0.mk (ix_spec c hcb)
      clear had hcb
      have h0' : World.cell? wr ((⟨W.heap.size, 0, none⟩ : Addr).add i) = some (.int .u8 c) := by rw [add_plain]; exact h0
      obtain ⟨ix, hix⟩ : ∃ ix, ix = Lib.indexByte (⟨#[42, 63, 91, 93, 92]⟩ : ByteArray).data.toList c.toNat.toUInt8 := ⟨_, rfl⟩
      have HIX := Aside0.mk hix
      rw [← hix] at HSP
      clear hix
      cases hsp : specB c with
      | true =>
        have h1 : decide (0 ≤ ix) = true := by rw [HSP.out]; exact hsp
        have HG := Aside0.mk (show quoteL ((bytesOf s).take (i + 1)) = (quoteL ((bytesOf s).take i) ++ [92]) ++ [c] by rw [HTK.out, quoteL_snoc, if_pos hsp]; simp)
        go_wp2_with (first | (at_builtin; have hq := HB2.out; clear hq; refine Kd.R_append (Kd.int .u8) (w0 := w0) w0.heap.size rfl (.tmp 19) (.tmp 21) 23 5 (.int .u8 0) 1 rfl Try.underlying23 (by kernel_rfl) rfl (by decide) (by omega) _ (quoteL ((bytesOf s).take i) ++ [92]) c [.int .u8 c] (fun _ => True) (fun _ => False) rfl rfl ?aP (fun _ hk => hk.elim) ?aF ?aO ?aB ?aS ?aL ?_; (case aP => exact rfl); (case aF => exact fun _ _ => trivial); (case aO => exact HR2.out); (case aB => exact HB2.out); (case aS => exact HB2.out.size); (case aL => have := HLN.out; first | omega | (simp only [List.length_append, List.length_cons, List.length_nil]; omega)); intro v3 w3 ho hb hgr hat; obtain ⟨A3, n3, c3, hv3⟩ := R_slice' ho; subst hv3; have HR3 := Aside0.mk ho; have HB3 := Aside0.mk hb; clear ho hb hgr hat) | (at_builtin; refine Kd.R_append (Kd.int .u8) (w0 := w0) w0.heap.size rfl (.tmp 16) (.tmp 17) 23 5 (.int .u8 0) 1 rfl Try.underlying23 (by kernel_rfl) rfl (by decide) (by omega) _ (quoteL ((bytesOf s).take i)) 92 [.int .u8 92] (fun _ => True) (fun _ => False) rfl rfl ?aP (fun _ hk => hk.elim) ?aF ?aO ?aB ?aS ?aL ?_; (case aP => exact rfl); (case aF => exact fun _ _ => trivial); (case aO => exact HR1.out); (case aB => exact HB1.out); (case aS => exact HB1.out.size); (case aL => have := HLN.out; first | omega | (simp only [List.length_append, List.length_cons, List.length_nil]; omega)); intro v2 w2 ho hb hgr hat; obtain ⟨A2, n2, c2, hv2⟩ := R_slice' ho; subst hv2; have HR2 := Aside0.mk ho; have HB2 := Aside0.mk hb; clear ho hb hgr hat) | (go_at_call 24; refine (ib_calls _ c _).mono ?_; rw [← HIX.out]; rintro e w1 ⟨rfl, hb⟩; have HB1 := Aside0.mk (below_step HB.out hb); have HR1 := Aside0.mk (Kd.R_below HR.out hb); clear hb))
        go_roundg (s.size - (i + 1))
        case measure => have := HI.out; omega
        case rel => exact ⟨i + 1, by first | rfl | (rw [HWI.out]; done) | simp, ⟨by omega, rfl⟩, ⟨by rw [HG.out]; exact HR3.out⟩, HB3⟩
      | false =>
        have h1 : decide (0 ≤ ix) = false := by rw [HSP.out]; exact hsp
        have HG := Aside0.mk (show quoteL ((bytesOf s).take (i + 1)) = quoteL ((bytesOf s).take i) ++ [c] by rw [HTK.out, quoteL_snoc, if_neg (by rw [hsp]; decide)])
        go_wp2_with (first | (at_builtin; refine Kd.R_append (Kd.int .u8) (w0 := w0) w0.heap.size rfl (.tmp 19) (.tmp 21) 23 5 (.int .u8 0) 1 rfl Try.underlying23 (by kernel_rfl) rfl (by decide) (by omega) _ (quoteL ((bytesOf s).take i)) c [.int .u8 c] (fun _ => True) (fun _ => False) rfl rfl ?aP (fun _ hk => hk.elim) ?aF ?aO ?aB ?aS ?aL ?_; (case aP => exact rfl); (case aF => exact fun _ _ => trivial); (case aO => exact HR1.out); (case aB => exact HB1.out); (case aS => exact HB1.out.size); (case aL => have := HLN.out; first | omega | (simp only [List.length_append, List.length_cons, List.length_nil]; omega)); intro v3 w3 ho hb hgr hat; obtain ⟨A3, n3, c3, hv3⟩ := R_slice' ho; subst hv3; have HR3 := Aside0.mk ho; have HB3 := Aside0.mk hb; clear ho hb hgr hat) | (go_at_call 24; refine (ib_calls _ c _).mono ?_; rw [← HIX.out]; rintro e w1 ⟨rfl, hb⟩; have HB1 := Aside0.mk (below_step HB.out hb); have HR1 := Aside0.mk (Kd.R_below HR.out hb); clear hb))
        go_roundg (s.size - (i + 1))
        case measure => have := HI.out; omega
        case rel => exact ⟨i + 1, by first | rfl | (rw [HWI.out]; done) | simp, ⟨by omega, rfl⟩, ⟨by rw [HG.out]; exact HR3.out⟩, HB3⟩
    · have hI : i = s.size := by have := HI.out; omega
      subst hI
      have hR := HR.out
      rw [List.take_of_length_le (by rw [bytesOf_length]; exact Nat.le_refl _)] at hR
      obtain ⟨A, cA, hv, hl, hC⟩ := Kd.R_reads hR
      subst hv
      have hcv := Kd.C_string (P := Try.prog) (A := A) (c := cA) Try.underlying23 Try.underlying5 Try.underlying9 hC
      clear hR hC HR
      go_wp2
      go_ret
      exact ⟨rfl, below_step HB0.out HB.out⟩
/-- The bytes that stand for themselves, ahead. -/
def prefL : List El → List Int
  | .one c :: l => c :: prefL l
  | _ => []
theorem prefix31_none (W : World) : Calls Try.prog 13 #[.pointer none] W fun e W1 => e = .returned (.string ⟨#[]⟩) ∧ Below W.heap.size W W1 := by
  have huG := Try.underlying24
  go_enter Try.func13, Try.ntmps13
  go_wp2
  go_ret
  exact ⟨rfl, Below.refl _ _⟩
theorem string31_none (W : World) : Calls Try.prog 15 #[.pointer none] W fun e W1 => e = .returned (.string ⟨#[]⟩) ∧ Below W.heap.size W W1 := by
  have huG := Try.underlying24
  go_enter Try.func15, Try.ntmps15
  go_wp2
  go_ret
  exact ⟨rfl, Below.refl _ _⟩
theorem string31_calls (g : Nat) (p : ByteArray) (l : List El) (W : World) (h : GlAt W g p l) : Calls Try.prog 15 #[.pointer (some ⟨g, 0, none⟩)] W fun e W1 => e = .returned (.string p) ∧ Below W.heap.size W W1 := by
  have huG := Try.underlying24
  obtain ⟨A, n, hblk, _⟩ := h
  have c0 : W.cell? ⟨g, 0, none⟩ = some (.string p) := (blk_cell hblk 0).trans rfl
  go_enter Try.func15, Try.ntmps15
  go_wp2
  go_ret
  exact ⟨rfl, Below.refl _ _⟩
theorem wp_load_at {P : Program} {o : Oper} {a : Act} {w : World} {K : Act → World → Prop} {Q : Exit → Act → World → Prop} (ty : TypeId) (x : Operand) (ho : o.op = .load ty x)
    (ad : Addr) (hx : a.eval x = .pointer (some ad)) (cs : List Value) (d : TypeDesc) (hc : ∀ j v, cs[j]? = some v → w.cell? (ad.add j) = some v)
    (hu : P.underlying ty = some d) (hd : (match d with | .struct _ | .array _ _ => true | _ => false) = true) (hi : (P.info? ty).map (·.size) = some cs.length)
    (h : K (a.put o.dst (.agg cs.toArray)) w) : o.wp P a w K Q := by
  unfold Oper.wp execOp
  simp only [ho, hx, Instr.loadAt, Instr.sureAddr, Sem.run_bind, Sem.run_pure, Result.andThen_ok, run_loadVar_at w ad ty cs d hc hu hd hi]
  exact h
set_option maxHeartbeats 16000000 in
set_option maxRecDepth 100000 in
theorem prefix31_calls (g : Nat) (p : ByteArray) (l : List El) (W : World) (h : GlAt W g p l) : Calls Try.prog 13 #[.pointer (some ⟨g, 0, none⟩)] W fun e W1 => e = .returned (.string (strOfNums (prefL l))) ∧ Below W.heap.size W W1 := by
  have huG := Try.underlying24
  obtain ⟨A, n, hblk, hC, hn, hok, hlen⟩ := h
  have c1 : W.cell? ⟨g, 1, none⟩ = some (.slice A l.length n) := (blk_cell hblk 1).trans rfl
  have HC := Aside0.mk hC
  have HOK := Aside0.mk hok
  have HLEN := Aside0.mk hlen
  have hz := zeroP
  have hsz0 : (cellsP 0 0 zeroF).size = 258 := cellsP_size zeroF_length
  clear hblk hC hn hok hlen
  go_enter Try.func13, Try.ntmps13
  go_wp2
  go_loopg [3, 13] l.length (fun kq v3 v13 w' => ∃ (i : Nat) (xs : List Int), v13 = .int .i64 (i : Int) ∧ Aside0 (i ≤ l.length ∧ kq = l.length - i ∧ xs.length = i) ∧ Aside0 (prefL l = xs ++ prefL (l.drop i)) ∧ Aside0 (Kd.R (Kd.int .u8) 5 w' W.heap.size (fun _ => True) v3 xs) ∧ Aside0 (Below W.heap.size W w'))
  case atStart => exact ⟨0, [], rfl, ⟨by omega, by omega, rfl⟩, ⟨rfl⟩, ⟨Kd.R_nil _ _ _ _ _⟩, ⟨Below.refl _ _⟩⟩
  case round =>
    rename_i v3 v13
    obtain ⟨i, xs, rfl, HI, HE, HR, HB⟩ := hrel
    by_cases hlt : i < l.length
    · obtain ⟨ad, hA, hfl, hcells⟩ := at_El (Kd.C_below HC.out HB.out) i hlt
      subst hA
      have hoke := HOK.out (l.getD i .any) (by rw [List.getD_eq_getElem?_getD, List.getElem?_eq_getElem hlt]; exact List.getElem_mem hlt)
      have hde := drop_at hlt
      obtain ⟨x, hx⟩ : ∃ x, x = l.getD i .any := ⟨_, rfl⟩
      rw [← hx] at hfl hcells hoke hde
      have HOE := Aside0.mk hoke
      have HCE := Aside0.mk hcells
      have HDE := Aside0.mk hde
      have hlt' : (i : Int) < (l.length : Int) := by omega
      have HWI := Aside0.mk (show wrap64 ((i : Int) + 1) = ((i + 1 : Nat) : Int) by have := HLEN.out; unfold wrap64; omega)
      have hst0 : (storeCells ⟨wr.heap.size, 0, none⟩ (cellsE x).toList).run Try.prog (wr.alloc (.cells (cellsP 0 0 zeroF) 49)) = .ok () (wr.alloc (.cells (cellsE x) 49)) := (store_row (blk_new _ _) ((cellsP_size hoke.1).trans hsz0.symm) cellsP_one).trans (congrArg (Result.ok ()) (World.setRow_alloc_new _ _ _ _))
      have hsz1 : (cellsE x).size = 258 := cellsP_size hoke.1
      clear hcells hoke hde hx hfl
      go_upto_region 6 with (fail)
      go_step
      go_step
      go_step
      go_step
      go_step
      refine wp_load_at 49 (.tmp 15) rfl (ad.add (i * 258)) rfl (cellsE x).toList _ HCE.out Try.underlying49 rfl (by rw [Array.length_toList, hsz1]; exact sizeP) ?_
      simp only [Act.put, List.setIfInBounds_toArray, List.set_cons_zero, List.set_cons_succ, Array.toArray_toList]
      go_upto_region 7 with (fail)
      have HX := Aside0.mk (blk_new wr (.cells (cellsE x) 49))
      have HB1 := Aside0.mk (below_alloc HB.out (.cells (cellsE x) 49))
      have HR1 := Aside0.mk (Kd.R_alloc HR.out (.cells (cellsE x) 49))
      clear hst0
      generalize wr.alloc (.cells (cellsE x) 49) = w1 at HX HB1 HR1 ⊢
      generalize wr.heap.size = gx at HX ⊢
      have k0 : w1.cell? ⟨gx, 0, none⟩ = some (.int .i64 (elK x)) := (blk_cell HX.out 0).trans rfl
      have k1 : w1.cell? ⟨gx, 1, none⟩ = some (.int .u8 (elC x)) := (blk_cell HX.out 1).trans rfl
      cases x with
      | one c =>
        have hk : elK (.one c) = 1 := rfl
        have hc : elC (.one c) = c := rfl
        rw [hk] at k0
        rw [hc] at k1
        have HG := Aside0.mk (show prefL l = (xs ++ [c]) ++ prefL (l.drop (i + 1)) by rw [HE.out, HDE.out, prefL]; simp)
        go_wp2_with (at_builtin; refine Kd.R_append (Kd.int .u8) (w0 := W) W.heap.size rfl (.tmp 20) (.tmp 23) 23 5 (.int .u8 0) 1 rfl Try.underlying23 (by kernel_rfl) rfl (by decide) (by omega) _ (xs) c [.int .u8 c] (fun _ => True) (fun _ => False) rfl rfl ?aP (fun _ hk => hk.elim) ?aF ?aO ?aB ?aS ?aL ?_; (case aP => exact rfl); (case aF => exact fun _ _ => trivial); (case aO => exact HR1.out); (case aB => exact HB1.out); (case aS => exact HB1.out.size); (case aL => have := HI.out; have := HLEN.out; omega); intro v3 w3 ho hb hgr hat; obtain ⟨A3, n3, c3, hv3⟩ := R_slice' ho; subst hv3; have HR3 := Aside0.mk ho; have HB3 := Aside0.mk hb; clear ho hb hgr hat)
        go_roundg (l.length - (i + 1))
        case measure => have := HI.out; omega
        case rel => exact ⟨i + 1, xs ++ [c], by first | rfl | (rw [HWI.out]; done) | simp, ⟨by omega, rfl, by have := HI.out; simp only [List.length_append, List.length_cons, List.length_nil]; omega⟩, HG, HR3, HB3⟩
      | any =>
        have hk : elK (.any) = 2 := rfl
        rw [hk] at k0
        have HPL := Aside0.mk (show prefL l = xs by rw [HE.out, HDE.out]; simp [prefL])
        obtain ⟨A', cA, hv, hl, hC⟩ := Kd.R_reads HR1.out
        subst hv
        have hcv := Kd.C_string (P := Try.prog) (A := A') (c := cA) Try.underlying23 Try.underlying5 Try.underlying9 hC
        clear hC
        go_wp2
        go_ret
        rw [HPL.out]
        exact ⟨rfl, HB1.out⟩
      | many =>
        have hk : elK (.many) = 3 := rfl
        rw [hk] at k0
        have HPL := Aside0.mk (show prefL l = xs by rw [HE.out, HDE.out]; simp [prefL])
        obtain ⟨A', cA, hv, hl, hC⟩ := Kd.R_reads HR1.out
        subst hv
        have hcv := Kd.C_string (P := Try.prog) (A := A') (c := cA) Try.underlying23 Try.underlying5 Try.underlying9 hC
        clear hC
        go_wp2
        go_ret
        rw [HPL.out]
        exact ⟨rfl, HB1.out⟩
      | set f =>
        have hk : elK (.set f) = 4 := rfl
        rw [hk] at k0
        have HPL := Aside0.mk (show prefL l = xs by rw [HE.out, HDE.out]; simp [prefL])
        obtain ⟨A', cA, hv, hl, hC⟩ := Kd.R_reads HR1.out
        subst hv
        have hcv := Kd.C_string (P := Try.prog) (A := A') (c := cA) Try.underlying23 Try.underlying5 Try.underlying9 hC
        clear hC
        go_wp2
        go_ret
        rw [HPL.out]
        exact ⟨rfl, HB1.out⟩
    · have hI : i = l.length := by have := HI.out; omega
      have HPL := Aside0.mk (show prefL l = xs by rw [HE.out, List.drop_eq_nil_of_le (by omega)]; simp [prefL])
      have hlt' : ¬ (i : Int) < (l.length : Int) := by omega
      obtain ⟨A', cA, hv, hl, hC⟩ := Kd.R_reads HR.out
      subst hv
      have hcv := Kd.C_string (P := Try.prog) (A := A') (c := cA) Try.underlying23 Try.underlying5 Try.underlying9 hC
      clear hC HR
      go_wp2
      go_ret
      rw [HPL.out]
      exact ⟨rfl, HB.out⟩
end Go.Proofs.Ytbnlfiklkddolaa.Sep
