/- The walk of glob.Parse. Conditions: the bounds of the statements. -/
import Derived.Test.YtbnlfiklkddolaaG4
import Derived.Deep.RegionHeld3
import Derived.BigRegion
import Derived.Great.BuildSlice
namespace Go.Proofs.Ytbnlfiklkddolaa.Sep
set_option linter.unusedSimpArgs false
set_option linter.unusedVariables false
open Go.RowKit Go.Proofs.Ytbnlfiklkddolaa.PCore Go.Proofs.Ytbnlfiklkddolaa.Plain Go.Proofs.YtbnlfiklkddolaaW.PrintWords Go.Proofs.YtbnlfiklkddolaaW.PrintLast Go.Proofs.YtbnlfiklkddolaaW.PrintMore
/-- A part in a row. -/
def kEl : Kd El where
  sz := 258
  E := []
  K := fun _ x cs => (elF x).length = 256 ∧ cs = (cellsE x).toList
  M := fun _ _ _ x cs => (elF x).length = 256 ∧ cs = (cellsE x).toList
  K_len := fun h => by rw [h.2, Array.length_toList]; exact cellsP_size h.1
  K_one := fun h u hu => by rw [h.2] at hu; exact cellsP_one u hu
  K_below := fun _ h => h
  K_of_M := fun h => h
  M_mono := fun _ h => h
  M_bound := fun h => h
  M_move := fun _ h => h
  M_lower := fun _ h => h
/-- A pattern in memory. -/
def GlAt (w : World) (g : Nat) (s : ByteArray) (l : List El) : Prop := ∃ A n, w.heap[g]? = some (.cells #[.string s, .slice A l.length n] 46 (0, 0)) ∧ Kd.C kEl w A l.length l ∧ l.length ≤ n ∧ (∀ x ∈ l, OkEl x) ∧ l.length ≤ 100
theorem GlAt.below {w w1 : World} {g : Nat} {s : ByteArray} {l : List El} (h : GlAt w g s l) (hb : Below w.heap.size w w1) : GlAt w1 g s l := by
  obtain ⟨A, n, h1, h2, h3, h4⟩ := h
  exact ⟨A, n, blk_below h1 hb, Kd.C_below h2 hb, h3, h4⟩
theorem still_load_row {P : Program} {ops : Array Oper} {o : Oper} {a : Act} {w : World} {K : Act → Prop} (hgd : o.guard = none) (ty : TypeId) (x : Operand) (ho : o.op = .load ty x)
    (g : Nat) (hx : a.eval x = .pointer (some ⟨g, 0, none⟩)) (t : TypeId) (cs : Array Value) (fr : Nat × Nat) (d : TypeDesc) (hg : w.heap[g]? = some (.cells cs t fr))
    (hu : P.underlying ty = some d) (hd : (match d with | .struct _ | .array _ _ => true | _ => false) = true) (hi : (P.info? ty).map (·.size) = some cs.size)
    (h : K (a.put o.dst (.agg cs))) : if Region.wanted o (yielded ops a.tmps) = true then o.still P a w K else K (a.put o.dst undef) := by
  have hw : Region.wanted o (yielded ops a.tmps) = true := by simp [Region.wanted, hgd]
  rw [if_pos hw]
  unfold Oper.still execOp
  simp only [ho, hx, Instr.loadAt, Instr.sureAddr, Sem.run_bind, Sem.run_pure, Result.andThen_ok, run_loadVar_row w g t ty cs fr d hg hu hd hi]
  exact ⟨rfl, h⟩
theorem fold_put : ∀ (l : List Value) (k : Nat) (b : Array Value), k + l.length ≤ b.size → ((l.zipIdx k).foldl (fun cs (p : Value × Nat) => cs.setIfInBounds (0 + p.2) p.1) b).toList = b.toList.take k ++ l ++ b.toList.drop (k + l.length)
  | [], k, b, h => by simp
  | x :: l, k, b, h => by
    simp only [List.length_cons] at h
    rw [List.zipIdx_cons, List.foldl_cons, fold_put l (k + 1) _ (by simp only [Array.size_setIfInBounds]; omega), Nat.zero_add, Array.toList_setIfInBounds]
    have hk : k < b.toList.length := by rw [Array.length_toList]; omega
    rw [List.take_set, List.take_succ_eq_append_getElem hk, List.set_append_right _ _ (by rw [List.length_take]; omega), List.length_take, show k - min k b.toList.length = 0 by omega, List.set_cons_zero, List.drop_set_of_lt (by omega)]
    simp only [List.append_assoc, List.cons_append, List.nil_append, List.length_cons]
    rw [show k + 1 + l.length = k + (l.length + 1) by omega]
theorem fill_one (n : Nat) (base cells : Array Value) (hb : base.size = n) (hc : cells.size = n) : Instr.fill (fun i => some (i * n, n)) base [(0, .agg cells)] = some cells := by
  have e : cells.zipIdx.foldl (fun cs (p : Value × Nat) => cs.setIfInBounds (0 + p.2) p.1) base = cells := by
    rw [← Array.foldl_toList, Array.toList_zipIdx]
    apply Array.toList_inj.1
    rw [fold_put cells.toList 0 base (by rw [Array.length_toList]; omega)]
    rw [List.take_zero, List.nil_append, List.drop_eq_nil_of_le (by rw [Array.length_toList, Array.length_toList]; omega), List.append_nil]
  unfold Instr.fill
  simp only [Value.cells, Nat.zero_mul]
  rw [if_neg (by simp [hc, hb])]
  unfold Instr.fill
  rw [e]
theorem wp_build1 {P : Program} {o : Oper} {a : Act} {w : World} {K : Act → World → Prop} {Q : Exit → Act → World → Prop} (t e n : Nat) (x : Operand) (ho : o.op = .buildSlice t 1 #[(0, x)]) (z cells : Array Value)
    (hu : P.underlying t = some (.slice e)) (hi : (P.info? e).map (fun i => (i.zero, i.size)) = some (some (.agg z), n)) (hn : 0 < n ∧ n ≤ 1000) (hx : a.eval x = .agg cells) (hc : cells.size = n)
    (h : K (a.put o.dst (.slice (some ⟨w.heap.size, 0, none⟩) 1 1)) (w.alloc (.cells cells e))) : o.wp P a w K Q := by
  cases hq : P.info? e with
  | none => simp [hq] at hi
  | some i =>
    simp only [hq, Option.map_some, Option.some.injEq, Prod.mk.injEq] at hi
    refine wp_buildSlice t e 1 #[(0, x)] ho cells i (.agg z) hu hq hi.1 (by rw [hi.2]; omega) (by rw [hi.2]; omega) ?_ h
    rw [hi.2]
    simp only [List.map_toArray, List.map_cons, List.map_nil, hx]
    exact fill_one n _ cells (by simp) hc
theorem rangeE {w : World} {g : Nat} {x : El} (h : w.heap[g]? = some (.cells (cellsE x) 49 (0, 0))) : w.rangeAt g 0 (cellsE x).toList := fun j v hv => by
  rw [Nat.zero_add, blk_cell h j]
  simpa using hv
theorem takeH {P : Program} {ops : Array Oper} {Q : Exit → Act → World → Prop} {md : Region.Mode} {S : World → Prop} {i : Nat} {oi : Oper} {v : Value} {fuel : Nat} {listed : Array Bool} {a : Act} {w : World} (hi : ops[i]? = some oi)
    (hs : Region.noSelect ops = true) (hf : Region.free md ops listed i = true) (hr : (Region.ready md ops listed).contains i = true)
    (hQ : ∀ c a w, Q (.panic c) (a.put oi.dst v) w → Q (.panic c) a w) (hw : Region.wanted oi (yielded ops a.tmps) = true) (hy : ∀ w, (execOp a.eval oi).run P w = .ok (.value v) w) (hS : S w)
    (h : wpAnyH P md ops Q S fuel (listed.setIfInBounds i true) (a.put oi.dst v) w) : wpAnyH P md ops Q S (fuel + 1) listed a w :=
  wpAnyH_take hi hs hf hr hQ (.inl ⟨hw, fun w _ => hy w⟩) hS h
theorem patL_nil (k : Nat) : patL (k + 1) [] = some [] := by simp [patL]
theorem patL_bad {k : Nat} {c : Int} {l : List Int} (h : prt (c :: l) = none) : patL (k + 1) (c :: l) = none := by rw [patL, if_neg (by simp), h]
theorem patL_step {k : Nat} {c : Int} {l r : List Int} {x : El} (h : prt (c :: l) = some (x, r)) : patL (k + 1) (c :: l) = (patL k r).map (x :: ·) := by rw [patL, if_neg (by simp), h]
/-- What Parse answers. -/
def ParseAns (W : World) (s : ByteArray) (e : Ending) (W1 : World) : Prop :=
  Below W.heap.size W W1 ∧ (if 100 < s.size then e = .returned (.tuple #[.pointer none, .int .i64 2]) else match pat (bytesOf s) with
    | none => e = .returned (.tuple #[.pointer none, .int .i64 180])
    | some l => ∃ g, e = .returned (.tuple #[.pointer (some ⟨g, 0, none⟩), .int .i64 0]) ∧ GlAt W1 g s l)
theorem okEl_of {el : El} {f : List Bool} {y : Int} (hy : y = elC el) (hf : f = elF el) (hl : f.length = 256) (hc : 0 ≤ y ∧ y < 256) : OkEl el := ⟨by rw [← hf]; exact hl, by rw [← hy]; exact hc.1, by rw [← hy]; exact hc.2⟩
theorem prt_byte {r : List Int} {x : El} {r' : List Int} (hb : ∀ y ∈ r, 0 ≤ y ∧ y < 256) (h : prt r = some (x, r')) : 0 ≤ elC x ∧ elC x < 256 := by
  cases r with
  | nil => cases h
  | cons c l =>
    simp only [prt] at h
    split at h
    · cases h; exact ⟨by decide, by decide⟩
    split at h
    · cases h; exact ⟨by decide, by decide⟩
    split at h
    · simp only [Option.map_eq_some_iff] at h
      obtain ⟨p, hp, e⟩ := h
      cases e
      exact ⟨show (0 : Int) ≤ 0 by decide, show (0 : Int) < 256 by decide⟩
    split at h
    · cases h
    split at h
    · split at h
      · cases l with
        | nil => simp [nxt] at *
        | cons d l =>
          simp only [nxt] at h
          cases h
          exact hb d (by simp)
      · cases h
    · cases h
      exact hb c (by simp)
set_option maxHeartbeats 16000000 in
set_option maxRecDepth 100000 in
theorem parse31_calls (s : ByteArray) (W : World) (hs : s.size ≤ 1000000) : Calls Try.prog 9 #[.string s] W fun e W1 => ParseAns W s e W1 := by
  have HSZ := Aside0.mk hs
  by_cases hl : (100 : Int) < (s.size : Int)
  · have d1 : decide ((100 : Int) < (s.size : Int)) = true := decide_eq_true hl
    have d2 : decide (100 < s.size) = true := decide_eq_true (by omega)
    have HL := Aside0.mk (show 100 < s.size by omega)
    clear hl hs
    go_enter Try.func9, Try.ntmps9
    go_wp2
    go_ret2
    exact ⟨Below.refl _ _, by rw [if_pos HL.out]; rfl⟩
  · have d1 : decide ((100 : Int) < (s.size : Int)) = false := decide_eq_false hl
    have d2 : decide (100 < s.size) = false := decide_eq_false (by omega)
    have HL := Aside0.mk (show ¬ 100 < s.size by omega)
    have HLI := Aside0.mk (show s.size ≤ 100 by omega)
    clear hl hs
    have hp0 := blk_alloc (blk_new W (.cells #[.string s, .int .i64 0] 43)) (.cells #[.string s, .slice none 0 0] 46)
    have hg0 := blk_new (W.alloc (.cells #[.string s, .int .i64 0] 43)) (.cells #[.string s, .slice none 0 0] 46)
    rw [← size_one] at hg0
    have HP0 := Aside0.mk (show PsAt W.heap.size W.heap.size ((W.alloc (.cells #[.string s, .int .i64 0] 43)).alloc (.cells #[.string s, .slice none 0 0] 46)) s (bytesOf s) 0 from ⟨hp0, Nat.le_refl _, Nat.zero_le _, HSZ.out, by rw [List.drop_zero]⟩)
    have HG0 := Aside0.mk hg0
    have HB0 := Aside0.mk (below_alloc (below_alloc (Below.refl W.heap.size W) (.cells #[.string s, .int .i64 0] 43)) (.cells #[.string s, .slice none 0 0] 46))
    clear hp0 hg0
    have hz := zeroP
    have hsz0 : (cellsP 0 0 zeroF).size = 258 := cellsP_size zeroF_length
    go_enter Try.func9, Try.ntmps9
    go_wp2
    generalize (W.alloc (.cells #[.string s, .int .i64 0] 43)).alloc (.cells #[.string s, .slice none 0 0] 46) = w0 at HP0 HG0 HB0 ⊢
    go_loopg [] ((bytesOf s).length) (fun kq w' => ∃ (k : Nat) (r : List Int) (a : Nat) (xs : List El) (v : Value), Aside0 (kq = r.length ∧ r.length < k ∧ xs.length + r.length ≤ s.size) ∧ Aside0 (pat (bytesOf s) = (patL k r).map (xs ++ ·)) ∧ Aside0 (PsAt W.heap.size W.heap.size w' s r a) ∧ Aside0 (w'.heap[W.heap.size + 1]? = some (.cells #[.string s, v] 46 (0, 0))) ∧ Aside0 (Kd.R kEl 49 w' W.heap.size (fun _ => True) v xs) ∧ Aside0 (∀ x ∈ xs, OkEl x) ∧ Aside0 (Below W.heap.size W w'))
    case atStart => exact ⟨(bytesOf s).length + 1, bytesOf s, 0, [], .slice none 0 0, ⟨rfl, by omega, by rw [bytesOf_length]; simp⟩, ⟨by simp [pat]⟩, HP0, HG0, ⟨Kd.R_nil _ _ _ _ _⟩, ⟨fun x hx => by simp at hx⟩, HB0⟩
    case round =>
      obtain ⟨k, r, a, xs, v, HQ, HE, HP, HG, HR, HO, HB⟩ := hrel
      obtain ⟨k, rfl⟩ : ∃ k', k = k' + 1 := ⟨k - 1, by have := HQ.out; omega⟩
      have c1 := HP.out.c1
      have hlen := HP.out.len
      cases r with
      | nil =>
        have e1 : decide ((a : Int) < (s.size : Int)) = false := decide_eq_false (by simp at hlen; omega)
        have e2 : decide (a < s.size) = false := decide_eq_false (by simp at hlen; omega)
        have HPA := Aside0.mk (show pat (bytesOf s) = some xs by rw [HE.out, patL_nil]; simp)
        clear hlen
        go_wp2
        go_ret2
        refine ⟨HB.out, ?_⟩
        rw [if_neg HL.out, HPA.out]
        obtain ⟨A, n, hv, hn, hC⟩ := Kd.R_reads HR.out
        subst hv
        exact ⟨_, rfl, A, n, HG.out, hC, hn, HO.out, by have := HQ.out; have := HLI.out; omega⟩
      | cons c l =>
        have e1 : decide ((a : Int) < (s.size : Int)) = true := decide_eq_true (by simp at hlen; omega)
        have e2 : decide (a < s.size) = true := decide_eq_true (by simp at hlen; omega)
        clear hlen
        cases hprt : prt (c :: l) with
        | none =>
          have HPR := Aside0.mk hprt
          have HPA := Aside0.mk (show pat (bytesOf s) = none by rw [HE.out, patL_bad hprt]; rfl)
          clear hprt
          go_wp2_with (go_at_call 21; refine (part31_calls W.heap.size W.heap.size _ s c l a HP.out).mono ?_; rintro e w5 ⟨x, y, f, b, rfl, hfl, ⟨r', a', hp, hor⟩, hf⟩; obtain rfl : b = false := (by (rcases hor with ⟨h, _⟩ | ⟨_, _, _, _, _, h⟩); (exact h); (rw [HPR.out] at h; cases h)); have hsz1 : (cellsP x y f).size = 258 := cellsP_size hfl; have hst0 : (storeCells ⟨w5.heap.size, 0, none⟩ (cellsP x y f).toList).run Try.prog (w5.alloc (.cells (cellsP 0 0 zeroF) 49)) = .ok () (w5.alloc (.cells (cellsP x y f) 49)) := (store_row (blk_new _ _) (hsz1.trans hsz0.symm) cellsP_one).trans (congrArg (Result.ok ()) (World.setRow_alloc_new _ _ _ _)); have HB7 := Aside0.mk (below_alloc (HB.out.trans (hf.below HB.out.size)) (.cells (cellsP x y f) 49)); clear hp hf hfl)
          go_ret2
          refine ⟨HB7.out, ?_⟩
          rw [if_neg HL.out, HPA.out]
          rfl
        | some p =>
          obtain ⟨el, l0⟩ := p
          have HPR := Aside0.mk hprt
          have HPA := Aside0.mk (show pat (bytesOf s) = (patL k l0).map ((xs ++ [el]) ++ ·) by rw [HE.out, patL_step hprt, Option.map_map]; congr 1; funext z; simp)
          have HLN := Aside0.mk (prt_len hprt)
          have HOE := Aside0.mk (prt_byte HP.out.bytes hprt)
          clear hprt
          go_upto_region 9 with (go_at_call 21; refine (part31_calls W.heap.size W.heap.size _ s c l a HP.out).mono ?_; rintro e w5 ⟨x, y, f, b, rfl, hfl, ⟨r', a', hp, hor⟩, hf⟩; obtain ⟨rfl, rfl, rfl, rfl, rfl⟩ : b = true ∧ x = elK el ∧ y = elC el ∧ f = elF el ∧ l0 = r' := (by (rcases hor with ⟨_, h⟩ | ⟨h1, el', h2, h3, h4, h⟩); (rw [HPR.out] at h; cases h); (rw [HPR.out] at h; cases h; exact ⟨h1, h2, h3, h4, rfl⟩)); have hsz1 : (cellsE el).size = 258 := cellsP_size hfl; have hst0 : (storeCells ⟨w5.heap.size, 0, none⟩ (cellsE el).toList).run Try.prog (w5.alloc (.cells (cellsP 0 0 zeroF) 49)) = .ok () (w5.alloc (.cells (cellsE el) 49)) := (store_row (blk_new _ _) (hsz1.trans hsz0.symm) cellsP_one).trans (congrArg (Result.ok ()) (World.setRow_alloc_new _ _ _ _)); have HFL := Aside0.mk hfl; have HP5 := Aside0.mk hp; have HG5 := Aside0.mk (hf.blk HG.out (by decide)); have HR5 := Aside0.mk (hf.R HR.out (by simp [kEl])); have HB5 := Aside0.mk (HB.out.trans (hf.below HB.out.size)); clear hp hf hfl)
          clear hst0 c1 e1 e2
          have HX7 := Aside0.mk (blk_new w5 (.cells (cellsE el) 49))
          have HP7 := Aside0.mk (HP5.out.below (below_alloc (Below.refl _ _) (.cells (cellsE el) 49)))
          have HG7 := Aside0.mk (blk_alloc HG5.out (.cells (cellsE el) 49))
          have HR7 := Aside0.mk (Kd.R_alloc (Kd.R_mono (Kd.R_bound HR5.out) (ok' := fun k => k ≠ w5.heap.size) (fun k hk => Nat.ne_of_lt hk.2.2.1)) (.cells (cellsE el) 49))
          have HB7 := Aside0.mk (below_alloc HB5.out (.cells (cellsE el) 49))
          generalize w5.alloc (.cells (cellsE el) 49) = w7 at HX7 HP7 HG7 HR7 HB7 ⊢
          generalize w5.heap.size = gx at HX7 HR7 ⊢
          have HX8 := Aside0.mk (show w7.drew.heap[gx]? = some (.cells (cellsE el) 49 (0, 0)) from HX7.out)
          have HP8 := Aside0.mk (show PsAt W.heap.size W.heap.size w7.drew s l0 a' from ⟨HP7.out.blk, HP7.out.le, HP7.out.ha, HP7.out.hs, HP7.out.hr⟩)
          have HG8 := Aside0.mk (show w7.drew.heap[W.heap.size + 1]? = some (.cells #[.string s, v] 46 (0, 0)) from HG7.out)
          have HR8 := Aside0.mk (Kd.R_below HR7.out (below_drew (Below.refl _ _)))
          have HB8 := Aside0.mk (below_drew HB7.out)
          have hRA := rangeE HX8.out
          refine wp_region_held_drew (S := fun w' => w'.rangeAt gx 0 (cellsE el).toList) (by kernel_rfl) hRA (fun hHeld => ?_)
          generalize w7.drew = w8 at HX8 HP8 HG8 HR8 HB8 hRA hHeld ⊢
          refine takeH (i := 0) (v := .pointer (some ⟨W.heap.size + 1, 0, none⟩)) rfl (by kernel_rfl) (by kernel_rfl) (by kernel_rfl) (fun _ _ _ h => h) (by rfl) (fun w => rfl) hHeld ?_
          simp only [Act.put, List.setIfInBounds_toArray, List.set_cons_zero, List.set_cons_succ]
          refine takeH (i := 1) (v := .pointer (some ⟨W.heap.size + 1, 0, none⟩)) rfl (by kernel_rfl) (by kernel_rfl) (by kernel_rfl) (fun _ _ _ h => h) (by rfl) (fun w => rfl) hHeld ?_
          simp only [Act.put, List.setIfInBounds_toArray, List.set_cons_zero, List.set_cons_succ]
          refine takeH (i := 2) (v := .pointer (some ⟨W.heap.size + 1, 0, none⟩)) rfl (by kernel_rfl) (by kernel_rfl) (by kernel_rfl) (fun _ _ _ h => h) (by rfl) (fun w => by go_simp) hHeld ?_
          simp only [Act.put, List.setIfInBounds_toArray, List.set_cons_zero, List.set_cons_succ]
          refine takeH (i := 3) (v := .pointer (some ⟨W.heap.size + 1, 1, none⟩)) rfl (by kernel_rfl) (by kernel_rfl) (by kernel_rfl) (fun _ _ _ h => h) (by rfl) (fun w => by go_simp) hHeld ?_
          simp only [Act.put, List.setIfInBounds_toArray, List.set_cons_zero, List.set_cons_succ]
          refine wpAnyH_take (i := 5) (v := .agg (cellsE el).toList.toArray) rfl (by kernel_rfl) (by kernel_rfl) (by kernel_rfl) (fun _ _ _ h => h) (yieldsIf_load_mid (by rfl) 49 (.tmp 6) rfl gx 0 rfl (cellsE el).toList _ (fun w h => h) Try.underlying49 rfl (by rw [Array.length_toList, cellsP_size HFL.out]; exact sizeP)) hHeld ?_
          simp only [Act.put, List.setIfInBounds_toArray, List.set_cons_zero, List.set_cons_succ, Array.toArray_toList]
          have hg1 : w8.cell? ⟨W.heap.size + 1, 1, none⟩ = some v := (blk_cell HG8.out 1).trans rfl
          refine wpAnyH_ready (rs := [4, 6]) (by kernel_rfl) (by simp) (AllReadyH.cons rfl (fun K hK => ?_) (AllReadyH.cons rfl (fun K hK => ?_) AllReadyH.nil))
          · go_simp
            refine hK.out _ _ (hHeld) (fun hHeld => ?_)
            clear hK K
            try simp only [Act.put, List.setIfInBounds_toArray, List.set_cons_zero, List.set_cons_succ]
            refine wpAnyH_ready (rs := [6]) (by kernel_rfl) (by simp) (AllReadyH.cons rfl (fun K hK => ?_) AllReadyH.nil)
            rw [if_pos (by rfl)]
            refine wp_build1 44 49 258 (.tmp 36) rfl _ (cellsE el) Try.underlying44 zeroP_info (by decide) rfl (cellsP_size HFL.out) ?_
            refine hK.out _ _ (rangeE (blk_alloc HX8.out _)) (fun hHeld => ?_)
            clear hK K
            try simp only [Act.put, List.setIfInBounds_toArray, List.set_cons_zero, List.set_cons_succ]
            refine wpAnyH_ready (rs := [7]) (by kernel_rfl) (by simp) (AllReadyH.cons rfl (fun K hK => ?_) AllReadyH.nil)
            refine Kd.R_append_step kEl (w0 := W) W.heap.size (by rfl) (.tmp 35) (.tmp 37) 44 49 (.agg (cellsP 0 0 zeroF)) 272 rfl Try.underlying44 (by kernel_rfl) (cellsP_size zeroF_length) (by decide) (by decide) v xs el (cellsE el).toList (fun k => k ≠ gx) (fun _ => False) rfl rfl ⟨HFL.out, rfl⟩ (fun _ hk => hk.elim) (fun k hk => by have := blk_lt HX8.out; omega) HR8.out HB8.out HB8.out.size (by have := HQ.out; have := HLI.out; omega) ?_
            intro v1 w9 ho hb hgr hat
            obtain ⟨Ax, nx, cx, hvx⟩ := R_slice' ho
            subst hvx
            have hF9 := (show Fr W.heap.size [49] w8 w9 by obtain ⟨inner, h⟩ := Kd.R_own HR8.out; exact Fr.of_grown h (Nat.le_refl _) hgr (by simp))
            have hx9 := blk_grown HX8.out hgr (fun e => HR8.out.1 _ e.symm rfl)
            refine hK.out _ _ (rangeE hx9) (fun hHeld => ?_)
            clear hK K
            try simp only [Act.put, List.setIfInBounds_toArray, List.set_cons_zero, List.set_cons_succ]
            have hg9 := hF9.blk HG8.out (by decide)
            have z9 := blk_frozen hg9 1
            have c9 : w9.cell? ⟨W.heap.size + 1, 1, none⟩ = some v := (blk_cell hg9 1).trans rfl
            refine takeH (i := 8) (v := .pointer (some ⟨W.heap.size + 1, 0, none⟩)) rfl (by kernel_rfl) (by kernel_rfl) (by kernel_rfl) (fun _ _ _ h => h) (by rfl) (fun w => by go_simp) hHeld ?_
            simp only [Act.put, List.setIfInBounds_toArray, List.set_cons_zero, List.set_cons_succ]
            refine takeH (i := 9) (v := .pointer (some ⟨W.heap.size + 1, 1, none⟩)) rfl (by kernel_rfl) (by kernel_rfl) (by kernel_rfl) (fun _ _ _ h => h) (by rfl) (fun w => by go_simp) hHeld ?_
            simp only [Act.put, List.setIfInBounds_toArray, List.set_cons_zero, List.set_cons_succ]
            refine wpAnyH_ready (rs := [10]) (by kernel_rfl) (by simp) (AllReadyH.cons rfl (fun K hK => ?_) AllReadyH.nil)
            go_simp
            refine hK.out _ _ (rangeE (blk_far hx9 (p := ⟨W.heap.size + 1, 1, none⟩) (show gx ≠ W.heap.size + 1 from fun e => by rw [e] at hx9; rw [hx9] at hg9; simp at hg9) (.slice Ax nx cx))) (fun hHeld => ?_)
            clear hK K
            try simp only [Act.put, List.setIfInBounds_toArray, List.set_cons_zero, List.set_cons_succ]
            refine wpAnyH_done (by kernel_rfl) ?_ _
            have HP9 := Aside0.mk (((HP8.out.fr hF9 (by decide))).cell (show W.heap.size ≠ W.heap.size + 1 by omega) 1 (.slice Ax nx cx))
            have HG9 := Aside0.mk (show (w9.setCell ⟨W.heap.size + 1, 1, none⟩ (.slice Ax nx cx)).heap[W.heap.size + 1]? = some (.cells #[.string s, .slice Ax nx cx] 46 (0, 0)) from blk_set hg9 1 (.slice Ax nx cx))
            have HR9 := Aside0.mk (Kd.R_mono (Kd.R_set ho hg9 (fun q hq e => by simp [kEl] at hq; rw [hq] at e; exact absurd e (by decide)) 1 (.slice Ax nx cx)) (ok' := fun _ => True) (fun _ _ => trivial))
            have HB9 := Aside0.mk (below_set (j := 1) (v := .slice Ax nx cx) hb (show W.heap.size ≤ W.heap.size + 1 by omega))
            clear c9 z9 hg9 hx9 hF9 ho hb hgr hat hHeld
            go_wp2
            go_roundg l0.length
            case measure => have := HQ.out; have := HLN.out; simp only [List.length_cons] at this; simp only [List.length_cons] at *; omega
            case rel => exact ⟨k, l0, a', xs ++ [el], (.slice Ax nx cx), ⟨rfl, by have := HQ.out; have := HLN.out; simp only [List.length_cons] at *; omega, by have := HQ.out; have := HLN.out; simp only [List.length_append, List.length_cons, List.length_nil] at *; omega⟩, HPA, HP9, HG9, HR9, ⟨fun x hx => by
              rcases List.mem_append.1 hx with h | h
              · exact HO.out x h
              · simp only [List.mem_cons, List.not_mem_nil, or_false] at h; subst h; exact ⟨HFL.out, HOE.out.1, HOE.out.2⟩⟩, HB9⟩
          · rw [if_pos (by rfl)]
            refine wp_build1 44 49 258 (.tmp 36) rfl _ (cellsE el) Try.underlying44 zeroP_info (by decide) rfl (cellsP_size HFL.out) ?_
            refine hK.out _ _ (rangeE (blk_alloc HX8.out _)) (fun hHeld => ?_)
            clear hK K
            try simp only [Act.put, List.setIfInBounds_toArray, List.set_cons_zero, List.set_cons_succ]
            have hg2 : (w8.alloc (.cells (cellsE el) 49)).cell? ⟨W.heap.size + 1, 1, none⟩ = some v := (blk_cell (blk_alloc HG8.out _) 1).trans rfl
            refine wpAnyH_ready (rs := [4]) (by kernel_rfl) (by simp) (AllReadyH.cons rfl (fun K hK => ?_) AllReadyH.nil)
            go_simp
            refine hK.out _ _ (hHeld) (fun hHeld => ?_)
            clear hK K
            try simp only [Act.put, List.setIfInBounds_toArray, List.set_cons_zero, List.set_cons_succ]
            refine wpAnyH_ready (rs := [7]) (by kernel_rfl) (by simp) (AllReadyH.cons rfl (fun K hK => ?_) AllReadyH.nil)
            refine Kd.R_append_step kEl (w0 := W) W.heap.size (by rfl) (.tmp 35) (.tmp 37) 44 49 (.agg (cellsP 0 0 zeroF)) 272 rfl Try.underlying44 (by kernel_rfl) (cellsP_size zeroF_length) (by decide) (by decide) v xs el (cellsE el).toList (fun k => k ≠ gx) (fun _ => False) rfl rfl ⟨HFL.out, rfl⟩ (fun _ hk => hk.elim) (fun k hk => by have := blk_lt HX8.out; omega) HR8.out HB8.out HB8.out.size (by have := HQ.out; have := HLI.out; omega) ?_
            intro v1 w9 ho hb hgr hat
            obtain ⟨Ax, nx, cx, hvx⟩ := R_slice' ho
            subst hvx
            have hF9 := (show Fr W.heap.size [49] w8 w9 by obtain ⟨inner, h⟩ := Kd.R_own HR8.out; exact Fr.of_grown h (Nat.le_refl _) hgr (by simp))
            have hx9 := blk_grown HX8.out hgr (fun e => HR8.out.1 _ e.symm rfl)
            refine hK.out _ _ (rangeE hx9) (fun hHeld => ?_)
            clear hK K
            try simp only [Act.put, List.setIfInBounds_toArray, List.set_cons_zero, List.set_cons_succ]
            have hg9 := hF9.blk HG8.out (by decide)
            have z9 := blk_frozen hg9 1
            have c9 : w9.cell? ⟨W.heap.size + 1, 1, none⟩ = some v := (blk_cell hg9 1).trans rfl
            refine takeH (i := 8) (v := .pointer (some ⟨W.heap.size + 1, 0, none⟩)) rfl (by kernel_rfl) (by kernel_rfl) (by kernel_rfl) (fun _ _ _ h => h) (by rfl) (fun w => by go_simp) hHeld ?_
            simp only [Act.put, List.setIfInBounds_toArray, List.set_cons_zero, List.set_cons_succ]
            refine takeH (i := 9) (v := .pointer (some ⟨W.heap.size + 1, 1, none⟩)) rfl (by kernel_rfl) (by kernel_rfl) (by kernel_rfl) (fun _ _ _ h => h) (by rfl) (fun w => by go_simp) hHeld ?_
            simp only [Act.put, List.setIfInBounds_toArray, List.set_cons_zero, List.set_cons_succ]
            refine wpAnyH_ready (rs := [10]) (by kernel_rfl) (by simp) (AllReadyH.cons rfl (fun K hK => ?_) AllReadyH.nil)
            go_simp
            refine hK.out _ _ (rangeE (blk_far hx9 (p := ⟨W.heap.size + 1, 1, none⟩) (show gx ≠ W.heap.size + 1 from fun e => by rw [e] at hx9; rw [hx9] at hg9; simp at hg9) (.slice Ax nx cx))) (fun hHeld => ?_)
            clear hK K
            try simp only [Act.put, List.setIfInBounds_toArray, List.set_cons_zero, List.set_cons_succ]
            refine wpAnyH_done (by kernel_rfl) ?_ _
            have HP9 := Aside0.mk (((HP8.out.fr hF9 (by decide))).cell (show W.heap.size ≠ W.heap.size + 1 by omega) 1 (.slice Ax nx cx))
            have HG9 := Aside0.mk (show (w9.setCell ⟨W.heap.size + 1, 1, none⟩ (.slice Ax nx cx)).heap[W.heap.size + 1]? = some (.cells #[.string s, .slice Ax nx cx] 46 (0, 0)) from blk_set hg9 1 (.slice Ax nx cx))
            have HR9 := Aside0.mk (Kd.R_mono (Kd.R_set ho hg9 (fun q hq e => by simp [kEl] at hq; rw [hq] at e; exact absurd e (by decide)) 1 (.slice Ax nx cx)) (ok' := fun _ => True) (fun _ _ => trivial))
            have HB9 := Aside0.mk (below_set (j := 1) (v := .slice Ax nx cx) hb (show W.heap.size ≤ W.heap.size + 1 by omega))
            clear c9 z9 hg9 hx9 hF9 ho hb hgr hat hHeld
            go_wp2
            go_roundg l0.length
            case measure => have := HQ.out; have := HLN.out; simp only [List.length_cons] at this; simp only [List.length_cons] at *; omega
            case rel => exact ⟨k, l0, a', xs ++ [el], (.slice Ax nx cx), ⟨rfl, by have := HQ.out; have := HLN.out; simp only [List.length_cons] at *; omega, by have := HQ.out; have := HLN.out; simp only [List.length_append, List.length_cons, List.length_nil] at *; omega⟩, HPA, HP9, HG9, HR9, ⟨fun x hx => by
              rcases List.mem_append.1 hx with h | h
              · exact HO.out x h
              · simp only [List.mem_cons, List.not_mem_nil, or_false] at h; subst h; exact ⟨HFL.out, HOE.out.1, HOE.out.2⟩⟩, HB9⟩
end Go.Proofs.Ytbnlfiklkddolaa.Sep
