/- A part of a pattern in memory; the walk of the parser's class. Printed by gen3.py. Conditions: the bounds of the statements. -/
import Derived.Test.YtbnlfiklkddolaaG2
namespace Go.Proofs.Ytbnlfiklkddolaa.Sep
set_option linter.unusedSimpArgs false
set_option linter.unusedVariables false
open Go.RowKit Go.Proofs.Ytbnlfiklkddolaa.PCore Go.Proofs.Ytbnlfiklkddolaa.Plain Go.Proofs.YtbnlfiklkddolaaW.PrintWords Go.Proofs.YtbnlfiklkddolaaW.PrintLast Go.Proofs.YtbnlfiklkddolaaW.PrintMore
/-- A part's cells. -/
def cellsP (k c : Int) (f : List Bool) : Array Value := (Value.int .i64 k :: Value.int .u8 c :: f.map Value.bool).toArray
theorem zeroP_info : (Try.prog.info? 49).map (fun i => (i.zero, i.size)) = some (some (.agg (cellsP 0 0 zeroF)), 258) := by kernel_rfl
theorem zeroP (w : World) : (zeroValue 49).run Try.prog w = .ok (.agg (cellsP 0 0 zeroF)) w := (zero_of_info zeroP_info).1 w
theorem sizeP : (Try.prog.info? 49).map (·.size) = some 258 := (zero_of_info zeroP_info).2
theorem zeroF_length : zeroF.length = 256 := List.length_replicate
section
variable {P : Program} {k c : Int} {f : List Bool}
theorem cellsP_size (hf : f.length = 256) : (cellsP k c f).size = 258 := by simp [cellsP, hf]
theorem cellsP_get (i : Nat) (hi : i < f.length) : (cellsP k c f)[2 + i]? = some (.bool (f.getD i false)) := by
  rw [cellsP, List.getElem?_toArray, show 2 + i = i + 1 + 1 by omega, List.getElem?_cons_succ, List.getElem?_cons_succ, List.getElem?_map, List.getElem?_eq_getElem hi]
  simp [List.getD, List.getElem?_eq_getElem hi]
theorem cellsP_set (i : Nat) (v : Bool) : (cellsP k c f).setIfInBounds (2 + i) (.bool v) = cellsP k c (f.set i v) := by
  unfold cellsP
  rw [List.setIfInBounds_toArray, show 2 + i = i + 1 + 1 by omega, List.set_cons_succ, List.set_cons_succ, List.map_set]
theorem cellsP_set0 (v : Int) : (cellsP k c f).setIfInBounds 0 (.int .i64 v) = cellsP v c f := by
  unfold cellsP
  rw [List.setIfInBounds_toArray, List.set_cons_zero]
theorem cellsP_set0L (v : Int) : (cellsP k c f).toList.set 0 (.int .i64 v) = (cellsP v c f).toList := by
  unfold cellsP
  rfl
theorem cellsP_set1 (v : Int) : (cellsP k c f).setIfInBounds 1 (.int .u8 v) = cellsP k v f := by
  unfold cellsP
  rw [List.setIfInBounds_toArray, List.set_cons_succ, List.set_cons_zero]
theorem cellsP_set1L (v : Int) : (cellsP k c f).toList.set 1 (.int .u8 v) = (cellsP k v f).toList := by
  unfold cellsP
  rfl
theorem cellsP_one : ∀ v ∈ (cellsP k c f).toList, v.oneCell' = true := by
  intro v hv
  simp only [cellsP, List.mem_cons, List.mem_map] at hv
  rcases hv with rfl | rfl | ⟨b, _, rfl⟩ <;> rfl
theorem store_row {w : World} {g : Nat} {old cs : Array Value} {t : TypeId} (hg : w.heap[g]? = some (.cells old t (0, 0))) (hl : cs.size = old.size) (h1 : ∀ v ∈ cs.toList, v.oneCell' = true) :
    (storeCells ⟨g, 0, none⟩ cs.toList).run P w = .ok () (w.setRow g cs) := by
  have := run_storeCells_from (P := P) g t cs.toList 0 old w hg (by simpa using hl) h1
  simpa using this
theorem load_row {w : World} {g n : Nat} {cs : Array Value} {t : TypeId} (hg : w.heap[g]? = some (.cells cs t (0, 0))) (hn : cs.size = n) :
    (loadCellsFrom ⟨g, 0, none⟩ 0 n #[]).run P w = .ok cs w := by
  subst hn
  have := run_loadCells_list (P := P) (w := w) ⟨g, 0, none⟩ cs.toList (fun j v hv => by
    rw [add_plain, cell_of_row _ _ j cs t (0, 0) hg]
    simpa using hv)
  simpa [loadCells] using this
theorem cellsP_at {w : World} {g : Nat} (h : w.heap[g]? = some (.cells (cellsP k c f) 49 (0, 0))) (i : Nat) (hi : i < f.length) : w.cell? ⟨g, 2 + i, none⟩ = some (.bool (f.getD i false)) := (blk_cell h (2 + i)).trans (cellsP_get i hi)
theorem Fr.fresh {B : Nat} {T : List Nat} {W W1 : World} (h : Fr B T W W1) {g : Nat} (hg : W.heap.size ≤ g) (j : Nat) (u : Value) : Fr B T W (W1.setCell ⟨g, j, none⟩ u) :=
  ⟨h.os, h.tape, h.output, by simpa [World.setCell] using h.size, fun k hk hT => by
    rw [Below.heap_setCell _ _ _ _ (show k ≠ g by omega)]
    exact h.block k hk hT⟩
theorem Fr.row {B : Nat} {T : List Nat} {W W1 : World} (h : Fr B T W W1) {g : Nat} (hg : W.heap.size ≤ g) (cs : Array Value) : Fr B T W (W1.setRow g cs) :=
  ⟨h.os, h.tape, h.output, by simpa using h.size, fun k hk hT => by
    rw [setRow_other _ _ _ _ (show k ≠ g by omega)]
    exact h.block k hk hT⟩
theorem PsAt.row {B g : Nat} {W : World} {s : ByteArray} {r : List Int} {a : Nat} (h : PsAt B g W s r a) {g' : Nat} (hg : g ≠ g') (cs : Array Value) : PsAt B g (W.setRow g' cs) s r a :=
  ⟨(setRow_other _ _ _ _ hg).trans h.blk, h.le, h.ha, h.hs, h.hr⟩
end
/-- What class answers. -/
def ClsAns (B g : Nat) (W : World) (s : ByteArray) (res : Option (List Bool × List Int)) (e : Ending) (W1 : World) : Prop :=
  ∃ x y f b, e = .returned (.tuple #[.agg (cellsP x y f), .bool b]) ∧ f.length = 256 ∧ (∃ r' a', PsAt B g W1 s r' a' ∧ ((b = false ∧ res = none) ∨ (b = true ∧ x = 4 ∧ y = 0 ∧ res = some (f, r')))) ∧ Fr B [43] W W1
theorem dash_no {r : List Int} (h : r.head? ≠ some 45) : dash r = false := by
  rcases r with _ | ⟨c, _ | ⟨d, r⟩⟩
  · rfl
  · rfl
  · have : (c == 45) = false := beq_eq_false_iff_ne.mpr (by simpa using h)
    simp [dash, this]
theorem dash_at {s : ByteArray} {r : List Int} {a : Nat} (hr : r = (bytesOf s).drop a) (h : r.head? = some 45) : dash r = (decide (a + 1 < s.size) && bt s ((a + 1 : Nat) : Int) != 93) := by
  by_cases h1 : a + 1 < s.size
  · rw [bytes_drop s a (by omega), bytes_drop s (a + 1) h1] at hr
    rw [hr] at h ⊢
    simp only [List.head?_cons, Option.some.injEq] at h
    simp [dash, h, h1]
  · have : r = [] ∨ ∃ c, r = [c] := by
      by_cases h2 : a < s.size
      · rw [bytes_drop s a h2, bytes_done s (a + 1) (by omega)] at hr
        exact .inr ⟨_, hr⟩
      · rw [bytes_done s a (by omega)] at hr
        exact .inl hr
    rw [decide_eq_false h1, Bool.false_and]
    rcases this with rfl | ⟨c, rfl⟩ <;> rfl
theorem clsL_end {nt : Bool} {k n : Nat} {f : List Bool} {r : List Int} (h : r.head? = some 93) : clsL nt (k + 1) f n r = if n = 0 then none else some (if nt = true then f.map (!·) else f, r.tail) := by rw [clsL, if_pos h]
theorem clsL_bad {nt : Bool} {k n : Nat} {f : List Bool} {r : List Int} (h : r.head? ≠ some 93) (h2 : (pln r).1.2 = false) : clsL nt (k + 1) f n r = none := by rw [clsL, if_neg h, if_pos h2]
theorem clsL_one {nt : Bool} {k n : Nat} {f : List Bool} {r : List Int} (h : r.head? ≠ some 93) (h2 : (pln r).1.2 = true) (h3 : dash (pln r).2 = false) : clsL nt (k + 1) f n r = clsL nt k (setUp f (pln r).1.1.toNat 1) (n + 1) (pln r).2 := by
  rw [clsL, if_neg h, if_neg (by simp [h2]), if_neg (by simp [h3])]
theorem clsL_bad2 {nt : Bool} {k n : Nat} {f : List Bool} {r : List Int} (h : r.head? ≠ some 93) (h2 : (pln r).1.2 = true) (h3 : dash (pln r).2 = true) (h4 : (pln (pln r).2.tail).1.2 = false ∨ (pln (pln r).2.tail).1.1 < (pln r).1.1) : clsL nt (k + 1) f n r = none := by
  rw [clsL, if_neg h, if_neg (by simp [h2]), if_pos h3, if_pos h4]
theorem clsL_two {nt : Bool} {k n : Nat} {f : List Bool} {r : List Int} (h : r.head? ≠ some 93) (h2 : (pln r).1.2 = true) (h3 : dash (pln r).2 = true) (h4 : ¬ ((pln (pln r).2.tail).1.2 = false ∨ (pln (pln r).2.tail).1.1 < (pln r).1.1)) : clsL nt (k + 1) f n r = clsL nt k (setUp f (pln r).1.1.toNat ((pln (pln r).2.tail).1.1 - (pln r).1.1 + 1).toNat) (n + 1) (pln (pln r).2.tail).2 := by
  rw [clsL, if_neg h, if_neg (by simp [h2]), if_pos h3, if_neg h4]
theorem PsAt.len {B g : Nat} {W : World} {s : ByteArray} {r : List Int} {a : Nat} (h : PsAt B g W s r a) : r.length + a = s.size ∧ s.size ≤ 1000000 := ⟨by rw [h.hr, List.length_drop, bytesOf_length]; have := h.ha; omega, h.hs⟩
theorem PsAt.bytes {B g : Nat} {W : World} {s : ByteArray} {r : List Int} {a : Nat} (h : PsAt B g W s r a) : ∀ x ∈ r, 0 ≤ x ∧ x < 256 := fun x hx => by
  rw [h.hr] at hx
  have := List.mem_of_mem_drop hx
  simp only [bytesOf, List.mem_map] at this
  obtain ⟨b, _, rfl⟩ := this
  have := b.toNat_lt
  omega
theorem PsAt.more {B g : Nat} {W : World} {s : ByteArray} {r : List Int} {a : Nat} (h : PsAt B g W s r a) {c : Int} (hc : r.head? = some c) : a < s.size := by
  have := h.len
  rcases r with _ | ⟨d, r⟩
  · cases hc
  · simp only [List.length_cons] at this; omega
theorem zero_back {w : World} {g : Nat} (h : w.heap[g]? = some (.cells (cellsP 0 0 zeroF) 49 (0, 0))) : (storeCells ⟨g, 0, none⟩ (cellsP 0 0 zeroF).toList).run Try.prog w = .ok () (w.setRow g (cellsP 0 0 zeroF)) := store_row h rfl cellsP_one
theorem PsAt.cell {B g : Nat} {W : World} {s : ByteArray} {r : List Int} {a : Nat} (h : PsAt B g W s r a) {g' : Nat} (hg : g ≠ g') (j : Nat) (u : Value) : PsAt B g (W.setCell ⟨g', j, none⟩ u) s r a :=
  ⟨blk_far h.blk (p := ⟨g', j, none⟩) hg u, h.le, h.ha, h.hs, h.hr⟩
theorem cellsP_put {w : World} {g : Nat} {k c : Int} {f : List Bool} (h : w.heap[g]? = some (.cells (cellsP k c f) 49 (0, 0))) (i : Nat) (v : Bool) : (w.setCell ⟨g, 2 + i, none⟩ (.bool v)).heap[g]? = some (.cells (cellsP k c (f.set i v)) 49 (0, 0)) := by
  rw [blk_set h, cellsP_set]
set_option maxHeartbeats 16000000 in
set_option maxRecDepth 100000 in
theorem class31_calls (B g : Nat) (W : World) (s : ByteArray) (r : List Int) (a : Nat) (h : PsAt B g W s r a) :
    Calls Try.prog 26 #[.pointer (some ⟨g, 0, none⟩)] W fun e W1 => ClsAns B g W s (cls r) e W1 := by
  have hz := zeroP
  have hs0 := fun v => cellsP_set0 (k := 0) (c := 0) (f := zeroF) v
  have hs0L := fun v => cellsP_set0L (k := 0) (c := 0) (f := zeroF) v
  have hsz : (cellsP 4 0 zeroF).size = 258 := cellsP_size zeroF_length
  have hsz0 : (cellsP 0 0 zeroF).size = 258 := cellsP_size zeroF_length
  have huP := Aside0.mk Try.underlying49
  have hst : (storeCells ⟨W.heap.size + 1, 0, none⟩ (cellsP 4 0 zeroF).toList).run Try.prog ((W.alloc (.cells (cellsP 0 0 zeroF) 49)).alloc (.cells (cellsP 0 0 zeroF) 49)) = .ok () ((W.alloc (.cells (cellsP 0 0 zeroF) 49)).alloc (.cells (cellsP 4 0 zeroF) 49)) := by
    rw [size_one W (.cells (cellsP 0 0 zeroF) 49), store_row (blk_new _ _) (by rw [cellsP_size zeroF_length, cellsP_size zeroF_length]) cellsP_one, World.setRow_alloc_new]
  have HP2 := Aside0.mk ((h.below (below_alloc (Below.refl _ _) (.cells (cellsP 0 0 zeroF) 49))).below (below_alloc (Below.refl _ _) (.cells (cellsP 4 0 zeroF) 49)))
  have HR2 := Aside0.mk (blk_alloc (blk_new W (.cells (cellsP 0 0 zeroF) 49)) (.cells (cellsP 4 0 zeroF) 49))
  have HX2 := Aside0.mk (blk_new (W.alloc (.cells (cellsP 0 0 zeroF) 49)) (.cells (cellsP 4 0 zeroF) 49))
  have HF2 := Aside0.mk (((Fr.refl B [43] W).allocs (.cells (cellsP 0 0 zeroF) 49)).allocs (.cells (cellsP 4 0 zeroF) 49))
  have HGW := Aside0.mk (show g < W.heap.size from blk_lt h.blk)
  rw [← size_one] at HX2
  have HLEN := Aside0.mk h.len
  have HBY := Aside0.mk h.bytes
  generalize (W.alloc (.cells (cellsP 0 0 zeroF) 49)).alloc (.cells (cellsP 4 0 zeroF) 49) = w2 at HP2 HR2 HX2 HF2 hst
  clear h
  skip
  by_cases hn : r.head? = some 33
  · have hnd : decide (r.head? = some 33) = true := decide_eq_true hn
    go_enter Try.func26, Try.ntmps26
    have HMO := Aside0.mk (HP2.out.more hn)
    have hw0 : wrap64 ((a : Int) + 1) = (a : Int) + 1 := by have := HLEN.out; have := HMO.out; unfold wrap64; omega
    go_wp2_with (go_at_call 29; refine (see31_calls B g _ s r a 33 HP2.out).mono ?_; rw [hnd]; rintro e w3 ⟨rfl, hb⟩; have HP3 := Aside0.mk (HP2.out.below hb); have HR3 := Aside0.mk (blk_below HR2.out hb); have HX3 := Aside0.mk (blk_below HX2.out hb); have HF3 := Aside0.mk (HF2.out.trans (Fr.of_below hb)); have c3 := HP3.out.c1; have z3 := blk_frozen HP3.out.blk 1; clear hb)
    have HC0 := Aside0.mk (show cls r = clsL true (r.length + 1) zeroF 0 r.tail by rw [cls, if_pos hn])
    have HP4 := Aside0.mk (show PsAt B g (w3.setCell ⟨g, 1, none⟩ (.int .i64 ((a : Int) + 1))) s r.tail (a + 1) from HP3.out.step HMO.out)
    have HR4 := Aside0.mk (blk_far HR3.out (p := ⟨g, 1, none⟩) (show W.heap.size ≠ g by have := HGW.out; omega) (.int .i64 ((a : Int) + 1)))
    have HX4 := Aside0.mk (blk_far HX3.out (p := ⟨g, 1, none⟩) (show W.heap.size + 1 ≠ g by have := HGW.out; omega) (.int .i64 ((a : Int) + 1)))
    have HF4 := Aside0.mk (HF3.out.trans ((Fr.refl B [43] w3).set HP3.out.blk HP3.out.le (by simp) 1 (.int .i64 ((a : Int) + 1))))
    have HL0 := Aside0.mk (show r.tail.length < r.length + 1 by rw [List.length_tail]; omega)
    generalize w3.setCell ⟨g, 1, none⟩ (.int .i64 ((a : Int) + 1)) = w4 at HP4 HR4 HX4 HF4 ⊢
    clear c3 z3 HP3 HR3 HX3 HF3 HP2 HR2 HX2 HF2 hst hn hnd
    try simp only [hw0]
    clear hw0
    go_loopg [6] (r.tail.length + 1) (fun kq v6 w' => ∃ (q : Nat) (f : List Bool) (n : Nat) (r1 : List Int) (a1 : Nat), v6 = .int .i64 (n : Int) ∧ Aside0 (kq = r1.length + 1 ∧ n + r1.length ≤ 1000000 ∧ r1.length < q) ∧ Aside0 (f.length = 256) ∧ Aside0 (cls r = clsL true q f n r1) ∧ Aside0 (PsAt B g w' s r1 a1) ∧ Aside0 (w'.heap[W.heap.size + 1]? = some (.cells (cellsP 4 0 f) 49 (0, 0))) ∧ Aside0 (w'.heap[W.heap.size]? = some (.cells (cellsP 0 0 zeroF) 49 (0, 0))) ∧ Aside0 (Fr B [43] W w'))
    case atStart => exact ⟨_, zeroF, 0, _, _, rfl, ⟨rfl, by have := HP4.out.len; omega, HL0.out⟩, ⟨zeroF_length⟩, HC0, HP4, HX4, HR4, HF4⟩
    case round =>
      obtain ⟨q, f, n, r1, a1, rfl, HQ, HFL, HC, HP, HX, HR, HF⟩ := hrel
      obtain ⟨q, rfl⟩ : ∃ q', q = q' + 1 := ⟨q - 1, by have := HQ.out; omega⟩
      by_cases h93 : r1.head? = some 93
      · have h93d : decide (r1.head? = some 93) = true := decide_eq_true h93
        have HG := Aside0.mk ((HC.out).trans (clsL_end h93))
        have HMO := Aside0.mk (HP.out.more h93)
        have hw1 : wrap64 ((a1 : Int) + 1) = ((a1 + 1 : Nat) : Int) := by have := HP.out.len; have := HMO.out; unfold wrap64; omega
        clear h93
        go_upto_region 9 with (go_at_call 29; refine (see31_calls B g _ s r1 a1 93 HP.out).mono ?_; rw [h93d]; rintro e w5 ⟨rfl, hb⟩; have HP5 := Aside0.mk (HP.out.below hb); have HR5 := Aside0.mk (blk_below HR.out hb); have HX5 := Aside0.mk (blk_below HX.out hb); have HF5 := Aside0.mk (HF.out.trans (Fr.of_below hb)); have c5 := HP5.out.c1; have z5 := blk_frozen HP5.out.blk 1; clear hb)
        have HP6 := Aside0.mk (show PsAt B g (w5.setCell ⟨g, 1, none⟩ (.int .i64 ((a1 : Int) + 1))) s r1.tail (a1 + 1) from HP5.out.step HMO.out)
        have HR6 := Aside0.mk (blk_far HR5.out (p := ⟨g, 1, none⟩) (show W.heap.size ≠ g by have := HGW.out; omega) (.int .i64 ((a1 : Int) + 1)))
        have HX6 := Aside0.mk (blk_far HX5.out (p := ⟨g, 1, none⟩) (show W.heap.size + 1 ≠ g by have := HGW.out; omega) (.int .i64 ((a1 : Int) + 1)))
        have HF6 := Aside0.mk (HF5.out.trans ((Fr.refl B [43] w5).set HP5.out.blk HP5.out.le (by simp) 1 (.int .i64 ((a1 : Int) + 1))))
        generalize (w5.setCell ⟨g, 1, none⟩ (.int .i64 ((a1 : Int) + 1))) = w6 at HP6 HR6 HX6 HF6 ⊢
        clear c5 z5 HP5 HR5 HX5 HF5 HP HR HX HF hw1
        go_upto_region 11 with (fail)
        go_loopg [35] 256 (fun kq v35 w' => ∃ i : Nat, v35 = .int .i64 (i : Int) ∧ Aside0 (i ≤ 256 ∧ kq = 256 - i) ∧ Aside0 (PsAt B g w' s r1.tail (a1 + 1)) ∧ Aside0 (w'.heap[W.heap.size + 1]? = some (.cells (cellsP 4 0 (notUp f i)) 49 (0, 0))) ∧ Aside0 (w'.heap[W.heap.size]? = some (.cells (cellsP 0 0 zeroF) 49 (0, 0))) ∧ Aside0 (Fr B [43] W w'))
        case atStart => exact ⟨0, rfl, ⟨by omega, by omega⟩, HP6, by rw [notUp_zero]; exact HX6, HR6, HF6⟩
        case round =>
          obtain ⟨i, rfl, HI, HPi, HXi, HRi, HFi⟩ := hrel
          by_cases hi : i < 256
          · have e1 : decide ((i : Int) < 256) = true := decide_eq_true (by omega)
            have e2 : decide (i < 256) = true := decide_eq_true hi
            have hif : i < f.length := by rw [HFL.out]; exact hi
            have z := blk_frozen HXi.out (2 + i)
            have c0 := cellsP_at HXi.out i (by rw [notUp_length]; exact hif)
            have ev : (notUp f i).getD i false = f.getD i false := by rw [List.getD_eq_getElem?_getD, notUp_get f i hif]; rfl
            rw [ev] at c0
            have hxk := cellsP_put HXi.out i (!(f.getD i false))
            rw [← notUp_succ f i hif] at hxk
            have HXk := Aside0.mk hxk
            have HPk := Aside0.mk (HPi.out.cell (show g ≠ W.heap.size + 1 by have := HGW.out; omega) (2 + i) (.bool (!(f.getD i false))))
            have HRk := Aside0.mk (blk_far HRi.out (p := ⟨W.heap.size + 1, 2 + i, none⟩) (show W.heap.size ≠ W.heap.size + 1 by omega) (.bool (!(f.getD i false))))
            have HFk := Aside0.mk (HFi.out.fresh (show W.heap.size ≤ W.heap.size + 1 by omega) (2 + i) (.bool (!(f.getD i false))))
            have hw1 : wrap64 ((i : Int) + 1) = ((i + 1 : Nat) : Int) := by unfold wrap64; omega
            generalize f.getD i false = fb at c0 HXk HPk HRk HFk
            clear ev hxk hif
            go_wp2
            go_roundg (256 - (i + 1))
            case measure => have := HI.out; omega
            case rel => exact ⟨i + 1, by first | rfl | simp | rw [hw1], ⟨by have := HI.out; have := of_decide_eq_true e2; omega, rfl⟩, HPk, HXk, HRk, HFk⟩
          · have e1 : decide ((i : Int) < 256) = false := decide_eq_false (by omega)
            have e2 : decide (i < 256) = false := decide_eq_false hi
            have hnu : notUp f i = f.map (!·) := notUp_all f i (by rw [HFL.out]; omega)
            have hxi := HXi.out
            rw [hnu] at hxi
            have HXi := Aside0.mk hxi
            have HFm := Aside0.mk (show (f.map (!·)).length = 256 by rw [List.length_map]; exact HFL.out)
            clear hnu hxi hi
            generalize f.map (!·) = fm at HXi HFm HG
            generalize wr = wi at HPi HXi HRi HFi ⊢
            have hst0 : (storeCells ⟨W.heap.size, 0, none⟩ (cellsP 4 0 (fm)).toList).run Try.prog wi = .ok () (wi.setRow W.heap.size (cellsP 4 0 (fm))) := store_row HRi.out (by rw [cellsP_size HFm.out, cellsP_size zeroF_length]) cellsP_one
            have hsz1 : (cellsP 4 0 (fm)).size = 258 := cellsP_size HFm.out
            have hk := setRow_heap wi W.heap.size _ (cellsP 4 0 (fm)) 49 (0, 0) HRi.out
            go_upto_region 15 with (fail)
            go_step
            go_step
            refine wp_load_row 49 (.tmp 4) rfl (W.heap.size + 1) rfl 49 (cellsP 4 0 (fm)) (0, 0) _ HXi.out Try.underlying49 rfl (by rw [hsz1]; exact sizeP) ?_
            go_wp2
            refine bodyPost_ret (results_ct rfl _ _ W.heap.size 49 (cellsP 4 0 (fm)) (0, 0) _ rfl hk Try.underlying49 rfl (by rw [hsz1]; exact sizeP)) rfl ?_
            refine ⟨4, 0, fm, decide (0 < n), by rfl, HFm.out, ⟨r1.tail, _, HPi.out.row (by have := HGW.out; omega) _, ?_⟩, HFi.out.row (Nat.le_refl _) _⟩
            by_cases hn0 : n = 0
            · exact .inl ⟨decide_eq_false (by omega), by rw [HG.out, if_pos hn0]⟩
            · exact .inr ⟨decide_eq_true (by omega), rfl, rfl, by rw [HG.out, if_neg hn0]; rfl⟩
      · have h93d : decide (r1.head? = some 93) = false := decide_eq_false h93
        obtain ⟨lo, is, r6, hpe⟩ : ∃ lo is r6, pln r1 = ((lo, is), r6) := ⟨_, _, _, rfl⟩
        have HPE := Aside0.mk hpe
        have hl6 := pln_len r1
        have hb6 := pln_byte HP.out.bytes
        rw [hpe] at hl6 hb6
        simp only at hl6 hb6
        obtain ⟨L, rfl⟩ : ∃ L : Nat, lo = (L : Int) := ⟨lo.toNat, by omega⟩
        cases is with
        | false =>
          have HG := Aside0.mk ((HC.out).trans (clsL_bad h93 (by rw [hpe])))
          clear h93 hpe hl6 hb6
          go_upto_region 18 with (first | (go_at_call 30; refine (plain31_calls B g _ s r1 a1 HP5.out).mono ?_; rw [HPE.out]; rintro e w6 ⟨rfl, ⟨a6, hp⟩, hf⟩; have HP6 := Aside0.mk (show PsAt B g w6 s r6 a6 from hp); have HR6 := Aside0.mk (hf.blk HR5.out (by decide)); have HX6 := Aside0.mk (hf.blk HX5.out (by decide)); have HF6 := Aside0.mk (HF5.out.trans hf); clear hp hf) | (go_at_call 29; refine (see31_calls B g _ s r1 a1 93 HP.out).mono ?_; rw [h93d]; rintro e w5 ⟨rfl, hb⟩; have HP5 := Aside0.mk (HP.out.below hb); have HR5 := Aside0.mk (blk_below HR.out hb); have HX5 := Aside0.mk (blk_below HX.out hb); have HF5 := Aside0.mk (HF.out.trans (Fr.of_below hb)); clear hb))
          have hst0 := zero_back HR6.out
          have hk := setRow_heap w6 W.heap.size _ (cellsP 0 0 zeroF) 49 (0, 0) HR6.out
          go_wp2
          have huP := Try.underlying49
          refine bodyPost_ret (results_ct rfl _ _ W.heap.size 49 (cellsP 0 0 zeroF) (0, 0) _ rfl hk huP rfl sizeP) rfl ?_
          refine ⟨0, 0, zeroF, false, by rfl, zeroF_length, ⟨_, _, HP6.out.row (by have := HGW.out; omega) _, .inl ⟨rfl, HG.out⟩⟩, HF6.out.row (Nat.le_refl _) _⟩
        | true =>
          have HQ6 := Aside0.mk (show r6.length < r1.length ∧ L < 256 from ⟨hl6.2 rfl, by omega⟩)
          have HH93 := Aside0.mk h93
          clear h93 hl6 hb6 hpe
          have hwL : wrap64 (L : Int) = (L : Int) := by have := HQ6.out; unfold wrap64; omega
          go_upto_region 20 with (first | (go_at_call 30; refine (plain31_calls B g _ s r1 a1 HP5.out).mono ?_; rw [HPE.out]; rintro e w6 ⟨rfl, ⟨a6, hp⟩, hf⟩; have HP6 := Aside0.mk (show PsAt B g w6 s r6 a6 from hp); have HR6 := Aside0.mk (hf.blk HR5.out (by decide)); have HX6 := Aside0.mk (hf.blk HX5.out (by decide)); have HF6 := Aside0.mk (HF5.out.trans hf); clear hp hf) | (go_at_call 29; refine (see31_calls B g _ s r1 a1 93 HP.out).mono ?_; rw [h93d]; rintro e w5 ⟨rfl, hb⟩; have HP5 := Aside0.mk (HP.out.below hb); have HR5 := Aside0.mk (blk_below HR.out hb); have HX5 := Aside0.mk (blk_below HX.out hb); have HF5 := Aside0.mk (HF.out.trans (Fr.of_below hb)); clear hb))
          clear HP HX HR HF HP5 HX5 HR5 HF5
          have y0 := HP6.out.reach0
          have y1 := HP6.out.reach1
          have HSEE := Aside0.mk (fun (u : Reach w6) => see31_calls B g u.out s r6 a6 45 (HP6.out.below u.bel))
          have hwa : wrap64 ((a6 : Int) + 1) = (a6 : Int) + 1 := by have := HP6.out.len; unfold wrap64; omega
          by_cases h45 : r6.head? = some 45
          · have h45d : decide (r6.head? = some 45) = true := decide_eq_true h45
            have hda := dash_at HP6.out.hr h45
            rw [h45d] at HSEE
            by_cases hmo : a6 + 1 < s.size
            · have e1 : decide ((a6 : Int) + 1 < (s.size : Int)) = true := decide_eq_true (by omega)
              have e2 : decide (a6 + 1 < s.size) = true := decide_eq_true hmo
              have e3 : (a6 : Int) + 1 < (s.size : Int) := by omega
              have hb0 : ∀ h : a6 + 1 < s.size, ((s[a6 + 1]'h).toNat : Int) = bt s ((a6 + 1 : Nat) : Int) := fun h' => bt_at s ((a6 + 1 : Nat) : Int) h'
              rw [e2, Bool.true_and] at hda
              have HM6 := Aside0.mk (HP6.out.more h45)
              generalize bt s ((a6 + 1 : Nat) : Int) = d at hb0 hda
              clear h45
              cases hd : (d != 93) with
              | false =>
                rw [hd] at hda
                have HDS := Aside0.mk hda
                clear hda
                have HG := Aside0.mk ((HC.out).trans (clsL_one HH93.out (by rw [HPE.out]) (by rw [HPE.out]; exact HDS.out)))
                rw [HPE.out] at HG
                have HG := Aside0.mk (show cls r = clsL true q (setUp f L 1) (n + 1) r6 from HG.out)
                refine region_reach (by kernel_rfl) (by kernel_rfl) ?_
                repeat (go_big_quiet_step ((go_at_call 29; exact calls_reach _ (HSEE.out _))))
                refine wpQuiet_nil ?_
                rintro w7 ⟨⟨_, hb⟩, rfl⟩
                have HP7 := Aside0.mk (HP6.out.below hb)
                have HR7 := Aside0.mk (blk_below HR6.out hb)
                have HX7 := Aside0.mk (blk_below HX6.out hb)
                have HF7 := Aside0.mk (HF6.out.trans (Fr.of_below hb))
                clear hb y0 y1
                clear e1 e2 e3 hb0 hd hmo
                have HLH := Aside0.mk (show L + 1 = L + 1 ∧ L < 256 from ⟨rfl, HQ6.out.2⟩)
                have HQ2 := Aside0.mk (show r6.length < r1.length from HQ6.out.1)
                go_upto_region 26 with (fail)
                try simp only [hwL, hwa]
                go_loopg [11] 1 (fun kq v11 w' => ∃ (j c : Nat), v11 = .int .i64 (c : Int) ∧ Aside0 (j ≤ 1 ∧ kq = 1 - j ∧ c = L + j) ∧ Aside0 (PsAt B g w' s r6 a6) ∧ Aside0 (w'.heap[W.heap.size + 1]? = some (.cells (cellsP 4 0 (setUp f L j)) 49 (0, 0))) ∧ Aside0 (w'.heap[W.heap.size]? = some (.cells (cellsP 0 0 zeroF) 49 (0, 0))) ∧ Aside0 (Fr B [43] W w'))
                case atStart => exact ⟨0, L, rfl, ⟨by omega, by omega, by omega⟩, HP7, HX7, HR7, HF7⟩
                case round =>
                  obtain ⟨j, c, rfl, HJ, HPj, HXj, HRj, HFj⟩ := hrel
                  by_cases hj : j < 1
                  · have e0 : c ≤ L := by have := HLH.out; have := HJ.out; omega
                    have e4 : c < 256 := by have := HLH.out; have := HJ.out; omega
                    have e1 : decide ((c : Int) ≤ (L : Int)) = true := decide_eq_true (by omega)
                    have e2 : decide (c ≤ L) = true := decide_eq_true e0
                    have z := blk_frozen HXj.out (2 + c)
                    have HJ2 := Aside0.mk hj
                    have c0 := cellsP_at HXj.out c (by rw [setUp_length, HFL.out]; omega)
                    have hxk := cellsP_put HXj.out c true
                    rw [show (setUp f L j).set c true = setUp f L (j + 1) by rw [HJ.out.2.2]; rfl] at hxk
                    have HXk := Aside0.mk hxk
                    have HPk := Aside0.mk (HPj.out.cell (show g ≠ W.heap.size + 1 by have := HGW.out; omega) (2 + c) (.bool true))
                    have HRk := Aside0.mk (blk_far HRj.out (p := ⟨W.heap.size + 1, 2 + c, none⟩) (show W.heap.size ≠ W.heap.size + 1 by omega) (.bool true))
                    have HFk := Aside0.mk (HFj.out.fresh (show W.heap.size ≤ W.heap.size + 1 by omega) (2 + c) (.bool true))
                    have hw3 : wrap64 ((c : Int) + 1) = ((c + 1 : Nat) : Int) := by unfold wrap64; omega
                    clear hxk hj
                    go_wp2
                    go_roundg (1 - (j + 1))
                    case measure => have := HJ.out; have := HJ2.out; omega
                    case rel => exact ⟨j + 1, c + 1, by first | rfl | (rw [hw3]; done) | (rw [hw3]; rfl) | simp, ⟨by have := HJ2.out; omega, rfl, by have := HJ.out; omega⟩, HPk, HXk, HRk, HFk⟩
                  · have hje : 1 = j := by have := HJ.out; omega
                    subst hje
                    have e0 : ¬ c ≤ L := by have := HLH.out; have := HJ.out; omega
                    have e1 : decide ((c : Int) ≤ (L : Int)) = false := decide_eq_false (by omega)
                    have e2 : decide (c ≤ L) = false := decide_eq_false e0
                    have hwn : wrap64 ((n : Int) + 1) = ((n + 1 : Nat) : Int) := by have := HQ.out; unfold wrap64; omega
                    go_wp2
                    go_roundg (r6.length + 1)
                    case measure => have := HQ.out; have := HQ2.out; omega
                    case rel => exact ⟨q, setUp f L 1, n + 1, r6, _, by first | rfl | (rw [hwn]; done) | (rw [hwn]; rfl) | simp, ⟨rfl, by have := HQ.out; have := HQ2.out; omega, by have := HQ.out; have := HQ2.out; omega⟩, ⟨by rw [setUp_length]; exact HFL.out⟩, HG, HPj, HXj, HRj, HFj⟩
              | true =>
                rw [hd] at hda
                have HDS := Aside0.mk hda
                clear hda
                refine region_reach (by kernel_rfl) (by kernel_rfl) ?_
                repeat (go_big_quiet_step ((go_at_call 29; exact calls_reach _ (HSEE.out _))))
                refine wpQuiet_nil ?_
                rintro w7 ⟨⟨_, hb⟩, rfl⟩
                have HP7 := Aside0.mk (HP6.out.below hb)
                have HR7 := Aside0.mk (blk_below HR6.out hb)
                have HX7 := Aside0.mk (blk_below HX6.out hb)
                have HF7 := Aside0.mk (HF6.out.trans (Fr.of_below hb))
                clear hb y0 y1
                clear e1 e2 e3 hb0 hd hmo
                have c7 := HP7.out.c1
                have z7 := blk_frozen HP7.out.blk 1
                go_upto_region 22 with (fail)
                have HP8 := Aside0.mk (show PsAt B g (w7.setCell ⟨g, 1, none⟩ (.int .i64 ((a6 : Int) + 1))) s r6.tail (a6 + 1) from HP7.out.step HM6.out)
                have HR8 := Aside0.mk (blk_far HR7.out (p := ⟨g, 1, none⟩) (show W.heap.size ≠ g by have := HGW.out; omega) (.int .i64 ((a6 : Int) + 1)))
                have HX8 := Aside0.mk (blk_far HX7.out (p := ⟨g, 1, none⟩) (show W.heap.size + 1 ≠ g by have := HGW.out; omega) (.int .i64 ((a6 : Int) + 1)))
                have HF8 := Aside0.mk (HF7.out.trans ((Fr.refl B [43] w7).set HP7.out.blk HP7.out.le (by simp) 1 (.int .i64 ((a6 : Int) + 1))))
                generalize w7.setCell ⟨g, 1, none⟩ (.int .i64 ((a6 : Int) + 1)) = w8 at HP8 HR8 HX8 HF8 ⊢
                clear c7 z7 HP7 HR7 HX7 HF7
                obtain ⟨hi, is2, r9, hpe2⟩ : ∃ hi is2 r9, pln r6.tail = ((hi, is2), r9) := ⟨_, _, _, rfl⟩
                have HPE2 := Aside0.mk hpe2
                have hl9 := pln_len r6.tail
                have hb9 := pln_byte HP8.out.bytes
                rw [hpe2] at hl9 hb9
                simp only at hl9 hb9
                obtain ⟨H, rfl⟩ : ∃ H : Nat, hi = (H : Int) := ⟨hi.toNat, by omega⟩
                have HT6 := Aside0.mk (show r6.tail.length ≤ r6.length by rw [List.length_tail]; omega)
                cases is2 with
                | false =>
                  have HG := Aside0.mk ((HC.out).trans (clsL_bad2 HH93.out (by rw [HPE.out]) (by rw [HPE.out]; exact HDS.out) (.inl (by rw [HPE.out]; show (pln r6.tail).1.2 = false; rw [hpe2]))))
                  clear hpe2 hl9 hb9
                  go_upto_region 24 with (go_at_call 30; refine (plain31_calls B g _ s r6.tail (a6 + 1) HP8.out).mono ?_; rw [HPE2.out]; rintro e w9 ⟨rfl, ⟨a9, hp⟩, hf⟩; have HP9 := Aside0.mk (show PsAt B g w9 s r9 a9 from hp); have HR9 := Aside0.mk (hf.blk HR8.out (by decide)); have HX9 := Aside0.mk (hf.blk HX8.out (by decide)); have HF9 := Aside0.mk (HF8.out.trans hf); clear hp hf)
                  have hst0 := zero_back HR9.out
                  have hk := setRow_heap w9 W.heap.size _ (cellsP 0 0 zeroF) 49 (0, 0) HR9.out
                  go_wp2
                  have huP := Try.underlying49
                  refine bodyPost_ret (results_ct rfl _ _ W.heap.size 49 (cellsP 0 0 zeroF) (0, 0) _ rfl hk huP rfl sizeP) rfl ?_
                  refine ⟨0, 0, zeroF, false, by rfl, zeroF_length, ⟨_, _, HP9.out.row (by have := HGW.out; omega) _, .inl ⟨rfl, HG.out⟩⟩, HF9.out.row (Nat.le_refl _) _⟩
                | true =>
                  by_cases hlt : (H : Int) < (L : Int)
                  · have e1 : decide ((H : Int) < (L : Int)) = true := decide_eq_true hlt
                    have e2 : decide (H < L) = true := decide_eq_true (by omega)
                    have HG := Aside0.mk ((HC.out).trans (clsL_bad2 HH93.out (by rw [HPE.out]) (by rw [HPE.out]; exact HDS.out) (.inr (by rw [HPE.out]; show (pln r6.tail).1.1 < (L : Int); rw [hpe2]; exact hlt))))
                    clear hpe2 hl9 hb9 hlt
                    go_upto_region 24 with (go_at_call 30; refine (plain31_calls B g _ s r6.tail (a6 + 1) HP8.out).mono ?_; rw [HPE2.out]; rintro e w9 ⟨rfl, ⟨a9, hp⟩, hf⟩; have HP9 := Aside0.mk (show PsAt B g w9 s r9 a9 from hp); have HR9 := Aside0.mk (hf.blk HR8.out (by decide)); have HX9 := Aside0.mk (hf.blk HX8.out (by decide)); have HF9 := Aside0.mk (HF8.out.trans hf); clear hp hf)
                    have hst0 := zero_back HR9.out
                    have hk := setRow_heap w9 W.heap.size _ (cellsP 0 0 zeroF) 49 (0, 0) HR9.out
                    go_wp2
                    have huP := Try.underlying49
                    refine bodyPost_ret (results_ct rfl _ _ W.heap.size 49 (cellsP 0 0 zeroF) (0, 0) _ rfl hk huP rfl sizeP) rfl ?_
                    refine ⟨0, 0, zeroF, false, by rfl, zeroF_length, ⟨_, _, HP9.out.row (by have := HGW.out; omega) _, .inl ⟨rfl, HG.out⟩⟩, HF9.out.row (Nat.le_refl _) _⟩
                  · have e1 : decide ((H : Int) < (L : Int)) = false := decide_eq_false hlt
                    have e2 : decide (H < L) = false := decide_eq_false (by omega)
                    have hG := ((HC.out).trans (clsL_two HH93.out (by rw [HPE.out]) (by rw [HPE.out]; exact HDS.out) (by rw [HPE.out]; show ¬ ((pln r6.tail).1.2 = false ∨ (pln r6.tail).1.1 < (L : Int)); rw [hpe2]; exact fun h => h.elim (fun h => by cases h) (fun h => hlt h))))
                    rw [HPE.out] at hG
                    simp only at hG
                    rw [hpe2] at hG
                    simp only at hG
                    rw [show ((H : Int) - (L : Int) + 1).toNat = H - L + 1 by omega, Int.toNat_natCast] at hG
                    have HG := Aside0.mk hG
                    have HLH := Aside0.mk (show L + (H - L + 1) = H + 1 ∧ H < 256 from ⟨by omega, by omega⟩)
                    have HQ2 := Aside0.mk (show r9.length < r1.length from by have := hl9.2 rfl; have := HT6.out; have := HQ6.out; omega)
                    have hwH : wrap64 (H : Int) = (H : Int) := by have := HLH.out; unfold wrap64; omega
                    clear hpe2 hl9 hb9 hlt hG
                    obtain ⟨cn, hcn⟩ : ∃ cn, cn = H - L + 1 := ⟨_, rfl⟩
                    rw [← hcn] at HLH HG
                    clear hcn
                    go_upto_region 26 with (go_at_call 30; refine (plain31_calls B g _ s r6.tail (a6 + 1) HP8.out).mono ?_; rw [HPE2.out]; rintro e w9 ⟨rfl, ⟨a9, hp⟩, hf⟩; have HP9 := Aside0.mk (show PsAt B g w9 s r9 a9 from hp); have HR9 := Aside0.mk (hf.blk HR8.out (by decide)); have HX9 := Aside0.mk (hf.blk HX8.out (by decide)); have HF9 := Aside0.mk (HF8.out.trans hf); clear hp hf)
                    try simp only [hwL, hwa, hwH]
                    clear e1 e2
                    go_loopg [11] cn (fun kq v11 w' => ∃ (j c : Nat), v11 = .int .i64 (c : Int) ∧ Aside0 (j ≤ cn ∧ kq = cn - j ∧ c = L + j) ∧ Aside0 (PsAt B g w' s r9 a9) ∧ Aside0 (w'.heap[W.heap.size + 1]? = some (.cells (cellsP 4 0 (setUp f L j)) 49 (0, 0))) ∧ Aside0 (w'.heap[W.heap.size]? = some (.cells (cellsP 0 0 zeroF) 49 (0, 0))) ∧ Aside0 (Fr B [43] W w'))
                    case atStart => exact ⟨0, L, rfl, ⟨by omega, by omega, by omega⟩, HP9, HX9, HR9, HF9⟩
                    case round =>
                      obtain ⟨j, c, rfl, HJ, HPj, HXj, HRj, HFj⟩ := hrel
                      by_cases hj : j < cn
                      · have e0 : c ≤ H := by have := HLH.out; have := HJ.out; omega
                        have e4 : c < 256 := by have := HLH.out; have := HJ.out; omega
                        have e1 : decide ((c : Int) ≤ (H : Int)) = true := decide_eq_true (by omega)
                        have e2 : decide (c ≤ H) = true := decide_eq_true e0
                        have z := blk_frozen HXj.out (2 + c)
                        have HJ2 := Aside0.mk hj
                        have c0 := cellsP_at HXj.out c (by rw [setUp_length, HFL.out]; omega)
                        have hxk := cellsP_put HXj.out c true
                        rw [show (setUp f L j).set c true = setUp f L (j + 1) by rw [HJ.out.2.2]; rfl] at hxk
                        have HXk := Aside0.mk hxk
                        have HPk := Aside0.mk (HPj.out.cell (show g ≠ W.heap.size + 1 by have := HGW.out; omega) (2 + c) (.bool true))
                        have HRk := Aside0.mk (blk_far HRj.out (p := ⟨W.heap.size + 1, 2 + c, none⟩) (show W.heap.size ≠ W.heap.size + 1 by omega) (.bool true))
                        have HFk := Aside0.mk (HFj.out.fresh (show W.heap.size ≤ W.heap.size + 1 by omega) (2 + c) (.bool true))
                        have hw3 : wrap64 ((c : Int) + 1) = ((c + 1 : Nat) : Int) := by unfold wrap64; omega
                        clear hxk hj
                        go_wp2
                        go_roundg (cn - (j + 1))
                        case measure => have := HJ.out; have := HJ2.out; omega
                        case rel => exact ⟨j + 1, c + 1, by first | rfl | (rw [hw3]; done) | (rw [hw3]; rfl) | simp, ⟨by have := HJ2.out; omega, rfl, by have := HJ.out; omega⟩, HPk, HXk, HRk, HFk⟩
                      · have hje : cn = j := by have := HJ.out; omega
                        subst hje
                        have e0 : ¬ c ≤ H := by have := HLH.out; have := HJ.out; omega
                        have e1 : decide ((c : Int) ≤ (H : Int)) = false := decide_eq_false (by omega)
                        have e2 : decide (c ≤ H) = false := decide_eq_false e0
                        have hwn : wrap64 ((n : Int) + 1) = ((n + 1 : Nat) : Int) := by have := HQ.out; unfold wrap64; omega
                        go_wp2
                        go_roundg (r9.length + 1)
                        case measure => have := HQ.out; have := HQ2.out; omega
                        case rel => exact ⟨q, setUp f L cn, n + 1, r9, _, by first | rfl | (rw [hwn]; done) | (rw [hwn]; rfl) | simp, ⟨rfl, by have := HQ.out; have := HQ2.out; omega, by have := HQ.out; have := HQ2.out; omega⟩, ⟨by rw [setUp_length]; exact HFL.out⟩, HG, HPj, HXj, HRj, HFj⟩
            · have e1 : decide ((a6 : Int) + 1 < (s.size : Int)) = false := decide_eq_false (by omega)
              have e2 : decide (a6 + 1 < s.size) = false := decide_eq_false hmo
              rw [e2, Bool.false_and] at hda
              have HDS := Aside0.mk hda
              clear hda hmo h45
              have HG := Aside0.mk ((HC.out).trans (clsL_one HH93.out (by rw [HPE.out]) (by rw [HPE.out]; exact HDS.out)))
              rw [HPE.out] at HG
              have HG := Aside0.mk (show cls r = clsL true q (setUp f L 1) (n + 1) r6 from HG.out)
              refine region_reach (by kernel_rfl) (by kernel_rfl) ?_
              repeat (go_big_quiet_step ((go_at_call 29; exact calls_reach _ (HSEE.out _))))
              refine wpQuiet_nil ?_
              rintro w7 ⟨⟨_, hb⟩, rfl⟩
              have HP7 := Aside0.mk (HP6.out.below hb)
              have HR7 := Aside0.mk (blk_below HR6.out hb)
              have HX7 := Aside0.mk (blk_below HX6.out hb)
              have HF7 := Aside0.mk (HF6.out.trans (Fr.of_below hb))
              clear hb y0 y1
              have HLH := Aside0.mk (show L + 1 = L + 1 ∧ L < 256 from ⟨rfl, HQ6.out.2⟩)
              have HQ2 := Aside0.mk (show r6.length < r1.length from HQ6.out.1)
              go_upto_region 26 with (fail)
              try simp only [hwL, hwa]
              go_loopg [11] 1 (fun kq v11 w' => ∃ (j c : Nat), v11 = .int .i64 (c : Int) ∧ Aside0 (j ≤ 1 ∧ kq = 1 - j ∧ c = L + j) ∧ Aside0 (PsAt B g w' s r6 a6) ∧ Aside0 (w'.heap[W.heap.size + 1]? = some (.cells (cellsP 4 0 (setUp f L j)) 49 (0, 0))) ∧ Aside0 (w'.heap[W.heap.size]? = some (.cells (cellsP 0 0 zeroF) 49 (0, 0))) ∧ Aside0 (Fr B [43] W w'))
              case atStart => exact ⟨0, L, rfl, ⟨by omega, by omega, by omega⟩, HP7, HX7, HR7, HF7⟩
              case round =>
                obtain ⟨j, c, rfl, HJ, HPj, HXj, HRj, HFj⟩ := hrel
                by_cases hj : j < 1
                · have e0 : c ≤ L := by have := HLH.out; have := HJ.out; omega
                  have e4 : c < 256 := by have := HLH.out; have := HJ.out; omega
                  have e1 : decide ((c : Int) ≤ (L : Int)) = true := decide_eq_true (by omega)
                  have e2 : decide (c ≤ L) = true := decide_eq_true e0
                  have z := blk_frozen HXj.out (2 + c)
                  have HJ2 := Aside0.mk hj
                  have c0 := cellsP_at HXj.out c (by rw [setUp_length, HFL.out]; omega)
                  have hxk := cellsP_put HXj.out c true
                  rw [show (setUp f L j).set c true = setUp f L (j + 1) by rw [HJ.out.2.2]; rfl] at hxk
                  have HXk := Aside0.mk hxk
                  have HPk := Aside0.mk (HPj.out.cell (show g ≠ W.heap.size + 1 by have := HGW.out; omega) (2 + c) (.bool true))
                  have HRk := Aside0.mk (blk_far HRj.out (p := ⟨W.heap.size + 1, 2 + c, none⟩) (show W.heap.size ≠ W.heap.size + 1 by omega) (.bool true))
                  have HFk := Aside0.mk (HFj.out.fresh (show W.heap.size ≤ W.heap.size + 1 by omega) (2 + c) (.bool true))
                  have hw3 : wrap64 ((c : Int) + 1) = ((c + 1 : Nat) : Int) := by unfold wrap64; omega
                  clear hxk hj
                  go_wp2
                  go_roundg (1 - (j + 1))
                  case measure => have := HJ.out; have := HJ2.out; omega
                  case rel => exact ⟨j + 1, c + 1, by first | rfl | (rw [hw3]; done) | (rw [hw3]; rfl) | simp, ⟨by have := HJ2.out; omega, rfl, by have := HJ.out; omega⟩, HPk, HXk, HRk, HFk⟩
                · have hje : 1 = j := by have := HJ.out; omega
                  subst hje
                  have e0 : ¬ c ≤ L := by have := HLH.out; have := HJ.out; omega
                  have e1 : decide ((c : Int) ≤ (L : Int)) = false := decide_eq_false (by omega)
                  have e2 : decide (c ≤ L) = false := decide_eq_false e0
                  have hwn : wrap64 ((n : Int) + 1) = ((n + 1 : Nat) : Int) := by have := HQ.out; unfold wrap64; omega
                  go_wp2
                  go_roundg (r6.length + 1)
                  case measure => have := HQ.out; have := HQ2.out; omega
                  case rel => exact ⟨q, setUp f L 1, n + 1, r6, _, by first | rfl | (rw [hwn]; done) | (rw [hwn]; rfl) | simp, ⟨rfl, by have := HQ.out; have := HQ2.out; omega, by have := HQ.out; have := HQ2.out; omega⟩, ⟨by rw [setUp_length]; exact HFL.out⟩, HG, HPj, HXj, HRj, HFj⟩
          · have h45d : decide (r6.head? = some 45) = false := decide_eq_false h45
            have HDS := Aside0.mk (dash_no h45)
            rw [h45d] at HSEE
            clear h45
            have HG := Aside0.mk ((HC.out).trans (clsL_one HH93.out (by rw [HPE.out]) (by rw [HPE.out]; exact HDS.out)))
            rw [HPE.out] at HG
            have HG := Aside0.mk (show cls r = clsL true q (setUp f L 1) (n + 1) r6 from HG.out)
            refine region_reach (by kernel_rfl) (by kernel_rfl) ?_
            repeat (go_big_quiet_step ((go_at_call 29; exact calls_reach _ (HSEE.out _))))
            refine wpQuiet_nil ?_
            rintro w7 ⟨⟨_, hb⟩, rfl⟩
            have HP7 := Aside0.mk (HP6.out.below hb)
            have HR7 := Aside0.mk (blk_below HR6.out hb)
            have HX7 := Aside0.mk (blk_below HX6.out hb)
            have HF7 := Aside0.mk (HF6.out.trans (Fr.of_below hb))
            clear hb y0 y1
            have HLH := Aside0.mk (show L + 1 = L + 1 ∧ L < 256 from ⟨rfl, HQ6.out.2⟩)
            have HQ2 := Aside0.mk (show r6.length < r1.length from HQ6.out.1)
            go_upto_region 26 with (fail)
            try simp only [hwL, hwa]
            go_loopg [11] 1 (fun kq v11 w' => ∃ (j c : Nat), v11 = .int .i64 (c : Int) ∧ Aside0 (j ≤ 1 ∧ kq = 1 - j ∧ c = L + j) ∧ Aside0 (PsAt B g w' s r6 a6) ∧ Aside0 (w'.heap[W.heap.size + 1]? = some (.cells (cellsP 4 0 (setUp f L j)) 49 (0, 0))) ∧ Aside0 (w'.heap[W.heap.size]? = some (.cells (cellsP 0 0 zeroF) 49 (0, 0))) ∧ Aside0 (Fr B [43] W w'))
            case atStart => exact ⟨0, L, rfl, ⟨by omega, by omega, by omega⟩, HP7, HX7, HR7, HF7⟩
            case round =>
              obtain ⟨j, c, rfl, HJ, HPj, HXj, HRj, HFj⟩ := hrel
              by_cases hj : j < 1
              · have e0 : c ≤ L := by have := HLH.out; have := HJ.out; omega
                have e4 : c < 256 := by have := HLH.out; have := HJ.out; omega
                have e1 : decide ((c : Int) ≤ (L : Int)) = true := decide_eq_true (by omega)
                have e2 : decide (c ≤ L) = true := decide_eq_true e0
                have z := blk_frozen HXj.out (2 + c)
                have HJ2 := Aside0.mk hj
                have c0 := cellsP_at HXj.out c (by rw [setUp_length, HFL.out]; omega)
                have hxk := cellsP_put HXj.out c true
                rw [show (setUp f L j).set c true = setUp f L (j + 1) by rw [HJ.out.2.2]; rfl] at hxk
                have HXk := Aside0.mk hxk
                have HPk := Aside0.mk (HPj.out.cell (show g ≠ W.heap.size + 1 by have := HGW.out; omega) (2 + c) (.bool true))
                have HRk := Aside0.mk (blk_far HRj.out (p := ⟨W.heap.size + 1, 2 + c, none⟩) (show W.heap.size ≠ W.heap.size + 1 by omega) (.bool true))
                have HFk := Aside0.mk (HFj.out.fresh (show W.heap.size ≤ W.heap.size + 1 by omega) (2 + c) (.bool true))
                have hw3 : wrap64 ((c : Int) + 1) = ((c + 1 : Nat) : Int) := by unfold wrap64; omega
                clear hxk hj
                go_wp2
                go_roundg (1 - (j + 1))
                case measure => have := HJ.out; have := HJ2.out; omega
                case rel => exact ⟨j + 1, c + 1, by first | rfl | (rw [hw3]; done) | (rw [hw3]; rfl) | simp, ⟨by have := HJ2.out; omega, rfl, by have := HJ.out; omega⟩, HPk, HXk, HRk, HFk⟩
              · have hje : 1 = j := by have := HJ.out; omega
                subst hje
                have e0 : ¬ c ≤ L := by have := HLH.out; have := HJ.out; omega
                have e1 : decide ((c : Int) ≤ (L : Int)) = false := decide_eq_false (by omega)
                have e2 : decide (c ≤ L) = false := decide_eq_false e0
                have hwn : wrap64 ((n : Int) + 1) = ((n + 1 : Nat) : Int) := by have := HQ.out; unfold wrap64; omega
                go_wp2
                go_roundg (r6.length + 1)
                case measure => have := HQ.out; have := HQ2.out; omega
                case rel => exact ⟨q, setUp f L 1, n + 1, r6, _, by first | rfl | (rw [hwn]; done) | (rw [hwn]; rfl) | simp, ⟨rfl, by have := HQ.out; have := HQ2.out; omega, by have := HQ.out; have := HQ2.out; omega⟩, ⟨by rw [setUp_length]; exact HFL.out⟩, HG, HPj, HXj, HRj, HFj⟩
  · have hnd : decide (r.head? = some 33) = false := decide_eq_false hn
    go_enter Try.func26, Try.ntmps26
    go_wp2_with (go_at_call 29; refine (see31_calls B g _ s r a 33 HP2.out).mono ?_; rw [hnd]; rintro e w3 ⟨rfl, hb⟩; have HP3 := Aside0.mk (HP2.out.below hb); have HR3 := Aside0.mk (blk_below HR2.out hb); have HX3 := Aside0.mk (blk_below HX2.out hb); have HF3 := Aside0.mk (HF2.out.trans (Fr.of_below hb)); have c3 := HP3.out.c1; have z3 := blk_frozen HP3.out.blk 1; clear hb)
    have HC0 := Aside0.mk (show cls r = clsL false (r.length + 1) zeroF 0 r by rw [cls, if_neg hn])
    have HL0 := Aside0.mk (show r.length < r.length + 1 by omega)
    clear c3 z3 HP2 HR2 HX2 HF2 hst hn hnd
    go_loopg [6] (r.length + 1) (fun kq v6 w' => ∃ (q : Nat) (f : List Bool) (n : Nat) (r1 : List Int) (a1 : Nat), v6 = .int .i64 (n : Int) ∧ Aside0 (kq = r1.length + 1 ∧ n + r1.length ≤ 1000000 ∧ r1.length < q) ∧ Aside0 (f.length = 256) ∧ Aside0 (cls r = clsL false q f n r1) ∧ Aside0 (PsAt B g w' s r1 a1) ∧ Aside0 (w'.heap[W.heap.size + 1]? = some (.cells (cellsP 4 0 f) 49 (0, 0))) ∧ Aside0 (w'.heap[W.heap.size]? = some (.cells (cellsP 0 0 zeroF) 49 (0, 0))) ∧ Aside0 (Fr B [43] W w'))
    case atStart => exact ⟨_, zeroF, 0, _, _, rfl, ⟨rfl, by have := HP3.out.len; omega, HL0.out⟩, ⟨zeroF_length⟩, HC0, HP3, HX3, HR3, HF3⟩
    case round =>
      obtain ⟨q, f, n, r1, a1, rfl, HQ, HFL, HC, HP, HX, HR, HF⟩ := hrel
      obtain ⟨q, rfl⟩ : ∃ q', q = q' + 1 := ⟨q - 1, by have := HQ.out; omega⟩
      by_cases h93 : r1.head? = some 93
      · have h93d : decide (r1.head? = some 93) = true := decide_eq_true h93
        have HG := Aside0.mk ((HC.out).trans (clsL_end h93))
        have HMO := Aside0.mk (HP.out.more h93)
        have hw1 : wrap64 ((a1 : Int) + 1) = ((a1 + 1 : Nat) : Int) := by have := HP.out.len; have := HMO.out; unfold wrap64; omega
        clear h93
        go_upto_region 9 with (go_at_call 29; refine (see31_calls B g _ s r1 a1 93 HP.out).mono ?_; rw [h93d]; rintro e w5 ⟨rfl, hb⟩; have HP5 := Aside0.mk (HP.out.below hb); have HR5 := Aside0.mk (blk_below HR.out hb); have HX5 := Aside0.mk (blk_below HX.out hb); have HF5 := Aside0.mk (HF.out.trans (Fr.of_below hb)); have c5 := HP5.out.c1; have z5 := blk_frozen HP5.out.blk 1; clear hb)
        have HP6 := Aside0.mk (show PsAt B g (w5.setCell ⟨g, 1, none⟩ (.int .i64 ((a1 : Int) + 1))) s r1.tail (a1 + 1) from HP5.out.step HMO.out)
        have HR6 := Aside0.mk (blk_far HR5.out (p := ⟨g, 1, none⟩) (show W.heap.size ≠ g by have := HGW.out; omega) (.int .i64 ((a1 : Int) + 1)))
        have HX6 := Aside0.mk (blk_far HX5.out (p := ⟨g, 1, none⟩) (show W.heap.size + 1 ≠ g by have := HGW.out; omega) (.int .i64 ((a1 : Int) + 1)))
        have HF6 := Aside0.mk (HF5.out.trans ((Fr.refl B [43] w5).set HP5.out.blk HP5.out.le (by simp) 1 (.int .i64 ((a1 : Int) + 1))))
        generalize (w5.setCell ⟨g, 1, none⟩ (.int .i64 ((a1 : Int) + 1))) = w6 at HP6 HR6 HX6 HF6 ⊢
        clear c5 z5 HP5 HR5 HX5 HF5 HP HR HX HF hw1
        have hst0 : (storeCells ⟨W.heap.size, 0, none⟩ (cellsP 4 0 (f)).toList).run Try.prog w6 = .ok () (w6.setRow W.heap.size (cellsP 4 0 (f))) := store_row HR6.out (by rw [cellsP_size HFL.out, cellsP_size zeroF_length]) cellsP_one
        have hsz1 : (cellsP 4 0 (f)).size = 258 := cellsP_size HFL.out
        have hk := setRow_heap w6 W.heap.size _ (cellsP 4 0 (f)) 49 (0, 0) HR6.out
        go_upto_region 15 with (fail)
        go_step
        go_step
        refine wp_load_row 49 (.tmp 4) rfl (W.heap.size + 1) rfl 49 (cellsP 4 0 (f)) (0, 0) _ HX6.out Try.underlying49 rfl (by rw [hsz1]; exact sizeP) ?_
        go_wp2
        refine bodyPost_ret (results_ct rfl _ _ W.heap.size 49 (cellsP 4 0 (f)) (0, 0) _ rfl hk Try.underlying49 rfl (by rw [hsz1]; exact sizeP)) rfl ?_
        refine ⟨4, 0, f, decide (0 < n), by rfl, HFL.out, ⟨r1.tail, _, HP6.out.row (by have := HGW.out; omega) _, ?_⟩, HF6.out.row (Nat.le_refl _) _⟩
        by_cases hn0 : n = 0
        · exact .inl ⟨decide_eq_false (by omega), by rw [HG.out, if_pos hn0]⟩
        · exact .inr ⟨decide_eq_true (by omega), rfl, rfl, by rw [HG.out, if_neg hn0]; rfl⟩
      · have h93d : decide (r1.head? = some 93) = false := decide_eq_false h93
        obtain ⟨lo, is, r6, hpe⟩ : ∃ lo is r6, pln r1 = ((lo, is), r6) := ⟨_, _, _, rfl⟩
        have HPE := Aside0.mk hpe
        have hl6 := pln_len r1
        have hb6 := pln_byte HP.out.bytes
        rw [hpe] at hl6 hb6
        simp only at hl6 hb6
        obtain ⟨L, rfl⟩ : ∃ L : Nat, lo = (L : Int) := ⟨lo.toNat, by omega⟩
        cases is with
        | false =>
          have HG := Aside0.mk ((HC.out).trans (clsL_bad h93 (by rw [hpe])))
          clear h93 hpe hl6 hb6
          go_upto_region 18 with (first | (go_at_call 30; refine (plain31_calls B g _ s r1 a1 HP5.out).mono ?_; rw [HPE.out]; rintro e w6 ⟨rfl, ⟨a6, hp⟩, hf⟩; have HP6 := Aside0.mk (show PsAt B g w6 s r6 a6 from hp); have HR6 := Aside0.mk (hf.blk HR5.out (by decide)); have HX6 := Aside0.mk (hf.blk HX5.out (by decide)); have HF6 := Aside0.mk (HF5.out.trans hf); clear hp hf) | (go_at_call 29; refine (see31_calls B g _ s r1 a1 93 HP.out).mono ?_; rw [h93d]; rintro e w5 ⟨rfl, hb⟩; have HP5 := Aside0.mk (HP.out.below hb); have HR5 := Aside0.mk (blk_below HR.out hb); have HX5 := Aside0.mk (blk_below HX.out hb); have HF5 := Aside0.mk (HF.out.trans (Fr.of_below hb)); clear hb))
          have hst0 := zero_back HR6.out
          have hk := setRow_heap w6 W.heap.size _ (cellsP 0 0 zeroF) 49 (0, 0) HR6.out
          go_wp2
          have huP := Try.underlying49
          refine bodyPost_ret (results_ct rfl _ _ W.heap.size 49 (cellsP 0 0 zeroF) (0, 0) _ rfl hk huP rfl sizeP) rfl ?_
          refine ⟨0, 0, zeroF, false, by rfl, zeroF_length, ⟨_, _, HP6.out.row (by have := HGW.out; omega) _, .inl ⟨rfl, HG.out⟩⟩, HF6.out.row (Nat.le_refl _) _⟩
        | true =>
          have HQ6 := Aside0.mk (show r6.length < r1.length ∧ L < 256 from ⟨hl6.2 rfl, by omega⟩)
          have HH93 := Aside0.mk h93
          clear h93 hl6 hb6 hpe
          have hwL : wrap64 (L : Int) = (L : Int) := by have := HQ6.out; unfold wrap64; omega
          go_upto_region 20 with (first | (go_at_call 30; refine (plain31_calls B g _ s r1 a1 HP5.out).mono ?_; rw [HPE.out]; rintro e w6 ⟨rfl, ⟨a6, hp⟩, hf⟩; have HP6 := Aside0.mk (show PsAt B g w6 s r6 a6 from hp); have HR6 := Aside0.mk (hf.blk HR5.out (by decide)); have HX6 := Aside0.mk (hf.blk HX5.out (by decide)); have HF6 := Aside0.mk (HF5.out.trans hf); clear hp hf) | (go_at_call 29; refine (see31_calls B g _ s r1 a1 93 HP.out).mono ?_; rw [h93d]; rintro e w5 ⟨rfl, hb⟩; have HP5 := Aside0.mk (HP.out.below hb); have HR5 := Aside0.mk (blk_below HR.out hb); have HX5 := Aside0.mk (blk_below HX.out hb); have HF5 := Aside0.mk (HF.out.trans (Fr.of_below hb)); clear hb))
          clear HP HX HR HF HP5 HX5 HR5 HF5
          have y0 := HP6.out.reach0
          have y1 := HP6.out.reach1
          have HSEE := Aside0.mk (fun (u : Reach w6) => see31_calls B g u.out s r6 a6 45 (HP6.out.below u.bel))
          have hwa : wrap64 ((a6 : Int) + 1) = (a6 : Int) + 1 := by have := HP6.out.len; unfold wrap64; omega
          by_cases h45 : r6.head? = some 45
          · have h45d : decide (r6.head? = some 45) = true := decide_eq_true h45
            have hda := dash_at HP6.out.hr h45
            rw [h45d] at HSEE
            by_cases hmo : a6 + 1 < s.size
            · have e1 : decide ((a6 : Int) + 1 < (s.size : Int)) = true := decide_eq_true (by omega)
              have e2 : decide (a6 + 1 < s.size) = true := decide_eq_true hmo
              have e3 : (a6 : Int) + 1 < (s.size : Int) := by omega
              have hb0 : ∀ h : a6 + 1 < s.size, ((s[a6 + 1]'h).toNat : Int) = bt s ((a6 + 1 : Nat) : Int) := fun h' => bt_at s ((a6 + 1 : Nat) : Int) h'
              rw [e2, Bool.true_and] at hda
              have HM6 := Aside0.mk (HP6.out.more h45)
              generalize bt s ((a6 + 1 : Nat) : Int) = d at hb0 hda
              clear h45
              cases hd : (d != 93) with
              | false =>
                rw [hd] at hda
                have HDS := Aside0.mk hda
                clear hda
                have HG := Aside0.mk ((HC.out).trans (clsL_one HH93.out (by rw [HPE.out]) (by rw [HPE.out]; exact HDS.out)))
                rw [HPE.out] at HG
                have HG := Aside0.mk (show cls r = clsL false q (setUp f L 1) (n + 1) r6 from HG.out)
                refine region_reach (by kernel_rfl) (by kernel_rfl) ?_
                repeat (go_big_quiet_step ((go_at_call 29; exact calls_reach _ (HSEE.out _))))
                refine wpQuiet_nil ?_
                rintro w7 ⟨⟨_, hb⟩, rfl⟩
                have HP7 := Aside0.mk (HP6.out.below hb)
                have HR7 := Aside0.mk (blk_below HR6.out hb)
                have HX7 := Aside0.mk (blk_below HX6.out hb)
                have HF7 := Aside0.mk (HF6.out.trans (Fr.of_below hb))
                clear hb y0 y1
                clear e1 e2 e3 hb0 hd hmo
                have HLH := Aside0.mk (show L + 1 = L + 1 ∧ L < 256 from ⟨rfl, HQ6.out.2⟩)
                have HQ2 := Aside0.mk (show r6.length < r1.length from HQ6.out.1)
                go_upto_region 26 with (fail)
                try simp only [hwL, hwa]
                go_loopg [11] 1 (fun kq v11 w' => ∃ (j c : Nat), v11 = .int .i64 (c : Int) ∧ Aside0 (j ≤ 1 ∧ kq = 1 - j ∧ c = L + j) ∧ Aside0 (PsAt B g w' s r6 a6) ∧ Aside0 (w'.heap[W.heap.size + 1]? = some (.cells (cellsP 4 0 (setUp f L j)) 49 (0, 0))) ∧ Aside0 (w'.heap[W.heap.size]? = some (.cells (cellsP 0 0 zeroF) 49 (0, 0))) ∧ Aside0 (Fr B [43] W w'))
                case atStart => exact ⟨0, L, rfl, ⟨by omega, by omega, by omega⟩, HP7, HX7, HR7, HF7⟩
                case round =>
                  obtain ⟨j, c, rfl, HJ, HPj, HXj, HRj, HFj⟩ := hrel
                  by_cases hj : j < 1
                  · have e0 : c ≤ L := by have := HLH.out; have := HJ.out; omega
                    have e4 : c < 256 := by have := HLH.out; have := HJ.out; omega
                    have e1 : decide ((c : Int) ≤ (L : Int)) = true := decide_eq_true (by omega)
                    have e2 : decide (c ≤ L) = true := decide_eq_true e0
                    have z := blk_frozen HXj.out (2 + c)
                    have HJ2 := Aside0.mk hj
                    have c0 := cellsP_at HXj.out c (by rw [setUp_length, HFL.out]; omega)
                    have hxk := cellsP_put HXj.out c true
                    rw [show (setUp f L j).set c true = setUp f L (j + 1) by rw [HJ.out.2.2]; rfl] at hxk
                    have HXk := Aside0.mk hxk
                    have HPk := Aside0.mk (HPj.out.cell (show g ≠ W.heap.size + 1 by have := HGW.out; omega) (2 + c) (.bool true))
                    have HRk := Aside0.mk (blk_far HRj.out (p := ⟨W.heap.size + 1, 2 + c, none⟩) (show W.heap.size ≠ W.heap.size + 1 by omega) (.bool true))
                    have HFk := Aside0.mk (HFj.out.fresh (show W.heap.size ≤ W.heap.size + 1 by omega) (2 + c) (.bool true))
                    have hw3 : wrap64 ((c : Int) + 1) = ((c + 1 : Nat) : Int) := by unfold wrap64; omega
                    clear hxk hj
                    go_wp2
                    go_roundg (1 - (j + 1))
                    case measure => have := HJ.out; have := HJ2.out; omega
                    case rel => exact ⟨j + 1, c + 1, by first | rfl | (rw [hw3]; done) | (rw [hw3]; rfl) | simp, ⟨by have := HJ2.out; omega, rfl, by have := HJ.out; omega⟩, HPk, HXk, HRk, HFk⟩
                  · have hje : 1 = j := by have := HJ.out; omega
                    subst hje
                    have e0 : ¬ c ≤ L := by have := HLH.out; have := HJ.out; omega
                    have e1 : decide ((c : Int) ≤ (L : Int)) = false := decide_eq_false (by omega)
                    have e2 : decide (c ≤ L) = false := decide_eq_false e0
                    have hwn : wrap64 ((n : Int) + 1) = ((n + 1 : Nat) : Int) := by have := HQ.out; unfold wrap64; omega
                    go_wp2
                    go_roundg (r6.length + 1)
                    case measure => have := HQ.out; have := HQ2.out; omega
                    case rel => exact ⟨q, setUp f L 1, n + 1, r6, _, by first | rfl | (rw [hwn]; done) | (rw [hwn]; rfl) | simp, ⟨rfl, by have := HQ.out; have := HQ2.out; omega, by have := HQ.out; have := HQ2.out; omega⟩, ⟨by rw [setUp_length]; exact HFL.out⟩, HG, HPj, HXj, HRj, HFj⟩
              | true =>
                rw [hd] at hda
                have HDS := Aside0.mk hda
                clear hda
                refine region_reach (by kernel_rfl) (by kernel_rfl) ?_
                repeat (go_big_quiet_step ((go_at_call 29; exact calls_reach _ (HSEE.out _))))
                refine wpQuiet_nil ?_
                rintro w7 ⟨⟨_, hb⟩, rfl⟩
                have HP7 := Aside0.mk (HP6.out.below hb)
                have HR7 := Aside0.mk (blk_below HR6.out hb)
                have HX7 := Aside0.mk (blk_below HX6.out hb)
                have HF7 := Aside0.mk (HF6.out.trans (Fr.of_below hb))
                clear hb y0 y1
                clear e1 e2 e3 hb0 hd hmo
                have c7 := HP7.out.c1
                have z7 := blk_frozen HP7.out.blk 1
                go_upto_region 22 with (fail)
                have HP8 := Aside0.mk (show PsAt B g (w7.setCell ⟨g, 1, none⟩ (.int .i64 ((a6 : Int) + 1))) s r6.tail (a6 + 1) from HP7.out.step HM6.out)
                have HR8 := Aside0.mk (blk_far HR7.out (p := ⟨g, 1, none⟩) (show W.heap.size ≠ g by have := HGW.out; omega) (.int .i64 ((a6 : Int) + 1)))
                have HX8 := Aside0.mk (blk_far HX7.out (p := ⟨g, 1, none⟩) (show W.heap.size + 1 ≠ g by have := HGW.out; omega) (.int .i64 ((a6 : Int) + 1)))
                have HF8 := Aside0.mk (HF7.out.trans ((Fr.refl B [43] w7).set HP7.out.blk HP7.out.le (by simp) 1 (.int .i64 ((a6 : Int) + 1))))
                generalize w7.setCell ⟨g, 1, none⟩ (.int .i64 ((a6 : Int) + 1)) = w8 at HP8 HR8 HX8 HF8 ⊢
                clear c7 z7 HP7 HR7 HX7 HF7
                obtain ⟨hi, is2, r9, hpe2⟩ : ∃ hi is2 r9, pln r6.tail = ((hi, is2), r9) := ⟨_, _, _, rfl⟩
                have HPE2 := Aside0.mk hpe2
                have hl9 := pln_len r6.tail
                have hb9 := pln_byte HP8.out.bytes
                rw [hpe2] at hl9 hb9
                simp only at hl9 hb9
                obtain ⟨H, rfl⟩ : ∃ H : Nat, hi = (H : Int) := ⟨hi.toNat, by omega⟩
                have HT6 := Aside0.mk (show r6.tail.length ≤ r6.length by rw [List.length_tail]; omega)
                cases is2 with
                | false =>
                  have HG := Aside0.mk ((HC.out).trans (clsL_bad2 HH93.out (by rw [HPE.out]) (by rw [HPE.out]; exact HDS.out) (.inl (by rw [HPE.out]; show (pln r6.tail).1.2 = false; rw [hpe2]))))
                  clear hpe2 hl9 hb9
                  go_upto_region 24 with (go_at_call 30; refine (plain31_calls B g _ s r6.tail (a6 + 1) HP8.out).mono ?_; rw [HPE2.out]; rintro e w9 ⟨rfl, ⟨a9, hp⟩, hf⟩; have HP9 := Aside0.mk (show PsAt B g w9 s r9 a9 from hp); have HR9 := Aside0.mk (hf.blk HR8.out (by decide)); have HX9 := Aside0.mk (hf.blk HX8.out (by decide)); have HF9 := Aside0.mk (HF8.out.trans hf); clear hp hf)
                  have hst0 := zero_back HR9.out
                  have hk := setRow_heap w9 W.heap.size _ (cellsP 0 0 zeroF) 49 (0, 0) HR9.out
                  go_wp2
                  have huP := Try.underlying49
                  refine bodyPost_ret (results_ct rfl _ _ W.heap.size 49 (cellsP 0 0 zeroF) (0, 0) _ rfl hk huP rfl sizeP) rfl ?_
                  refine ⟨0, 0, zeroF, false, by rfl, zeroF_length, ⟨_, _, HP9.out.row (by have := HGW.out; omega) _, .inl ⟨rfl, HG.out⟩⟩, HF9.out.row (Nat.le_refl _) _⟩
                | true =>
                  by_cases hlt : (H : Int) < (L : Int)
                  · have e1 : decide ((H : Int) < (L : Int)) = true := decide_eq_true hlt
                    have e2 : decide (H < L) = true := decide_eq_true (by omega)
                    have HG := Aside0.mk ((HC.out).trans (clsL_bad2 HH93.out (by rw [HPE.out]) (by rw [HPE.out]; exact HDS.out) (.inr (by rw [HPE.out]; show (pln r6.tail).1.1 < (L : Int); rw [hpe2]; exact hlt))))
                    clear hpe2 hl9 hb9 hlt
                    go_upto_region 24 with (go_at_call 30; refine (plain31_calls B g _ s r6.tail (a6 + 1) HP8.out).mono ?_; rw [HPE2.out]; rintro e w9 ⟨rfl, ⟨a9, hp⟩, hf⟩; have HP9 := Aside0.mk (show PsAt B g w9 s r9 a9 from hp); have HR9 := Aside0.mk (hf.blk HR8.out (by decide)); have HX9 := Aside0.mk (hf.blk HX8.out (by decide)); have HF9 := Aside0.mk (HF8.out.trans hf); clear hp hf)
                    have hst0 := zero_back HR9.out
                    have hk := setRow_heap w9 W.heap.size _ (cellsP 0 0 zeroF) 49 (0, 0) HR9.out
                    go_wp2
                    have huP := Try.underlying49
                    refine bodyPost_ret (results_ct rfl _ _ W.heap.size 49 (cellsP 0 0 zeroF) (0, 0) _ rfl hk huP rfl sizeP) rfl ?_
                    refine ⟨0, 0, zeroF, false, by rfl, zeroF_length, ⟨_, _, HP9.out.row (by have := HGW.out; omega) _, .inl ⟨rfl, HG.out⟩⟩, HF9.out.row (Nat.le_refl _) _⟩
                  · have e1 : decide ((H : Int) < (L : Int)) = false := decide_eq_false hlt
                    have e2 : decide (H < L) = false := decide_eq_false (by omega)
                    have hG := ((HC.out).trans (clsL_two HH93.out (by rw [HPE.out]) (by rw [HPE.out]; exact HDS.out) (by rw [HPE.out]; show ¬ ((pln r6.tail).1.2 = false ∨ (pln r6.tail).1.1 < (L : Int)); rw [hpe2]; exact fun h => h.elim (fun h => by cases h) (fun h => hlt h))))
                    rw [HPE.out] at hG
                    simp only at hG
                    rw [hpe2] at hG
                    simp only at hG
                    rw [show ((H : Int) - (L : Int) + 1).toNat = H - L + 1 by omega, Int.toNat_natCast] at hG
                    have HG := Aside0.mk hG
                    have HLH := Aside0.mk (show L + (H - L + 1) = H + 1 ∧ H < 256 from ⟨by omega, by omega⟩)
                    have HQ2 := Aside0.mk (show r9.length < r1.length from by have := hl9.2 rfl; have := HT6.out; have := HQ6.out; omega)
                    have hwH : wrap64 (H : Int) = (H : Int) := by have := HLH.out; unfold wrap64; omega
                    clear hpe2 hl9 hb9 hlt hG
                    obtain ⟨cn, hcn⟩ : ∃ cn, cn = H - L + 1 := ⟨_, rfl⟩
                    rw [← hcn] at HLH HG
                    clear hcn
                    go_upto_region 26 with (go_at_call 30; refine (plain31_calls B g _ s r6.tail (a6 + 1) HP8.out).mono ?_; rw [HPE2.out]; rintro e w9 ⟨rfl, ⟨a9, hp⟩, hf⟩; have HP9 := Aside0.mk (show PsAt B g w9 s r9 a9 from hp); have HR9 := Aside0.mk (hf.blk HR8.out (by decide)); have HX9 := Aside0.mk (hf.blk HX8.out (by decide)); have HF9 := Aside0.mk (HF8.out.trans hf); clear hp hf)
                    try simp only [hwL, hwa, hwH]
                    clear e1 e2
                    go_loopg [11] cn (fun kq v11 w' => ∃ (j c : Nat), v11 = .int .i64 (c : Int) ∧ Aside0 (j ≤ cn ∧ kq = cn - j ∧ c = L + j) ∧ Aside0 (PsAt B g w' s r9 a9) ∧ Aside0 (w'.heap[W.heap.size + 1]? = some (.cells (cellsP 4 0 (setUp f L j)) 49 (0, 0))) ∧ Aside0 (w'.heap[W.heap.size]? = some (.cells (cellsP 0 0 zeroF) 49 (0, 0))) ∧ Aside0 (Fr B [43] W w'))
                    case atStart => exact ⟨0, L, rfl, ⟨by omega, by omega, by omega⟩, HP9, HX9, HR9, HF9⟩
                    case round =>
                      obtain ⟨j, c, rfl, HJ, HPj, HXj, HRj, HFj⟩ := hrel
                      by_cases hj : j < cn
                      · have e0 : c ≤ H := by have := HLH.out; have := HJ.out; omega
                        have e4 : c < 256 := by have := HLH.out; have := HJ.out; omega
                        have e1 : decide ((c : Int) ≤ (H : Int)) = true := decide_eq_true (by omega)
                        have e2 : decide (c ≤ H) = true := decide_eq_true e0
                        have z := blk_frozen HXj.out (2 + c)
                        have HJ2 := Aside0.mk hj
                        have c0 := cellsP_at HXj.out c (by rw [setUp_length, HFL.out]; omega)
                        have hxk := cellsP_put HXj.out c true
                        rw [show (setUp f L j).set c true = setUp f L (j + 1) by rw [HJ.out.2.2]; rfl] at hxk
                        have HXk := Aside0.mk hxk
                        have HPk := Aside0.mk (HPj.out.cell (show g ≠ W.heap.size + 1 by have := HGW.out; omega) (2 + c) (.bool true))
                        have HRk := Aside0.mk (blk_far HRj.out (p := ⟨W.heap.size + 1, 2 + c, none⟩) (show W.heap.size ≠ W.heap.size + 1 by omega) (.bool true))
                        have HFk := Aside0.mk (HFj.out.fresh (show W.heap.size ≤ W.heap.size + 1 by omega) (2 + c) (.bool true))
                        have hw3 : wrap64 ((c : Int) + 1) = ((c + 1 : Nat) : Int) := by unfold wrap64; omega
                        clear hxk hj
                        go_wp2
                        go_roundg (cn - (j + 1))
                        case measure => have := HJ.out; have := HJ2.out; omega
                        case rel => exact ⟨j + 1, c + 1, by first | rfl | (rw [hw3]; done) | (rw [hw3]; rfl) | simp, ⟨by have := HJ2.out; omega, rfl, by have := HJ.out; omega⟩, HPk, HXk, HRk, HFk⟩
                      · have hje : cn = j := by have := HJ.out; omega
                        subst hje
                        have e0 : ¬ c ≤ H := by have := HLH.out; have := HJ.out; omega
                        have e1 : decide ((c : Int) ≤ (H : Int)) = false := decide_eq_false (by omega)
                        have e2 : decide (c ≤ H) = false := decide_eq_false e0
                        have hwn : wrap64 ((n : Int) + 1) = ((n + 1 : Nat) : Int) := by have := HQ.out; unfold wrap64; omega
                        go_wp2
                        go_roundg (r9.length + 1)
                        case measure => have := HQ.out; have := HQ2.out; omega
                        case rel => exact ⟨q, setUp f L cn, n + 1, r9, _, by first | rfl | (rw [hwn]; done) | (rw [hwn]; rfl) | simp, ⟨rfl, by have := HQ.out; have := HQ2.out; omega, by have := HQ.out; have := HQ2.out; omega⟩, ⟨by rw [setUp_length]; exact HFL.out⟩, HG, HPj, HXj, HRj, HFj⟩
            · have e1 : decide ((a6 : Int) + 1 < (s.size : Int)) = false := decide_eq_false (by omega)
              have e2 : decide (a6 + 1 < s.size) = false := decide_eq_false hmo
              rw [e2, Bool.false_and] at hda
              have HDS := Aside0.mk hda
              clear hda hmo h45
              have HG := Aside0.mk ((HC.out).trans (clsL_one HH93.out (by rw [HPE.out]) (by rw [HPE.out]; exact HDS.out)))
              rw [HPE.out] at HG
              have HG := Aside0.mk (show cls r = clsL false q (setUp f L 1) (n + 1) r6 from HG.out)
              refine region_reach (by kernel_rfl) (by kernel_rfl) ?_
              repeat (go_big_quiet_step ((go_at_call 29; exact calls_reach _ (HSEE.out _))))
              refine wpQuiet_nil ?_
              rintro w7 ⟨⟨_, hb⟩, rfl⟩
              have HP7 := Aside0.mk (HP6.out.below hb)
              have HR7 := Aside0.mk (blk_below HR6.out hb)
              have HX7 := Aside0.mk (blk_below HX6.out hb)
              have HF7 := Aside0.mk (HF6.out.trans (Fr.of_below hb))
              clear hb y0 y1
              have HLH := Aside0.mk (show L + 1 = L + 1 ∧ L < 256 from ⟨rfl, HQ6.out.2⟩)
              have HQ2 := Aside0.mk (show r6.length < r1.length from HQ6.out.1)
              go_upto_region 26 with (fail)
              try simp only [hwL, hwa]
              go_loopg [11] 1 (fun kq v11 w' => ∃ (j c : Nat), v11 = .int .i64 (c : Int) ∧ Aside0 (j ≤ 1 ∧ kq = 1 - j ∧ c = L + j) ∧ Aside0 (PsAt B g w' s r6 a6) ∧ Aside0 (w'.heap[W.heap.size + 1]? = some (.cells (cellsP 4 0 (setUp f L j)) 49 (0, 0))) ∧ Aside0 (w'.heap[W.heap.size]? = some (.cells (cellsP 0 0 zeroF) 49 (0, 0))) ∧ Aside0 (Fr B [43] W w'))
              case atStart => exact ⟨0, L, rfl, ⟨by omega, by omega, by omega⟩, HP7, HX7, HR7, HF7⟩
              case round =>
                obtain ⟨j, c, rfl, HJ, HPj, HXj, HRj, HFj⟩ := hrel
                by_cases hj : j < 1
                · have e0 : c ≤ L := by have := HLH.out; have := HJ.out; omega
                  have e4 : c < 256 := by have := HLH.out; have := HJ.out; omega
                  have e1 : decide ((c : Int) ≤ (L : Int)) = true := decide_eq_true (by omega)
                  have e2 : decide (c ≤ L) = true := decide_eq_true e0
                  have z := blk_frozen HXj.out (2 + c)
                  have HJ2 := Aside0.mk hj
                  have c0 := cellsP_at HXj.out c (by rw [setUp_length, HFL.out]; omega)
                  have hxk := cellsP_put HXj.out c true
                  rw [show (setUp f L j).set c true = setUp f L (j + 1) by rw [HJ.out.2.2]; rfl] at hxk
                  have HXk := Aside0.mk hxk
                  have HPk := Aside0.mk (HPj.out.cell (show g ≠ W.heap.size + 1 by have := HGW.out; omega) (2 + c) (.bool true))
                  have HRk := Aside0.mk (blk_far HRj.out (p := ⟨W.heap.size + 1, 2 + c, none⟩) (show W.heap.size ≠ W.heap.size + 1 by omega) (.bool true))
                  have HFk := Aside0.mk (HFj.out.fresh (show W.heap.size ≤ W.heap.size + 1 by omega) (2 + c) (.bool true))
                  have hw3 : wrap64 ((c : Int) + 1) = ((c + 1 : Nat) : Int) := by unfold wrap64; omega
                  clear hxk hj
                  go_wp2
                  go_roundg (1 - (j + 1))
                  case measure => have := HJ.out; have := HJ2.out; omega
                  case rel => exact ⟨j + 1, c + 1, by first | rfl | (rw [hw3]; done) | (rw [hw3]; rfl) | simp, ⟨by have := HJ2.out; omega, rfl, by have := HJ.out; omega⟩, HPk, HXk, HRk, HFk⟩
                · have hje : 1 = j := by have := HJ.out; omega
                  subst hje
                  have e0 : ¬ c ≤ L := by have := HLH.out; have := HJ.out; omega
                  have e1 : decide ((c : Int) ≤ (L : Int)) = false := decide_eq_false (by omega)
                  have e2 : decide (c ≤ L) = false := decide_eq_false e0
                  have hwn : wrap64 ((n : Int) + 1) = ((n + 1 : Nat) : Int) := by have := HQ.out; unfold wrap64; omega
                  go_wp2
                  go_roundg (r6.length + 1)
                  case measure => have := HQ.out; have := HQ2.out; omega
                  case rel => exact ⟨q, setUp f L 1, n + 1, r6, _, by first | rfl | (rw [hwn]; done) | (rw [hwn]; rfl) | simp, ⟨rfl, by have := HQ.out; have := HQ2.out; omega, by have := HQ.out; have := HQ2.out; omega⟩, ⟨by rw [setUp_length]; exact HFL.out⟩, HG, HPj, HXj, HRj, HFj⟩
          · have h45d : decide (r6.head? = some 45) = false := decide_eq_false h45
            have HDS := Aside0.mk (dash_no h45)
            rw [h45d] at HSEE
            clear h45
            have HG := Aside0.mk ((HC.out).trans (clsL_one HH93.out (by rw [HPE.out]) (by rw [HPE.out]; exact HDS.out)))
            rw [HPE.out] at HG
            have HG := Aside0.mk (show cls r = clsL false q (setUp f L 1) (n + 1) r6 from HG.out)
            refine region_reach (by kernel_rfl) (by kernel_rfl) ?_
            repeat (go_big_quiet_step ((go_at_call 29; exact calls_reach _ (HSEE.out _))))
            refine wpQuiet_nil ?_
            rintro w7 ⟨⟨_, hb⟩, rfl⟩
            have HP7 := Aside0.mk (HP6.out.below hb)
            have HR7 := Aside0.mk (blk_below HR6.out hb)
            have HX7 := Aside0.mk (blk_below HX6.out hb)
            have HF7 := Aside0.mk (HF6.out.trans (Fr.of_below hb))
            clear hb y0 y1
            have HLH := Aside0.mk (show L + 1 = L + 1 ∧ L < 256 from ⟨rfl, HQ6.out.2⟩)
            have HQ2 := Aside0.mk (show r6.length < r1.length from HQ6.out.1)
            go_upto_region 26 with (fail)
            try simp only [hwL, hwa]
            go_loopg [11] 1 (fun kq v11 w' => ∃ (j c : Nat), v11 = .int .i64 (c : Int) ∧ Aside0 (j ≤ 1 ∧ kq = 1 - j ∧ c = L + j) ∧ Aside0 (PsAt B g w' s r6 a6) ∧ Aside0 (w'.heap[W.heap.size + 1]? = some (.cells (cellsP 4 0 (setUp f L j)) 49 (0, 0))) ∧ Aside0 (w'.heap[W.heap.size]? = some (.cells (cellsP 0 0 zeroF) 49 (0, 0))) ∧ Aside0 (Fr B [43] W w'))
            case atStart => exact ⟨0, L, rfl, ⟨by omega, by omega, by omega⟩, HP7, HX7, HR7, HF7⟩
            case round =>
              obtain ⟨j, c, rfl, HJ, HPj, HXj, HRj, HFj⟩ := hrel
              by_cases hj : j < 1
              · have e0 : c ≤ L := by have := HLH.out; have := HJ.out; omega
                have e4 : c < 256 := by have := HLH.out; have := HJ.out; omega
                have e1 : decide ((c : Int) ≤ (L : Int)) = true := decide_eq_true (by omega)
                have e2 : decide (c ≤ L) = true := decide_eq_true e0
                have z := blk_frozen HXj.out (2 + c)
                have HJ2 := Aside0.mk hj
                have c0 := cellsP_at HXj.out c (by rw [setUp_length, HFL.out]; omega)
                have hxk := cellsP_put HXj.out c true
                rw [show (setUp f L j).set c true = setUp f L (j + 1) by rw [HJ.out.2.2]; rfl] at hxk
                have HXk := Aside0.mk hxk
                have HPk := Aside0.mk (HPj.out.cell (show g ≠ W.heap.size + 1 by have := HGW.out; omega) (2 + c) (.bool true))
                have HRk := Aside0.mk (blk_far HRj.out (p := ⟨W.heap.size + 1, 2 + c, none⟩) (show W.heap.size ≠ W.heap.size + 1 by omega) (.bool true))
                have HFk := Aside0.mk (HFj.out.fresh (show W.heap.size ≤ W.heap.size + 1 by omega) (2 + c) (.bool true))
                have hw3 : wrap64 ((c : Int) + 1) = ((c + 1 : Nat) : Int) := by unfold wrap64; omega
                clear hxk hj
                go_wp2
                go_roundg (1 - (j + 1))
                case measure => have := HJ.out; have := HJ2.out; omega
                case rel => exact ⟨j + 1, c + 1, by first | rfl | (rw [hw3]; done) | (rw [hw3]; rfl) | simp, ⟨by have := HJ2.out; omega, rfl, by have := HJ.out; omega⟩, HPk, HXk, HRk, HFk⟩
              · have hje : 1 = j := by have := HJ.out; omega
                subst hje
                have e0 : ¬ c ≤ L := by have := HLH.out; have := HJ.out; omega
                have e1 : decide ((c : Int) ≤ (L : Int)) = false := decide_eq_false (by omega)
                have e2 : decide (c ≤ L) = false := decide_eq_false e0
                have hwn : wrap64 ((n : Int) + 1) = ((n + 1 : Nat) : Int) := by have := HQ.out; unfold wrap64; omega
                go_wp2
                go_roundg (r6.length + 1)
                case measure => have := HQ.out; have := HQ2.out; omega
                case rel => exact ⟨q, setUp f L 1, n + 1, r6, _, by first | rfl | (rw [hwn]; done) | (rw [hwn]; rfl) | simp, ⟨rfl, by have := HQ.out; have := HQ2.out; omega, by have := HQ.out; have := HQ2.out; omega⟩, ⟨by rw [setUp_length]; exact HFL.out⟩, HG, HPj, HXj, HRj, HFj⟩
end Go.Proofs.Ytbnlfiklkddolaa.Sep
