/- The walk of the reference's Match. Conditions: the bounds of the statements. -/
import Derived.Test.YtbnlfiklkddolaaG14
import Derived.Test.YtbnlfiklkddolaaG6
import Derived.Deep.OwnRows
namespace Go.Proofs.Ytbnlfiklkddolaa.Sep
set_option linter.unusedSimpArgs false
set_option linter.unusedVariables false
open Go.RowKit Go.Proofs.Ytbnlfiklkddolaa.PCore Go.Proofs.Ytbnlfiklkddolaa.Plain Go.Proofs.YtbnlfiklkddolaaW.PrintWords Go.Proofs.YtbnlfiklkddolaaW.PrintLast Go.Proofs.YtbnlfiklkddolaaW.PrintMore
theorem at_ElR {w : World} {A : Option Addr} {n : Nat} {xs : List El} (h : Kd.C kER w A n xs) (i : Nat) (hi : i < n) : ∃ ad, A = some ad ∧ (rF (xs.getD i .any)).length = 256 ∧ ∀ j v, (cellsRE (xs.getD i .any)).toList[j]? = some v → w.cell? ((ad.add (i * 259)).add j) = some v := by
  obtain ⟨ad, c, e, hl, ⟨h1, h2⟩, hc⟩ := ReadsRow.get_ h .any (i : Int) (by omega) (by omega)
  rw [Int.toNat_natCast] at h1 h2 hc
  refine ⟨ad, e, h1, fun j v hv => ?_⟩
  rw [add_add]
  exact hc j v (by rw [h2]; exact hv)
/-- What an element's set says of a byte. -/
theorem rF_takes {x : El} (hm : x.isMany = false) (h : (rF x).length = 256) (hc : 0 ≤ elC x ∧ elC x < 256) (d : Nat) (hd : d < 256) : (rF x).getD d false = x.takes (d : Int) := by
  cases x with
  | one c =>
    obtain ⟨C, rfl⟩ : ∃ C : Nat, c = (C : Int) := ⟨c.toNat, by have : elC (.one c) = c := rfl; omega⟩
    show (zeroF.set ((C : Int)).toNat true).getD d false = ((C : Int) == (d : Int))
    rw [Int.toNat_natCast, List.getD_eq_getElem?_getD, List.getElem?_set]
    have hz : zeroF.length = 256 := zeroF_length
    by_cases e : C = d
    · subst e
      rw [if_pos rfl, if_pos (by rw [hz]; exact hd), Option.getD_some, beq_self_eq_true]
    · have e2 : ((C : Int) == (d : Int)) = false := beq_eq_false_iff_ne.mpr (by omega)
      rw [if_neg e, e2]
      unfold zeroF
      rw [List.getElem?_replicate]
      split <;> rfl
  | any =>
    show (setUp zeroF 0 256).getD d false = true
    rw [setUp_get _ _ _ (by rw [zeroF_length]; exact hd)]
    simp [hd]
  | many => cases hm
  | set f => rfl
theorem mtB_many (p : List El) (s : List Int) (i : Nat) (hi : i ≤ s.length) : mtB (p ++ [.many]) (s.take i) = (mtB p (s.take i) || (decide (0 < i) && mtB (p ++ [.many]) (s.take (i - 1)))) := by
  have h := mt_snoc_many p s i hi
  by_cases h1 : Mt p (s.take i)
  · rw [mtB_t (h.2 (.inl h1)), mtB_t h1, Bool.true_or]
  · rw [mtB_f h1, Bool.false_or]
    by_cases h2 : 0 < i
    · rw [decide_eq_true h2, Bool.true_and]
      by_cases h3 : Mt (p ++ [.many]) (s.take (i - 1))
      · rw [mtB_t h3, mtB_t (h.2 (.inr ⟨h2, h3⟩))]
      · rw [mtB_f h3, mtB_f (fun h4 => (h.1 h4).elim h1 (fun h5 => h3 h5.2))]
    · rw [decide_eq_false h2, Bool.false_and, mtB_f (fun h4 => (h.1 h4).elim h1 (fun h5 => h2 h5.1))]
theorem mtB_one (p : List El) (x : El) (hx : x.isMany = false) (s : List Int) (i : Nat) (hi : i ≤ s.length) : mtB (p ++ [x]) (s.take i) = (decide (0 < i) && (mtB p (s.take (i - 1)) && x.takes (s.getD (i - 1) 0))) := by
  have h := mt_snoc_one p x hx s i hi
  by_cases h1 : 0 < i
  · rw [decide_eq_true h1, Bool.true_and]
    by_cases h2 : Mt p (s.take (i - 1))
    · rw [mtB_t h2, Bool.true_and]
      cases h3 : x.takes (s.getD (i - 1) 0) with
      | true => exact mtB_t (h.2 ⟨h1, h2, h3⟩)
      | false => exact mtB_f (fun h4 => by rw [(h.1 h4).2.2] at h3; cases h3)
    · rw [mtB_f h2, Bool.false_and, mtB_f (fun h4 => h2 (h.1 h4).2.1)]
  · rw [decide_eq_false h1, Bool.false_and, mtB_f (fun h4 => h1 (h.1 h4).1)]
theorem mtB_nil (s : List Int) (i : Nat) (hi : i ≤ s.length) : mtB [] (s.take i) = decide (i = 0) := by
  by_cases h : i = 0
  · rw [decide_eq_true h]; exact mtB_t ((mt_take0 s i hi).2 h)
  · rw [decide_eq_false h]; exact mtB_f (fun h2 => h ((mt_take0 s i hi).1 h2))
/-- Block b is a row of n bools. -/
def RowB (w : World) (b n : Nat) (f : Nat → Bool) : Prop := w.rowIs b 4 n (fun j => .bool (f j))
theorem RowB.cell {w : World} {b n : Nat} {f : Nat → Bool} (h : RowB w b n f) {i : Nat} (hi : i < n) : w.cell? ⟨b, i, none⟩ = some (.bool (f i)) := World.rowIs.cell h hi
theorem RowB.frozen {w : World} {b n : Nat} {f : Nat → Bool} (h : RowB w b n f) (i : Nat) : w.frozen? ⟨b, i, none⟩ = false := World.rowIs.frozen h i
theorem RowB.lt {w : World} {b n : Nat} {f : Nat → Bool} (h : RowB w b n f) : b < w.heap.size := World.rowIs.lt h
theorem RowB.made (w : World) (n : Nat) : RowB (w.alloc (.cells (madeCells #[.bool false] n) 4)) w.heap.size n (fun j => decide (j < 0) && false) :=
  (World.rowIs_made w (.bool false) n 4).congr fun i _ => by simp
theorem RowB.first {w : World} {b n : Nat} (h : RowB w b n (fun j => decide (j < 0) && false)) (s : List Int) (hn : n = s.length + 1) : RowB (w.setCell ⟨b, 0, none⟩ (.bool true)) b n (fun j => mtB [] (s.take j)) :=
  (World.rowIs.set h 0 (.bool true)).congr fun i hi => by
    show (if i = 0 then Value.bool true else Value.bool (decide (i < 0) && false)) = Value.bool (mtB [] (s.take i))
    rw [mtB_nil s i (by omega)]
    by_cases e : i = 0
    · rw [if_pos e, decide_eq_true e]
    · rw [if_neg e, decide_eq_false e]; simp
theorem RowB.zero {w : World} {b n : Nat} (h : RowB w b n (fun j => decide (j < 0) && false)) (f : Nat → Bool) : RowB w b n (fun j => decide (j < 0) && f j) :=
  World.rowIs.congr h fun i _ => by simp
theorem RowB.put {w : World} {b n i : Nat} {f : Nat → Bool} (h : RowB w b n (fun j => decide (j < i) && f j)) (v : Bool) (hv : f i = v) : RowB (w.setCell ⟨b, i, none⟩ (.bool v)) b n (fun j => decide (j < i + 1) && f j) :=
  (World.rowIs.set h i (.bool v)).congr fun j hj => by
    show (if j = i then Value.bool v else Value.bool (decide (j < i) && f j)) = Value.bool (decide (j < i + 1) && f j)
    by_cases e : j = i
    · subst e
      rw [if_pos rfl, hv, decide_eq_true (Nat.lt_succ_self _), Bool.true_and]
    · rw [if_neg e]
      congr 2
      exact decide_eq_decide.2 ⟨fun h => by omega, fun h => by omega⟩
theorem RowB.skip {w : World} {b n i : Nat} {f : Nat → Bool} (h : RowB w b n (fun j => decide (j < i) && f j)) (hv : f i = false) : RowB w b n (fun j => decide (j < i + 1) && f j) :=
  World.rowIs.congr h fun j hj => by
    show Value.bool (decide (j < i) && f j) = Value.bool (decide (j < i + 1) && f j)
    by_cases e : j = i
    · subst e
      rw [hv, Bool.and_false, Bool.and_false]
    · congr 2
      exact decide_eq_decide.2 ⟨fun h => by omega, fun h => by omega⟩
theorem RowB.all {w : World} {b n : Nat} {f : Nat → Bool} (h : RowB w b n (fun j => decide (j < n) && f j)) : RowB w b n f :=
  World.rowIs.congr h fun j hj => by
    show Value.bool (decide (j < n) && f j) = Value.bool (f j)
    rw [decide_eq_true hj, Bool.true_and]
theorem RowB.other {w : World} {b n : Nat} {f : Nat → Bool} (h : RowB w b n f) {a : Addr} (ha : b ≠ a.block) (v : Value) : RowB (w.setCell a v) b n f := World.rowIs.setOther h ha v
theorem RowB.below {B : Nat} {w w1 : World} {b n : Nat} {f : Nat → Bool} (h : RowB w b n f) (hb : Below B w w1) (hB : b < B) : RowB w1 b n f := World.rowIs.of_block h (hb.block b hB)
theorem boolInfo : (Try.prog.info? 4).map (fun i => (i.zero, i.size, i.bytes)) = some (some (.bool false), 1, 1) := by kernel_rfl
set_option maxHeartbeats 32000000 in
set_option maxRecDepth 100000 in
theorem rmatch_calls (p s : ByteArray) (l : List El) (W : World) (hp : p.size ≤ 1000) (hs : s.size ≤ 1000) (hpat : pat (bytesOf p) = some l) :
    Calls Try.prog 12 #[.string p, .string s] W fun e W1 => e = .returned (.bool (mtB l (bytesOf s))) ∧ Below W.heap.size W W1 := by
  have HPZ := Aside0.mk hp
  have HPA := Aside0.mk hpat
  obtain ⟨n, hn⟩ : ∃ z, z = s.size + 1 := ⟨_, rfl⟩
  have HN := Aside0.mk hn
  have HNS := Aside0.mk (show n = (bytesOf s).length + 1 by rw [bytesOf_length]; exact hn)
  have HSZ := Aside0.mk hs
  have hwn : wrap64 ((s.size : Int) + 1) = (n : Int) := by unfold wrap64; omega
  have hmk := fun w => run_make_row' (P := Try.prog) 56 4 (.bool false) 1 Try.underlying56 boolInfo rfl .i64 .i64 n (by omega) (by omega) w
  have n1 : (0 : Int) < (n : Int) := by omega
  have n2 : decide ((0 : Int) < (n : Int)) = true := decide_eq_true n1
  have n3 : 0 < n := by omega
  have n4 : decide (0 < n) = true := decide_eq_true n3
  have hz := zeroR
  have hsz0 : (cellsR zeroF false false 0).size = 259 := cellsR_size zeroF_length
  clear hp hpat hn hs
  go_enter Try.func12, Try.ntmps12
  go_upto_region 3 with (go_at_call 23; refine (rpattern_calls p _ HPZ.out).mono ?_; rintro e w2 ⟨hb, hm⟩; rw [HPA.out] at hm; obtain ⟨A, n0, rfl, hC, hl, hx⟩ := hm; have HB2 := Aside0.mk hb; have HC2 := Aside0.mk hC; have HL := Aside0.mk hl; have HOK := Aside0.mk hx; clear hb hC hl hx)
  obtain ⟨ga, hga⟩ : ∃ z, z = w2.heap.size := ⟨_, rfl⟩
  have HA0 := Aside0.mk (RowB.made w2 n)
  have HB3 := Aside0.mk (below_alloc HB2.out (.cells (madeCells #[.bool false] n) 4))
  have HC3 := Aside0.mk (below_alloc (Below.refl w2.heap.size w2) (.cells (madeCells #[.bool false] n) 4))
  have HGA := Aside0.mk (show W.heap.size ≤ ga by rw [hga]; exact HB2.out.size)
  have HGC := Aside0.mk (show w2.heap.size ≤ ga by rw [hga]; exact Nat.le_refl _)
  generalize w2.alloc (.cells (madeCells #[.bool false] n) 4) = w3 at HA0 HB3 HC3 ⊢
  rw [← hga] at HA0 ⊢
  clear hga
  have z := HA0.out.frozen 0
  have c0 := HA0.out.cell (i := 0) n3
  have HA1 := Aside0.mk (HA0.out.first (bytesOf s) HNS.out)
  have HB4 := Aside0.mk (below_set (j := 0) (v := .bool true) HB3.out HGA.out)
  have HC4 := Aside0.mk (Kd.C_below HC2.out (below_set (j := 0) (v := .bool true) HC3.out HGC.out))
  go_upto_region 4 with (fail)
  generalize w3.setCell ⟨ga, 0, none⟩ (.bool true) = w4 at HA1 HB4 HC4 ⊢
  clear z c0 HA0 HB3 HC3
  go_wp2
  try simp only [hwn]
  go_loopg [7, 25] l.length (fun kq v7 v25 w' => ∃ k gb : Nat, v7 = .slice (some ⟨gb, 0, none⟩) n n ∧ v25 = .int .i64 (k : Int) ∧ Aside0 (k ≤ l.length ∧ kq = l.length - k) ∧ Aside0 (RowB w' gb n (fun j => mtB (l.take k) ((bytesOf s).take j))) ∧ Aside0 (Below W.heap.size W w') ∧ Aside0 (Below w4.heap.size w4 w'))
  case atStart => exact ⟨0, ga, rfl, rfl, ⟨by omega, by omega⟩, HA1, HB4, ⟨Below.refl _ _⟩⟩
  case round =>
    obtain ⟨k, gb, rfl, rfl, HK, HA, HB, HBX⟩ := hrel
    by_cases hlt : k < l.length
    · obtain ⟨ad, hA, hfl, hcells⟩ := at_ElR (Kd.C_below HC4.out HBX.out) k hlt
      subst hA
      have hoke := HOK.out (l.getD k .any) (by rw [List.getD_eq_getElem?_getD, List.getElem?_eq_getElem hlt]; exact List.getElem_mem hlt)
      have htk : l.take (k + 1) = l.take k ++ [l.getD k .any] := by
        rw [List.take_succ_eq_append_getElem hlt]
        congr 2
        rw [List.getD_eq_getElem?_getD, List.getElem?_eq_getElem hlt]; rfl
      obtain ⟨x, hx⟩ : ∃ x, x = l.getD k .any := ⟨_, rfl⟩
      rw [← hx] at hfl hcells hoke htk
      have HOE := Aside0.mk hoke.2
      have HFL := Aside0.mk hfl
      have HCE := Aside0.mk hcells
      have HTK := Aside0.mk htk
      have hlt' : (k : Int) < (l.length : Int) := by omega
      obtain ⟨k1, hk1⟩ : ∃ z, z = k + 1 := ⟨_, rfl⟩
      have HWK := Aside0.mk (show wrap64 ((k : Int) + 1) = (k1 : Int) by have := HL.out; have := HPZ.out; unfold wrap64; omega)
      have HK1 := Aside0.mk (show k1 = k + 1 ∧ k1 ≤ l.length by omega)
      have hst0 : (storeCells ⟨wr.heap.size, 0, none⟩ (cellsRE x).toList).run Try.prog (wr.alloc (.cells (cellsR zeroF false false 0) 58)) = .ok () (wr.alloc (.cells (cellsRE x) 58)) := (store_row (blk_new _ _) ((cellsR_size hfl).trans hsz0.symm) cellsR_one).trans (congrArg (Result.ok ()) (World.setRow_alloc_new _ _ _ _))
      have hsz1 : (cellsRE x).size = 259 := cellsR_size hfl
      clear hcells hoke hx hfl htk hk1 hlt
      go_upto_region 6 with (fail)
      go_step
      go_step
      go_step
      go_step
      go_step
      refine wp_load_at 58 (.tmp 27) rfl (ad.add (k * 259)) rfl (cellsRE x).toList _ HCE.out Try.underlying58 rfl (by rw [Array.length_toList, hsz1]; exact sizeR) ?_
      simp only [Act.put, List.setIfInBounds_toArray, List.set_cons_zero, List.set_cons_succ, Array.toArray_toList]
      go_upto_region 7 with (fail)
      obtain ⟨gx, hgx⟩ : ∃ z, z = wr.heap.size := ⟨_, rfl⟩
      have HX1 := Aside0.mk (blk_new wr (.cells (cellsRE x) 58))
      have HB1 := Aside0.mk (below_alloc HB.out (.cells (cellsRE x) 58))
      have HBX1 := Aside0.mk (below_alloc HBX.out (.cells (cellsRE x) 58))
      have HA1' := Aside0.mk (HA.out.below (below_alloc (Below.refl wr.heap.size wr) (.cells (cellsRE x) 58)) HA.out.lt)
      have HGB := Aside0.mk (show gb < gx by rw [hgx]; exact HA.out.lt)
      have HGX := Aside0.mk (show W.heap.size ≤ gx ∧ w4.heap.size ≤ gx by rw [hgx]; exact ⟨HB.out.size, HBX.out.size⟩)
      have HGS := Aside0.mk (show gx < (wr.alloc (.cells (cellsRE x) 58)).heap.size by rw [← size_one, hgx]; omega)
      clear hst0 HA HB HBX
      generalize wr.alloc (.cells (cellsRE x) 58) = w5 at HX1 HB1 HBX1 HA1' HGS ⊢
      rw [← hgx] at HX1 ⊢
      clear hgx
      go_upto_region 8 with (fail)
      obtain ⟨gn, hgn⟩ : ∃ z, z = w5.heap.size := ⟨_, rfl⟩
      have HNa := Aside0.mk (RowB.made w5 n)
      have HX2 := Aside0.mk ((Deep.blk_alloc_lt w5 (.cells (madeCells #[.bool false] n) 4) gx HGS.out).trans HX1.out)
      have HA2 := Aside0.mk (HA1'.out.below (below_alloc (Below.refl w5.heap.size w5) (.cells (madeCells #[.bool false] n) 4)) HA1'.out.lt)
      have HB2' := Aside0.mk (below_alloc HB1.out (.cells (madeCells #[.bool false] n) 4))
      have HBX2 := Aside0.mk (below_alloc HBX1.out (.cells (madeCells #[.bool false] n) 4))
      have HGN := Aside0.mk (show gx < gn ∧ gb < gn ∧ W.heap.size ≤ gn ∧ w4.heap.size ≤ gn by rw [hgn]; have h1 := HGS.out; have h2 := HGB.out; have h3 := HGX.out; exact ⟨h1, by omega, by omega, by omega⟩)
      generalize w5.alloc (.cells (madeCells #[.bool false] n) 4) = w6 at HNa HX2 HA2 HB2' HBX2 ⊢
      rw [← hgn] at HNa ⊢
      clear hgn HX1 HB1 HBX1 HA1' HGS HGX HGB
      have HN0 := Aside0.mk (HNa.out.zero (fun j => mtB (l.take k ++ [x]) ((bytesOf s).take j)))
      clear HNa hsz1 hlt'
      go_wp2
      go_loopg [11] n (fun kq v11 w' => ∃ i : Nat, v11 = .int .i64 (i : Int) ∧ Aside0 (i ≤ n ∧ kq = n - i) ∧ Aside0 (w'.heap[gx]? = some (.cells (cellsRE x) 58 (0, 0))) ∧ Aside0 (RowB w' gb n (fun j => mtB (l.take k) ((bytesOf s).take j))) ∧ Aside0 (RowB w' gn n (fun j => decide (j < i) && mtB (l.take k ++ [x]) ((bytesOf s).take j))) ∧ Aside0 (Below W.heap.size W w') ∧ Aside0 (Below w4.heap.size w4 w'))
      case atStart => exact ⟨0, rfl, ⟨by omega, by omega⟩, HX2, HA2, HN0, HB2', HBX2⟩
      case round =>
        obtain ⟨i, rfl, HI, HXi, HAi, HNi, HBi, HBXi⟩ := hrel
        clear HX2 HA2 HN0 HB2' HBX2
        generalize wr = w7 at HXi HAi HNi HBi HBXi ⊢
        by_cases hi : i < n
        · have e1 : decide ((i : Int) ≤ (s.size : Int)) = true := decide_eq_true (by have := HN.out; omega)
          have e2 : (i : Int) ≤ (s.size : Int) := by have := HN.out; omega
          have e3 : i ≤ s.size := by have := HN.out; omega
          have e4 : decide (i ≤ s.size) = true := decide_eq_true e3
          have i1 : (i : Int) < (n : Int) := by omega
          have i2 : decide ((i : Int) < (n : Int)) = true := decide_eq_true i1
          have i4 : decide (i < n) = true := decide_eq_true hi
          have HIS := Aside0.mk (show i ≤ (bytesOf s).length by rw [bytesOf_length]; exact e3)
          obtain ⟨nx, hnx⟩ : ∃ z, z = i + 1 := ⟨_, rfl⟩
          have HWN := Aside0.mk (show wrap64 ((i : Int) + 1) = (nx : Int) by have := HN.out; have := HSZ.out; unfold wrap64; omega)
          have HNX := Aside0.mk (show nx = i + 1 ∧ i < n by omega)
          have HNXE := Aside0.mk hnx
          clear hnx
          have kM := (blk_cell HXi.out 256).trans (cellsR_tail HFL.out).1
          obtain ⟨u, cN⟩ : ∃ u, w7.cell? ⟨gn, i, none⟩ = some (.bool u) := ⟨_, HNi.out.cell hi⟩
          have zN := HNi.out.frozen i
          have HSX := Aside0.mk (fun v => show (w7.setCell ⟨gn, i, none⟩ v).heap[gx]? = some (.cells (cellsRE x) 58 (0, 0)) by rw [Below.heap_setCell _ _ _ _ (by have := HGN.out.1; show gx ≠ gn; omega)]; exact HXi.out)
          have HSA := Aside0.mk (fun v => HAi.out.other (a := ⟨gn, i, none⟩) (show gb ≠ gn by have := HGN.out.2.1; omega) v)
          have HSB := Aside0.mk (fun v => below_set (j := i) (v := v) HBi.out HGN.out.2.2.1)
          have HSBX := Aside0.mk (fun v => below_set (j := i) (v := v) HBXi.out HGN.out.2.2.2)
          cases hm : x.isMany with
          | true =>
            rw [hm] at kM
            have HPM := Aside0.mk (show mtB (l.take k ++ [x]) ((bytesOf s).take i) = (mtB (l.take k) ((bytesOf s).take i) || (decide (0 < i) && mtB (l.take k ++ [x]) ((bytesOf s).take (i - 1)))) by rw [isMany_eq hm]; exact mtB_many (l.take k) (bytesOf s) i HIS.out)
            obtain ⟨b, hb⟩ : ∃ b, b = mtB (l.take k) ((bytesOf s).take i) := ⟨_, rfl⟩
            have cA : w7.cell? ⟨gb, i, none⟩ = some (.bool b) := by rw [hb]; exact HAi.out.cell hi
            have HBB := Aside0.mk hb
            clear hb
            cases b with
            | true =>
              have HV := Aside0.mk (show mtB (l.take k ++ [x]) ((bytesOf s).take i) = true by rw [HPM.out, ← HBB.out, Bool.true_or])
              clear hi hm
              have HN1 := Aside0.mk (show RowB (w7.setCell ⟨gn, i, none⟩ (.bool true)) gn n (fun j => decide (j < nx) && mtB (l.take k ++ [x]) ((bytesOf s).take j)) by rw [HNXE.out]; exact HNi.out.put true HV.out)
              go_wp2
              go_roundg (n - nx)
              case measure => have := HI.out; have := HNX.out; omega
              case rel =>
                refine ⟨nx, ?_, ⟨?_⟩, ?_, ?_, ?_, ?_, ?_⟩
                · first | rfl | (rw [HWN.out]; done) | simp
                · exact ⟨by have := HNX.out; omega, rfl⟩
                · exact ⟨HSX.out _⟩
                · exact ⟨HSA.out _⟩
                · exact HN1
                · exact ⟨HSB.out _⟩
                · exact ⟨HSBX.out _⟩
            | false =>
              by_cases hi0 : 0 < i
              · obtain ⟨j, hj⟩ : ∃ j, j = i - 1 := ⟨_, rfl⟩
                have f1 : decide ((0 : Int) < (i : Int)) = true := decide_eq_true (by omega)
                have f2 : decide (0 < i) = true := decide_eq_true hi0
                have hwj : wrap64 ((i : Int) - 1) = (j : Int) := by have := HN.out; have := HSZ.out; unfold wrap64; omega
                have j1 : (j : Int) < (n : Int) := by omega
                have j2 : decide ((j : Int) < (n : Int)) = true := decide_eq_true j1
                have j3 : j < n := by omega
                have j4 : decide (j < n) = true := decide_eq_true j3
                obtain ⟨c, hc⟩ : ∃ c, c = mtB (l.take k ++ [x]) ((bytesOf s).take j) := ⟨_, rfl⟩
                have cJ : w7.cell? ⟨gn, j, none⟩ = some (.bool c) := by
                  have h := HNi.out.cell j3
                  rw [decide_eq_true (show j < i by omega), Bool.true_and, ← hc] at h
                  exact h
                have HV := Aside0.mk (show mtB (l.take k ++ [x]) ((bytesOf s).take i) = c by rw [HPM.out, ← HBB.out, Bool.false_or, f2, Bool.true_and, ← hj, hc])
                clear hi hj hc hi0 hm
                have HN1 := Aside0.mk (show RowB (w7.setCell ⟨gn, i, none⟩ (.bool c)) gn n (fun j => decide (j < nx) && mtB (l.take k ++ [x]) ((bytesOf s).take j)) by rw [HNXE.out]; exact HNi.out.put c HV.out)
                go_wp2
                go_roundg (n - nx)
                case measure => have := HI.out; have := HNX.out; omega
                case rel =>
                  refine ⟨nx, ?_, ⟨?_⟩, ?_, ?_, ?_, ?_, ?_⟩
                  · first | rfl | (rw [HWN.out]; done) | simp
                  · exact ⟨by have := HNX.out; omega, rfl⟩
                  · exact ⟨HSX.out _⟩
                  · exact ⟨HSA.out _⟩
                  · exact HN1
                  · exact ⟨HSB.out _⟩
                  · exact ⟨HSBX.out _⟩
              · have f1 : decide ((0 : Int) < (i : Int)) = false := decide_eq_false (by omega)
                have f2 : decide (0 < i) = false := decide_eq_false hi0
                have HV := Aside0.mk (show mtB (l.take k ++ [x]) ((bytesOf s).take i) = false by rw [HPM.out, ← HBB.out, Bool.false_or, f2, Bool.false_and])
                clear hi hi0 hm
                have HN1 := Aside0.mk (show RowB (w7.setCell ⟨gn, i, none⟩ (.bool false)) gn n (fun j => decide (j < nx) && mtB (l.take k ++ [x]) ((bytesOf s).take j)) by rw [HNXE.out]; exact HNi.out.put false HV.out)
                go_wp2
                go_roundg (n - nx)
                case measure => have := HI.out; have := HNX.out; omega
                case rel =>
                  refine ⟨nx, ?_, ⟨?_⟩, ?_, ?_, ?_, ?_, ?_⟩
                  · first | rfl | (rw [HWN.out]; done) | simp
                  · exact ⟨by have := HNX.out; omega, rfl⟩
                  · exact ⟨HSX.out _⟩
                  · exact ⟨HSA.out _⟩
                  · exact HN1
                  · exact ⟨HSB.out _⟩
                  · exact ⟨HSBX.out _⟩
          | false =>
            rw [hm] at kM
            have HPM := Aside0.mk (mtB_one (l.take k) x hm (bytesOf s) i HIS.out)
            by_cases hi0 : 0 < i
            · obtain ⟨j, hj⟩ : ∃ j, j = i - 1 := ⟨_, rfl⟩
              have f1 : decide ((0 : Int) < (i : Int)) = true := decide_eq_true (by omega)
              have f2 : decide (0 < i) = true := decide_eq_true hi0
              have hwj : wrap64 ((i : Int) - 1) = (j : Int) := by have := HN.out; have := HSZ.out; unfold wrap64; omega
              have j1 : (j : Int) < (n : Int) := by omega
              have j2 : decide ((j : Int) < (n : Int)) = true := decide_eq_true j1
              have j3 : j < n := by omega
              have j4 : decide (j < n) = true := decide_eq_true j3
              obtain ⟨b, hb⟩ : ∃ b, b = mtB (l.take k) ((bytesOf s).take j) := ⟨_, rfl⟩
              have cJ : w7.cell? ⟨gb, j, none⟩ = some (.bool b) := by rw [hb]; exact HAi.out.cell j3
              cases b with
              | true =>
                have hjs : j < s.size := by omega
                have k1' : (j : Int) < (s.size : Int) := by omega
                have k2' : decide ((j : Int) < (s.size : Int)) = true := decide_eq_true k1'
                have k4' : decide (j < s.size) = true := decide_eq_true hjs
                obtain ⟨d, hd⟩ : ∃ z, z = bt s (j : Int) := ⟨_, rfl⟩
                have hby := bt_byte s j hjs
                rw [← hd] at hby
                obtain ⟨C, rfl⟩ : ∃ C : Nat, d = (C : Int) := ⟨d.toNat, by omega⟩
                have hbt : ∀ h : j < s.size, ((s[j]'h).toNat : Int) = (C : Int) := fun h => by rw [hd]; exact bt_at s ((j : Nat) : Int) h
                have hC : C < 256 := by omega
                have hC2 : decide (C < 256) = true := decide_eq_true hC
                obtain ⟨v, hv⟩ : ∃ v, v = (rF x).getD C false := ⟨_, rfl⟩
                have cX : w7.cell? ⟨gx, C, none⟩ = some (.bool v) := by rw [hv]; exact cellsR_at HXi.out C (by rw [HFL.out]; exact hC)
                have HV := Aside0.mk (show mtB (l.take k ++ [x]) ((bytesOf s).take i) = v by rw [HPM.out, f2, Bool.true_and, ← hj, ← hb, Bool.true_and, bytes_getD, ← hd, hv, rF_takes hm HFL.out HOE.out C hC])
                clear hi hj hb hi0 hm hd hv hby
                have HN1 := Aside0.mk (show RowB (w7.setCell ⟨gn, i, none⟩ (.bool v)) gn n (fun j => decide (j < nx) && mtB (l.take k ++ [x]) ((bytesOf s).take j)) by rw [HNXE.out]; exact HNi.out.put v HV.out)
                go_wp2
                go_roundg (n - nx)
                case measure => have := HI.out; have := HNX.out; omega
                case rel =>
                  refine ⟨nx, ?_, ⟨?_⟩, ?_, ?_, ?_, ?_, ?_⟩
                  · first | rfl | (rw [HWN.out]; done) | simp
                  · exact ⟨by have := HNX.out; omega, rfl⟩
                  · exact ⟨HSX.out _⟩
                  · exact ⟨HSA.out _⟩
                  · exact HN1
                  · exact ⟨HSB.out _⟩
                  · exact ⟨HSBX.out _⟩
              | false =>
                have HV := Aside0.mk (show mtB (l.take k ++ [x]) ((bytesOf s).take i) = false by rw [HPM.out, f2, Bool.true_and, ← hj, ← hb, Bool.false_and])
                clear hi hj hb hi0 hm
                have HN1 := Aside0.mk (show RowB (w7.setCell ⟨gn, i, none⟩ (.bool false)) gn n (fun j => decide (j < nx) && mtB (l.take k ++ [x]) ((bytesOf s).take j)) by rw [HNXE.out]; exact HNi.out.put false HV.out)
                go_wp2
                go_roundg (n - nx)
                case measure => have := HI.out; have := HNX.out; omega
                case rel =>
                  refine ⟨nx, ?_, ⟨?_⟩, ?_, ?_, ?_, ?_, ?_⟩
                  · first | rfl | (rw [HWN.out]; done) | simp
                  · exact ⟨by have := HNX.out; omega, rfl⟩
                  · exact ⟨HSX.out _⟩
                  · exact ⟨HSA.out _⟩
                  · exact HN1
                  · exact ⟨HSB.out _⟩
                  · exact ⟨HSBX.out _⟩
            · have f1 : decide ((0 : Int) < (i : Int)) = false := decide_eq_false (by omega)
              have f2 : decide (0 < i) = false := decide_eq_false hi0
              have HV := Aside0.mk (show mtB (l.take k ++ [x]) ((bytesOf s).take i) = false by rw [HPM.out, f2, Bool.false_and])
              clear hi hi0 hm
              have HN1 := Aside0.mk (show RowB w7 gn n (fun j => decide (j < nx) && mtB (l.take k ++ [x]) ((bytesOf s).take j)) by rw [HNXE.out]; exact HNi.out.skip HV.out)
              go_wp2
              go_roundg (n - nx)
              case measure => have := HI.out; have := HNX.out; omega
              case rel =>
                refine ⟨nx, ?_, ⟨?_⟩, ?_, ?_, ?_, ?_, ?_⟩
                · first | rfl | (rw [HWN.out]; done) | simp
                · exact ⟨by have := HNX.out; omega, rfl⟩
                · exact HXi
                · exact HAi
                · exact HN1
                · exact HBi
                · exact HBXi
        · have hie : i = n := by have := HI.out; omega
          subst hie
          have e1 : decide ((i : Int) ≤ (s.size : Int)) = false := decide_eq_false (by have := HN.out; omega)
          have e2 : ¬ (i : Int) ≤ (s.size : Int) := by have := HN.out; omega
          have e4 : decide (i ≤ s.size) = false := decide_eq_false (by have := HN.out; omega)
          have HR := Aside0.mk (show RowB w7 gn i (fun j => mtB (l.take k1) ((bytesOf s).take j)) by rw [HK1.out.1, HTK.out]; exact HNi.out.all)
          go_wp2
          go_roundg (l.length - k1)
          case measure => have := HK.out; have := HK1.out; omega
          case rel =>
            refine ⟨k1, gn, ?_, ?_, ⟨?_⟩, ?_, ?_, ?_⟩
            · rfl
            · first | rfl | (rw [HWK.out]; done) | simp
            · exact ⟨HK1.out.2, rfl⟩
            · exact HR
            · exact HBi
            · exact HBXi
    · have hke : k = l.length := by have := HK.out; omega
      have hlt' : ¬ (k : Int) < (l.length : Int) := by omega
      have s1 : (s.size : Int) < (n : Int) := by have := HN.out; omega
      have s2 : decide ((s.size : Int) < (n : Int)) = true := decide_eq_true s1
      have s3 : s.size < n := by omega
      have s4 : decide (s.size < n) = true := decide_eq_true s3
      have cF : World.cell? wr ⟨gb, s.size, none⟩ = some (.bool (mtB l (bytesOf s))) := by
        have h := HA.out.cell s3
        rw [hke, List.take_length, List.take_of_length_le (by rw [bytesOf_length]; exact Nat.le_refl _)] at h
        exact h
      clear hke
      go_wp2
      go_ret
      exact ⟨rfl, HB.out⟩
end Go.Proofs.Ytbnlfiklkddolaa.Sep
