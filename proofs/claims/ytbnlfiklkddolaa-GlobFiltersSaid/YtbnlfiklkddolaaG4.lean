/- The walks of a part's takes and of the parser's part. Conditions: the bounds of the statements. -/
import Derived.Test.YtbnlfiklkddolaaG3
namespace Go.Proofs.Ytbnlfiklkddolaa.Sep
set_option linter.unusedSimpArgs false
set_option linter.unusedVariables false
open Go.RowKit Go.Proofs.Ytbnlfiklkddolaa.PCore Go.Proofs.Ytbnlfiklkddolaa.Plain Go.Proofs.YtbnlfiklkddolaaW.PrintWords Go.Proofs.YtbnlfiklkddolaaW.PrintLast Go.Proofs.YtbnlfiklkddolaaW.PrintMore
/-- A part as the program keeps it. -/
def elK : El → Int
  | .one _ => 1
  | .any => 2
  | .many => 3
  | .set _ => 4
def elC : El → Int
  | .one c => c
  | _ => 0
def elF : El → List Bool
  | .set f => f
  | _ => zeroF
/-- A part that may be. -/
def OkEl (x : El) : Prop := (elF x).length = 256 ∧ 0 ≤ elC x ∧ elC x < 256
abbrev cellsE (x : El) : Array Value := cellsP (elK x) (elC x) (elF x)
theorem elK_many (x : El) : (elK x == 3) = x.isMany := by cases x <;> rfl
set_option maxHeartbeats 2000000 in
set_option maxRecDepth 100000 in
theorem takes31_calls (x : El) (c : Int) (W : World) (hx : OkEl x) (hc : 0 ≤ c ∧ c < 256) :
    Calls Try.prog 22 #[.agg (cellsE x), .int .u8 c] W fun e W1 => e = .returned (.bool (x.takes c)) ∧ Below W.heap.size W W1 := by
  have hk := blk_new W (.cells (cellsE x) 49)
  have HB := Aside0.mk (below_alloc (Below.refl W.heap.size W) (.cells (cellsE x) 49))
  have k0 : (W.alloc (.cells (cellsE x) 49)).cell? ⟨W.heap.size, 0, none⟩ = some (.int .i64 (elK x)) := (blk_cell hk 0).trans rfl
  have k1 : (W.alloc (.cells (cellsE x) 49)).cell? ⟨W.heap.size, 1, none⟩ = some (.int .u8 (elC x)) := (blk_cell hk 1).trans rfl
  have e1 : c < 256 := hc.2
  have e0 : 0 ≤ c := hc.1
  obtain ⟨C, rfl⟩ : ∃ C : Nat, c = (C : Int) := ⟨c.toNat, by omega⟩
  have k2 := cellsP_at hk C (by rw [hx.1]; omega)
  have hC : C < 256 := by omega
  have hsz : (cellsE x).size = 258 := cellsP_size hx.1
  have HX := Aside0.mk hx
  cases x with
  | one d =>
    go_enter Try.func22, Try.ntmps22
    go_wp2
    go_ret
    exact ⟨by first | rfl | simp, HB.out⟩
  | any =>
    go_enter Try.func22, Try.ntmps22
    go_wp2
    go_ret
    exact ⟨by first | rfl | simp, HB.out⟩
  | many =>
    go_enter Try.func22, Try.ntmps22
    go_wp2
    go_ret
    exact ⟨by first | rfl | simp, HB.out⟩
  | set f =>
    go_enter Try.func22, Try.ntmps22
    go_wp2
    go_ret
    exact ⟨by first | rfl | simp, HB.out⟩
/-- What part answers. -/
def PrtAns (B g : Nat) (W : World) (s : ByteArray) (res : Option (El × List Int)) (e : Ending) (W1 : World) : Prop :=
  ∃ x y f b, e = .returned (.tuple #[.agg (cellsP x y f), .bool b]) ∧ f.length = 256 ∧ (∃ r' a', PsAt B g W1 s r' a' ∧ ((b = false ∧ res = none) ∨ (b = true ∧ ∃ el, x = elK el ∧ y = elC el ∧ f = elF el ∧ res = some (el, r')))) ∧ Fr B [43] W W1
set_option maxHeartbeats 16000000 in
set_option maxRecDepth 100000 in
theorem part31_calls (B g : Nat) (W : World) (s : ByteArray) (c : Int) (l : List Int) (a : Nat) (h : PsAt B g W s (c :: l) a) :
    Calls Try.prog 21 #[.pointer (some ⟨g, 0, none⟩)] W fun e W1 => PrtAns B g W s (prt (c :: l)) e W1 := by
  have hz := zeroP
  have hs0 := fun v => cellsP_set0 (k := 0) (c := 0) (f := zeroF) v
  have hs0L := fun v => cellsP_set0L (k := 0) (c := 0) (f := zeroF) v
  have hs1 := fun v => cellsP_set1 (k := 1) (c := 0) (f := zeroF) v
  have hs1L := fun v => cellsP_set1L (k := 1) (c := 0) (f := zeroF) v
  have hsz0 : (cellsP 0 0 zeroF).size = 258 := cellsP_size zeroF_length
  have HP1 := Aside0.mk (h.below (below_alloc (Below.refl _ _) (.cells (cellsP 0 0 zeroF) 49)))
  have HR1 := Aside0.mk (blk_new W (.cells (cellsP 0 0 zeroF) 49))
  have HF1 := Aside0.mk ((Fr.refl B [43] W).allocs (.cells (cellsP 0 0 zeroF) 49))
  have HGW := Aside0.mk (show g < W.heap.size from blk_lt h.blk)
  clear h
  by_cases h42 : c = 42
  · subst h42
    have HE := Aside0.mk (show prt (42 :: l) = some (.many, l) by simp [prt])
    go_enter Try.func21, Try.ntmps21
    go_upto_region 4 with (first | (go_at_call 25; refine (next31_calls B g _ s ((42 : Int) :: l) a HP1.out).mono ?_; rw [show nxt ((42 : Int) :: l) = ((42, true), l) from rfl]; rintro e w2 ⟨rfl, ⟨a2, hp⟩, hf⟩; have HP2 := Aside0.mk (show PsAt B g w2 s l a2 from hp); have HR2 := Aside0.mk (hf.blk HR1.out (by decide)); have HF2 := Aside0.mk (HF1.out.trans hf); clear hp hf))
    have hsz1 : (cellsP 3 0 zeroF).size = 258 := cellsP_size zeroF_length
    have hst0 : (storeCells ⟨W.heap.size, 0, none⟩ (cellsP 3 0 zeroF).toList).run Try.prog w2 = .ok () (w2.setRow W.heap.size (cellsP 3 0 zeroF)) := store_row HR2.out (hsz1.trans hsz0.symm) cellsP_one
    have hk := setRow_heap w2 W.heap.size _ (cellsP 3 0 zeroF) 49 (0, 0) HR2.out
    go_wp2
    refine bodyPost_ret (results_ct rfl _ _ W.heap.size 49 (cellsP 3 0 zeroF) (0, 0) _ rfl hk Try.underlying49 rfl (by rw [hsz1]; exact sizeP)) rfl ?_
    exact ⟨3, 0, zeroF, true, by rfl, zeroF_length, ⟨l, _, HP2.out.row (by have := HGW.out; omega) _, .inr ⟨rfl, .many, rfl, rfl, rfl, HE.out⟩⟩, HF2.out.row (Nat.le_refl _) _⟩
  have d42 : (c == 42) = false := beq_eq_false_iff_ne.mpr h42
  by_cases h63 : c = 63
  · subst h63
    have HE := Aside0.mk (show prt (63 :: l) = some (.any, l) by simp [prt])
    go_enter Try.func21, Try.ntmps21
    go_upto_region 6 with (first | (go_at_call 25; refine (next31_calls B g _ s ((63 : Int) :: l) a HP1.out).mono ?_; rw [show nxt ((63 : Int) :: l) = ((63, true), l) from rfl]; rintro e w2 ⟨rfl, ⟨a2, hp⟩, hf⟩; have HP2 := Aside0.mk (show PsAt B g w2 s l a2 from hp); have HR2 := Aside0.mk (hf.blk HR1.out (by decide)); have HF2 := Aside0.mk (HF1.out.trans hf); clear hp hf))
    have hsz1 : (cellsP 2 0 zeroF).size = 258 := cellsP_size zeroF_length
    have hst0 : (storeCells ⟨W.heap.size, 0, none⟩ (cellsP 2 0 zeroF).toList).run Try.prog w2 = .ok () (w2.setRow W.heap.size (cellsP 2 0 zeroF)) := store_row HR2.out (hsz1.trans hsz0.symm) cellsP_one
    have hk := setRow_heap w2 W.heap.size _ (cellsP 2 0 zeroF) 49 (0, 0) HR2.out
    go_wp2
    refine bodyPost_ret (results_ct rfl _ _ W.heap.size 49 (cellsP 2 0 zeroF) (0, 0) _ rfl hk Try.underlying49 rfl (by rw [hsz1]; exact sizeP)) rfl ?_
    exact ⟨2, 0, zeroF, true, by rfl, zeroF_length, ⟨l, _, HP2.out.row (by have := HGW.out; omega) _, .inr ⟨rfl, .any, rfl, rfl, rfl, HE.out⟩⟩, HF2.out.row (Nat.le_refl _) _⟩
  have d63 : (c == 63) = false := beq_eq_false_iff_ne.mpr h63
  by_cases h91 : c = 91
  · subst h91
    have HE := Aside0.mk (show prt (91 :: l) = (cls l).map (fun p => (.set p.1, p.2)) by simp [prt])
    go_enter Try.func21, Try.ntmps21
    go_wp2_with (first | (go_at_call 26; refine (class31_calls B g _ s l a2 HP2.out).mono ?_; rintro e w3 ⟨x, y, f, b, rfl, hfl, hans, hf⟩; have HA3 := Aside0.mk hans; have HFL := Aside0.mk hfl; have HR3 := Aside0.mk (hf.blk HR2.out (by decide)); have HF3 := Aside0.mk (HF2.out.trans hf); have hsz1 : (cellsP x y f).size = 258 := cellsP_size hfl; have hst0 : (storeCells ⟨W.heap.size, 0, none⟩ (cellsP x y f).toList).run Try.prog w3 = .ok () (w3.setRow W.heap.size (cellsP x y f)) := store_row HR3.out (hsz1.trans hsz0.symm) cellsP_one; have hk := setRow_heap w3 W.heap.size _ (cellsP x y f) 49 (0, 0) HR3.out; clear hans hf hfl) | (go_at_call 25; refine (next31_calls B g _ s ((91 : Int) :: l) a HP1.out).mono ?_; rw [show nxt ((91 : Int) :: l) = ((91, true), l) from rfl]; rintro e w2 ⟨rfl, ⟨a2, hp⟩, hf⟩; have HP2 := Aside0.mk (show PsAt B g w2 s l a2 from hp); have HR2 := Aside0.mk (hf.blk HR1.out (by decide)); have HF2 := Aside0.mk (HF1.out.trans hf); clear hp hf))
    refine bodyPost_ret (results_ct rfl _ _ W.heap.size 49 (cellsP x y f) (0, 0) _ rfl hk Try.underlying49 rfl (by rw [hsz1]; exact sizeP)) rfl ?_
    obtain ⟨r', a', hp', hor⟩ := HA3.out
    refine ⟨x, y, f, b, by rfl, HFL.out, ⟨r', a', hp'.row (by have := HGW.out; omega) _, ?_⟩, HF3.out.row (Nat.le_refl _) _⟩
    rw [HE.out]
    rcases hor with ⟨rfl, h⟩ | ⟨rfl, rfl, rfl, h⟩
    · exact .inl ⟨rfl, by rw [h]; rfl⟩
    · exact .inr ⟨rfl, .set f, rfl, rfl, rfl, by rw [h]; rfl⟩
  have d91 : (c == 91) = false := beq_eq_false_iff_ne.mpr h91
  by_cases h93 : c = 93
  · subst h93
    have HE := Aside0.mk (show prt (93 :: l) = none by simp [prt])
    go_enter Try.func21, Try.ntmps21
    go_upto_region 10 with (first | (go_at_call 25; refine (next31_calls B g _ s ((93 : Int) :: l) a HP1.out).mono ?_; rw [show nxt ((93 : Int) :: l) = ((93, true), l) from rfl]; rintro e w2 ⟨rfl, ⟨a2, hp⟩, hf⟩; have HP2 := Aside0.mk (show PsAt B g w2 s l a2 from hp); have HR2 := Aside0.mk (hf.blk HR1.out (by decide)); have HF2 := Aside0.mk (HF1.out.trans hf); clear hp hf))
    have hsz1 : (cellsP 0 0 zeroF).size = 258 := cellsP_size zeroF_length
    have hst0 : (storeCells ⟨W.heap.size, 0, none⟩ (cellsP 0 0 zeroF).toList).run Try.prog w2 = .ok () (w2.setRow W.heap.size (cellsP 0 0 zeroF)) := store_row HR2.out (hsz1.trans hsz0.symm) cellsP_one
    have hk := setRow_heap w2 W.heap.size _ (cellsP 0 0 zeroF) 49 (0, 0) HR2.out
    go_wp2
    refine bodyPost_ret (results_ct rfl _ _ W.heap.size 49 (cellsP 0 0 zeroF) (0, 0) _ rfl hk Try.underlying49 rfl (by rw [hsz1]; exact sizeP)) rfl ?_
    exact ⟨0, 0, zeroF, false, by rfl, zeroF_length, ⟨_, _, HP2.out.row (by have := HGW.out; omega) _, .inl ⟨rfl, HE.out⟩⟩, HF2.out.row (Nat.le_refl _) _⟩
  have d93 : (c == 93) = false := beq_eq_false_iff_ne.mpr h93
  by_cases h92 : c = 92
  · subst h92
    obtain ⟨d, is, l3, hnx⟩ : ∃ d is l3, nxt l = ((d, is), l3) := ⟨_, _, _, rfl⟩
    have HNX := Aside0.mk hnx
    cases is with
    | false =>
      have HE := Aside0.mk (show prt (92 :: l) = none by simp [prt, hnx])
      clear hnx
      go_enter Try.func21, Try.ntmps21
      go_upto_region 13 with (first | (go_at_call 25; have hq := HP2.out; clear hq; refine (next31_calls B g _ s l a2 HP2.out).mono ?_; rw [HNX.out]; rintro e w3 ⟨rfl, ⟨a3, hp⟩, hf⟩; have HP3 := Aside0.mk (show PsAt B g w3 s l3 a3 from hp); have HR3 := Aside0.mk (hf.blk HR2.out (by decide)); have HF3 := Aside0.mk (HF2.out.trans hf); clear hp hf) | (go_at_call 25; refine (next31_calls B g _ s ((92 : Int) :: l) a HP1.out).mono ?_; rw [show nxt ((92 : Int) :: l) = ((92, true), l) from rfl]; rintro e w2 ⟨rfl, ⟨a2, hp⟩, hf⟩; have HP2 := Aside0.mk (show PsAt B g w2 s l a2 from hp); have HR2 := Aside0.mk (hf.blk HR1.out (by decide)); have HF2 := Aside0.mk (HF1.out.trans hf); clear hp hf))
      have hsz1 : (cellsP 1 d zeroF).size = 258 := cellsP_size zeroF_length
      have hst0 : (storeCells ⟨W.heap.size, 0, none⟩ (cellsP 1 d zeroF).toList).run Try.prog w3 = .ok () (w3.setRow W.heap.size (cellsP 1 d zeroF)) := store_row HR3.out (hsz1.trans hsz0.symm) cellsP_one
      have hk := setRow_heap w3 W.heap.size _ (cellsP 1 d zeroF) 49 (0, 0) HR3.out
      go_wp2
      refine bodyPost_ret (results_ct rfl _ _ W.heap.size 49 (cellsP 1 d zeroF) (0, 0) _ rfl hk Try.underlying49 rfl (by rw [hsz1]; exact sizeP)) rfl ?_
      exact ⟨1, d, zeroF, false, by rfl, zeroF_length, ⟨_, _, HP3.out.row (by have := HGW.out; omega) _, .inl ⟨rfl, HE.out⟩⟩, HF3.out.row (Nat.le_refl _) _⟩
    | true =>
      have HE := Aside0.mk (show prt (92 :: l) = some (.one d, l3) by simp [prt, hnx])
      clear hnx
      go_enter Try.func21, Try.ntmps21
      go_upto_region 13 with (first | (go_at_call 25; have hq := HP2.out; clear hq; refine (next31_calls B g _ s l a2 HP2.out).mono ?_; rw [HNX.out]; rintro e w3 ⟨rfl, ⟨a3, hp⟩, hf⟩; have HP3 := Aside0.mk (show PsAt B g w3 s l3 a3 from hp); have HR3 := Aside0.mk (hf.blk HR2.out (by decide)); have HF3 := Aside0.mk (HF2.out.trans hf); clear hp hf) | (go_at_call 25; refine (next31_calls B g _ s ((92 : Int) :: l) a HP1.out).mono ?_; rw [show nxt ((92 : Int) :: l) = ((92, true), l) from rfl]; rintro e w2 ⟨rfl, ⟨a2, hp⟩, hf⟩; have HP2 := Aside0.mk (show PsAt B g w2 s l a2 from hp); have HR2 := Aside0.mk (hf.blk HR1.out (by decide)); have HF2 := Aside0.mk (HF1.out.trans hf); clear hp hf))
      have hsz1 : (cellsP 1 d zeroF).size = 258 := cellsP_size zeroF_length
      have hst0 : (storeCells ⟨W.heap.size, 0, none⟩ (cellsP 1 d zeroF).toList).run Try.prog w3 = .ok () (w3.setRow W.heap.size (cellsP 1 d zeroF)) := store_row HR3.out (hsz1.trans hsz0.symm) cellsP_one
      have hk := setRow_heap w3 W.heap.size _ (cellsP 1 d zeroF) 49 (0, 0) HR3.out
      go_wp2
      refine bodyPost_ret (results_ct rfl _ _ W.heap.size 49 (cellsP 1 d zeroF) (0, 0) _ rfl hk Try.underlying49 rfl (by rw [hsz1]; exact sizeP)) rfl ?_
      exact ⟨1, d, zeroF, true, by rfl, zeroF_length, ⟨l3, _, HP3.out.row (by have := HGW.out; omega) _, .inr ⟨rfl, .one d, rfl, rfl, rfl, HE.out⟩⟩, HF3.out.row (Nat.le_refl _) _⟩
  have d92 : (c == 92) = false := beq_eq_false_iff_ne.mpr h92
  have HE := Aside0.mk (show prt (c :: l) = some (.one c, l) by simp only [prt]; rw [if_neg h42, if_neg h63, if_neg h91, if_neg h93, if_neg h92])
  clear h42 h63 h91 h93 h92
  go_enter Try.func21, Try.ntmps21
  go_upto_region 14 with (first | (go_at_call 25; refine (next31_calls B g _ s (c :: l) a HP1.out).mono ?_; rw [show nxt (c :: l) = ((c, true), l) from rfl]; rintro e w2 ⟨rfl, ⟨a2, hp⟩, hf⟩; have HP2 := Aside0.mk (show PsAt B g w2 s l a2 from hp); have HR2 := Aside0.mk (hf.blk HR1.out (by decide)); have HF2 := Aside0.mk (HF1.out.trans hf); clear hp hf))
  have hsz1 : (cellsP 1 c zeroF).size = 258 := cellsP_size zeroF_length
  have hst0 : (storeCells ⟨W.heap.size, 0, none⟩ (cellsP 1 c zeroF).toList).run Try.prog w2 = .ok () (w2.setRow W.heap.size (cellsP 1 c zeroF)) := store_row HR2.out (hsz1.trans hsz0.symm) cellsP_one
  have hk := setRow_heap w2 W.heap.size _ (cellsP 1 c zeroF) 49 (0, 0) HR2.out
  go_wp2
  refine bodyPost_ret (results_ct rfl _ _ W.heap.size 49 (cellsP 1 c zeroF) (0, 0) _ rfl hk Try.underlying49 rfl (by rw [hsz1]; exact sizeP)) rfl ?_
  exact ⟨1, c, zeroF, true, by rfl, zeroF_length, ⟨l, _, HP2.out.row (by have := HGW.out; omega) _, .inr ⟨rfl, .one c, rfl, rfl, rfl, HE.out⟩⟩, HF2.out.row (Nat.le_refl _) _⟩
end Go.Proofs.Ytbnlfiklkddolaa.Sep
