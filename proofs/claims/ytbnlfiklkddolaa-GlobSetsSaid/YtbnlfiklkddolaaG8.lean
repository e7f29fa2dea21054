/- The walk of the law GlobSets. Conditions: none beyond the statement's own. -/
import Derived.Test.YtbnlfiklkddolaaG7
namespace Go.Proofs.Ytbnlfiklkddolaa.Sep
set_option linter.unusedSimpArgs false
set_option linter.unusedVariables false
open Go.RowKit Go.Proofs.Ytbnlfiklkddolaa.PCore Go.Proofs.Ytbnlfiklkddolaa.Plain Go.Proofs.YtbnlfiklkddolaaW.PrintWords Go.Proofs.YtbnlfiklkddolaaW.PrintLast Go.Proofs.YtbnlfiklkddolaaW.PrintMore
theorem sets_bad (lo hi : Int) (h : hi < lo) : pat [91, 92, lo, 45, 92, hi, 93] = none ∧ pat [91, 33, 92, lo, 45, 92, hi, 93] = none := by
  constructor <;> simp [pat, patL, prt, cls, clsL, pln, nxt, dash, h]
theorem sets_ok (lo hi : Int) (h : ¬ hi < lo) : pat [91, 92, lo, 45, 92, hi, 93] = some [.set (setUp zeroF lo.toNat (hi - lo + 1).toNat)] ∧ pat [91, 33, 92, lo, 45, 92, hi, 93] = some [.set ((setUp zeroF lo.toNat (hi - lo + 1).toNat).map (!·))] := by
  constructor <;> simp [pat, patL, prt, cls, clsL, pln, nxt, dash, h]
theorem mt_set (f : List Bool) (c : Int) : mtB [.set f] [c] = f.getD c.toNat false := by
  cases h : f.getD c.toNat false with
  | true => exact mtB_t (by rw [mt_one_cons rfl]; exact ⟨h, rfl⟩)
  | false => exact mtB_f (by rw [mt_one_cons rfl]; rintro ⟨h2, _⟩; rw [show (El.set f).takes c = f.getD c.toNat false from rfl, h] at h2; cases h2)
theorem mt_set0 (f : List Bool) : mtB [.set f] [] = false := mtB_f (mt_one_nil rfl _)
theorem mt_set2 (f : List Bool) (c d : Int) : mtB [.set f] [c, d] = false := mtB_f (by rw [mt_one_cons rfl]; rintro ⟨_, h⟩; cases h)
theorem zeroF_get (i : Nat) : zeroF.getD i false = false := by
  unfold zeroF
  rw [List.getD_eq_getElem?_getD, List.getElem?_replicate]
  split <;> rfl
theorem set_in (lo hi c : Int) (hlo : 0 ≤ lo) (hl : ¬ hi < lo) (hc : 0 ≤ c ∧ c < 256) : (setUp zeroF lo.toNat (hi - lo + 1).toNat).getD c.toNat false = (decide (lo ≤ c) && decide (c ≤ hi)) := by
  rw [setUp_get zeroF lo.toNat c.toNat (by rw [zeroF_length]; omega), zeroF_get, Bool.false_or]
  congr 1
  · exact decide_eq_decide.2 ⟨fun h => by omega, fun h => by omega⟩
  · exact decide_eq_decide.2 ⟨fun h => by omega, fun h => by omega⟩
theorem set_out (f : List Bool) (c : Int) (hc : c.toNat < f.length) : (f.map (!·)).getD c.toNat false = !(f.getD c.toNat false) := by
  simp [List.getD, hc]
theorem str_one (c : Int) : (strOfNums [c]).size = 1 := rfl
theorem conv_one (c : Int) (hc : 0 ≤ c ∧ c < 256) (w : World) : (convert 23 9 (.slice (some ⟨w.heap.size, 0, none⟩) 1 1)).run Try.prog (w.alloc (.cells #[.int .u8 c] 5)) = .ok (.string (strOfNums [c])) (w.alloc (.cells #[.int .u8 c] 5)) :=
  Kd.C_string (P := Try.prog) (A := some ⟨w.heap.size, 0, none⟩) (c := 1) Try.underlying23 Try.underlying5 Try.underlying9 (lit_reads .u8 5 w [c] (by simp))
theorem conv_two (c : Int) (hc : 0 ≤ c ∧ c < 256) (w : World) (o : Obj) : (convert 23 9 (.slice (some ⟨w.heap.size + 1, 0, none⟩) 1 1)).run Try.prog ((w.alloc o).alloc (.cells #[.int .u8 c] 5)) = .ok (.string (strOfNums [c])) ((w.alloc o).alloc (.cells #[.int .u8 c] 5)) := by
  rw [size_one w o]
  exact conv_one c hc (w.alloc o)
theorem wf_u8 {a : Int} (h : (Lit.int .u8 a).wf = true) : 0 ≤ a ∧ a < 256 := by
  simp [Lit.wf, IntKind.min, IntKind.max, IntKind.signed, IntKind.bits] at h
  omega
theorem bytes_t (lo hi : Int) (h0 : 0 ≤ lo ∧ lo < 256) (h1 : 0 ≤ hi ∧ hi < 256) : bytesOf ((⟨#[91]⟩ : ByteArray) ++ (⟨#[92]⟩ ++ strOfNums [lo] ++ ⟨#[45, 92]⟩ ++ strOfNums [hi] ++ ⟨#[93]⟩)) = [91, 92, lo, 45, 92, hi, 93] ∧ bytesOf ((⟨#[91, 33]⟩ : ByteArray) ++ (⟨#[92]⟩ ++ strOfNums [lo] ++ ⟨#[45, 92]⟩ ++ strOfNums [hi] ++ ⟨#[93]⟩)) = [91, 33, 92, lo, 45, 92, hi, 93] := by
  constructor <;> (simp only [bytesOf_append]; rw [bytes_str [lo] (by simpa using h0), bytes_str [hi] (by simpa using h1)]; rfl)
theorem size_t (lo hi : Int) : (((⟨#[91]⟩ : ByteArray) ++ (⟨#[92]⟩ ++ strOfNums [lo] ++ ⟨#[45, 92]⟩ ++ strOfNums [hi] ++ ⟨#[93]⟩))).size ≤ 100 ∧ (((⟨#[91, 33]⟩ : ByteArray) ++ (⟨#[92]⟩ ++ strOfNums [lo] ++ ⟨#[45, 92]⟩ ++ strOfNums [hi] ++ ⟨#[93]⟩))).size ≤ 100 := by
  constructor <;> (simp only [ByteArray.size_append, str_size]; exact Nat.le_of_ble_eq_true rfl)
set_option maxHeartbeats 16000000 in
set_option maxRecDepth 100000 in
theorem globSets_walk (lo hi c : Int) (W : World) (h0 : (Lit.int .u8 lo).wf = true) (h1 : (Lit.int .u8 hi).wf = true) (h2 : (Lit.int .u8 c).wf = true) :
    Calls Try.prog 3 #[.int .u8 lo, .int .u8 hi, .int .u8 c] W fun e W1 => e = .returned (.bool true) ∧ Below W.heap.size W W1 := by
  have b0 := wf_u8 h0
  have b1 := wf_u8 h1
  have b2 := wf_u8 h2
  have cv := fun w => conv_one lo b0 w
  have cv2 := fun w o => conv_two hi b1 w o
  have cv3 := fun w => conv_one c b2 w
  have HS := Aside0.mk (size_t lo hi)
  have hbt := bytes_t lo hi b0 b1
  have h3 := bytes_str [c] (by simpa using b2)
  have h4 : bytesOf (strOfNums [c] ++ strOfNums [c]) = [c, c] := by rw [bytesOf_append, h3]; rfl
  by_cases hl : hi < lo
  · obtain ⟨p1, p2⟩ := sets_bad lo hi hl
    rw [← hbt.1] at p1
    rw [← hbt.2] at p2
    have HP1 := Aside0.mk p1
    have HP2 := Aside0.mk p2
    have e1 : decide (hi < lo) = true := decide_eq_true hl
    clear hbt h3 h4 p1 p2 h0 h1 h2 b0 b1 b2 hl
    go_enter Try.func3, Try.ntmps3
    go_wp2_with (first | (go_at_call 9; have hq := HB2.out; clear hq; refine (parse_bad HS.out.2 HP2.out _).mono ?_; rintro e w3 ⟨rfl, hb⟩; have HB3 := Aside0.mk (below_step HB2.out hb); clear hb) | (go_at_call 9; refine (parse_bad HS.out.1 HP1.out _).mono ?_; rintro e w2 ⟨rfl, hb⟩; have HB2 := Aside0.mk (below_step (below_alloc (below_alloc HB1.out _) _) hb); clear hb) | (go_at_call 8; refine (awake31_calls _).mono ?_; rintro e w1 ⟨rfl, hb⟩; have HB1 := Aside0.mk hb; clear hb))
    go_ret
    exact ⟨rfl, below_alloc HB3.out _⟩
  · obtain ⟨p1, p2⟩ := sets_ok lo hi hl
    rw [← hbt.1] at p1
    rw [← hbt.2] at p2
    have HP1 := Aside0.mk p1
    have HP2 := Aside0.mk p2
    have e1 : decide (hi < lo) = false := decide_eq_false hl
    have m1 := mt_set (setUp zeroF lo.toNat (hi - lo + 1).toNat) c
    rw [set_in lo hi c b0.1 hl b2, ← h3] at m1
    have m2 := mt_set ((setUp zeroF lo.toNat (hi - lo + 1).toNat).map (!·)) c
    rw [set_out _ c (by rw [setUp_length, zeroF_length]; omega), set_in lo hi c b0.1 hl b2, ← h3] at m2
    have m3 : mtB [.set (setUp zeroF lo.toNat (hi - lo + 1).toNat)] (bytesOf ⟨#[]⟩) = false := mt_set0 _
    have m4 := mt_set2 (setUp zeroF lo.toNat (hi - lo + 1).toNat) c c
    rw [← h4] at m4
    have M1 := Aside0.mk m1
    have M2 := Aside0.mk m2
    have M3 := Aside0.mk m3
    have M4 := Aside0.mk m4
    have s1 : (strOfNums [c]).size ≤ 1000000 := by rw [str_one]; decide
    have s2 : (strOfNums [c] ++ strOfNums [c]).size ≤ 1000000 := by rw [ByteArray.size_append, str_one]; decide
    have S1 := Aside0.mk s1
    have S2 := Aside0.mk s2
    clear hbt h3 h4 p1 p2 h0 h1 h2 b0 b1 m1 m2 m3 m4 s1 s2 hl
    generalize setUp zeroF lo.toNat (hi - lo + 1).toNat = f at HP1 HP2 M1 M2 M3 M4
    cases d1 : decide (lo ≤ c) with
    | false =>
      rw [d1, Bool.false_and] at M1 M2
      clear b2
      go_enter Try.func3, Try.ntmps3
      go_wp2_with (first | (go_at_call 10; have hq := HB6.out; clear hq; refine (match31_calls g _ _ (strOfNums [c] ++ strOfNums [c]) _ (HG3.out.below HBX6.out) S2.out).mono ?_; rw [M4.out]; rintro e w7 ⟨rfl, hb⟩; have HB7 := Aside0.mk (below_step HB6.out hb); clear hb) | (go_at_call 10; have hq := HB5.out; clear hq; refine (match31_calls g _ _ ⟨#[]⟩ _ (HG3.out.below HBX5.out) (by decide)).mono ?_; rw [M3.out]; rintro e w6 ⟨rfl, hb⟩; have HB6 := Aside0.mk (below_step HB5.out hb); have HBX6 := Aside0.mk (below_step HBX5.out hb); clear hb) | (go_at_call 10; have hq := HB4.out; clear hq; refine (match31_calls h _ _ (strOfNums [c]) _ (HH3.out.below HBX4.out) S1.out).mono ?_; rw [M2.out]; rintro e w5 ⟨rfl, hb⟩; have HB5 := Aside0.mk (below_step HB4.out hb); have HBX5 := Aside0.mk (below_step HBX4.out hb); clear hb) | (go_at_call 10; refine (match31_calls g _ _ (strOfNums [c]) _ (HG3.out.below (below_alloc (Below.refl _ _) _)) S1.out).mono ?_; rw [M1.out]; rintro e w4 ⟨rfl, hb⟩; have HB4 := Aside0.mk (below_step (below_alloc HB3.out _) hb); have HBX4 := Aside0.mk (below_step (below_alloc (Below.refl _ _) _) hb); clear hb) | (go_at_call 9; have hq := HB2.out; clear hq; refine (parse_ok HS.out.2 HP2.out _).mono ?_; rintro e w3 ⟨h, rfl, hg, hb⟩; have HB3 := Aside0.mk (below_step HB2.out hb); have HG3 := Aside0.mk (HG2.out.below hb); have HH3 := Aside0.mk hg; clear hb hg) | (go_at_call 9; refine (parse_ok HS.out.1 HP1.out _).mono ?_; rintro e w2 ⟨g, rfl, hg, hb⟩; have HB2 := Aside0.mk (below_step (below_alloc (below_alloc HB1.out _) _) hb); have HG2 := Aside0.mk hg; clear hb hg) | (go_at_call 8; refine (awake31_calls _).mono ?_; rintro e w1 ⟨rfl, hb⟩; have HB1 := Aside0.mk hb; clear hb))
      go_ret
      exact ⟨rfl, HB7.out⟩
    | true =>
      rw [d1, Bool.true_and] at M1 M2
      cases d2 : decide (c ≤ hi) with
      | false =>
        rw [d2] at M1 M2
        clear b2
        go_enter Try.func3, Try.ntmps3
        go_wp2_with (first | (go_at_call 10; have hq := HB6.out; clear hq; refine (match31_calls g _ _ (strOfNums [c] ++ strOfNums [c]) _ (HG3.out.below HBX6.out) S2.out).mono ?_; rw [M4.out]; rintro e w7 ⟨rfl, hb⟩; have HB7 := Aside0.mk (below_step HB6.out hb); clear hb) | (go_at_call 10; have hq := HB5.out; clear hq; refine (match31_calls g _ _ ⟨#[]⟩ _ (HG3.out.below HBX5.out) (by decide)).mono ?_; rw [M3.out]; rintro e w6 ⟨rfl, hb⟩; have HB6 := Aside0.mk (below_step HB5.out hb); have HBX6 := Aside0.mk (below_step HBX5.out hb); clear hb) | (go_at_call 10; have hq := HB4.out; clear hq; refine (match31_calls h _ _ (strOfNums [c]) _ (HH3.out.below HBX4.out) S1.out).mono ?_; rw [M2.out]; rintro e w5 ⟨rfl, hb⟩; have HB5 := Aside0.mk (below_step HB4.out hb); have HBX5 := Aside0.mk (below_step HBX4.out hb); clear hb) | (go_at_call 10; refine (match31_calls g _ _ (strOfNums [c]) _ (HG3.out.below (below_alloc (Below.refl _ _) _)) S1.out).mono ?_; rw [M1.out]; rintro e w4 ⟨rfl, hb⟩; have HB4 := Aside0.mk (below_step (below_alloc HB3.out _) hb); have HBX4 := Aside0.mk (below_step (below_alloc (Below.refl _ _) _) hb); clear hb) | (go_at_call 9; have hq := HB2.out; clear hq; refine (parse_ok HS.out.2 HP2.out _).mono ?_; rintro e w3 ⟨h, rfl, hg, hb⟩; have HB3 := Aside0.mk (below_step HB2.out hb); have HG3 := Aside0.mk (HG2.out.below hb); have HH3 := Aside0.mk hg; clear hb hg) | (go_at_call 9; refine (parse_ok HS.out.1 HP1.out _).mono ?_; rintro e w2 ⟨g, rfl, hg, hb⟩; have HB2 := Aside0.mk (below_step (below_alloc (below_alloc HB1.out _) _) hb); have HG2 := Aside0.mk hg; clear hb hg) | (go_at_call 8; refine (awake31_calls _).mono ?_; rintro e w1 ⟨rfl, hb⟩; have HB1 := Aside0.mk hb; clear hb))
        go_ret
        exact ⟨rfl, HB7.out⟩
      | true =>
        rw [d2] at M1 M2
        clear b2
        go_enter Try.func3, Try.ntmps3
        go_wp2_with (first | (go_at_call 10; have hq := HB6.out; clear hq; refine (match31_calls g _ _ (strOfNums [c] ++ strOfNums [c]) _ (HG3.out.below HBX6.out) S2.out).mono ?_; rw [M4.out]; rintro e w7 ⟨rfl, hb⟩; have HB7 := Aside0.mk (below_step HB6.out hb); clear hb) | (go_at_call 10; have hq := HB5.out; clear hq; refine (match31_calls g _ _ ⟨#[]⟩ _ (HG3.out.below HBX5.out) (by decide)).mono ?_; rw [M3.out]; rintro e w6 ⟨rfl, hb⟩; have HB6 := Aside0.mk (below_step HB5.out hb); have HBX6 := Aside0.mk (below_step HBX5.out hb); clear hb) | (go_at_call 10; have hq := HB4.out; clear hq; refine (match31_calls h _ _ (strOfNums [c]) _ (HH3.out.below HBX4.out) S1.out).mono ?_; rw [M2.out]; rintro e w5 ⟨rfl, hb⟩; have HB5 := Aside0.mk (below_step HB4.out hb); have HBX5 := Aside0.mk (below_step HBX4.out hb); clear hb) | (go_at_call 10; refine (match31_calls g _ _ (strOfNums [c]) _ (HG3.out.below (below_alloc (Below.refl _ _) _)) S1.out).mono ?_; rw [M1.out]; rintro e w4 ⟨rfl, hb⟩; have HB4 := Aside0.mk (below_step (below_alloc HB3.out _) hb); have HBX4 := Aside0.mk (below_step (below_alloc (Below.refl _ _) _) hb); clear hb) | (go_at_call 9; have hq := HB2.out; clear hq; refine (parse_ok HS.out.2 HP2.out _).mono ?_; rintro e w3 ⟨h, rfl, hg, hb⟩; have HB3 := Aside0.mk (below_step HB2.out hb); have HG3 := Aside0.mk (HG2.out.below hb); have HH3 := Aside0.mk hg; clear hb hg) | (go_at_call 9; refine (parse_ok HS.out.1 HP1.out _).mono ?_; rintro e w2 ⟨g, rfl, hg, hb⟩; have HB2 := Aside0.mk (below_step (below_alloc (below_alloc HB1.out _) _) hb); have HG2 := Aside0.mk hg; clear hb hg) | (go_at_call 8; refine (awake31_calls _).mono ?_; rintro e w1 ⟨rfl, hb⟩; have HB1 := Aside0.mk hb; clear hb))
        go_ret
        exact ⟨rfl, HB7.out⟩
end Go.Proofs.Ytbnlfiklkddolaa.Sep
