/- Which commits may be: the program's Right and the reference's Commit. Conditions: the bounds of the statements. -/
import Derived.Test.YtaijciijfofbmaaObjText
import Derived.Test.YtaijciijfofbmaaPDatx2
import Derived.WalkMore
namespace Go.Proofs.Ytaijciijfofbmaa.Sep
open Go.RowKit Go.Proofs.Ytaijciijfofbmaa.PCore Go.Proofs.Ytaijciijfofbmaa.Plain Go.Proofs.YtaijciijfofbmaaW.PrintWords Go.Proofs.YtaijciijfofbmaaW.PrintLast Go.Proofs.YtaijciijfofbmaaW.PrintMore
open Go.Proofs.Ytaijciijfofbmaa.PDat (apographref14_Commit.l0 apographref14_Commit.f apographref14_Commit.j0 apographref14_Commit.j2 apographref14_Commit.calls)
/-- Whether a commit may be, but for its text. -/
def comB (id : Int) (ps : List Int) (gen : Int) : Bool :=
  match ps with
  | [] => decide (id ≠ 0 ∧ gen = 1)
  | [p] => decide (id ≠ 0 ∧ (p ≠ 0 ∧ p < id) ∧ 2 ≤ gen)
  | [p, q] => decide (id ≠ 0 ∧ (p ≠ 0 ∧ p < id) ∧ (q ≠ 0 ∧ q < id ∧ q ≠ p) ∧ 2 ≤ gen)
  | _ => false
/-- The error's number. -/
def comE (id : Int) (ps : List Int) (gen : Int) (t : ByteArray) : Int := if comB id ps gen = true then (if textB t = true then 0 else 121) else 120
theorem rd0 (p : Int) (l : List Int) : rd (p :: l) 0 = p := by simp [rd]
theorem rd1 (p q : Int) (l : List Int) : rd (p :: q :: l) 1 = q := by simp [rd]
theorem comB_early {id : Int} {ps : List Int} {gen : Int} (h : id = 0 ∨ 2 < ps.length ∨ (ps.length = 0 ∧ gen ≠ 1) ∨ (ps.length ≠ 0 ∧ gen < 2)) : comB id ps gen = false := by
  match ps with
  | [] => simp only [comB, decide_eq_false_iff_not, List.length_nil] at h ⊢; omega
  | [p] => simp only [comB, decide_eq_false_iff_not, List.length_cons, List.length_nil] at h ⊢; omega
  | [p, q] => simp only [comB, decide_eq_false_iff_not, List.length_cons, List.length_nil] at h ⊢; omega
  | p :: q :: r :: l => rfl
/-- A parent that may be. -/
def okP (id : Int) (ps : List Int) (i : Nat) : Prop := rd ps (i : Int) ≠ 0 ∧ rd ps (i : Int) < id ∧ (i ≠ 0 → rd ps (i : Int) ≠ rd ps 0)
theorem comB_bad {id : Int} {ps : List Int} {gen : Int} (i : Nat) (hi : i < ps.length) (h : ¬ okP id ps i) : comB id ps gen = false := by
  match ps with
  | [] => simp at hi
  | [p] =>
    simp only [List.length_cons, List.length_nil] at hi
    obtain rfl : i = 0 := by omega
    simp only [okP, comB, decide_eq_false_iff_not, Int.natCast_zero, rd0] at h ⊢
    omega
  | [p, q] =>
    simp only [List.length_cons, List.length_nil] at hi
    rcases (show i = 0 ∨ i = 1 by omega) with rfl | rfl
    · simp only [okP, comB, decide_eq_false_iff_not, Int.natCast_zero, rd0] at h ⊢
      omega
    · simp only [okP, comB, decide_eq_false_iff_not, Int.natCast_one, rd0, rd1] at h ⊢
      omega
  | p :: q :: r :: l => rfl
theorem comB_good {id : Int} {ps : List Int} {gen : Int} (hid : id ≠ 0) (hl : ps.length ≤ 2) (h : ∀ i : Nat, i < ps.length → okP id ps i) (hg : (ps.length = 0 ∧ gen = 1) ∨ (ps.length ≠ 0 ∧ 2 ≤ gen)) : comB id ps gen = true := by
  match ps with
  | [] => simp only [comB, decide_eq_true_eq, List.length_nil] at hg ⊢; omega
  | [p] =>
    have h0 := h 0 (by simp)
    simp only [okP, comB, decide_eq_true_eq, Int.natCast_zero, rd0, List.length_cons, List.length_nil] at h0 hg ⊢
    omega
  | [p, q] =>
    have h0 := h 0 (by simp)
    have h1 := h 1 (by simp)
    simp only [okP, comB, decide_eq_true_eq, Int.natCast_zero, Int.natCast_one, rd0, rd1, List.length_cons, List.length_nil] at h0 h1 hg ⊢
    omega
  | p :: q :: r :: l => simp only [List.length_cons] at hl; omega
theorem okP_succ {id : Int} {ps : List Int} {i : Nat} (h : ∀ j : Nat, j < i → okP id ps j) (hi : okP id ps i) : ∀ j : Nat, j < i + 1 → okP id ps j := fun j hj => by
  rcases (show j < i ∨ j = i by omega) with h' | rfl
  · exact h j h'
  · exact hi
theorem comE_bad {id : Int} {ps : List Int} {gen : Int} (t : ByteArray) (h : comB id ps gen = false) : comE id ps gen t = 120 := by simp [comE, h]
theorem comE_good {id : Int} {ps : List Int} {gen : Int} (t : ByteArray) (h : comB id ps gen = true) : comE id ps gen t = if textB t = true then 0 else 121 := by simp [comE, h]
theorem comE_zero {id : Int} {ps : List Int} {gen : Int} {t : ByteArray} (h : comE id ps gen t = 0) : comB id ps gen = true ∧ textB t = true ∧ ps.length ≤ 2 ∧ t.size ≤ 60 := by
  unfold comE at h
  split at h
  · rename_i hb
    split at h
    · rename_i ht
      refine ⟨hb, ht, ?_, ?_⟩
      · match ps with
        | [] => simp
        | [p] => simp
        | [p, q] => simp
        | p :: q :: r :: l => simp [comB] at hb
      · simp only [textB, Bool.and_eq_true, decide_eq_true_eq] at ht
        exact ht.1
    · cases h
  · cases h
/-- What is to be known of the values. -/
def ComIn (id : Int) (ps : List Int) (gen root : Int) : Prop := (0 ≤ id ∧ id < 18446744073709551616) ∧ (∀ p ∈ ps, 0 ≤ p ∧ p < 18446744073709551616) ∧ (0 ≤ gen ∧ gen < 18446744073709551616) ∧ (0 ≤ root ∧ root < 18446744073709551616)
set_option maxHeartbeats 4000000 in
set_option maxRecDepth 100000 in
theorem right_calls (A : Option Addr) (c : Nat) (id : Int) (ps : List Int) (gen root : Int) (t : ByteArray) (W : World) (hC : Kd.C (Kd.int .u64) W A ps.length ps) (hn : ps.length ≤ maxLen) (hI : ComIn id ps gen root) :
    Calls Try.prog 9 #[.agg #[.int .u64 id, .slice A ps.length c, .int .u64 gen, .int .u64 root, .string t]] W fun e W1 => e = .returned (.int .i64 (comE id ps gen t)) ∧ Below W.heap.size W W1 := by
  have HC := Aside0.mk hC
  have HN := Aside0.mk (show ps.length ≤ 9223372036854775807 from hn)
  have HI := Aside0.mk hI
  clear hC hn hI
  have huF := Try.underlying25
  by_cases h1 : id = 0
  · have HE := Aside0.mk (comE_bad (id := id) (ps := ps) (gen := gen) t (comB_early (.inl h1)))
    have h1' : (id == 0) = true := beq_iff_eq.mpr h1
    clear h1
    go_enter Try.func9, Try.ntmps9
    go_wp2
    go_step3
    go_wp2
    try rw [Exit.noGoto_ret]
    go_ret
    rw [HE.out]
    exact ⟨rfl, below_alloc (Below.refl _ _) _⟩
  · have h1' : (id == 0) = false := beq_eq_false_iff_ne.mpr h1
    by_cases h2 : (2 : Int) < (ps.length : Int)
    · have HE := Aside0.mk (comE_bad (id := id) (ps := ps) (gen := gen) t (comB_early (.inr (.inl (by omega)))))
      have h2' : decide ((2 : Int) < (ps.length : Int)) = true := decide_eq_true h2
      clear h1 h2
      go_enter Try.func9, Try.ntmps9
      go_wp2
      go_step3
      go_wp2
      try rw [Exit.noGoto_ret]
      go_ret
      rw [HE.out]
      exact ⟨rfl, below_alloc (Below.refl _ _) _⟩
    · have h2' : decide ((2 : Int) < (ps.length : Int)) = false := decide_eq_false h2
      by_cases h3 : (ps.length = 0 ∧ gen = 1) ∨ (ps.length ≠ 0 ∧ 2 ≤ gen)
      · obtain ⟨b, he, hg⟩ : ∃ b, ((ps.length : Int) == 0) = b ∧ (gen == 1) = b := by
          rcases h3 with h3 | h3
          · exact ⟨true, by rw [h3.1]; rfl, by rw [h3.2]; rfl⟩
          · exact ⟨false, beq_eq_false_iff_ne.mpr (by omega), beq_eq_false_iff_ne.mpr (by omega)⟩
        have hg0 : (gen == 0) = false := beq_eq_false_iff_ne.mpr (by omega)
        have HP := Aside0.mk (⟨h1, by omega, h3⟩ : id ≠ 0 ∧ ps.length ≤ 2 ∧ ((ps.length = 0 ∧ gen = 1) ∨ (ps.length ≠ 0 ∧ 2 ≤ gen)))
        clear h1 h2 h3
        go_enter Try.func9, Try.ntmps9
        go_wp2
        go_step3
        go_wp2
        go_step3
        go_wp2
        have HK1 := Aside0.mk (blk_new W (.cells #[.int .u64 id, .slice A ps.length c, .int .u64 gen, .int .u64 root, .string t] 25))
        have HB1 := Aside0.mk (below_alloc (Below.refl W.heap.size W) (.cells #[.int .u64 id, .slice A ps.length c, .int .u64 gen, .int .u64 root, .string t] 25))
        generalize W.alloc (.cells #[.int .u64 id, .slice A ps.length c, .int .u64 gen, .int .u64 root, .string t] 25) = w1 at HK1 HB1 ⊢
        have hc0 : w1.cell? ⟨W.heap.size, 0, none⟩ = some (.int .u64 id) := (blk_cell HK1.out 0).trans rfl
        have hc1 : w1.cell? ⟨W.heap.size, 1, none⟩ = some (.slice A ps.length c) := (blk_cell HK1.out 1).trans rfl
        have hc4 : w1.cell? ⟨W.heap.size, 4, none⟩ = some (.string t) := (blk_cell HK1.out 4).trans rfl
        go_loopg [32] ps.length (fun kq v32 w' => ∃ i : Nat, v32 = .int .i64 i ∧ Aside0 (i ≤ ps.length ∧ kq = ps.length - i) ∧ Aside0 (∀ j : Nat, j < i → okP id ps j) ∧ w' = w1)
        case atStart => exact ⟨0, rfl, ⟨by omega, by omega⟩, ⟨fun j hj => by omega⟩, rfl⟩
        case round =>
          obtain ⟨i, rfl, HI2, HA, rfl⟩ := hrel
          by_cases hlt : i < ps.length
          · obtain ⟨ad, rfl, h0⟩ := (show ReadsInt wr .u64 A ps.length ps from Kd.reads_of_C (d := 0) (Kd.C_below HC.out HB1.out)).at_ (i : Int) (by omega) (by omega)
            obtain ⟨ad', had, h00⟩ := (show ReadsInt wr .u64 (some ad) ps.length ps from Kd.reads_of_C (d := 0) (Kd.C_below HC.out HB1.out)).at_ 0 (by omega) (by omega)
            obtain rfl : ad = ad' := by injection had
            simp only [Int.toNat_natCast] at h0
            have h01 : wr.cell? (ad.add 0) = some (.int .u64 (rd ps 0)) := h00
            have h02 : wr.cell? ad = some (.int .u64 (rd ps 0)) := h00
            clear h00
            have HOP := Aside0.mk (comB_bad (id := id) (ps := ps) (gen := gen) i hlt)
            have hlt' : (i : Int) < (ps.length : Int) := by omega
            have hpos : (0 : Int) < (ps.length : Int) := by omega
            have HWI := Aside0.mk (show wrap64 ((i : Int) + 1) = ((i + 1 : Nat) : Int) by have := HN.out; unfold wrap64; omega)
            by_cases k1 : rd ps (i : Int) = 0
            · have k1' : (rd ps (i : Int) == 0) = true := beq_iff_eq.mpr k1
              have HE := Aside0.mk (comE_bad t (HOP.out (fun h => h.1 k1)))
              clear k1
              go_wp2
              try rw [Exit.noGoto_ret]
              go_ret
              rw [HE.out]
              exact ⟨rfl, HB1.out⟩
            · have k1' : (rd ps (i : Int) == 0) = false := beq_eq_false_iff_ne.mpr k1
              by_cases k2 : id ≤ rd ps (i : Int)
              · have k2' : decide (id ≤ rd ps (i : Int)) = true := decide_eq_true k2
                have HE := Aside0.mk (comE_bad t (HOP.out (fun h => by have := h.2.1; omega)))
                clear k1 k2
                go_wp2
                try rw [Exit.noGoto_ret]
                go_ret
                rw [HE.out]
                exact ⟨rfl, HB1.out⟩
              · have k2' : decide (id ≤ rd ps (i : Int)) = false := decide_eq_false k2
                by_cases k3 : i = 0
                · have HOK := Aside0.mk (show okP id ps i from ⟨k1, by omega, fun h => absurd k3 h⟩)
                  have k3' : ((i : Int) == 0) = true := beq_iff_eq.mpr (by omega)
                  clear k1 k2 k3
                  go_wp2
                  go_roundg (ps.length - (i + 1))
                  case measure => have := HI2.out; omega
                  case rel => exact ⟨i + 1, by rw [HWI.out], ⟨by omega, rfl⟩, ⟨okP_succ HA.out HOK.out⟩, rfl⟩
                · have k3' : ((i : Int) == 0) = false := beq_eq_false_iff_ne.mpr (by omega)
                  by_cases k4 : rd ps (i : Int) = rd ps 0
                  · have k4' : (rd ps (i : Int) == rd ps 0) = true := beq_iff_eq.mpr k4
                    have HE := Aside0.mk (comE_bad t (HOP.out (fun h => h.2.2 k3 k4)))
                    clear k1 k2 k3 k4
                    go_wp2
                    try rw [Exit.noGoto_ret]
                    go_ret
                    rw [HE.out]
                    exact ⟨rfl, HB1.out⟩
                  · have k4' : (rd ps (i : Int) == rd ps 0) = false := beq_eq_false_iff_ne.mpr k4
                    have HOK := Aside0.mk (show okP id ps i from ⟨k1, by omega, fun _ => k4⟩)
                    clear k1 k2 k3 k4
                    go_wp2
                    go_roundg (ps.length - (i + 1))
                    case measure => have := HI2.out; omega
                    case rel => exact ⟨i + 1, by rw [HWI.out], ⟨by omega, rfl⟩, ⟨okP_succ HA.out HOK.out⟩, rfl⟩
          · have hI : i = ps.length := by have := HI2.out; omega
            subst hI
            have HE := Aside0.mk (comE_good t (comB_good HP.out.1 HP.out.2.1 HA.out HP.out.2.2))
            cases ht : textB t with
            | true =>
              have HT := Aside0.mk ht
              clear ht
              go_wp2_with (go_at_call 16; refine (text_calls t _).mono ?_; rw [HT.out]; rintro e w2 ⟨rfl, hb2⟩; have HB2 := Aside0.mk (below_step HB1.out hb2); clear hb2)
              try rw [Exit.noGoto_ret]
              go_ret
              rw [HE.out, HT.out]
              exact ⟨rfl, HB2.out⟩
            | false =>
              have HT := Aside0.mk ht
              clear ht
              go_wp2_with (go_at_call 16; refine (text_calls t _).mono ?_; rw [HT.out]; rintro e w2 ⟨rfl, hb2⟩; have HB2 := Aside0.mk (below_step HB1.out hb2); clear hb2)
              try rw [Exit.noGoto_ret]
              go_ret
              rw [HE.out, HT.out]
              exact ⟨rfl, HB2.out⟩
      · have HE := Aside0.mk (comE_bad (id := id) (ps := ps) (gen := gen) t (comB_early (by have := HI.out.2.2.1; omega)))
        by_cases h4 : ps.length = 0
        · have h4' : ((ps.length : Int) == 0) = true := beq_iff_eq.mpr (by omega)
          have h5' : (gen == 1) = false := beq_eq_false_iff_ne.mpr (by omega)
          clear h1 h2 h3 h4
          go_enter Try.func9, Try.ntmps9
          go_wp2
          go_step3
          go_wp2
          try rw [Exit.noGoto_ret]
          go_ret
          rw [HE.out]
          exact ⟨rfl, below_alloc (Below.refl _ _) _⟩
        · have h4' : ((ps.length : Int) == 0) = false := beq_eq_false_iff_ne.mpr (by omega)
          by_cases h6 : gen = 1
          · have h6' : (gen == 1) = true := beq_iff_eq.mpr h6
            clear h1 h2 h3 h4 h6
            go_enter Try.func9, Try.ntmps9
            go_wp2
            go_step3
            go_wp2
            try rw [Exit.noGoto_ret]
            go_ret
            rw [HE.out]
            exact ⟨rfl, below_alloc (Below.refl _ _) _⟩
          · have h6' : (gen == 1) = false := beq_eq_false_iff_ne.mpr h6
            have h7' : (gen == 0) = true := beq_iff_eq.mpr (by have := HI.out.2.2.1; omega)
            clear h1 h2 h3 h4 h6
            go_enter Try.func9, Try.ntmps9
            go_wp2
            go_step3
            go_wp2
            try rw [Exit.noGoto_ret]
            go_ret
            rw [HE.out]
            exact ⟨rfl, below_alloc (Below.refl _ _) _⟩
theorem refCom_j2 (id : Int) (ps : List Int) (gen root : Int) (t : ByteArray) (ht : t.size ≤ 140737488355328) : Ev (fun k => apographref14_Commit.j2 k false id ps gen root t) (if textB t = true then 0 else 121) := by
  refine Ev.step (f := fun k => (Go.Proofs.Ytaijciijfofbmaa.PDat.apographref14_Text.f k t).bind fun t104 => (if t104 = true then (some 0) else (some 121))) (fun k => by simp only [apographref14_Commit.j2, Bool.false_eq_true, if_false]) ?_
  refine Ev.bind (refText_form t ht) ?_
  cases textB t
  · exact Ev.now _
  · exact Ev.now _
theorem refCom_bad (id : Int) (ps : List Int) (gen root : Int) (t : ByteArray) : Ev (fun k => apographref14_Commit.j2 k true id ps gen root t) 120 :=
  Ev.step (f := fun _ => some 120) (fun k => by simp only [apographref14_Commit.j2, if_true]) (Ev.now _)
theorem refCom_loop : ∀ (d : Nat) (id : Int) (ps : List Int) (gen root : Int) (t : ByteArray) (i : Nat), i + d = ps.length → ps.length ≤ 2 → id ≠ 0 → 0 ≤ gen → t.size ≤ 140737488355328 → (∀ j : Nat, j < i → okP id ps j) →
    Ev (fun k => apographref14_Commit.l0 k ps ps.length i id ps gen root t) (comE id ps gen t) := by
  intro d
  induction d with
  | zero =>
    intro id ps gen root t i hi hl hid hg ht hA
    obtain rfl : i = ps.length := by omega
    by_cases h0 : ps.length = 0
    · by_cases h1 : gen = 1
      · rw [comE_good t (comB_good hid hl hA (.inl ⟨h0, h1⟩))]
        refine Ev.step (f := fun k => apographref14_Commit.j2 k false id ps gen root t) (fun k => ?_) (refCom_j2 id ps gen root t ht)
        simp only [apographref14_Commit.l0]
        rw [if_neg (by omega), if_pos (by omega), if_pos h1, if_neg (by omega)]
      · rw [comE_bad t (comB_early (.inr (.inr (.inl ⟨h0, h1⟩))))]
        refine Ev.step (f := fun k => apographref14_Commit.j2 k true id ps gen root t) (fun k => ?_) (refCom_bad id ps gen root t)
        simp only [apographref14_Commit.l0]
        rw [if_neg (by omega), if_pos (by omega), if_neg h1]
    · by_cases h1 : gen < 2
      · rw [comE_bad t (comB_early (.inr (.inr (.inr ⟨h0, h1⟩))))]
        refine Ev.step (f := fun k => apographref14_Commit.j2 k true id ps gen root t) (fun k => ?_) (refCom_bad id ps gen root t)
        simp only [apographref14_Commit.l0]
        rw [if_neg (by omega), if_neg (by omega), if_pos (by omega), decide_eq_true h1]
      · rw [comE_good t (comB_good hid hl hA (.inr ⟨h0, by omega⟩))]
        refine Ev.step (f := fun k => apographref14_Commit.j2 k false id ps gen root t) (fun k => ?_) (refCom_j2 id ps gen root t ht)
        simp only [apographref14_Commit.l0]
        rw [if_neg (by omega), if_neg (by omega), if_pos (by omega), decide_eq_false h1]
  | succ d ih =>
    intro id ps gen root t i hi hl hid hg ht hA
    have hlt : i < ps.length := by omega
    have ew : wrap64 ((i : Int) + 1) = ((i + 1 : Nat) : Int) := by unfold wrap64; omega
    by_cases k1 : rd ps (i : Int) = 0
    · rw [comE_bad t (comB_bad i hlt (fun h => h.1 k1))]
      refine Ev.step (f := fun _ => some 120) (fun k => ?_) (Ev.now _)
      simp only [apographref14_Commit.l0]
      rw [if_pos (by omega), if_pos (by omega), if_pos (by omega), if_pos k1]
    · by_cases k2 : rd ps (i : Int) ≥ id
      · rw [comE_bad t (comB_bad i hlt (fun h => by have := h.2.1; omega))]
        refine Ev.step (f := fun _ => some 120) (fun k => ?_) (Ev.now _)
        simp only [apographref14_Commit.l0]
        rw [if_pos (by omega), if_pos (by omega), if_pos (by omega), if_neg k1, if_pos k2]
      · by_cases k3 : i = 1
        · by_cases k4 : rd ps (i : Int) = rd ps 0
          · rw [comE_bad t (comB_bad i hlt (fun h => h.2.2 (by omega) k4))]
            refine Ev.step (f := fun _ => some 120) (fun k => ?_) (Ev.now _)
            simp only [apographref14_Commit.l0]
            rw [if_pos (by omega), if_pos (by omega), if_pos (by omega), if_neg k1, if_neg k2, if_pos (by omega), if_pos (by omega), if_pos k4]
          · refine Ev.step (f := fun k => apographref14_Commit.l0 k ps ps.length ((i + 1 : Nat) : Int) id ps gen root t) (fun k => ?_) (ih id ps gen root t (i + 1) (by omega) hl hid hg ht (okP_succ hA ⟨k1, by omega, fun _ => k4⟩))
            simp only [apographref14_Commit.l0, ew]
            rw [if_pos (by omega), if_pos (by omega), if_pos (by omega), if_neg k1, if_neg k2, if_pos (by omega), if_pos (by omega), if_neg k4]
        · refine Ev.step (f := fun k => apographref14_Commit.l0 k ps ps.length ((i + 1 : Nat) : Int) id ps gen root t) (fun k => ?_) (ih id ps gen root t (i + 1) (by omega) hl hid hg ht (okP_succ hA ⟨k1, by omega, fun h => by omega⟩))
          simp only [apographref14_Commit.l0, ew]
          rw [if_pos (by omega), if_pos (by omega), if_pos (by omega), if_neg k1, if_neg k2, if_neg (by omega)]
theorem refCom_form (id : Int) (ps : List Int) (gen root : Int) (t : ByteArray) (hg : 0 ≤ gen) (ht : t.size ≤ 140737488355328) : Ev (fun k => apographref14_Commit.f k id ps gen root t) (comE id ps gen t) := by
  by_cases h1 : id = 0
  · rw [comE_bad t (comB_early (.inl h1))]
    refine Ev.congr (f := fun k => apographref14_Commit.j0 k true id ps gen root t) (fun k => ?_) (Ev.step (f := fun _ => some 120) (fun k => by simp only [apographref14_Commit.j0, if_true]) (Ev.now _))
    simp only [apographref14_Commit.f]
    rw [if_pos h1]
  · by_cases h2 : (ps.length : Int) > 2
    · rw [comE_bad t (comB_early (.inr (.inl (by omega))))]
      refine Ev.congr (f := fun k => apographref14_Commit.j0 k true id ps gen root t) (fun k => ?_) (Ev.step (f := fun _ => some 120) (fun k => by simp only [apographref14_Commit.j0, if_true]) (Ev.now _))
      simp only [apographref14_Commit.f]
      rw [if_neg h1, decide_eq_true h2]
    · refine Ev.congr (f := fun k => apographref14_Commit.j0 k false id ps gen root t) (fun k => ?_) (Ev.step (f := fun k => apographref14_Commit.l0 k ps ps.length ((0 : Nat) : Int) id ps gen root t) (fun k => by simp only [apographref14_Commit.j0, Bool.false_eq_true, if_false]; rfl) (refCom_loop ps.length id ps gen root t 0 (by omega) (by omega) h1 hg ht (fun j hj => by omega)))
      simp only [apographref14_Commit.f]
      rw [if_neg h1, decide_eq_false h2]
theorem refCom_calls (A : Option Addr) (c : Nat) (id : Int) (ps : List Int) (gen root : Int) (t : ByteArray) (W : World) (hC : Kd.C (Kd.int .u64) W A ps.length ps) (hc : ps.length ≤ c) (hI : ComIn id ps gen root) (ht : t.size ≤ 140737488355328) :
    Calls Try.prog 14 #[.agg #[.int .u64 id, .slice A ps.length c, .int .u64 gen, .int .u64 root, .string t]] W fun e W1 => e = .returned (.int .i64 (comE id ps gen t)) ∧ Below W.heap.size W W1 := by
  obtain ⟨k, h⟩ := Ev.rounds (refCom_form id ps gen root t hI.2.2.1.1 ht)
  exact apographref14_Commit.calls k id A c ps gen root t _ W hC hc h
end Go.Proofs.Ytaijciijfofbmaa.Sep
