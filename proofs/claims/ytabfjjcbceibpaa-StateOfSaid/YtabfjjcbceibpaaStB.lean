/- Which states may be: plain; forms of what is printed. Conditions: the bounds of the statements. · Which texts may be names: the walk of refs.Name. Printed by gen2.py. Conditions: the bounds of the statements. · Which refs may be: the walk of state.refsRight. Printed by gen3.py. Conditions: the bounds of the statements. · Which commits may be: the walk of state.madeRight, by hand. Printed by gen18.py. Conditions: the bounds of the statements. · Which states may be: the walk of state.Right. Printed by gen4.py. Conditions: the bounds of the statements. -/
import Derived.Test.YtabfjjcbceibpaaStA
import Derived.Test.YtabfjjcbceibpaaReach
namespace Go.Proofs.Ytabfjjcbceibpaa.Sep
set_option linter.unusedSimpArgs false
set_option linter.unusedVariables false
open Go.RowKit Go.Proofs.Ytabfjjcbceibpaa.PCore Go.Proofs.Ytabfjjcbceibpaa.Plain Go.Proofs.YtabfjjcbceibpaaW.PrintWords Go.Proofs.YtabfjjcbceibpaaW.PrintLast Go.Proofs.YtabfjjcbceibpaaW.PrintMore
open Go.Proofs.Ytabfjjcbceibpaa.PDat (S74 k74 S46 k46 z46 rd_T46 at_T46 S48 k48 z48 rd_T48 at_T48 state_Find.f state_Find.l0 state_made.f state_made.calls)
abbrev Ref := S46
abbrev Made := S48
/-- A state. -/
structure St where
  head : ByteArray
  work : Int
  next : Int
  pend : Int
  refs : List Ref
  made : List Made
  cls : List Clash
theorem ref_at {l : List Ref} (i : Nat) (hi : i < l.length) : rd_T46 l (i : Int) = l[i] := by simp [rd_T46, List.getD, hi]
theorem made_at {l : List Made} (i : Nat) (hi : i < l.length) : rd_T48 l (i : Int) = l[i] := by simp [rd_T48, List.getD, hi]
/-- Whether there is a commit. -/
def findB (l : List Made) (id : Int) : Bool := l.any fun m => m.f0 == id
theorem find_loop (id : Int) : ∀ (d : Nat) (l : List Made) (i : Nat), i + d = l.length → l.length ≤ 9223372036854775807 → ∃ c, Ev (fun k => state_Find.l0 k id l l.length i) (c, findB (l.drop i) id) := by
  intro d
  induction d with
  | zero =>
    intro l i hi hn
    refine ⟨0, ?_⟩
    rw [List.drop_eq_nil_of_le (by omega)]
    refine Ev.step (f := fun _ => some (0, false)) (fun k => ?_) (Ev.now _)
    simp only [state_Find.l0]
    rw [if_neg (by omega)]
  | succ d ih =>
    intro l i hi hn
    have ew : wrap64 ((i : Int) + 1) = ((i + 1 : Nat) : Int) := by unfold wrap64; omega
    have hx := made_at (l := l) i (by omega)
    rw [List.drop_eq_getElem_cons (show i < l.length by omega)]
    generalize l[i] = x at hx
    by_cases c : x.f0 = id
    · refine ⟨x.f1, ?_⟩
      have e : findB (x :: l.drop (i + 1)) id = true := by simp [findB, c]
      rw [e]
      refine Ev.step (f := fun _ => some (x.f1, true)) (fun k => ?_) (Ev.now _)
      simp only [state_Find.l0, hx]
      rw [if_pos (by omega), if_pos (by omega), if_pos (by omega), if_pos c]
    · obtain ⟨r, hr⟩ := ih l (i + 1) (by omega) hn
      refine ⟨r, ?_⟩
      have e : findB (x :: l.drop (i + 1)) id = findB (l.drop (i + 1)) id := by simp [findB, c]
      rw [e]
      refine Ev.step (f := fun k => state_Find.l0 k id l l.length ((i + 1 : Nat) : Int)) (fun k => ?_) hr
      simp only [state_Find.l0, hx, ew]
      rw [if_pos (by omega), if_pos (by omega), if_pos (by omega), if_neg c]
/-- A state's value. -/
abbrev stV (s : St) (A : Option Addr) (n : Nat) (B : Option Addr) (m : Nat) (C : Option Addr) (o : Nat) : Value :=
  .agg #[.string s.head, .int .u64 s.work, .int .u64 s.next, .int .u64 s.pend, .slice A s.refs.length n, .slice B s.made.length m, .slice C s.cls.length o]
/-- A state's rows in memory. -/
structure StC (w : World) (s : St) (A : Option Addr) (n : Nat) (B : Option Addr) (m : Nat) (C : Option Addr) (o : Nat) : Prop where
  hr : Kd.C k46 w A s.refs.length s.refs
  hrn : s.refs.length ≤ n
  hm : Kd.C k48 w B s.made.length s.made
  hmn : s.made.length ≤ m
  hc : Kd.C k74 w C s.cls.length s.cls
  hcn : s.cls.length ≤ o
theorem StC.below {w w1 : World} {s : St} {A : Option Addr} {n : Nat} {B : Option Addr} {m : Nat} {C : Option Addr} {o : Nat} (h : StC w s A n B m C o) (hb : Below w.heap.size w w1) : StC w1 s A n B m C o :=
  ⟨Kd.C_below h.hr hb, h.hrn, Kd.C_below h.hm hb, h.hmn, Kd.C_below h.hc hb, h.hcn⟩
section
variable {s : St} {A : Option Addr} {n : Nat} {B : Option Addr} {m : Nat} {C : Option Addr} {o : Nat}
theorem made17_calls (id : Int) (w : World) (h : StC w s A n B m C o) :
    Calls Try.prog 46 #[stV s A n B m C o, .int .u64 id] w fun e w' => e = .returned (.bool (findB s.made id)) ∧ Below w.heap.size w w' := by
  obtain ⟨c, hc⟩ := find_loop id s.made.length s.made 0 (by omega) (Kd.C_max h.hm)
  obtain ⟨k, hk⟩ := Ev.rounds (Ev.bind (f := fun _ (bt : Int × Bool) => some bt.2) hc (Ev.now _))
  exact state_made.calls k s.head s.work s.next s.pend A n s.refs B m s.made C o s.cls id _ w h.hr h.hrn h.hm h.hmn h.hc h.hcn hk
end
/-- Whether commits may be. -/
def madeL (next : Int) : Option Int → List Made → Bool
  | _, [] => true
  | p, x :: l => !(x.f0 == 0) && (decide (x.f0 < next) && (!(x.f1 == 0) && ((match p with | some q => decide (q < x.f0) | none => true) && madeL next (some x.f0) l)))
def madeB (s : St) : Bool := decide (s.made.length ≤ 200) && madeL s.next none s.made
def prevM (l : List Made) (i : Nat) : Option Int := if i = 0 then none else some (rd_T48 l ((i - 1 : Nat) : Int)).f0
/-- Whether a text may be a name. -/
def letB (c : Int) : Bool := decide (97 ≤ c) && decide (c ≤ 122)
def othB (c : Int) : Bool := (decide (48 ≤ c) && decide (c ≤ 57)) || c == 45
def nameL : Bool → List Int → Bool
  | _, [] => true
  | first, c :: l => (letB c || (!first && othB c)) && nameL false l
def nameB (s : ByteArray) : Bool := decide (1 ≤ s.size) && (decide (s.size ≤ 20) && nameL true (bytesOf s))
/-- Whether refs may be. -/
def refsL (made : List Made) (head : ByteArray) : Option ByteArray → Bool → List Ref → Bool
  | _, h, [] => h
  | p, h, r :: l => nameB r.f0 && ((match p with | some q => lessK q r.f0 | none => true) && ((findB made r.f2 || (!r.f1 && r.f2 == 0)) && refsL made head (some r.f0) (h || (r.f0.toList == head.toList && !r.f1)) l))
def refsB (s : St) : Bool := decide (s.refs.length ≤ 40) && refsL s.made s.head none false s.refs
def pendB (s : St) : Bool := (s.pend == 0 && s.cls.length == 0) || (!(s.pend == 0) && findB s.made s.pend)
/-- What is wrong with a state. -/
def stateE (s : St) : Int := if (s.next == 0 || (!refsB s || (!madeB s || (!pendB s || !(confE s.cls == 0))))) = true then 150 else 0
end Go.Proofs.Ytabfjjcbceibpaa.Sep
namespace Go.Proofs.Ytabfjjcbceibpaa.Sep
set_option linter.unusedSimpArgs false
set_option linter.unusedVariables false
open Go.RowKit Go.Proofs.Ytabfjjcbceibpaa.PCore Go.Proofs.Ytabfjjcbceibpaa.Plain Go.Proofs.YtabfjjcbceibpaaW.PrintWords Go.Proofs.YtabfjjcbceibpaaW.PrintLast Go.Proofs.YtabfjjcbceibpaaW.PrintMore
theorem nameL_step {f : Bool} {c : Int} {l : List Int} (h : (letB c || (!f && othB c)) = true) : nameL f (c :: l) = nameL false l := by rw [nameL, h, Bool.true_and]
theorem nameL_bad {f : Bool} {c : Int} {l : List Int} (h : (letB c || (!f && othB c)) = false) : nameL f (c :: l) = false := by rw [nameL, h, Bool.false_and]
theorem bytes_drop (s : ByteArray) (i : Nat) (h : i < s.size) : (bytesOf s).drop i = rd (bytesOf s) (i : Int) :: (bytesOf s).drop (i + 1) := drop_rd _ i (by rw [bytesOf_length]; exact h)
set_option maxHeartbeats 16000000 in
set_option maxRecDepth 100000 in
theorem name_calls (s : ByteArray) (W : World) : Calls Try.prog 57 #[.string s] W fun e W1 => e = .returned (.bool (nameB s)) ∧ Below W.heap.size W W1 := by
  by_cases h1 : (s.size : Int) < 1
  · have d1 : decide ((s.size : Int) < 1) = true := decide_eq_true h1
    have HG := Aside0.mk (show nameB s = false by unfold nameB; rw [decide_eq_false (by omega)]; rfl)
    clear h1
    go_enter Try.func57, Try.ntmps57
    go_wp2
    go_ret
    rw [HG.out]
    exact ⟨rfl, Below.refl _ _⟩
  · have d1 : decide ((s.size : Int) < 1) = false := decide_eq_false h1
    by_cases h2 : (20 : Int) < (s.size : Int)
    · have d2 : decide ((20 : Int) < (s.size : Int)) = true := decide_eq_true h2
      have HG := Aside0.mk (show nameB s = false by unfold nameB; rw [decide_eq_false (show ¬ s.size ≤ 20 by omega)]; simp)
      clear h1 h2
      go_enter Try.func57, Try.ntmps57
      go_wp2
      go_ret
      rw [HG.out]
      exact ⟨rfl, Below.refl _ _⟩
    · have d2 : decide ((20 : Int) < (s.size : Int)) = false := decide_eq_false h2
      have HSZ := Aside0.mk (show s.size ≤ 20 by omega)
      have HN := Aside0.mk (show nameB s = nameL true (bytesOf s) by unfold nameB; rw [decide_eq_true (show 1 ≤ s.size by omega), decide_eq_true (show s.size ≤ 20 by omega)]; simp)
      have kb := fun W => print_bytes (P := Try.prog) 9 22 5 Try.underlying9 Try.underlying22 Try.underlying5 s W
      have hrd := bytes_reads W 5 s (by omega)
      have HB0 := Aside0.mk (bytes_below (Below.refl W.heap.size W) (Nat.le_refl _) 5 s)
      clear h1 h2
      go_enter Try.func57, Try.ntmps57
      go_wp2
      generalize grownCap W s.size 0 5 = cc
      generalize Lib.bytesWorld W 5 s = w0 at hrd HB0 ⊢
      generalize W.heap.size = g at hrd ⊢
      have HRD := Aside0.mk hrd
      clear hrd kb
      go_loopg [18] s.size (fun kq v18 w' => ∃ i : Nat, v18 = .int .i64 i ∧ Aside0 (i ≤ s.size ∧ kq = s.size - i) ∧ Aside0 (nameL true (bytesOf s) = nameL (i == 0) ((bytesOf s).drop i)) ∧ Aside0 (Below w0.heap.size w0 w'))
      case atStart => exact ⟨0, rfl, ⟨by omega, by omega⟩, ⟨rfl⟩, ⟨Below.refl _ _⟩⟩
      case round =>
        obtain ⟨i, rfl, HI, HE, HB⟩ := hrel
        by_cases hlt : i < s.size
        · obtain ⟨ad, had, h0⟩ := (HRD.out.below HB.out).at_ (i : Int) (by omega) (by omega)
          have had' : ad = ⟨g, 0, none⟩ := by injection had with h; exact h.symm
          subst had'
          have hE := HE.out
          rw [bytes_drop s i hlt] at hE
          rw [Int.toNat_natCast, add_plain] at h0
          have hlt' : (i : Int) < (s.size : Int) := by omega
          have HWI := Aside0.mk (show wrap64 ((i : Int) + 1) = ((i + 1 : Nat) : Int) by have := HSZ.out; unfold wrap64; omega)
          generalize rd (bytesOf s) (i : Int) = c at h0 hE
          have HE2 := Aside0.mk hE
          clear hE HE had
          have h0' : World.cell? wr ((⟨g, 0, none⟩ : Addr).add i) = some (.int .u8 c) := by rw [add_plain]; exact h0
          rcases (show (c < 48 ∧ c ≠ 45) ∨ c = 45 ∨ (48 ≤ c ∧ c ≤ 57) ∨ (58 ≤ c ∧ c ≤ 96) ∨ (97 ≤ c ∧ c ≤ 122) ∨ 122 < c by omega) with hc | hc | hc | hc | hc | hc
          · have q0 : decide (97 ≤ c) = false := decide_eq_false (by omega)
            have q1 : decide (c ≤ 122) = true := decide_eq_true (by omega)
            have q2 : decide (48 ≤ c) = false := decide_eq_false (by omega)
            have q3 : decide (c ≤ 57) = true := decide_eq_true (by omega)
            have q4 : (c == 45) = false := beq_eq_false_iff_ne.mpr (by omega)
            have hlet : letB c = false := by unfold letB; rw [q0, q1]; rfl
            have hoth : othB c = false := by unfold othB; rw [q2, q3, q4]; rfl
            by_cases hi : i = 0
            · have e1 : ((i : Int) == 0) = true := beq_iff_eq.mpr (by omega)
              have e2 : (i == 0) = true := beq_iff_eq.mpr hi
              have HG := Aside0.mk (show nameB s = false by rw [HN.out, HE2.out, e2, nameL_bad (by rw [hlet, hoth]; rfl)])
              clear hi hlet hoth hc
              go_wp2
              go_ret
              rw [HG.out]
              exact ⟨rfl, below_step HB0.out HB.out⟩
            · have e1 : ((i : Int) == 0) = false := beq_eq_false_iff_ne.mpr (by omega)
              have e2 : (i == 0) = false := beq_eq_false_iff_ne.mpr hi
              have HG := Aside0.mk (show nameB s = false by rw [HN.out, HE2.out, e2, nameL_bad (by rw [hlet, hoth]; rfl)])
              clear hi hlet hoth hc
              go_wp2
              go_ret
              rw [HG.out]
              exact ⟨rfl, below_step HB0.out HB.out⟩
          · have q0 : decide (97 ≤ c) = false := decide_eq_false (by omega)
            have q1 : decide (c ≤ 122) = true := decide_eq_true (by omega)
            have q2 : decide (48 ≤ c) = false := decide_eq_false (by omega)
            have q3 : decide (c ≤ 57) = true := decide_eq_true (by omega)
            have q4 : (c == 45) = true := beq_iff_eq.mpr (by omega)
            have hlet : letB c = false := by unfold letB; rw [q0, q1]; rfl
            have hoth : othB c = true := by unfold othB; rw [q2, q3, q4]; rfl
            by_cases hi : i = 0
            · have e1 : ((i : Int) == 0) = true := beq_iff_eq.mpr (by omega)
              have e2 : (i == 0) = true := beq_iff_eq.mpr hi
              have HG := Aside0.mk (show nameB s = false by rw [HN.out, HE2.out, e2, nameL_bad (by rw [hlet, hoth]; rfl)])
              clear hi hlet hoth hc
              go_wp2
              go_ret
              rw [HG.out]
              exact ⟨rfl, below_step HB0.out HB.out⟩
            · have e1 : ((i : Int) == 0) = false := beq_eq_false_iff_ne.mpr (by omega)
              have e2 : (i == 0) = false := beq_eq_false_iff_ne.mpr hi
              have HG := Aside0.mk (show nameL true (bytesOf s) = nameL false ((bytesOf s).drop (i + 1)) by rw [HE2.out, e2, nameL_step (by rw [hlet, hoth]; rfl)])
              clear hi hlet hoth hc
              go_wp2
              go_roundg (s.size - (i + 1))
              case measure => have := HI.out; omega
              case rel => exact ⟨i + 1, by first | rw [HWI.out] | simp, ⟨by omega, rfl⟩, ⟨by rw [HG.out]; rfl⟩, ⟨HB.out⟩⟩
          · have q0 : decide (97 ≤ c) = false := decide_eq_false (by omega)
            have q1 : decide (c ≤ 122) = true := decide_eq_true (by omega)
            have q2 : decide (48 ≤ c) = true := decide_eq_true (by omega)
            have q3 : decide (c ≤ 57) = true := decide_eq_true (by omega)
            have q4 : (c == 45) = false := beq_eq_false_iff_ne.mpr (by omega)
            have hlet : letB c = false := by unfold letB; rw [q0, q1]; rfl
            have hoth : othB c = true := by unfold othB; rw [q2, q3, q4]; rfl
            by_cases hi : i = 0
            · have e1 : ((i : Int) == 0) = true := beq_iff_eq.mpr (by omega)
              have e2 : (i == 0) = true := beq_iff_eq.mpr hi
              have HG := Aside0.mk (show nameB s = false by rw [HN.out, HE2.out, e2, nameL_bad (by rw [hlet, hoth]; rfl)])
              clear hi hlet hoth hc
              go_wp2
              go_ret
              rw [HG.out]
              exact ⟨rfl, below_step HB0.out HB.out⟩
            · have e1 : ((i : Int) == 0) = false := beq_eq_false_iff_ne.mpr (by omega)
              have e2 : (i == 0) = false := beq_eq_false_iff_ne.mpr hi
              have HG := Aside0.mk (show nameL true (bytesOf s) = nameL false ((bytesOf s).drop (i + 1)) by rw [HE2.out, e2, nameL_step (by rw [hlet, hoth]; rfl)])
              clear hi hlet hoth hc
              go_wp2
              go_roundg (s.size - (i + 1))
              case measure => have := HI.out; omega
              case rel => exact ⟨i + 1, by first | rw [HWI.out] | simp, ⟨by omega, rfl⟩, ⟨by rw [HG.out]; rfl⟩, ⟨HB.out⟩⟩
          · have q0 : decide (97 ≤ c) = false := decide_eq_false (by omega)
            have q1 : decide (c ≤ 122) = true := decide_eq_true (by omega)
            have q2 : decide (48 ≤ c) = true := decide_eq_true (by omega)
            have q3 : decide (c ≤ 57) = false := decide_eq_false (by omega)
            have q4 : (c == 45) = false := beq_eq_false_iff_ne.mpr (by omega)
            have hlet : letB c = false := by unfold letB; rw [q0, q1]; rfl
            have hoth : othB c = false := by unfold othB; rw [q2, q3, q4]; rfl
            by_cases hi : i = 0
            · have e1 : ((i : Int) == 0) = true := beq_iff_eq.mpr (by omega)
              have e2 : (i == 0) = true := beq_iff_eq.mpr hi
              have HG := Aside0.mk (show nameB s = false by rw [HN.out, HE2.out, e2, nameL_bad (by rw [hlet, hoth]; rfl)])
              clear hi hlet hoth hc
              go_wp2
              go_ret
              rw [HG.out]
              exact ⟨rfl, below_step HB0.out HB.out⟩
            · have e1 : ((i : Int) == 0) = false := beq_eq_false_iff_ne.mpr (by omega)
              have e2 : (i == 0) = false := beq_eq_false_iff_ne.mpr hi
              have HG := Aside0.mk (show nameB s = false by rw [HN.out, HE2.out, e2, nameL_bad (by rw [hlet, hoth]; rfl)])
              clear hi hlet hoth hc
              go_wp2
              go_ret
              rw [HG.out]
              exact ⟨rfl, below_step HB0.out HB.out⟩
          · have q0 : decide (97 ≤ c) = true := decide_eq_true (by omega)
            have q1 : decide (c ≤ 122) = true := decide_eq_true (by omega)
            have q2 : decide (48 ≤ c) = true := decide_eq_true (by omega)
            have q3 : decide (c ≤ 57) = false := decide_eq_false (by omega)
            have q4 : (c == 45) = false := beq_eq_false_iff_ne.mpr (by omega)
            have hlet : letB c = true := by unfold letB; rw [q0, q1]; rfl
            have hoth : othB c = false := by unfold othB; rw [q2, q3, q4]; rfl
            by_cases hi : i = 0
            · have e1 : ((i : Int) == 0) = true := beq_iff_eq.mpr (by omega)
              have e2 : (i == 0) = true := beq_iff_eq.mpr hi
              have HG := Aside0.mk (show nameL true (bytesOf s) = nameL false ((bytesOf s).drop (i + 1)) by rw [HE2.out, e2, nameL_step (by rw [hlet, hoth]; rfl)])
              clear hi hlet hoth hc
              go_wp2
              go_roundg (s.size - (i + 1))
              case measure => have := HI.out; omega
              case rel => exact ⟨i + 1, by first | rw [HWI.out] | simp, ⟨by omega, rfl⟩, ⟨by rw [HG.out]; rfl⟩, ⟨HB.out⟩⟩
            · have e1 : ((i : Int) == 0) = false := beq_eq_false_iff_ne.mpr (by omega)
              have e2 : (i == 0) = false := beq_eq_false_iff_ne.mpr hi
              have HG := Aside0.mk (show nameL true (bytesOf s) = nameL false ((bytesOf s).drop (i + 1)) by rw [HE2.out, e2, nameL_step (by rw [hlet, hoth]; rfl)])
              clear hi hlet hoth hc
              go_wp2
              go_roundg (s.size - (i + 1))
              case measure => have := HI.out; omega
              case rel => exact ⟨i + 1, by first | rw [HWI.out] | simp, ⟨by omega, rfl⟩, ⟨by rw [HG.out]; rfl⟩, ⟨HB.out⟩⟩
          · have q0 : decide (97 ≤ c) = true := decide_eq_true (by omega)
            have q1 : decide (c ≤ 122) = false := decide_eq_false (by omega)
            have q2 : decide (48 ≤ c) = true := decide_eq_true (by omega)
            have q3 : decide (c ≤ 57) = false := decide_eq_false (by omega)
            have q4 : (c == 45) = false := beq_eq_false_iff_ne.mpr (by omega)
            have hlet : letB c = false := by unfold letB; rw [q0, q1]; rfl
            have hoth : othB c = false := by unfold othB; rw [q2, q3, q4]; rfl
            by_cases hi : i = 0
            · have e1 : ((i : Int) == 0) = true := beq_iff_eq.mpr (by omega)
              have e2 : (i == 0) = true := beq_iff_eq.mpr hi
              have HG := Aside0.mk (show nameB s = false by rw [HN.out, HE2.out, e2, nameL_bad (by rw [hlet, hoth]; rfl)])
              clear hi hlet hoth hc
              go_wp2
              go_ret
              rw [HG.out]
              exact ⟨rfl, below_step HB0.out HB.out⟩
            · have e1 : ((i : Int) == 0) = false := beq_eq_false_iff_ne.mpr (by omega)
              have e2 : (i == 0) = false := beq_eq_false_iff_ne.mpr hi
              have HG := Aside0.mk (show nameB s = false by rw [HN.out, HE2.out, e2, nameL_bad (by rw [hlet, hoth]; rfl)])
              clear hi hlet hoth hc
              go_wp2
              go_ret
              rw [HG.out]
              exact ⟨rfl, below_step HB0.out HB.out⟩
        · have hI : i = s.size := by have := HI.out; omega
          subst hI
          have HG := Aside0.mk (show nameB s = true by rw [HN.out, HE.out, List.drop_eq_nil_of_le (by rw [bytesOf_length]; exact Nat.le_refl _)]; rfl)
          go_wp2
          go_ret
          rw [HG.out]
          exact ⟨rfl, below_step HB0.out HB.out⟩
end Go.Proofs.Ytabfjjcbceibpaa.Sep
namespace Go.Proofs.Ytabfjjcbceibpaa.Sep
set_option linter.unusedSimpArgs false
set_option linter.unusedVariables false
open Go.RowKit Go.Proofs.Ytabfjjcbceibpaa.PCore Go.Proofs.Ytabfjjcbceibpaa.Plain Go.Proofs.YtabfjjcbceibpaaW.PrintWords Go.Proofs.YtabfjjcbceibpaaW.PrintLast Go.Proofs.YtabfjjcbceibpaaW.PrintMore
open Go.Proofs.Ytabfjjcbceibpaa.PDat (S46 k46 z46 rd_T46 at_T46)
theorem st_cells {w : World} {g t : Nat} {a b c d e f h : Value} (hk : w.heap[g]? = some (.cells #[a, b, c, d, e, f, h] t (0, 0))) :
    w.cell? ⟨g, 0, none⟩ = some a ∧ w.cell? ⟨g, 1, none⟩ = some b ∧ w.cell? ⟨g, 2, none⟩ = some c ∧ w.cell? ⟨g, 3, none⟩ = some d ∧ w.cell? ⟨g, 4, none⟩ = some e ∧ w.cell? ⟨g, 5, none⟩ = some f ∧ w.cell? ⟨g, 6, none⟩ = some h :=
  ⟨(blk_cell hk 0).trans rfl, (blk_cell hk 1).trans rfl, (blk_cell hk 2).trans rfl, (blk_cell hk 3).trans rfl, (blk_cell hk 4).trans rfl, (blk_cell hk 5).trans rfl, (blk_cell hk 6).trans rfl⟩
theorem tri_cells {w : World} {g t : Nat} {a b c : Value} (h : w.heap[g]? = some (.cells #[a, b, c] t (0, 0))) : w.cell? ⟨g, 0, none⟩ = some a ∧ w.cell? ⟨g, 1, none⟩ = some b ∧ w.cell? ⟨g, 2, none⟩ = some c :=
  ⟨(blk_cell h 0).trans rfl, (blk_cell h 1).trans rfl, (blk_cell h 2).trans rfl⟩
def prevR (l : List Ref) (i : Nat) : Option ByteArray := if i = 0 then none else some (rd_T46 l ((i - 1 : Nat) : Int)).f0
theorem ref_drop (l : List Ref) (i : Nat) (h : i < l.length) : l.drop i = rd_T46 l (i : Int) :: l.drop (i + 1) := by rw [List.drop_eq_getElem_cons h, ref_at i h]
theorem prevR_succ (l : List Ref) (i : Nat) : prevR l (i + 1) = some (rd_T46 l (i : Int)).f0 := by simp [prevR]
theorem refsL_name {made : List Made} {head : ByteArray} {p : Option ByteArray} {h : Bool} {r : Ref} {l : List Ref} (hn : nameB r.f0 = false) : refsL made head p h (r :: l) = false := by cases p <;> rw [refsL, hn, Bool.false_and]
theorem refsL_prev {made : List Made} {head : ByteArray} {q : ByteArray} {h : Bool} {r : Ref} {l : List Ref} (hl : lessK q r.f0 = false) : refsL made head (some q) h (r :: l) = false := by rw [refsL]; simp [hl]
theorem refsL_found {made : List Made} {head : ByteArray} {p : Option ByteArray} {h : Bool} {r : Ref} {l : List Ref} (hf : (findB made r.f2 || (!r.f1 && r.f2 == 0)) = false) : refsL made head p h (r :: l) = false := by cases p <;> (rw [refsL, hf]; simp)
theorem refsL_none {made : List Made} {head : ByteArray} {h : Bool} {r : Ref} {l : List Ref} (hn : nameB r.f0 = true) (hf : (findB made r.f2 || (!r.f1 && r.f2 == 0)) = true) : refsL made head none h (r :: l) = refsL made head (some r.f0) (h || (r.f0.toList == head.toList && !r.f1)) l := by simp only [refsL]; rw [hn, hf]; simp
theorem refsL_some {made : List Made} {head : ByteArray} {q : ByteArray} {h : Bool} {r : Ref} {l : List Ref} (hn : nameB r.f0 = true) (hl : lessK q r.f0 = true) (hf : (findB made r.f2 || (!r.f1 && r.f2 == 0)) = true) : refsL made head (some q) h (r :: l) = refsL made head (some r.f0) (h || (r.f0.toList == head.toList && !r.f1)) l := by simp only [refsL]; rw [hn, hf]; simp [hl]
set_option maxHeartbeats 32000000 in
set_option maxRecDepth 100000 in
theorem refsRight_calls {s : St} {A : Option Addr} {n : Nat} {B : Option Addr} {m : Nat} {C : Option Addr} {o : Nat} (W : World) (h : StC W s A n B m C o) :
    Calls Try.prog 47 #[.agg #[.string s.head, .int .u64 s.work, .int .u64 s.next, .int .u64 s.pend, .slice A s.refs.length n, .slice B s.made.length m, .slice C s.cls.length o]] W fun e W1 => e = .returned (.bool (refsB s)) ∧ Below W.heap.size W W1 := by
  have HS := Aside0.mk h
  have HMX := Aside0.mk (Kd.C_max h.hr)
  have huS := Try.underlying29
  have huR := Try.underlying46
  clear h
  by_cases h40 : (40 : Int) < (s.refs.length : Int)
  · have d1 : decide ((40 : Int) < (s.refs.length : Int)) = true := decide_eq_true h40
    have HG := Aside0.mk (show refsB s = false by unfold refsB; rw [decide_eq_false (show ¬ s.refs.length ≤ 40 by omega)]; rfl)
    clear h40
    go_enter Try.func47, Try.ntmps47
    go_wp2
    go_ret
    rw [HG.out]
    exact ⟨rfl, below_alloc (Below.refl _ _) _⟩
  · have d1 : decide ((40 : Int) < (s.refs.length : Int)) = false := decide_eq_false h40
    have HRB := Aside0.mk (show refsB s = refsL s.made s.head none false s.refs by unfold refsB; rw [decide_eq_true (show s.refs.length ≤ 40 by omega)]; rfl)
    clear h40
    go_enter Try.func47, Try.ntmps47
    go_wp2
    have hk0 := blk_new W (.cells #[.string s.head, .int .u64 s.work, .int .u64 s.next, .int .u64 s.pend, .slice A s.refs.length n, .slice B s.made.length m, .slice C s.cls.length o] 29)
    have HB0 := Aside0.mk (below_alloc (Below.refl W.heap.size W) (.cells #[.string s.head, .int .u64 s.work, .int .u64 s.next, .int .u64 s.pend, .slice A s.refs.length n, .slice B s.made.length m, .slice C s.cls.length o] 29))
    generalize W.alloc (.cells #[.string s.head, .int .u64 s.work, .int .u64 s.next, .int .u64 s.pend, .slice A s.refs.length n, .slice B s.made.length m, .slice C s.cls.length o] 29) = w0 at hk0 HB0 ⊢
    generalize W.heap.size = g at hk0 ⊢
    have HK0 := Aside0.mk hk0
    clear hk0
    go_loopg [3, 13] s.refs.length (fun kq v3 v13 w' => ∃ (i : Nat) (hd : Bool), v3 = .bool hd ∧ v13 = .int .i64 i ∧ Aside0 (i ≤ s.refs.length ∧ kq = s.refs.length - i) ∧ Aside0 (refsL s.made s.head none false s.refs = refsL s.made s.head (prevR s.refs i) hd (s.refs.drop i)) ∧ Aside0 (Below w0.heap.size w0 w'))
    case atStart => exact ⟨0, false, rfl, rfl, ⟨by omega, by omega⟩, ⟨rfl⟩, ⟨Below.refl _ _⟩⟩
    case round =>
      obtain ⟨i, hd, rfl, rfl, HI, HE, HB⟩ := hrel
      by_cases hlt : i < s.refs.length
      · have hcc := (HS.out.below (below_step HB0.out HB.out)).hr
        obtain ⟨ad, hA, h0, h1, h2⟩ := at_T46 hcc (i : Int) (by omega) (by omega)
        subst hA
        simp only [Int.toNat_natCast] at h0 h1 h2
        have hE := HE.out
        rw [ref_drop s.refs i hlt] at hE
        have HPS := Aside0.mk (prevR_succ s.refs i)
        generalize rd_T46 s.refs (i : Int) = x at h0 h1 h2 hE HPS
        obtain ⟨f0, f1, f2⟩ := x
        simp only at h0 h1 h2 HPS
        have HE2 := Aside0.mk hE
        clear hE HE
        have hlt' : (i : Int) < (s.refs.length : Int) := by omega
        have HWI := Aside0.mk (show wrap64 ((i : Int) + 1) = ((i + 1 : Nat) : Int) by have := HMX.out; unfold wrap64; omega)
        have hks := (Fr.of_below (B := 0) (T := []) HB.out).blk HK0.out (by simp)
        go_wp2
        have hxn := blk_new wr (.cells #[.string f0, .bool f1, .int .u64 f2] 46)
        have hsn := blk_alloc hks (.cells #[.string f0, .bool f1, .int .u64 f2] 46)
        have HBn := Aside0.mk (below_alloc HB.out (.cells #[.string f0, .bool f1, .int .u64 f2] 46))
        have hprev : ∀ j : Nat, i = j + 1 → (wr.alloc (.cells #[.string f0, .bool f1, .int .u64 f2] 46)).cell? (ad.add (j * 3)) = some (.string (rd_T46 s.refs (j : Int)).f0) := fun j hj => by
          obtain ⟨ad', e', k0, _⟩ := at_T46 (Kd.C_alloc hcc (.cells #[.string f0, .bool f1, .int .u64 f2] 46)) (j : Int) (by omega) (by omega)
          have e'' : ad = ad' := by injection e'
          rw [← e''] at k0
          simpa only [Int.toNat_natCast] using k0
        generalize wr.alloc (.cells #[.string f0, .bool f1, .int .u64 f2] 46) = wv at hxn hsn HBn hprev ⊢
        generalize wr.heap.size = gx at hxn ⊢
        have HXN := Aside0.mk hxn
        have HSN := Aside0.mk hsn
        have HPR := Aside0.mk hprev
        obtain ⟨x0, x1, x2⟩ := tri_cells hxn
        obtain ⟨s0, s1, s2, s3, s4, s5, s6⟩ := st_cells hsn
        have x0r := Reach.cell x0
        have s4r := Reach.cell s4
        clear hxn hsn hprev h0 h1 h2 hks x0 x1 x2 s0 s1 s2 s3 s4 s5 s6
        have HNC := Aside0.mk (fun w => name_calls f0 w)
        cases hn : nameB f0 with
        | false =>
          have HG := Aside0.mk (show refsB s = false by rw [HRB.out, HE2.out, refsL_name hn])
          rw [hn] at HNC
          clear hn
          refine region_reach (by kernel_rfl) (by kernel_rfl) ?_
          repeat (go_big_quiet_step ((go_at_call 57; exact calls_reach _ (HNC.out _))))
          refine wpQuiet_nil ?_
          rintro _ ⟨⟨w4, hb4⟩, rfl⟩
          have HB4 := Aside0.mk (below_step HBn.out hb4)
          have hx4 := (Fr.of_below (B := 0) (T := []) hb4).blk HXN.out (by simp)
          have hs4 := (Fr.of_below (B := 0) (T := []) hb4).blk HSN.out (by simp)
          have HX4 := Aside0.mk hx4
          have HS4 := Aside0.mk hs4
          obtain ⟨x0, x1, x2⟩ := tri_cells hx4
          obtain ⟨s0, s1, s2, s3, s4, s5, s6⟩ := st_cells hs4
          clear hb4 hx4 hs4 x0r s4r
          go_wp2
          go_ret
          rw [HG.out]
          exact ⟨rfl, below_step HB0.out HB4.out⟩
        | true =>
          have HNM := Aside0.mk hn
          rw [hn] at HNC
          clear hn
          by_cases hi : i = 0
          · have hi' : decide ((0 : Int) < (i : Int)) = false := decide_eq_false (by omega)
            have hiN : decide (0 < i) = false := decide_eq_false (by omega)
            have HST := Aside0.mk (show (findB s.made f2 || (!f1 && f2 == 0)) = true → refsL s.made s.head none false s.refs = refsL s.made s.head (some f0) (hd || (f0.toList == s.head.toList && !f1)) (s.refs.drop (i + 1)) from fun hf => by rw [HE2.out, prevR, if_pos hi, refsL_none HNM.out hf])
            clear hi HPR
            refine region_reach (by kernel_rfl) (by kernel_rfl) ?_
            repeat (go_big_quiet_step ((go_at_call 57; exact calls_reach _ (HNC.out _))))
            refine wpQuiet_nil ?_
            rintro _ ⟨⟨w4, hb4⟩, rfl⟩
            have HB4 := Aside0.mk (below_step HBn.out hb4)
            have hx4 := (Fr.of_below (B := 0) (T := []) hb4).blk HXN.out (by simp)
            have hs4 := (Fr.of_below (B := 0) (T := []) hb4).blk HSN.out (by simp)
            have HX4 := Aside0.mk hx4
            have HS4 := Aside0.mk hs4
            obtain ⟨x0, x1, x2⟩ := tri_cells hx4
            obtain ⟨s0, s1, s2, s3, s4, s5, s6⟩ := st_cells hs4
            clear hb4 hx4 hs4 x0r s4r
            cases hfb : findB s.made f2 with
            | true =>
              have HFB := Aside0.mk hfb
              cases f1 with
              | true =>
                have HG := Aside0.mk (HST.out (by rw [HFB.out]; rfl))
                cases hd with
                | true =>
                  go_wp2_with (go_at_call 46; refine (made17_calls f2 _ (HS.out.below (below_step HB0.out HB4.out))).mono ?_; rw [HFB.out]; rintro e w5 ⟨rfl, hb⟩; have HB5 := Aside0.mk (below_step HB4.out hb); have hx5 := (Fr.of_below (B := 0) (T := []) hb).blk HX4.out (by simp); have hs5 := (Fr.of_below (B := 0) (T := []) hb).blk HS4.out (by simp); obtain ⟨y0, y1, y2⟩ := tri_cells hx5; obtain ⟨t0, t1, t2, t3, t4, t5, t6⟩ := st_cells hs5; clear hb hx5 hs5)
                  go_roundg (s.refs.length - (i + 1))
                  case measure => have := HI.out; omega
                  case rel => exact ⟨i + 1, _, rfl, by rw [HWI.out], ⟨by omega, rfl⟩, ⟨by rw [HPS.out]; exact HG.out⟩, ⟨HB5.out⟩⟩
                | false =>
                  cases heq : (f0.toList == s.head.toList) with
                  | true =>
                    rw [heq] at HG
                    go_wp2_with (go_at_call 46; refine (made17_calls f2 _ (HS.out.below (below_step HB0.out HB4.out))).mono ?_; rw [HFB.out]; rintro e w5 ⟨rfl, hb⟩; have HB5 := Aside0.mk (below_step HB4.out hb); have hx5 := (Fr.of_below (B := 0) (T := []) hb).blk HX4.out (by simp); have hs5 := (Fr.of_below (B := 0) (T := []) hb).blk HS4.out (by simp); obtain ⟨y0, y1, y2⟩ := tri_cells hx5; obtain ⟨t0, t1, t2, t3, t4, t5, t6⟩ := st_cells hs5; clear hb hx5 hs5)
                    go_roundg (s.refs.length - (i + 1))
                    case measure => have := HI.out; omega
                    case rel => exact ⟨i + 1, _, rfl, by rw [HWI.out], ⟨by omega, rfl⟩, ⟨by rw [HPS.out]; exact HG.out⟩, ⟨HB5.out⟩⟩
                  | false =>
                    rw [heq] at HG
                    go_wp2_with (go_at_call 46; refine (made17_calls f2 _ (HS.out.below (below_step HB0.out HB4.out))).mono ?_; rw [HFB.out]; rintro e w5 ⟨rfl, hb⟩; have HB5 := Aside0.mk (below_step HB4.out hb); have hx5 := (Fr.of_below (B := 0) (T := []) hb).blk HX4.out (by simp); have hs5 := (Fr.of_below (B := 0) (T := []) hb).blk HS4.out (by simp); obtain ⟨y0, y1, y2⟩ := tri_cells hx5; obtain ⟨t0, t1, t2, t3, t4, t5, t6⟩ := st_cells hs5; clear hb hx5 hs5)
                    go_roundg (s.refs.length - (i + 1))
                    case measure => have := HI.out; omega
                    case rel => exact ⟨i + 1, _, rfl, by rw [HWI.out], ⟨by omega, rfl⟩, ⟨by rw [HPS.out]; exact HG.out⟩, ⟨HB5.out⟩⟩
              | false =>
                have HG := Aside0.mk (HST.out (by rw [HFB.out]; rfl))
                cases hd with
                | true =>
                  go_wp2_with (go_at_call 46; refine (made17_calls f2 _ (HS.out.below (below_step HB0.out HB4.out))).mono ?_; rw [HFB.out]; rintro e w5 ⟨rfl, hb⟩; have HB5 := Aside0.mk (below_step HB4.out hb); have hx5 := (Fr.of_below (B := 0) (T := []) hb).blk HX4.out (by simp); have hs5 := (Fr.of_below (B := 0) (T := []) hb).blk HS4.out (by simp); obtain ⟨y0, y1, y2⟩ := tri_cells hx5; obtain ⟨t0, t1, t2, t3, t4, t5, t6⟩ := st_cells hs5; clear hb hx5 hs5)
                  go_roundg (s.refs.length - (i + 1))
                  case measure => have := HI.out; omega
                  case rel => exact ⟨i + 1, _, rfl, by rw [HWI.out], ⟨by omega, rfl⟩, ⟨by rw [HPS.out]; exact HG.out⟩, ⟨HB5.out⟩⟩
                | false =>
                  cases heq : (f0.toList == s.head.toList) with
                  | true =>
                    rw [heq] at HG
                    go_wp2_with (go_at_call 46; refine (made17_calls f2 _ (HS.out.below (below_step HB0.out HB4.out))).mono ?_; rw [HFB.out]; rintro e w5 ⟨rfl, hb⟩; have HB5 := Aside0.mk (below_step HB4.out hb); have hx5 := (Fr.of_below (B := 0) (T := []) hb).blk HX4.out (by simp); have hs5 := (Fr.of_below (B := 0) (T := []) hb).blk HS4.out (by simp); obtain ⟨y0, y1, y2⟩ := tri_cells hx5; obtain ⟨t0, t1, t2, t3, t4, t5, t6⟩ := st_cells hs5; clear hb hx5 hs5)
                    go_roundg (s.refs.length - (i + 1))
                    case measure => have := HI.out; omega
                    case rel => exact ⟨i + 1, _, rfl, by rw [HWI.out], ⟨by omega, rfl⟩, ⟨by rw [HPS.out]; exact HG.out⟩, ⟨HB5.out⟩⟩
                  | false =>
                    rw [heq] at HG
                    go_wp2_with (go_at_call 46; refine (made17_calls f2 _ (HS.out.below (below_step HB0.out HB4.out))).mono ?_; rw [HFB.out]; rintro e w5 ⟨rfl, hb⟩; have HB5 := Aside0.mk (below_step HB4.out hb); have hx5 := (Fr.of_below (B := 0) (T := []) hb).blk HX4.out (by simp); have hs5 := (Fr.of_below (B := 0) (T := []) hb).blk HS4.out (by simp); obtain ⟨y0, y1, y2⟩ := tri_cells hx5; obtain ⟨t0, t1, t2, t3, t4, t5, t6⟩ := st_cells hs5; clear hb hx5 hs5)
                    go_roundg (s.refs.length - (i + 1))
                    case measure => have := HI.out; omega
                    case rel => exact ⟨i + 1, _, rfl, by rw [HWI.out], ⟨by omega, rfl⟩, ⟨by rw [HPS.out]; exact HG.out⟩, ⟨HB5.out⟩⟩
            | false =>
              have HFB := Aside0.mk hfb
              cases f1 with
              | true =>
                have HG := Aside0.mk (show refsB s = false by rw [HRB.out, HE2.out, refsL_found (by rw [HFB.out]; rfl)])
                go_wp2_with (go_at_call 46; refine (made17_calls f2 _ (HS.out.below (below_step HB0.out HB4.out))).mono ?_; rw [HFB.out]; rintro e w5 ⟨rfl, hb⟩; have HB5 := Aside0.mk (below_step HB4.out hb); have hx5 := (Fr.of_below (B := 0) (T := []) hb).blk HX4.out (by simp); have hs5 := (Fr.of_below (B := 0) (T := []) hb).blk HS4.out (by simp); obtain ⟨y0, y1, y2⟩ := tri_cells hx5; obtain ⟨t0, t1, t2, t3, t4, t5, t6⟩ := st_cells hs5; clear hb hx5 hs5)
                go_ret
                rw [HG.out]
                exact ⟨rfl, below_step HB0.out HB5.out⟩
              | false =>
                by_cases hz : f2 = 0
                · subst hz
                  have HG := Aside0.mk (HST.out (by rw [HFB.out]; rfl))
                  cases hd with
                  | true =>
                    go_wp2_with (go_at_call 46; refine (made17_calls 0 _ (HS.out.below (below_step HB0.out HB4.out))).mono ?_; rw [HFB.out]; rintro e w5 ⟨rfl, hb⟩; have HB5 := Aside0.mk (below_step HB4.out hb); have hx5 := (Fr.of_below (B := 0) (T := []) hb).blk HX4.out (by simp); have hs5 := (Fr.of_below (B := 0) (T := []) hb).blk HS4.out (by simp); obtain ⟨y0, y1, y2⟩ := tri_cells hx5; obtain ⟨t0, t1, t2, t3, t4, t5, t6⟩ := st_cells hs5; clear hb hx5 hs5)
                    go_roundg (s.refs.length - (i + 1))
                    case measure => have := HI.out; omega
                    case rel => exact ⟨i + 1, _, rfl, by rw [HWI.out], ⟨by omega, rfl⟩, ⟨by rw [HPS.out]; exact HG.out⟩, ⟨HB5.out⟩⟩
                  | false =>
                    cases heq : (f0.toList == s.head.toList) with
                    | true =>
                      rw [heq] at HG
                      go_wp2_with (go_at_call 46; refine (made17_calls 0 _ (HS.out.below (below_step HB0.out HB4.out))).mono ?_; rw [HFB.out]; rintro e w5 ⟨rfl, hb⟩; have HB5 := Aside0.mk (below_step HB4.out hb); have hx5 := (Fr.of_below (B := 0) (T := []) hb).blk HX4.out (by simp); have hs5 := (Fr.of_below (B := 0) (T := []) hb).blk HS4.out (by simp); obtain ⟨y0, y1, y2⟩ := tri_cells hx5; obtain ⟨t0, t1, t2, t3, t4, t5, t6⟩ := st_cells hs5; clear hb hx5 hs5)
                      go_roundg (s.refs.length - (i + 1))
                      case measure => have := HI.out; omega
                      case rel => exact ⟨i + 1, _, rfl, by rw [HWI.out], ⟨by omega, rfl⟩, ⟨by rw [HPS.out]; exact HG.out⟩, ⟨HB5.out⟩⟩
                    | false =>
                      rw [heq] at HG
                      go_wp2_with (go_at_call 46; refine (made17_calls 0 _ (HS.out.below (below_step HB0.out HB4.out))).mono ?_; rw [HFB.out]; rintro e w5 ⟨rfl, hb⟩; have HB5 := Aside0.mk (below_step HB4.out hb); have hx5 := (Fr.of_below (B := 0) (T := []) hb).blk HX4.out (by simp); have hs5 := (Fr.of_below (B := 0) (T := []) hb).blk HS4.out (by simp); obtain ⟨y0, y1, y2⟩ := tri_cells hx5; obtain ⟨t0, t1, t2, t3, t4, t5, t6⟩ := st_cells hs5; clear hb hx5 hs5)
                      go_roundg (s.refs.length - (i + 1))
                      case measure => have := HI.out; omega
                      case rel => exact ⟨i + 1, _, rfl, by rw [HWI.out], ⟨by omega, rfl⟩, ⟨by rw [HPS.out]; exact HG.out⟩, ⟨HB5.out⟩⟩
                · have hz1 : (f2 == 0) = false := beq_eq_false_iff_ne.mpr hz
                  have hz2 : (f2 != 0) = true := bne_iff_ne.mpr hz
                  have HG := Aside0.mk (show refsB s = false by rw [HRB.out, HE2.out, refsL_found (by rw [HFB.out]; simp [hz1])])
                  clear hz hz1
                  go_wp2_with (go_at_call 46; refine (made17_calls f2 _ (HS.out.below (below_step HB0.out HB4.out))).mono ?_; rw [HFB.out]; rintro e w5 ⟨rfl, hb⟩; have HB5 := Aside0.mk (below_step HB4.out hb); have hx5 := (Fr.of_below (B := 0) (T := []) hb).blk HX4.out (by simp); have hs5 := (Fr.of_below (B := 0) (T := []) hb).blk HS4.out (by simp); obtain ⟨y0, y1, y2⟩ := tri_cells hx5; obtain ⟨t0, t1, t2, t3, t4, t5, t6⟩ := st_cells hs5; clear hb hx5 hs5)
                  go_ret
                  rw [HG.out]
                  exact ⟨rfl, below_step HB0.out HB5.out⟩
          · obtain ⟨j, hj⟩ : ∃ j : Nat, i = j + 1 := ⟨i - 1, by omega⟩
            have hi' : decide ((0 : Int) < (i : Int)) = true := decide_eq_true (by omega)
            have hiN : decide (0 < i) = true := decide_eq_true (by omega)
            have hwj : wrap64 ((i : Int) - 1) = (j : Int) := by have := HMX.out; unfold wrap64; omega
            have hwj2 : IntKind.i64.wrap ((i : Int) - 1) = (j : Int) := by first | exact hwj | (rw [i64_w]; exact hwj)
            have hjl : (j : Int) < (s.refs.length : Int) := by omega
            have hk0 := HPR.out j hj
            have HPV := Aside0.mk (show prevR s.refs i = some (rd_T46 s.refs (j : Int)).f0 by rw [hj, prevR_succ])
            generalize (rd_T46 s.refs (j : Int)).f0 = q at hk0 HPV
            have k0r := Reach.cell hk0
            clear hk0 HPR
            cases hless : lessK q f0 with
            | true =>
              have HST := Aside0.mk (show (findB s.made f2 || (!f1 && f2 == 0)) = true → refsL s.made s.head none false s.refs = refsL s.made s.head (some f0) (hd || (f0.toList == s.head.toList && !f1)) (s.refs.drop (i + 1)) from fun hf => by rw [HE2.out, HPV.out, refsL_some HNM.out hless hf])
              have hl' : Op.bytesLess q.toList f0.toList = true := hless
              have hge : ∀ w, (binOp .geq 9 (.string q) (.string f0)).run Try.prog w = .ok (.bool false) w := fun w => by rw [str_geq, hl']; rfl
              clear hi hj hless
              refine region_reach (by kernel_rfl) (by kernel_rfl) ?_
              repeat (go_big_quiet_step ((go_at_call 57; exact calls_reach _ (HNC.out _))))
              refine wpQuiet_nil ?_
              rintro _ ⟨⟨w4, hb4⟩, rfl⟩
              have HB4 := Aside0.mk (below_step HBn.out hb4)
              have hx4 := (Fr.of_below (B := 0) (T := []) hb4).blk HXN.out (by simp)
              have hs4 := (Fr.of_below (B := 0) (T := []) hb4).blk HSN.out (by simp)
              have HX4 := Aside0.mk hx4
              have HS4 := Aside0.mk hs4
              obtain ⟨x0, x1, x2⟩ := tri_cells hx4
              obtain ⟨s0, s1, s2, s3, s4, s5, s6⟩ := st_cells hs4
              clear hb4 hx4 hs4 x0r s4r k0r
              cases hfb : findB s.made f2 with
              | true =>
                have HFB := Aside0.mk hfb
                cases f1 with
                | true =>
                  have HG := Aside0.mk (HST.out (by rw [HFB.out]; rfl))
                  cases hd with
                  | true =>
                    go_wp2_with (go_at_call 46; refine (made17_calls f2 _ (HS.out.below (below_step HB0.out HB4.out))).mono ?_; rw [HFB.out]; rintro e w5 ⟨rfl, hb⟩; have HB5 := Aside0.mk (below_step HB4.out hb); have hx5 := (Fr.of_below (B := 0) (T := []) hb).blk HX4.out (by simp); have hs5 := (Fr.of_below (B := 0) (T := []) hb).blk HS4.out (by simp); obtain ⟨y0, y1, y2⟩ := tri_cells hx5; obtain ⟨t0, t1, t2, t3, t4, t5, t6⟩ := st_cells hs5; clear hb hx5 hs5)
                    go_roundg (s.refs.length - (i + 1))
                    case measure => have := HI.out; omega
                    case rel => exact ⟨i + 1, _, rfl, by rw [HWI.out], ⟨by omega, rfl⟩, ⟨by rw [HPS.out]; exact HG.out⟩, ⟨HB5.out⟩⟩
                  | false =>
                    cases heq : (f0.toList == s.head.toList) with
                    | true =>
                      rw [heq] at HG
                      go_wp2_with (go_at_call 46; refine (made17_calls f2 _ (HS.out.below (below_step HB0.out HB4.out))).mono ?_; rw [HFB.out]; rintro e w5 ⟨rfl, hb⟩; have HB5 := Aside0.mk (below_step HB4.out hb); have hx5 := (Fr.of_below (B := 0) (T := []) hb).blk HX4.out (by simp); have hs5 := (Fr.of_below (B := 0) (T := []) hb).blk HS4.out (by simp); obtain ⟨y0, y1, y2⟩ := tri_cells hx5; obtain ⟨t0, t1, t2, t3, t4, t5, t6⟩ := st_cells hs5; clear hb hx5 hs5)
                      go_roundg (s.refs.length - (i + 1))
                      case measure => have := HI.out; omega
                      case rel => exact ⟨i + 1, _, rfl, by rw [HWI.out], ⟨by omega, rfl⟩, ⟨by rw [HPS.out]; exact HG.out⟩, ⟨HB5.out⟩⟩
                    | false =>
                      rw [heq] at HG
                      go_wp2_with (go_at_call 46; refine (made17_calls f2 _ (HS.out.below (below_step HB0.out HB4.out))).mono ?_; rw [HFB.out]; rintro e w5 ⟨rfl, hb⟩; have HB5 := Aside0.mk (below_step HB4.out hb); have hx5 := (Fr.of_below (B := 0) (T := []) hb).blk HX4.out (by simp); have hs5 := (Fr.of_below (B := 0) (T := []) hb).blk HS4.out (by simp); obtain ⟨y0, y1, y2⟩ := tri_cells hx5; obtain ⟨t0, t1, t2, t3, t4, t5, t6⟩ := st_cells hs5; clear hb hx5 hs5)
                      go_roundg (s.refs.length - (i + 1))
                      case measure => have := HI.out; omega
                      case rel => exact ⟨i + 1, _, rfl, by rw [HWI.out], ⟨by omega, rfl⟩, ⟨by rw [HPS.out]; exact HG.out⟩, ⟨HB5.out⟩⟩
                | false =>
                  have HG := Aside0.mk (HST.out (by rw [HFB.out]; rfl))
                  cases hd with
                  | true =>
                    go_wp2_with (go_at_call 46; refine (made17_calls f2 _ (HS.out.below (below_step HB0.out HB4.out))).mono ?_; rw [HFB.out]; rintro e w5 ⟨rfl, hb⟩; have HB5 := Aside0.mk (below_step HB4.out hb); have hx5 := (Fr.of_below (B := 0) (T := []) hb).blk HX4.out (by simp); have hs5 := (Fr.of_below (B := 0) (T := []) hb).blk HS4.out (by simp); obtain ⟨y0, y1, y2⟩ := tri_cells hx5; obtain ⟨t0, t1, t2, t3, t4, t5, t6⟩ := st_cells hs5; clear hb hx5 hs5)
                    go_roundg (s.refs.length - (i + 1))
                    case measure => have := HI.out; omega
                    case rel => exact ⟨i + 1, _, rfl, by rw [HWI.out], ⟨by omega, rfl⟩, ⟨by rw [HPS.out]; exact HG.out⟩, ⟨HB5.out⟩⟩
                  | false =>
                    cases heq : (f0.toList == s.head.toList) with
                    | true =>
                      rw [heq] at HG
                      go_wp2_with (go_at_call 46; refine (made17_calls f2 _ (HS.out.below (below_step HB0.out HB4.out))).mono ?_; rw [HFB.out]; rintro e w5 ⟨rfl, hb⟩; have HB5 := Aside0.mk (below_step HB4.out hb); have hx5 := (Fr.of_below (B := 0) (T := []) hb).blk HX4.out (by simp); have hs5 := (Fr.of_below (B := 0) (T := []) hb).blk HS4.out (by simp); obtain ⟨y0, y1, y2⟩ := tri_cells hx5; obtain ⟨t0, t1, t2, t3, t4, t5, t6⟩ := st_cells hs5; clear hb hx5 hs5)
                      go_roundg (s.refs.length - (i + 1))
                      case measure => have := HI.out; omega
                      case rel => exact ⟨i + 1, _, rfl, by rw [HWI.out], ⟨by omega, rfl⟩, ⟨by rw [HPS.out]; exact HG.out⟩, ⟨HB5.out⟩⟩
                    | false =>
                      rw [heq] at HG
                      go_wp2_with (go_at_call 46; refine (made17_calls f2 _ (HS.out.below (below_step HB0.out HB4.out))).mono ?_; rw [HFB.out]; rintro e w5 ⟨rfl, hb⟩; have HB5 := Aside0.mk (below_step HB4.out hb); have hx5 := (Fr.of_below (B := 0) (T := []) hb).blk HX4.out (by simp); have hs5 := (Fr.of_below (B := 0) (T := []) hb).blk HS4.out (by simp); obtain ⟨y0, y1, y2⟩ := tri_cells hx5; obtain ⟨t0, t1, t2, t3, t4, t5, t6⟩ := st_cells hs5; clear hb hx5 hs5)
                      go_roundg (s.refs.length - (i + 1))
                      case measure => have := HI.out; omega
                      case rel => exact ⟨i + 1, _, rfl, by rw [HWI.out], ⟨by omega, rfl⟩, ⟨by rw [HPS.out]; exact HG.out⟩, ⟨HB5.out⟩⟩
              | false =>
                have HFB := Aside0.mk hfb
                cases f1 with
                | true =>
                  have HG := Aside0.mk (show refsB s = false by rw [HRB.out, HE2.out, refsL_found (by rw [HFB.out]; rfl)])
                  go_wp2_with (go_at_call 46; refine (made17_calls f2 _ (HS.out.below (below_step HB0.out HB4.out))).mono ?_; rw [HFB.out]; rintro e w5 ⟨rfl, hb⟩; have HB5 := Aside0.mk (below_step HB4.out hb); have hx5 := (Fr.of_below (B := 0) (T := []) hb).blk HX4.out (by simp); have hs5 := (Fr.of_below (B := 0) (T := []) hb).blk HS4.out (by simp); obtain ⟨y0, y1, y2⟩ := tri_cells hx5; obtain ⟨t0, t1, t2, t3, t4, t5, t6⟩ := st_cells hs5; clear hb hx5 hs5)
                  go_ret
                  rw [HG.out]
                  exact ⟨rfl, below_step HB0.out HB5.out⟩
                | false =>
                  by_cases hz : f2 = 0
                  · subst hz
                    have HG := Aside0.mk (HST.out (by rw [HFB.out]; rfl))
                    cases hd with
                    | true =>
                      go_wp2_with (go_at_call 46; refine (made17_calls 0 _ (HS.out.below (below_step HB0.out HB4.out))).mono ?_; rw [HFB.out]; rintro e w5 ⟨rfl, hb⟩; have HB5 := Aside0.mk (below_step HB4.out hb); have hx5 := (Fr.of_below (B := 0) (T := []) hb).blk HX4.out (by simp); have hs5 := (Fr.of_below (B := 0) (T := []) hb).blk HS4.out (by simp); obtain ⟨y0, y1, y2⟩ := tri_cells hx5; obtain ⟨t0, t1, t2, t3, t4, t5, t6⟩ := st_cells hs5; clear hb hx5 hs5)
                      go_roundg (s.refs.length - (i + 1))
                      case measure => have := HI.out; omega
                      case rel => exact ⟨i + 1, _, rfl, by rw [HWI.out], ⟨by omega, rfl⟩, ⟨by rw [HPS.out]; exact HG.out⟩, ⟨HB5.out⟩⟩
                    | false =>
                      cases heq : (f0.toList == s.head.toList) with
                      | true =>
                        rw [heq] at HG
                        go_wp2_with (go_at_call 46; refine (made17_calls 0 _ (HS.out.below (below_step HB0.out HB4.out))).mono ?_; rw [HFB.out]; rintro e w5 ⟨rfl, hb⟩; have HB5 := Aside0.mk (below_step HB4.out hb); have hx5 := (Fr.of_below (B := 0) (T := []) hb).blk HX4.out (by simp); have hs5 := (Fr.of_below (B := 0) (T := []) hb).blk HS4.out (by simp); obtain ⟨y0, y1, y2⟩ := tri_cells hx5; obtain ⟨t0, t1, t2, t3, t4, t5, t6⟩ := st_cells hs5; clear hb hx5 hs5)
                        go_roundg (s.refs.length - (i + 1))
                        case measure => have := HI.out; omega
                        case rel => exact ⟨i + 1, _, rfl, by rw [HWI.out], ⟨by omega, rfl⟩, ⟨by rw [HPS.out]; exact HG.out⟩, ⟨HB5.out⟩⟩
                      | false =>
                        rw [heq] at HG
                        go_wp2_with (go_at_call 46; refine (made17_calls 0 _ (HS.out.below (below_step HB0.out HB4.out))).mono ?_; rw [HFB.out]; rintro e w5 ⟨rfl, hb⟩; have HB5 := Aside0.mk (below_step HB4.out hb); have hx5 := (Fr.of_below (B := 0) (T := []) hb).blk HX4.out (by simp); have hs5 := (Fr.of_below (B := 0) (T := []) hb).blk HS4.out (by simp); obtain ⟨y0, y1, y2⟩ := tri_cells hx5; obtain ⟨t0, t1, t2, t3, t4, t5, t6⟩ := st_cells hs5; clear hb hx5 hs5)
                        go_roundg (s.refs.length - (i + 1))
                        case measure => have := HI.out; omega
                        case rel => exact ⟨i + 1, _, rfl, by rw [HWI.out], ⟨by omega, rfl⟩, ⟨by rw [HPS.out]; exact HG.out⟩, ⟨HB5.out⟩⟩
                  · have hz1 : (f2 == 0) = false := beq_eq_false_iff_ne.mpr hz
                    have hz2 : (f2 != 0) = true := bne_iff_ne.mpr hz
                    have HG := Aside0.mk (show refsB s = false by rw [HRB.out, HE2.out, refsL_found (by rw [HFB.out]; simp [hz1])])
                    clear hz hz1
                    go_wp2_with (go_at_call 46; refine (made17_calls f2 _ (HS.out.below (below_step HB0.out HB4.out))).mono ?_; rw [HFB.out]; rintro e w5 ⟨rfl, hb⟩; have HB5 := Aside0.mk (below_step HB4.out hb); have hx5 := (Fr.of_below (B := 0) (T := []) hb).blk HX4.out (by simp); have hs5 := (Fr.of_below (B := 0) (T := []) hb).blk HS4.out (by simp); obtain ⟨y0, y1, y2⟩ := tri_cells hx5; obtain ⟨t0, t1, t2, t3, t4, t5, t6⟩ := st_cells hs5; clear hb hx5 hs5)
                    go_ret
                    rw [HG.out]
                    exact ⟨rfl, below_step HB0.out HB5.out⟩
            | false =>
              have HG := Aside0.mk (show refsB s = false by rw [HRB.out, HE2.out, HPV.out, refsL_prev hless])
              have hl' : Op.bytesLess q.toList f0.toList = false := hless
              have hge : ∀ w, (binOp .geq 9 (.string q) (.string f0)).run Try.prog w = .ok (.bool true) w := fun w => by rw [str_geq, hl']; rfl
              clear hi hj hless
              refine region_reach (by kernel_rfl) (by kernel_rfl) ?_
              repeat (go_big_quiet_step ((go_at_call 57; exact calls_reach _ (HNC.out _))))
              refine wpQuiet_nil ?_
              rintro _ ⟨⟨w4, hb4⟩, rfl⟩
              have HB4 := Aside0.mk (below_step HBn.out hb4)
              have hx4 := (Fr.of_below (B := 0) (T := []) hb4).blk HXN.out (by simp)
              have hs4 := (Fr.of_below (B := 0) (T := []) hb4).blk HSN.out (by simp)
              have HX4 := Aside0.mk hx4
              have HS4 := Aside0.mk hs4
              obtain ⟨x0, x1, x2⟩ := tri_cells hx4
              obtain ⟨s0, s1, s2, s3, s4, s5, s6⟩ := st_cells hs4
              clear hb4 hx4 hs4 x0r s4r k0r
              go_wp2
              go_ret
              rw [HG.out]
              exact ⟨rfl, below_step HB0.out HB4.out⟩
      · have hI : i = s.refs.length := by have := HI.out; omega
        subst hI
        have HG := Aside0.mk (show refsB s = hd by rw [HRB.out, HE.out, List.drop_length]; rfl)
        go_wp2
        go_ret
        rw [HG.out]
        exact ⟨rfl, below_step HB0.out HB.out⟩
end Go.Proofs.Ytabfjjcbceibpaa.Sep
namespace Go.Proofs.Ytabfjjcbceibpaa.Sep
set_option linter.unusedSimpArgs false
set_option linter.unusedVariables false
open Go.RowKit Go.Proofs.Ytabfjjcbceibpaa.PCore Go.Proofs.Ytabfjjcbceibpaa.Plain Go.Proofs.YtabfjjcbceibpaaW.PrintWords Go.Proofs.YtabfjjcbceibpaaW.PrintLast Go.Proofs.YtabfjjcbceibpaaW.PrintMore
open Go.Proofs.Ytabfjjcbceibpaa.PDat (S46 k46 S48 k48 z48 rd_T48 at_T48)
theorem made_drop (l : List Made) (i : Nat) (h : i < l.length) : l.drop i = rd_T48 l (i : Int) :: l.drop (i + 1) := by rw [List.drop_eq_getElem_cons h, made_at i h]
theorem prevM_succ (l : List Made) (i : Nat) : prevM l (i + 1) = some (rd_T48 l (i : Int)).f0 := by simp [prevM]
theorem madeL_bad {nx : Int} {p : Option Int} {x : Made} {l : List Made} (h : x.f0 = 0 ∨ nx ≤ x.f0 ∨ x.f1 = 0 ∨ ∃ q, p = some q ∧ x.f0 ≤ q) : madeL nx p (x :: l) = false := by
  cases p with
  | none =>
    simp only [madeL]
    rcases h with h | h | h | ⟨q, e, h⟩
    · simp [h]
    · rw [decide_eq_false (show ¬ x.f0 < nx by omega)]; simp
    · simp [h]
    · cases e
  | some q =>
    simp only [madeL]
    rcases h with h | h | h | ⟨q', e, h⟩
    · simp [h]
    · rw [decide_eq_false (show ¬ x.f0 < nx by omega)]; simp
    · simp [h]
    · cases e
      rw [decide_eq_false (show ¬ q < x.f0 by omega)]
      simp
theorem madeL_step {nx : Int} {p : Option Int} {x : Made} {l : List Made} (h1 : x.f0 ≠ 0) (h2 : x.f0 < nx) (h3 : x.f1 ≠ 0) (h4 : ∀ q, p = some q → q < x.f0) : madeL nx p (x :: l) = madeL nx (some x.f0) l := by
  have b1 : (x.f0 == 0) = false := beq_eq_false_iff_ne.mpr h1
  have b3 : (x.f1 == 0) = false := beq_eq_false_iff_ne.mpr h3
  cases p with
  | none => simp only [madeL]; rw [b1, b3, decide_eq_true h2]; rfl
  | some q => simp only [madeL]; rw [b1, b3, decide_eq_true h2, decide_eq_true (h4 q rfl)]; rfl
theorem madeB_bad {s : St} (h : madeL s.next none s.made = false) : madeB s = false := by unfold madeB; rw [h, Bool.and_false]
set_option maxHeartbeats 16000000 in
set_option maxRecDepth 100000 in
theorem madeRight_calls {s : St} {A : Option Addr} {n : Nat} {B : Option Addr} {m : Nat} {C : Option Addr} {o : Nat} (W : World) (h : StC W s A n B m C o) :
    Calls Try.prog 48 #[stV s A n B m C o] W fun e W1 => e = .returned (.bool (madeB s)) ∧ Below W.heap.size W W1 := by
  have HS := Aside0.mk h
  have HMM := Aside0.mk (Kd.C_max h.hm)
  have huS := Try.underlying29
  have huM := Try.underlying48
  clear h
  by_cases h2 : (200 : Int) < (s.made.length : Int)
  · have d1 : decide ((200 : Int) < (s.made.length : Int)) = true := decide_eq_true h2
    have HG := Aside0.mk (show madeB s = false by unfold madeB; rw [decide_eq_false (show ¬ s.made.length ≤ 200 by omega)]; rfl)
    clear h2
    go_enter Try.func48, Try.ntmps48
    go_wp2
    go_ret
    rw [HG.out]
    exact ⟨rfl, below_alloc (Below.refl _ _) _⟩
  · have d1 : decide ((200 : Int) < (s.made.length : Int)) = false := decide_eq_false h2
    have HLE := Aside0.mk (show s.made.length ≤ 200 by omega)
    clear h2
    go_enter Try.func48, Try.ntmps48
    go_wp2
    have hk0 := blk_new W (.cells #[.string s.head, .int .u64 s.work, .int .u64 s.next, .int .u64 s.pend, .slice A s.refs.length n, .slice B s.made.length m, .slice C s.cls.length o] 29)
    have HB0 := Aside0.mk (below_alloc (Below.refl W.heap.size W) (.cells #[.string s.head, .int .u64 s.work, .int .u64 s.next, .int .u64 s.pend, .slice A s.refs.length n, .slice B s.made.length m, .slice C s.cls.length o] 29))
    generalize W.alloc (.cells #[.string s.head, .int .u64 s.work, .int .u64 s.next, .int .u64 s.pend, .slice A s.refs.length n, .slice B s.made.length m, .slice C s.cls.length o] 29) = w0 at hk0 HB0 ⊢
    generalize W.heap.size = g at hk0 ⊢
    have HK0 := Aside0.mk hk0
    clear hk0
    go_loopg [12] s.made.length (fun kq v12 w' => ∃ (i : Nat), v12 = .int .i64 i ∧ Aside0 (i ≤ s.made.length ∧ kq = s.made.length - i) ∧ Aside0 (madeL s.next none s.made = madeL s.next (prevM s.made i) (s.made.drop i)) ∧ Aside0 (Below w0.heap.size w0 w'))
    case atStart => exact ⟨0, rfl, ⟨by omega, by omega⟩, ⟨rfl⟩, ⟨Below.refl _ _⟩⟩
    case round =>
      obtain ⟨i, rfl, HI, HE, HB⟩ := hrel
      have hks := (Fr.of_below (B := 0) (T := []) HB.out).blk HK0.out (by simp)
      by_cases hlt : i < s.made.length
      · have hcc := (HS.out.below (below_step HB0.out HB.out)).hm
        obtain ⟨ad, hA, h0, h1⟩ := at_T48 hcc (i : Int) (by omega) (by omega)
        subst hA
        simp only [Int.toNat_natCast] at h0 h1
        have hE := HE.out
        rw [made_drop s.made i hlt] at hE
        have HPS := Aside0.mk (prevM_succ s.made i)
        generalize rd_T48 s.made (i : Int) = x at h0 h1 hE HPS
        obtain ⟨f0, f1⟩ := x
        simp only at h0 h1 HPS
        have HE2 := Aside0.mk hE
        clear hE HE
        have hlt' : (i : Int) < (s.made.length : Int) := by omega
        have HWI := Aside0.mk (show wrap64 ((i : Int) + 1) = ((i + 1 : Nat) : Int) by have := HMM.out; unfold wrap64; omega)
        go_wp2
        have hxn := blk_new wr (.cells #[.int .u64 f0, .int .u64 f1] 48)
        have hsn := blk_alloc hks (.cells #[.int .u64 f0, .int .u64 f1] 48)
        have HBn := Aside0.mk (below_alloc HB.out (.cells #[.int .u64 f0, .int .u64 f1] 48))
        have hprev : ∀ j : Nat, i = j + 1 → (wr.alloc (.cells #[.int .u64 f0, .int .u64 f1] 48)).cell? (ad.add (j * 2)) = some (.int .u64 (rd_T48 s.made (j : Int)).f0) := fun j hj => by
          obtain ⟨ad', e', k0, _⟩ := at_T48 (Kd.C_alloc hcc (.cells #[.int .u64 f0, .int .u64 f1] 48)) (j : Int) (by omega) (by omega)
          have e'' : ad = ad' := by injection e'
          rw [← e''] at k0
          simpa only [Int.toNat_natCast] using k0
        generalize wr.alloc (.cells #[.int .u64 f0, .int .u64 f1] 48) = wv at hxn hsn HBn hprev ⊢
        generalize wr.heap.size = gx at hxn ⊢
        have x0 : World.cell? wv ⟨gx, 0, none⟩ = some (.int .u64 f0) := (blk_cell hxn 0).trans rfl
        have x1 : World.cell? wv ⟨gx, 1, none⟩ = some (.int .u64 f1) := (blk_cell hxn 1).trans rfl
        obtain ⟨s0, s1, s2, s3, s4, s5, s6⟩ := st_cells hsn
        have x0r := Reach.cell x0
        have x1r := Reach.cell x1
        have s2r := Reach.cell s2
        have s5r := Reach.cell s5
        have HPR := Aside0.mk hprev
        clear hprev hxn hsn x0 x1 s0 s1 s2 s3 s4 s5 s6 h0 h1 hks
        by_cases c1 : f0 = 0
        · have d1 : (f0 == 0) = true := beq_iff_eq.mpr c1
          have HG := Aside0.mk (madeB_bad (by rw [HE2.out, madeL_bad (.inl c1)]))
          clear c1
          refine region_reach (by kernel_rfl) (by kernel_rfl) ?_
          repeat (go_big_quiet_step (fail))
          refine wpQuiet_nil ?_
          rintro _ ⟨⟨w4, hb4⟩, rfl⟩
          have HB4 := Aside0.mk (below_step HBn.out hb4)
          clear hb4
          go_wp2
          go_ret
          rw [HG.out]
          exact ⟨rfl, below_step HB0.out HB4.out⟩
        · have d1 : (f0 == 0) = false := beq_eq_false_iff_ne.mpr c1
          by_cases c2 : s.next ≤ f0
          · have d2 : decide (s.next ≤ f0) = true := decide_eq_true c2
            have HG := Aside0.mk (madeB_bad (by rw [HE2.out, madeL_bad (.inr (.inl c2))]))
            clear c1 c2
            refine region_reach (by kernel_rfl) (by kernel_rfl) ?_
            repeat (go_big_quiet_step (fail))
            refine wpQuiet_nil ?_
            rintro _ ⟨⟨w4, hb4⟩, rfl⟩
            have HB4 := Aside0.mk (below_step HBn.out hb4)
            clear hb4
            go_wp2
            go_ret
            rw [HG.out]
            exact ⟨rfl, below_step HB0.out HB4.out⟩
          · have d2 : decide (s.next ≤ f0) = false := decide_eq_false c2
            by_cases c3 : f1 = 0
            · have d3 : (f1 == 0) = true := beq_iff_eq.mpr c3
              have HG := Aside0.mk (madeB_bad (by rw [HE2.out, madeL_bad (.inr (.inr (.inl c3)))]))
              clear c1 c2 c3
              refine region_reach (by kernel_rfl) (by kernel_rfl) ?_
              repeat (go_big_quiet_step (fail))
              refine wpQuiet_nil ?_
              rintro _ ⟨⟨w4, hb4⟩, rfl⟩
              have HB4 := Aside0.mk (below_step HBn.out hb4)
              clear hb4
              go_wp2
              go_ret
              rw [HG.out]
              exact ⟨rfl, below_step HB0.out HB4.out⟩
            · have d3 : (f1 == 0) = false := beq_eq_false_iff_ne.mpr c3
              by_cases hi : i = 0
              · have hi' : decide ((0 : Int) < (i : Int)) = false := decide_eq_false (by omega)
                have hiN : decide (0 < i) = false := decide_eq_false (by omega)
                have HG := Aside0.mk (show madeL s.next none s.made = madeL s.next (some f0) (s.made.drop (i + 1)) by rw [HE2.out, madeL_step c1 (show f0 < s.next by omega) c3 (fun q hq => by rw [hi] at hq; cases hq)])
                clear c1 c2 c3 hi
                refine region_reach (by kernel_rfl) (by kernel_rfl) ?_
                repeat (go_big_quiet_step (fail))
                refine wpQuiet_nil ?_
                rintro _ ⟨⟨w4, hb4⟩, rfl⟩
                have HB4 := Aside0.mk (below_step HBn.out hb4)
                clear hb4
                go_wp2
                go_roundg (s.made.length - (i + 1))
                case measure => have := HI.out; omega
                case rel => exact ⟨i + 1, by rw [HWI.out], ⟨by omega, rfl⟩, ⟨by rw [HPS.out]; exact HG.out⟩, ⟨HB4.out⟩⟩
              · obtain ⟨j, hj⟩ : ∃ j : Nat, i = j + 1 := ⟨i - 1, by omega⟩
                have hi' : decide ((0 : Int) < (i : Int)) = true := decide_eq_true (by omega)
                have hiN : decide (0 < i) = true := decide_eq_true (by omega)
                have hwj : wrap64 ((i : Int) - 1) = (j : Int) := by have := HMM.out; unfold wrap64; omega
                have hwj2 : IntKind.i64.wrap ((i : Int) - 1) = (j : Int) := by first | exact hwj | (rw [i64_w]; exact hwj)
                have hjl : (j : Int) < (s.made.length : Int) := by omega
                have hk0 := HPR.out j hj
                have HPV := Aside0.mk (show prevM s.made i = some (rd_T48 s.made (j : Int)).f0 by rw [hj, prevM_succ])
                generalize (rd_T48 s.made (j : Int)).f0 = q at hk0 HPV
                have k0r := Reach.cell hk0
                by_cases c4 : f0 ≤ q
                · have d4 : decide (f0 ≤ q) = true := decide_eq_true c4
                  have HG := Aside0.mk (madeB_bad (by rw [HE2.out, madeL_bad (.inr (.inr (.inr ⟨q, HPV.out, c4⟩)))]))
                  clear c1 c2 c3 c4 hi hj hk0
                  refine region_reach (by kernel_rfl) (by kernel_rfl) ?_
                  repeat (go_big_quiet_step (fail))
                  refine wpQuiet_nil ?_
                  rintro _ ⟨⟨w4, hb4⟩, rfl⟩
                  have HB4 := Aside0.mk (below_step HBn.out hb4)
                  clear hb4
                  go_wp2
                  go_ret
                  rw [HG.out]
                  exact ⟨rfl, below_step HB0.out HB4.out⟩
                · have d4 : decide (f0 ≤ q) = false := decide_eq_false c4
                  have HG := Aside0.mk (show madeL s.next none s.made = madeL s.next (some f0) (s.made.drop (i + 1)) by rw [HE2.out, madeL_step c1 (show f0 < s.next by omega) c3 (fun q' hq => by rw [HPV.out] at hq; have e : q = q' := Option.some.inj hq; rw [← e]; show q < f0; omega)])
                  clear c1 c2 c3 c4 hi hj hk0
                  refine region_reach (by kernel_rfl) (by kernel_rfl) ?_
                  repeat (go_big_quiet_step (fail))
                  refine wpQuiet_nil ?_
                  rintro _ ⟨⟨w4, hb4⟩, rfl⟩
                  have HB4 := Aside0.mk (below_step HBn.out hb4)
                  clear hb4
                  go_wp2
                  go_roundg (s.made.length - (i + 1))
                  case measure => have := HI.out; omega
                  case rel => exact ⟨i + 1, by rw [HWI.out], ⟨by omega, rfl⟩, ⟨by rw [HPS.out]; exact HG.out⟩, ⟨HB4.out⟩⟩
      · have hI : i = s.made.length := by have := HI.out; omega
        subst hI
        have HG := Aside0.mk (show madeB s = true by
          unfold madeB
          rw [decide_eq_true HLE.out, HE.out, List.drop_length]
          cases prevM s.made s.made.length <;> rfl)
        go_wp2
        go_ret
        rw [HG.out]
        exact ⟨rfl, below_step HB0.out HB.out⟩
end Go.Proofs.Ytabfjjcbceibpaa.Sep
namespace Go.Proofs.Ytabfjjcbceibpaa.Sep
set_option linter.unusedSimpArgs false
set_option linter.unusedVariables false
open Go.RowKit Go.Proofs.Ytabfjjcbceibpaa.PCore Go.Proofs.Ytabfjjcbceibpaa.Plain Go.Proofs.YtabfjjcbceibpaaW.PrintWords Go.Proofs.YtabfjjcbceibpaaW.PrintLast Go.Proofs.YtabfjjcbceibpaaW.PrintMore
theorem stateE_bad {s : St} (h : (s.next == 0) = true ∨ refsB s = false ∨ madeB s = false ∨ pendB s = false ∨ (confE s.cls == 0) = false) : stateE s = 150 := by
  unfold stateE
  rw [if_pos]
  rcases h with h | h | h | h | h <;> simp [h]
theorem stateE_ok {s : St} (h1 : (s.next == 0) = false) (h2 : refsB s = true) (h3 : madeB s = true) (h4 : pendB s = true) (h5 : (confE s.cls == 0) = true) : stateE s = 0 := by
  unfold stateE
  rw [if_neg]
  rw [h1, h2, h3, h4, h5]
  decide
set_option maxHeartbeats 32000000 in
set_option maxRecDepth 100000 in
theorem right17_calls {s : St} {A : Option Addr} {n : Nat} {B : Option Addr} {m : Nat} {C : Option Addr} {o : Nat} (W : World) (h : StC W s A n B m C o) :
    Calls Try.prog 19 #[.agg #[.string s.head, .int .u64 s.work, .int .u64 s.next, .int .u64 s.pend, .slice A s.refs.length n, .slice B s.made.length m, .slice C s.cls.length o]] W fun e W1 => e = .returned (.int .i64 (stateE s)) ∧ Below W.heap.size W W1 := by
  have HS := Aside0.mk h
  have HCX := Aside0.mk (Kd.C_max h.hc)
  have huS := Try.underlying29
  have HK0 := Aside0.mk (blk_new W (.cells #[.string s.head, .int .u64 s.work, .int .u64 s.next, .int .u64 s.pend, .slice A s.refs.length n, .slice B s.made.length m, .slice C s.cls.length o] 29))
  have HB0 := Aside0.mk (below_alloc (Below.refl W.heap.size W) (.cells #[.string s.head, .int .u64 s.work, .int .u64 s.next, .int .u64 s.pend, .slice A s.refs.length n, .slice B s.made.length m, .slice C s.cls.length o] 29))
  clear h
  by_cases hp : s.pend = 0
  · have p1 : (s.pend == 0) = true := beq_iff_eq.mpr hp
    have p2 : (s.pend != 0) = false := by simp [bne, p1]
    by_cases hc : s.cls.length = 0
    · have c1 : ((s.cls.length : Int) == 0) = true := beq_iff_eq.mpr (by omega)
      have c2 : (s.cls.length == 0) = true := beq_iff_eq.mpr hc
      have HPD := Aside0.mk (show pendB s = true by unfold pendB; rw [p1, c2]; rfl)
      clear hp hc
      cases hnx : (s.next == 0) with
      | true =>
        have HG := Aside0.mk (stateE_bad (s := s) (.inl hnx))
        go_enter Try.func19, Try.ntmps19
        go_wp2
        go_ret
        rw [HG.out]
        exact ⟨rfl, HB0.out⟩
      | false =>
        have HNX := Aside0.mk hnx
        cases hrf : refsB s with
        | false =>
          have HG := Aside0.mk (stateE_bad (.inr (.inl hrf)))
          have HRF := Aside0.mk hrf
          clear hrf
          go_enter Try.func19, Try.ntmps19
          go_wp2_with (go_at_call 47; refine (refsRight_calls _ (HS.out.below HB0.out)).mono ?_; rw [HRF.out]; rintro e w1 ⟨rfl, hb⟩; have HB1 := Aside0.mk (below_step HB0.out hb); have hk1 := (Fr.of_below (B := 0) (T := []) hb).blk HK0.out (by simp); have HK1 := Aside0.mk hk1; obtain ⟨a0, a1, a2, a3, a4, a5, a6⟩ := st_cells hk1; clear hb hk1)
          go_ret
          rw [HG.out]
          exact ⟨rfl, HB1.out⟩
        | true =>
          have HRF := Aside0.mk hrf
          clear hrf
          cases hmd : madeB s with
          | false =>
            have HG := Aside0.mk (stateE_bad (.inr (.inr (.inl hmd))))
            have HMD := Aside0.mk hmd
            clear hmd
            go_enter Try.func19, Try.ntmps19
            go_wp2_with (first | (go_at_call 47; refine (refsRight_calls _ (HS.out.below HB0.out)).mono ?_; rw [HRF.out]; rintro e w1 ⟨rfl, hb⟩; have HB1 := Aside0.mk (below_step HB0.out hb); have hk1 := (Fr.of_below (B := 0) (T := []) hb).blk HK0.out (by simp); have HK1 := Aside0.mk hk1; obtain ⟨a0, a1, a2, a3, a4, a5, a6⟩ := st_cells hk1; clear hb hk1) | (go_at_call 48; refine (madeRight_calls _ (HS.out.below HB1.out)).mono ?_; rw [HMD.out]; rintro e w2 ⟨rfl, hb⟩; have HB2 := Aside0.mk (below_step HB1.out hb); have hk2 := (Fr.of_below (B := 0) (T := []) hb).blk HK1.out (by simp); have HK2 := Aside0.mk hk2; obtain ⟨b0, b1, b2, b3, b4, b5, b6⟩ := st_cells hk2; clear hb hk2))
            go_ret
            rw [HG.out]
            exact ⟨rfl, HB2.out⟩
          | true =>
            have HMD := Aside0.mk hmd
            clear hmd
            cases hcf : (confE s.cls == 0) with
            | false =>
              have HG := Aside0.mk (stateE_bad (.inr (.inr (.inr (.inr hcf)))))
              have hcf2 : (confE s.cls != 0) = true := by simp [bne, hcf]
              go_enter Try.func19, Try.ntmps19
              go_wp2_with (first | (go_at_call 47; refine (refsRight_calls _ (HS.out.below HB0.out)).mono ?_; rw [HRF.out]; rintro e w1 ⟨rfl, hb⟩; have HB1 := Aside0.mk (below_step HB0.out hb); have hk1 := (Fr.of_below (B := 0) (T := []) hb).blk HK0.out (by simp); have HK1 := Aside0.mk hk1; obtain ⟨a0, a1, a2, a3, a4, a5, a6⟩ := st_cells hk1; clear hb hk1) | (go_at_call 48; refine (madeRight_calls _ (HS.out.below HB1.out)).mono ?_; rw [HMD.out]; rintro e w2 ⟨rfl, hb⟩; have HB2 := Aside0.mk (below_step HB1.out hb); have hk2 := (Fr.of_below (B := 0) (T := []) hb).blk HK1.out (by simp); have HK2 := Aside0.mk hk2; obtain ⟨b0, b1, b2, b3, b4, b5, b6⟩ := st_cells hk2; clear hb hk2) | (go_at_call 45; refine (right13_calls C o s.cls _ (HS.out.below HB2.out).hc HCX.out).mono ?_; rintro e w3 ⟨rfl, hb⟩; have HB3 := Aside0.mk (below_step HB2.out hb); have hk3 := (Fr.of_below (B := 0) (T := []) hb).blk HK2.out (by simp); have HK3 := Aside0.mk hk3; obtain ⟨c0, c1, c2, c3, c4, c5, c6⟩ := st_cells hk3; clear hb hk3))
              go_ret
              rw [HG.out]
              exact ⟨rfl, HB3.out⟩
            | true =>
              have HG := Aside0.mk (stateE_ok HNX.out HRF.out HMD.out HPD.out hcf)
              have hcf2 : (confE s.cls != 0) = false := by simp [bne, hcf]
              go_enter Try.func19, Try.ntmps19
              go_wp2_with (first | (go_at_call 47; refine (refsRight_calls _ (HS.out.below HB0.out)).mono ?_; rw [HRF.out]; rintro e w1 ⟨rfl, hb⟩; have HB1 := Aside0.mk (below_step HB0.out hb); have hk1 := (Fr.of_below (B := 0) (T := []) hb).blk HK0.out (by simp); have HK1 := Aside0.mk hk1; obtain ⟨a0, a1, a2, a3, a4, a5, a6⟩ := st_cells hk1; clear hb hk1) | (go_at_call 48; refine (madeRight_calls _ (HS.out.below HB1.out)).mono ?_; rw [HMD.out]; rintro e w2 ⟨rfl, hb⟩; have HB2 := Aside0.mk (below_step HB1.out hb); have hk2 := (Fr.of_below (B := 0) (T := []) hb).blk HK1.out (by simp); have HK2 := Aside0.mk hk2; obtain ⟨b0, b1, b2, b3, b4, b5, b6⟩ := st_cells hk2; clear hb hk2) | (go_at_call 45; refine (right13_calls C o s.cls _ (HS.out.below HB2.out).hc HCX.out).mono ?_; rintro e w3 ⟨rfl, hb⟩; have HB3 := Aside0.mk (below_step HB2.out hb); have hk3 := (Fr.of_below (B := 0) (T := []) hb).blk HK2.out (by simp); have HK3 := Aside0.mk hk3; obtain ⟨c0, c1, c2, c3, c4, c5, c6⟩ := st_cells hk3; clear hb hk3))
              go_ret
              rw [HG.out]
              exact ⟨rfl, HB3.out⟩
    · have c1 : ((s.cls.length : Int) == 0) = false := beq_eq_false_iff_ne.mpr (by omega)
      have c2 : (s.cls.length == 0) = false := beq_eq_false_iff_ne.mpr hc
      have HPD := Aside0.mk (show pendB s = false by unfold pendB; rw [p1, c2]; rfl)
      clear hp hc
      cases hnx : (s.next == 0) with
      | true =>
        have HG := Aside0.mk (stateE_bad (s := s) (.inl hnx))
        go_enter Try.func19, Try.ntmps19
        go_wp2
        go_ret
        rw [HG.out]
        exact ⟨rfl, HB0.out⟩
      | false =>
        have HNX := Aside0.mk hnx
        cases hrf : refsB s with
        | false =>
          have HG := Aside0.mk (stateE_bad (.inr (.inl hrf)))
          have HRF := Aside0.mk hrf
          clear hrf
          go_enter Try.func19, Try.ntmps19
          go_wp2_with (go_at_call 47; refine (refsRight_calls _ (HS.out.below HB0.out)).mono ?_; rw [HRF.out]; rintro e w1 ⟨rfl, hb⟩; have HB1 := Aside0.mk (below_step HB0.out hb); have hk1 := (Fr.of_below (B := 0) (T := []) hb).blk HK0.out (by simp); have HK1 := Aside0.mk hk1; obtain ⟨a0, a1, a2, a3, a4, a5, a6⟩ := st_cells hk1; clear hb hk1)
          go_ret
          rw [HG.out]
          exact ⟨rfl, HB1.out⟩
        | true =>
          have HRF := Aside0.mk hrf
          clear hrf
          cases hmd : madeB s with
          | false =>
            have HG := Aside0.mk (stateE_bad (.inr (.inr (.inl hmd))))
            have HMD := Aside0.mk hmd
            clear hmd
            go_enter Try.func19, Try.ntmps19
            go_wp2_with (first | (go_at_call 47; refine (refsRight_calls _ (HS.out.below HB0.out)).mono ?_; rw [HRF.out]; rintro e w1 ⟨rfl, hb⟩; have HB1 := Aside0.mk (below_step HB0.out hb); have hk1 := (Fr.of_below (B := 0) (T := []) hb).blk HK0.out (by simp); have HK1 := Aside0.mk hk1; obtain ⟨a0, a1, a2, a3, a4, a5, a6⟩ := st_cells hk1; clear hb hk1) | (go_at_call 48; refine (madeRight_calls _ (HS.out.below HB1.out)).mono ?_; rw [HMD.out]; rintro e w2 ⟨rfl, hb⟩; have HB2 := Aside0.mk (below_step HB1.out hb); have hk2 := (Fr.of_below (B := 0) (T := []) hb).blk HK1.out (by simp); have HK2 := Aside0.mk hk2; obtain ⟨b0, b1, b2, b3, b4, b5, b6⟩ := st_cells hk2; clear hb hk2))
            go_ret
            rw [HG.out]
            exact ⟨rfl, HB2.out⟩
          | true =>
            have HMD := Aside0.mk hmd
            clear hmd
            have HG := Aside0.mk (stateE_bad (.inr (.inr (.inr (.inl HPD.out)))))
            go_enter Try.func19, Try.ntmps19
            go_wp2_with (first | (go_at_call 47; refine (refsRight_calls _ (HS.out.below HB0.out)).mono ?_; rw [HRF.out]; rintro e w1 ⟨rfl, hb⟩; have HB1 := Aside0.mk (below_step HB0.out hb); have hk1 := (Fr.of_below (B := 0) (T := []) hb).blk HK0.out (by simp); have HK1 := Aside0.mk hk1; obtain ⟨a0, a1, a2, a3, a4, a5, a6⟩ := st_cells hk1; clear hb hk1) | (go_at_call 48; refine (madeRight_calls _ (HS.out.below HB1.out)).mono ?_; rw [HMD.out]; rintro e w2 ⟨rfl, hb⟩; have HB2 := Aside0.mk (below_step HB1.out hb); have hk2 := (Fr.of_below (B := 0) (T := []) hb).blk HK1.out (by simp); have HK2 := Aside0.mk hk2; obtain ⟨b0, b1, b2, b3, b4, b5, b6⟩ := st_cells hk2; clear hb hk2))
            go_ret
            rw [HG.out]
            exact ⟨rfl, HB2.out⟩
  · have p1 : (s.pend == 0) = false := beq_eq_false_iff_ne.mpr hp
    have p2 : (s.pend != 0) = true := by simp [bne, p1]
    cases hfb : findB s.made s.pend with
    | true =>
      have HFB := Aside0.mk hfb
      have HPD := Aside0.mk (show pendB s = true by unfold pendB; rw [p1, hfb]; rfl)
      clear hp hfb
      cases hnx : (s.next == 0) with
      | true =>
        have HG := Aside0.mk (stateE_bad (s := s) (.inl hnx))
        go_enter Try.func19, Try.ntmps19
        go_wp2_with (go_at_call 46; refine (made17_calls s.pend _ (HS.out.below HB0.out)).mono ?_; rw [HFB.out]; rintro e w1 ⟨rfl, hb⟩; have HB1 := Aside0.mk (below_step HB0.out hb); have hk1 := (Fr.of_below (B := 0) (T := []) hb).blk HK0.out (by simp); have HK1 := Aside0.mk hk1; obtain ⟨a0, a1, a2, a3, a4, a5, a6⟩ := st_cells hk1; clear hb hk1)
        go_ret
        rw [HG.out]
        exact ⟨rfl, HB1.out⟩
      | false =>
        have HNX := Aside0.mk hnx
        cases hrf : refsB s with
        | false =>
          have HG := Aside0.mk (stateE_bad (.inr (.inl hrf)))
          have HRF := Aside0.mk hrf
          clear hrf
          go_enter Try.func19, Try.ntmps19
          go_wp2_with (first | (go_at_call 46; refine (made17_calls s.pend _ (HS.out.below HB0.out)).mono ?_; rw [HFB.out]; rintro e w1 ⟨rfl, hb⟩; have HB1 := Aside0.mk (below_step HB0.out hb); have hk1 := (Fr.of_below (B := 0) (T := []) hb).blk HK0.out (by simp); have HK1 := Aside0.mk hk1; obtain ⟨a0, a1, a2, a3, a4, a5, a6⟩ := st_cells hk1; clear hb hk1) | (go_at_call 47; refine (refsRight_calls _ (HS.out.below HB1.out)).mono ?_; rw [HRF.out]; rintro e w2 ⟨rfl, hb⟩; have HB2 := Aside0.mk (below_step HB1.out hb); have hk2 := (Fr.of_below (B := 0) (T := []) hb).blk HK1.out (by simp); have HK2 := Aside0.mk hk2; obtain ⟨b0, b1, b2, b3, b4, b5, b6⟩ := st_cells hk2; clear hb hk2))
          go_ret
          rw [HG.out]
          exact ⟨rfl, HB2.out⟩
        | true =>
          have HRF := Aside0.mk hrf
          clear hrf
          cases hmd : madeB s with
          | false =>
            have HG := Aside0.mk (stateE_bad (.inr (.inr (.inl hmd))))
            have HMD := Aside0.mk hmd
            clear hmd
            go_enter Try.func19, Try.ntmps19
            go_wp2_with (first | (go_at_call 46; refine (made17_calls s.pend _ (HS.out.below HB0.out)).mono ?_; rw [HFB.out]; rintro e w1 ⟨rfl, hb⟩; have HB1 := Aside0.mk (below_step HB0.out hb); have hk1 := (Fr.of_below (B := 0) (T := []) hb).blk HK0.out (by simp); have HK1 := Aside0.mk hk1; obtain ⟨a0, a1, a2, a3, a4, a5, a6⟩ := st_cells hk1; clear hb hk1) | (go_at_call 47; refine (refsRight_calls _ (HS.out.below HB1.out)).mono ?_; rw [HRF.out]; rintro e w2 ⟨rfl, hb⟩; have HB2 := Aside0.mk (below_step HB1.out hb); have hk2 := (Fr.of_below (B := 0) (T := []) hb).blk HK1.out (by simp); have HK2 := Aside0.mk hk2; obtain ⟨b0, b1, b2, b3, b4, b5, b6⟩ := st_cells hk2; clear hb hk2) | (go_at_call 48; refine (madeRight_calls _ (HS.out.below HB2.out)).mono ?_; rw [HMD.out]; rintro e w3 ⟨rfl, hb⟩; have HB3 := Aside0.mk (below_step HB2.out hb); have hk3 := (Fr.of_below (B := 0) (T := []) hb).blk HK2.out (by simp); have HK3 := Aside0.mk hk3; obtain ⟨c0, c1, c2, c3, c4, c5, c6⟩ := st_cells hk3; clear hb hk3))
            go_ret
            rw [HG.out]
            exact ⟨rfl, HB3.out⟩
          | true =>
            have HMD := Aside0.mk hmd
            clear hmd
            cases hcf : (confE s.cls == 0) with
            | false =>
              have HG := Aside0.mk (stateE_bad (.inr (.inr (.inr (.inr hcf)))))
              have hcf2 : (confE s.cls != 0) = true := by simp [bne, hcf]
              go_enter Try.func19, Try.ntmps19
              go_wp2_with (first | (go_at_call 46; refine (made17_calls s.pend _ (HS.out.below HB0.out)).mono ?_; rw [HFB.out]; rintro e w1 ⟨rfl, hb⟩; have HB1 := Aside0.mk (below_step HB0.out hb); have hk1 := (Fr.of_below (B := 0) (T := []) hb).blk HK0.out (by simp); have HK1 := Aside0.mk hk1; obtain ⟨a0, a1, a2, a3, a4, a5, a6⟩ := st_cells hk1; clear hb hk1) | (go_at_call 47; refine (refsRight_calls _ (HS.out.below HB1.out)).mono ?_; rw [HRF.out]; rintro e w2 ⟨rfl, hb⟩; have HB2 := Aside0.mk (below_step HB1.out hb); have hk2 := (Fr.of_below (B := 0) (T := []) hb).blk HK1.out (by simp); have HK2 := Aside0.mk hk2; obtain ⟨b0, b1, b2, b3, b4, b5, b6⟩ := st_cells hk2; clear hb hk2) | (go_at_call 48; refine (madeRight_calls _ (HS.out.below HB2.out)).mono ?_; rw [HMD.out]; rintro e w3 ⟨rfl, hb⟩; have HB3 := Aside0.mk (below_step HB2.out hb); have hk3 := (Fr.of_below (B := 0) (T := []) hb).blk HK2.out (by simp); have HK3 := Aside0.mk hk3; obtain ⟨c0, c1, c2, c3, c4, c5, c6⟩ := st_cells hk3; clear hb hk3) | (go_at_call 45; refine (right13_calls C o s.cls _ (HS.out.below HB3.out).hc HCX.out).mono ?_; rintro e w4 ⟨rfl, hb⟩; have HB4 := Aside0.mk (below_step HB3.out hb); have hk4 := (Fr.of_below (B := 0) (T := []) hb).blk HK3.out (by simp); have HK4 := Aside0.mk hk4; obtain ⟨d0, d1, d2, d3, d4, d5, d6⟩ := st_cells hk4; clear hb hk4))
              go_ret
              rw [HG.out]
              exact ⟨rfl, HB4.out⟩
            | true =>
              have HG := Aside0.mk (stateE_ok HNX.out HRF.out HMD.out HPD.out hcf)
              have hcf2 : (confE s.cls != 0) = false := by simp [bne, hcf]
              go_enter Try.func19, Try.ntmps19
              go_wp2_with (first | (go_at_call 46; refine (made17_calls s.pend _ (HS.out.below HB0.out)).mono ?_; rw [HFB.out]; rintro e w1 ⟨rfl, hb⟩; have HB1 := Aside0.mk (below_step HB0.out hb); have hk1 := (Fr.of_below (B := 0) (T := []) hb).blk HK0.out (by simp); have HK1 := Aside0.mk hk1; obtain ⟨a0, a1, a2, a3, a4, a5, a6⟩ := st_cells hk1; clear hb hk1) | (go_at_call 47; refine (refsRight_calls _ (HS.out.below HB1.out)).mono ?_; rw [HRF.out]; rintro e w2 ⟨rfl, hb⟩; have HB2 := Aside0.mk (below_step HB1.out hb); have hk2 := (Fr.of_below (B := 0) (T := []) hb).blk HK1.out (by simp); have HK2 := Aside0.mk hk2; obtain ⟨b0, b1, b2, b3, b4, b5, b6⟩ := st_cells hk2; clear hb hk2) | (go_at_call 48; refine (madeRight_calls _ (HS.out.below HB2.out)).mono ?_; rw [HMD.out]; rintro e w3 ⟨rfl, hb⟩; have HB3 := Aside0.mk (below_step HB2.out hb); have hk3 := (Fr.of_below (B := 0) (T := []) hb).blk HK2.out (by simp); have HK3 := Aside0.mk hk3; obtain ⟨c0, c1, c2, c3, c4, c5, c6⟩ := st_cells hk3; clear hb hk3) | (go_at_call 45; refine (right13_calls C o s.cls _ (HS.out.below HB3.out).hc HCX.out).mono ?_; rintro e w4 ⟨rfl, hb⟩; have HB4 := Aside0.mk (below_step HB3.out hb); have hk4 := (Fr.of_below (B := 0) (T := []) hb).blk HK3.out (by simp); have HK4 := Aside0.mk hk4; obtain ⟨d0, d1, d2, d3, d4, d5, d6⟩ := st_cells hk4; clear hb hk4))
              go_ret
              rw [HG.out]
              exact ⟨rfl, HB4.out⟩
    | false =>
      have HFB := Aside0.mk hfb
      have HPD := Aside0.mk (show pendB s = false by unfold pendB; rw [p1, hfb]; rfl)
      clear hp hfb
      cases hnx : (s.next == 0) with
      | true =>
        have HG := Aside0.mk (stateE_bad (s := s) (.inl hnx))
        go_enter Try.func19, Try.ntmps19
        go_wp2_with (go_at_call 46; refine (made17_calls s.pend _ (HS.out.below HB0.out)).mono ?_; rw [HFB.out]; rintro e w1 ⟨rfl, hb⟩; have HB1 := Aside0.mk (below_step HB0.out hb); have hk1 := (Fr.of_below (B := 0) (T := []) hb).blk HK0.out (by simp); have HK1 := Aside0.mk hk1; obtain ⟨a0, a1, a2, a3, a4, a5, a6⟩ := st_cells hk1; clear hb hk1)
        go_ret
        rw [HG.out]
        exact ⟨rfl, HB1.out⟩
      | false =>
        have HNX := Aside0.mk hnx
        cases hrf : refsB s with
        | false =>
          have HG := Aside0.mk (stateE_bad (.inr (.inl hrf)))
          have HRF := Aside0.mk hrf
          clear hrf
          go_enter Try.func19, Try.ntmps19
          go_wp2_with (first | (go_at_call 46; refine (made17_calls s.pend _ (HS.out.below HB0.out)).mono ?_; rw [HFB.out]; rintro e w1 ⟨rfl, hb⟩; have HB1 := Aside0.mk (below_step HB0.out hb); have hk1 := (Fr.of_below (B := 0) (T := []) hb).blk HK0.out (by simp); have HK1 := Aside0.mk hk1; obtain ⟨a0, a1, a2, a3, a4, a5, a6⟩ := st_cells hk1; clear hb hk1) | (go_at_call 47; refine (refsRight_calls _ (HS.out.below HB1.out)).mono ?_; rw [HRF.out]; rintro e w2 ⟨rfl, hb⟩; have HB2 := Aside0.mk (below_step HB1.out hb); have hk2 := (Fr.of_below (B := 0) (T := []) hb).blk HK1.out (by simp); have HK2 := Aside0.mk hk2; obtain ⟨b0, b1, b2, b3, b4, b5, b6⟩ := st_cells hk2; clear hb hk2))
          go_ret
          rw [HG.out]
          exact ⟨rfl, HB2.out⟩
        | true =>
          have HRF := Aside0.mk hrf
          clear hrf
          cases hmd : madeB s with
          | false =>
            have HG := Aside0.mk (stateE_bad (.inr (.inr (.inl hmd))))
            have HMD := Aside0.mk hmd
            clear hmd
            go_enter Try.func19, Try.ntmps19
            go_wp2_with (first | (go_at_call 46; refine (made17_calls s.pend _ (HS.out.below HB0.out)).mono ?_; rw [HFB.out]; rintro e w1 ⟨rfl, hb⟩; have HB1 := Aside0.mk (below_step HB0.out hb); have hk1 := (Fr.of_below (B := 0) (T := []) hb).blk HK0.out (by simp); have HK1 := Aside0.mk hk1; obtain ⟨a0, a1, a2, a3, a4, a5, a6⟩ := st_cells hk1; clear hb hk1) | (go_at_call 47; refine (refsRight_calls _ (HS.out.below HB1.out)).mono ?_; rw [HRF.out]; rintro e w2 ⟨rfl, hb⟩; have HB2 := Aside0.mk (below_step HB1.out hb); have hk2 := (Fr.of_below (B := 0) (T := []) hb).blk HK1.out (by simp); have HK2 := Aside0.mk hk2; obtain ⟨b0, b1, b2, b3, b4, b5, b6⟩ := st_cells hk2; clear hb hk2) | (go_at_call 48; refine (madeRight_calls _ (HS.out.below HB2.out)).mono ?_; rw [HMD.out]; rintro e w3 ⟨rfl, hb⟩; have HB3 := Aside0.mk (below_step HB2.out hb); have hk3 := (Fr.of_below (B := 0) (T := []) hb).blk HK2.out (by simp); have HK3 := Aside0.mk hk3; obtain ⟨c0, c1, c2, c3, c4, c5, c6⟩ := st_cells hk3; clear hb hk3))
            go_ret
            rw [HG.out]
            exact ⟨rfl, HB3.out⟩
          | true =>
            have HMD := Aside0.mk hmd
            clear hmd
            have HG := Aside0.mk (stateE_bad (.inr (.inr (.inr (.inl HPD.out)))))
            go_enter Try.func19, Try.ntmps19
            go_wp2_with (first | (go_at_call 46; refine (made17_calls s.pend _ (HS.out.below HB0.out)).mono ?_; rw [HFB.out]; rintro e w1 ⟨rfl, hb⟩; have HB1 := Aside0.mk (below_step HB0.out hb); have hk1 := (Fr.of_below (B := 0) (T := []) hb).blk HK0.out (by simp); have HK1 := Aside0.mk hk1; obtain ⟨a0, a1, a2, a3, a4, a5, a6⟩ := st_cells hk1; clear hb hk1) | (go_at_call 47; refine (refsRight_calls _ (HS.out.below HB1.out)).mono ?_; rw [HRF.out]; rintro e w2 ⟨rfl, hb⟩; have HB2 := Aside0.mk (below_step HB1.out hb); have hk2 := (Fr.of_below (B := 0) (T := []) hb).blk HK1.out (by simp); have HK2 := Aside0.mk hk2; obtain ⟨b0, b1, b2, b3, b4, b5, b6⟩ := st_cells hk2; clear hb hk2) | (go_at_call 48; refine (madeRight_calls _ (HS.out.below HB2.out)).mono ?_; rw [HMD.out]; rintro e w3 ⟨rfl, hb⟩; have HB3 := Aside0.mk (below_step HB2.out hb); have hk3 := (Fr.of_below (B := 0) (T := []) hb).blk HK2.out (by simp); have HK3 := Aside0.mk hk3; obtain ⟨c0, c1, c2, c3, c4, c5, c6⟩ := st_cells hk3; clear hb hk3))
            go_ret
            rw [HG.out]
            exact ⟨rfl, HB3.out⟩
end Go.Proofs.Ytabfjjcbceibpaa.Sep
