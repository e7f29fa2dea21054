/- The walks of the parser's next, see and plain. Conditions: the bounds of the statements. -/
import Derived.Test.YtbnlfiklkddolaaG1
import Derived.Test.YtbnlfiklkddolaaReach
namespace Go.Proofs.Ytbnlfiklkddolaa.Sep
set_option linter.unusedSimpArgs false
set_option linter.unusedVariables false
open Go.RowKit Go.Proofs.Ytbnlfiklkddolaa.PCore Go.Proofs.Ytbnlfiklkddolaa.Plain Go.Proofs.YtbnlfiklkddolaaW.PrintWords Go.Proofs.YtbnlfiklkddolaaW.PrintLast Go.Proofs.YtbnlfiklkddolaaW.PrintMore
theorem bytes_drop (s : ByteArray) (i : Nat) (h : i < s.size) : (bytesOf s).drop i = bt s (i : Int) :: (bytesOf s).drop (i + 1) := by rw [← rd_bytesOf]; exact drop_rd _ i (by rw [bytesOf_length]; exact h)
theorem bytes_done (s : ByteArray) (i : Nat) (h : s.size ≤ i) : (bytesOf s).drop i = [] := List.drop_eq_nil_of_le (by rw [bytesOf_length]; exact h)
/-- Where a parser stands: what is left of its text. -/
structure PsAt (B g : Nat) (W : World) (s : ByteArray) (r : List Int) (a : Nat) : Prop where
  blk : W.heap[g]? = some (.cells #[.string s, .int .i64 (a : Int)] 43 (0, 0))
  le : B ≤ g
  ha : a ≤ s.size
  hs : s.size ≤ 1000000
  hr : r = (bytesOf s).drop a
section
variable {B g : Nat} {W W1 : World} {s : ByteArray} {r : List Int} {a : Nat}
theorem PsAt.below (h : PsAt B g W s r a) (hb : Below W.heap.size W W1) : PsAt B g W1 s r a := ⟨blk_below h.blk hb, h.le, h.ha, h.hs, h.hr⟩
theorem PsAt.fr {B' : Nat} {T : List Nat} (h : PsAt B g W s r a) (hf : Fr B' T W W1) (hT : 43 ∉ T) : PsAt B g W1 s r a := ⟨hf.blk h.blk hT, h.le, h.ha, h.hs, h.hr⟩
theorem PsAt.c0 (h : PsAt B g W s r a) : W.cell? ⟨g, 0, none⟩ = some (.string s) := (blk_cell h.blk 0).trans rfl
theorem PsAt.c1 (h : PsAt B g W s r a) : W.cell? ⟨g, 1, none⟩ = some (.int .i64 (a : Int)) := (blk_cell h.blk 1).trans rfl
theorem PsAt.step (h : PsAt B g W s r a) (ha : a < s.size) : PsAt B g (W.setCell ⟨g, 1, none⟩ (.int .i64 ((a + 1 : Nat) : Int))) s r.tail (a + 1) := by
  refine ⟨blk_set h.blk 1 _, h.le, ha, h.hs, ?_⟩
  rw [h.hr, bytes_drop s a ha]
  rfl
end
theorem PsAt.reach0 {B g : Nat} {W : World} {s : ByteArray} {r : List Int} {a : Nat} (h : PsAt B g W s r a) (u : Reach W) : u.out.cell? ⟨g, 0, none⟩ = some (.string s) := Reach.cell h.c0 u
theorem PsAt.reach1 {B g : Nat} {W : World} {s : ByteArray} {r : List Int} {a : Nat} (h : PsAt B g W s r a) (u : Reach W) : u.out.cell? ⟨g, 1, none⟩ = some (.int .i64 (a : Int)) := Reach.cell h.c1 u
set_option maxHeartbeats 1000000 in
theorem next31_calls (B g : Nat) (W : World) (s : ByteArray) (r : List Int) (a : Nat) (h : PsAt B g W s r a) :
    Calls Try.prog 25 #[.pointer (some ⟨g, 0, none⟩)] W fun e W1 => e = .returned (.tuple #[.int .u8 (nxt r).1.1, .bool (nxt r).1.2]) ∧ (∃ a', PsAt B g W1 s (nxt r).2 a') ∧ Fr B [43] W W1 := by
  have x0 := h.reach0
  have x1 := h.reach1
  have HP := Aside0.mk h
  by_cases hl : a < s.size
  · have hr := h.hr
    rw [bytes_drop s a hl] at hr
    have HR := Aside0.mk hr
    have HA := Aside0.mk hl
    have hge : decide ((s.size : Int) ≤ (a : Int)) = false := decide_eq_false (by omega)
    have hgeN : decide (s.size ≤ a) = false := decide_eq_false (by omega)
    have hw1 : wrap64 ((a : Int) + 1) = ((a + 1 : Nat) : Int) := by have := h.hs; unfold wrap64; omega
    have hw2 : wrap64 (((a + 1 : Nat) : Int) - 1) = (a : Int) := by have := h.hs; unfold wrap64; omega
    have HW1 := Aside0.mk hw1
    have HW2 := Aside0.mk hw2
    clear h hr hw1 hw2 hl
    go_enter Try.func25, Try.ntmps25
    go_wp2
    refine region_reach (by kernel_rfl) (by kernel_rfl) ?_
    repeat (go_big_quiet_step (fail))
    refine wpQuiet_nil ?_
    rintro w4 ⟨⟨_, hb4⟩, rfl⟩
    have HP4 := Aside0.mk (HP.out.below hb4)
    have HF4 := Aside0.mk (Fr.of_below (B := B) (T := [43]) hb4)
    clear x0 x1 hb4
    have c1 := HP4.out.c1
    have z1 := blk_frozen HP4.out.blk 1
    go_wp2
    rw [HW1.out]
    have HP5 := Aside0.mk (HP4.out.step HA.out)
    have HF5 := Aside0.mk (HF4.out.trans ((Fr.refl B [43] w4).set HP4.out.blk HP4.out.le (by simp) 1 (.int .i64 ((a + 1 : Nat) : Int))))
    generalize w4.setCell ⟨g, 1, none⟩ (.int .i64 ((a + 1 : Nat) : Int)) = w5 at HP5 HF5 ⊢
    clear c1 z1
    have y0 := HP5.out.reach0
    have y1 := HP5.out.reach1
    have hw2 := HW2.out
    have hw3 : wrap64 (a : Int) = (a : Int) := by have := HP5.out.hs; have := HA.out; unfold wrap64; omega
    have hb0 : ∀ h : a < s.size, ((s[a]'h).toNat : Int) = bt s (a : Int) := fun h' => bt_at s (a : Int) h'
    have hl := HA.out
    refine region_reach (by kernel_rfl) (by kernel_rfl) ?_
    repeat (go_big_quiet_step (fail))
    refine wpQuiet_nil ?_
    rintro w6 ⟨⟨_, hb6⟩, rfl⟩
    go_wp2
    go_ret2
    rw [HR.out]
    exact ⟨rfl, ⟨_, by have := HP5.out.below hb6; rw [HR.out] at this; exact this⟩, HF5.out.trans (Fr.of_below hb6)⟩
  · have hr := h.hr
    rw [bytes_done s a (by omega)] at hr
    have HR := Aside0.mk hr
    have hge : decide ((s.size : Int) ≤ (a : Int)) = true := decide_eq_true (by omega)
    have hgeN : decide (s.size ≤ a) = true := decide_eq_true (by omega)
    clear h hr hl
    go_enter Try.func25, Try.ntmps25
    go_wp2
    refine region_reach (by kernel_rfl) (by kernel_rfl) ?_
    repeat (go_big_quiet_step (fail))
    refine wpQuiet_nil ?_
    rintro w4 ⟨⟨_, hb4⟩, rfl⟩
    have HP4 := Aside0.mk (HP.out.below hb4)
    have HF4 := Aside0.mk (Fr.of_below (B := B) (T := [43]) hb4)
    clear hb4 x0 x1
    go_wp2
    go_ret2
    rw [HR.out]
    exact ⟨rfl, ⟨a, by have := HP4.out; rw [HR.out] at this; exact this⟩, HF4.out⟩
set_option maxHeartbeats 1000000 in
theorem see31_calls (B g : Nat) (W : World) (s : ByteArray) (r : List Int) (a : Nat) (c : Int) (h : PsAt B g W s r a) :
    Calls Try.prog 29 #[.pointer (some ⟨g, 0, none⟩), .int .u8 c] W fun e W1 => e = .returned (.bool (decide (r.head? = some c))) ∧ Below W.heap.size W W1 := by
  have x0 := h.reach0
  have x1 := h.reach1
  have HP := Aside0.mk h
  by_cases hl : a < s.size
  · have hr := h.hr
    rw [bytes_drop s a hl] at hr
    have HA := Aside0.mk hl
    have hge : decide ((a : Int) < (s.size : Int)) = true := decide_eq_true (by omega)
    have hgeN : decide (a < s.size) = true := decide_eq_true (by omega)
    have hb0 : ∀ h : a < s.size, ((s[a]'h).toNat : Int) = bt s (a : Int) := fun h' => bt_at s (a : Int) h'
    have e : decide (r.head? = some c) = (bt s (a : Int) == c) := by
      rw [hr]
      simp only [List.head?_cons, Option.some.injEq]
      by_cases hh : bt s (a : Int) = c <;> simp [hh]
    have HR := Aside0.mk e
    clear h hr e
    go_enter Try.func29, Try.ntmps29
    go_wp2
    refine region_reach (by kernel_rfl) (by kernel_rfl) ?_
    repeat (go_big_quiet_step (fail))
    refine wpQuiet_nil ?_
    rintro w4 ⟨⟨_, hb4⟩, rfl⟩
    go_wp2
    go_ret
    rw [HR.out]
    exact ⟨rfl, hb4⟩
  · have hr := h.hr
    rw [bytes_done s a (by omega)] at hr
    have HR := Aside0.mk (show decide (r.head? = some c) = false by rw [hr]; rfl)
    have hge : decide ((a : Int) < (s.size : Int)) = false := decide_eq_false (by omega)
    have hgeN : decide (a < s.size) = false := decide_eq_false (by omega)
    clear h hr hl
    go_enter Try.func29, Try.ntmps29
    go_wp2
    refine region_reach (by kernel_rfl) (by kernel_rfl) ?_
    repeat (go_big_quiet_step (fail))
    refine wpQuiet_nil ?_
    rintro w4 ⟨⟨_, hb4⟩, rfl⟩
    go_wp2
    go_ret
    rw [HR.out]
    exact ⟨rfl, hb4⟩
set_option maxHeartbeats 1000000 in
theorem plain31_calls (B g : Nat) (W : World) (s : ByteArray) (r : List Int) (a : Nat) (h : PsAt B g W s r a) :
    Calls Try.prog 30 #[.pointer (some ⟨g, 0, none⟩)] W fun e W1 => e = .returned (.tuple #[.int .u8 (pln r).1.1, .bool (pln r).1.2]) ∧ (∃ a', PsAt B g W1 s (pln r).2 a') ∧ Fr B [43] W W1 := by
  have HP := Aside0.mk h
  clear h
  cases r with
  | nil =>
    go_enter Try.func30, Try.ntmps30
    go_wp2_with (go_at_call 25; refine (next31_calls B g _ s [] a HP.out).mono ?_; rintro e w1 ⟨rfl, hp, hf⟩; have HP1 := Aside0.mk hp; have HF1 := Aside0.mk hf; clear hp hf)
    go_ret2
    exact ⟨rfl, HP1.out, HF1.out⟩
  | cons c l =>
    by_cases hc : c = 92
    · subst hc
      go_enter Try.func30, Try.ntmps30
      go_wp2_with (first | (go_at_call 25; have hq := HA1.out; clear hq; refine (next31_calls B g _ s l a1 HP1.out).mono ?_; rintro e w2 ⟨rfl, hp, hf⟩; have HP2 := Aside0.mk hp; have HF2 := Aside0.mk (HF1.out.trans hf); clear hp hf) | (go_at_call 25; refine (next31_calls B g _ s (92 :: l) a HP.out).mono ?_; rintro e w1 ⟨rfl, ⟨a1, hp⟩, hf⟩; have HP1 := Aside0.mk (show PsAt B g w1 s l a1 from hp); have HA1 := Aside0.mk trivial; have HF1 := Aside0.mk hf; clear hp hf))
      go_ret2
      exact ⟨rfl, HP2.out, HF2.out⟩
    · have hcb : (c == 92) = false := beq_eq_false_iff_ne.mpr hc
      have HE := Aside0.mk (show pln (c :: l) = ((c, true), l) by simp only [pln]; rw [if_neg hc])
      clear hc
      go_enter Try.func30, Try.ntmps30
      go_wp2_with (go_at_call 25; refine (next31_calls B g _ s (c :: l) a HP.out).mono ?_; rw [show nxt (c :: l) = ((c, true), l) from rfl]; rintro e w1 ⟨rfl, hp, hf⟩; have HP1 := Aside0.mk (show ∃ a', PsAt B g w1 s l a' from hp); have HF1 := Aside0.mk hf; clear hp hf)
      go_ret2
      rw [HE.out]
      exact ⟨rfl, HP1.out, HF1.out⟩
end Go.Proofs.Ytbnlfiklkddolaa.Sep
