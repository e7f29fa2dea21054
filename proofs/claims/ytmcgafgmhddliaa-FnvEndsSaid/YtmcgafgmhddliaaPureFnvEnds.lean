/- For every level and key, package fnv's Ends answers as the reference does. Conditions: none beyond the statement's own. -/
import Derived.Test.YtmcgafgmhddliaaPFnvEndsx1
namespace Go.Proofs.Ytmcgafgmhddliaa.Pure
open Go.RowKit Go.Proofs.Ytmcgafgmhddliaa.PFnvEnds Go.Proofs.YtmcgafgmhddliaaW.PrintWords Go.Proofs.YtmcgafgmhddliaaW.PrintLast

theorem wrap_i {i n : Int} (h0 : 0 ≤ i) (h : i < n) (hn : n ≤ 281474976702464) : wrap64 (i + 1) = i + 1 := by
  unfold wrap64; omega
theorem u64_wrap (n : Int) : IntKind.u64.wrap n = n % 18446744073709551616 := by
  simp [IntKind.wrap, IntKind.bits, IntKind.signed]
theorem more_ends (s : ByteArray) (hn : (s.size : Int) ≤ 281474976702464) : ∀ (d k : Nat) (h i : Int), 0 ≤ i → i ≤ s.size → (s.size : Int) - i = d → d < k →
    ∃ r, fnv_More.l0 k h s s.size i = some r ∧ (0 ≤ h → h < 18446744073709551616 → 0 ≤ r ∧ r < 18446744073709551616) := by
  intro d
  induction d with
  | zero =>
    intro k h i h0 h1 hd hk
    obtain ⟨k, rfl⟩ : ∃ m, k = m + 1 := ⟨k - 1, by omega⟩
    exact ⟨h, by simp only [fnv_More.l0]; rw [if_neg (by omega)], fun a b => ⟨a, b⟩⟩
  | succ d ih =>
    intro k h i h0 h1 hd hk
    obtain ⟨k, rfl⟩ : ∃ m, k = m + 1 := ⟨k - 1, by omega⟩
    have hlt : i < (s.size : Int) := by omega
    obtain ⟨r, hr, hb⟩ := ih k (IntKind.u64.wrap (Go.bits .xor .u64 h (IntKind.u64.wrap (bt s i)) * 1099511628211)) (i + 1) (by omega) (by omega) (by omega) (by omega)
    refine ⟨r, ?_, fun _ _ => hb (by rw [u64_wrap]; omega) (by rw [u64_wrap]; omega)⟩
    simp only [fnv_More.l0]
    rw [if_pos hlt, if_pos h0, if_pos hlt, wrap_i h0 hlt hn]
    exact hr
theorem awake_true : apographlaw03_awake.f 3 = some true := by decide +kernel
theorem awake_at (k : Nat) (h : 3 ≤ k) : apographlaw03_awake.f k = some true := at_rounds apographlaw03_awake.mono h awake_true

theorem more_same (s : ByteArray) : ∀ (k : Nat) (h i : Int), apographref01_More.l0 k h s i = fnv_More.l0 k h s s.size i := by
  intro k
  induction k with
  | zero => intro h i; rfl
  | succ k ih =>
    intro h i
    simp only [apographref01_More.l0, fnv_More.l0]
    by_cases a : i < (s.size : Int)
    · rw [if_pos a, if_pos a, if_pos a, ih]
    · rw [if_neg a, if_neg a]

theorem u64_in (n : Int) (h0 : 0 ≤ n) (h1 : n < 2 ^ 64) : IntKind.u64.wrap n = n := by
  rw [u64_wrap]; omega
theorem and_3072 (a : Nat) : a &&& 3072 = (a / 1024 % 4) * 1024 := by
  apply Nat.eq_of_testBit_eq
  intro i
  rw [Nat.testBit_and, show (1024 : Nat) = 2 ^ 10 by decide, Nat.testBit_mul_two_pow, show (4 : Nat) = 2 ^ 2 by decide, Nat.testBit_mod_two_pow, Nat.testBit_div_two_pow]
  rw [show (3072 : Nat) = 3 * 2 ^ 10 by decide, Nat.testBit_mul_two_pow]
  by_cases h : 10 ≤ i
  · obtain ⟨j, rfl⟩ : ∃ j, i = j + 10 := ⟨i - 10, by omega⟩
    have h3 : Nat.testBit 3 j = decide (j < 2) := by
      rw [show (3 : Nat) = 2 ^ 2 - 1 by decide, Nat.testBit_two_pow_sub_one]
    simp [h3, Bool.and_comm]
  · simp [h]
theorem and_test (t : Int) (h0 : 0 ≤ t) (h1 : t < 18446744073709551616) : ((Int.tmod (IntKind.u64.wrap (Int.tdiv t 1024)) 4) == 0) = ((Go.bits .and .u64 t 3072) == 0) := by
  obtain ⟨a, rfl⟩ := Int.eq_ofNat_of_zero_le h0
  have ha : a < 2 ^ 64 := by omega
  have hb := (bits_nat .u64 64 (by decide) u64_in a 3072 ha (by decide)).1
  have hb' : Go.bits .and .u64 (a : Int) 3072 = ((a &&& 3072 : Nat) : Int) := hb
  rw [hb', and_3072, Int.tdiv_eq_ediv_of_nonneg h0, u64_wrap, Int.tmod_eq_emod_of_nonneg (by omega), Bool.eq_iff_iff]
  simp only [beq_iff_eq]
  omega
theorem FnvEnds : apographlaw03_FnvEnds.Pure := by
  intro lv s hw hn
  refine ⟨s.size + 4, ?_⟩
  unfold apographlaw03_FnvEnds.f
  rw [awake_at _ (by omega)]
  simp only [Option.bind_some, if_true]
  by_cases c : (s.size : Int) > 200
  · rw [if_pos c]
  · rw [if_neg c]
    unfold fnv_Ends.f apographref01_Ends.f fnv_Sum.f apographref01_Sum.f fnv_More.f apographref01_More.f
    have hz := strOfNums_size ([lv % 256] : List Int)
    generalize strOfNums ([lv % 256] : List Int) = b at hz
    have hz' : b.size = 1 := hz
    obtain ⟨r, hr, hrb⟩ := more_ends b (by omega) b.size (s.size + 4) 14695981039346656037 0 (by omega) (by omega) (by omega) (by omega)
    have hrb := hrb (by omega) (by omega)
    obtain ⟨q, hq, hqb⟩ := more_ends s (by omega) s.size (s.size + 4) r 0 (by omega) (by omega) (by omega) (by omega)
    have hqb := hqb hrb.1 hrb.2
    rw [more_same, hr]
    simp only [Option.bind_some]
    rw [more_same, hq]
    simp only [Option.bind_some]
    rw [and_test q hqb.1 hqb.2]
    simp

end Go.Proofs.Ytmcgafgmhddliaa.Pure
