/- For every start value and every text the sum, the sum behind another sum and the folded sum of package fnv are those of the reference. Conditions: none beyond the statement's own. -/
import Derived.Test.YtmcgafgmhddliaaPFnvSumsx1
namespace Go.Proofs.Ytmcgafgmhddliaa.Pure
open Go.RowKit Go.Proofs.Ytmcgafgmhddliaa.PFnvSums Go.Proofs.YtmcgafgmhddliaaW.PrintWords Go.Proofs.YtmcgafgmhddliaaW.PrintLast

theorem wrap_i {i n : Int} (h0 : 0 ≤ i) (h : i < n) (hn : n ≤ 281474976702464) : wrap64 (i + 1) = i + 1 := by
  unfold wrap64; omega
theorem u64_wrap (n : Int) : IntKind.u64.wrap n = n % 18446744073709551616 := by
  simp [IntKind.wrap, IntKind.bits, IntKind.signed]
theorem more_ends (s : ByteArray) (hn : (s.size : Int) ≤ 281474976702464) : ∀ (d k : Nat) (h i : Int), 0 ≤ i → i ≤ s.size → (s.size : Int) - i = d → d < k →
    ∃ r, fnv_More.l0 k h s s.size i = some r ∧ (0 ≤ h → h < 18446744073709551616 → 0 ≤ r ∧ r < 18446744073709551616) := by
  intro d
  induction d with
  | zero =>
    intro k h i h0 h1 hd hk
    obtain ⟨k, rfl⟩ : ∃ m, k = m + 1 := ⟨k - 1, by omega⟩
    exact ⟨h, by simp only [fnv_More.l0]; rw [if_neg (by omega)], fun a b => ⟨a, b⟩⟩
  | succ d ih =>
    intro k h i h0 h1 hd hk
    obtain ⟨k, rfl⟩ : ∃ m, k = m + 1 := ⟨k - 1, by omega⟩
    have hlt : i < (s.size : Int) := by omega
    obtain ⟨r, hr, hb⟩ := ih k (IntKind.u64.wrap (Go.bits .xor .u64 h (IntKind.u64.wrap (bt s i)) * 1099511628211)) (i + 1) (by omega) (by omega) (by omega) (by omega)
    refine ⟨r, ?_, fun _ _ => hb (by rw [u64_wrap]; omega) (by rw [u64_wrap]; omega)⟩
    simp only [fnv_More.l0]
    rw [if_pos hlt, if_pos h0, if_pos hlt, wrap_i h0 hlt hn]
    exact hr
theorem awake_true : apographlaw03_awake.f 3 = some true := by decide +kernel
theorem awake_at (k : Nat) (h : 3 ≤ k) : apographlaw03_awake.f k = some true := at_rounds apographlaw03_awake.mono h awake_true

theorem more_same (s : ByteArray) : ∀ (k : Nat) (h i : Int), apographref01_More.l0 k h s i = fnv_More.l0 k h s s.size i := by
  intro k
  induction k with
  | zero => intro h i; rfl
  | succ k ih =>
    intro h i
    simp only [apographref01_More.l0, fnv_More.l0]
    by_cases a : i < (s.size : Int)
    · rw [if_pos a, if_pos a, if_pos a, ih]
    · rw [if_neg a, if_neg a]

theorem u64_of {a : Int} (h : (Lit.int .u64 a).wf = true) : 0 ≤ a ∧ a < 18446744073709551616 := by
  simp [Lit.wf, IntKind.min, IntKind.max, IntKind.signed, IntKind.bits] at h
  omega
theorem FnvSums : apographlaw03_FnvSums.Pure := by
  intro h s hw hn
  refine ⟨s.size + 3, ?_⟩
  unfold apographlaw03_FnvSums.f
  rw [awake_at _ (by omega)]
  simp only [Option.bind_some, if_true]
  by_cases c : (s.size : Int) > 500
  · rw [if_pos c]
  · rw [if_neg c]
    obtain ⟨r, hr, _⟩ := more_ends s (by omega) s.size (s.size + 3) 14695981039346656037 0 (by omega) (by omega) (by omega) (by omega)
    obtain ⟨q, hq, _⟩ := more_ends s (by omega) s.size (s.size + 3) h 0 (by omega) (by omega) (by omega) (by omega)
    unfold fnv_Sum.f apographref01_Sum.f fnv_More.f apographref01_More.f
    rw [more_same, more_same, hr, hq]
    simp only [Option.bind_some, if_true]
    unfold fnv_Fold.f apographref01_Fold.f
    have hb := u64_of hw
    simp only [Option.bind_some]
    rw [Int.tdiv_eq_ediv_of_nonneg hb.1, Int.tmod_eq_emod_of_nonneg hb.1, u64_wrap]
    have e1 : h / 4294967296 % 18446744073709551616 % 4294967296 = h / 4294967296 % 4294967296 := by omega
    have e2 : h % 4294967296 % 4294967296 = h % 4294967296 := by omega
    rw [e1, e2]
    simp

end Go.Proofs.Ytmcgafgmhddliaa.Pure
