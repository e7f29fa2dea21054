/- For every level and key, package fnv's Ends counts the level by its last eight bits alone. Conditions: none beyond the statement's own. -/
import Derived.Test.YtmcgafgmhddliaaPFnvLevelsx1
namespace Go.Proofs.Ytmcgafgmhddliaa.Pure
open Go.RowKit Go.Proofs.Ytmcgafgmhddliaa.PFnvLevels Go.Proofs.YtmcgafgmhddliaaW.PrintWords Go.Proofs.YtmcgafgmhddliaaW.PrintLast

theorem wrap_i {i n : Int} (h0 : 0 ≤ i) (h : i < n) (hn : n ≤ 281474976702464) : wrap64 (i + 1) = i + 1 := by
  unfold wrap64; omega
theorem u64_wrap (n : Int) : IntKind.u64.wrap n = n % 18446744073709551616 := by
  simp [IntKind.wrap, IntKind.bits, IntKind.signed]
theorem more_ends (s : ByteArray) (hn : (s.size : Int) ≤ 281474976702464) : ∀ (d k : Nat) (h i : Int), 0 ≤ i → i ≤ s.size → (s.size : Int) - i = d → d < k →
    ∃ r, fnv_More.l0 k h s s.size i = some r ∧ (0 ≤ h → h < 18446744073709551616 → 0 ≤ r ∧ r < 18446744073709551616) := by
  intro d
  induction d with
  | zero =>
    intro k h i h0 h1 hd hk
    obtain ⟨k, rfl⟩ : ∃ m, k = m + 1 := ⟨k - 1, by omega⟩
    exact ⟨h, by simp only [fnv_More.l0]; rw [if_neg (by omega)], fun a b => ⟨a, b⟩⟩
  | succ d ih =>
    intro k h i h0 h1 hd hk
    obtain ⟨k, rfl⟩ : ∃ m, k = m + 1 := ⟨k - 1, by omega⟩
    have hlt : i < (s.size : Int) := by omega
    obtain ⟨r, hr, hb⟩ := ih k (IntKind.u64.wrap (Go.bits .xor .u64 h (IntKind.u64.wrap (bt s i)) * 1099511628211)) (i + 1) (by omega) (by omega) (by omega) (by omega)
    refine ⟨r, ?_, fun _ _ => hb (by rw [u64_wrap]; omega) (by rw [u64_wrap]; omega)⟩
    simp only [fnv_More.l0]
    rw [if_pos hlt, if_pos h0, if_pos hlt, wrap_i h0 hlt hn]
    exact hr
theorem awake_true : apographlaw03_awake.f 3 = some true := by decide +kernel
theorem awake_at (k : Nat) (h : 3 ≤ k) : apographlaw03_awake.f k = some true := at_rounds apographlaw03_awake.mono h awake_true

theorem FnvLevels : apographlaw03_FnvLevels.Pure := by
  intro lv s hw hn
  refine ⟨s.size + 4, ?_⟩
  unfold apographlaw03_FnvLevels.f
  rw [awake_at _ (by omega)]
  simp only [Option.bind_some, if_true]
  by_cases c : (s.size : Int) > 200
  · rw [if_pos c]
  · rw [if_neg c]
    unfold fnv_Ends.f fnv_Sum.f fnv_More.f
    have e : lv % 256 % 256 = lv % 256 := by omega
    rw [e]
    have hz := strOfNums_size ([lv % 256] : List Int)
    generalize strOfNums ([lv % 256] : List Int) = b at hz
    have hz' : b.size = 1 := hz
    obtain ⟨r, hr, _⟩ := more_ends b (by omega) b.size (s.size + 4) 14695981039346656037 0 (by omega) (by omega) (by omega) (by omega)
    obtain ⟨q, hq, _⟩ := more_ends s (by omega) s.size (s.size + 4) r 0 (by omega) (by omega) (by omega) (by omega)
    rw [hr]
    simp only [Option.bind_some]
    rw [hq]
    simp

end Go.Proofs.Ytmcgafgmhddliaa.Pure
