/- For every start value and every two texts, the sum of package fnv taken in pieces is the sum of the joined text. Conditions: none beyond the statement's own. -/
import Derived.Test.YtmcgafgmhddliaaPFnvPiecesx1
namespace Go.Proofs.Ytmcgafgmhddliaa.Pure
open Go.RowKit Go.Proofs.Ytmcgafgmhddliaa.PFnvPieces Go.Proofs.YtmcgafgmhddliaaW.PrintWords Go.Proofs.YtmcgafgmhddliaaW.PrintLast

theorem wrap_i {i n : Int} (h0 : 0 ≤ i) (h : i < n) (hn : n ≤ 281474976702464) : wrap64 (i + 1) = i + 1 := by
  unfold wrap64; omega
theorem u64_wrap (n : Int) : IntKind.u64.wrap n = n % 18446744073709551616 := by
  simp [IntKind.wrap, IntKind.bits, IntKind.signed]
theorem more_ends (s : ByteArray) (hn : (s.size : Int) ≤ 281474976702464) : ∀ (d k : Nat) (h i : Int), 0 ≤ i → i ≤ s.size → (s.size : Int) - i = d → d < k →
    ∃ r, fnv_More.l0 k h s s.size i = some r ∧ (0 ≤ h → h < 18446744073709551616 → 0 ≤ r ∧ r < 18446744073709551616) := by
  intro d
  induction d with
  | zero =>
    intro k h i h0 h1 hd hk
    obtain ⟨k, rfl⟩ : ∃ m, k = m + 1 := ⟨k - 1, by omega⟩
    exact ⟨h, by simp only [fnv_More.l0]; rw [if_neg (by omega)], fun a b => ⟨a, b⟩⟩
  | succ d ih =>
    intro k h i h0 h1 hd hk
    obtain ⟨k, rfl⟩ : ∃ m, k = m + 1 := ⟨k - 1, by omega⟩
    have hlt : i < (s.size : Int) := by omega
    obtain ⟨r, hr, hb⟩ := ih k (IntKind.u64.wrap (Go.bits .xor .u64 h (IntKind.u64.wrap (bt s i)) * 1099511628211)) (i + 1) (by omega) (by omega) (by omega) (by omega)
    refine ⟨r, ?_, fun _ _ => hb (by rw [u64_wrap]; omega) (by rw [u64_wrap]; omega)⟩
    simp only [fnv_More.l0]
    rw [if_pos hlt, if_pos h0, if_pos hlt, wrap_i h0 hlt hn]
    exact hr
theorem awake_true : apographlaw03_awake.f 3 = some true := by decide +kernel
theorem awake_at (k : Nat) (h : 3 ≤ k) : apographlaw03_awake.f k = some true := at_rounds apographlaw03_awake.mono h awake_true

theorem bt_left (s t : ByteArray) (i : Int) (h0 : 0 ≤ i) (h : i < s.size) : bt (s ++ t) i = bt s i := by
  have h1 : i.toNat < s.size := by omega
  have h2 : i.toNat < (s ++ t).size := by rw [ByteArray.size_append]; omega
  unfold bt
  rw [dif_pos h1, dif_pos h2, ByteArray.getElem_append_left h1]
theorem bt_right (s t : ByteArray) (j : Int) (h0 : 0 ≤ j) (h : j < t.size) : bt (s ++ t) (s.size + j) = bt t j := by
  have h1 : j.toNat < t.size := by omega
  have e : ((s.size : Int) + j).toNat = s.size + j.toNat := by omega
  have h2 : s.size + j.toNat < (s ++ t).size := by rw [ByteArray.size_append]; omega
  unfold bt
  rw [dif_pos h1]
  simp only [e]
  rw [dif_pos h2, ByteArray.getElem_append_right (by omega)]
  simp
theorem more_second (s t : ByteArray) (hn : ((s ++ t).size : Int) ≤ 281474976702464) : ∀ (k : Nat) (h j : Int), 0 ≤ j → fnv_More.l0 k h (s ++ t) (s ++ t).size (s.size + j) = fnv_More.l0 k h t t.size j := by
  have hs : ((s ++ t).size : Int) = s.size + t.size := by rw [ByteArray.size_append]; omega
  intro k
  induction k with
  | zero => intro h j _; rfl
  | succ k ih =>
    intro h j h0
    simp only [fnv_More.l0]
    by_cases a : j < (t.size : Int)
    · rw [if_pos (show (s.size : Int) + j < (s ++ t).size by omega), if_pos a, if_pos (show 0 ≤ (s.size : Int) + j by omega), if_pos h0, if_pos (show (s.size : Int) + j < (s ++ t).size by omega), if_pos a,
        bt_right s t j h0 a, wrap_i (i := (s.size : Int) + j) (n := (s ++ t).size) (by omega) (by omega) hn, wrap_i h0 a (by omega),
        show (s.size : Int) + j + 1 = s.size + (j + 1) by omega, ih _ _ (by omega)]
    · rw [if_neg (show ¬ (s.size : Int) + j < (s ++ t).size by omega), if_neg a]
theorem more_first (s t : ByteArray) (hn : ((s ++ t).size : Int) ≤ 281474976702464) : ∀ (d k : Nat) (h i r : Int), 0 ≤ i → i ≤ s.size → (s.size : Int) - i = d → fnv_More.l0 (d + 1) h s s.size i = some r →
    fnv_More.l0 (d + k) h (s ++ t) (s ++ t).size i = fnv_More.l0 k r (s ++ t) (s ++ t).size s.size := by
  have hs : ((s ++ t).size : Int) = s.size + t.size := by rw [ByteArray.size_append]; omega
  intro d
  induction d with
  | zero =>
    intro k h i r h0 h1 hd hr
    simp only [fnv_More.l0] at hr
    rw [if_neg (by omega)] at hr
    obtain rfl := Option.some.inj hr
    obtain rfl : i = s.size := by omega
    rw [Nat.zero_add]
  | succ d ih =>
    intro k h i r h0 h1 hd hr
    have hlt : i < (s.size : Int) := by omega
    have ew : wrap64 (i + 1) = i + 1 := wrap_i h0 hlt (by omega)
    unfold fnv_More.l0 at hr
    rw [if_pos hlt, if_pos h0, if_pos hlt, ew] at hr
    rw [show d + 1 + k = (d + k) + 1 by omega]
    have := ih k _ (i + 1) r (by omega) (by omega) (by omega) hr
    rw [← this]
    conv => lhs; unfold fnv_More.l0
    rw [if_pos (show i < ((s ++ t).size : Int) by omega), if_pos h0, if_pos (show i < ((s ++ t).size : Int) by omega), ew, bt_left s t i h0 hlt]
theorem FnvPieces : apographlaw03_FnvPieces.Pure := by
  intro h s t hw hs ht
  refine ⟨s.size + t.size + 4, ?_⟩
  unfold apographlaw03_FnvPieces.f
  rw [awake_at _ (by omega)]
  simp only [Option.bind_some, if_true]
  by_cases c : (s.size : Int) > 500
  · rw [if_pos c]; simp [apographlaw03_FnvPieces.j0]
  · rw [if_neg c]
    have hz : ((s ++ t).size : Int) = s.size + t.size := by rw [ByteArray.size_append]; omega
    by_cases c' : (t.size : Int) > 500
    · simp [apographlaw03_FnvPieces.j0, c']
    · rw [decide_eq_false c']
      simp only [apographlaw03_FnvPieces.j0]
      rw [if_neg (by decide)]
      obtain ⟨r, hr, _⟩ := more_ends s (by omega) s.size (s.size + 1) h 0 (by omega) (by omega) (by omega) (by omega)
      have hr' : fnv_More.l0 (s.size + t.size + 3) h s s.size 0 = some r := at_rounds (g := fun k => fnv_More.l0 k h s s.size 0) (fun k => fnv_More.mono_l k _ _ _ _) (by omega) hr
      obtain ⟨q, hq, _⟩ := more_ends t (by omega) t.size (t.size + 3) r 0 (by omega) (by omega) (by omega) (by omega)
      have hq' : fnv_More.l0 (s.size + t.size + 3) r t t.size 0 = some q := at_rounds (g := fun k => fnv_More.l0 k r t t.size 0) (fun k => fnv_More.mono_l k _ _ _ _) (by omega) hq
      have hp := more_first s t (by omega) s.size (t.size + 3) h 0 r (by omega) (by omega) (by omega) hr
      have hp2 := more_second s t (by omega) (t.size + 3) r 0 (by omega)
      rw [Int.add_zero] at hp2
      unfold fnv_More.f
      rw [hr']
      simp only [Option.bind_some]
      rw [hq']
      simp only [Option.bind_some]
      rw [if_pos (by omega), show s.size + t.size + 3 = s.size + (t.size + 3) by omega, hp, hp2, hq]
      simp

end Go.Proofs.Ytmcgafgmhddliaa.Pure
