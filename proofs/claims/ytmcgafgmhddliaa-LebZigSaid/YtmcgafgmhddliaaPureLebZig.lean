/- Package leb's Zig and Zag are the reference's, at every number, and each undoes the other. Conditions: none beyond the statement's own. -/
import Derived.Test.YtmcgafgmhddliaaPZigx1
namespace Go.Proofs.Ytmcgafgmhddliaa.Pure
open Go.RowKit Go.Proofs.Ytmcgafgmhddliaa.PZig Go.Proofs.YtmcgafgmhddliaaW.PrintWords Go.Proofs.YtmcgafgmhddliaaW.PrintLast Go.Proofs.YtmcgafgmhddliaaW.PrintMore
theorem z_u64_wrap (n : Int) : IntKind.u64.wrap n = n % 18446744073709551616 := by
  simp [IntKind.wrap, IntKind.bits, IntKind.signed]
theorem z_u64_in (n : Int) (h0 : 0 ≤ n) (h1 : n < 2 ^ 64) : IntKind.u64.wrap n = n := by
  rw [z_u64_wrap]; omega
theorem z_u64 {a : Int} (h : (Lit.int .u64 a).wf = true) : 0 ≤ a ∧ a < 18446744073709551616 := by
  simp [Lit.wf, IntKind.min, IntKind.max, IntKind.signed, IntKind.bits] at h
  omega
theorem z_i64 {a : Int} (h : (Lit.int .i64 a).wf = true) : -9223372036854775808 ≤ a ∧ a < 9223372036854775808 := by
  simp [Lit.wf, IntKind.min, IntKind.max, IntKind.signed, IntKind.bits] at h
  omega
theorem xor_zero (k : IntKind) (hk : k = .u64 ∨ k = .i64) (x : Int) (h0 : 0 ≤ x) (h1 : x < 18446744073709551616) : Go.bits .xor k x 0 = k.wrap x := by
  obtain ⟨a, rfl⟩ := Int.eq_ofNat_of_zero_le h0
  have ha : a < 2 ^ 64 := by omega
  have key : (((BitVec.ofInt 64 (a : Int)) ^^^ (BitVec.ofInt 64 0)).toNat : Int) = a := by
    have e : BitVec.ofInt 64 0 = 0#64 := by decide
    rw [e, BitVec.xor_zero, BitVec.ofInt_natCast, BitVec.toNat_ofNat, Nat.mod_eq_of_lt ha]
  rcases hk with rfl | rfl
  · exact congrArg (IntKind.wrap .u64) key
  · exact congrArg (IntKind.wrap .i64) key
theorem xor_ones (k : IntKind) (hk : k = .u64 ∨ k = .i64) (x y : Int) (hy : BitVec.ofInt 64 y = BitVec.allOnes 64) (h0 : 0 ≤ x) (h1 : x < 18446744073709551616) : Go.bits .xor k x y = k.wrap (18446744073709551615 - x) := by
  obtain ⟨a, rfl⟩ := Int.eq_ofNat_of_zero_le h0
  have ha : a < 2 ^ 64 := by omega
  have key : (((BitVec.ofInt 64 (a : Int)) ^^^ (BitVec.ofInt 64 y)).toNat : Int) = 18446744073709551615 - a := by
    rw [hy, BitVec.xor_allOnes, BitVec.toNat_not, BitVec.ofInt_natCast, BitVec.toNat_ofNat, Nat.mod_eq_of_lt ha]
    omega
  rcases hk with rfl | rfl
  · exact congrArg (IntKind.wrap .u64) key
  · exact congrArg (IntKind.wrap .i64) key
def zig (a : Int) : Int := if 0 ≤ a then 2 * a else -2 * a - 1
def zag (u : Int) : Int := if u % 2 = 0 then u / 2 else -(u / 2) - 1
theorem zig_form {a : Int} (h : -9223372036854775808 ≤ a ∧ a < 9223372036854775808) : leb_Zig.f a = some (zig a) := by
  unfold leb_Zig.f zig
  by_cases c : 0 ≤ a
  · have e1 : a / 9223372036854775808 = 0 := by omega
    have e2 : IntKind.u64.wrap (IntKind.u64.wrap a * 2) = 2 * a := by rw [z_u64_wrap, z_u64_wrap]; omega
    rw [e1, e2, show IntKind.u64.wrap 0 = 0 by decide, xor_zero .u64 (.inl rfl) _ (by omega) (by omega), z_u64_in _ (by omega) (by omega), if_pos c]
  · have e1 : a / 9223372036854775808 = -1 := by omega
    have e2 : IntKind.u64.wrap (IntKind.u64.wrap a * 2) = 2 * a + 18446744073709551616 := by rw [z_u64_wrap, z_u64_wrap]; omega
    rw [e1, e2, xor_ones .u64 (.inl rfl) _ _ (by decide) (by omega) (by omega), z_u64_in _ (by omega) (by omega), if_neg c]
    congr 1
    omega
theorem zig_ref {a : Int} (h : -9223372036854775808 ≤ a ∧ a < 9223372036854775808) : apographref01_Zig.f a = some (zig a) := by
  unfold apographref01_Zig.f zig
  by_cases c : 0 ≤ a
  · rw [if_pos (by omega), if_pos c, z_u64_wrap, z_u64_wrap]
    congr 1
    omega
  · have e : wrap64 (-(wrap64 (a + 1))) = -(a + 1) := by unfold wrap64; omega
    rw [if_neg (by omega), if_neg c, e, z_u64_wrap, z_u64_wrap, z_u64_wrap]
    congr 1
    omega
theorem zag_form {u : Int} (h : 0 ≤ u ∧ u < 18446744073709551616) : leb_Zag.f u = some (zag u) := by
  unfold leb_Zag.f zag
  have e1 : wrap64 (u / 2) = u / 2 := by unfold wrap64; omega
  have e2 : Go.bits .and .u64 u 1 = u % 2 := bits_mask .u64 64 (by decide) z_u64_in 1 (by decide) u h.1 (by omega)
  rw [e1, e2]
  by_cases c : u % 2 = 0
  · rw [c, show wrap64 (-(wrap64 0)) = 0 by decide +kernel, xor_zero .i64 (.inr rfl) _ (by omega) (by omega), if_pos rfl, IntKind.wrap_i64]
    congr 1
    omega
  · have c1 : u % 2 = 1 := by omega
    rw [c1, xor_ones .i64 (.inr rfl) _ _ (by decide +kernel) (by omega) (by omega), if_neg (by decide), IntKind.wrap_i64]
    congr 1
    omega
theorem zag_ref {u : Int} (h : 0 ≤ u ∧ u < 18446744073709551616) : apographref01_Zag.f u = some (zag u) := by
  unfold apographref01_Zag.f zag
  rw [Int.tmod_eq_emod_of_nonneg h.1, Int.tdiv_eq_ediv_of_nonneg h.1]
  have e1 : IntKind.u64.wrap (u / 2) = u / 2 := by rw [z_u64_wrap]; omega
  have e2 : wrap64 (u / 2) = u / 2 := by unfold wrap64; omega
  rw [e1, e2]
  by_cases c : u % 2 = 0
  · rw [if_pos c, if_pos c]
  · rw [if_neg c, if_neg c]
    congr 1
    unfold wrap64
    omega
theorem zig_in {a : Int} (h : -9223372036854775808 ≤ a ∧ a < 9223372036854775808) : 0 ≤ zig a ∧ zig a < 18446744073709551616 := by
  unfold zig; split <;> omega
theorem zag_in {u : Int} (h : 0 ≤ u ∧ u < 18446744073709551616) : -9223372036854775808 ≤ zag u ∧ zag u < 9223372036854775808 := by
  unfold zag; split <;> omega
theorem zag_zig (a : Int) : zag (zig a) = a := by
  unfold zig zag
  by_cases c : 0 ≤ a
  · rw [if_pos c, if_pos (by omega)]; omega
  · rw [if_neg c, if_neg (by omega)]; omega
theorem zig_zag (u : Int) (h : 0 ≤ u) : zig (zag u) = u := by
  unfold zig zag
  by_cases c : u % 2 = 0
  · rw [if_pos c, if_pos (by omega)]; omega
  · rw [if_neg c, if_neg (by omega)]; omega
theorem z_awake : apographlaw01_awake.f 12 = some true := by decide +kernel
theorem LebZig : apographlaw01_LebZig.Pure := by
  intro a u ha hu
  have ha := z_i64 ha
  have hu := z_u64 hu
  refine ⟨12, ?_⟩
  unfold apographlaw01_LebZig.f
  rw [z_awake, zig_form ha, zig_ref ha, zag_form hu, zag_ref hu]
  simp only [Option.bind_some, if_true]
  rw [zag_form (zig_in ha), zag_zig]
  simp only [Option.bind_some, if_true]
  rw [zig_form (zag_in hu), zig_zag u hu.1]
  simp
end Go.Proofs.Ytmcgafgmhddliaa.Pure
