
import Derived.Test.YtcegkljkmnpkaaaPCorex
import Derived.Test.YtcegkljkmnpkaaaLebTheory
namespace Go.Proofs.Ytcegkljkmnpkaaa.Plain
open Go.RowKit Go.Proofs.Ytcegkljkmnpkaaa.PCore Go.Proofs.YtcegkljkmnpkaaaW.PrintWords Go.Proofs.YtcegkljkmnpkaaaW.PrintLast Go.Proofs.YtcegkljkmnpkaaaW.PrintMore
/-! ### The machine's numbers -/
theorem u64_wrap (n : Int) : IntKind.u64.wrap n = n % 18446744073709551616 := by
  simp [IntKind.wrap, IntKind.bits, IntKind.signed]
theorem u64_in (n : Int) (h0 : 0 ≤ n) (h1 : n < 2 ^ 64) : IntKind.u64.wrap n = n := by
  rw [u64_wrap]; omega
theorem u8_of {a : Int} (h : (Lit.int .u8 a).wf = true) : 0 ≤ a ∧ a < 256 := by
  simp [Lit.wf, IntKind.min, IntKind.max, IntKind.signed, IntKind.bits] at h
  omega
theorem or_comm_ (k : IntKind) (x y : Int) : Go.bits .or k x y = Go.bits .or k y x := by
  unfold Go.bits
  simp only [BitVec.or_comm]
theorem byte_or {n : Int} (h0 : 0 ≤ n) : Go.bits .or .u8 ((Int.tmod n 128) % 256) 128 = n % 128 + 128 := by
  rw [Int.tmod_eq_emod_of_nonneg h0, or_comm_, bits_join .u8 8 (by decide) wraps_u8 7 128 (n % 128 % 256) (by omega) (by decide) (by omega) (by omega) (by omega) (by omega)]
  omega
theorem two_pow7 (i : Nat) : (2 : Int) ^ (7 * i) = 128 ^ i := by rw [Int.pow_mul]; rfl
theorem wrap_i {i n : Int} (h0 : 0 ≤ i) (h : i < n) (hn : n ≤ 281474976710656) : wrap64 (i + 1) = i + 1 := by
  unfold wrap64; omega
theorem rd_nat (xs : List Int) (i : Nat) (h : i < xs.length) : rd xs (i : Int) = xs[i] := by
  unfold rd
  rw [Int.toNat_natCast, List.getD_eq_getElem?_getD, List.getElem?_eq_getElem h]
  rfl
theorem drop_rd (xs : List Int) (i : Nat) (h : i < xs.length) : xs.drop i = rd xs (i : Int) :: xs.drop (i + 1) := by
  rw [rd_nat xs i h, List.drop_eq_getElem_cons h]
/-! ### Put -/
theorem put_one : ∀ (m : Nat) (n : Int) (out ls : List Int) (len i : Int) (r : List Int), n.toNat ≤ m → 0 ≤ n → out.length + (enc n).length ≤ 140737488355328 →
    Ev (fun k => leb_Put.l0 k (out ++ enc n) ls len (wrap64 (i + 1))) r → Ev (fun k => leb_Put.l1 k out n ls len i) r := by
  intro m
  induction m with
  | zero =>
    intro n out ls len i r hm h0 hl h
    rw [enc_lt (by omega)] at h hl
    refine Ev.step (fun k => ?_) h
    simp only [leb_Put.l1]
    rw [if_neg (by omega), if_pos (by simp at hl; omega), show n % 256 = n by omega]
  | succ m ih =>
    intro n out ls len i r hm h0 hl h
    by_cases hn : n < 128
    · rw [enc_lt hn] at h hl
      refine Ev.step (fun k => ?_) h
      simp only [leb_Put.l1]
      rw [if_neg (by omega), if_pos (by simp at hl; omega), show n % 256 = n by omega]
    · rw [enc_ge (by omega)] at h hl
      rw [List.length_cons] at hl
      refine Ev.step (f := fun k => leb_Put.l1 k (out ++ [n % 128 + 128]) (n / 128) ls len i) (fun k => ?_) (ih (n / 128) _ ls len i r (by omega) (by omega) ?_ ?_)
      · simp only [leb_Put.l1]
        rw [if_pos (show n ≥ 128 by omega), if_pos (by omega), byte_or h0]
      · rw [List.length_append, List.length_singleton]; omega
      · rw [List.append_assoc]; exact h
theorem put_all : ∀ (d : Nat) (out ls : List Int) (i : Nat), i + d = ls.length → (∀ x ∈ ls, 0 ≤ x ∧ x < 18446744073709551616) → out.length + 10 * d < 140737488355328 → ls.length ≤ 140737488355328 →
    Ev (fun k => leb_Put.l0 k out ls ls.length i) (out ++ encs (ls.drop i)) := by
  intro d
  induction d with
  | zero =>
    intro out ls i hi hx hl hn
    refine Ev.step (f := fun _ => some (out ++ encs (ls.drop i))) (fun k => ?_) (Ev.now _)
    simp only [leb_Put.l0]
    rw [if_neg (by omega), List.drop_eq_nil_of_le (by omega), encs_nil, List.append_nil]
  | succ d ih =>
    intro out ls i hi hx hl hn
    have hlt : i < ls.length := by omega
    have hv := hx _ (List.getElem_mem hlt)
    have hlen := enc_len_u64 hv.1 hv.2
    refine Ev.step (f := fun k => leb_Put.l1 k out (rd ls i) ls ls.length i) (fun k => ?_) ?_
    · simp only [leb_Put.l0]
      rw [if_pos (by omega), if_pos (by omega), if_pos (by omega)]
    · rw [rd_nat ls i hlt]
      refine put_one ls[i].toNat ls[i] out ls ls.length i _ (Nat.le_refl _) hv.1 (by omega) ?_
      have := ih (out ++ enc ls[i]) ls (i + 1) (by omega) hx (by rw [List.length_append]; omega) hn
      rw [wrap_i (n := ls.length) (by omega) (by omega) (by omega)]
      rw [show ls.drop i = ls[i] :: ls.drop (i + 1) from List.drop_eq_getElem_cons hlt, encs_cons, ← List.append_assoc]
      exact this
theorem put_form (out ls : List Int) (hx : ∀ x ∈ ls, 0 ≤ x ∧ x < 18446744073709551616) (hl : out.length + 10 * ls.length < 140737488355328) : Ev (fun k => leb_Put.f k out ls) (out ++ encs ls) := by
  have h := put_all ls.length out ls 0 (by omega) hx hl (by omega)
  refine Ev.congr (fun k => ?_) h
  unfold leb_Put.f
  rw [if_pos (by simp; omega), List.nil_append]
  rfl
/-! ### Of -/
theorem pow_up (i : Nat) : ∀ d : Nat, (128 : Int) ^ i ≤ 128 ^ (i + d) := by
  intro d
  induction d with
  | zero => exact Int.le_refl _
  | succ d ih =>
    have h := pow_pos128 (i + d)
    rw [← Nat.add_assoc, Int.pow_succ]
    omega
theorem pow_le9 {i : Nat} (hi : i ≤ 9) : (128 : Int) ^ i ≤ 9223372036854775808 := by
  have h : (128 : Int) ^ 9 = 9223372036854775808 := by decide
  have h2 := pow_up i (9 - i)
  rw [show i + (9 - i) = 9 by omega, h] at h2
  exact h2
theorem pow_le8 {i : Nat} (hi : i < 9) : (128 : Int) ^ i ≤ 72057594037927936 := by
  have h : (128 : Int) ^ 8 = 72057594037927936 := by decide
  have h2 := pow_up i (8 - i)
  rw [show i + (8 - i) = 8 by omega, h] at h2
  exact h2
theorem shl_form {x : Int} {i : Nat} (hi : i ≤ 9) (h0 : 0 ≤ x) (h : x * 128 ^ i < 18446744073709551616) : shl .u64 x (wrap64 (7 * (i : Int))) = x * 128 ^ i := by
  have e : wrap64 (7 * (i : Int)) = ((7 * i : Nat) : Int) := by unfold wrap64; omega
  rw [e]
  unfold shl
  rw [Int.toNat_natCast, Nat.min_eq_left (by show 7 * i ≤ 64; omega), two_pow7, u64_in _ (Int.mul_nonneg h0 (Int.pow_nonneg (by decide))) (by omega)]
theorem or_form {acc x : Int} {i : Nat} (hi : i ≤ 9) (h0 : 0 ≤ x) (ha0 : 0 ≤ acc) (ha : acc < 128 ^ i) (h : x * 128 ^ i < 18446744073709551616) : Go.bits .or .u64 acc (x * 128 ^ i) = acc + x * 128 ^ i := by
  have hp : (0 : Int) ≤ x * 128 ^ i := Int.mul_nonneg h0 (Int.pow_nonneg (by decide))
  have hb := pow_le9 hi
  rw [or_comm_, bits_join .u64 64 (by decide) u64_in (7 * i) (x * 128 ^ i) acc hp (by rw [two_pow7]; exact Int.mul_emod_left _ _) (by omega) ha0 (by rw [two_pow7]; exact ha) (by omega)]
  omega
/-- What is told of a number with which bytes begin. -/
def told (acc : Int) (i : Nat) : Option (Int × Nat) → Int × Int × Int
  | none => (0, 0, 20)
  | some (n, s) => (acc + n * 128 ^ i, (i : Int) + s, 0)
theorem mul_small {x : Int} {i : Nat} (hx : 0 ≤ x) (h128 : x < 128) (hi : i ≤ 9) (h9 : i = 9 → x ≤ 1) : x * 128 ^ i < 18446744073709551616 := by
  rcases Nat.lt_or_ge i 9 with h | h
  · have h1 := pow_le8 h
    have h2 : x * 128 ^ i ≤ x * 72057594037927936 := Int.mul_le_mul_of_nonneg_left h1 hx
    omega
  · have : i = 9 := by omega
    have h1 := pow_le9 hi
    have h2 : x * 128 ^ i ≤ x * 9223372036854775808 := Int.mul_le_mul_of_nonneg_left h1 hx
    have := h9 this
    omega
theorem of_bad (k : Nat) (acc x : Int) (i : Nat) (b : List Int) (len : Int) : leb_Of.j1 (k + 1) acc i x (x % 128) b len i true = some (0, 0, 20) := by
  simp only [leb_Of.j1, if_true]
theorem of_good (k : Nat) (acc x : Int) (i : Nat) (b : List Int) (len : Int) (hi : i ≤ 9) (hx0 : 0 ≤ x) (h9 : i = 9 → x ≤ 1) (h0 : 0 ≤ acc) (ha : acc < 128 ^ i) :
    leb_Of.j1 (k + 1) acc i x (x % 128) b len i false = if x < 128 then (if x = 0 ∧ 0 < i then some (0, 0, 20) else some (acc + x * 128 ^ i, (i : Int) + 1, 0)) else leb_Of.l0 k (acc + x % 128 * 128 ^ i) b len ((i : Int) + 1) := by
  have hsm : (x % 128) * 128 ^ i < 18446744073709551616 := mul_small (by omega) (by omega) hi (fun h => by have := h9 h; omega)
  have hsh := shl_form hi (show 0 ≤ x % 128 by omega) hsm
  have hor := or_form hi (show 0 ≤ x % 128 by omega) h0 ha hsm
  have hw7 : 0 ≤ wrap64 (7 * (i : Int)) := by
    have e : wrap64 (7 * (i : Int)) = ((7 * i : Nat) : Int) := by unfold wrap64; omega
    rw [e]; exact Int.natCast_nonneg _
  have hw : wrap64 ((i : Int) + 1) = (i : Int) + 1 := by unfold wrap64; omega
  simp only [leb_Of.j1, Bool.false_eq_true, if_false, hsh, hor, hw]
  rw [if_pos hw7]
  by_cases c : x < 128
  · rw [if_pos c, if_pos c]
    have e : x % 128 = x := by omega
    by_cases cz : x = 0
    · rw [if_pos cz]
      by_cases ci : 0 < i
      · rw [if_pos (by omega), if_pos ⟨cz, ci⟩]
      · rw [if_neg (by omega), if_neg (by omega), e]
    · rw [if_neg cz, if_neg (by omega), e]
  · rw [if_neg c, if_neg c]
theorem of_loop : ∀ (d : Nat) (b : List Int) (i : Nat) (acc : Int), i + d = b.length → (∀ x ∈ b, 0 ≤ x ∧ x < 256) → b.length ≤ 140737488355328 → 0 ≤ acc → i ≤ 10 → acc < 128 ^ i →
    Ev (fun k => leb_Of.l0 k acc b b.length i) (told acc i (dec i (b.drop i))) := by
  intro d
  induction d with
  | zero =>
    intro b i acc hi hb hn h0 hi9 ha
    refine Ev.step (f := fun _ => some (0, 0, 20)) (fun k => ?_) ?_
    · simp only [leb_Of.l0]
      rw [if_neg (by omega)]
    · rw [List.drop_eq_nil_of_le (by omega)]
      exact Ev.now _
  | succ d ih =>
    intro b i acc hi hb hn h0 hi9 ha
    have hlt : i < b.length := by omega
    have hx : 0 ≤ rd b (i : Int) ∧ rd b (i : Int) < 256 := by rw [rd_nat b i hlt]; exact hb _ (List.getElem_mem hlt)
    rw [drop_rd b i hlt]
    generalize hr : rd b (i : Int) = x at hx
    have hlow : IntKind.u64.wrap (Int.tmod x 128) = x % 128 := by rw [Int.tmod_eq_emod_of_nonneg hx.1, u64_wrap]; omega
    by_cases c : 10 ≤ i ∨ (i = 9 ∧ 1 < x)
    · have ht : dec i (x :: b.drop (i + 1)) = none := by simp only [dec]; rw [if_pos c]
      rw [ht]
      refine Ev.step (f := fun k => leb_Of.j1 k acc i x (x % 128) b b.length i true) (fun k => ?_) (Ev.step (f := fun _ => some (0, 0, 20)) (fun k => of_bad k _ _ _ _ _) (Ev.now _))
      simp only [leb_Of.l0, hr, hlow]
      rw [if_pos (by omega), if_pos (by omega), if_pos (by omega)]
      by_cases c10 : 10 ≤ i
      · rw [if_pos (by omega)]
      · rw [if_neg (by omega), if_pos (by omega), decide_eq_true (by omega)]
    · have hi9' : i ≤ 9 := by omega
      have hg := fun k => of_good k acc x i b b.length hi9' hx.1 (by omega) h0 ha
      refine Ev.step (f := fun k => leb_Of.j1 k acc i x (x % 128) b b.length i false) (fun k => ?_) ?_
      · simp only [leb_Of.l0, hr, hlow]
        rw [if_pos (by omega), if_pos (by omega), if_pos (by omega), if_neg (by omega)]
        by_cases c9 : i = 9
        · rw [if_pos (by omega), decide_eq_false (by omega)]
        · rw [if_neg (by omega)]
      · refine Ev.step hg ?_
        simp only [dec]
        rw [if_neg c]
        by_cases c128 : x < 128
        · simp only [if_pos c128]
          by_cases cz : x = 0 ∧ 0 < i
          · simp only [if_pos cz]
            exact Ev.now _
          · simp only [if_neg cz]
            exact Ev.now _
        · simp only [if_neg c128]
          have hm0 : 0 ≤ x % 128 * 128 ^ i := Int.mul_nonneg (by omega) (Int.pow_nonneg (by decide))
          have hnew : acc + x % 128 * 128 ^ i < 128 ^ (i + 1) := by
            rw [Int.pow_succ]
            have h1 : x % 128 * 128 ^ i ≤ 127 * 128 ^ i := Int.mul_le_mul_of_nonneg_right (by omega) (Int.pow_nonneg (by decide))
            omega
          have := ih b (i + 1) (acc + x % 128 * 128 ^ i) (by omega) hb hn (by omega) (by omega) hnew
          have ht : told acc i ((dec (i + 1) (b.drop (i + 1))).map fun p => (x % 128 + 128 * p.1, p.2 + 1)) = told (acc + x % 128 * 128 ^ i) (i + 1) (dec (i + 1) (b.drop (i + 1))) := by
            cases dec (i + 1) (b.drop (i + 1)) with
            | none => rfl
            | some p =>
              obtain ⟨n, s⟩ := p
              simp only [Option.map_some, told, Prod.mk.injEq, and_true]
              refine ⟨?_, by omega⟩
              rw [Int.pow_succ, Int.add_mul, Int.mul_comm (128 ^ i) 128, ← Int.mul_assoc n 128, Int.mul_comm 128 n]
              omega
          rw [ht]
          exact this
theorem of_form (b : List Int) (hb : ∀ x ∈ b, 0 ≤ x ∧ x < 256) (hn : b.length ≤ 140737488355328) : Ev (fun k => leb_Of.f k b) (told 0 0 (dec 0 b)) :=
  of_loop b.length b 0 0 (by omega) hb hn (by omega) (by omega) (by decide)
theorem told_zero (o : Option (Int × Nat)) : told 0 0 o = match o with | none => (0, 0, 20) | some (n, s) => (n, (s : Int), 0) := by
  cases o with
  | none => rfl
  | some p => obtain ⟨n, s⟩ := p; simp [told]
/-! ### Num, behind any bytes -/
theorem num_one : ∀ (m : Nat) (n : Int) (out : List Int), n.toNat ≤ m → 0 ≤ n → n < 18446744073709551616 → out.length + (enc n).length ≤ 140737488355328 →
    Ev (fun k => apographref01_Num.l0 k out n) (out ++ enc n) := by
  intro m
  induction m with
  | zero =>
    intro n out hm h0 h1 hl
    rw [enc_lt (by omega)] at hl ⊢
    refine Ev.step (f := fun _ => some (out ++ [n])) (fun k => ?_) (Ev.now _)
    simp only [apographref01_Num.l0]
    rw [if_neg (by omega), if_pos (by simp at hl; omega), show n % 256 = n by omega]
  | succ m ih =>
    intro n out hm h0 h1 hl
    by_cases hn : n < 128
    · rw [enc_lt hn] at hl ⊢
      refine Ev.step (f := fun _ => some (out ++ [n])) (fun k => ?_) (Ev.now _)
      simp only [apographref01_Num.l0]
      rw [if_neg (by omega), if_pos (by simp at hl; omega), show n % 256 = n by omega]
    · rw [enc_ge (by omega)] at hl ⊢
      rw [List.length_cons] at hl
      have e1 : (Int.tmod n 128 + 128) % 256 = n % 128 + 128 := by rw [Int.tmod_eq_emod_of_nonneg h0]; omega
      have e2 : IntKind.u64.wrap (Int.tdiv n 128) = n / 128 := by rw [Int.tdiv_eq_ediv_of_nonneg h0, u64_wrap]; omega
      refine Ev.step (f := fun k => apographref01_Num.l0 k (out ++ [n % 128 + 128]) (n / 128)) (fun k => ?_) ?_
      · simp only [apographref01_Num.l0, e1, e2]
        rw [if_pos (show n > 127 by omega), if_pos (by omega)]
      · have := ih (n / 128) (out ++ [n % 128 + 128]) (by omega) (by omega) (by omega) (by rw [List.length_append, List.length_singleton]; omega)
        rw [List.append_assoc] at this
        exact this
theorem num_form (out : List Int) {n : Int} (h0 : 0 ≤ n) (h1 : n < 18446744073709551616) (hl : out.length + 10 ≤ 140737488355328) : Ev (fun k => apographref01_Num.f k out n) (out ++ enc n) :=
  num_one n.toNat n out (Nat.le_refl _) h0 h1 (by have := enc_len_u64 h0 h1; omega)
/-! ### the reference's Leb -/
/-- Bytes that go on: each with 128 added. -/
def cont (p : List Int) : Prop := ∀ x ∈ p, 128 ≤ x ∧ x < 256
def valp : List Int → Int
  | [] => 0
  | x :: xs => x % 128 + 128 * valp xs
theorem valp_snoc (p : List Int) (x : Int) : valp (p ++ [x]) = valp p + x % 128 * 128 ^ p.length := by
  induction p with
  | nil => simp [valp]
  | cons y p ih =>
    rw [List.cons_append, valp, ih, valp, List.length_cons, Int.pow_succ, Int.mul_add, Int.mul_comm (128 ^ p.length) 128, ← Int.mul_assoc (x % 128) 128, Int.mul_comm (x % 128) 128, Int.mul_assoc 128]
    omega
theorem valp_nonneg (p : List Int) : 0 ≤ valp p := by
  induction p with
  | nil => simp [valp]
  | cons y p ih => rw [valp]; omega
theorem enc_cont : ∀ (p : List Int) (m : Int), cont p → 1 ≤ m → enc (valp p + m * 128 ^ p.length) = p ++ enc m := by
  intro p
  induction p with
  | nil => intro m _ _; simp [valp]
  | cons y p ih =>
    intro m hp hm
    have hy := hp y (by simp)
    have hp' : cont p := fun x hx => hp x (by simp [hx])
    have hv := valp_nonneg p
    have hpow : 1 ≤ m * 128 ^ p.length := by
      have h1 := pow_pos128 p.length
      have := Int.mul_le_mul hm h1 (by omega) (by omega)
      omega
    have e : valp (y :: p) + m * 128 ^ (y :: p).length = y % 128 + 128 * (valp p + m * 128 ^ p.length) := by
      rw [valp, List.length_cons, Int.pow_succ, Int.mul_comm (128 ^ p.length) 128, ← Int.mul_assoc, Int.mul_comm m 128, Int.mul_assoc, Int.mul_add]
      omega
    rw [e, enc_ge (by omega), List.cons_append]
    congr 1
    · omega
    · rw [show (y % 128 + 128 * (valp p + m * 128 ^ p.length)) / 128 = valp p + m * 128 ^ p.length by omega]
      exact ih m hp' hm
theorem enc_last : ∀ (k : Nat) (n : Int), n.toNat ≤ k → 0 ≤ n → enc n = [0] ∨ (enc n).getLast? ≠ some 0 := by
  intro k
  induction k with
  | zero =>
    intro n hk h0
    left
    rw [enc_lt (by omega), show n = 0 by omega]
  | succ k ih =>
    intro n hk h0
    by_cases hn : n < 128
    · rw [enc_lt hn]
      by_cases hz : n = 0
      · left; rw [hz]
      · right; simpa using hz
    · right
      rw [enc_ge (by omega)]
      have hne : enc (n / 128) ≠ [] := by
        intro h
        have := enc_len_pos (n / 128)
        rw [h] at this
        simp at this
      rcases ih (n / 128) (by omega) (by omega) with h | h
      · exfalso
        by_cases c : n / 128 < 128
        · rw [enc_lt c] at h
          have : n / 128 = 0 := by simpa using h
          omega
        · rw [enc_ge (by omega)] at h
          have h2 := congrArg List.length h
          have := enc_len_pos (n / 128 / 128)
          simp only [List.length_cons, List.length_nil] at h2
          omega
      · rw [List.getLast?_cons_of_ne_nil hne]
        exact h
theorem enc_cont_zero (p : List Int) (hne : p ≠ []) : enc (valp p + 0 * 128 ^ p.length) ≠ p ++ [0] := by
  intro h
  rcases enc_last _ _ (Nat.le_refl _) (show 0 ≤ valp p + 0 * 128 ^ p.length by have := valp_nonneg p; omega) with h1 | h1
  · rw [h1] at h
    have h2 := congrArg List.length h
    have : 0 < p.length := List.length_pos_iff.2 hne
    simp only [List.length_append, List.length_cons, List.length_nil] at h2
    omega
  · rw [h] at h1
    simp at h1
theorem u8_inj {x y : Int} (hx : 0 ≤ x ∧ x < 256) (hy : 0 ≤ y ∧ y < 256) (h : UInt8.ofNat x.toNat = UInt8.ofNat y.toNat) : x = y := by
  have h2 := congrArg UInt8.toNat h
  simp only [UInt8.toNat_ofNat'] at h2
  omega
theorem bytes_map : ∀ (a b : List Int), (∀ x ∈ a, 0 ≤ x ∧ x < 256) → (∀ x ∈ b, 0 ≤ x ∧ x < 256) → (a.map fun n => UInt8.ofNat n.toNat) = (b.map fun n => UInt8.ofNat n.toNat) → a = b := by
  intro a
  induction a with
  | nil => intro b _ _ h; cases b with | nil => rfl | cons y ys => simp at h
  | cons x xs ih =>
    intro b ha hb h
    cases b with
    | nil => simp at h
    | cons y ys =>
      simp only [List.map_cons, List.cons.injEq] at h
      rw [u8_inj (ha x (by simp)) (hb y (by simp)) h.1, ih ys (fun z hz => ha z (by simp [hz])) (fun z hz => hb z (by simp [hz])) h.2]
theorem bytes_eq {a b : List Int} (ha : ∀ x ∈ a, 0 ≤ x ∧ x < 256) (hb : ∀ x ∈ b, 0 ≤ x ∧ x < 256) : (strOfNums a).toList = (strOfNums b).toList ↔ a = b := by
  constructor
  · intro h
    have h2 : (strOfNums a).data.toList = (strOfNums b).data.toList := by
      have e : ∀ s : ByteArray, s.toList = s.data.toList := fun s => ByteArray.toList_eq s
      rw [← e, ← e, h]
    rw [strOfNums_data, strOfNums_data] at h2
    exact bytes_map a b ha hb h2
  · rintro rfl; rfl
/-- The reference's check: are the bytes told so far just this number's? -/
theorem check_form (p : List Int) (x : Int) (hp : cont p) (hx : 0 ≤ x ∧ x < 128) : enc (valp p + x * 128 ^ p.length) = p ++ [x] ↔ ¬ (x = 0 ∧ 0 < p.length) := by
  by_cases hz : x = 0
  · subst hz
    cases p with
    | nil => simp only [valp, List.length_nil, List.nil_append]; rw [enc_lt (by omega)]; simp
    | cons y ys =>
      constructor
      · intro h; exact absurd h (enc_cont_zero (y :: ys) (by simp))
      · intro h; exact absurd ⟨rfl, by simp⟩ h
  · constructor
    · intro _ h; exact hz h.1
    · intro _
      rw [enc_cont p x hp (by omega), enc_lt hx.2]
theorem valp_lt (p : List Int) : valp p < 128 ^ p.length := by
  induction p with
  | nil => simp [valp]
  | cons y p ih => rw [valp, List.length_cons, Int.pow_succ]; omega
theorem cont_take (b : List Int) (i : Nat) (h : i < b.length) (hc : cont (b.take i)) (hx : 128 ≤ rd b i ∧ rd b i < 256) : cont (b.take (i + 1)) := by
  rw [List.take_succ_eq_append_getElem h]
  intro y hy
  rcases List.mem_append.1 hy with hy | hy
  · exact hc y hy
  · rw [List.mem_singleton.1 hy, ← rd_nat b i h]; exact hx
theorem enc_in {n : Int} (h0 : 0 ≤ n) : ∀ x ∈ enc n, 0 ≤ x ∧ x < 256 := enc_bytes n.toNat n (Nat.le_refl _) h0
theorem leb_bad (k : Nat) (b : List Int) (n unit i x : Int) : apographref01_Leb.j2 (k + 1) b n unit i x true = some (0, 0, 20) := by
  simp only [apographref01_Leb.j2, if_true]
theorem leb_last (b : List Int) (i : Nat) (x : Int) (hb : ∀ x ∈ b, 0 ≤ x ∧ x < 256) (hlt : i < b.length) (hr : rd b (i : Int) = x) (hx : 0 ≤ x ∧ x < 128) (hi : i ≤ 9) (h9 : i = 9 → x ≤ 1) (hc : cont (b.take i)) :
    Ev (fun k => apographref01_Leb.j2 k b (valp (b.take i)) (128 ^ i) i (x % 128) false) (if x = 0 ∧ 0 < i then (0, 0, 20) else (valp (b.take i) + x * 128 ^ i, (i : Int) + 1, 0)) := by
  have hl : (b.take i).length = i := by rw [List.length_take]; omega
  have hsm := mul_small hx.1 hx.2 hi h9
  have hm0 : 0 ≤ x * 128 ^ i := Int.mul_nonneg hx.1 (Int.pow_nonneg (by decide))
  have hv0 := valp_nonneg (b.take i)
  have hv1 := valp_lt (b.take i)
  rw [hl] at hv1
  have hv2 := pow_le9 hi
  have hsum : valp (b.take i) + x * 128 ^ i < 18446744073709551616 := by
    rcases Nat.lt_or_ge i 9 with h | h
    · have h1 := pow_le8 h
      have h2 : x * 128 ^ i ≤ x * 72057594037927936 := Int.mul_le_mul_of_nonneg_left h1 hx.1
      omega
    · have h1 := h9 (by omega)
      have h2 : x * 128 ^ i ≤ 1 * 128 ^ i := Int.mul_le_mul_of_nonneg_right h1 (Int.pow_nonneg (by decide))
      omega
  have e : x % 128 = x := by omega
  have ew : wrap64 ((i : Int) + 1) = (i : Int) + 1 := by unfold wrap64; omega
  have hu1 : IntKind.u64.wrap (x * 128 ^ i) = x * 128 ^ i := u64_in _ hm0 hsm
  have hu2 : IntKind.u64.wrap (valp (b.take i) + x * 128 ^ i) = valp (b.take i) + x * 128 ^ i := u64_in _ (by omega) hsum
  have ht : ((i : Int) + 1).toNat = i + 1 := by omega
  have htake : b.take (i + 1) = b.take i ++ [x] := by rw [List.take_succ_eq_append_getElem hlt, ← rd_nat b i hlt, hr]
  have hck := check_form (b.take i) x hc hx
  rw [hl] at hck
  have hbt : ∀ y ∈ b.take i ++ [x], 0 ≤ y ∧ y < 256 := by
    rw [← htake]; intro y hy; exact hb y (List.mem_of_mem_take hy)
  have hbe := bytes_eq (enc_in (show 0 ≤ valp (b.take i) + x * 128 ^ i by omega)) hbt
  rw [e]
  refine Ev.step (f := fun k => (apographref01_Num.f k ([] : List Int) (valp (b.take i) + x * 128 ^ i)).bind fun t => if (strOfNums t).toList = (strOfNums (b.take i ++ [x])).toList then some (valp (b.take i) + x * 128 ^ i, (i : Int) + 1, 0) else some (0, 0, 20)) (fun k => ?_) ?_
  · simp only [apographref01_Leb.j2, Bool.false_eq_true, if_false, hr, hu1, hu2, ew, ht, htake]
    rw [if_pos (show (0 : Int) ≤ i by omega), if_pos (by omega), if_pos hx.2]
    congr 1
    funext t
    rw [if_pos (by omega), if_pos (by omega)]
  · refine Ev.bind (num_form [] (by omega) hsum (by simp)) ?_
    simp only [List.nil_append]
    by_cases cz : x = 0 ∧ 0 < i
    · rw [if_pos cz]
      have hne : ¬ (strOfNums (enc (valp (b.take i) + x * 128 ^ i))).toList = (strOfNums (b.take i ++ [x])).toList := fun h => (hck.1 (hbe.1 h)) cz
      simp only [if_neg hne]
      exact Ev.now _
    · rw [if_neg cz]
      simp only [if_pos (hbe.2 (hck.2 cz))]
      exact Ev.now _
theorem wrap_nat (i : Nat) (h : i ≤ 9) : wrap64 ((i : Int) + 1) = ((i + 1 : Nat) : Int) := by
  unfold wrap64; omega
theorem leb_next (b : List Int) (i : Nat) (x : Int) (hlt : i < b.length) (hr : rd b (i : Int) = x) (hi8 : i < 9) :
    valp (b.take (i + 1)) = valp (b.take i) + x % 128 * 128 ^ i ∧ IntKind.u64.wrap (x % 128 * 128 ^ i) = x % 128 * 128 ^ i ∧ IntKind.u64.wrap (valp (b.take i) + x % 128 * 128 ^ i) = valp (b.take (i + 1)) := by
  have hl : (b.take i).length = i := by rw [List.length_take]; omega
  have hval : valp (b.take (i + 1)) = valp (b.take i) + x % 128 * 128 ^ i := by
    rw [List.take_succ_eq_append_getElem hlt, ← rd_nat b i hlt, hr, valp_snoc, hl]
  have hm0 : 0 ≤ (x % 128) * 128 ^ i := Int.mul_nonneg (Int.emod_nonneg _ (by decide)) (Int.pow_nonneg (by decide))
  have hsm : (x % 128) * 128 ^ i < 18446744073709551616 := mul_small (Int.emod_nonneg _ (by decide)) (Int.emod_lt_of_pos _ (by decide)) (Nat.le_of_lt hi8) (fun h => absurd h (Nat.ne_of_lt hi8))
  have hv0 := valp_nonneg (b.take (i + 1))
  have hv1 := valp_lt (b.take (i + 1))
  have hv2 := pow_le9 (i := i + 1) hi8
  rw [show (b.take (i + 1)).length = i + 1 by rw [List.length_take]; omega] at hv1
  refine ⟨hval, u64_in _ hm0 hsm, ?_⟩
  rw [← hval]
  exact u64_in _ hv0 (Int.lt_of_lt_of_le hv1 (Int.le_trans hv2 (by decide)))
theorem told_next (acc acc' x : Int) (i : Nat) (o : Option (Int × Nat)) (h : acc' = acc + x % 128 * 128 ^ i) : told acc i (o.map fun p => (x % 128 + 128 * p.1, p.2 + 1)) = told acc' (i + 1) o := by
  rw [h]
  cases o with
  | none => rfl
  | some p =>
    obtain ⟨n, s⟩ := p
    simp only [Option.map_some, told, Prod.mk.injEq, and_true]
    refine ⟨?_, by omega⟩
    rw [Int.pow_succ, Int.add_mul, Int.mul_comm (128 ^ i) 128, ← Int.mul_assoc n 128, Int.mul_comm 128 n]
    omega
set_option maxHeartbeats 2000000 in
theorem leb_loop : ∀ (d : Nat) (b : List Int) (i : Nat), i + d = b.length → (∀ x ∈ b, 0 ≤ x ∧ x < 256) → b.length ≤ 140737488355328 → i ≤ 10 → cont (b.take i) →
    Ev (fun k => apographref01_Leb.l0 k b (valp (b.take i)) (IntKind.u64.wrap (128 ^ i)) i) (told (valp (b.take i)) i (dec i (b.drop i))) := by
  intro d
  induction d with
  | zero =>
    intro b i hi hb hn h10 hc
    rw [List.drop_eq_nil_of_le (by omega)]
    refine Ev.step (f := fun k => apographref01_Leb.j1 k b (valp (b.take i)) (IntKind.u64.wrap (128 ^ i)) i false) (fun k => ?_) (Ev.step (f := fun _ => some (0, 0, 20)) (fun k => ?_) (Ev.now _))
    · simp only [apographref01_Leb.l0]
      rw [if_neg (by omega)]
    · simp only [apographref01_Leb.j1, Bool.false_eq_true, if_false]
  | succ d ih =>
    intro b i hi hb hn h10 hc
    have hlt : i < b.length := by omega
    have hx : 0 ≤ rd b (i : Int) ∧ rd b (i : Int) < 256 := by rw [rd_nat b i hlt]; exact hb _ (List.getElem_mem hlt)
    have hl : (b.take i).length = i := by rw [List.length_take]; omega
    rw [drop_rd b i hlt]
    generalize hr : rd b (i : Int) = x at hx
    have hlow : IntKind.u64.wrap (Int.tmod x 128) = x % 128 := by rw [Int.tmod_eq_emod_of_nonneg hx.1, u64_wrap]; omega
    by_cases c10 : 10 ≤ i
    · simp only [dec]
      rw [if_pos (.inl c10)]
      refine Ev.step (f := fun k => apographref01_Leb.j1 k b (valp (b.take i)) (IntKind.u64.wrap (128 ^ i)) i false) (fun k => ?_) (Ev.step (f := fun _ => some (0, 0, 20)) (fun k => ?_) (Ev.now _))
      · simp only [apographref01_Leb.l0]
        rw [if_pos (by omega), decide_eq_false (by omega)]
      · simp only [apographref01_Leb.j1, Bool.false_eq_true, if_false]
    · have hi9 : i ≤ 9 := by omega
      have hu : IntKind.u64.wrap (128 ^ i) = 128 ^ i := u64_in _ (Int.pow_nonneg (by decide)) (by have := pow_le9 hi9; omega)
      rw [hu]
      refine Ev.step (f := fun k => apographref01_Leb.j1 k b (valp (b.take i)) (128 ^ i) i true) (fun k => ?_) ?_
      · simp only [apographref01_Leb.l0]
        rw [if_pos (by omega), decide_eq_true (by omega)]
      · by_cases c9 : i = 9 ∧ 1 < x
        · simp only [dec]
          rw [if_pos (.inr c9)]
          refine Ev.step (f := fun k => apographref01_Leb.j2 k b (valp (b.take i)) (128 ^ i) i (x % 128) true) (fun k => ?_) (Ev.step (f := fun _ => some (0, 0, 20)) (fun k => leb_bad k _ _ _ _ _) (Ev.now _))
          simp only [apographref01_Leb.j1, if_true, hr, hlow]
          rw [if_pos (by omega), if_pos (by omega), if_pos (by omega), decide_eq_true (by omega)]
        · refine Ev.step (f := fun k => apographref01_Leb.j2 k b (valp (b.take i)) (128 ^ i) i (x % 128) false) (fun k => ?_) ?_
          · simp only [apographref01_Leb.j1, if_true, hr, hlow]
            rw [if_pos (by omega), if_pos (by omega)]
            by_cases c : i = 9
            · rw [if_pos (by omega), decide_eq_false (by omega)]
            · rw [if_neg (by omega)]
          · simp only [dec]
            rw [if_neg (by omega)]
            by_cases c128 : x < 128
            · have h := leb_last b i x hb hlt hr ⟨hx.1, c128⟩ hi9 (by omega) hc
              simp only [if_pos c128]
              by_cases cz : x = 0 ∧ 0 < i
              · rw [if_pos cz] at h
                simp only [if_pos cz]
                exact h
              · rw [if_neg cz] at h
                simp only [if_neg cz]
                exact h
            · have hi8 : i < 9 := by
                rcases Nat.lt_or_ge i 9 with h | h
                · exact h
                · exact absurd ⟨by omega, by omega⟩ c9
              have hc' : cont (b.take (i + 1)) := cont_take b i hlt hc (by rw [hr]; omega)
              have ew : wrap64 ((i : Int) + 1) = ((i + 1 : Nat) : Int) := wrap_nat i (Nat.le_of_lt hi8)
              obtain ⟨hval, hu1, hu2⟩ := leb_next b i x hlt hr hi8
              have hnext := ih b (i + 1) (by rw [← hi, Nat.add_assoc, Nat.add_comm 1 d]) hb hn (Nat.le_succ_of_le hi8) hc'
              have ht := told_next (valp (b.take i)) (valp (b.take (i + 1))) x i (dec (i + 1) (b.drop (i + 1))) hval
              simp only [if_neg c128]
              rw [ht]
              refine Ev.step (f := fun k => apographref01_Leb.l0 k b (valp (b.take (i + 1))) (IntKind.u64.wrap (128 ^ (i + 1))) ((i + 1 : Nat) : Int)) (fun k => ?_) hnext
              simp only [apographref01_Leb.j2, Bool.false_eq_true, if_false, hr, hu1, hu2, ew]
              rw [if_pos (Int.natCast_nonneg i), if_pos (Int.ofNat_lt.2 hlt), if_neg c128, Int.pow_succ]
end Go.Proofs.Ytcegkljkmnpkaaa.Plain
