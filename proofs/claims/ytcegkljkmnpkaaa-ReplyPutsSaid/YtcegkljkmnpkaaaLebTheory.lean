
namespace Go.Proofs.Ytcegkljkmnpkaaa.Plain
/-! ### Numbers as bytes, by definition -/
theorem div_toNat (n : Int) (h : 128 ≤ n) : (n / 128).toNat < n.toNat := by omega
/-- A number's bytes, the lowest seven bits first. -/
def enc (n : Int) : List Int := if h : 128 ≤ n then (n % 128 + 128) :: enc (n / 128) else [n]
termination_by n.toNat
decreasing_by exact div_toNat n h
theorem enc_lt {n : Int} (h : n < 128) : enc n = [n] := by
  rw [enc, dif_neg (by omega)]
theorem enc_ge {n : Int} (h : 128 ≤ n) : enc n = (n % 128 + 128) :: enc (n / 128) := by
  rw [enc, dif_pos h]
/-- What is left of 2^64 behind i bytes. -/
def lim (i : Nat) : Int := 2 * 128 ^ (9 - i)
theorem lim_succ (i : Nat) (h : i < 9) : lim i = 128 * lim (i + 1) := by
  unfold lim
  have e : 9 - i = (9 - (i + 1)) + 1 := by omega
  rw [e, Int.pow_succ]
  omega
theorem pow_pos128 (j : Nat) : (1 : Int) ≤ 128 ^ j := by
  induction j with
  | zero => simp
  | succ j ih => rw [Int.pow_succ]; omega
theorem lim_pos (i : Nat) : 2 ≤ lim i := by
  unfold lim
  have := pow_pos128 (9 - i)
  omega
theorem lim_zero : lim 0 = 18446744073709551616 := by decide
theorem lim_nine : lim 9 = 2 := by decide
theorem lim_big (i : Nat) (h : i < 9) : 256 ≤ lim i := by
  rw [lim_succ i h]
  have := lim_pos (i + 1)
  omega
/-- The number with which bytes begin, and its size; i: how many of its bytes are told already. -/
def dec : Nat → List Int → Option (Int × Nat)
  | _, [] => none
  | i, x :: xs => if 10 ≤ i ∨ (i = 9 ∧ 1 < x) then none else if x < 128 then (if x = 0 ∧ 0 < i then none else some (x, 1)) else (dec (i + 1) xs).map fun p => (x % 128 + 128 * p.1, p.2 + 1)
theorem dec_some : ∀ (b : List Int) (i : Nat) (n : Int) (s : Nat), (∀ x ∈ b, 0 ≤ x ∧ x < 256) → dec i b = some (n, s) →
    0 ≤ n ∧ (0 < i → 0 < n) ∧ i ≤ 9 ∧ n < lim i ∧ s = (enc n).length ∧ ∃ xs, b = enc n ++ xs := by
  intro b
  induction b with
  | nil => intro i n s _ h; simp [dec] at h
  | cons x xs ih =>
    intro i n s hb h
    have hx := hb x (by simp)
    simp only [dec] at h
    by_cases c1 : 10 ≤ i ∨ (i = 9 ∧ 1 < x)
    · rw [if_pos c1] at h; cases h
    · rw [if_neg c1] at h
      by_cases c2 : x < 128
      · rw [if_pos c2] at h
        by_cases c3 : x = 0 ∧ 0 < i
        · rw [if_pos c3] at h; cases h
        · rw [if_neg c3] at h
          simp only [Option.some.injEq, Prod.mk.injEq] at h
          obtain ⟨rfl, rfl⟩ := h
          refine ⟨hx.1, by omega, by omega, ?_, by rw [enc_lt c2]; rfl, xs, by rw [enc_lt c2]; rfl⟩
          rcases Nat.lt_or_ge i 9 with h9 | h9
          · have := lim_big i h9; omega
          · have : i = 9 := by omega
            subst this
            rw [lim_nine]
            omega
      · rw [if_neg c2] at h
        simp only [Option.map_eq_some_iff, Prod.exists, Prod.mk.injEq] at h
        obtain ⟨m, t, hd, rfl, rfl⟩ := h
        obtain ⟨h0, h1, hi, hl, hs, ys, hy⟩ := ih (i + 1) m t (fun y hy => hb y (by simp [hy])) hd
        have hls := lim_succ i (by omega)
        have hm := h1 (by omega)
        have he : enc (x % 128 + 128 * m) = x :: enc m := by
          rw [enc_ge (by omega)]
          congr 1
          · omega
          · congr 1; omega
        refine ⟨by omega, by omega, by omega, by omega, ?_, ys, ?_⟩
        · rw [he, hs]; rfl
        · rw [he, hy]; rfl
/-- A number's bytes are bytes, and as many as there must be. -/
theorem enc_bytes : ∀ (k : Nat) (n : Int), n.toNat ≤ k → 0 ≤ n → ∀ x ∈ enc n, 0 ≤ x ∧ x < 256 := by
  intro k
  induction k with
  | zero =>
    intro n hk h0 x hx
    rw [enc_lt (by omega)] at hx
    simp at hx
    omega
  | succ k ih =>
    intro n hk h0 x hx
    by_cases hn : n < 128
    · rw [enc_lt hn] at hx
      simp at hx
      omega
    · rw [enc_ge (by omega)] at hx
      rcases List.mem_cons.1 hx with rfl | hx
      · omega
      · exact ih (n / 128) (by omega) (by omega) x hx
theorem enc_len_pos (n : Int) : 1 ≤ (enc n).length := by
  by_cases hn : n < 128
  · rw [enc_lt hn]; simp
  · rw [enc_ge (by omega)]; simp
theorem enc_len : ∀ (j : Nat) (n : Int), 0 ≤ n → n < 128 ^ (j + 1) → (enc n).length ≤ j + 1 := by
  intro j
  induction j with
  | zero => intro n h0 h; rw [enc_lt (by omega)]; simp
  | succ j ih =>
    intro n h0 h
    by_cases hn : n < 128
    · rw [enc_lt hn]; simp
    · rw [enc_ge (by omega), List.length_cons]
      have : n / 128 < 128 ^ (j + 1) := by
        rw [Int.pow_succ] at h
        omega
      have := ih (n / 128) (by omega) this
      omega
theorem enc_len_u64 {n : Int} (h0 : 0 ≤ n) (h : n < 18446744073709551616) : (enc n).length ≤ 10 := enc_len 9 n h0 (by
  have : (128 : Int) ^ (9 + 1) = 1180591620717411303424 := by decide
  omega)
/-- Numbers as bytes, one behind the other. -/
def encs (l : List Int) : List Int := l.flatMap enc
theorem encs_nil : encs [] = [] := rfl
theorem encs_cons (n : Int) (l : List Int) : encs (n :: l) = enc n ++ encs l := rfl
theorem encs_append (l m : List Int) : encs (l ++ m) = encs l ++ encs m := by simp [encs]
theorem encs_le : ∀ l : List Int, (∀ x ∈ l, 0 ≤ x ∧ x < 18446744073709551616) → (encs l).length ≤ 10 * l.length := by
  intro l
  induction l with
  | nil => intro _; simp [encs]
  | cons n l ih =>
    intro h
    have h1 := enc_len_u64 (h n (by simp)).1 (h n (by simp)).2
    have h2 := ih (fun x hx => h x (by simp [hx]))
    rw [encs_cons, List.length_append, List.length_cons]
    omega
end Go.Proofs.Ytcegkljkmnpkaaa.Plain
