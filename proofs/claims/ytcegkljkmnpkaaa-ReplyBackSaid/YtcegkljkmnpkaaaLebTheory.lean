
namespace Go.Proofs.Ytcegkljkmnpkaaa.Plain
/-! ### Numbers as bytes, by definition -/
theorem div_toNat (n : Int) (h : 128 ≤ n) : (n / 128).toNat < n.toNat := by omega
/-- A number's bytes, the lowest seven bits first. -/
def enc (n : Int) : List Int := if h : 128 ≤ n then (n % 128 + 128) :: enc (n / 128) else [n]
termination_by n.toNat
decreasing_by exact div_toNat n h
theorem enc_lt {n : Int} (h : n < 128) : enc n = [n] := by
  rw [enc, dif_neg (by omega)]
theorem enc_ge {n : Int} (h : 128 ≤ n) : enc n = (n % 128 + 128) :: enc (n / 128) := by
  rw [enc, dif_pos h]
/-- What is left of 2^64 behind i bytes. -/
def lim (i : Nat) : Int := 2 * 128 ^ (9 - i)
theorem lim_succ (i : Nat) (h : i < 9) : lim i = 128 * lim (i + 1) := by
  unfold lim
  have e : 9 - i = (9 - (i + 1)) + 1 := by omega
  rw [e, Int.pow_succ]
  omega
theorem pow_pos128 (j : Nat) : (1 : Int) ≤ 128 ^ j := by
  induction j with
  | zero => simp
  | succ j ih => rw [Int.pow_succ]; omega
theorem lim_pos (i : Nat) : 2 ≤ lim i := by
  unfold lim
  have := pow_pos128 (9 - i)
  omega
theorem lim_zero : lim 0 = 18446744073709551616 := by decide
theorem lim_nine : lim 9 = 2 := by decide
theorem lim_big (i : Nat) (h : i < 9) : 256 ≤ lim i := by
  rw [lim_succ i h]
  have := lim_pos (i + 1)
  omega
/-- The number with which bytes begin, and its size; i: how many of its bytes are told already. -/
def dec : Nat → List Int → Option (Int × Nat)
  | _, [] => none
  | i, x :: xs => if 10 ≤ i ∨ (i = 9 ∧ 1 < x) then none else if x < 128 then (if x = 0 ∧ 0 < i then none else some (x, 1)) else (dec (i + 1) xs).map fun p => (x % 128 + 128 * p.1, p.2 + 1)
theorem dec_enc (xs : List Int) : ∀ (k : Nat) (n : Int) (i : Nat), n.toNat ≤ k → 0 ≤ n → (0 < i → 0 < n) → i ≤ 9 → n < lim i → dec i (enc n ++ xs) = some (n, (enc n).length) := by
  intro k
  induction k with
  | zero =>
    intro n i hk h0 h1 hi hl
    have : n = 0 := by omega
    subst this
    rw [enc_lt (by omega)]
    have hi0 : i = 0 := by omega
    subst hi0
    simp [dec]
  | succ k ih =>
    intro n i hk h0 h1 hi hl
    by_cases hn : n < 128
    · rw [enc_lt hn]
      have c1 : ¬ (10 ≤ i ∨ (i = 9 ∧ 1 < n)) := by
        rintro (h | ⟨rfl, h⟩)
        · omega
        · rw [lim_nine] at hl; omega
      simp only [dec, List.cons_append, List.nil_append]
      rw [if_neg c1, if_pos hn, if_neg (by omega)]
      rfl
    · have hn' : 128 ≤ n := by omega
      have hi9 : i < 9 := by
        rcases Nat.lt_or_ge i 9 with h | h
        · exact h
        · have : i = 9 := by omega
          subst this
          rw [lim_nine] at hl
          omega
      rw [enc_ge hn']
      simp only [List.cons_append, dec]
      rw [if_neg (by omega), if_neg (by omega)]
      have hls := lim_succ i hi9
      rw [ih (n / 128) (i + 1) (by omega) (by omega) (by omega) (by omega) (by omega)]
      simp only [Option.map_some, List.length_cons, Option.some.injEq, Prod.mk.injEq, and_true]
      omega
theorem dec_some : ∀ (b : List Int) (i : Nat) (n : Int) (s : Nat), (∀ x ∈ b, 0 ≤ x ∧ x < 256) → dec i b = some (n, s) →
    0 ≤ n ∧ (0 < i → 0 < n) ∧ i ≤ 9 ∧ n < lim i ∧ s = (enc n).length ∧ ∃ xs, b = enc n ++ xs := by
  intro b
  induction b with
  | nil => intro i n s _ h; simp [dec] at h
  | cons x xs ih =>
    intro i n s hb h
    have hx := hb x (by simp)
    simp only [dec] at h
    by_cases c1 : 10 ≤ i ∨ (i = 9 ∧ 1 < x)
    · rw [if_pos c1] at h; cases h
    · rw [if_neg c1] at h
      by_cases c2 : x < 128
      · rw [if_pos c2] at h
        by_cases c3 : x = 0 ∧ 0 < i
        · rw [if_pos c3] at h; cases h
        · rw [if_neg c3] at h
          simp only [Option.some.injEq, Prod.mk.injEq] at h
          obtain ⟨rfl, rfl⟩ := h
          refine ⟨hx.1, by omega, by omega, ?_, by rw [enc_lt c2]; rfl, xs, by rw [enc_lt c2]; rfl⟩
          rcases Nat.lt_or_ge i 9 with h9 | h9
          · have := lim_big i h9; omega
          · have : i = 9 := by omega
            subst this
            rw [lim_nine]
            omega
      · rw [if_neg c2] at h
        simp only [Option.map_eq_some_iff, Prod.exists, Prod.mk.injEq] at h
        obtain ⟨m, t, hd, rfl, rfl⟩ := h
        obtain ⟨h0, h1, hi, hl, hs, ys, hy⟩ := ih (i + 1) m t (fun y hy => hb y (by simp [hy])) hd
        have hls := lim_succ i (by omega)
        have hm := h1 (by omega)
        have he : enc (x % 128 + 128 * m) = x :: enc m := by
          rw [enc_ge (by omega)]
          congr 1
          · omega
          · congr 1; omega
        refine ⟨by omega, by omega, by omega, by omega, ?_, ys, ?_⟩
        · rw [he, hs]; rfl
        · rw [he, hy]; rfl
/-- A number's bytes are bytes, and as many as there must be. -/
theorem enc_bytes : ∀ (k : Nat) (n : Int), n.toNat ≤ k → 0 ≤ n → ∀ x ∈ enc n, 0 ≤ x ∧ x < 256 := by
  intro k
  induction k with
  | zero =>
    intro n hk h0 x hx
    rw [enc_lt (by omega)] at hx
    simp at hx
    omega
  | succ k ih =>
    intro n hk h0 x hx
    by_cases hn : n < 128
    · rw [enc_lt hn] at hx
      simp at hx
      omega
    · rw [enc_ge (by omega)] at hx
      rcases List.mem_cons.1 hx with rfl | hx
      · omega
      · exact ih (n / 128) (by omega) (by omega) x hx
theorem enc_len_pos (n : Int) : 1 ≤ (enc n).length := by
  by_cases hn : n < 128
  · rw [enc_lt hn]; simp
  · rw [enc_ge (by omega)]; simp
theorem enc_len : ∀ (j : Nat) (n : Int), 0 ≤ n → n < 128 ^ (j + 1) → (enc n).length ≤ j + 1 := by
  intro j
  induction j with
  | zero => intro n h0 h; rw [enc_lt (by omega)]; simp
  | succ j ih =>
    intro n h0 h
    by_cases hn : n < 128
    · rw [enc_lt hn]; simp
    · rw [enc_ge (by omega), List.length_cons]
      have : n / 128 < 128 ^ (j + 1) := by
        rw [Int.pow_succ] at h
        omega
      have := ih (n / 128) (by omega) this
      omega
theorem enc_len_u64 {n : Int} (h0 : 0 ≤ n) (h : n < 18446744073709551616) : (enc n).length ≤ 10 := enc_len 9 n h0 (by
  have : (128 : Int) ^ (9 + 1) = 1180591620717411303424 := by decide
  omega)
theorem enc_len_mono : ∀ (k : Nat) (a b : Int), b.toNat ≤ k → 0 ≤ a → a ≤ b → (enc a).length ≤ (enc b).length := by
  intro k
  induction k with
  | zero =>
    intro a b hk h0 hab
    obtain rfl : a = b := by omega
    omega
  | succ k ih =>
    intro a b hk h0 hab
    by_cases ha : a < 128
    · rw [enc_lt ha]
      have := enc_len_pos b
      simp
      omega
    · rw [enc_ge (n := a) (by omega), enc_ge (n := b) (by omega)]
      have := ih (a / 128) (b / 128) (by omega) (by omega) (by omega)
      simp
      omega
/-- Numbers as bytes, one behind the other. -/
def encs (l : List Int) : List Int := l.flatMap enc
theorem encs_nil : encs [] = [] := rfl
theorem encs_cons (n : Int) (l : List Int) : encs (n :: l) = enc n ++ encs l := rfl
theorem encs_append (l m : List Int) : encs (l ++ m) = encs l ++ encs m := by simp [encs]
theorem encs_len : ∀ l : List Int, l.length ≤ (encs l).length := by
  intro l
  induction l with
  | nil => simp
  | cons n l ih =>
    have := enc_len_pos n
    rw [encs_cons, List.length_append, List.length_cons]
    omega
theorem encs_le : ∀ l : List Int, (∀ x ∈ l, 0 ≤ x ∧ x < 18446744073709551616) → (encs l).length ≤ 10 * l.length := by
  intro l
  induction l with
  | nil => intro _; simp [encs]
  | cons n l ih =>
    intro h
    have h1 := enc_len_u64 (h n (by simp)).1 (h n (by simp)).2
    have h2 := ih (fun x hx => h x (by simp [hx]))
    rw [encs_cons, List.length_append, List.length_cons]
    omega
theorem encs_bytes : ∀ l : List Int, (∀ x ∈ l, 0 ≤ x ∧ x < 18446744073709551616) → ∀ x ∈ encs l, 0 ≤ x ∧ x < 256 := by
  intro l
  induction l with
  | nil => intro _ x hx; simp [encs] at hx
  | cons n l ih =>
    intro h x hx
    rw [encs_cons] at hx
    rcases List.mem_append.1 hx with hx | hx
    · exact enc_bytes n.toNat n (Nat.le_refl _) (h n (by simp)).1 x hx
    · exact ih (fun y hy => h y (by simp [hy])) x hx
/-- The numbers that bytes are, if they are some. -/
def decs : Nat → List Int → Option (List Int)
  | 0, _ => none
  | k + 1, b => if b = [] then some [] else (dec 0 b).bind fun p => (decs k (b.drop p.2)).map fun l => p.1 :: l
theorem decs_encs : ∀ (l : List Int) (k : Nat), (∀ x ∈ l, 0 ≤ x ∧ x < 18446744073709551616) → l.length < k → decs k (encs l) = some l := by
  intro l
  induction l with
  | nil => intro k _ hk; obtain ⟨k, rfl⟩ : ∃ m, k = m + 1 := ⟨k - 1, by simp at hk; omega⟩; simp [decs, encs]
  | cons n l ih =>
    intro k hl hk
    obtain ⟨k, rfl⟩ : ∃ m, k = m + 1 := ⟨k - 1, by omega⟩
    have hn := hl n (by simp)
    have hne : enc n ++ encs l ≠ [] := by
      intro h
      have := enc_len_pos n
      have h2 := congrArg List.length h
      rw [List.length_append, List.length_nil] at h2
      omega
    rw [encs_cons]
    simp only [decs]
    rw [if_neg hne, dec_enc (encs l) n.toNat n 0 (Nat.le_refl _) hn.1 (by omega) (by omega) (by rw [lim_zero]; exact hn.2)]
    simp only [Option.bind_some]
    rw [List.drop_left, ih k (fun x hx => hl x (by simp [hx])) (by simp at hk; omega)]
    rfl
theorem decs_some : ∀ (k : Nat) (b l : List Int), (∀ x ∈ b, 0 ≤ x ∧ x < 256) → decs k b = some l → b = encs l ∧ ∀ x ∈ l, 0 ≤ x ∧ x < 18446744073709551616 := by
  intro k
  induction k with
  | zero => intro b l _ h; simp [decs] at h
  | succ k ih =>
    intro b l hb h
    simp only [decs] at h
    by_cases c : b = []
    · rw [if_pos c] at h
      cases h
      exact ⟨c, by simp⟩
    · rw [if_neg c] at h
      simp only [Option.bind_eq_some_iff, Option.map_eq_some_iff, Prod.exists] at h
      obtain ⟨n, s, hd, m, hm, rfl⟩ := h
      obtain ⟨h0, _, _, hl, hs, xs, hx⟩ := dec_some b 0 n s hb hd
      have hdrop : b.drop s = xs := by rw [hx, hs, List.drop_left]
      rw [hdrop] at hm
      obtain ⟨e, hr⟩ := ih xs m (fun x hx' => hb x (by rw [hx]; simp [hx'])) hm
      refine ⟨by rw [encs_cons, ← e]; exact hx, fun x hx' => ?_⟩
      rcases List.mem_cons.1 hx' with rfl | hx'
      · rw [lim_zero] at hl; exact ⟨h0, hl⟩
      · exact hr x hx'
end Go.Proofs.Ytcegkljkmnpkaaa.Plain
