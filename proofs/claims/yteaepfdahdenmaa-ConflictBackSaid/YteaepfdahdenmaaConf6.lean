/- Clashes told of bytes: plain; and the program's read. Conditions: the bounds of the statements. -/
import Derived.Test.YteaepfdahdenmaaConf4
namespace Go.Proofs.Yteaepfdahdenmaa.Sep
set_option linter.unusedSimpArgs false
set_option linter.unusedVariables false
open Go.RowKit Go.Proofs.Yteaepfdahdenmaa.PCore Go.Proofs.Yteaepfdahdenmaa.Plain Go.Proofs.YteaepfdahdenmaaW.PrintWords Go.Proofs.YteaepfdahdenmaaW.PrintLast Go.Proofs.YteaepfdahdenmaaW.PrintMore
open Go.Proofs.Yteaepfdahdenmaa.PDat (S44 k44 z44 rd_T44 at_T44 S46 k46 z46 rd_T46 at_T46)
/-- Reading a side. -/
def rdS (s : RS) : Side × RS := (⟨(rdFlag s).1, (rdText 200 (rdFlag s).2).1⟩, (rdText 200 (rdFlag s).2).2)
/-- Reading a clash. -/
def rdCl (s : RS) : Clash × RS :=
  (⟨(rdText 40 s).1, (rdS (rdText 40 s).2).1, (rdS (rdS (rdText 40 s).2).2).1, (rdS (rdS (rdS (rdText 40 s).2).2).2).1⟩, (rdS (rdS (rdS (rdText 40 s).2).2).2).2)
def rdCls : Nat → RS → List Clash × RS
  | 0, s => ([], s)
  | n + 1, s => ((rdCl s).1 :: (rdCls n (rdCl s).2).1, (rdCls n (rdCl s).2).2)
/-- What Of tells. -/
def ofK (b : List Int) : List Clash × Int :=
  if rdDone (rdCls (rdNum 1000 (b, false)).1.toNat (rdNum 1000 (b, false)).2).2 = true ∧ confE (rdCls (rdNum 1000 (b, false)).1.toNat (rdNum 1000 (b, false)).2).1 = 0 then ((rdCls (rdNum 1000 (b, false)).1.toNat (rdNum 1000 (b, false)).2).1, 0) else ([], 20)
theorem fine_S {s : RS} (h : Fine s) : Fine (rdS s).2 := fine_text (fine_flag h) 200
theorem fine_Cl {s : RS} (h : Fine s) : Fine (rdCl s).2 := fine_S (fine_S (fine_S (fine_text h 40)))
theorem fine_Cls : ∀ (n : Nat) {s : RS}, Fine s → Fine (rdCls n s).2 ∧ (rdCls n s).1.length = n
  | 0, s, h => ⟨h, rfl⟩
  | n + 1, s, h => by
    obtain ⟨h1, h2⟩ := fine_Cls n (fine_Cl h)
    exact ⟨h1, by simp [rdCls, h2]⟩
theorem rdS_enc (x : Side) (r : List Int) (h : x.f1.size ≤ 200) : rdS (encS x ++ r, false) = (x, (r, false)) := by
  unfold rdS encS
  rw [List.append_assoc, rdFlag_enc]
  simp only
  rw [rdText_enc r (by omega) (by omega)]
theorem rdCl_enc (c : Clash) (r : List Int) (h : SmallC c) : rdCl (encCl c ++ r, false) = (c, (r, false)) := by
  obtain ⟨k, b, o, t⟩ := c
  obtain ⟨h1, h2, h3, h4⟩ := h
  simp only at h1 h2 h3 h4
  have e : encCl ⟨k, b, o, t⟩ ++ r = encT k ++ (encS b ++ (encS o ++ (encS t ++ r))) := by simp [encCl, sidesEnc, sideAt]
  rw [e]
  simp only [rdCl]
  rw [rdText_enc _ (by omega) (by omega)]
  simp only
  rw [rdS_enc b _ h2]
  simp only
  rw [rdS_enc o _ h3]
  simp only
  rw [rdS_enc t _ h4]
theorem rdCls_enc : ∀ (l : List Clash) (r : List Int), (∀ c ∈ l, SmallC c) → rdCls l.length (encCls l ++ r, false) = (l, (r, false))
  | [], r, _ => by simp [rdCls, encCls]
  | c :: l, r, h => by
    have e : encCls (c :: l) ++ r = encCl c ++ (encCls l ++ r) := by simp [encCls]
    rw [e]
    simp only [List.length_cons, rdCls]
    rw [rdCl_enc c _ (h c (by simp))]
    simp only
    rw [rdCls_enc l r (fun x hx => h x (by simp [hx]))]
theorem ofK_enc (l : List Clash) (h : putE l = 0) : ofK (encL l) = (l, 0) := by
  obtain ⟨h1, h2, h3⟩ := putE_zero h
  have e : rdNum 1000 (encL l, false) = ((l.length : Int), (encCls l, false)) := rdNum_enc (encCls l) (by omega) (by omega) (by omega)
  have e2 := rdCls_enc l [] h3
  rw [List.append_nil] at e2
  unfold ofK
  rw [e]
  simp only [Int.toNat_natCast]
  rw [e2, if_pos ⟨rfl, h1⟩]
theorem rdS_of {s : RS} (hb : Fine s) (h : (rdS s).2.2 = false) : s.2 = false ∧ s.1 = encS (rdS s).1 ++ (rdS s).2.1 := by
  obtain ⟨h1, h2, _⟩ := rdText_of (most := 200) (fine_flag hb).1 h
  obtain ⟨h3, h4⟩ := rdFlag_of hb.1 h1
  refine ⟨h3, ?_⟩
  rw [h2] at h4
  simp only [encS, rdS, List.append_assoc]
  exact h4
theorem rdCl_of {s : RS} (hb : Fine s) (h : (rdCl s).2.2 = false) : s.2 = false ∧ s.1 = encCl (rdCl s).1 ++ (rdCl s).2.1 := by
  have f1 := fine_text hb 40
  have f2 := fine_S f1
  have f3 := fine_S f2
  obtain ⟨a1, a2⟩ := rdS_of f3 h
  obtain ⟨b1, b2⟩ := rdS_of f2 a1
  obtain ⟨c1, c2⟩ := rdS_of f1 b1
  obtain ⟨d1, d2, _⟩ := rdText_of (most := 40) hb.1 c1
  refine ⟨d1, ?_⟩
  rw [a2] at b2
  rw [b2] at c2
  rw [c2] at d2
  rw [d2]
  simp [encCl, sidesEnc, sideAt, rdCl]
theorem rdCls_of : ∀ (n : Nat) {s : RS}, Fine s → (rdCls n s).2.2 = false → s.2 = false ∧ s.1 = encCls (rdCls n s).1 ++ (rdCls n s).2.1
  | 0, s, _, h => ⟨h, by simp [rdCls, encCls]⟩
  | n + 1, s, hb, h => by
    obtain ⟨a1, a2⟩ := rdCls_of n (fine_Cl hb) h
    obtain ⟨b1, b2⟩ := rdCl_of hb a1
    refine ⟨b1, ?_⟩
    rw [a2] at b2
    rw [b2]
    simp [rdCls, encCls]
theorem ofK_bytes {b : List Int} (hF : Fine (b, false)) (h : (ofK b).2 = 0) : encL (ofK b).1 = b ∧ putE (ofK b).1 = 0 := by
  unfold ofK at h ⊢
  split at h
  · rename_i hc
    rw [if_pos hc]
    have f1 := fine_num hF 1000
    have hn := num_in hF 1000 (by decide)
    obtain ⟨f2, hl⟩ := fine_Cls (rdNum 1000 (b, false)).1.toNat f1
    have hd := (rdDone_iff _).1 hc.1
    obtain ⟨a1, a2⟩ := rdCls_of _ f1 (by rw [hd])
    obtain ⟨_, b2, _⟩ := rdNum_of (s := (b, false)) hF.1 a1
    rw [hd, List.append_nil] at a2
    rw [a2] at b2
    refine ⟨?_, ?_⟩
    · simp only [encL]
      rw [hl, Int.toNat_of_nonneg hn.1]
      exact b2.symm
    · unfold putE
      rw [if_neg (by simpa using hc.2), if_pos (by rw [hl]; omega)]
  · cases h
theorem ofK_len {b : List Int} (hF : Fine (b, false)) : (ofK b).1.length ≤ 1000 := by
  have f1 := fine_num hF 1000
  have hn := num_in hF 1000 (by decide)
  obtain ⟨f2, hl⟩ := fine_Cls (rdNum 1000 (b, false)).1.toNat f1
  unfold ofK
  split
  · simp only; omega
  · simp
/-- A reader that has failed reads on so. -/
theorem rdS_bad {s : RS} (h : s.2 = true) : (rdS s).2.2 = true := rdText_bad (rdFlag_bad h)
theorem rdCl_bad {s : RS} (h : s.2 = true) : (rdCl s).2.2 = true := rdS_bad (rdS_bad (rdS_bad (rdText_bad h)))
theorem rdCls_bad : ∀ (n : Nat) {s : RS}, s.2 = true → (rdCls n s).2.2 = true
  | 0, s, h => h
  | n + 1, s, h => rdCls_bad n (rdCl_bad h)
theorem Fr.set_new {B : Nat} {T : List Nat} {W W1 : World} (h : Fr B T W W1) {g : Nat} (hg : W.heap.size ≤ g) (j : Nat) (u : Value) : Fr B T W (W1.setCell ⟨g, j, none⟩ u) :=
  ⟨h.os, h.tape, h.output, by simpa [World.setCell] using h.size, fun k hk hT => by
    rw [Below.heap_setCell _ _ _ _ (show k ≠ g by omega)]
    exact h.block k hk hT⟩
set_option maxHeartbeats 4000000 in
set_option maxRecDepth 100000 in
theorem read_calls (B g : Nat) (s : RS) (W : World) (h : RdAt 79 B g W s) :
    Calls Try.prog 25 #[.pointer (some ⟨g, 0, none⟩)] W fun e W1 => e = .returned (.agg #[.bool (rdS s).1.f0, .string (rdS s).1.f1]) ∧ RdAt 79 B g W1 (rdS s).2 ∧ Fr B [79] W W1 := by
  have HP := Aside0.mk h
  clear h
  have huF := Try.underlying44
  go_enter Try.func25, Try.ntmps25
  go_wp2_with (first | (go_at_call 42; refine (rd_flag B g s _ (HP.out.below (below_alloc (Below.refl _ _) _))).mono ?_; rintro e w1 ⟨rfl, hr, hf⟩; have HR1 := Aside0.mk hr; have HF1 := Aside0.mk hf; have HKR := Aside0.mk (hf.blk (blk_new W _) (by decide)); clear hr hf) | (go_at_call 24; refine (rd_text B g _ 200 _ (HR1.out.below (below_alloc (Below.refl _ _) _)) (by decide)).mono ?_; rintro e w2 ⟨rfl, hr, hf⟩; have HR2 := Aside0.mk hr; have hkv := hf.blk (blk_new w1 (.cells #[.bool (rdFlag s).1, .string ⟨#[]⟩] 44)) (by decide); have HKV := Aside0.mk hkv; have hkr := hf.blk (blk_alloc HKR.out (.cells #[.bool (rdFlag s).1, .string ⟨#[]⟩] 44)) (by decide); have HKR2 := Aside0.mk hkr; have HF2 := Aside0.mk ((Fr.alloc HF1.out).trans (Fr.alloc hf)); have y0 : World.cell? w2 ⟨w1.heap.size, 0, none⟩ = some (.bool (rdFlag s).1) := (blk_cell hkv 0).trans rfl; have y1 : World.cell? w2 ⟨w1.heap.size, 1, none⟩ = some (.string ⟨#[]⟩) := (blk_cell hkv 1).trans rfl; have z0 := blk_frozen hkv 0; have z1 := blk_frozen hkv 1; have x0 : World.cell? w2 ⟨W.heap.size, 0, none⟩ = some (.bool false) := (blk_cell hkr 0).trans rfl; have x1 : World.cell? w2 ⟨W.heap.size, 1, none⟩ = some (.string ⟨#[]⟩) := (blk_cell hkr 1).trans rfl; have t0 := blk_frozen hkr 0; have t1 := blk_frozen hkr 1; have hx := blk_far hkr (p := ⟨w1.heap.size, 1, none⟩) (Nat.ne_of_lt (blk_lt HKR.out)) (.string (rdText 200 (rdFlag s).2).1); have HX := Aside0.mk hx; have x0' : World.cell? (w2.setCell ⟨w1.heap.size, 1, none⟩ (.string (rdText 200 (rdFlag s).2).1)) ⟨W.heap.size, 0, none⟩ = some (.bool false) := (blk_cell hx 0).trans rfl; have x1' : World.cell? (w2.setCell ⟨w1.heap.size, 1, none⟩ (.string (rdText 200 (rdFlag s).2).1)) ⟨W.heap.size, 1, none⟩ = some (.string ⟨#[]⟩) := (blk_cell hx 1).trans rfl; have t0' := blk_frozen hx 0; have t1' := blk_frozen hx 1; clear hr hf hkv hkr hx))
  have h1 := blk_set HX.out 0 (.bool (rdFlag s).1)
  have h2 := blk_set h1 1 (.string (rdText 200 (rdFlag s).2).1)
  have hk : (((w2.setCell ⟨w1.heap.size, 1, none⟩ (.string (rdText 200 (rdFlag s).2).1)).setCell ⟨W.heap.size, 0, none⟩ (.bool (rdFlag s).1)).setCell ⟨W.heap.size, 1, none⟩ (.string (rdText 200 (rdFlag s).2).1)).heap[W.heap.size]? = some (.cells #[.bool (rdFlag s).1, .string (rdText 200 (rdFlag s).2).1] 44 (0, 0)) := by simpa using h2
  refine bodyPost_ret (results_cell_row rfl _ _ W.heap.size 44 #[.bool (rdFlag s).1, .string (rdText 200 (rdFlag s).2).1] (0, 0) _ rfl hk huF rfl (by kernel_rfl)) rfl ?_
  have hB : B ≤ W.heap.size := HP.out.lt
  have hle : W.heap.size ≤ w1.heap.size := Nat.le_of_lt (blk_lt HKR.out)
  exact ⟨rfl, HR2.out.fr ((((Fr.refl B [44] w2).set HKV.out (Nat.le_trans hB hle) (by simp) 1 _).set HKR2.out hB (by simp) 0 _).set HKR2.out hB (by simp) 1 _) (by decide), ((HF2.out.set_new hle 1 _).set_new (Nat.le_refl _) 0 _).set_new (Nat.le_refl _) 1 _⟩
end Go.Proofs.Yteaepfdahdenmaa.Sep
