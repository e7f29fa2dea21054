/- What commits bytes are: plain. Conditions: bytes are bytes. -/
import Derived.Test.YtaijciijfofbmaaObjPut
import Derived.Test.YtaijciijfofbmaaRefReader
namespace Go.Proofs.Ytaijciijfofbmaa.Sep
set_option linter.unusedSimpArgs false
open Go.RowKit Go.Proofs.Ytaijciijfofbmaa.PCore Go.Proofs.Ytaijciijfofbmaa.Plain Go.Proofs.YtaijciijfofbmaaW.PrintWords Go.Proofs.YtaijciijfofbmaaW.PrintLast Go.Proofs.YtaijciijfofbmaaW.PrintMore
/-- Reading numbers. -/
def rdNums (most : Int) : Nat → RS → List Int × RS
  | 0, s => ([], s)
  | n + 1, s => ((rdNum most s).1 :: (rdNums most n (rdNum most s).2).1, (rdNums most n (rdNum most s).2).2)
/-- A commit. -/
structure Com where
  id : Int
  ps : List Int
  gen : Int
  root : Int
  text : ByteArray
def zeroC : Com := ⟨0, [], 0, 0, ⟨#[]⟩⟩
abbrev M64 : Int := 18446744073709551615
/-- Reading a commit. -/
def rdC (s : RS) : Com × RS :=
  (⟨(rdNum M64 s).1, (rdNums M64 (rdNum 2 (rdNum M64 s).2).1.toNat (rdNum 2 (rdNum M64 s).2).2).1,
    (rdNum M64 (rdNums M64 (rdNum 2 (rdNum M64 s).2).1.toNat (rdNum 2 (rdNum M64 s).2).2).2).1,
    (rdNum M64 (rdNum M64 (rdNums M64 (rdNum 2 (rdNum M64 s).2).1.toNat (rdNum 2 (rdNum M64 s).2).2).2).2).1,
    (rdText 60 (rdNum M64 (rdNum M64 (rdNums M64 (rdNum 2 (rdNum M64 s).2).1.toNat (rdNum 2 (rdNum M64 s).2).2).2).2).2).1⟩,
   (rdText 60 (rdNum M64 (rdNum M64 (rdNums M64 (rdNum 2 (rdNum M64 s).2).1.toNat (rdNum 2 (rdNum M64 s).2).2).2).2).2).2)
def Com.err (c : Com) : Int := comE c.id c.ps c.gen c.text
def Com.enc (c : Com) : List Int := encC c.id c.ps c.gen c.root c.text
def Com.In (c : Com) : Prop := ComIn c.id c.ps c.gen c.root
/-- What Of tells. -/
def ofC (b : List Int) : Com × Int := if rdDone (rdC (b, false)).2 = true ∧ (rdC (b, false)).1.err = 0 then ((rdC (b, false)).1, 0) else (zeroC, 20)
theorem fine_nums (most : Int) (hm : 0 ≤ most) : ∀ (n : Nat) {s : RS}, Fine s → Fine (rdNums most n s).2 ∧ (rdNums most n s).1.length = n ∧ ∀ x ∈ (rdNums most n s).1, 0 ≤ x ∧ x < 18446744073709551616
  | 0, s, h => ⟨h, rfl, fun x hx => by simp [rdNums] at hx⟩
  | n + 1, s, h => by
    obtain ⟨h1, h2, h3⟩ := fine_nums most hm n (fine_num h most)
    have h0 := num_in h most hm
    refine ⟨h1, by simp [rdNums, h2], fun x hx => ?_⟩
    simp only [rdNums, List.mem_cons] at hx
    rcases hx with rfl | hx
    · exact ⟨h0.1, h0.2.2⟩
    · exact h3 x hx
theorem rdC_in {s : RS} (h : Fine s) : (rdC s).1.In ∧ Fine (rdC s).2 ∧ (rdC s).1.ps.length ≤ 2 := by
  have h1 := num_in h M64 (by decide)
  have f1 := fine_num h M64
  have h2 := num_in f1 2 (by decide)
  have f2 := fine_num f1 2
  obtain ⟨f3, l3, h3⟩ := fine_nums M64 (by decide) (rdNum 2 (rdNum M64 s).2).1.toNat f2
  have h4 := num_in f3 M64 (by decide)
  have f4 := fine_num f3 M64
  have h5 := num_in f4 M64 (by decide)
  have f5 := fine_num f4 M64
  exact ⟨⟨⟨h1.1, h1.2.2⟩, h3, ⟨h4.1, h4.2.2⟩, ⟨h5.1, h5.2.2⟩⟩, fine_text f5 60, by simp only [rdC]; rw [l3]; omega⟩
theorem zeroC_in : zeroC.In := ⟨⟨by decide, by decide⟩, fun p hp => by simp [zeroC] at hp, ⟨by decide, by decide⟩, ⟨by decide, by decide⟩⟩
theorem ofC_in {b : List Int} (h : Fine (b, false)) : (ofC b).1.In ∧ (ofC b).1.ps.length ≤ 2 := by
  unfold ofC
  split
  · exact ⟨(rdC_in h).1, (rdC_in h).2.2⟩
  · exact ⟨zeroC_in, by simp [zeroC]⟩
theorem rdNums_enc (r : List Int) : ∀ (ps : List Int), (∀ p ∈ ps, 0 ≤ p ∧ p < 18446744073709551616) → rdNums M64 ps.length (encs ps ++ r, false) = (ps, (r, false))
  | [], _ => rfl
  | p :: ps, h => by
    have hp := h p (by simp)
    rw [encs_cons, List.append_assoc]
    simp only [List.length_cons, rdNums]
    rw [rdNum_enc _ hp.1 hp.2 (by show p ≤ 18446744073709551615; omega)]
    simp only
    rw [rdNums_enc r ps (fun x hx => h x (by simp [hx]))]
theorem rdC_enc (c : Com) (h : c.In) (hl : c.ps.length ≤ 2) (ht : c.text.size ≤ 60) : rdC (c.enc, false) = (c, ([], false)) := by
  obtain ⟨id, ps, gen, root, t⟩ := c
  obtain ⟨h1, h2, h3, h4⟩ := h
  simp only at h1 h2 h3 h4 hl ht
  have e : (Com.mk id ps gen root t).enc = Plain.enc id ++ (Plain.enc (ps.length : Int) ++ (Plain.encs ps ++ (Plain.enc gen ++ (Plain.enc root ++ (encT t ++ []))))) := by simp [Com.enc, encC]
  rw [e]
  simp only [rdC]
  rw [rdNum_enc _ h1.1 h1.2 (by show id ≤ 18446744073709551615; omega)]
  simp only
  rw [rdNum_enc _ (by omega) (by omega) (by omega)]
  simp only [Int.toNat_natCast]
  rw [rdNums_enc _ ps h2]
  simp only
  rw [rdNum_enc _ h3.1 h3.2 (by show gen ≤ 18446744073709551615; omega)]
  simp only
  rw [rdNum_enc _ h4.1 h4.2 (by show root ≤ 18446744073709551615; omega)]
  simp only
  rw [rdText_enc _ (by omega) (by omega)]
theorem ofC_enc (c : Com) (h : c.In) (he : c.err = 0) : ofC c.enc = (c, 0) := by
  obtain ⟨_, _, hl, ht⟩ := comE_zero he
  unfold ofC
  rw [rdC_enc c h hl ht, if_pos ⟨rfl, he⟩]
theorem enc_one {c d : Com} (hc : c.In) (hd : d.In) (ec : c.err = 0) (ed : d.err = 0) : c.enc = d.enc ↔ c = d := by
  constructor
  · intro h
    have h1 := ofC_enc c hc ec
    rw [h, ofC_enc d hd ed] at h1
    exact (Prod.mk.inj h1).1.symm
  · intro h; rw [h]
theorem bytes_tail {a b c : List Int} (h : a = b ++ c) (ha : ∀ x ∈ a, 0 ≤ x ∧ x < 256) : ∀ x ∈ c, 0 ≤ x ∧ x < 256 := fun x hx => ha x (by rw [h]; exact List.mem_append_right _ hx)
theorem rdNum_bytes (most : Int) (s : RS) (hb : ∀ x ∈ s.1, 0 ≤ x ∧ x < 256) : ∀ x ∈ (rdNum most s).2.1, 0 ≤ x ∧ x < 256 := by
  unfold rdNum
  split
  · exact hb
  · split
    · intro x hx; simp [failed] at hx
    · split
      · intro x hx; simp [failed] at hx
      · exact fun x hx => hb x (List.mem_of_mem_drop hx)
theorem rdNums_of (most : Int) : ∀ (n : Nat) (s : RS), (∀ x ∈ s.1, 0 ≤ x ∧ x < 256) → (rdNums most n s).2.2 = false → s.2 = false ∧ s.1 = encs (rdNums most n s).1 ++ (rdNums most n s).2.1 ∧ (rdNums most n s).1.length = n
  | 0, s, hb, h => ⟨h, by simp [rdNums, encs_nil], rfl⟩
  | n + 1, s, hb, h => by
    simp only [rdNums] at h ⊢
    have hb1 : ∀ x ∈ (rdNum most s).2.1, 0 ≤ x ∧ x < 256 := rdNum_bytes most s hb
    obtain ⟨h1, h2, h3⟩ := rdNums_of most n _ hb1 h
    obtain ⟨e1, e2, _⟩ := rdNum_of hb h1
    refine ⟨e1, ?_, by simp [h3]⟩
    rw [encs_cons, List.append_assoc, ← h2]
    exact e2
theorem ofC_bytes {b : List Int} (hF : Fine (b, false)) (h : (ofC b).2 = 0) : (ofC b).1.enc = b ∧ (ofC b).1.err = 0 := by
  unfold ofC at h ⊢
  split at h
  · rename_i hc
    rw [if_pos hc]
    refine ⟨?_, hc.2⟩
    have hd := (rdDone_iff _).1 hc.1
    have hb : ∀ x ∈ ((b, false) : RS).1, 0 ≤ x ∧ x < 256 := hF.1
    simp only [rdC] at hd ⊢
    have f1 := fine_num hF M64
    have h2 := num_in f1 2 (by decide)
    have f2 := fine_num f1 2
    obtain ⟨f3, _, _⟩ := fine_nums M64 (by decide) (rdNum 2 (rdNum M64 (b, false)).2).1.toNat f2
    have f4 := fine_num f3 M64
    have f5 := fine_num f4 M64
    obtain ⟨t1, t2, _⟩ := rdText_of (most := 60) f5.1 (by rw [hd])
    obtain ⟨r1, r2, _⟩ := rdNum_of f4.1 t1
    obtain ⟨g1, g2, _⟩ := rdNum_of f3.1 r1
    obtain ⟨p1, p2, p3⟩ := rdNums_of M64 _ _ f2.1 g1
    obtain ⟨n1, n2, _⟩ := rdNum_of f1.1 p1
    obtain ⟨i1, i2, _⟩ := rdNum_of hb n1
    simp only [Com.enc, encC]
    rw [p3, Int.toNat_of_nonneg h2.1]
    rw [hd, List.append_nil] at t2
    rw [t2] at r2
    rw [r2] at g2
    rw [g2] at p2
    rw [p2] at n2
    rw [n2] at i2
    simp only [List.append_assoc]
    exact i2.symm
  · cases h
end Go.Proofs.Ytaijciijfofbmaa.Sep
