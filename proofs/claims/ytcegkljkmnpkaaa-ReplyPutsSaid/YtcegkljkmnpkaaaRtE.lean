/- Reading answers: plain; what is written is read, what is read had been written. Printed by gen13.py. Conditions: the bounds of the statements. · The walks of the parts of reply.Of: an entry, a change, a side, a clash, a ref. Printed by gen14.py. Conditions: the bounds of the statements. · The walks of reader.commit and of reply.listed. Printed by gen15.py. Conditions: the bounds of the statements. · The walk of reply.Of. Printed by gen16.py. Conditions: the bounds of the statements. · Answers told of their bytes: plain: an answer that is small is read as it is; what is read is in its ranges. Conditions: the bounds of the statements. -/
import Derived.Test.YtcegkljkmnpkaaaRqA
import Derived.Test.YtcegkljkmnpkaaaReader2
import Derived.Test.YtcegkljkmnpkaaaRqB
import Derived.Deep.RegionLaw
import Derived.Test.YtcegkljkmnpkaaaRtD
namespace Go.Proofs.Ytcegkljkmnpkaaa.Sep
set_option linter.unusedSimpArgs false
set_option linter.unusedVariables false
open Go.RowKit Go.Proofs.Ytcegkljkmnpkaaa.PCore Go.Proofs.Ytcegkljkmnpkaaa.Plain Go.Proofs.YtcegkljkmnpkaaaW.PrintWords Go.Proofs.YtcegkljkmnpkaaaW.PrintLast Go.Proofs.YtcegkljkmnpkaaaW.PrintMore
abbrev M64 : Int := 18446744073709551615
abbrev LT : Int := 131072
abbrev MO : Int := 16384
abbrev E31 : Int := 2147483647
/-- One reading behind another one. -/
def seqR {α β : Type} (f : RS → α × RS) (g : α → RS → β × RS) (s : RS) : β × RS := g (f s).1 (f s).2
def rdMany {α : Type} (f : RS → α × RS) : Nat → RS → List α × RS
  | 0, s => ([], s)
  | n + 1, s => ((f s).1 :: (rdMany f n (f s).2).1, (rdMany f n (f s).2).2)
theorem many_snoc {α : Type} (f : RS → α × RS) (j : Nat) (s s0 : RS) (xs : List α) (N : Nat) (h : rdMany f N s0 = (xs ++ (rdMany f (j + 1) s).1, (rdMany f (j + 1) s).2)) : rdMany f N s0 = ((xs ++ [(f s).1]) ++ (rdMany f j (f s).2).1, (rdMany f j (f s).2).2) := by
  rw [h, rdMany]
  simp
theorem many_bad {α : Type} (f : RS → α × RS) (hf : ∀ s, s.2 = true → (f s).2.2 = true) : ∀ (n : Nat) (s : RS), s.2 = true → (rdMany f n s).2.2 = true
  | 0, _, h => h
  | n + 1, s, h => many_bad f hf n _ (hf s h)
/-- A row behind its number. -/
def rdLs {α : Type} (f : RS → α × RS) : RS → List α × RS := seqR (rdNum MO) fun n => rdMany f n.toNat
theorem ls_bad {α : Type} (f : RS → α × RS) (hf : ∀ s, s.2 = true → (f s).2.2 = true) (s : RS) (h : s.2 = true) : (rdLs f s).2.2 = true := many_bad f hf _ _ (rdNum_bad h)
def rdE : RS → Entry × RS := seqR (rdText LT) fun a => seqR (rdText LT) fun b s => (⟨a, b⟩, s)
theorem rdE_bad (s : RS) (h : s.2 = true) : (rdE s).2.2 = true := by
  obtain ⟨a, s1, h1⟩ : ∃ x t, rdText LT s = (x, t) := ⟨_, _, rfl⟩
  obtain ⟨b, s2, h2⟩ : ∃ x t, rdText LT s1 = (x, t) := ⟨_, _, rfl⟩
  have hE : rdE s = (⟨a, b⟩, s2) := by simp only [rdE, seqR, h1, h2]
  rw [hE]
  have B1 : s1.2 = true := by have hz := (show (rdText LT s).2.2 = true from rdText_bad h); rw [h1] at hz; exact hz
  have B2 : s2.2 = true := by have hz := (show (rdText LT s1).2.2 = true from rdText_bad B1); rw [h2] at hz; exact hz
  exact B2
def rdCh : RS → Change × RS := seqR (rdText LT) fun a => seqR (rdFlag) fun b => seqR (rdText LT) fun c => seqR (rdFlag) fun d => seqR (rdText LT) fun e s => (⟨a, b, c, d, e⟩, s)
theorem rdCh_bad (s : RS) (h : s.2 = true) : (rdCh s).2.2 = true := by
  obtain ⟨a, s1, h1⟩ : ∃ x t, rdText LT s = (x, t) := ⟨_, _, rfl⟩
  obtain ⟨b, s2, h2⟩ : ∃ x t, rdFlag s1 = (x, t) := ⟨_, _, rfl⟩
  obtain ⟨c, s3, h3⟩ : ∃ x t, rdText LT s2 = (x, t) := ⟨_, _, rfl⟩
  obtain ⟨d, s4, h4⟩ : ∃ x t, rdFlag s3 = (x, t) := ⟨_, _, rfl⟩
  obtain ⟨e, s5, h5⟩ : ∃ x t, rdText LT s4 = (x, t) := ⟨_, _, rfl⟩
  have hE : rdCh s = (⟨a, b, c, d, e⟩, s5) := by simp only [rdCh, seqR, h1, h2, h3, h4, h5]
  rw [hE]
  have B1 : s1.2 = true := by have hz := (show (rdText LT s).2.2 = true from rdText_bad h); rw [h1] at hz; exact hz
  have B2 : s2.2 = true := by have hz := (show (rdFlag s1).2.2 = true from rdFlag_bad B1); rw [h2] at hz; exact hz
  have B3 : s3.2 = true := by have hz := (show (rdText LT s2).2.2 = true from rdText_bad B2); rw [h3] at hz; exact hz
  have B4 : s4.2 = true := by have hz := (show (rdFlag s3).2.2 = true from rdFlag_bad B3); rw [h4] at hz; exact hz
  have B5 : s5.2 = true := by have hz := (show (rdText LT s4).2.2 = true from rdText_bad B4); rw [h5] at hz; exact hz
  exact B5
def rdSd : RS → Side × RS := seqR (rdFlag) fun a => seqR (rdText LT) fun b s => (⟨a, b⟩, s)
theorem rdSd_bad (s : RS) (h : s.2 = true) : (rdSd s).2.2 = true := by
  obtain ⟨a, s1, h1⟩ : ∃ x t, rdFlag s = (x, t) := ⟨_, _, rfl⟩
  obtain ⟨b, s2, h2⟩ : ∃ x t, rdText LT s1 = (x, t) := ⟨_, _, rfl⟩
  have hE : rdSd s = (⟨a, b⟩, s2) := by simp only [rdSd, seqR, h1, h2]
  rw [hE]
  have B1 : s1.2 = true := by have hz := (show (rdFlag s).2.2 = true from rdFlag_bad h); rw [h1] at hz; exact hz
  have B2 : s2.2 = true := by have hz := (show (rdText LT s1).2.2 = true from rdText_bad B1); rw [h2] at hz; exact hz
  exact B2
def rdCl : RS → Clash × RS := seqR (rdText LT) fun a => seqR (rdSd) fun b => seqR (rdSd) fun c => seqR (rdSd) fun d s => (⟨a, b, c, d⟩, s)
theorem rdCl_bad (s : RS) (h : s.2 = true) : (rdCl s).2.2 = true := by
  obtain ⟨a, s1, h1⟩ : ∃ x t, rdText LT s = (x, t) := ⟨_, _, rfl⟩
  obtain ⟨b, s2, h2⟩ : ∃ x t, rdSd s1 = (x, t) := ⟨_, _, rfl⟩
  obtain ⟨c, s3, h3⟩ : ∃ x t, rdSd s2 = (x, t) := ⟨_, _, rfl⟩
  obtain ⟨d, s4, h4⟩ : ∃ x t, rdSd s3 = (x, t) := ⟨_, _, rfl⟩
  have hE : rdCl s = (⟨a, b, c, d⟩, s4) := by simp only [rdCl, seqR, h1, h2, h3, h4]
  rw [hE]
  have B1 : s1.2 = true := by have hz := (show (rdText LT s).2.2 = true from rdText_bad h); rw [h1] at hz; exact hz
  have B2 : s2.2 = true := by have hz := (show (rdSd s1).2.2 = true from rdSd_bad _ B1); rw [h2] at hz; exact hz
  have B3 : s3.2 = true := by have hz := (show (rdSd s2).2.2 = true from rdSd_bad _ B2); rw [h3] at hz; exact hz
  have B4 : s4.2 = true := by have hz := (show (rdSd s3).2.2 = true from rdSd_bad _ B3); rw [h4] at hz; exact hz
  exact B4
def rdRf : RS → Ref × RS := seqR (rdText LT) fun a => seqR (rdFlag) fun b => seqR (rdNum M64) fun c s => (⟨a, b, c⟩, s)
theorem rdRf_bad (s : RS) (h : s.2 = true) : (rdRf s).2.2 = true := by
  obtain ⟨a, s1, h1⟩ : ∃ x t, rdText LT s = (x, t) := ⟨_, _, rfl⟩
  obtain ⟨b, s2, h2⟩ : ∃ x t, rdFlag s1 = (x, t) := ⟨_, _, rfl⟩
  obtain ⟨c, s3, h3⟩ : ∃ x t, rdNum M64 s2 = (x, t) := ⟨_, _, rfl⟩
  have hE : rdRf s = (⟨a, b, c⟩, s3) := by simp only [rdRf, seqR, h1, h2, h3]
  rw [hE]
  have B1 : s1.2 = true := by have hz := (show (rdText LT s).2.2 = true from rdText_bad h); rw [h1] at hz; exact hz
  have B2 : s2.2 = true := by have hz := (show (rdFlag s1).2.2 = true from rdFlag_bad B1); rw [h2] at hz; exact hz
  have B3 : s3.2 = true := by have hz := (show (rdNum M64 s2).2.2 = true from rdNum_bad B2); rw [h3] at hz; exact hz
  exact B3
def rdCo : RS → Com × RS := seqR (rdNum M64) fun a => seqR (rdLs (rdNum M64)) fun p => seqR (rdNum M64) fun c => seqR (rdNum M64) fun d => seqR (rdText LT) fun e s => (⟨a, p, c, d, e⟩, s)
theorem rdCo_bad (s : RS) (h : s.2 = true) : (rdCo s).2.2 = true := by
  obtain ⟨a, s1, h1⟩ : ∃ x t, rdNum M64 s = (x, t) := ⟨_, _, rfl⟩
  obtain ⟨p, s2, h2⟩ : ∃ x t, rdLs (rdNum M64) s1 = (x, t) := ⟨_, _, rfl⟩
  obtain ⟨c, s3, h3⟩ : ∃ x t, rdNum M64 s2 = (x, t) := ⟨_, _, rfl⟩
  obtain ⟨d, s4, h4⟩ : ∃ x t, rdNum M64 s3 = (x, t) := ⟨_, _, rfl⟩
  obtain ⟨e, s5, h5⟩ : ∃ x t, rdText LT s4 = (x, t) := ⟨_, _, rfl⟩
  have hE : rdCo s = (⟨a, p, c, d, e⟩, s5) := by simp only [rdCo, seqR, h1, h2, h3, h4, h5]
  rw [hE]
  have B1 : s1.2 = true := by have hz := (show (rdNum M64 s).2.2 = true from rdNum_bad h); rw [h1] at hz; exact hz
  have B2 : s2.2 = true := by have hz := (show (rdLs (rdNum M64) s1).2.2 = true from ls_bad (rdNum M64) (fun s h => rdNum_bad h) _ B1); rw [h2] at hz; exact hz
  have B3 : s3.2 = true := by have hz := (show (rdNum M64 s2).2.2 = true from rdNum_bad B2); rw [h3] at hz; exact hz
  have B4 : s4.2 = true := by have hz := (show (rdNum M64 s3).2.2 = true from rdNum_bad B3); rw [h4] at hz; exact hz
  have B5 : s5.2 = true := by have hz := (show (rdText LT s4).2.2 = true from rdText_bad B4); rw [h5] at hz; exact hz
  exact B5
def rdRp : RS → Rp × RS := seqR (rdNum E31) fun e => seqR (rdFlag) fun i => seqR (rdText LT) fun v => seqR (rdNum M64) fun k => seqR (rdNum M64) fun u => seqR (rdLs rdE) fun l1 => seqR (rdLs rdCh) fun l2 => seqR (rdLs rdCl) fun l3 => seqR (rdLs rdCo) fun l4 => seqR (rdLs rdRf) fun l5 s => (⟨e, i, v, k, zag u, l1, l2, l3, l4, l5⟩, s)
end Go.Proofs.Ytcegkljkmnpkaaa.Sep
namespace Go.Proofs.Ytcegkljkmnpkaaa.Sep
set_option linter.unusedSimpArgs false
set_option linter.unusedVariables false
open Go.RowKit Go.Proofs.Ytcegkljkmnpkaaa.PCore Go.Proofs.Ytcegkljkmnpkaaa.Plain Go.Proofs.YtcegkljkmnpkaaaW.PrintWords Go.Proofs.YtcegkljkmnpkaaaW.PrintLast Go.Proofs.YtcegkljkmnpkaaaW.PrintMore
theorem Fr.setNew {B : Nat} {T : List Nat} {W W1 : World} (h : Fr B T W W1) {p : Addr} (hg : W.heap.size ≤ p.block) (u : Value) : Fr B T W (W1.setCell p u) :=
  ⟨h.os, h.tape, h.output, by simpa [World.setCell] using h.size, fun k hk hT => by
    rw [Below.heap_setCell _ _ _ _ (show k ≠ p.block by omega)]
    exact h.block k hk hT⟩
theorem rd_set {T B g gy t : Nat} {w : World} {s : RS} {cs : Array Value} (h : RdAt T B g w s) (hy : w.heap[gy]? = some (.cells cs t (0, 0))) (ht : T ≠ t ∧ 5 ≠ t) (hB : B ≤ gy) (j : Nat) (u : Value) : RdAt T B g (w.setCell ⟨gy, j, none⟩ u) s :=
  h.fr ((Fr.refl B [t] w).set hy hB (by simp) j u) (by simpa using ht)
theorem blk_other {w : World} {g : Nat} {o : Obj} (h : w.heap[g]? = some o) (p : Addr) (hne : g ≠ p.block) (u : Value) : (w.setCell p u).heap[g]? = some o := by rw [Below.heap_setCell _ _ _ _ hne]; exact h
theorem one_cell {w : World} {g t : Nat} {a : Value} (h : w.heap[g]? = some (.cells #[a] t (0, 0))) : w.cell? ⟨g, 0, none⟩ = some a := (blk_cell h 0).trans rfl
/-- Reading through the reply's reader: where its pointer and its bytes stand. -/
structure RrAt (B gX g : Nat) (w : World) (s : RS) : Prop where
  hX : w.heap[gX]? = some (.cells #[.pointer (some ⟨g, 0, none⟩)] 70 (0, 0))
  rd : RdAt 127 B g w s
theorem RrAt.fr {B gX g : Nat} {w w1 : World} {s s' : RS} (h : RrAt B gX g w s) (hr : RdAt 127 B g w1 s') (hf : Fr B [127] w w1) : RrAt B gX g w1 s' := ⟨hf.blk h.hX (by decide), hr⟩
theorem RrAt.below {B gX g : Nat} {w w1 : World} {s : RS} (h : RrAt B gX g w s) (hb : Below w.heap.size w w1) : RrAt B gX g w1 s := ⟨blk_below h.hX hb, h.rd.below hb⟩
theorem RrAt.set {B gX g gy t : Nat} {w : World} {s : RS} {cs : Array Value} (h : RrAt B gX g w s) (hy : w.heap[gy]? = some (.cells cs t (0, 0))) (ht : 127 ≠ t ∧ 5 ≠ t) (hB : B ≤ gy) (hne : gX ≠ gy) (j : Nat) (u : Value) : RrAt B gX g (w.setCell ⟨gy, j, none⟩ u) s := ⟨blk_other h.hX _ hne _, rd_set h.rd hy ht hB j u⟩
theorem set2_new {B n t : Nat} {T : List Nat} {W w : World} {a0 a1 : Value} (hk : w.heap[n]? = some (.cells #[a0, a1] t (0, 0))) (hf : Fr B T W w) (hn : W.heap.size ≤ n) (v0 v1 : Value) :
    ((w.setCell ⟨n, 0, none⟩ v0).setCell ⟨n, 1, none⟩ v1).heap[n]? = some (.cells #[v0, v1] t (0, 0)) ∧ Fr B T W ((w.setCell ⟨n, 0, none⟩ v0).setCell ⟨n, 1, none⟩ v1) := by
  have h0 := blk_set hk 0 v0
  have h1 := blk_set h0 1 v1
  exact ⟨by simpa using h1, ((hf.setNew (p := ⟨n, 0, none⟩) hn v0).setNew (p := ⟨n, 1, none⟩) hn v1)⟩
theorem set3_new {B n t : Nat} {T : List Nat} {W w : World} {a0 a1 a2 : Value} (hk : w.heap[n]? = some (.cells #[a0, a1, a2] t (0, 0))) (hf : Fr B T W w) (hn : W.heap.size ≤ n) (v0 v1 v2 : Value) :
    (((w.setCell ⟨n, 0, none⟩ v0).setCell ⟨n, 1, none⟩ v1).setCell ⟨n, 2, none⟩ v2).heap[n]? = some (.cells #[v0, v1, v2] t (0, 0)) ∧ Fr B T W (((w.setCell ⟨n, 0, none⟩ v0).setCell ⟨n, 1, none⟩ v1).setCell ⟨n, 2, none⟩ v2) := by
  have h0 := blk_set hk 0 v0
  have h1 := blk_set h0 1 v1
  have h2 := blk_set h1 2 v2
  exact ⟨by simpa using h2, (((hf.setNew (p := ⟨n, 0, none⟩) hn v0).setNew (p := ⟨n, 1, none⟩) hn v1).setNew (p := ⟨n, 2, none⟩) hn v2)⟩
theorem set5_new {B n t : Nat} {T : List Nat} {W w : World} {a0 a1 a2 a3 a4 : Value} (hk : w.heap[n]? = some (.cells #[a0, a1, a2, a3, a4] t (0, 0))) (hf : Fr B T W w) (hn : W.heap.size ≤ n) (v0 v1 v2 v3 v4 : Value) :
    (((((w.setCell ⟨n, 0, none⟩ v0).setCell ⟨n, 1, none⟩ v1).setCell ⟨n, 2, none⟩ v2).setCell ⟨n, 3, none⟩ v3).setCell ⟨n, 4, none⟩ v4).heap[n]? = some (.cells #[v0, v1, v2, v3, v4] t (0, 0)) ∧ Fr B T W (((((w.setCell ⟨n, 0, none⟩ v0).setCell ⟨n, 1, none⟩ v1).setCell ⟨n, 2, none⟩ v2).setCell ⟨n, 3, none⟩ v3).setCell ⟨n, 4, none⟩ v4) := by
  have h0 := blk_set hk 0 v0
  have h1 := blk_set h0 1 v1
  have h2 := blk_set h1 2 v2
  have h3 := blk_set h2 3 v3
  have h4 := blk_set h3 4 v4
  exact ⟨by simpa using h4, (((((hf.setNew (p := ⟨n, 0, none⟩) hn v0).setNew (p := ⟨n, 1, none⟩) hn v1).setNew (p := ⟨n, 2, none⟩) hn v2).setNew (p := ⟨n, 3, none⟩) hn v3).setNew (p := ⟨n, 4, none⟩) hn v4)⟩
theorem set7_new {B n t : Nat} {T : List Nat} {W w : World} {a0 a1 a2 a3 a4 a5 a6 : Value} (hk : w.heap[n]? = some (.cells #[a0, a1, a2, a3, a4, a5, a6] t (0, 0))) (hf : Fr B T W w) (hn : W.heap.size ≤ n) (v0 v1 v2 v3 v4 v5 v6 : Value) :
    (((((((w.setCell ⟨n, 0, none⟩ v0).setCell ⟨n, 1, none⟩ v1).setCell ⟨n, 2, none⟩ v2).setCell ⟨n, 3, none⟩ v3).setCell ⟨n, 4, none⟩ v4).setCell ⟨n, 5, none⟩ v5).setCell ⟨n, 6, none⟩ v6).heap[n]? = some (.cells #[v0, v1, v2, v3, v4, v5, v6] t (0, 0)) ∧ Fr B T W (((((((w.setCell ⟨n, 0, none⟩ v0).setCell ⟨n, 1, none⟩ v1).setCell ⟨n, 2, none⟩ v2).setCell ⟨n, 3, none⟩ v3).setCell ⟨n, 4, none⟩ v4).setCell ⟨n, 5, none⟩ v5).setCell ⟨n, 6, none⟩ v6) := by
  have h0 := blk_set hk 0 v0
  have h1 := blk_set h0 1 v1
  have h2 := blk_set h1 2 v2
  have h3 := blk_set h2 3 v3
  have h4 := blk_set h3 4 v4
  have h5 := blk_set h4 5 v5
  have h6 := blk_set h5 6 v6
  exact ⟨by simpa using h6, (((((((hf.setNew (p := ⟨n, 0, none⟩) hn v0).setNew (p := ⟨n, 1, none⟩) hn v1).setNew (p := ⟨n, 2, none⟩) hn v2).setNew (p := ⟨n, 3, none⟩) hn v3).setNew (p := ⟨n, 4, none⟩) hn v4).setNew (p := ⟨n, 5, none⟩) hn v5).setNew (p := ⟨n, 6, none⟩) hn v6)⟩
set_option maxHeartbeats 16000000 in
set_option maxRecDepth 100000 in
theorem rr_entry (B gX g : Nat) (s : RS) (W : World) (h : RrAt B gX g W s) :
    Calls Try.prog 37 #[.pointer (some ⟨gX, 0, none⟩)] W fun e W1 => e = .returned (.agg #[.string (rdE s).1.f0, .string (rdE s).1.f1]) ∧ RrAt B gX g W1 (rdE s).2 ∧ Fr B [127] W W1 := by
  have huT := Try.underlying53
  have huX := Try.underlying70
  obtain ⟨a, s1, h1⟩ : ∃ x t, rdText LT s = (x, t) := ⟨_, _, rfl⟩
  have HS1 := Aside0.mk h1
  obtain ⟨b, s2, h2⟩ : ∃ x t, rdText LT s1 = (x, t) := ⟨_, _, rfl⟩
  have HS2 := Aside0.mk h2
  have HE := Aside0.mk (show rdE s = (⟨a, b⟩, s2) by simp only [rdE, seqR, h1, h2])
  clear h1 h2
  have HR0 := Aside0.mk (h.below (below_alloc (Below.refl W.heap.size W) (.cells #[.string ⟨#[]⟩, .string ⟨#[]⟩] 53)))
  have HQ0 := Aside0.mk (blk_new W (.cells #[.string ⟨#[]⟩, .string ⟨#[]⟩] 53))
  have HF0 := Aside0.mk ((Fr.refl B [127] W).allocs (.cells #[.string ⟨#[]⟩, .string ⟨#[]⟩] 53))
  have HGX := Aside0.mk (blk_lt h.hX)
  have HBW := Aside0.mk h.rd.lt
  clear h
  go_enter Try.func37, Try.ntmps37
  go_upto_region 1 with (fail)
  generalize W.alloc (.cells #[.string ⟨#[]⟩, .string ⟨#[]⟩] 53) = w0 at HR0 HQ0 HF0 ⊢
  obtain ⟨gr, hgr⟩ : ∃ z, z = W.heap.size := ⟨_, rfl⟩
  rw [← hgr] at HQ0 ⊢
  have HGR := Aside0.mk hgr
  clear hgr
  have k0 := one_cell HR0.out.hX
  go_upto_region 2 with (go_at_call 34; refine (rd_text B g _ 131072 _ HR0.out.rd (by decide)).mono ?_; rw [HS1.out]; rintro e w1 ⟨rfl, hr, hf⟩; have HRb := Aside0.mk (HR0.out.fr hr hf); have HQb := Aside0.mk (hf.blk HQ0.out (by decide)); have HFb := Aside0.mk (HF0.out.trans hf); clear hr hf)
  have HRc := Aside0.mk (HRb.out.below (below_alloc (Below.refl w1.heap.size w1) (.cells #[.string a, .string ⟨#[]⟩] 53)))
  have HQc := Aside0.mk (blk_alloc HQb.out (.cells #[.string a, .string ⟨#[]⟩] 53))
  have HYc := Aside0.mk (blk_new w1 (.cells #[.string a, .string ⟨#[]⟩] 53))
  have HFc := Aside0.mk (HFb.out.allocs (.cells #[.string a, .string ⟨#[]⟩] 53))
  have HGY := Aside0.mk (show gr < w1.heap.size from blk_lt HQb.out)
  clear k0 HRb HQb HFb HR0 HQ0 HF0
  generalize w1.alloc (.cells #[.string a, .string ⟨#[]⟩] 53) = w2 at HRc HQc HYc HFc ⊢
  generalize w1.heap.size = gy at HYc HGY ⊢
  have HGYW := Aside0.mk (show W.heap.size ≤ gy ∧ B ≤ gy ∧ gX ≠ gy ∧ gr ≠ gy by have h1 := HGY.out; have h2 := HGR.out; have h3 := HGX.out; have h4 := HBW.out; omega)
  clear HGY
  have k0 := one_cell HRc.out.hX
  go_upto_region 3 with (go_at_call 34; refine (rd_text B g _ 131072 _ HRc.out.rd (by decide)).mono ?_; rw [HS2.out]; rintro e v2 ⟨rfl, hr, hf⟩; have HRd := Aside0.mk (HRc.out.fr hr hf); have HQd := Aside0.mk (hf.blk HQc.out (by decide)); have hyd := hf.blk HYc.out (by decide); have HYd := Aside0.mk hyd; have HFd := Aside0.mk (HFc.out.trans hf); obtain ⟨q0, q1⟩ := pair_cells hyd; have z0 := blk_frozen hyd 1; clear hr hf hyd)
  have HRe := Aside0.mk (HRd.out.set HYd.out (by decide) HGYW.out.2.1 HGYW.out.2.2.1 1 (.string b))
  have HQe := Aside0.mk (blk_other HQd.out ⟨gy, 1, none⟩ HGYW.out.2.2.2 (.string b))
  have HYe := Aside0.mk (show (v2.setCell ⟨gy, 1, none⟩ (.string b)).heap[gy]? = some (.cells #[.string a, .string b] 53 (0, 0)) from (blk_set HYd.out 1 (.string b)).trans rfl)
  have HFe := Aside0.mk (HFd.out.setNew (p := ⟨gy, 1, none⟩) HGYW.out.1 (.string b))
  clear k0 HRc HQc HYc HFc HRd HQd HYd HFd q0 q1 z0
  generalize (v2.setCell ⟨gy, 1, none⟩ (.string b)) = u2 at HRe HQe HYe HFe ⊢
  have HRc := HRe
  have HQc := HQe
  have HYc := HYe
  have HFc := HFe
  clear HRe HQe HYe HFe
  obtain ⟨y0, y1⟩ := pair_cells HYc.out
  obtain ⟨r0, r1⟩ := pair_cells HQc.out
  have zr := fun j => blk_frozen HQc.out j
  obtain ⟨hk, hf⟩ := set2_new HQc.out HFc.out (Nat.le_of_eq HGR.out.symm) (.string a) (.string b)
  have HKe := Aside0.mk hk
  have HFe := Aside0.mk hf
  have HRe := Aside0.mk (((((HRc.out).set (HQc.out) (by decide) (show B ≤ gr by have h1 := HGR.out; have h2 := HBW.out; omega) (show gX ≠ gr by have h1 := HGR.out; have h2 := HGX.out; omega) 0 (.string a))).set (blk_set (HQc.out) 0 (.string a)) (by decide) (show B ≤ gr by have h1 := HGR.out; have h2 := HBW.out; omega) (show gX ≠ gr by have h1 := HGR.out; have h2 := HGX.out; omega) 1 (.string b)))
  clear hk hf
  go_wp2
  generalize (World.setCell (World.setCell u2 ⟨gr, 0, none⟩ (.string a)) ⟨gr, 1, none⟩ (.string b)) = wz at HKe HFe HRe ⊢
  refine bodyPost_ret (results_cell_row rfl _ _ gr 53 #[.string a, .string b] (0, 0) _ rfl HKe.out huT rfl (by kernel_rfl)) rfl ?_
  rw [HE.out]
  exact ⟨rfl, HRe.out, HFe.out⟩
set_option maxHeartbeats 16000000 in
set_option maxRecDepth 100000 in
theorem rr_change (B gX g : Nat) (s : RS) (W : World) (h : RrAt B gX g W s) :
    Calls Try.prog 39 #[.pointer (some ⟨gX, 0, none⟩)] W fun e W1 => e = .returned (.agg #[.string (rdCh s).1.f0, .bool (rdCh s).1.f1, .string (rdCh s).1.f2, .bool (rdCh s).1.f3, .string (rdCh s).1.f4]) ∧ RrAt B gX g W1 (rdCh s).2 ∧ Fr B [127] W W1 := by
  have huT := Try.underlying47
  have huX := Try.underlying70
  obtain ⟨a, s1, h1⟩ : ∃ x t, rdText LT s = (x, t) := ⟨_, _, rfl⟩
  have HS1 := Aside0.mk h1
  obtain ⟨b, s2, h2⟩ : ∃ x t, rdFlag s1 = (x, t) := ⟨_, _, rfl⟩
  have HS2 := Aside0.mk h2
  obtain ⟨c, s3, h3⟩ : ∃ x t, rdText LT s2 = (x, t) := ⟨_, _, rfl⟩
  have HS3 := Aside0.mk h3
  obtain ⟨d, s4, h4⟩ : ∃ x t, rdFlag s3 = (x, t) := ⟨_, _, rfl⟩
  have HS4 := Aside0.mk h4
  obtain ⟨e, s5, h5⟩ : ∃ x t, rdText LT s4 = (x, t) := ⟨_, _, rfl⟩
  have HS5 := Aside0.mk h5
  have HE := Aside0.mk (show rdCh s = (⟨a, b, c, d, e⟩, s5) by simp only [rdCh, seqR, h1, h2, h3, h4, h5])
  clear h1 h2 h3 h4 h5
  have HR0 := Aside0.mk (h.below (below_alloc (Below.refl W.heap.size W) (.cells #[.string ⟨#[]⟩, .bool false, .string ⟨#[]⟩, .bool false, .string ⟨#[]⟩] 47)))
  have HQ0 := Aside0.mk (blk_new W (.cells #[.string ⟨#[]⟩, .bool false, .string ⟨#[]⟩, .bool false, .string ⟨#[]⟩] 47))
  have HF0 := Aside0.mk ((Fr.refl B [127] W).allocs (.cells #[.string ⟨#[]⟩, .bool false, .string ⟨#[]⟩, .bool false, .string ⟨#[]⟩] 47))
  have HGX := Aside0.mk (blk_lt h.hX)
  have HBW := Aside0.mk h.rd.lt
  clear h
  go_enter Try.func39, Try.ntmps39
  go_upto_region 1 with (fail)
  generalize W.alloc (.cells #[.string ⟨#[]⟩, .bool false, .string ⟨#[]⟩, .bool false, .string ⟨#[]⟩] 47) = w0 at HR0 HQ0 HF0 ⊢
  obtain ⟨gr, hgr⟩ : ∃ z, z = W.heap.size := ⟨_, rfl⟩
  rw [← hgr] at HQ0 ⊢
  have HGR := Aside0.mk hgr
  clear hgr
  have k0 := one_cell HR0.out.hX
  go_upto_region 2 with (go_at_call 34; refine (rd_text B g _ 131072 _ HR0.out.rd (by decide)).mono ?_; rw [HS1.out]; rintro e w1 ⟨rfl, hr, hf⟩; have HRb := Aside0.mk (HR0.out.fr hr hf); have HQb := Aside0.mk (hf.blk HQ0.out (by decide)); have HFb := Aside0.mk (HF0.out.trans hf); clear hr hf)
  have HRc := Aside0.mk (HRb.out.below (below_alloc (Below.refl w1.heap.size w1) (.cells #[.string a, .bool false, .string ⟨#[]⟩, .bool false, .string ⟨#[]⟩] 47)))
  have HQc := Aside0.mk (blk_alloc HQb.out (.cells #[.string a, .bool false, .string ⟨#[]⟩, .bool false, .string ⟨#[]⟩] 47))
  have HYc := Aside0.mk (blk_new w1 (.cells #[.string a, .bool false, .string ⟨#[]⟩, .bool false, .string ⟨#[]⟩] 47))
  have HFc := Aside0.mk (HFb.out.allocs (.cells #[.string a, .bool false, .string ⟨#[]⟩, .bool false, .string ⟨#[]⟩] 47))
  have HGY := Aside0.mk (show gr < w1.heap.size from blk_lt HQb.out)
  clear k0 HRb HQb HFb HR0 HQ0 HF0
  generalize w1.alloc (.cells #[.string a, .bool false, .string ⟨#[]⟩, .bool false, .string ⟨#[]⟩] 47) = w2 at HRc HQc HYc HFc ⊢
  generalize w1.heap.size = gy at HYc HGY ⊢
  have HGYW := Aside0.mk (show W.heap.size ≤ gy ∧ B ≤ gy ∧ gX ≠ gy ∧ gr ≠ gy by have h1 := HGY.out; have h2 := HGR.out; have h3 := HGX.out; have h4 := HBW.out; omega)
  clear HGY
  have k0 := one_cell HRc.out.hX
  go_upto_region 3 with (go_at_call 33; refine (rd_flag B g _ _ HRc.out.rd).mono ?_; rw [HS2.out]; rintro e v2 ⟨rfl, hr, hf⟩; have HRd := Aside0.mk (HRc.out.fr hr hf); have HQd := Aside0.mk (hf.blk HQc.out (by decide)); have hyd := hf.blk HYc.out (by decide); have HYd := Aside0.mk hyd; have HFd := Aside0.mk (HFc.out.trans hf); obtain ⟨q0, q1, q2, q3, q4⟩ := five_cells hyd; have z0 := blk_frozen hyd 1; clear hr hf hyd)
  have HRe := Aside0.mk (HRd.out.set HYd.out (by decide) HGYW.out.2.1 HGYW.out.2.2.1 1 (.bool b))
  have HQe := Aside0.mk (blk_other HQd.out ⟨gy, 1, none⟩ HGYW.out.2.2.2 (.bool b))
  have HYe := Aside0.mk (show (v2.setCell ⟨gy, 1, none⟩ (.bool b)).heap[gy]? = some (.cells #[.string a, .bool b, .string ⟨#[]⟩, .bool false, .string ⟨#[]⟩] 47 (0, 0)) from (blk_set HYd.out 1 (.bool b)).trans rfl)
  have HFe := Aside0.mk (HFd.out.setNew (p := ⟨gy, 1, none⟩) HGYW.out.1 (.bool b))
  clear k0 HRc HQc HYc HFc HRd HQd HYd HFd q0 q1 q2 q3 q4 z0
  generalize (v2.setCell ⟨gy, 1, none⟩ (.bool b)) = u2 at HRe HQe HYe HFe ⊢
  have HRc := HRe
  have HQc := HQe
  have HYc := HYe
  have HFc := HFe
  clear HRe HQe HYe HFe
  have k0 := one_cell HRc.out.hX
  go_upto_region 4 with (go_at_call 34; refine (rd_text B g _ 131072 _ HRc.out.rd (by decide)).mono ?_; rw [HS3.out]; rintro e v3 ⟨rfl, hr, hf⟩; have HRd := Aside0.mk (HRc.out.fr hr hf); have HQd := Aside0.mk (hf.blk HQc.out (by decide)); have hyd := hf.blk HYc.out (by decide); have HYd := Aside0.mk hyd; have HFd := Aside0.mk (HFc.out.trans hf); obtain ⟨q0, q1, q2, q3, q4⟩ := five_cells hyd; have z0 := blk_frozen hyd 2; clear hr hf hyd)
  have HRe := Aside0.mk (HRd.out.set HYd.out (by decide) HGYW.out.2.1 HGYW.out.2.2.1 2 (.string c))
  have HQe := Aside0.mk (blk_other HQd.out ⟨gy, 2, none⟩ HGYW.out.2.2.2 (.string c))
  have HYe := Aside0.mk (show (v3.setCell ⟨gy, 2, none⟩ (.string c)).heap[gy]? = some (.cells #[.string a, .bool b, .string c, .bool false, .string ⟨#[]⟩] 47 (0, 0)) from (blk_set HYd.out 2 (.string c)).trans rfl)
  have HFe := Aside0.mk (HFd.out.setNew (p := ⟨gy, 2, none⟩) HGYW.out.1 (.string c))
  clear k0 HRc HQc HYc HFc HRd HQd HYd HFd q0 q1 q2 q3 q4 z0
  generalize (v3.setCell ⟨gy, 2, none⟩ (.string c)) = u3 at HRe HQe HYe HFe ⊢
  have HRc := HRe
  have HQc := HQe
  have HYc := HYe
  have HFc := HFe
  clear HRe HQe HYe HFe
  have k0 := one_cell HRc.out.hX
  go_upto_region 5 with (go_at_call 33; refine (rd_flag B g _ _ HRc.out.rd).mono ?_; rw [HS4.out]; rintro e v4 ⟨rfl, hr, hf⟩; have HRd := Aside0.mk (HRc.out.fr hr hf); have HQd := Aside0.mk (hf.blk HQc.out (by decide)); have hyd := hf.blk HYc.out (by decide); have HYd := Aside0.mk hyd; have HFd := Aside0.mk (HFc.out.trans hf); obtain ⟨q0, q1, q2, q3, q4⟩ := five_cells hyd; have z0 := blk_frozen hyd 3; clear hr hf hyd)
  have HRe := Aside0.mk (HRd.out.set HYd.out (by decide) HGYW.out.2.1 HGYW.out.2.2.1 3 (.bool d))
  have HQe := Aside0.mk (blk_other HQd.out ⟨gy, 3, none⟩ HGYW.out.2.2.2 (.bool d))
  have HYe := Aside0.mk (show (v4.setCell ⟨gy, 3, none⟩ (.bool d)).heap[gy]? = some (.cells #[.string a, .bool b, .string c, .bool d, .string ⟨#[]⟩] 47 (0, 0)) from (blk_set HYd.out 3 (.bool d)).trans rfl)
  have HFe := Aside0.mk (HFd.out.setNew (p := ⟨gy, 3, none⟩) HGYW.out.1 (.bool d))
  clear k0 HRc HQc HYc HFc HRd HQd HYd HFd q0 q1 q2 q3 q4 z0
  generalize (v4.setCell ⟨gy, 3, none⟩ (.bool d)) = u4 at HRe HQe HYe HFe ⊢
  have HRc := HRe
  have HQc := HQe
  have HYc := HYe
  have HFc := HFe
  clear HRe HQe HYe HFe
  have k0 := one_cell HRc.out.hX
  go_upto_region 6 with (go_at_call 34; refine (rd_text B g _ 131072 _ HRc.out.rd (by decide)).mono ?_; rw [HS5.out]; rintro e v5 ⟨rfl, hr, hf⟩; have HRd := Aside0.mk (HRc.out.fr hr hf); have HQd := Aside0.mk (hf.blk HQc.out (by decide)); have hyd := hf.blk HYc.out (by decide); have HYd := Aside0.mk hyd; have HFd := Aside0.mk (HFc.out.trans hf); obtain ⟨q0, q1, q2, q3, q4⟩ := five_cells hyd; have z0 := blk_frozen hyd 4; clear hr hf hyd)
  have HRe := Aside0.mk (HRd.out.set HYd.out (by decide) HGYW.out.2.1 HGYW.out.2.2.1 4 (.string e))
  have HQe := Aside0.mk (blk_other HQd.out ⟨gy, 4, none⟩ HGYW.out.2.2.2 (.string e))
  have HYe := Aside0.mk (show (v5.setCell ⟨gy, 4, none⟩ (.string e)).heap[gy]? = some (.cells #[.string a, .bool b, .string c, .bool d, .string e] 47 (0, 0)) from (blk_set HYd.out 4 (.string e)).trans rfl)
  have HFe := Aside0.mk (HFd.out.setNew (p := ⟨gy, 4, none⟩) HGYW.out.1 (.string e))
  clear k0 HRc HQc HYc HFc HRd HQd HYd HFd q0 q1 q2 q3 q4 z0
  generalize (v5.setCell ⟨gy, 4, none⟩ (.string e)) = u5 at HRe HQe HYe HFe ⊢
  have HRc := HRe
  have HQc := HQe
  have HYc := HYe
  have HFc := HFe
  clear HRe HQe HYe HFe
  obtain ⟨y0, y1, y2, y3, y4⟩ := five_cells HYc.out
  obtain ⟨r0, r1, r2, r3, r4⟩ := five_cells HQc.out
  have zr := fun j => blk_frozen HQc.out j
  obtain ⟨hk, hf⟩ := set5_new HQc.out HFc.out (Nat.le_of_eq HGR.out.symm) (.string a) (.bool b) (.string c) (.bool d) (.string e)
  have HKe := Aside0.mk hk
  have HFe := Aside0.mk hf
  have HRe := Aside0.mk (((((((((((HRc.out).set (HQc.out) (by decide) (show B ≤ gr by have h1 := HGR.out; have h2 := HBW.out; omega) (show gX ≠ gr by have h1 := HGR.out; have h2 := HGX.out; omega) 0 (.string a))).set (blk_set (HQc.out) 0 (.string a)) (by decide) (show B ≤ gr by have h1 := HGR.out; have h2 := HBW.out; omega) (show gX ≠ gr by have h1 := HGR.out; have h2 := HGX.out; omega) 1 (.bool b))).set (blk_set (blk_set (HQc.out) 0 (.string a)) 1 (.bool b)) (by decide) (show B ≤ gr by have h1 := HGR.out; have h2 := HBW.out; omega) (show gX ≠ gr by have h1 := HGR.out; have h2 := HGX.out; omega) 2 (.string c))).set (blk_set (blk_set (blk_set (HQc.out) 0 (.string a)) 1 (.bool b)) 2 (.string c)) (by decide) (show B ≤ gr by have h1 := HGR.out; have h2 := HBW.out; omega) (show gX ≠ gr by have h1 := HGR.out; have h2 := HGX.out; omega) 3 (.bool d))).set (blk_set (blk_set (blk_set (blk_set (HQc.out) 0 (.string a)) 1 (.bool b)) 2 (.string c)) 3 (.bool d)) (by decide) (show B ≤ gr by have h1 := HGR.out; have h2 := HBW.out; omega) (show gX ≠ gr by have h1 := HGR.out; have h2 := HGX.out; omega) 4 (.string e)))
  clear hk hf
  go_wp2
  generalize (World.setCell (World.setCell (World.setCell (World.setCell (World.setCell u5 ⟨gr, 0, none⟩ (.string a)) ⟨gr, 1, none⟩ (.bool b)) ⟨gr, 2, none⟩ (.string c)) ⟨gr, 3, none⟩ (.bool d)) ⟨gr, 4, none⟩ (.string e)) = wz at HKe HFe HRe ⊢
  refine bodyPost_ret (results_cell_row rfl _ _ gr 47 #[.string a, .bool b, .string c, .bool d, .string e] (0, 0) _ rfl HKe.out huT rfl (by kernel_rfl)) rfl ?_
  rw [HE.out]
  exact ⟨rfl, HRe.out, HFe.out⟩
set_option maxHeartbeats 16000000 in
set_option maxRecDepth 100000 in
theorem rr_side (B gX g : Nat) (s : RS) (W : World) (h : RrAt B gX g W s) :
    Calls Try.prog 81 #[.pointer (some ⟨gX, 0, none⟩)] W fun e W1 => e = .returned (.agg #[.bool (rdSd s).1.f0, .string (rdSd s).1.f1]) ∧ RrAt B gX g W1 (rdSd s).2 ∧ Fr B [127] W W1 := by
  have huT := Try.underlying57
  have huX := Try.underlying70
  obtain ⟨a, s1, h1⟩ : ∃ x t, rdFlag s = (x, t) := ⟨_, _, rfl⟩
  have HS1 := Aside0.mk h1
  obtain ⟨b, s2, h2⟩ : ∃ x t, rdText LT s1 = (x, t) := ⟨_, _, rfl⟩
  have HS2 := Aside0.mk h2
  have HE := Aside0.mk (show rdSd s = (⟨a, b⟩, s2) by simp only [rdSd, seqR, h1, h2])
  clear h1 h2
  have HR0 := Aside0.mk (h.below (below_alloc (Below.refl W.heap.size W) (.cells #[.bool false, .string ⟨#[]⟩] 57)))
  have HQ0 := Aside0.mk (blk_new W (.cells #[.bool false, .string ⟨#[]⟩] 57))
  have HF0 := Aside0.mk ((Fr.refl B [127] W).allocs (.cells #[.bool false, .string ⟨#[]⟩] 57))
  have HGX := Aside0.mk (blk_lt h.hX)
  have HBW := Aside0.mk h.rd.lt
  clear h
  go_enter Try.func81, Try.ntmps81
  go_upto_region 1 with (fail)
  generalize W.alloc (.cells #[.bool false, .string ⟨#[]⟩] 57) = w0 at HR0 HQ0 HF0 ⊢
  obtain ⟨gr, hgr⟩ : ∃ z, z = W.heap.size := ⟨_, rfl⟩
  rw [← hgr] at HQ0 ⊢
  have HGR := Aside0.mk hgr
  clear hgr
  have k0 := one_cell HR0.out.hX
  go_upto_region 2 with (go_at_call 33; refine (rd_flag B g _ _ HR0.out.rd).mono ?_; rw [HS1.out]; rintro e w1 ⟨rfl, hr, hf⟩; have HRb := Aside0.mk (HR0.out.fr hr hf); have HQb := Aside0.mk (hf.blk HQ0.out (by decide)); have HFb := Aside0.mk (HF0.out.trans hf); clear hr hf)
  have HRc := Aside0.mk (HRb.out.below (below_alloc (Below.refl w1.heap.size w1) (.cells #[.bool a, .string ⟨#[]⟩] 57)))
  have HQc := Aside0.mk (blk_alloc HQb.out (.cells #[.bool a, .string ⟨#[]⟩] 57))
  have HYc := Aside0.mk (blk_new w1 (.cells #[.bool a, .string ⟨#[]⟩] 57))
  have HFc := Aside0.mk (HFb.out.allocs (.cells #[.bool a, .string ⟨#[]⟩] 57))
  have HGY := Aside0.mk (show gr < w1.heap.size from blk_lt HQb.out)
  clear k0 HRb HQb HFb HR0 HQ0 HF0
  generalize w1.alloc (.cells #[.bool a, .string ⟨#[]⟩] 57) = w2 at HRc HQc HYc HFc ⊢
  generalize w1.heap.size = gy at HYc HGY ⊢
  have HGYW := Aside0.mk (show W.heap.size ≤ gy ∧ B ≤ gy ∧ gX ≠ gy ∧ gr ≠ gy by have h1 := HGY.out; have h2 := HGR.out; have h3 := HGX.out; have h4 := HBW.out; omega)
  clear HGY
  have k0 := one_cell HRc.out.hX
  go_upto_region 3 with (go_at_call 34; refine (rd_text B g _ 131072 _ HRc.out.rd (by decide)).mono ?_; rw [HS2.out]; rintro e v2 ⟨rfl, hr, hf⟩; have HRd := Aside0.mk (HRc.out.fr hr hf); have HQd := Aside0.mk (hf.blk HQc.out (by decide)); have hyd := hf.blk HYc.out (by decide); have HYd := Aside0.mk hyd; have HFd := Aside0.mk (HFc.out.trans hf); obtain ⟨q0, q1⟩ := pair_cells hyd; have z0 := blk_frozen hyd 1; clear hr hf hyd)
  have HRe := Aside0.mk (HRd.out.set HYd.out (by decide) HGYW.out.2.1 HGYW.out.2.2.1 1 (.string b))
  have HQe := Aside0.mk (blk_other HQd.out ⟨gy, 1, none⟩ HGYW.out.2.2.2 (.string b))
  have HYe := Aside0.mk (show (v2.setCell ⟨gy, 1, none⟩ (.string b)).heap[gy]? = some (.cells #[.bool a, .string b] 57 (0, 0)) from (blk_set HYd.out 1 (.string b)).trans rfl)
  have HFe := Aside0.mk (HFd.out.setNew (p := ⟨gy, 1, none⟩) HGYW.out.1 (.string b))
  clear k0 HRc HQc HYc HFc HRd HQd HYd HFd q0 q1 z0
  generalize (v2.setCell ⟨gy, 1, none⟩ (.string b)) = u2 at HRe HQe HYe HFe ⊢
  have HRc := HRe
  have HQc := HQe
  have HYc := HYe
  have HFc := HFe
  clear HRe HQe HYe HFe
  obtain ⟨y0, y1⟩ := pair_cells HYc.out
  obtain ⟨r0, r1⟩ := pair_cells HQc.out
  have zr := fun j => blk_frozen HQc.out j
  obtain ⟨hk, hf⟩ := set2_new HQc.out HFc.out (Nat.le_of_eq HGR.out.symm) (.bool a) (.string b)
  have HKe := Aside0.mk hk
  have HFe := Aside0.mk hf
  have HRe := Aside0.mk (((((HRc.out).set (HQc.out) (by decide) (show B ≤ gr by have h1 := HGR.out; have h2 := HBW.out; omega) (show gX ≠ gr by have h1 := HGR.out; have h2 := HGX.out; omega) 0 (.bool a))).set (blk_set (HQc.out) 0 (.bool a)) (by decide) (show B ≤ gr by have h1 := HGR.out; have h2 := HBW.out; omega) (show gX ≠ gr by have h1 := HGR.out; have h2 := HGX.out; omega) 1 (.string b)))
  clear hk hf
  go_wp2
  generalize (World.setCell (World.setCell u2 ⟨gr, 0, none⟩ (.bool a)) ⟨gr, 1, none⟩ (.string b)) = wz at HKe HFe HRe ⊢
  refine bodyPost_ret (results_cell_row rfl _ _ gr 57 #[.bool a, .string b] (0, 0) _ rfl HKe.out huT rfl (by kernel_rfl)) rfl ?_
  rw [HE.out]
  exact ⟨rfl, HRe.out, HFe.out⟩
set_option maxHeartbeats 16000000 in
set_option maxRecDepth 100000 in
theorem rr_clash (B gX g : Nat) (s : RS) (W : World) (h : RrAt B gX g W s) :
    Calls Try.prog 41 #[.pointer (some ⟨gX, 0, none⟩)] W fun e W1 => e = .returned (.agg #[.string (rdCl s).1.f0, .bool (rdCl s).1.f1.f0, .string (rdCl s).1.f1.f1, .bool (rdCl s).1.f2.f0, .string (rdCl s).1.f2.f1, .bool (rdCl s).1.f3.f0, .string (rdCl s).1.f3.f1]) ∧ RrAt B gX g W1 (rdCl s).2 ∧ Fr B [127] W W1 := by
  have huT := Try.underlying59
  have huX := Try.underlying70
  have huS := Try.underlying57
  obtain ⟨a, s1, h1⟩ : ∃ x t, rdText LT s = (x, t) := ⟨_, _, rfl⟩
  have HS1 := Aside0.mk h1
  obtain ⟨b, s2, h2⟩ : ∃ x t, rdSd s1 = (x, t) := ⟨_, _, rfl⟩
  have HS2 := Aside0.mk h2
  obtain ⟨c, s3, h3⟩ : ∃ x t, rdSd s2 = (x, t) := ⟨_, _, rfl⟩
  have HS3 := Aside0.mk h3
  obtain ⟨d, s4, h4⟩ : ∃ x t, rdSd s3 = (x, t) := ⟨_, _, rfl⟩
  have HS4 := Aside0.mk h4
  have HE := Aside0.mk (show rdCl s = (⟨a, b, c, d⟩, s4) by simp only [rdCl, seqR, h1, h2, h3, h4])
  clear h1 h2 h3 h4
  have HR0 := Aside0.mk (h.below (below_alloc (Below.refl W.heap.size W) (.cells #[.string ⟨#[]⟩, .bool false, .string ⟨#[]⟩, .bool false, .string ⟨#[]⟩, .bool false, .string ⟨#[]⟩] 59)))
  have HQ0 := Aside0.mk (blk_new W (.cells #[.string ⟨#[]⟩, .bool false, .string ⟨#[]⟩, .bool false, .string ⟨#[]⟩, .bool false, .string ⟨#[]⟩] 59))
  have HF0 := Aside0.mk ((Fr.refl B [127] W).allocs (.cells #[.string ⟨#[]⟩, .bool false, .string ⟨#[]⟩, .bool false, .string ⟨#[]⟩, .bool false, .string ⟨#[]⟩] 59))
  have HGX := Aside0.mk (blk_lt h.hX)
  have HBW := Aside0.mk h.rd.lt
  clear h
  go_enter Try.func41, Try.ntmps41
  go_upto_region 1 with (fail)
  generalize W.alloc (.cells #[.string ⟨#[]⟩, .bool false, .string ⟨#[]⟩, .bool false, .string ⟨#[]⟩, .bool false, .string ⟨#[]⟩] 59) = w0 at HR0 HQ0 HF0 ⊢
  obtain ⟨gr, hgr⟩ : ∃ z, z = W.heap.size := ⟨_, rfl⟩
  rw [← hgr] at HQ0 ⊢
  have HGR := Aside0.mk hgr
  clear hgr
  have k0 := one_cell HR0.out.hX
  go_upto_region 2 with (go_at_call 34; refine (rd_text B g _ 131072 _ HR0.out.rd (by decide)).mono ?_; rw [HS1.out]; rintro e w1 ⟨rfl, hr, hf⟩; have HRb := Aside0.mk (HR0.out.fr hr hf); have HQb := Aside0.mk (hf.blk HQ0.out (by decide)); have HFb := Aside0.mk (HF0.out.trans hf); clear hr hf)
  have HRc := Aside0.mk (HRb.out.below (below_alloc (Below.refl w1.heap.size w1) (.cells #[.string a, .bool false, .string ⟨#[]⟩, .bool false, .string ⟨#[]⟩, .bool false, .string ⟨#[]⟩] 59)))
  have HQc := Aside0.mk (blk_alloc HQb.out (.cells #[.string a, .bool false, .string ⟨#[]⟩, .bool false, .string ⟨#[]⟩, .bool false, .string ⟨#[]⟩] 59))
  have HYc := Aside0.mk (blk_new w1 (.cells #[.string a, .bool false, .string ⟨#[]⟩, .bool false, .string ⟨#[]⟩, .bool false, .string ⟨#[]⟩] 59))
  have HFc := Aside0.mk (HFb.out.allocs (.cells #[.string a, .bool false, .string ⟨#[]⟩, .bool false, .string ⟨#[]⟩, .bool false, .string ⟨#[]⟩] 59))
  have HGY := Aside0.mk (show gr < w1.heap.size from blk_lt HQb.out)
  clear k0 HRb HQb HFb HR0 HQ0 HF0
  generalize w1.alloc (.cells #[.string a, .bool false, .string ⟨#[]⟩, .bool false, .string ⟨#[]⟩, .bool false, .string ⟨#[]⟩] 59) = w2 at HRc HQc HYc HFc ⊢
  generalize w1.heap.size = gy at HYc HGY ⊢
  have HGYW := Aside0.mk (show W.heap.size ≤ gy ∧ B ≤ gy ∧ gX ≠ gy ∧ gr ≠ gy by have h1 := HGY.out; have h2 := HGR.out; have h3 := HGX.out; have h4 := HBW.out; omega)
  clear HGY
  have k0 := one_cell HRc.out.hX
  go_upto_region 3 with (go_at_call 81; refine (rr_side B gX g _ _ HRc.out).mono ?_; rw [HS2.out]; rintro e v2 ⟨rfl, hr, hf⟩; have HRd := Aside0.mk hr; have HQd := Aside0.mk (hf.blk HQc.out (by decide)); have hyd := hf.blk HYc.out (by decide); have HYd := Aside0.mk hyd; have HFd := Aside0.mk (HFc.out.trans hf); obtain ⟨q0, q1, q2, q3, q4, q5, q6⟩ := sev_cells hyd; have z0 := blk_frozen hyd 1; have z1 := blk_frozen hyd 2; clear hr hf hyd)
  have HRe := Aside0.mk ((HRd.out.set HYd.out (by decide) HGYW.out.2.1 HGYW.out.2.2.1 1 (.bool b.f0)).set (blk_set HYd.out 1 (.bool b.f0)) (by decide) HGYW.out.2.1 HGYW.out.2.2.1 2 (.string b.f1))
  have HQe := Aside0.mk (blk_other (blk_other HQd.out ⟨gy, 1, none⟩ HGYW.out.2.2.2 (.bool b.f0)) ⟨gy, 2, none⟩ HGYW.out.2.2.2 (.string b.f1))
  have HYe := Aside0.mk (show ((v2.setCell ⟨gy, 1, none⟩ (.bool b.f0)).setCell ⟨gy, 2, none⟩ (.string b.f1)).heap[gy]? = some (.cells #[.string a, .bool b.f0, .string b.f1, .bool false, .string ⟨#[]⟩, .bool false, .string ⟨#[]⟩] 59 (0, 0)) from (blk_set (blk_set HYd.out 1 (.bool b.f0)) 2 (.string b.f1)).trans rfl)
  have HFe := Aside0.mk ((HFd.out.setNew (p := ⟨gy, 1, none⟩) HGYW.out.1 (.bool b.f0)).setNew (p := ⟨gy, 2, none⟩) HGYW.out.1 (.string b.f1))
  clear k0 HRc HQc HYc HFc HRd HQd HYd HFd q0 q1 q2 q3 q4 q5 q6 z0 z1
  generalize ((v2.setCell ⟨gy, 1, none⟩ (.bool b.f0)).setCell ⟨gy, 2, none⟩ (.string b.f1)) = u2 at HRe HQe HYe HFe ⊢
  have HRc := HRe
  have HQc := HQe
  have HYc := HYe
  have HFc := HFe
  clear HRe HQe HYe HFe
  have k0 := one_cell HRc.out.hX
  go_upto_region 4 with (go_at_call 81; refine (rr_side B gX g _ _ HRc.out).mono ?_; rw [HS3.out]; rintro e v3 ⟨rfl, hr, hf⟩; have HRd := Aside0.mk hr; have HQd := Aside0.mk (hf.blk HQc.out (by decide)); have hyd := hf.blk HYc.out (by decide); have HYd := Aside0.mk hyd; have HFd := Aside0.mk (HFc.out.trans hf); obtain ⟨q0, q1, q2, q3, q4, q5, q6⟩ := sev_cells hyd; have z0 := blk_frozen hyd 3; have z1 := blk_frozen hyd 4; clear hr hf hyd)
  have HRe := Aside0.mk ((HRd.out.set HYd.out (by decide) HGYW.out.2.1 HGYW.out.2.2.1 3 (.bool c.f0)).set (blk_set HYd.out 3 (.bool c.f0)) (by decide) HGYW.out.2.1 HGYW.out.2.2.1 4 (.string c.f1))
  have HQe := Aside0.mk (blk_other (blk_other HQd.out ⟨gy, 3, none⟩ HGYW.out.2.2.2 (.bool c.f0)) ⟨gy, 4, none⟩ HGYW.out.2.2.2 (.string c.f1))
  have HYe := Aside0.mk (show ((v3.setCell ⟨gy, 3, none⟩ (.bool c.f0)).setCell ⟨gy, 4, none⟩ (.string c.f1)).heap[gy]? = some (.cells #[.string a, .bool b.f0, .string b.f1, .bool c.f0, .string c.f1, .bool false, .string ⟨#[]⟩] 59 (0, 0)) from (blk_set (blk_set HYd.out 3 (.bool c.f0)) 4 (.string c.f1)).trans rfl)
  have HFe := Aside0.mk ((HFd.out.setNew (p := ⟨gy, 3, none⟩) HGYW.out.1 (.bool c.f0)).setNew (p := ⟨gy, 4, none⟩) HGYW.out.1 (.string c.f1))
  clear k0 HRc HQc HYc HFc HRd HQd HYd HFd q0 q1 q2 q3 q4 q5 q6 z0 z1
  generalize ((v3.setCell ⟨gy, 3, none⟩ (.bool c.f0)).setCell ⟨gy, 4, none⟩ (.string c.f1)) = u3 at HRe HQe HYe HFe ⊢
  have HRc := HRe
  have HQc := HQe
  have HYc := HYe
  have HFc := HFe
  clear HRe HQe HYe HFe
  have k0 := one_cell HRc.out.hX
  go_upto_region 5 with (go_at_call 81; refine (rr_side B gX g _ _ HRc.out).mono ?_; rw [HS4.out]; rintro e v4 ⟨rfl, hr, hf⟩; have HRd := Aside0.mk hr; have HQd := Aside0.mk (hf.blk HQc.out (by decide)); have hyd := hf.blk HYc.out (by decide); have HYd := Aside0.mk hyd; have HFd := Aside0.mk (HFc.out.trans hf); obtain ⟨q0, q1, q2, q3, q4, q5, q6⟩ := sev_cells hyd; have z0 := blk_frozen hyd 5; have z1 := blk_frozen hyd 6; clear hr hf hyd)
  have HRe := Aside0.mk ((HRd.out.set HYd.out (by decide) HGYW.out.2.1 HGYW.out.2.2.1 5 (.bool d.f0)).set (blk_set HYd.out 5 (.bool d.f0)) (by decide) HGYW.out.2.1 HGYW.out.2.2.1 6 (.string d.f1))
  have HQe := Aside0.mk (blk_other (blk_other HQd.out ⟨gy, 5, none⟩ HGYW.out.2.2.2 (.bool d.f0)) ⟨gy, 6, none⟩ HGYW.out.2.2.2 (.string d.f1))
  have HYe := Aside0.mk (show ((v4.setCell ⟨gy, 5, none⟩ (.bool d.f0)).setCell ⟨gy, 6, none⟩ (.string d.f1)).heap[gy]? = some (.cells #[.string a, .bool b.f0, .string b.f1, .bool c.f0, .string c.f1, .bool d.f0, .string d.f1] 59 (0, 0)) from (blk_set (blk_set HYd.out 5 (.bool d.f0)) 6 (.string d.f1)).trans rfl)
  have HFe := Aside0.mk ((HFd.out.setNew (p := ⟨gy, 5, none⟩) HGYW.out.1 (.bool d.f0)).setNew (p := ⟨gy, 6, none⟩) HGYW.out.1 (.string d.f1))
  clear k0 HRc HQc HYc HFc HRd HQd HYd HFd q0 q1 q2 q3 q4 q5 q6 z0 z1
  generalize ((v4.setCell ⟨gy, 5, none⟩ (.bool d.f0)).setCell ⟨gy, 6, none⟩ (.string d.f1)) = u4 at HRe HQe HYe HFe ⊢
  have HRc := HRe
  have HQc := HQe
  have HYc := HYe
  have HFc := HFe
  clear HRe HQe HYe HFe
  obtain ⟨y0, y1, y2, y3, y4, y5, y6⟩ := sev_cells HYc.out
  obtain ⟨r0, r1, r2, r3, r4, r5, r6⟩ := sev_cells HQc.out
  have zr := fun j => blk_frozen HQc.out j
  obtain ⟨hk, hf⟩ := set7_new HQc.out HFc.out (Nat.le_of_eq HGR.out.symm) (.string a) (.bool b.f0) (.string b.f1) (.bool c.f0) (.string c.f1) (.bool d.f0) (.string d.f1)
  have HKe := Aside0.mk hk
  have HFe := Aside0.mk hf
  have HRe := Aside0.mk (((((((((((((((HRc.out).set (HQc.out) (by decide) (show B ≤ gr by have h1 := HGR.out; have h2 := HBW.out; omega) (show gX ≠ gr by have h1 := HGR.out; have h2 := HGX.out; omega) 0 (.string a))).set (blk_set (HQc.out) 0 (.string a)) (by decide) (show B ≤ gr by have h1 := HGR.out; have h2 := HBW.out; omega) (show gX ≠ gr by have h1 := HGR.out; have h2 := HGX.out; omega) 1 (.bool b.f0))).set (blk_set (blk_set (HQc.out) 0 (.string a)) 1 (.bool b.f0)) (by decide) (show B ≤ gr by have h1 := HGR.out; have h2 := HBW.out; omega) (show gX ≠ gr by have h1 := HGR.out; have h2 := HGX.out; omega) 2 (.string b.f1))).set (blk_set (blk_set (blk_set (HQc.out) 0 (.string a)) 1 (.bool b.f0)) 2 (.string b.f1)) (by decide) (show B ≤ gr by have h1 := HGR.out; have h2 := HBW.out; omega) (show gX ≠ gr by have h1 := HGR.out; have h2 := HGX.out; omega) 3 (.bool c.f0))).set (blk_set (blk_set (blk_set (blk_set (HQc.out) 0 (.string a)) 1 (.bool b.f0)) 2 (.string b.f1)) 3 (.bool c.f0)) (by decide) (show B ≤ gr by have h1 := HGR.out; have h2 := HBW.out; omega) (show gX ≠ gr by have h1 := HGR.out; have h2 := HGX.out; omega) 4 (.string c.f1))).set (blk_set (blk_set (blk_set (blk_set (blk_set (HQc.out) 0 (.string a)) 1 (.bool b.f0)) 2 (.string b.f1)) 3 (.bool c.f0)) 4 (.string c.f1)) (by decide) (show B ≤ gr by have h1 := HGR.out; have h2 := HBW.out; omega) (show gX ≠ gr by have h1 := HGR.out; have h2 := HGX.out; omega) 5 (.bool d.f0))).set (blk_set (blk_set (blk_set (blk_set (blk_set (blk_set (HQc.out) 0 (.string a)) 1 (.bool b.f0)) 2 (.string b.f1)) 3 (.bool c.f0)) 4 (.string c.f1)) 5 (.bool d.f0)) (by decide) (show B ≤ gr by have h1 := HGR.out; have h2 := HBW.out; omega) (show gX ≠ gr by have h1 := HGR.out; have h2 := HGX.out; omega) 6 (.string d.f1)))
  clear hk hf
  go_wp2
  generalize (World.setCell (World.setCell (World.setCell (World.setCell (World.setCell (World.setCell (World.setCell u4 ⟨gr, 0, none⟩ (.string a)) ⟨gr, 1, none⟩ (.bool b.f0)) ⟨gr, 2, none⟩ (.string b.f1)) ⟨gr, 3, none⟩ (.bool c.f0)) ⟨gr, 4, none⟩ (.string c.f1)) ⟨gr, 5, none⟩ (.bool d.f0)) ⟨gr, 6, none⟩ (.string d.f1)) = wz at HKe HFe HRe ⊢
  refine bodyPost_ret (results_cell_row rfl _ _ gr 59 #[.string a, .bool b.f0, .string b.f1, .bool c.f0, .string c.f1, .bool d.f0, .string d.f1] (0, 0) _ rfl HKe.out huT rfl (by kernel_rfl)) rfl ?_
  rw [HE.out]
  exact ⟨rfl, HRe.out, HFe.out⟩
set_option maxHeartbeats 16000000 in
set_option maxRecDepth 100000 in
theorem rr_ref (B gX g : Nat) (s : RS) (W : World) (h : RrAt B gX g W s) :
    Calls Try.prog 45 #[.pointer (some ⟨gX, 0, none⟩)] W fun e W1 => e = .returned (.agg #[.string (rdRf s).1.f0, .bool (rdRf s).1.f1, .int .u64 (rdRf s).1.f2]) ∧ RrAt B gX g W1 (rdRf s).2 ∧ Fr B [127] W W1 := by
  have huT := Try.underlying62
  have huX := Try.underlying70
  obtain ⟨a, s1, h1⟩ : ∃ x t, rdText LT s = (x, t) := ⟨_, _, rfl⟩
  have HS1 := Aside0.mk h1
  obtain ⟨b, s2, h2⟩ : ∃ x t, rdFlag s1 = (x, t) := ⟨_, _, rfl⟩
  have HS2 := Aside0.mk h2
  obtain ⟨c, s3, h3⟩ : ∃ x t, rdNum M64 s2 = (x, t) := ⟨_, _, rfl⟩
  have HS3 := Aside0.mk h3
  have HE := Aside0.mk (show rdRf s = (⟨a, b, c⟩, s3) by simp only [rdRf, seqR, h1, h2, h3])
  clear h1 h2 h3
  have HR0 := Aside0.mk (h.below (below_alloc (Below.refl W.heap.size W) (.cells #[.string ⟨#[]⟩, .bool false, .int .u64 0] 62)))
  have HQ0 := Aside0.mk (blk_new W (.cells #[.string ⟨#[]⟩, .bool false, .int .u64 0] 62))
  have HF0 := Aside0.mk ((Fr.refl B [127] W).allocs (.cells #[.string ⟨#[]⟩, .bool false, .int .u64 0] 62))
  have HGX := Aside0.mk (blk_lt h.hX)
  have HBW := Aside0.mk h.rd.lt
  clear h
  go_enter Try.func45, Try.ntmps45
  go_upto_region 1 with (fail)
  generalize W.alloc (.cells #[.string ⟨#[]⟩, .bool false, .int .u64 0] 62) = w0 at HR0 HQ0 HF0 ⊢
  obtain ⟨gr, hgr⟩ : ∃ z, z = W.heap.size := ⟨_, rfl⟩
  rw [← hgr] at HQ0 ⊢
  have HGR := Aside0.mk hgr
  clear hgr
  have k0 := one_cell HR0.out.hX
  go_upto_region 2 with (go_at_call 34; refine (rd_text B g _ 131072 _ HR0.out.rd (by decide)).mono ?_; rw [HS1.out]; rintro e w1 ⟨rfl, hr, hf⟩; have HRb := Aside0.mk (HR0.out.fr hr hf); have HQb := Aside0.mk (hf.blk HQ0.out (by decide)); have HFb := Aside0.mk (HF0.out.trans hf); clear hr hf)
  have HRc := Aside0.mk (HRb.out.below (below_alloc (Below.refl w1.heap.size w1) (.cells #[.string a, .bool false, .int .u64 0] 62)))
  have HQc := Aside0.mk (blk_alloc HQb.out (.cells #[.string a, .bool false, .int .u64 0] 62))
  have HYc := Aside0.mk (blk_new w1 (.cells #[.string a, .bool false, .int .u64 0] 62))
  have HFc := Aside0.mk (HFb.out.allocs (.cells #[.string a, .bool false, .int .u64 0] 62))
  have HGY := Aside0.mk (show gr < w1.heap.size from blk_lt HQb.out)
  clear k0 HRb HQb HFb HR0 HQ0 HF0
  generalize w1.alloc (.cells #[.string a, .bool false, .int .u64 0] 62) = w2 at HRc HQc HYc HFc ⊢
  generalize w1.heap.size = gy at HYc HGY ⊢
  have HGYW := Aside0.mk (show W.heap.size ≤ gy ∧ B ≤ gy ∧ gX ≠ gy ∧ gr ≠ gy by have h1 := HGY.out; have h2 := HGR.out; have h3 := HGX.out; have h4 := HBW.out; omega)
  clear HGY
  have k0 := one_cell HRc.out.hX
  go_upto_region 3 with (go_at_call 33; refine (rd_flag B g _ _ HRc.out.rd).mono ?_; rw [HS2.out]; rintro e v2 ⟨rfl, hr, hf⟩; have HRd := Aside0.mk (HRc.out.fr hr hf); have HQd := Aside0.mk (hf.blk HQc.out (by decide)); have hyd := hf.blk HYc.out (by decide); have HYd := Aside0.mk hyd; have HFd := Aside0.mk (HFc.out.trans hf); obtain ⟨q0, q1, q2⟩ := tri_cells hyd; have z0 := blk_frozen hyd 1; clear hr hf hyd)
  have HRe := Aside0.mk (HRd.out.set HYd.out (by decide) HGYW.out.2.1 HGYW.out.2.2.1 1 (.bool b))
  have HQe := Aside0.mk (blk_other HQd.out ⟨gy, 1, none⟩ HGYW.out.2.2.2 (.bool b))
  have HYe := Aside0.mk (show (v2.setCell ⟨gy, 1, none⟩ (.bool b)).heap[gy]? = some (.cells #[.string a, .bool b, .int .u64 0] 62 (0, 0)) from (blk_set HYd.out 1 (.bool b)).trans rfl)
  have HFe := Aside0.mk (HFd.out.setNew (p := ⟨gy, 1, none⟩) HGYW.out.1 (.bool b))
  clear k0 HRc HQc HYc HFc HRd HQd HYd HFd q0 q1 q2 z0
  generalize (v2.setCell ⟨gy, 1, none⟩ (.bool b)) = u2 at HRe HQe HYe HFe ⊢
  have HRc := HRe
  have HQc := HQe
  have HYc := HYe
  have HFc := HFe
  clear HRe HQe HYe HFe
  have k0 := one_cell HRc.out.hX
  go_upto_region 4 with (go_at_call 32; refine (rd_num B g _ 18446744073709551615 _ HRc.out.rd).mono ?_; rw [HS3.out]; rintro e v3 ⟨rfl, hr, hf⟩; have HRd := Aside0.mk (HRc.out.fr hr hf); have HQd := Aside0.mk (hf.blk HQc.out (by decide)); have hyd := hf.blk HYc.out (by decide); have HYd := Aside0.mk hyd; have HFd := Aside0.mk (HFc.out.trans hf); obtain ⟨q0, q1, q2⟩ := tri_cells hyd; have z0 := blk_frozen hyd 2; clear hr hf hyd)
  have HRe := Aside0.mk (HRd.out.set HYd.out (by decide) HGYW.out.2.1 HGYW.out.2.2.1 2 (.int .u64 c))
  have HQe := Aside0.mk (blk_other HQd.out ⟨gy, 2, none⟩ HGYW.out.2.2.2 (.int .u64 c))
  have HYe := Aside0.mk (show (v3.setCell ⟨gy, 2, none⟩ (.int .u64 c)).heap[gy]? = some (.cells #[.string a, .bool b, .int .u64 c] 62 (0, 0)) from (blk_set HYd.out 2 (.int .u64 c)).trans rfl)
  have HFe := Aside0.mk (HFd.out.setNew (p := ⟨gy, 2, none⟩) HGYW.out.1 (.int .u64 c))
  clear k0 HRc HQc HYc HFc HRd HQd HYd HFd q0 q1 q2 z0
  generalize (v3.setCell ⟨gy, 2, none⟩ (.int .u64 c)) = u3 at HRe HQe HYe HFe ⊢
  have HRc := HRe
  have HQc := HQe
  have HYc := HYe
  have HFc := HFe
  clear HRe HQe HYe HFe
  obtain ⟨y0, y1, y2⟩ := tri_cells HYc.out
  obtain ⟨r0, r1, r2⟩ := tri_cells HQc.out
  have zr := fun j => blk_frozen HQc.out j
  obtain ⟨hk, hf⟩ := set3_new HQc.out HFc.out (Nat.le_of_eq HGR.out.symm) (.string a) (.bool b) (.int .u64 c)
  have HKe := Aside0.mk hk
  have HFe := Aside0.mk hf
  have HRe := Aside0.mk (((((((HRc.out).set (HQc.out) (by decide) (show B ≤ gr by have h1 := HGR.out; have h2 := HBW.out; omega) (show gX ≠ gr by have h1 := HGR.out; have h2 := HGX.out; omega) 0 (.string a))).set (blk_set (HQc.out) 0 (.string a)) (by decide) (show B ≤ gr by have h1 := HGR.out; have h2 := HBW.out; omega) (show gX ≠ gr by have h1 := HGR.out; have h2 := HGX.out; omega) 1 (.bool b))).set (blk_set (blk_set (HQc.out) 0 (.string a)) 1 (.bool b)) (by decide) (show B ≤ gr by have h1 := HGR.out; have h2 := HBW.out; omega) (show gX ≠ gr by have h1 := HGR.out; have h2 := HGX.out; omega) 2 (.int .u64 c)))
  clear hk hf
  go_wp2
  generalize (World.setCell (World.setCell (World.setCell u3 ⟨gr, 0, none⟩ (.string a)) ⟨gr, 1, none⟩ (.bool b)) ⟨gr, 2, none⟩ (.int .u64 c)) = wz at HKe HFe HRe ⊢
  refine bodyPost_ret (results_cell_row rfl _ _ gr 62 #[.string a, .bool b, .int .u64 c] (0, 0) _ rfl HKe.out huT rfl (by kernel_rfl)) rfl ?_
  rw [HE.out]
  exact ⟨rfl, HRe.out, HFe.out⟩
end Go.Proofs.Ytcegkljkmnpkaaa.Sep
namespace Go.Proofs.Ytcegkljkmnpkaaa.Sep
set_option linter.unusedSimpArgs false
set_option linter.unusedVariables false
open Go.RowKit Go.Proofs.Ytcegkljkmnpkaaa.PCore Go.Proofs.Ytcegkljkmnpkaaa.Plain Go.Proofs.YtcegkljkmnpkaaaW.PrintWords Go.Proofs.YtcegkljkmnpkaaaW.PrintLast Go.Proofs.YtcegkljkmnpkaaaW.PrintMore
open Go.Proofs.Ytcegkljkmnpkaaa.PDat (S53 S47 S57 S59 S62 k53 k47 k57 k59 k62 k53_mkM k47_mkM k59_mkM k62_mkM)
theorem Fr.more {B : Nat} {T : List Nat} {W w w1 : World} (h : Fr B T W w) (hb : Below W.heap.size w w1) : Fr B T W w1 :=
  ⟨hb.os.trans h.os, hb.tape.trans h.tape, hb.output.trans h.output, Nat.le_trans h.size hb.size, fun k hk hT => (hb.block k hk).trans (h.block k hk hT)⟩
theorem RrAt.row {B B' gX g t : Nat} {w w1 : World} {s : RS} (h : RrAt B gX g w s) (hf : Fr B' [t] w w1) (hB : B ≤ B') (ht : 70 ≠ t ∧ 127 ≠ t ∧ 5 ≠ t) : RrAt B gX g w1 s :=
  ⟨hf.blk h.hX (by simpa using ht.1), h.rd.fr (hf.lower hB) (by simpa using ht.2)⟩
/-- Reading a commit: where it stands. -/
structure CoSt (W : World) (B gX g gr gy : Nat) (w : World) (s : RS) (id gn rt : Int) (tx : ByteArray) (v : Value) (ps : List Int) : Prop where
  rr : RrAt B gX g w s
  bY : w.heap[gy]? = some (.cells #[.int .u64 id, v, .int .u64 gn, .int .u64 rt, .string tx] 44 (0, 0))
  bQ : w.heap[gr]? = some (.cells #[.int .u64 0, .slice none 0 0, .int .u64 0, .int .u64 0, .string ⟨#[]⟩] 44 (0, 0))
  hR : Kd.R (Kd.int .u64) 23 w W.heap.size (fun _ => True) v ps
  fr : Fr B [127] W w
  ne : W.heap.size ≤ gy ∧ B ≤ gy ∧ gX ≠ gy ∧ gr ≠ gy
section
variable {W : World} {B gX g gr gy : Nat} {w w1 : World} {s s' : RS} {id gn rt : Int} {tx : ByteArray} {v : Value} {ps : List Int}
theorem int_E {T : List Nat} (h : 23 ∉ T) : ∀ q, q ∈ 23 :: (Kd.int .u64).E → q ∉ T := fun q hq => by
  simp only [List.mem_cons] at hq
  rcases hq with rfl | hq
  · exact h
  · cases hq
theorem CoSt.read (h : CoSt W B gX g gr gy w s id gn rt tx v ps) (hr : RdAt 127 B g w1 s') (hf : Fr B [127] w w1) : CoSt W B gX g gr gy w1 s' id gn rt tx v ps :=
  ⟨h.rr.fr hr hf, hf.blk h.bY (by decide), hf.blk h.bQ (by decide), hf.R h.hR (int_E (by decide)), h.fr.trans hf, h.ne⟩
theorem CoSt.below (h : CoSt W B gX g gr gy w s id gn rt tx v ps) (hb : Below w.heap.size w w1) : CoSt W B gX g gr gy w1 s id gn rt tx v ps :=
  ⟨h.rr.below hb, blk_below h.bY hb, blk_below h.bQ hb, Kd.R_below h.hR hb, h.fr.trans (Fr.of_below hb), h.ne⟩
theorem CoSt.c (h : CoSt W B gX g gr gy w s id gn rt tx v ps) : w.cell? ⟨gy, 0, none⟩ = some (.int .u64 id) ∧ w.cell? ⟨gy, 1, none⟩ = some v ∧ w.cell? ⟨gy, 2, none⟩ = some (.int .u64 gn) ∧ w.cell? ⟨gy, 3, none⟩ = some (.int .u64 rt) ∧ w.cell? ⟨gy, 4, none⟩ = some (.string tx) := five_cells h.bY
theorem CoSt.z (h : CoSt W B gX g gr gy w s id gn rt tx v ps) (j : Nat) : w.frozen? ⟨gy, j, none⟩ = false := blk_frozen h.bY j
theorem CoSt.x (h : CoSt W B gX g gr gy w s id gn rt tx v ps) : w.cell? ⟨gX, 0, none⟩ = some (.pointer (some ⟨g, 0, none⟩)) := one_cell h.rr.hX
theorem CoSt.set (h : CoSt W B gX g gr gy w s id gn rt tx v ps) (j : Nat) (u : Value) {gn' rt' : Int} {tx' : ByteArray} (he : (#[.int .u64 id, v, .int .u64 gn, .int .u64 rt, .string tx] : Array Value).setIfInBounds j u = #[.int .u64 id, v, .int .u64 gn', .int .u64 rt', .string tx']) : CoSt W B gX g gr gy (w.setCell ⟨gy, j, none⟩ u) s id gn' rt' tx' v ps :=
  ⟨h.rr.set h.bY (by decide) h.ne.2.1 h.ne.2.2.1 j u, by rw [blk_set h.bY j u, he], blk_other h.bQ _ h.ne.2.2.2 _, Kd.R_set h.hR h.bY (by decide) j u, h.fr.setNew (p := ⟨gy, j, none⟩) h.ne.1 u, h.ne⟩
theorem CoSt.push (h : CoSt W B gX g gr gy w s id gn rt tx v ps) {v1 : Value} {qs : List Int} (ho : Kd.R (Kd.int .u64) 23 w1 W.heap.size (fun _ => True) v1 qs) (hf : Fr W.heap.size [23] w w1) (hb : Below W.heap.size w w1) (hB : B ≤ W.heap.size) :
    CoSt W B gX g gr gy (w1.setCell ⟨gy, 1, none⟩ v1) s id gn rt tx v1 qs :=
  have hY := hf.blk h.bY (by decide)
  ⟨(h.rr.row hf hB (by decide)).set hY (by decide) h.ne.2.1 h.ne.2.2.1 1 v1, (blk_set hY 1 v1).trans rfl, blk_other (hf.blk h.bQ (by decide)) _ h.ne.2.2.2 _, Kd.R_set ho hY (by decide) 1 v1, (h.fr.more hb).setNew (p := ⟨gy, 1, none⟩) h.ne.1 v1, h.ne⟩
end
theorem wrap_pred (j : Nat) (h : j ≤ 1000000) : IntKind.u64.wrap (j : Int) = (j : Int) := by rw [IntKind.wrap_u64]; omega
set_option maxHeartbeats 32000000 in
set_option maxRecDepth 100000 in
theorem rr_commit (B gX g : Nat) (s : RS) (W : World) (h : RrAt B gX g W s) :
    Calls Try.prog 43 #[.pointer (some ⟨gX, 0, none⟩)] W fun e W1 => ∃ v, e = .returned (.agg #[.int .u64 (rdCo s).1.id, v, .int .u64 (rdCo s).1.gen, .int .u64 (rdCo s).1.root, .string (rdCo s).1.text]) ∧ Kd.R (Kd.int .u64) 23 W1 W.heap.size (fun _ => True) v (rdCo s).1.ps ∧ RrAt B gX g W1 (rdCo s).2 ∧ Fr B [127] W W1 := by
  have huT := Try.underlying44
  have huX := Try.underlying70
  have hFs := RdAt.fine h.rd
  obtain ⟨id, s1, h1⟩ : ∃ x t, rdNum M64 s = (x, t) := ⟨_, _, rfl⟩
  have HS1 := Aside0.mk h1
  have F1 : Fine s1 := by have hz := fine_num hFs M64; rw [h1] at hz; exact hz
  obtain ⟨q, s2, h2⟩ : ∃ x t, rdNum MO s1 = (x, t) := ⟨_, _, rfl⟩
  have HS2 := Aside0.mk h2
  have hq := num_in F1 MO (by decide)
  rw [h2] at hq
  simp only at hq
  obtain ⟨N, hN⟩ : ∃ N : Nat, q = (N : Int) := ⟨q.toNat, by omega⟩
  subst hN
  have HNB := Aside0.mk (show N ≤ 16384 by have h9 : (N : Int) ≤ 16384 := hq.2.1; omega)
  have HBW := Aside0.mk h.rd.lt
  have HR0 := Aside0.mk (h.below (below_alloc (Below.refl W.heap.size W) (.cells #[.int .u64 0, .slice none 0 0, .int .u64 0, .int .u64 0, .string ⟨#[]⟩] 44)))
  have HQ0 := Aside0.mk (blk_new W (.cells #[.int .u64 0, .slice none 0 0, .int .u64 0, .int .u64 0, .string ⟨#[]⟩] 44))
  have HF0 := Aside0.mk ((Fr.refl B [127] W).allocs (.cells #[.int .u64 0, .slice none 0 0, .int .u64 0, .int .u64 0, .string ⟨#[]⟩] 44))
  have HGX := Aside0.mk (blk_lt h.hX)
  clear h h1 h2 hq hFs F1
  go_enter Try.func43, Try.ntmps43
  go_upto_region 1 with (fail)
  generalize W.alloc (.cells #[.int .u64 0, .slice none 0 0, .int .u64 0, .int .u64 0, .string ⟨#[]⟩] 44) = w0 at HR0 HQ0 HF0 ⊢
  obtain ⟨gr, hgr⟩ : ∃ z, z = W.heap.size := ⟨_, rfl⟩
  rw [← hgr] at HQ0 ⊢
  have HGR := Aside0.mk hgr
  clear hgr
  have k0 := one_cell HR0.out.hX
  go_upto_region 2 with (go_at_call 32; refine (rd_num B g _ 18446744073709551615 _ HR0.out.rd).mono ?_; rw [HS1.out]; rintro e w1 ⟨rfl, hr, hf⟩; have HRb := Aside0.mk (HR0.out.fr hr hf); have HQb := Aside0.mk (hf.blk HQ0.out (by decide)); have HFb := Aside0.mk (HF0.out.trans hf); clear hr hf)
  have HGY := Aside0.mk (show gr < w1.heap.size from blk_lt HQb.out)
  have HC0 := Aside0.mk (show CoSt W B gX g gr w1.heap.size (w1.alloc (.cells #[.int .u64 id, .slice none 0 0, .int .u64 0, .int .u64 0, .string ⟨#[]⟩] 44)) s1 id 0 0 ⟨#[]⟩ (.slice none 0 0) [] from ⟨HRb.out.below (below_alloc (Below.refl _ _) _), blk_new _ _, blk_alloc HQb.out _, Kd.R_nil _ _ _ _ _, HFb.out.allocs _, by have a1 := HGY.out; have a2 := HGR.out; have a3 := HGX.out; have a4 := HBW.out; omega⟩)
  clear k0 HRb HQb HFb HR0 HQ0 HF0
  generalize w1.alloc (.cells #[.int .u64 id, .slice none 0 0, .int .u64 0, .int .u64 0, .string ⟨#[]⟩] 44) = w2 at HC0 ⊢
  generalize w1.heap.size = gy at HC0 HGY ⊢
  have k0 := HC0.out.x
  go_upto_region 3 with (go_at_call 32; refine (rd_num B g _ 16384 _ HC0.out.rr.rd).mono ?_; rw [HS2.out]; rintro e w3 ⟨rfl, hr, hf⟩; have HC3 := Aside0.mk (HC0.out.read hr hf); clear hr hf)
  clear k0 HC0
  go_loopg [4] N (fun kq v4 w' => ∃ (j : Nat) (t : RS) (v : Value) (ps : List Int), v4 = .int .u64 (j : Int) ∧ Aside0 (kq = j ∧ j + ps.length = N) ∧ Aside0 (rdMany (rdNum M64) N s2 = (ps ++ (rdMany (rdNum M64) j t).1, (rdMany (rdNum M64) j t).2)) ∧ Aside0 (CoSt W B gX g gr gy w' t id 0 0 ⟨#[]⟩ v ps))
  case atStart => exact ⟨N, s2, .slice none 0 0, [], rfl, ⟨rfl, by simp⟩, ⟨by simp⟩, HC3⟩
  case round =>
    obtain ⟨j, t, v, ps, rfl, HJ, HE, HS⟩ := hrel
    cases j with
    | succ j =>
      have hj : decide ((0 : Int) < (j : Int) + 1) = true := decide_eq_true (by omega)
      have HWI := Aside0.mk (wrap_pred j (by have := HJ.out; have := HNB.out; omega))
      have HSd := Aside0.mk (HS.out.below (below_drew (Below.refl wr.heap.size wr)))
      have hc1 := HS.out.c.2.1
      have hcd : wr.drew.cell? ⟨gy, 1, none⟩ = some v := HSd.out.c.2.1
      have hx1 := HS.out.x
      have hxd : wr.drew.cell? ⟨gX, 0, none⟩ = some (.pointer (some ⟨g, 0, none⟩)) := HSd.out.x
      have HBz := Aside0.mk HBW.out
      go_wp2
      go_region_law (first | (refine Kd.R_append_step (Kd.int .u64) (w0 := w5) W.heap.size (by rfl) (.tmp 21) (.tmp 27) 42 23 (.int .u64 0) 8 rfl Try.underlying42 (by kernel_rfl) rfl (by decide) (by omega) v ps (rdNum M64 t).1 [.int .u64 (rdNum M64 t).1] (fun _ => True) (fun _ => False) rfl rfl rfl (fun _ hk => hk.elim) (fun _ _ => trivial) HS5.out.hR (Below.refl _ _) HS5.out.fr.size (by have := HJ.out; have := HNB.out; omega) ?_; intro v1 w6 ho hb hgr hat; obtain ⟨Ax, nx, cx, hvx⟩ := R_slice' ho; subst hvx; have hf6 := (show Fr W.heap.size [23] w5 w6 by obtain ⟨inner, h⟩ := Kd.R_own HS5.out.hR; exact Fr.of_grown h (Nat.le_refl _) hgr (by simp)); have HS6 := Aside0.mk (HS5.out.push ho hf6 hb HBz.out); have hy6 := hf6.blk HS5.out.bY (by decide); have hc61 : w6.cell? ⟨gy, 1, none⟩ = some v := (blk_cell hy6 1).trans rfl; have hz61 : w6.frozen? ⟨gy, 1, none⟩ = false := blk_frozen hy6 1; clear ho hb hgr hat hf6 hy6) | (go_simp; (go_at_call 32; refine (rd_num B g t 18446744073709551615 _ HSd.out.rr.rd).mono ?_; rintro e w5 ⟨rfl, hr, hf⟩; have HS5 := Aside0.mk (HSd.out.read hr hf); have hc51 := HS5.out.c.2.1; have hc5b : (w5.alloc (.cells #[.int .u64 (rdNum M64 t).1] 23)).cell? ⟨gy, 1, none⟩ = some v := (HS5.out.below (below_alloc (Below.refl _ _) _)).c.2.1; clear hr hf)))
      all_goals (
        go_wp2
        go_roundg j
        case measure => have := HJ.out; omega
        case rel => exact ⟨j, (rdNum M64 t).2, .slice Ax nx cx, ps ++ [(rdNum M64 t).1], by rw [HWI.out], ⟨rfl, by have := HJ.out; simp; omega⟩, ⟨many_snoc _ _ _ _ _ _ HE.out⟩, ⟨HS6.out⟩⟩)
    | zero =>
      have hj : decide ((0 : Int) < ((0 : Nat) : Int)) = false := decide_eq_false (by omega)
      have HE2 := Aside0.mk (show rdMany (rdNum M64) N s2 = (ps, t) by rw [HE.out]; simp [rdMany])
      obtain ⟨gn, s4, h4⟩ : ∃ x u, rdNum M64 t = (x, u) := ⟨_, _, rfl⟩
      have HS4 := Aside0.mk h4
      obtain ⟨rt, s5, h5⟩ : ∃ x u, rdNum M64 s4 = (x, u) := ⟨_, _, rfl⟩
      have HS5 := Aside0.mk h5
      obtain ⟨tx, s6, h6⟩ : ∃ x u, rdText LT s5 = (x, u) := ⟨_, _, rfl⟩
      have HS6 := Aside0.mk h6
      have HRC := Aside0.mk (show rdCo s = (⟨id, ps, gn, rt, tx⟩, s6) by
        have hl : rdLs (rdNum M64) s1 = (ps, t) := by
          rw [rdLs, seqR, HS2.out]
          simp only [Int.toNat_natCast]
          exact HE2.out
        simp only [rdCo, seqR, HS1.out, hl, h4, h5, h6])
      clear h4 h5 h6 HE
      have k0 := HS.out.x
      go_upto_region 7 with (go_at_call 32; refine (rd_num B g _ 18446744073709551615 _ HS.out.rr.rd).mono ?_; rw [HS4.out]; rintro e w7 ⟨rfl, hr, hf⟩; have HC7 := Aside0.mk (HS.out.read hr hf); have c7 := HC7.out.c.2.2.1; have z7 := HC7.out.z 2; clear hr hf)
      have HD7 := Aside0.mk (HC7.out.set 2 (.int .u64 gn) (gn' := gn) (rt' := 0) (tx' := ⟨#[]⟩) rfl)
      clear k0 c7 z7 HC7 HS
      generalize w7.setCell ⟨gy, 2, none⟩ (.int .u64 gn) = u7 at HD7 ⊢
      have k0 := HD7.out.x
      go_upto_region 8 with (go_at_call 32; refine (rd_num B g _ 18446744073709551615 _ HD7.out.rr.rd).mono ?_; rw [HS5.out]; rintro e w8 ⟨rfl, hr, hf⟩; have HC8 := Aside0.mk (HD7.out.read hr hf); have c8 := HC8.out.c.2.2.2.1; have z8 := HC8.out.z 3; clear hr hf)
      have HD8 := Aside0.mk (HC8.out.set 3 (.int .u64 rt) (gn' := gn) (rt' := rt) (tx' := ⟨#[]⟩) rfl)
      clear k0 c8 z8 HC8 HD7
      generalize w8.setCell ⟨gy, 3, none⟩ (.int .u64 rt) = u8 at HD8 ⊢
      have k0 := HD8.out.x
      go_upto_region 9 with (go_at_call 34; refine (rd_text B g _ 131072 _ HD8.out.rr.rd (by decide)).mono ?_; rw [HS6.out]; rintro e w9 ⟨rfl, hr, hf⟩; have HC9 := Aside0.mk (HD8.out.read hr hf); have c9 := HC9.out.c.2.2.2.2; have z9 := HC9.out.z 4; clear hr hf)
      have HD9 := Aside0.mk (HC9.out.set 4 (.string tx) (gn' := gn) (rt' := rt) (tx' := tx) rfl)
      clear k0 c9 z9 HC9 HD8
      generalize w9.setCell ⟨gy, 4, none⟩ (.string tx) = u9 at HD9 ⊢
      obtain ⟨y0, y1, y2, y3, y4⟩ := HD9.out.c
      obtain ⟨r0, r1, r2, r3, r4⟩ := five_cells HD9.out.bQ
      have zr := fun j => blk_frozen HD9.out.bQ j
      obtain ⟨hk, hf⟩ := set5_new HD9.out.bQ HD9.out.fr (Nat.le_of_eq HGR.out.symm) (.int .u64 id) v (.int .u64 gn) (.int .u64 rt) (.string tx)
      have HKe := Aside0.mk hk
      have HFe := Aside0.mk hf
      have hBr : B ≤ gr := by have h1 := HGR.out; have h2 := HBW.out; omega
      have hXr : gX ≠ gr := by have h1 := HGR.out; have h2 := HGX.out; omega
      have HRe := Aside0.mk (((((((((((HD9.out.rr).set (HD9.out.bQ) (by decide) hBr hXr 0 (.int .u64 id))).set (blk_set (HD9.out.bQ) 0 (.int .u64 id)) (by decide) hBr hXr 1 (v))).set (blk_set (blk_set (HD9.out.bQ) 0 (.int .u64 id)) 1 (v)) (by decide) hBr hXr 2 (.int .u64 gn))).set (blk_set (blk_set (blk_set (HD9.out.bQ) 0 (.int .u64 id)) 1 (v)) 2 (.int .u64 gn)) (by decide) hBr hXr 3 (.int .u64 rt))).set (blk_set (blk_set (blk_set (blk_set (HD9.out.bQ) 0 (.int .u64 id)) 1 (v)) 2 (.int .u64 gn)) 3 (.int .u64 rt)) (by decide) hBr hXr 4 (.string tx)))
      have HVe := Aside0.mk ((Kd.R_set (Kd.R_set (Kd.R_set (Kd.R_set (Kd.R_set HD9.out.hR (HD9.out.bQ) (by decide) 0 (.int .u64 id)) (blk_set (HD9.out.bQ) 0 (.int .u64 id)) (by decide) 1 (v)) (blk_set (blk_set (HD9.out.bQ) 0 (.int .u64 id)) 1 (v)) (by decide) 2 (.int .u64 gn)) (blk_set (blk_set (blk_set (HD9.out.bQ) 0 (.int .u64 id)) 1 (v)) 2 (.int .u64 gn)) (by decide) 3 (.int .u64 rt)) (blk_set (blk_set (blk_set (blk_set (HD9.out.bQ) 0 (.int .u64 id)) 1 (v)) 2 (.int .u64 gn)) 3 (.int .u64 rt)) (by decide) 4 (.string tx)))
      clear hk hf hBr hXr
      obtain ⟨Av, nv, cv, hv⟩ := R_slice' HD9.out.hR
      subst hv
      go_wp2
      generalize (World.setCell (World.setCell (World.setCell (World.setCell (World.setCell u9 ⟨gr, 0, none⟩ (.int .u64 id)) ⟨gr, 1, none⟩ (.slice Av nv cv)) ⟨gr, 2, none⟩ (.int .u64 gn)) ⟨gr, 3, none⟩ (.int .u64 rt)) ⟨gr, 4, none⟩ (.string tx)) = wz at HKe HFe HRe HVe ⊢
      refine bodyPost_ret (results_cell_row rfl _ _ gr 44 #[.int .u64 id, .slice Av nv cv, .int .u64 gn, .int .u64 rt, .string tx] (0, 0) _ rfl HKe.out huT rfl (by kernel_rfl)) rfl ?_
      rw [HRC.out]
      exact ⟨_, rfl, HVe.out, HRe.out, HFe.out⟩
set_option maxHeartbeats 16000000 in
set_option maxRecDepth 100000 in
theorem rl_entry (B gX g : Nat) (s : RS) (W : World) (h : RrAt B gX g W s) :
    Calls Try.prog 36 #[.pointer (some ⟨gX, 0, none⟩), .func (.func 37) #[] #[]] W fun e W1 => ∃ v, e = .returned v ∧ Kd.R k53 53 W1 W.heap.size (fun _ => True) v (rdLs rdE s).1 ∧ RrAt B gX g W1 (rdLs rdE s).2 ∧ Fr B [127] W W1 := by
  have huT := Try.underlying53
  have huX := Try.underlying70
  obtain ⟨q, s1, h1⟩ : ∃ x t, rdNum MO s = (x, t) := ⟨_, _, rfl⟩
  have HS1 := Aside0.mk h1
  have hq := num_in (RdAt.fine h.rd) MO (by decide)
  rw [h1] at hq
  simp only at hq
  obtain ⟨N, hN⟩ : ∃ N : Nat, q = (N : Int) := ⟨q.toNat, by omega⟩
  subst hN
  have HNB := Aside0.mk (show N ≤ 16384 by have h9 : (N : Int) ≤ 16384 := hq.2.1; omega)
  have HBW := Aside0.mk h.rd.lt
  have HLS := Aside0.mk (show rdLs rdE s = rdMany rdE N s1 by rw [rdLs, seqR, h1]; simp only [Int.toNat_natCast])
  have HR0 := Aside0.mk h
  clear h h1 hq
  go_enter Try.func36, Try.ntmps36
  have k0 := one_cell HR0.out.hX
  go_upto_region 3 with (go_at_call 32; refine (rd_num B g _ 16384 _ HR0.out.rd).mono ?_; rw [HS1.out]; rintro e w1 ⟨rfl, hr, hf⟩; have HR1 := Aside0.mk (HR0.out.fr hr hf); have HF1 := Aside0.mk hf; clear hr hf)
  clear k0 HR0
  go_loopg [5, 6] N (fun kq v5 v6 w' => ∃ (j : Nat) (t : RS) (xs : List Entry), v6 = .int .u64 (j : Int) ∧ Aside0 (kq = j ∧ j + xs.length = N) ∧ Aside0 (rdMany rdE N s1 = (xs ++ (rdMany rdE j t).1, (rdMany rdE j t).2)) ∧ Aside0 (RrAt B gX g w' t) ∧ Aside0 (Kd.R k53 53 w' W.heap.size (fun _ => True) v5 xs) ∧ Aside0 (Fr B [127] W w'))
  case atStart => exact ⟨N, s1, [], rfl, ⟨rfl, by simp⟩, ⟨by simp⟩, HR1, ⟨Kd.R_nil _ _ _ _ _⟩, HF1⟩
  case round =>
    rename_i v5 v6
    obtain ⟨j, t, xs, rfl, HJ, HE, HS, HV, HF⟩ := hrel
    clear HR1 HF1
    cases j with
    | succ j =>
      have hj : decide ((0 : Int) < (j : Int) + 1) = true := decide_eq_true (by omega)
      have HWI := Aside0.mk (wrap_pred j (by have := HJ.out; have := HNB.out; omega))
      obtain ⟨Ay, ny, cy, hvy⟩ := R_slice' HV.out
      subst hvy
      go_wp2_with (first | (at_builtin; refine Kd.R_append k53 (w0 := w4) W.heap.size rfl (.tmp 16) (.tmp 20) 24 53 (.agg #[.string ⟨#[]⟩, .string ⟨#[]⟩]) 32 rfl Try.underlying24 (by kernel_rfl) rfl (by decide) (by omega) (.slice Ay ny cy) xs (rdE t).1 [.string (rdE t).1.f0, .string (rdE t).1.f1] (fun _ => True) (fun _ => False) rfl rfl ?aP (fun _ hk => hk.elim) (fun _ _ => trivial) ?aO ?aB ?aS ?aL ?_; (case aP => exact k53_mkM _ _ _ _); (case aO => exact HV4.out); (case aB => exact Below.refl _ _); (case aS => exact HF4.out.size); (case aL => have := HJ.out; have := HNB.out; omega); intro v1 w6 ho hb hgr hat; have hf6 := (show Fr W.heap.size [53] w4 w6 by obtain ⟨inner, h⟩ := Kd.R_own HV4.out; exact Fr.of_grown h (Nat.le_refl _) hgr (by simp)); have HV6 := Aside0.mk ho; have HR6 := Aside0.mk (HR4.out.row hf6 HBW.out (by decide)); have HF6 := Aside0.mk (HF4.out.more hb); clear ho hb hgr hat hf6) | (go_at_call 37; refine (rr_entry B gX g t _ HS.out).mono ?_; rintro e w4 ⟨rfl, hr, hf⟩; have HR4 := Aside0.mk hr; have HV4 := Aside0.mk (hf.R HV.out (fun q hq => by simp only [List.mem_cons] at hq; rcases hq with rfl | hq; decide; cases hq)); have HF4 := Aside0.mk (HF.out.trans hf); clear hr hf))
      go_roundg j
      case measure => have := HJ.out; omega
      case rel =>
        refine ⟨j, (rdE t).2, xs ++ [(rdE t).1], ?_, ⟨?_⟩, ⟨?_⟩, HR6, HV6, HF6⟩
        · rw [HWI.out]
        · exact ⟨rfl, by have := HJ.out; simp; omega⟩
        · exact many_snoc _ _ _ _ _ _ HE.out
    | zero =>
      have hj : decide ((0 : Int) < ((0 : Nat) : Int)) = false := decide_eq_false (by omega)
      have HE2 := Aside0.mk (show rdMany rdE N s1 = (xs, t) by rw [HE.out]; simp [rdMany])
      clear HE
      go_wp2
      go_ret
      rw [HLS.out, HE2.out]
      exact ⟨_, rfl, HV.out, HS.out, HF.out⟩
set_option maxHeartbeats 16000000 in
set_option maxRecDepth 100000 in
theorem rl_change (B gX g : Nat) (s : RS) (W : World) (h : RrAt B gX g W s) :
    Calls Try.prog 38 #[.pointer (some ⟨gX, 0, none⟩), .func (.func 39) #[] #[]] W fun e W1 => ∃ v, e = .returned v ∧ Kd.R k47 47 W1 W.heap.size (fun _ => True) v (rdLs rdCh s).1 ∧ RrAt B gX g W1 (rdLs rdCh s).2 ∧ Fr B [127] W W1 := by
  have huT := Try.underlying47
  have huX := Try.underlying70
  obtain ⟨q, s1, h1⟩ : ∃ x t, rdNum MO s = (x, t) := ⟨_, _, rfl⟩
  have HS1 := Aside0.mk h1
  have hq := num_in (RdAt.fine h.rd) MO (by decide)
  rw [h1] at hq
  simp only at hq
  obtain ⟨N, hN⟩ : ∃ N : Nat, q = (N : Int) := ⟨q.toNat, by omega⟩
  subst hN
  have HNB := Aside0.mk (show N ≤ 16384 by have h9 : (N : Int) ≤ 16384 := hq.2.1; omega)
  have HBW := Aside0.mk h.rd.lt
  have HLS := Aside0.mk (show rdLs rdCh s = rdMany rdCh N s1 by rw [rdLs, seqR, h1]; simp only [Int.toNat_natCast])
  have HR0 := Aside0.mk h
  clear h h1 hq
  go_enter Try.func38, Try.ntmps38
  have k0 := one_cell HR0.out.hX
  go_upto_region 3 with (go_at_call 32; refine (rd_num B g _ 16384 _ HR0.out.rd).mono ?_; rw [HS1.out]; rintro e w1 ⟨rfl, hr, hf⟩; have HR1 := Aside0.mk (HR0.out.fr hr hf); have HF1 := Aside0.mk hf; clear hr hf)
  clear k0 HR0
  go_loopg [5, 6] N (fun kq v5 v6 w' => ∃ (j : Nat) (t : RS) (xs : List Change), v6 = .int .u64 (j : Int) ∧ Aside0 (kq = j ∧ j + xs.length = N) ∧ Aside0 (rdMany rdCh N s1 = (xs ++ (rdMany rdCh j t).1, (rdMany rdCh j t).2)) ∧ Aside0 (RrAt B gX g w' t) ∧ Aside0 (Kd.R k47 47 w' W.heap.size (fun _ => True) v5 xs) ∧ Aside0 (Fr B [127] W w'))
  case atStart => exact ⟨N, s1, [], rfl, ⟨rfl, by simp⟩, ⟨by simp⟩, HR1, ⟨Kd.R_nil _ _ _ _ _⟩, HF1⟩
  case round =>
    rename_i v5 v6
    obtain ⟨j, t, xs, rfl, HJ, HE, HS, HV, HF⟩ := hrel
    clear HR1 HF1
    cases j with
    | succ j =>
      have hj : decide ((0 : Int) < (j : Int) + 1) = true := decide_eq_true (by omega)
      have HWI := Aside0.mk (wrap_pred j (by have := HJ.out; have := HNB.out; omega))
      obtain ⟨Ay, ny, cy, hvy⟩ := R_slice' HV.out
      subst hvy
      go_wp2_with (first | (at_builtin; refine Kd.R_append k47 (w0 := w4) W.heap.size rfl (.tmp 16) (.tmp 20) 25 47 (.agg #[.string ⟨#[]⟩, .bool false, .string ⟨#[]⟩, .bool false, .string ⟨#[]⟩]) 64 rfl Try.underlying25 (by kernel_rfl) rfl (by decide) (by omega) (.slice Ay ny cy) xs (rdCh t).1 [.string (rdCh t).1.f0, .bool (rdCh t).1.f1, .string (rdCh t).1.f2, .bool (rdCh t).1.f3, .string (rdCh t).1.f4] (fun _ => True) (fun _ => False) rfl rfl ?aP (fun _ hk => hk.elim) (fun _ _ => trivial) ?aO ?aB ?aS ?aL ?_; (case aP => exact k47_mkM _ _ _ _); (case aO => exact HV4.out); (case aB => exact Below.refl _ _); (case aS => exact HF4.out.size); (case aL => have := HJ.out; have := HNB.out; omega); intro v1 w6 ho hb hgr hat; have hf6 := (show Fr W.heap.size [47] w4 w6 by obtain ⟨inner, h⟩ := Kd.R_own HV4.out; exact Fr.of_grown h (Nat.le_refl _) hgr (by simp)); have HV6 := Aside0.mk ho; have HR6 := Aside0.mk (HR4.out.row hf6 HBW.out (by decide)); have HF6 := Aside0.mk (HF4.out.more hb); clear ho hb hgr hat hf6) | (go_at_call 39; refine (rr_change B gX g t _ HS.out).mono ?_; rintro e w4 ⟨rfl, hr, hf⟩; have HR4 := Aside0.mk hr; have HV4 := Aside0.mk (hf.R HV.out (fun q hq => by simp only [List.mem_cons] at hq; rcases hq with rfl | hq; decide; cases hq)); have HF4 := Aside0.mk (HF.out.trans hf); clear hr hf))
      go_roundg j
      case measure => have := HJ.out; omega
      case rel =>
        refine ⟨j, (rdCh t).2, xs ++ [(rdCh t).1], ?_, ⟨?_⟩, ⟨?_⟩, HR6, HV6, HF6⟩
        · rw [HWI.out]
        · exact ⟨rfl, by have := HJ.out; simp; omega⟩
        · exact many_snoc _ _ _ _ _ _ HE.out
    | zero =>
      have hj : decide ((0 : Int) < ((0 : Nat) : Int)) = false := decide_eq_false (by omega)
      have HE2 := Aside0.mk (show rdMany rdCh N s1 = (xs, t) by rw [HE.out]; simp [rdMany])
      clear HE
      go_wp2
      go_ret
      rw [HLS.out, HE2.out]
      exact ⟨_, rfl, HV.out, HS.out, HF.out⟩
set_option maxHeartbeats 16000000 in
set_option maxRecDepth 100000 in
theorem rl_clash (B gX g : Nat) (s : RS) (W : World) (h : RrAt B gX g W s) :
    Calls Try.prog 40 #[.pointer (some ⟨gX, 0, none⟩), .func (.func 41) #[] #[]] W fun e W1 => ∃ v, e = .returned v ∧ Kd.R k59 59 W1 W.heap.size (fun _ => True) v (rdLs rdCl s).1 ∧ RrAt B gX g W1 (rdLs rdCl s).2 ∧ Fr B [127] W W1 := by
  have huT := Try.underlying59
  have huX := Try.underlying70
  obtain ⟨q, s1, h1⟩ : ∃ x t, rdNum MO s = (x, t) := ⟨_, _, rfl⟩
  have HS1 := Aside0.mk h1
  have hq := num_in (RdAt.fine h.rd) MO (by decide)
  rw [h1] at hq
  simp only at hq
  obtain ⟨N, hN⟩ : ∃ N : Nat, q = (N : Int) := ⟨q.toNat, by omega⟩
  subst hN
  have HNB := Aside0.mk (show N ≤ 16384 by have h9 : (N : Int) ≤ 16384 := hq.2.1; omega)
  have HBW := Aside0.mk h.rd.lt
  have HLS := Aside0.mk (show rdLs rdCl s = rdMany rdCl N s1 by rw [rdLs, seqR, h1]; simp only [Int.toNat_natCast])
  have HR0 := Aside0.mk h
  clear h h1 hq
  go_enter Try.func40, Try.ntmps40
  have k0 := one_cell HR0.out.hX
  go_upto_region 3 with (go_at_call 32; refine (rd_num B g _ 16384 _ HR0.out.rd).mono ?_; rw [HS1.out]; rintro e w1 ⟨rfl, hr, hf⟩; have HR1 := Aside0.mk (HR0.out.fr hr hf); have HF1 := Aside0.mk hf; clear hr hf)
  clear k0 HR0
  go_loopg [5, 6] N (fun kq v5 v6 w' => ∃ (j : Nat) (t : RS) (xs : List Clash), v6 = .int .u64 (j : Int) ∧ Aside0 (kq = j ∧ j + xs.length = N) ∧ Aside0 (rdMany rdCl N s1 = (xs ++ (rdMany rdCl j t).1, (rdMany rdCl j t).2)) ∧ Aside0 (RrAt B gX g w' t) ∧ Aside0 (Kd.R k59 59 w' W.heap.size (fun _ => True) v5 xs) ∧ Aside0 (Fr B [127] W w'))
  case atStart => exact ⟨N, s1, [], rfl, ⟨rfl, by simp⟩, ⟨by simp⟩, HR1, ⟨Kd.R_nil _ _ _ _ _⟩, HF1⟩
  case round =>
    rename_i v5 v6
    obtain ⟨j, t, xs, rfl, HJ, HE, HS, HV, HF⟩ := hrel
    clear HR1 HF1
    cases j with
    | succ j =>
      have hj : decide ((0 : Int) < (j : Int) + 1) = true := decide_eq_true (by omega)
      have HWI := Aside0.mk (wrap_pred j (by have := HJ.out; have := HNB.out; omega))
      obtain ⟨Ay, ny, cy, hvy⟩ := R_slice' HV.out
      subst hvy
      go_wp2_with (first | (at_builtin; refine Kd.R_append k59 (w0 := w4) W.heap.size rfl (.tmp 16) (.tmp 20) 26 59 (.agg #[.string ⟨#[]⟩, .bool false, .string ⟨#[]⟩, .bool false, .string ⟨#[]⟩, .bool false, .string ⟨#[]⟩]) 88 rfl Try.underlying26 (by kernel_rfl) rfl (by decide) (by omega) (.slice Ay ny cy) xs (rdCl t).1 [.string (rdCl t).1.f0, .bool (rdCl t).1.f1.f0, .string (rdCl t).1.f1.f1, .bool (rdCl t).1.f2.f0, .string (rdCl t).1.f2.f1, .bool (rdCl t).1.f3.f0, .string (rdCl t).1.f3.f1] (fun _ => True) (fun _ => False) rfl rfl ?aP (fun _ hk => hk.elim) (fun _ _ => trivial) ?aO ?aB ?aS ?aL ?_; (case aP => exact k59_mkM _ _ _ _); (case aO => exact HV4.out); (case aB => exact Below.refl _ _); (case aS => exact HF4.out.size); (case aL => have := HJ.out; have := HNB.out; omega); intro v1 w6 ho hb hgr hat; have hf6 := (show Fr W.heap.size [59] w4 w6 by obtain ⟨inner, h⟩ := Kd.R_own HV4.out; exact Fr.of_grown h (Nat.le_refl _) hgr (by simp)); have HV6 := Aside0.mk ho; have HR6 := Aside0.mk (HR4.out.row hf6 HBW.out (by decide)); have HF6 := Aside0.mk (HF4.out.more hb); clear ho hb hgr hat hf6) | (go_at_call 41; refine (rr_clash B gX g t _ HS.out).mono ?_; rintro e w4 ⟨rfl, hr, hf⟩; have HR4 := Aside0.mk hr; have HV4 := Aside0.mk (hf.R HV.out (fun q hq => by simp only [List.mem_cons] at hq; rcases hq with rfl | hq; decide; cases hq)); have HF4 := Aside0.mk (HF.out.trans hf); clear hr hf))
      go_roundg j
      case measure => have := HJ.out; omega
      case rel =>
        refine ⟨j, (rdCl t).2, xs ++ [(rdCl t).1], ?_, ⟨?_⟩, ⟨?_⟩, HR6, HV6, HF6⟩
        · rw [HWI.out]
        · exact ⟨rfl, by have := HJ.out; simp; omega⟩
        · exact many_snoc _ _ _ _ _ _ HE.out
    | zero =>
      have hj : decide ((0 : Int) < ((0 : Nat) : Int)) = false := decide_eq_false (by omega)
      have HE2 := Aside0.mk (show rdMany rdCl N s1 = (xs, t) by rw [HE.out]; simp [rdMany])
      clear HE
      go_wp2
      go_ret
      rw [HLS.out, HE2.out]
      exact ⟨_, rfl, HV.out, HS.out, HF.out⟩
set_option maxHeartbeats 16000000 in
set_option maxRecDepth 100000 in
theorem rl_ref (B gX g : Nat) (s : RS) (W : World) (h : RrAt B gX g W s) :
    Calls Try.prog 44 #[.pointer (some ⟨gX, 0, none⟩), .func (.func 45) #[] #[]] W fun e W1 => ∃ v, e = .returned v ∧ Kd.R k62 62 W1 W.heap.size (fun _ => True) v (rdLs rdRf s).1 ∧ RrAt B gX g W1 (rdLs rdRf s).2 ∧ Fr B [127] W W1 := by
  have huT := Try.underlying62
  have huX := Try.underlying70
  obtain ⟨q, s1, h1⟩ : ∃ x t, rdNum MO s = (x, t) := ⟨_, _, rfl⟩
  have HS1 := Aside0.mk h1
  have hq := num_in (RdAt.fine h.rd) MO (by decide)
  rw [h1] at hq
  simp only at hq
  obtain ⟨N, hN⟩ : ∃ N : Nat, q = (N : Int) := ⟨q.toNat, by omega⟩
  subst hN
  have HNB := Aside0.mk (show N ≤ 16384 by have h9 : (N : Int) ≤ 16384 := hq.2.1; omega)
  have HBW := Aside0.mk h.rd.lt
  have HLS := Aside0.mk (show rdLs rdRf s = rdMany rdRf N s1 by rw [rdLs, seqR, h1]; simp only [Int.toNat_natCast])
  have HR0 := Aside0.mk h
  clear h h1 hq
  go_enter Try.func44, Try.ntmps44
  have k0 := one_cell HR0.out.hX
  go_upto_region 3 with (go_at_call 32; refine (rd_num B g _ 16384 _ HR0.out.rd).mono ?_; rw [HS1.out]; rintro e w1 ⟨rfl, hr, hf⟩; have HR1 := Aside0.mk (HR0.out.fr hr hf); have HF1 := Aside0.mk hf; clear hr hf)
  clear k0 HR0
  go_loopg [5, 6] N (fun kq v5 v6 w' => ∃ (j : Nat) (t : RS) (xs : List Ref), v6 = .int .u64 (j : Int) ∧ Aside0 (kq = j ∧ j + xs.length = N) ∧ Aside0 (rdMany rdRf N s1 = (xs ++ (rdMany rdRf j t).1, (rdMany rdRf j t).2)) ∧ Aside0 (RrAt B gX g w' t) ∧ Aside0 (Kd.R k62 62 w' W.heap.size (fun _ => True) v5 xs) ∧ Aside0 (Fr B [127] W w'))
  case atStart => exact ⟨N, s1, [], rfl, ⟨rfl, by simp⟩, ⟨by simp⟩, HR1, ⟨Kd.R_nil _ _ _ _ _⟩, HF1⟩
  case round =>
    rename_i v5 v6
    obtain ⟨j, t, xs, rfl, HJ, HE, HS, HV, HF⟩ := hrel
    clear HR1 HF1
    cases j with
    | succ j =>
      have hj : decide ((0 : Int) < (j : Int) + 1) = true := decide_eq_true (by omega)
      have HWI := Aside0.mk (wrap_pred j (by have := HJ.out; have := HNB.out; omega))
      obtain ⟨Ay, ny, cy, hvy⟩ := R_slice' HV.out
      subst hvy
      go_wp2_with (first | (at_builtin; refine Kd.R_append k62 (w0 := w4) W.heap.size rfl (.tmp 16) (.tmp 20) 28 62 (.agg #[.string ⟨#[]⟩, .bool false, .int .u64 0]) 32 rfl Try.underlying28 (by kernel_rfl) rfl (by decide) (by omega) (.slice Ay ny cy) xs (rdRf t).1 [.string (rdRf t).1.f0, .bool (rdRf t).1.f1, .int .u64 (rdRf t).1.f2] (fun _ => True) (fun _ => False) rfl rfl ?aP (fun _ hk => hk.elim) (fun _ _ => trivial) ?aO ?aB ?aS ?aL ?_; (case aP => exact k62_mkM _ _ _ _); (case aO => exact HV4.out); (case aB => exact Below.refl _ _); (case aS => exact HF4.out.size); (case aL => have := HJ.out; have := HNB.out; omega); intro v1 w6 ho hb hgr hat; have hf6 := (show Fr W.heap.size [62] w4 w6 by obtain ⟨inner, h⟩ := Kd.R_own HV4.out; exact Fr.of_grown h (Nat.le_refl _) hgr (by simp)); have HV6 := Aside0.mk ho; have HR6 := Aside0.mk (HR4.out.row hf6 HBW.out (by decide)); have HF6 := Aside0.mk (HF4.out.more hb); clear ho hb hgr hat hf6) | (go_at_call 45; refine (rr_ref B gX g t _ HS.out).mono ?_; rintro e w4 ⟨rfl, hr, hf⟩; have HR4 := Aside0.mk hr; have HV4 := Aside0.mk (hf.R HV.out (fun q hq => by simp only [List.mem_cons] at hq; rcases hq with rfl | hq; decide; cases hq)); have HF4 := Aside0.mk (HF.out.trans hf); clear hr hf))
      go_roundg j
      case measure => have := HJ.out; omega
      case rel =>
        refine ⟨j, (rdRf t).2, xs ++ [(rdRf t).1], ?_, ⟨?_⟩, ⟨?_⟩, HR6, HV6, HF6⟩
        · rw [HWI.out]
        · exact ⟨rfl, by have := HJ.out; simp; omega⟩
        · exact many_snoc _ _ _ _ _ _ HE.out
    | zero =>
      have hj : decide ((0 : Int) < ((0 : Nat) : Int)) = false := decide_eq_false (by omega)
      have HE2 := Aside0.mk (show rdMany rdRf N s1 = (xs, t) by rw [HE.out]; simp [rdMany])
      clear HE
      go_wp2
      go_ret
      rw [HLS.out, HE2.out]
      exact ⟨_, rfl, HV.out, HS.out, HF.out⟩
theorem coM {w : World} {base : Nat} {okp : Nat → Prop} {x : Com} {A : Option Addr} {n : Nat} (h : Kd.R (Kd.int .u64) 23 w base okp (.slice A x.ps.length n) x.ps) : kC.M w base okp x [.int .u64 x.id, .slice A x.ps.length n, .int .u64 x.gen, .int .u64 x.root, .string x.text] :=
  ⟨[.int .u64 x.id], _, rfl, rfl, ⟨[.slice A x.ps.length n], _, rfl, Kd.M_row h, ⟨[.int .u64 x.gen], _, rfl, rfl, ⟨[.int .u64 x.root], _, rfl, rfl, rfl⟩⟩⟩⟩
theorem coE {T : List Nat} (h1 : 44 ∉ T) (h2 : 23 ∉ T) : ∀ q, q ∈ 44 :: kC.E → q ∉ T := fun q hq => by
  have he : kC.E = [23] := rfl
  rw [he] at hq
  simp only [List.mem_cons, List.not_mem_nil, or_false] at hq
  rcases hq with rfl | rfl
  · exact h1
  · exact h2
set_option maxHeartbeats 16000000 in
set_option maxRecDepth 100000 in
theorem rl_commit (B gX g : Nat) (s : RS) (W : World) (h : RrAt B gX g W s) :
    Calls Try.prog 42 #[.pointer (some ⟨gX, 0, none⟩), .func (.func 43) #[] #[]] W fun e W1 => ∃ v, e = .returned v ∧ Kd.R kC 44 W1 W.heap.size (fun _ => True) v (rdLs rdCo s).1 ∧ RrAt B gX g W1 (rdLs rdCo s).2 ∧ Fr B [127] W W1 := by
  have huT := Try.underlying44
  have huX := Try.underlying70
  obtain ⟨q, s1, h1⟩ : ∃ x t, rdNum MO s = (x, t) := ⟨_, _, rfl⟩
  have HS1 := Aside0.mk h1
  have hq := num_in (RdAt.fine h.rd) MO (by decide)
  rw [h1] at hq
  simp only at hq
  obtain ⟨N, hN⟩ : ∃ N : Nat, q = (N : Int) := ⟨q.toNat, by omega⟩
  subst hN
  have HNB := Aside0.mk (show N ≤ 16384 by have h9 : (N : Int) ≤ 16384 := hq.2.1; omega)
  have HBW := Aside0.mk h.rd.lt
  have HLS := Aside0.mk (show rdLs rdCo s = rdMany rdCo N s1 by rw [rdLs, seqR, h1]; simp only [Int.toNat_natCast])
  have HR0 := Aside0.mk h
  clear h h1 hq
  go_enter Try.func42, Try.ntmps42
  have k0 := one_cell HR0.out.hX
  go_upto_region 3 with (go_at_call 32; refine (rd_num B g _ 16384 _ HR0.out.rd).mono ?_; rw [HS1.out]; rintro e w1 ⟨rfl, hr, hf⟩; have HR1 := Aside0.mk (HR0.out.fr hr hf); have HF1 := Aside0.mk hf; clear hr hf)
  clear k0 HR0
  go_loopg [5, 6] N (fun kq v5 v6 w' => ∃ (j : Nat) (t : RS) (xs : List Com), v6 = .int .u64 (j : Int) ∧ Aside0 (kq = j ∧ j + xs.length = N) ∧ Aside0 (rdMany rdCo N s1 = (xs ++ (rdMany rdCo j t).1, (rdMany rdCo j t).2)) ∧ Aside0 (RrAt B gX g w' t) ∧ Aside0 (Kd.R kC 44 w' W.heap.size (fun _ => True) v5 xs) ∧ Aside0 (Fr B [127] W w'))
  case atStart => exact ⟨N, s1, [], rfl, ⟨rfl, by simp⟩, ⟨by simp⟩, HR1, ⟨Kd.R_nil _ _ _ _ _⟩, HF1⟩
  case round =>
    rename_i v5 v6
    obtain ⟨j, t, xs, rfl, HJ, HE, HS, HV, HF⟩ := hrel
    clear HR1 HF1
    cases j with
    | succ j =>
      have hj : decide ((0 : Int) < (j : Int) + 1) = true := decide_eq_true (by omega)
      have HWI := Aside0.mk (wrap_pred j (by have := HJ.out; have := HNB.out; omega))
      obtain ⟨Ay, ny, cy, hvy⟩ := R_slice' HV.out
      subst hvy
      go_wp2_with (first | (at_builtin; refine Kd.R_append kC (w0 := w4) W.heap.size rfl (.tmp 16) (.tmp 20) 27 44 (.agg #[.int .u64 0, .slice none 0 0, .int .u64 0, .int .u64 0, .string ⟨#[]⟩]) 64 rfl Try.underlying27 (by kernel_rfl) rfl (by decide) (by omega) (.slice Ay ny cy) xs (rdCo t).1 [.int .u64 (rdCo t).1.id, .slice Ap (rdCo t).1.ps.length np, .int .u64 (rdCo t).1.gen, .int .u64 (rdCo t).1.root, .string (rdCo t).1.text] (fun _ => True) (fun k => some k ≠ (Value.slice Ay ny cy).ownBlock) rfl rfl ?aP (fun _ hk => ⟨trivial, hk⟩) (fun _ _ => trivial) ?aO ?aB ?aS ?aL ?_; (case aP => exact coM HP4.out); (case aO => exact HV4.out); (case aB => exact Below.refl _ _); (case aS => exact HF4.out.size); (case aL => have := HJ.out; have := HNB.out; omega); intro v1 w6 ho hb hgr hat; have hf6 := (show Fr W.heap.size [44] w4 w6 by obtain ⟨inner, h⟩ := Kd.R_own HV4.out; exact Fr.of_grown h (Nat.le_refl _) hgr (by simp)); have HV6 := Aside0.mk ho; have HR6 := Aside0.mk (HR4.out.row hf6 HBW.out (by decide)); have HF6 := Aside0.mk (HF4.out.more hb); clear ho hb hgr hat hf6) | (go_at_call 43; refine (rr_commit B gX g t _ HS.out).mono ?_; rintro e w4 ⟨vp, rfl, hp, hr, hf⟩; have HR4 := Aside0.mk hr; have HV4 := Aside0.mk (hf.R HV.out (coE (by decide) (by decide))); have HF4 := Aside0.mk (HF.out.trans hf); have HP4 := Aside0.mk (Kd.R_lower (Kd.R_mono (show Kd.R (Kd.int .u64) 23 w4 wr.heap.size (fun k => True ∧ some k ≠ (Value.slice Ay ny cy).ownBlock) vp _ by obtain ⟨inner, h⟩ := Kd.R_own HV.out; exact Kd.R_new hp h) (fun _ hk => hk.2)) HF.out.size); obtain ⟨Ap, np, hvp, _, _⟩ := Kd.R_reads HP4.out; subst hvp; clear hr hf hp))
      go_roundg j
      case measure => have := HJ.out; omega
      case rel =>
        refine ⟨j, (rdCo t).2, xs ++ [(rdCo t).1], ?_, ⟨?_⟩, ⟨?_⟩, HR6, HV6, HF6⟩
        · rw [HWI.out]
        · exact ⟨rfl, by have := HJ.out; simp; omega⟩
        · exact many_snoc _ _ _ _ _ _ HE.out
    | zero =>
      have hj : decide ((0 : Int) < ((0 : Nat) : Int)) = false := decide_eq_false (by omega)
      have HE2 := Aside0.mk (show rdMany rdCo N s1 = (xs, t) by rw [HE.out]; simp [rdMany])
      clear HE
      go_wp2
      go_ret
      rw [HLS.out, HE2.out]
      exact ⟨_, rfl, HV.out, HS.out, HF.out⟩
end Go.Proofs.Ytcegkljkmnpkaaa.Sep
namespace Go.Proofs.Ytcegkljkmnpkaaa.Sep
set_option linter.unusedSimpArgs false
set_option linter.unusedVariables false
open Go.RowKit Go.Proofs.Ytcegkljkmnpkaaa.PCore Go.Proofs.Ytcegkljkmnpkaaa.Plain Go.Proofs.YtcegkljkmnpkaaaW.PrintWords Go.Proofs.YtcegkljkmnpkaaaW.PrintLast Go.Proofs.YtcegkljkmnpkaaaW.PrintMore
open Go.Proofs.Ytcegkljkmnpkaaa.PDat (S53 S47 S57 S59 S62 k53 k47 k57 k59 k62)
def noRp : Rp := ⟨0, false, ⟨#[]⟩, 0, 0, [], [], [], [], []⟩
/-- What Of tells. -/
def ofRp (b : List Int) : Rp × Int := if rdDone (rdRp (b, false)).2 = true then ((rdRp (b, false)).1, 0) else (noRp, 20)
def OfRpAns (W : World) (r : Rp × Int) (e : Ending) (W1 : World) : Prop := ∃ A1 n1 A2 n2 A3 n3 A4 n4 A5 n5, e = .returned (.tuple #[.agg (rpV r.1 A1 n1 A2 n2 A3 n3 A4 n4 A5 n5), .int .i64 r.2]) ∧ RpC W1 r.1 A1 n1 A2 n2 A3 n3 A4 n4 A5 n5 ∧ Below W.heap.size W W1
theorem ten_put {B n t : Nat} {w : World} {a0 a1 a2 a3 a4 a5 a6 a7 a8 a9 : Value} (hk : w.heap[n]? = some (.cells #[a0, a1, a2, a3, a4, a5, a6, a7, a8, a9] t (0, 0))) (hB : B ≤ n) (v0 v1 v2 v3 v4 v5 v6 v7 v8 v9 : Value) :
    ((((((((((w.setCell ⟨n, 0, none⟩ v0).setCell ⟨n, 1, none⟩ v1).setCell ⟨n, 2, none⟩ v2).setCell ⟨n, 3, none⟩ v3).setCell ⟨n, 4, none⟩ v4).setCell ⟨n, 5, none⟩ v5).setCell ⟨n, 6, none⟩ v6).setCell ⟨n, 7, none⟩ v7).setCell ⟨n, 8, none⟩ v8).setCell ⟨n, 9, none⟩ v9).heap[n]? = some (.cells #[v0, v1, v2, v3, v4, v5, v6, v7, v8, v9] t (0, 0)) ∧ Fr B [t] w ((((((((((w.setCell ⟨n, 0, none⟩ v0).setCell ⟨n, 1, none⟩ v1).setCell ⟨n, 2, none⟩ v2).setCell ⟨n, 3, none⟩ v3).setCell ⟨n, 4, none⟩ v4).setCell ⟨n, 5, none⟩ v5).setCell ⟨n, 6, none⟩ v6).setCell ⟨n, 7, none⟩ v7).setCell ⟨n, 8, none⟩ v8).setCell ⟨n, 9, none⟩ v9) := by
  have h0 := blk_set hk 0 v0
  have h1 := blk_set h0 1 v1
  have h2 := blk_set h1 2 v2
  have h3 := blk_set h2 3 v3
  have h4 := blk_set h3 4 v4
  have h5 := blk_set h4 5 v5
  have h6 := blk_set h5 6 v6
  have h7 := blk_set h6 7 v7
  have h8 := blk_set h7 8 v8
  have h9 := blk_set h8 9 v9
  exact ⟨by simpa using h9, (((((((((((Fr.refl B [t] w).set hk hB (by simp) 0 v0).set hk hB (by simp) 1 v1).set hk hB (by simp) 2 v2).set hk hB (by simp) 3 v3).set hk hB (by simp) 4 v4).set hk hB (by simp) 5 v5).set hk hB (by simp) 6 v6).set hk hB (by simp) 7 v7).set hk hB (by simp) 8 v8).set hk hB (by simp) 9 v9)⟩
theorem en_E {T : List Nat} (h : 53 ∉ T) : ∀ q, q ∈ 53 :: (k53).E → q ∉ T := fun q hq => by
  simp only [List.mem_cons] at hq; rcases hq with rfl | hq; exact h; cases hq
theorem ch_E {T : List Nat} (h : 47 ∉ T) : ∀ q, q ∈ 47 :: (k47).E → q ∉ T := fun q hq => by
  simp only [List.mem_cons] at hq; rcases hq with rfl | hq; exact h; cases hq
theorem cl_E {T : List Nat} (h : 59 ∉ T) : ∀ q, q ∈ 59 :: (k59).E → q ∉ T := fun q hq => by
  simp only [List.mem_cons] at hq; rcases hq with rfl | hq; exact h; cases hq
theorem rf_E {T : List Nat} (h : 62 ∉ T) : ∀ q, q ∈ 62 :: (k62).E → q ∉ T := fun q hq => by
  simp only [List.mem_cons] at hq; rcases hq with rfl | hq; exact h; cases hq
/-- Reading an answer: where it stands. -/
structure RpSt (W : World) (gX g gr gy : Nat) (w : World) (s : RS) (e : Int) (i : Bool) (v : ByteArray) (k n : Int) (V1 V2 V3 V4 V5 : Value) (es : List Entry) (chs : List Change) (cls : List Clash) (coms : List Com) (refs : List Ref) : Prop where
  rr : RrAt W.heap.size gX g w s
  bY : w.heap[gy]? = some (.cells #[.int .i64 e, .bool i, .string v, .int .u64 k, .int .i64 n, V1, V2, V3, V4, V5] 30 (0, 0))
  bQ : w.heap[gr]? = some (.cells #[.int .i64 0, .bool false, .string ⟨#[]⟩, .int .u64 0, .int .i64 0, .slice none 0 0, .slice none 0 0, .slice none 0 0, .slice none 0 0, .slice none 0 0] 30 (0, 0))
  r1 : Kd.R k53 53 w W.heap.size (fun _ => True) V1 es
  r2 : Kd.R k47 47 w W.heap.size (fun _ => True) V2 chs
  r3 : Kd.R k59 59 w W.heap.size (fun _ => True) V3 cls
  r4 : Kd.R kC 44 w W.heap.size (fun _ => True) V4 coms
  r5 : Kd.R k62 62 w W.heap.size (fun _ => True) V5 refs
  fr : Fr W.heap.size [127] W w
  ne : W.heap.size ≤ gy ∧ gX ≠ gy ∧ gr ≠ gy
section
variable {W : World} {gX g gr gy : Nat} {w w1 : World} {s s' : RS} {e : Int} {i : Bool} {v : ByteArray} {k n : Int} {V1 V2 V3 V4 V5 : Value} {es : List Entry} {chs : List Change} {cls : List Clash} {coms : List Com} {refs : List Ref}
theorem RpSt.read (h : RpSt W gX g gr gy w s e i v k n V1 V2 V3 V4 V5 es chs cls coms refs) (hr : RrAt W.heap.size gX g w1 s') (hf : Fr W.heap.size [127] w w1) : RpSt W gX g gr gy w1 s' e i v k n V1 V2 V3 V4 V5 es chs cls coms refs :=
  ⟨hr, hf.blk h.bY (by decide), hf.blk h.bQ (by decide), hf.R h.r1 (en_E (by decide)), hf.R h.r2 (ch_E (by decide)), hf.R h.r3 (cl_E (by decide)), hf.R h.r4 (coE (by decide) (by decide)), hf.R h.r5 (rf_E (by decide)), h.fr.trans hf, h.ne⟩
theorem RpSt.c (h : RpSt W gX g gr gy w s e i v k n V1 V2 V3 V4 V5 es chs cls coms refs) : w.cell? ⟨gy, 0, none⟩ = some (.int .i64 e) ∧ w.cell? ⟨gy, 1, none⟩ = some (.bool i) ∧ w.cell? ⟨gy, 2, none⟩ = some (.string v) ∧ w.cell? ⟨gy, 3, none⟩ = some (.int .u64 k) ∧ w.cell? ⟨gy, 4, none⟩ = some (.int .i64 n) ∧ w.cell? ⟨gy, 5, none⟩ = some V1 ∧ w.cell? ⟨gy, 6, none⟩ = some V2 ∧ w.cell? ⟨gy, 7, none⟩ = some V3 ∧ w.cell? ⟨gy, 8, none⟩ = some V4 ∧ w.cell? ⟨gy, 9, none⟩ = some V5 := ten_cells h.bY
theorem RpSt.z (h : RpSt W gX g gr gy w s e i v k n V1 V2 V3 V4 V5 es chs cls coms refs) (j : Nat) : w.frozen? ⟨gy, j, none⟩ = false := blk_frozen h.bY j
theorem RpSt.x (h : RpSt W gX g gr gy w s e i v k n V1 V2 V3 V4 V5 es chs cls coms refs) : w.cell? ⟨gX, 0, none⟩ = some (.pointer (some ⟨g, 0, none⟩)) := one_cell h.rr.hX
theorem RpSt.put (h : RpSt W gX g gr gy w s e i v k n V1 V2 V3 V4 V5 es chs cls coms refs) (j : Nat) (u : Value) {e' : Int} {i' : Bool} {v' : ByteArray} {k' n' : Int} {U1 U2 U3 U4 U5 : Value} {es' : List Entry} {chs' : List Change} {cls' : List Clash} {coms' : List Com} {refs' : List Ref}
    (he : (#[.int .i64 e, .bool i, .string v, .int .u64 k, .int .i64 n, V1, V2, V3, V4, V5] : Array Value).setIfInBounds j u = #[.int .i64 e', .bool i', .string v', .int .u64 k', .int .i64 n', U1, U2, U3, U4, U5]) (q1 : Kd.R k53 53 w W.heap.size (fun _ => True) U1 es') (q2 : Kd.R k47 47 w W.heap.size (fun _ => True) U2 chs') (q3 : Kd.R k59 59 w W.heap.size (fun _ => True) U3 cls') (q4 : Kd.R kC 44 w W.heap.size (fun _ => True) U4 coms') (q5 : Kd.R k62 62 w W.heap.size (fun _ => True) U5 refs') :
    RpSt W gX g gr gy (w.setCell ⟨gy, j, none⟩ u) s e' i' v' k' n' U1 U2 U3 U4 U5 es' chs' cls' coms' refs' :=
  ⟨h.rr.set h.bY (by decide) h.ne.1 h.ne.2.1 j u, by rw [blk_set h.bY j u, he], blk_other h.bQ _ h.ne.2.2 _, Kd.R_set q1 h.bY (by decide) j u, Kd.R_set q2 h.bY (by decide) j u, Kd.R_set q3 h.bY (by decide) j u, Kd.R_set q4 h.bY (by decide) j u, Kd.R_set q5 h.bY (by decide) j u, h.fr.setNew (p := ⟨gy, j, none⟩) h.ne.1 u, h.ne⟩
end
set_option maxHeartbeats 64000000 in
set_option maxRecDepth 100000 in
theorem of20_calls (A : Option Addr) (c : Nat) (b : List Int) (W : World) (hC : Kd.C (Kd.int .u8) W A b.length b) (hF : Fine (b, false)) :
    Calls Try.prog 11 #[.slice A b.length c] W fun e W1 => OfRpAns W (ofRp b) e W1 := by
  have huR := Try.underlying30
  have huX := Try.underlying70
  obtain ⟨e, s1, h1⟩ : ∃ x t, rdNum E31 (b, false) = (x, t) := ⟨_, _, rfl⟩
  have HS1 := Aside0.mk h1
  have F1 : Fine s1 := by have hz := fine_num hF E31; rw [h1] at hz; exact hz
  obtain ⟨i, s2, h2⟩ : ∃ x t, rdFlag s1 = (x, t) := ⟨_, _, rfl⟩
  have HS2 := Aside0.mk h2
  have F2 : Fine s2 := by have hz := fine_flag F1; rw [h2] at hz; exact hz
  obtain ⟨v, s3, h3⟩ : ∃ x t, rdText LT s2 = (x, t) := ⟨_, _, rfl⟩
  have HS3 := Aside0.mk h3
  have F3 : Fine s3 := by have hz := fine_text F2 LT; rw [h3] at hz; exact hz
  obtain ⟨k, s4, h4⟩ : ∃ x t, rdNum M64 s3 = (x, t) := ⟨_, _, rfl⟩
  have HS4 := Aside0.mk h4
  have F4 : Fine s4 := by have hz := fine_num F3 M64; rw [h4] at hz; exact hz
  obtain ⟨u, s5, h5⟩ : ∃ x t, rdNum M64 s4 = (x, t) := ⟨_, _, rfl⟩
  have HS5 := Aside0.mk h5
  obtain ⟨es, s6, h6⟩ : ∃ x t, rdLs rdE s5 = (x, t) := ⟨_, _, rfl⟩
  have HS6 := Aside0.mk h6
  obtain ⟨chs, s7, h7⟩ : ∃ x t, rdLs rdCh s6 = (x, t) := ⟨_, _, rfl⟩
  have HS7 := Aside0.mk h7
  obtain ⟨cls, s8, h8⟩ : ∃ x t, rdLs rdCl s7 = (x, t) := ⟨_, _, rfl⟩
  have HS8 := Aside0.mk h8
  obtain ⟨coms, s9, h9⟩ : ∃ x t, rdLs rdCo s8 = (x, t) := ⟨_, _, rfl⟩
  have HS9 := Aside0.mk h9
  obtain ⟨refs, s10, h10⟩ : ∃ x t, rdLs rdRf s9 = (x, t) := ⟨_, _, rfl⟩
  have HS10 := Aside0.mk h10
  have hei := num_in hF E31 (by decide)
  rw [h1] at hei
  have hui := num_in F4 M64 (by decide)
  rw [h5] at hui
  have HUU := Aside0.mk (show U64 u from ⟨hui.1, hui.2.2⟩)
  have hwe : wrap64 e = e := by have h8 : e ≤ 2147483647 := hei.2.1; have h9 : 0 ≤ e := hei.1; unfold wrap64; omega
  have hwe2 : IntKind.i64.wrap e = e := by rw [IntKind.wrap_i64]; have h8 : e ≤ 2147483647 := hei.2.1; have h9 : 0 ≤ e := hei.1; omega
  have HRD := Aside0.mk (show rdRp (b, false) = (⟨e, i, v, k, zag u, es, chs, cls, coms, refs⟩, s10) by simp only [rdRp, seqR, h1, h2, h3, h4, h5, h6, h7, h8, h9, h10])
  have HP := Aside0.mk (rd_read A c b (W.alloc (.cells #[.int .i64 0, .bool false, .string ⟨#[]⟩, .int .u64 0, .int .i64 0, .slice none 0 0, .slice none 0 0, .slice none 0 0, .slice none 0 0, .slice none 0 0] 30)) (Kd.C_below hC (below_alloc (Below.refl _ _) _)) hF)
  have HQ0 := Aside0.mk (blk_new W (.cells #[.int .i64 0, .bool false, .string ⟨#[]⟩, .int .u64 0, .int .i64 0, .slice none 0 0, .slice none 0 0, .slice none 0 0, .slice none 0 0, .slice none 0 0] 30))
  have HB0 := Aside0.mk (below_alloc (Below.refl W.heap.size W) (.cells #[.int .i64 0, .bool false, .string ⟨#[]⟩, .int .u64 0, .int .i64 0, .slice none 0 0, .slice none 0 0, .slice none 0 0, .slice none 0 0, .slice none 0 0] 30))
  clear h1 h2 h3 h4 h5 h6 h7 h8 h9 h10 F1 F2 F3 F4 hei hui hC hF
  go_enter Try.func11, Try.ntmps11
  go_upto_region 1 with (fail)
  go_upto_region 2 with (go_at_call 31; refine HP.out.mono ?_; rintro e w1 ⟨g, rfl, hr, hb⟩; have HR1 := Aside0.mk (hr W.heap.size HB0.out.size); have HQ1 := Aside0.mk (blk_below HQ0.out hb); have HB1 := Aside0.mk (below_step HB0.out hb); clear hr hb)
  obtain ⟨gr, hgr⟩ : ∃ z, z = W.heap.size := ⟨_, rfl⟩
  rw [← hgr] at HQ1
  try rw [← hgr]
  have HGR := Aside0.mk hgr
  have HR2 := Aside0.mk (show RrAt W.heap.size w1.heap.size g (w1.alloc (.cells #[.pointer (some ⟨g, 0, none⟩)] 70)) (b, false) from ⟨blk_new _ _, HR1.out.below (below_alloc (Below.refl _ _) _)⟩)
  have HQ2 := Aside0.mk (blk_alloc HQ1.out (.cells #[.pointer (some ⟨g, 0, none⟩)] 70))
  have HF2 := Aside0.mk ((show Fr W.heap.size [127] W w1 from Fr.of_below HB1.out).allocs (.cells #[.pointer (some ⟨g, 0, none⟩)] 70))
  have HGX := Aside0.mk (show gr < w1.heap.size ∧ w1.heap.size < (w1.alloc (.cells #[.pointer (some ⟨g, 0, none⟩)] 70)).heap.size from ⟨blk_lt HQ1.out, by have h9 := size_one w1 (.cells #[.pointer (some ⟨g, 0, none⟩)] 70); omega⟩)
  clear hgr HQ1 HR1 HB1 HQ0 HB0 HP
  generalize w1.alloc (.cells #[.pointer (some ⟨g, 0, none⟩)] 70) = w2 at HR2 HQ2 HF2 HGX ⊢
  generalize w1.heap.size = gX at HR2 HGX ⊢
  have k0 := one_cell HR2.out.hX
  go_upto_region 3 with (go_at_call 32; refine (rd_num W.heap.size g _ 2147483647 _ HR2.out.rd).mono ?_; rw [HS1.out]; rintro e w3 ⟨rfl, hr, hf⟩; have HRb := Aside0.mk (HR2.out.fr hr hf); have HQb := Aside0.mk (hf.blk HQ2.out (by decide)); have HFb := Aside0.mk (HF2.out.trans hf); have HGb := Aside0.mk (show gX < w3.heap.size from Nat.lt_of_lt_of_le HGX.out.2 hf.size); clear hr hf)
  try simp only [hwe, hwe2]
  have HS := Aside0.mk (show RpSt W gX g gr w3.heap.size (w3.alloc (.cells #[.int .i64 e, .bool false, .string ⟨#[]⟩, .int .u64 0, .int .i64 0, .slice none 0 0, .slice none 0 0, .slice none 0 0, .slice none 0 0, .slice none 0 0] 30)) s1 e false ⟨#[]⟩ 0 0 (.slice none 0 0) (.slice none 0 0) (.slice none 0 0) (.slice none 0 0) (.slice none 0 0) [] [] [] [] [] from ⟨HRb.out.below (below_alloc (Below.refl _ _) _), blk_new _ _, blk_alloc HQb.out _, Kd.R_nil _ _ _ _ _, Kd.R_nil _ _ _ _ _, Kd.R_nil _ _ _ _ _, Kd.R_nil _ _ _ _ _, Kd.R_nil _ _ _ _ _, HFb.out.allocs _, by have a1 := HGX.out; have a2 := HGR.out; have a3 := HGb.out; omega⟩)
  clear k0 HRb HQb HFb HR2 HQ2 HF2 HGb
  generalize w3.alloc (.cells #[.int .i64 e, .bool false, .string ⟨#[]⟩, .int .u64 0, .int .i64 0, .slice none 0 0, .slice none 0 0, .slice none 0 0, .slice none 0 0, .slice none 0 0] 30) = u2 at HS ⊢
  generalize w3.heap.size = gy at HS ⊢
  have k0 := HS.out.x
  go_upto_region 4 with (go_at_call 33; refine (rd_flag W.heap.size g _ _ HS.out.rr.rd).mono ?_; rw [HS2.out]; rintro e' x1 ⟨rfl, hr, hf⟩; have HT := Aside0.mk (HS.out.read (HS.out.rr.fr hr hf) hf); have cc := HT.out.c.2.1; have zz := HT.out.z 1; clear hr hf)
  have HSn := Aside0.mk (HT.out.put 1 (.bool i) (e' := e) (i' := i) (v' := ⟨#[]⟩) (k' := 0) (n' := 0) (U1 := (.slice none 0 0)) (U2 := (.slice none 0 0)) (U3 := (.slice none 0 0)) (U4 := (.slice none 0 0)) (U5 := (.slice none 0 0)) rfl HT.out.r1 HT.out.r2 HT.out.r3 HT.out.r4 HT.out.r5)
  clear k0 cc zz HT HS
  generalize x1.setCell ⟨gy, 1, none⟩ (.bool i) = u3 at HSn ⊢
  have HS := HSn
  clear HSn
  have k0 := HS.out.x
  go_upto_region 5 with (go_at_call 34; refine (rd_text W.heap.size g _ 131072 _ HS.out.rr.rd (by decide)).mono ?_; rw [HS3.out]; rintro e' x2 ⟨rfl, hr, hf⟩; have HT := Aside0.mk (HS.out.read (HS.out.rr.fr hr hf) hf); have cc := HT.out.c.2.2.1; have zz := HT.out.z 2; clear hr hf)
  have HSn := Aside0.mk (HT.out.put 2 (.string v) (e' := e) (i' := i) (v' := v) (k' := 0) (n' := 0) (U1 := (.slice none 0 0)) (U2 := (.slice none 0 0)) (U3 := (.slice none 0 0)) (U4 := (.slice none 0 0)) (U5 := (.slice none 0 0)) rfl HT.out.r1 HT.out.r2 HT.out.r3 HT.out.r4 HT.out.r5)
  clear k0 cc zz HT HS
  generalize x2.setCell ⟨gy, 2, none⟩ (.string v) = u4 at HSn ⊢
  have HS := HSn
  clear HSn
  have k0 := HS.out.x
  go_upto_region 6 with (go_at_call 32; refine (rd_num W.heap.size g _ 18446744073709551615 _ HS.out.rr.rd).mono ?_; rw [HS4.out]; rintro e' x3 ⟨rfl, hr, hf⟩; have HT := Aside0.mk (HS.out.read (HS.out.rr.fr hr hf) hf); have cc := HT.out.c.2.2.2.1; have zz := HT.out.z 3; clear hr hf)
  have HSn := Aside0.mk (HT.out.put 3 (.int .u64 k) (e' := e) (i' := i) (v' := v) (k' := k) (n' := 0) (U1 := (.slice none 0 0)) (U2 := (.slice none 0 0)) (U3 := (.slice none 0 0)) (U4 := (.slice none 0 0)) (U5 := (.slice none 0 0)) rfl HT.out.r1 HT.out.r2 HT.out.r3 HT.out.r4 HT.out.r5)
  clear k0 cc zz HT HS
  generalize x3.setCell ⟨gy, 3, none⟩ (.int .u64 k) = u5 at HSn ⊢
  have HS := HSn
  clear HSn
  have k0 := HS.out.x
  go_upto_region 7 with (first | (go_at_call 32; refine (rd_num W.heap.size g _ 18446744073709551615 _ HS.out.rr.rd).mono ?_; rw [HS5.out]; rintro e' x4 ⟨rfl, hr, hf⟩; have HT := Aside0.mk (HS.out.read (HS.out.rr.fr hr hf) hf); have cc := HT.out.c.2.2.2.2.1; have zz := HT.out.z 4; clear hr hf) | (go_at_call 35; refine (zag_calls u HUU.out _).mono ?_; rintro e' x4 ⟨rfl, rfl⟩))
  have HSn := Aside0.mk (HT.out.put 4 (.int .i64 (zag u)) (e' := e) (i' := i) (v' := v) (k' := k) (n' := (zag u)) (U1 := (.slice none 0 0)) (U2 := (.slice none 0 0)) (U3 := (.slice none 0 0)) (U4 := (.slice none 0 0)) (U5 := (.slice none 0 0)) rfl HT.out.r1 HT.out.r2 HT.out.r3 HT.out.r4 HT.out.r5)
  clear k0 cc zz HT HS
  generalize x4.setCell ⟨gy, 4, none⟩ (.int .i64 (zag u)) = u6 at HSn ⊢
  have HS := HSn
  clear HSn
  have k0 := HS.out.x
  go_upto_region 8 with (go_at_call 36; refine (rl_entry W.heap.size gX g _ _ HS.out.rr).mono ?_; rw [HS6.out]; rintro e' x5 ⟨V1, rfl, ho, hr, hf⟩; obtain ⟨A1, n1, hvv, _, _⟩ := Kd.R_reads ho; subst hvv; have HT := Aside0.mk (HS.out.read hr hf); have HO := Aside0.mk (Kd.R_lower ho HS.out.fr.size); have cc := HT.out.c.2.2.2.2.2.1; have zz := HT.out.z 5; clear ho hr hf)
  have HSn := Aside0.mk (HT.out.put 5 (.slice A1 es.length n1) (e' := e) (i' := i) (v' := v) (k' := k) (n' := (zag u)) (U1 := (.slice A1 es.length n1)) (U2 := (.slice none 0 0)) (U3 := (.slice none 0 0)) (U4 := (.slice none 0 0)) (U5 := (.slice none 0 0)) rfl HO.out HT.out.r2 HT.out.r3 HT.out.r4 HT.out.r5)
  clear k0 cc zz HT HS HO
  generalize x5.setCell ⟨gy, 5, none⟩ (.slice A1 es.length n1) = u7 at HSn ⊢
  have HS := HSn
  clear HSn
  have k0 := HS.out.x
  go_upto_region 9 with (go_at_call 38; refine (rl_change W.heap.size gX g _ _ HS.out.rr).mono ?_; rw [HS7.out]; rintro e' x6 ⟨V2, rfl, ho, hr, hf⟩; obtain ⟨A2, n2, hvv, _, _⟩ := Kd.R_reads ho; subst hvv; have HT := Aside0.mk (HS.out.read hr hf); have HO := Aside0.mk (Kd.R_lower ho HS.out.fr.size); have cc := HT.out.c.2.2.2.2.2.2.1; have zz := HT.out.z 6; clear ho hr hf)
  have HSn := Aside0.mk (HT.out.put 6 (.slice A2 chs.length n2) (e' := e) (i' := i) (v' := v) (k' := k) (n' := (zag u)) (U1 := (.slice A1 es.length n1)) (U2 := (.slice A2 chs.length n2)) (U3 := (.slice none 0 0)) (U4 := (.slice none 0 0)) (U5 := (.slice none 0 0)) rfl HT.out.r1 HO.out HT.out.r3 HT.out.r4 HT.out.r5)
  clear k0 cc zz HT HS HO
  generalize x6.setCell ⟨gy, 6, none⟩ (.slice A2 chs.length n2) = u8 at HSn ⊢
  have HS := HSn
  clear HSn
  have k0 := HS.out.x
  go_upto_region 10 with (go_at_call 40; refine (rl_clash W.heap.size gX g _ _ HS.out.rr).mono ?_; rw [HS8.out]; rintro e' x7 ⟨V3, rfl, ho, hr, hf⟩; obtain ⟨A3, n3, hvv, _, _⟩ := Kd.R_reads ho; subst hvv; have HT := Aside0.mk (HS.out.read hr hf); have HO := Aside0.mk (Kd.R_lower ho HS.out.fr.size); have cc := HT.out.c.2.2.2.2.2.2.2.1; have zz := HT.out.z 7; clear ho hr hf)
  have HSn := Aside0.mk (HT.out.put 7 (.slice A3 cls.length n3) (e' := e) (i' := i) (v' := v) (k' := k) (n' := (zag u)) (U1 := (.slice A1 es.length n1)) (U2 := (.slice A2 chs.length n2)) (U3 := (.slice A3 cls.length n3)) (U4 := (.slice none 0 0)) (U5 := (.slice none 0 0)) rfl HT.out.r1 HT.out.r2 HO.out HT.out.r4 HT.out.r5)
  clear k0 cc zz HT HS HO
  generalize x7.setCell ⟨gy, 7, none⟩ (.slice A3 cls.length n3) = u9 at HSn ⊢
  have HS := HSn
  clear HSn
  have k0 := HS.out.x
  go_upto_region 11 with (go_at_call 42; refine (rl_commit W.heap.size gX g _ _ HS.out.rr).mono ?_; rw [HS9.out]; rintro e' x8 ⟨V4, rfl, ho, hr, hf⟩; obtain ⟨A4, n4, hvv, _, _⟩ := Kd.R_reads ho; subst hvv; have HT := Aside0.mk (HS.out.read hr hf); have HO := Aside0.mk (Kd.R_lower ho HS.out.fr.size); have cc := HT.out.c.2.2.2.2.2.2.2.2.1; have zz := HT.out.z 8; clear ho hr hf)
  have HSn := Aside0.mk (HT.out.put 8 (.slice A4 coms.length n4) (e' := e) (i' := i) (v' := v) (k' := k) (n' := (zag u)) (U1 := (.slice A1 es.length n1)) (U2 := (.slice A2 chs.length n2)) (U3 := (.slice A3 cls.length n3)) (U4 := (.slice A4 coms.length n4)) (U5 := (.slice none 0 0)) rfl HT.out.r1 HT.out.r2 HT.out.r3 HO.out HT.out.r5)
  clear k0 cc zz HT HS HO
  generalize x8.setCell ⟨gy, 8, none⟩ (.slice A4 coms.length n4) = u10 at HSn ⊢
  have HS := HSn
  clear HSn
  have k0 := HS.out.x
  go_upto_region 12 with (go_at_call 44; refine (rl_ref W.heap.size gX g _ _ HS.out.rr).mono ?_; rw [HS10.out]; rintro e' x9 ⟨V5, rfl, ho, hr, hf⟩; obtain ⟨A5, n5, hvv, _, _⟩ := Kd.R_reads ho; subst hvv; have HT := Aside0.mk (HS.out.read hr hf); have HO := Aside0.mk (Kd.R_lower ho HS.out.fr.size); have cc := HT.out.c.2.2.2.2.2.2.2.2.2; have zz := HT.out.z 9; clear ho hr hf)
  have HSn := Aside0.mk (HT.out.put 9 (.slice A5 refs.length n5) (e' := e) (i' := i) (v' := v) (k' := k) (n' := (zag u)) (U1 := (.slice A1 es.length n1)) (U2 := (.slice A2 chs.length n2)) (U3 := (.slice A3 cls.length n3)) (U4 := (.slice A4 coms.length n4)) (U5 := (.slice A5 refs.length n5)) rfl HT.out.r1 HT.out.r2 HT.out.r3 HT.out.r4 HO.out)
  clear k0 cc zz HT HS HO
  generalize x9.setCell ⟨gy, 9, none⟩ (.slice A5 refs.length n5) = u11 at HSn ⊢
  have HS := HSn
  clear HSn
  have k0 := HS.out.x
  obtain ⟨y0, y1, y2, y3, y4, y5, y6, y7, y8, y9⟩ := HS.out.c
  obtain ⟨r0, r1, r2, r3, r4, r5, r6, r7, r8, r9⟩ := ten_cells HS.out.bQ
  have zr := fun j => blk_frozen HS.out.bQ j
  cases hd : rdDone s10 with
  | true =>
    have HDN := Aside0.mk hd
    have HOF := Aside0.mk (show ofRp b = (⟨e, i, v, k, zag u, es, chs, cls, coms, refs⟩, 0) by unfold ofRp; rw [HRD.out]; simp only; rw [if_pos hd])
    clear hd
    obtain ⟨hk, hf⟩ := ten_put (B := W.heap.size) HS.out.bQ (Nat.le_of_eq HGR.out.symm) (.int .i64 e) (.bool i) (.string v) (.int .u64 k) (.int .i64 (zag u)) (.slice A1 es.length n1) (.slice A2 chs.length n2) (.slice A3 cls.length n3) (.slice A4 coms.length n4) (.slice A5 refs.length n5)
    have HKe := Aside0.mk hk
    have HBe := Aside0.mk (HS.out.fr.below (Nat.le_refl _) |>.trans (hf.below HS.out.fr.size))
    have HC1 := Aside0.mk (Kd.R_reads (hf.R HS.out.r1 (en_E (by decide))))
    have HC2 := Aside0.mk (Kd.R_reads (hf.R HS.out.r2 (ch_E (by decide))))
    have HC3 := Aside0.mk (Kd.R_reads (hf.R HS.out.r3 (cl_E (by decide))))
    have HC4 := Aside0.mk (Kd.R_reads (hf.R HS.out.r4 (coE (by decide) (by decide))))
    have HC5 := Aside0.mk (Kd.R_reads (hf.R HS.out.r5 (rf_E (by decide))))
    clear hk hf
    go_wp2_with (go_at_call 46; refine (rd_done W.heap.size g _ _ HS.out.rr.rd).mono ?_; rw [HDN.out]; rintro e' x10 ⟨rfl, rfl⟩)
    generalize (World.setCell (World.setCell (World.setCell (World.setCell (World.setCell (World.setCell (World.setCell (World.setCell (World.setCell (World.setCell u11 ⟨gr, 0, none⟩ (.int .i64 e)) ⟨gr, 1, none⟩ (.bool i)) ⟨gr, 2, none⟩ (.string v)) ⟨gr, 3, none⟩ (.int .u64 k)) ⟨gr, 4, none⟩ (.int .i64 (zag u))) ⟨gr, 5, none⟩ (.slice A1 es.length n1)) ⟨gr, 6, none⟩ (.slice A2 chs.length n2)) ⟨gr, 7, none⟩ (.slice A3 cls.length n3)) ⟨gr, 8, none⟩ (.slice A4 coms.length n4)) ⟨gr, 9, none⟩ (.slice A5 refs.length n5)) = wz at HKe HBe HC1 HC2 HC3 HC4 HC5 ⊢
    refine bodyPost_ret (results_ct rfl _ _ gr 30 #[.int .i64 e, .bool i, .string v, .int .u64 k, .int .i64 (zag u), .slice A1 es.length n1, .slice A2 chs.length n2, .slice A3 cls.length n3, .slice A4 coms.length n4, .slice A5 refs.length n5] (0, 0) _ rfl HKe.out huR rfl (by kernel_rfl)) rfl ?_
    rw [HOF.out]
    obtain ⟨B1, o1, hv1, hl1, hC1⟩ := HC1.out
    injection hv1 with ea eb ec
    subst ea ec
    clear eb
    obtain ⟨B2, o2, hv2, hl2, hC2⟩ := HC2.out
    injection hv2 with ea eb ec
    subst ea ec
    clear eb
    obtain ⟨B3, o3, hv3, hl3, hC3⟩ := HC3.out
    injection hv3 with ea eb ec
    subst ea ec
    clear eb
    obtain ⟨B4, o4, hv4, hl4, hC4⟩ := HC4.out
    injection hv4 with ea eb ec
    subst ea ec
    clear eb
    obtain ⟨B5, o5, hv5, hl5, hC5⟩ := HC5.out
    injection hv5 with ea eb ec
    subst ea ec
    clear eb
    exact ⟨A1, n1, A2, n2, A3, n3, A4, n4, A5, n5, rfl, ⟨hC1, hl1, hC2, hl2, hC3, hl3, hC4, hl4, hC5, hl5⟩, HBe.out⟩
  | false =>
    have HDN := Aside0.mk hd
    have HOF := Aside0.mk (show ofRp b = (noRp, 20) by unfold ofRp; rw [HRD.out]; simp only; rw [if_neg (by rw [hd]; decide)])
    clear hd
    obtain ⟨hk, hf⟩ := ten_put (B := W.heap.size) HS.out.bQ (Nat.le_of_eq HGR.out.symm) (.int .i64 0) (.bool false) (.string ⟨#[]⟩) (.int .u64 0) (.int .i64 0) (.slice none 0 0) (.slice none 0 0) (.slice none 0 0) (.slice none 0 0) (.slice none 0 0)
    have HKe := Aside0.mk hk
    have HBe := Aside0.mk (HS.out.fr.below (Nat.le_refl _) |>.trans (hf.below HS.out.fr.size))
    clear hk hf
    go_wp2_with (go_at_call 46; refine (rd_done W.heap.size g _ _ HS.out.rr.rd).mono ?_; rw [HDN.out]; rintro e' x10 ⟨rfl, rfl⟩)
    generalize (World.setCell (World.setCell (World.setCell (World.setCell (World.setCell (World.setCell (World.setCell (World.setCell (World.setCell (World.setCell u11 ⟨gr, 0, none⟩ (.int .i64 0)) ⟨gr, 1, none⟩ (.bool false)) ⟨gr, 2, none⟩ (.string ⟨#[]⟩)) ⟨gr, 3, none⟩ (.int .u64 0)) ⟨gr, 4, none⟩ (.int .i64 0)) ⟨gr, 5, none⟩ (.slice none 0 0)) ⟨gr, 6, none⟩ (.slice none 0 0)) ⟨gr, 7, none⟩ (.slice none 0 0)) ⟨gr, 8, none⟩ (.slice none 0 0)) ⟨gr, 9, none⟩ (.slice none 0 0)) = wz at HKe HBe ⊢
    refine bodyPost_ret (results_ct rfl _ _ gr 30 #[.int .i64 0, .bool false, .string ⟨#[]⟩, .int .u64 0, .int .i64 0, .slice none 0 0, .slice none 0 0, .slice none 0 0, .slice none 0 0, .slice none 0 0] (0, 0) _ rfl HKe.out huR rfl (by kernel_rfl)) rfl ?_
    rw [HOF.out]
    exact ⟨none, 0, none, 0, none, 0, none, 0, none, 0, rfl, ⟨Kd.C_nil _ _, Nat.le_refl _, Kd.C_nil _ _, Nat.le_refl _, Kd.C_nil _ _, Nat.le_refl _, Kd.C_nil _ _, Nat.le_refl _, Kd.C_nil _ _, Nat.le_refl _⟩, HBe.out⟩
end Go.Proofs.Ytcegkljkmnpkaaa.Sep
namespace Go.Proofs.Ytcegkljkmnpkaaa.Sep
set_option linter.unusedSimpArgs false
set_option linter.unusedVariables false
open Go.RowKit Go.Proofs.Ytcegkljkmnpkaaa.PCore Go.Proofs.Ytcegkljkmnpkaaa.Plain Go.Proofs.YtcegkljkmnpkaaaW.PrintWords Go.Proofs.YtcegkljkmnpkaaaW.PrintLast Go.Proofs.YtcegkljkmnpkaaaW.PrintMore
theorem sameRp_me (a : Rp) : sameRp a a = true := by simp [sameRp, plainRp, listsRp, oneL_self]
theorem lightEntry_in {l : List Entry} (h : lightEntry l = true) : l.length ≤ 60 ∧ ∀ x ∈ l, x.f0.size ≤ 60 ∧ x.f1.size ≤ 250 := by
  simp only [lightEntry, Bool.and_eq_true, decide_eq_true_eq, List.all_eq_true] at h
  refine ⟨h.2, fun x hx => ?_⟩
  have h1 := h.1 x hx
  simp only [badEntry, Bool.not_eq_true', Bool.or_eq_false_iff, decide_eq_false_iff_not] at h1
  omega
theorem lightClash_in {l : List Clash} (h : lightClash l = true) : l.length ≤ 20 ∧ ∀ x ∈ l, x.f0.size ≤ 60 ∧ x.f1.f1.size ≤ 250 ∧ x.f2.f1.size ≤ 250 ∧ x.f3.f1.size ≤ 250 := by
  simp only [lightClash, Bool.and_eq_true, decide_eq_true_eq, List.all_eq_true] at h
  refine ⟨h.2, fun x hx => ?_⟩
  have h1 := h.1 x hx
  simp only [badClash, Bool.not_eq_true', Bool.or_eq_false_iff, decide_eq_false_iff_not] at h1
  omega
theorem lightRef_in {l : List Ref} (h : lightRef l = true) : l.length ≤ 45 ∧ ∀ x ∈ l, x.f0.size ≤ 40 := by
  simp only [lightRef, Bool.and_eq_true, decide_eq_true_eq, List.all_eq_true] at h
  refine ⟨h.2, fun x hx => ?_⟩
  have h1 := h.1 x hx
  simp only [badRef, Bool.not_eq_true', decide_eq_false_iff_not] at h1
  omega
/-- What a small answer is. -/
structure Small (a : Rp) : Prop where
  coms : a.coms.length ≤ 20 ∧ ∀ c ∈ a.coms, c.ps.length ≤ 5 ∧ c.text.size ≤ 100
  chs : a.chs.length ≤ 30 ∧ ∀ c ∈ a.chs, c.f0.size ≤ 60 ∧ c.f2.size ≤ 250 ∧ c.f4.size ≤ 250
  val : a.val.size ≤ 250
  es : a.es.length ≤ 60 ∧ ∀ x ∈ a.es, x.f0.size ≤ 60 ∧ x.f1.size ≤ 250
  cls : a.cls.length ≤ 20 ∧ ∀ x ∈ a.cls, x.f0.size ≤ 60 ∧ x.f1.f1.size ≤ 250 ∧ x.f2.f1.size ≤ 250 ∧ x.f3.f1.size ≤ 250
  refs : a.refs.length ≤ 45 ∧ ∀ x ∈ a.refs, x.f0.size ≤ 40
theorem light_small {a : Rp} (h : lightRp a = true) : Small a := by
  simp only [lightRp, Bool.and_eq_true, decide_eq_true_eq, List.all_eq_true] at h
  obtain ⟨h1, h2, h3, h4, h5, h6, h7, h8⟩ := h
  refine ⟨⟨h4, fun c hc => ?_⟩, ⟨h5, fun c hc => ?_⟩, h3, lightEntry_in h6, lightClash_in h7, lightRef_in h8⟩
  · have := h1 c hc
    simpa only [lightCo, Bool.and_eq_true, decide_eq_true_eq] using this
  · have := h2 c hc
    simpa only [okCh, Bool.and_eq_true, decide_eq_true_eq] using this
/-- Bytes. -/
def By (l : List Int) : Prop := ∀ x ∈ l, 0 ≤ x ∧ x < 256
theorem By.app {a b : List Int} (ha : By a) (hb : By b) : By (a ++ b) := fun x hx => (List.mem_append.1 hx).elim (ha x) (hb x)
theorem By.num {n : Int} (h : 0 ≤ n) : By (enc n) := enc_in h
theorem By.flag (b : Bool) : By (encB b) := encB_in b
theorem By.many {α : Type} (en : α → List Int) (l : List α) (h : ∀ x ∈ l, By (en x)) : By (encMany en l) := fun x hx => by
  simp only [encMany, List.mem_flatten, List.mem_map] at hx
  obtain ⟨q, ⟨y, hy, rfl⟩, hx⟩ := hx
  exact h y hy x hx
theorem By.ls {α : Type} (en : α → List Int) (l : List α) (h : ∀ x ∈ l, By (en x)) : By (encLs en l) := (By.num (Int.natCast_nonneg _)).app (By.many en l h)
theorem many_le {α : Type} (en : α → List Int) (K : Nat) : ∀ (l : List α), (∀ x ∈ l, (en x).length ≤ K) → (encMany en l).length ≤ K * l.length
  | [], _ => by simp [encMany]
  | x :: l, h => by
    have h1 := many_le en K l (fun y hy => h y (by simp [hy]))
    have h2 := h x (by simp)
    have e : encMany en (x :: l) = en x ++ encMany en l := rfl
    rw [e, List.length_append, List.length_cons, Nat.mul_add]
    omega
theorem ls_le {α : Type} (en : α → List Int) (K M : Nat) (l : List α) (hl : l.length ≤ M) (hM : M ≤ 1000000) (h : ∀ x ∈ l, (en x).length ≤ K) : (encLs en l).length ≤ 10 + K * M := by
  have h1 := many_le en K l h
  have h2 := enc_len_u64 (n := (l.length : Int)) (by omega) (by omega)
  have h3 : K * l.length ≤ K * M := Nat.mul_le_mul_left K hl
  rw [encLs, List.length_append]
  omega
theorem encB_len (b : Bool) : (encB b).length = 1 := by cases b <;> rfl
theorem encT_le {s : ByteArray} {k : Nat} (h : s.size ≤ k) (hk : k ≤ 1000) : (encT s).length ≤ k + 10 := by have := encT_len s (by omega); omega
theorem encRp_len (a : Rp) (hS : Small a) (hI : RpIn a) : (encRp a).length ≤ 1000000 := by
  obtain ⟨hid, hn, he, hco, hrf⟩ := hI
  have q0 := enc_len_u64 (errU_in a.err).1 (errU_in a.err).2
  have q1 := encB_len a.is
  have q2 := encT_le hS.val (by decide)
  have q3 := enc_len_u64 hid.1 hid.2
  have q4 := enc_len_u64 (zig_in hn).1 (zig_in hn).2
  have l1 := ls_le encE 330 60 a.es hS.es.1 (by decide) (fun x hx => by
    have a1 := encT_le (hS.es.2 x hx).1 (by decide); have a2 := encT_le (hS.es.2 x hx).2 (by decide)
    rw [encE, List.length_append]; omega)
  have l2 := ls_le encCh 600 30 a.chs hS.chs.1 (by decide) (fun x hx => by
    have a1 := encT_le (hS.chs.2 x hx).1 (by decide); have a2 := encT_le (hS.chs.2 x hx).2.1 (by decide); have a3 := encT_le (hS.chs.2 x hx).2.2 (by decide)
    simp only [encCh, List.length_append, encB_len]; omega)
  have l3 := ls_le encCl 900 20 a.cls hS.cls.1 (by decide) (fun x hx => by
    obtain ⟨h0, h1, h2, h3⟩ := hS.cls.2 x hx
    have a1 := encT_le h0 (by decide); have a2 := encT_le h1 (by decide); have a3 := encT_le h2 (by decide); have a4 := encT_le h3 (by decide)
    simp only [encCl, encSd, List.length_append, encB_len]; omega)
  have l4 := ls_le encCo 210 20 a.coms hS.coms.1 (by decide) (fun c hc => by
    obtain ⟨h0, h1⟩ := hS.coms.2 c hc
    have hi := hco c hc
    have a1 := enc_len_u64 hi.1.1 hi.1.2; have a2 := enc_len_u64 hi.2.2.1.1 hi.2.2.1.2; have a3 := enc_len_u64 hi.2.2.2.1 hi.2.2.2.2
    have a4 := encT_le h1 (by decide); have a5 := encs_le c.ps hi.2.1; have a6 := enc_len_u64 (n := (c.ps.length : Int)) (by omega) (by omega)
    simp only [encCo, List.length_append]; omega)
  have l5 := ls_le encRf 70 45 a.refs hS.refs.1 (by decide) (fun x hx => by
    have a1 := encT_le (hS.refs.2 x hx) (by decide); have a2 := enc_len_u64 (hrf x hx).1 (hrf x hx).2
    simp only [encRf, List.length_append, encB_len]; omega)
  simp only [encRp, List.length_append]
  omega
end Go.Proofs.Ytcegkljkmnpkaaa.Sep
