/- A node told of bytes: plain; and the program's entry, kid. Printed by gen16.py. Conditions: the bounds of the statements. · A node told of bytes: the walk of the program's Of. Printed by gen17.py. Conditions: the bounds of the statements. · What Put and Of tell of each other; a node's last key: plain. Conditions: the bounds of the statements. · An argument that is a node. Conditions: none. -/
import Derived.Test.YtdbgfmiokmempaaNodeD
import Derived.Deep.AppendLies
import Derived.Deep.RegionLaw
import Derived.Test.YtdbgfmiokmempaaOpenS
namespace Go.Proofs.Ytdbgfmiokmempaa.Sep
set_option linter.unusedSimpArgs false
set_option linter.unusedVariables false
open Go.RowKit Go.Proofs.Ytdbgfmiokmempaa.PCore Go.Proofs.Ytdbgfmiokmempaa.Plain Go.Proofs.YtdbgfmiokmempaaW.PrintWords Go.Proofs.YtdbgfmiokmempaaW.PrintLast Go.Proofs.YtdbgfmiokmempaaW.PrintMore
open Go.Proofs.Ytdbgfmiokmempaa.PDat (S27 k27 z27 rd_T27 at_T27 S60 k60 z60 rd_T60 at_T60)
open Ends (endsB)
abbrev M64 : Int := 18446744073709551615
/-- Reading an entry, a child. -/
def rdE (s : RS) : Entry × RS := (⟨(rdText 40 s).1, (rdText 200 (rdText 40 s).2).1⟩, (rdText 200 (rdText 40 s).2).2)
def rdK (s : RS) : Kid × RS := (⟨(rdText 40 s).1, (rdNum M64 (rdText 40 s).2).1⟩, (rdNum M64 (rdText 40 s).2).2)
def rdMany {α : Type} (f : RS → α × RS) : Nat → RS → List α × RS
  | 0, s => ([], s)
  | n + 1, s => ((f s).1 :: (rdMany f n (f s).2).1, (rdMany f n (f s).2).2)
theorem many_len {α : Type} (f : RS → α × RS) : ∀ (n : Nat) (s : RS), (rdMany f n s).1.length = n
  | 0, s => rfl
  | n + 1, s => by simp [rdMany, many_len f n]
theorem many_fine {α : Type} (f : RS → α × RS) (hf : ∀ s, Fine s → Fine (f s).2) : ∀ (n : Nat) {s : RS}, Fine s → Fine (rdMany f n s).2
  | 0, s, h => h
  | n + 1, s, h => many_fine f hf n (hf s h)
theorem many_snoc {α : Type} (f : RS → α × RS) (j : Nat) (s s0 : RS) (xs : List α) (N : Nat) (h : rdMany f N s0 = (xs ++ (rdMany f (j + 1) s).1, (rdMany f (j + 1) s).2)) : rdMany f N s0 = ((xs ++ [(f s).1]) ++ (rdMany f j (f s).2).1, (rdMany f j (f s).2).2) := by
  rw [h]
  simp [rdMany]
theorem many_bad {α : Type} (f : RS → α × RS) (hf : ∀ s, s.2 = true → (f s).2.2 = true) : ∀ (n : Nat) {s : RS}, s.2 = true → (rdMany f n s).2.2 = true
  | 0, s, h => h
  | n + 1, s, h => many_bad f hf n (hf s h)
theorem many_enc {α : Type} (f : RS → α × RS) (en : α → List Int) (r : List Int) : ∀ (l : List α), (∀ x ∈ l, ∀ r, f (en x ++ r, false) = (x, (r, false))) → rdMany f l.length ((l.map en).flatten ++ r, false) = (l, (r, false))
  | [], _ => rfl
  | x :: l, h => by
    have e : ((x :: l).map en).flatten ++ r = en x ++ ((l.map en).flatten ++ r) := by simp
    rw [e]
    simp only [List.length_cons, rdMany]
    rw [h x (by simp)]
    simp only
    rw [many_enc f en r l (fun y hy => h y (by simp [hy]))]
theorem many_of {α : Type} (f : RS → α × RS) (en : α → List Int) (hf : ∀ s, Fine s → Fine (f s).2) (ho : ∀ s, Fine s → (f s).2.2 = false → s.2 = false ∧ s.1 = en (f s).1 ++ (f s).2.1) :
    ∀ (n : Nat) {s : RS}, Fine s → (rdMany f n s).2.2 = false → s.2 = false ∧ s.1 = ((rdMany f n s).1.map en).flatten ++ (rdMany f n s).2.1
  | 0, s, _, h => ⟨h, by simp [rdMany]⟩
  | n + 1, s, hb, h => by
    obtain ⟨a1, a2⟩ := many_of f en hf ho n (hf s hb) h
    obtain ⟨b1, b2⟩ := ho s hb a1
    refine ⟨b1, ?_⟩
    rw [a2] at b2
    rw [b2]
    simp [rdMany]
theorem fine_E (s : RS) (h : Fine s) : Fine (rdE s).2 := fine_text (fine_text h 40) 200
theorem fine_K (s : RS) (h : Fine s) : Fine (rdK s).2 := fine_num (fine_text h 40) M64
theorem bad_E (s : RS) (h : s.2 = true) : (rdE s).2.2 = true := rdText_bad (rdText_bad h)
theorem bad_K (s : RS) (h : s.2 = true) : (rdK s).2.2 = true := rdNum_bad (rdText_bad h)
theorem rdE_enc (x : Entry) (h : x.f0.size ≤ 40 ∧ x.f1.size ≤ 200) (r : List Int) : rdE (encE x ++ r, false) = (x, (r, false)) := by
  unfold rdE encE
  rw [List.append_assoc, rdText_enc _ (by omega) (by omega)]
  simp only
  rw [rdText_enc _ (by omega) (by omega)]
theorem rdK_enc (x : Kid) (h : x.f0.size ≤ 40) (hi : 0 ≤ x.f1 ∧ x.f1 < 18446744073709551616) (r : List Int) : rdK (encK x ++ r, false) = (x, (r, false)) := by
  unfold rdK encK
  rw [List.append_assoc, rdText_enc _ (by omega) (by omega)]
  simp only
  rw [rdNum_enc _ hi.1 hi.2 (by show x.f1 ≤ 18446744073709551615; omega)]
theorem rdE_of (s : RS) (hb : Fine s) (h : (rdE s).2.2 = false) : s.2 = false ∧ s.1 = encE (rdE s).1 ++ (rdE s).2.1 := by
  obtain ⟨h1, h2, _⟩ := rdText_of (most := 200) (fine_text hb 40).1 h
  obtain ⟨h3, h4, _⟩ := rdText_of hb.1 h1
  refine ⟨h3, ?_⟩
  rw [h2] at h4
  simp only [encE, rdE, List.append_assoc]
  exact h4
theorem rdK_of (s : RS) (hb : Fine s) (h : (rdK s).2.2 = false) : s.2 = false ∧ s.1 = encK (rdK s).1 ++ (rdK s).2.1 := by
  obtain ⟨h1, h2, _⟩ := rdNum_of (most := M64) (fine_text hb 40).1 h
  obtain ⟨h3, h4, _⟩ := rdText_of hb.1 h1
  refine ⟨h3, ?_⟩
  rw [h2] at h4
  simp only [encK, rdK, List.append_assoc]
  exact h4
/-- A node. -/
structure Nod where
  lev : Int
  es : List Entry
  ks : List Kid
def zeroN : Nod := ⟨0, [], []⟩
/-- The node that bytes begin with, if no more than 'most' parts are read. -/
def rdN (most : Int) (b : List Int) : Nod × RS :=
  if (rdNum 20 (b, false)).1 = 0 then (⟨0, (rdMany rdE (rdNum most (rdNum 20 (b, false)).2).1.toNat (rdNum most (rdNum 20 (b, false)).2).2).1, []⟩, (rdMany rdE (rdNum most (rdNum 20 (b, false)).2).1.toNat (rdNum most (rdNum 20 (b, false)).2).2).2)
  else (⟨(rdNum 20 (b, false)).1, [], (rdMany rdK (rdNum most (rdNum 20 (b, false)).2).1.toNat (rdNum most (rdNum 20 (b, false)).2).2).1⟩, (rdMany rdK (rdNum most (rdNum 20 (b, false)).2).1.toNat (rdNum most (rdNum 20 (b, false)).2).2).2)
/-- What Of tells. -/
def ofN (b : List Int) : Nod × Int := if rdDone (rdN b.length b).2 = true ∧ b.length ≤ 131072 ∧ nodeE (rdN b.length b).1.lev (rdN b.length b).1.es (rdN b.length b).1.ks = 0 then ((rdN b.length b).1, 0) else (zeroN, 90)
theorem Fr.set_new {B : Nat} {T : List Nat} {W W1 : World} (h : Fr B T W W1) {g : Nat} (hg : W.heap.size ≤ g) (j : Nat) (u : Value) : Fr B T W (W1.setCell ⟨g, j, none⟩ u) :=
  ⟨h.os, h.tape, h.output, by simpa [World.setCell] using h.size, fun k hk hT => by
    rw [Below.heap_setCell _ _ _ _ (show k ≠ g by omega)]
    exact h.block k hk hT⟩
set_option maxHeartbeats 4000000 in
set_option maxRecDepth 100000 in
theorem entry_calls (B g : Nat) (s : RS) (W : World) (h : RdAt 89 B g W s) :
    Calls Try.prog 43 #[.pointer (some ⟨g, 0, none⟩), .func (.func 41) #[] #[]] W fun e W1 => e = .returned (.agg #[.string (rdE s).1.f0, .string (rdE s).1.f1]) ∧ RdAt 89 B g W1 (rdE s).2 ∧ Fr B [89] W W1 := by
  have HP := Aside0.mk h
  clear h
  have huF := Try.underlying27
  go_enter Try.func43, Try.ntmps43
  go_wp2_with (first | (go_at_call 41; have hq := HR1.out; clear hq; refine (rd_text B g _ 200 _ (HR1.out.below (below_alloc (Below.refl _ _) _)) (by decide)).mono ?_; rintro e w2 ⟨rfl, hr, hf⟩; have HR2 := Aside0.mk hr; have hkv := hf.blk (blk_new w1 (.cells #[.string (rdText 40 s).1, .string ⟨#[]⟩] 27)) (by decide); have HKV := Aside0.mk hkv; have hkr := hf.blk (blk_alloc HKR.out (.cells #[.string (rdText 40 s).1, .string ⟨#[]⟩] 27)) (by decide); have HKR2 := Aside0.mk hkr; have HF2 := Aside0.mk ((Fr.alloc HF1.out).trans (Fr.alloc hf)); have y0 : World.cell? w2 ⟨w1.heap.size, 0, none⟩ = some (.string (rdText 40 s).1) := (blk_cell hkv 0).trans rfl; have y1 : World.cell? w2 ⟨w1.heap.size, 1, none⟩ = some (.string ⟨#[]⟩) := (blk_cell hkv 1).trans rfl; have z0 := blk_frozen hkv 0; have z1 := blk_frozen hkv 1; have x0 : World.cell? w2 ⟨W.heap.size, 0, none⟩ = some (.string ⟨#[]⟩) := (blk_cell hkr 0).trans rfl; have x1 : World.cell? w2 ⟨W.heap.size, 1, none⟩ = some (.string ⟨#[]⟩) := (blk_cell hkr 1).trans rfl; have t0 := blk_frozen hkr 0; have t1 := blk_frozen hkr 1; have hx := blk_far hkr (p := ⟨w1.heap.size, 1, none⟩) (Nat.ne_of_lt (blk_lt HKR.out)) (.string (rdText 200 (rdText 40 s).2).1); have HX := Aside0.mk hx; have x0' : World.cell? (w2.setCell ⟨w1.heap.size, 1, none⟩ (.string (rdText 200 (rdText 40 s).2).1)) ⟨W.heap.size, 0, none⟩ = some (.string ⟨#[]⟩) := (blk_cell hx 0).trans rfl; have x1' : World.cell? (w2.setCell ⟨w1.heap.size, 1, none⟩ (.string (rdText 200 (rdText 40 s).2).1)) ⟨W.heap.size, 1, none⟩ = some (.string ⟨#[]⟩) := (blk_cell hx 1).trans rfl; have t0' := blk_frozen hx 0; have t1' := blk_frozen hx 1; clear hr hf hkv hkr hx) | (go_at_call 41; refine (rd_text B g s 40 _ (HP.out.below (below_alloc (Below.refl _ _) _)) (by decide)).mono ?_; rintro e w1 ⟨rfl, hr, hf⟩; have HR1 := Aside0.mk hr; have HF1 := Aside0.mk hf; have HKR := Aside0.mk (hf.blk (blk_new W _) (by decide)); clear hr hf))
  have h1 := blk_set HX.out 0 (.string (rdText 40 s).1)
  have h2 := blk_set h1 1 (.string (rdText 200 (rdText 40 s).2).1)
  have hk : (((w2.setCell ⟨w1.heap.size, 1, none⟩ (.string (rdText 200 (rdText 40 s).2).1)).setCell ⟨W.heap.size, 0, none⟩ (.string (rdText 40 s).1)).setCell ⟨W.heap.size, 1, none⟩ (.string (rdText 200 (rdText 40 s).2).1)).heap[W.heap.size]? = some (.cells #[.string (rdText 40 s).1, .string (rdText 200 (rdText 40 s).2).1] 27 (0, 0)) := by simpa using h2
  refine bodyPost_ret (results_cell_row rfl _ _ W.heap.size 27 #[.string (rdText 40 s).1, .string (rdText 200 (rdText 40 s).2).1] (0, 0) _ rfl hk huF rfl (by kernel_rfl)) rfl ?_
  have hB : B ≤ W.heap.size := HP.out.lt
  have hle : W.heap.size ≤ w1.heap.size := Nat.le_of_lt (blk_lt HKR.out)
  exact ⟨rfl, HR2.out.fr ((((Fr.refl B [27] w2).set HKV.out (Nat.le_trans hB hle) (by simp) 1 _).set HKR2.out hB (by simp) 0 _).set HKR2.out hB (by simp) 1 _) (by decide), ((HF2.out.set_new hle 1 _).set_new (Nat.le_refl _) 0 _).set_new (Nat.le_refl _) 1 _⟩
set_option maxHeartbeats 4000000 in
set_option maxRecDepth 100000 in
theorem kid_calls (B g : Nat) (s : RS) (W : World) (h : RdAt 89 B g W s) :
    Calls Try.prog 44 #[.pointer (some ⟨g, 0, none⟩), .func (.func 41) #[] #[]] W fun e W1 => e = .returned (.agg #[.string (rdK s).1.f0, .int .u64 (rdK s).1.f1]) ∧ RdAt 89 B g W1 (rdK s).2 ∧ Fr B [89] W W1 := by
  have HP := Aside0.mk h
  clear h
  have huF := Try.underlying60
  go_enter Try.func44, Try.ntmps44
  go_wp2_with (first | (go_at_call 42; have hq := HR1.out; clear hq; refine (rd_num B g _ M64 _ (HR1.out.below (below_alloc (Below.refl _ _) _))).mono ?_; rintro e w2 ⟨rfl, hr, hf⟩; have HR2 := Aside0.mk hr; have hkv := hf.blk (blk_new w1 (.cells #[.string (rdText 40 s).1, .int .u64 0] 60)) (by decide); have HKV := Aside0.mk hkv; have hkr := hf.blk (blk_alloc HKR.out (.cells #[.string (rdText 40 s).1, .int .u64 0] 60)) (by decide); have HKR2 := Aside0.mk hkr; have HF2 := Aside0.mk ((Fr.alloc HF1.out).trans (Fr.alloc hf)); have y0 : World.cell? w2 ⟨w1.heap.size, 0, none⟩ = some (.string (rdText 40 s).1) := (blk_cell hkv 0).trans rfl; have y1 : World.cell? w2 ⟨w1.heap.size, 1, none⟩ = some (.int .u64 0) := (blk_cell hkv 1).trans rfl; have z0 := blk_frozen hkv 0; have z1 := blk_frozen hkv 1; have x0 : World.cell? w2 ⟨W.heap.size, 0, none⟩ = some (.string ⟨#[]⟩) := (blk_cell hkr 0).trans rfl; have x1 : World.cell? w2 ⟨W.heap.size, 1, none⟩ = some (.int .u64 0) := (blk_cell hkr 1).trans rfl; have t0 := blk_frozen hkr 0; have t1 := blk_frozen hkr 1; have hx := blk_far hkr (p := ⟨w1.heap.size, 1, none⟩) (Nat.ne_of_lt (blk_lt HKR.out)) (.int .u64 (rdNum M64 (rdText 40 s).2).1); have HX := Aside0.mk hx; have x0' : World.cell? (w2.setCell ⟨w1.heap.size, 1, none⟩ (.int .u64 (rdNum M64 (rdText 40 s).2).1)) ⟨W.heap.size, 0, none⟩ = some (.string ⟨#[]⟩) := (blk_cell hx 0).trans rfl; have x1' : World.cell? (w2.setCell ⟨w1.heap.size, 1, none⟩ (.int .u64 (rdNum M64 (rdText 40 s).2).1)) ⟨W.heap.size, 1, none⟩ = some (.int .u64 0) := (blk_cell hx 1).trans rfl; have t0' := blk_frozen hx 0; have t1' := blk_frozen hx 1; clear hr hf hkv hkr hx) | (go_at_call 41; refine (rd_text B g s 40 _ (HP.out.below (below_alloc (Below.refl _ _) _)) (by decide)).mono ?_; rintro e w1 ⟨rfl, hr, hf⟩; have HR1 := Aside0.mk hr; have HF1 := Aside0.mk hf; have HKR := Aside0.mk (hf.blk (blk_new W _) (by decide)); clear hr hf))
  have h1 := blk_set HX.out 0 (.string (rdText 40 s).1)
  have h2 := blk_set h1 1 (.int .u64 (rdNum M64 (rdText 40 s).2).1)
  have hk : (((w2.setCell ⟨w1.heap.size, 1, none⟩ (.int .u64 (rdNum M64 (rdText 40 s).2).1)).setCell ⟨W.heap.size, 0, none⟩ (.string (rdText 40 s).1)).setCell ⟨W.heap.size, 1, none⟩ (.int .u64 (rdNum M64 (rdText 40 s).2).1)).heap[W.heap.size]? = some (.cells #[.string (rdText 40 s).1, .int .u64 (rdNum M64 (rdText 40 s).2).1] 60 (0, 0)) := by simpa using h2
  refine bodyPost_ret (results_cell_row rfl _ _ W.heap.size 60 #[.string (rdText 40 s).1, .int .u64 (rdNum M64 (rdText 40 s).2).1] (0, 0) _ rfl hk huF rfl (by kernel_rfl)) rfl ?_
  have hB : B ≤ W.heap.size := HP.out.lt
  have hle : W.heap.size ≤ w1.heap.size := Nat.le_of_lt (blk_lt HKR.out)
  exact ⟨rfl, HR2.out.fr ((((Fr.refl B [60] w2).set HKV.out (Nat.le_trans hB hle) (by simp) 1 _).set HKR2.out hB (by simp) 0 _).set HKR2.out hB (by simp) 1 _) (by decide), ((HF2.out.set_new hle 1 _).set_new (Nat.le_refl _) 0 _).set_new (Nat.le_refl _) 1 _⟩
end Go.Proofs.Ytdbgfmiokmempaa.Sep
namespace Go.Proofs.Ytdbgfmiokmempaa.Sep
set_option linter.unusedSimpArgs false
set_option linter.unusedVariables false
open Go.RowKit Go.Proofs.Ytdbgfmiokmempaa.PCore Go.Proofs.Ytdbgfmiokmempaa.Plain Go.Proofs.YtdbgfmiokmempaaW.PrintWords Go.Proofs.YtdbgfmiokmempaaW.PrintLast Go.Proofs.YtdbgfmiokmempaaW.PrintMore
open Go.Proofs.Ytdbgfmiokmempaa.PDat (S27 k27 z27 k27_mkM S60 k60 z60 k60_mkM)
open Ends (endsB)
theorem en_E {T : List Nat} (h : 27 ∉ T) : ∀ q, q ∈ 27 :: (k27).E → q ∉ T := fun q hq => by
  have e : q = 27 := by simpa [k27, Kd.iso, Kd.pair, Kd.int, Kd.scalar, Kd.string, Kd.bool] using hq
  rw [e]
  exact h
theorem ki_E {T : List Nat} (h : 60 ∉ T) : ∀ q, q ∈ 60 :: (k60).E → q ∉ T := fun q hq => by
  have e : q = 60 := by simpa [k60, Kd.iso, Kd.pair, Kd.int, Kd.scalar, Kd.string, Kd.bool] using hq
  rw [e]
  exact h
abbrev zeroNC : Array Value := #[.int .i64 0, .slice none 0 0, .slice none 0 0]
/-- Where reading a node stands: the reader (type T, block g), the node's variable (block C), the result's (W0's first new block). -/
structure NdSt (T : Nat) (W0 : World) (g C : Nat) (w : World) (s : RS) (lev : Int) (ve : Value) (es : List Entry) (vk : Value) (ks : List Kid) : Prop where
  rd : RdAt T W0.heap.size g w s
  bC : w.heap[C]? = some (.cells #[.int .i64 lev, ve, vk] 34 (0, 0))
  bR : w.heap[W0.heap.size]? = some (.cells zeroNC 34 (0, 0))
  hE : Kd.R k27 27 w W0.heap.size (fun _ => True) ve es
  hK : Kd.R k60 60 w W0.heap.size (fun _ => True) vk ks
  lt : W0.heap.size < C
  bel : Below W0.heap.size W0 w
section
variable {T : Nat} {W0 : World} {g C : Nat} {w w1 : World} {s s' : RS} {lev : Int} {ve vk : Value} {es : List Entry} {ks : List Kid}
theorem NdSt.fr (h : NdSt T W0 g C w s lev ve es vk ks) (hr : RdAt T W0.heap.size g w1 s') (hf : Fr W0.heap.size [T] w w1) (hT : 34 ∉ [T] ∧ 27 ∉ [T] ∧ 60 ∉ [T]) : NdSt T W0 g C w1 s' lev ve es vk ks :=
  ⟨hr, hf.blk h.bC hT.1, hf.blk h.bR hT.1, hf.R h.hE (en_E hT.2.1), hf.R h.hK (ki_E hT.2.2), h.lt, h.bel.trans (hf.below h.bel.size)⟩
theorem NdSt.below (h : NdSt T W0 g C w s lev ve es vk ks) (hb : Below w.heap.size w w1) : NdSt T W0 g C w1 s lev ve es vk ks :=
  ⟨h.rd.below hb, (Fr.of_below (B := 0) (T := []) hb).blk h.bC (by simp), (Fr.of_below (B := 0) (T := []) hb).blk h.bR (by simp), Kd.R_below h.hE hb, Kd.R_below h.hK hb, h.lt, below_step h.bel hb⟩
/-- An entry is appended, and the entries are stored. -/
theorem NdSt.pushE (h : NdSt T W0 g C w s lev ve es vk ks) (hT : 34 ≠ T ∧ T ≠ 27) {v1 : Value} {es1 : List Entry} (ho : Kd.R k27 27 w1 W0.heap.size (fun _ => True) v1 es1) (hf : Fr W0.heap.size [27] w w1) (hb : Below W0.heap.size W0 w1) :
    NdSt T W0 g C (w1.setCell ⟨C, 1, none⟩ v1) s lev v1 es1 vk ks := by
  have hC : W0.heap.size ≤ C := Nat.le_of_lt h.lt
  have b1 := hf.blk h.bC (by decide)
  have b2 := hf.blk h.bR (by decide)
  have r1 := h.rd.fr hf ⟨by simp; exact hT.2, by decide⟩
  have k1 := hf.R h.hK (ki_E (by decide))
  have hF := (Fr.refl W0.heap.size [34] w1).set b1 hC (by simp) 1 v1
  exact ⟨r1.fr hF ⟨by simp; first | done | exact fun e => hT.1 e.symm, by decide⟩, blk_set b1 1 v1, blk_far b2 (p := ⟨C, 1, none⟩) (show W0.heap.size ≠ C from Nat.ne_of_lt h.lt) v1, Kd.R_set ho b1 (fun q hq e => en_E (T := [34]) (by decide) q hq (by rw [e]; simp)) 1 v1, Kd.R_set k1 b1 (fun q hq e => ki_E (T := [34]) (by decide) q hq (by rw [e]; simp)) 1 v1, h.lt, hb.trans (hF.below hb.size)⟩
/-- A child is appended, and the children are stored. -/
theorem NdSt.pushK (h : NdSt T W0 g C w s lev ve es vk ks) (hT : 34 ≠ T ∧ T ≠ 60) {v1 : Value} {ks1 : List Kid} (ho : Kd.R k60 60 w1 W0.heap.size (fun _ => True) v1 ks1) (hf : Fr W0.heap.size [60] w w1) (hb : Below W0.heap.size W0 w1) :
    NdSt T W0 g C (w1.setCell ⟨C, 2, none⟩ v1) s lev ve es v1 ks1 := by
  have hC : W0.heap.size ≤ C := Nat.le_of_lt h.lt
  have b1 := hf.blk h.bC (by decide)
  have b2 := hf.blk h.bR (by decide)
  have r1 := h.rd.fr hf ⟨by simp; exact hT.2, by decide⟩
  have k1 := hf.R h.hE (en_E (by decide))
  have hF := (Fr.refl W0.heap.size [34] w1).set b1 hC (by simp) 2 v1
  exact ⟨r1.fr hF ⟨by simp; first | done | exact fun e => hT.1 e.symm, by decide⟩, blk_set b1 2 v1, blk_far b2 (p := ⟨C, 2, none⟩) (show W0.heap.size ≠ C from Nat.ne_of_lt h.lt) v1, Kd.R_set k1 b1 (fun q hq e => en_E (T := [34]) (by decide) q hq (by rw [e]; simp)) 2 v1, Kd.R_set ho b1 (fun q hq e => ki_E (T := [34]) (by decide) q hq (by rw [e]; simp)) 2 v1, h.lt, hb.trans (hF.below hb.size)⟩
theorem NdSt.c (h : NdSt T W0 g C w s lev ve es vk ks) : w.cell? ⟨C, 0, none⟩ = some (.int .i64 lev) ∧ w.cell? ⟨C, 1, none⟩ = some ve ∧ w.cell? ⟨C, 2, none⟩ = some vk :=
  ⟨(blk_cell h.bC 0).trans rfl, (blk_cell h.bC 1).trans rfl, (blk_cell h.bC 2).trans rfl⟩
theorem NdSt.z (h : NdSt T W0 g C w s lev ve es vk ks) (j : Nat) : w.frozen? ⟨C, j, none⟩ = false := blk_frozen h.bC j
theorem NdSt.r (h : NdSt T W0 g C w s lev ve es vk ks) : w.cell? ⟨W0.heap.size, 0, none⟩ = some (.int .i64 0) ∧ w.cell? ⟨W0.heap.size, 1, none⟩ = some (.slice none 0 0) ∧ w.cell? ⟨W0.heap.size, 2, none⟩ = some (.slice none 0 0) :=
  ⟨(blk_cell h.bR 0).trans rfl, (blk_cell h.bR 1).trans rfl, (blk_cell h.bR 2).trans rfl⟩
theorem NdSt.y (h : NdSt T W0 g C w s lev ve es vk ks) (j : Nat) : w.frozen? ⟨W0.heap.size, j, none⟩ = false := blk_frozen h.bR j
end
theorem ndSt_new {T : Nat} {W w1 w2 : World} {g : Nat} {s' : RS} {x : Int} (hr : RdAt T W.heap.size g w2 s') (hf : Fr W.heap.size [T] w1 w2) (hk : w1.heap[W.heap.size]? = some (.cells zeroNC 34 (0, 0))) (hb : Below W.heap.size W w1) (hT : 34 ∉ [T]) :
    NdSt T W g w2.heap.size (w2.alloc (.cells #[.int .i64 x, .slice none 0 0, .slice none 0 0] 34)) s' x (.slice none 0 0) [] (.slice none 0 0) [] :=
  ⟨hr.below (below_alloc (Below.refl _ _) _), blk_new _ _, blk_alloc (hf.blk hk hT) _, Kd.R_nil _ _ _ _ _, Kd.R_nil _ _ _ _ _, blk_lt (hf.blk hk hT), below_alloc (hb.trans (hf.below hb.size)) _⟩
theorem tri_set {B n t : Nat} {w1 : World} {a0 a1 a2 : Value} (hk : w1.heap[n]? = some (.cells #[a0, a1, a2] t (0, 0))) (hB : B ≤ n) (v0 v1 v2 : Value) :
    (((w1.setCell ⟨n, 0, none⟩ v0).setCell ⟨n, 1, none⟩ v1).setCell ⟨n, 2, none⟩ v2).heap[n]? = some (.cells #[v0, v1, v2] t (0, 0)) ∧ Fr B [t] w1 (((w1.setCell ⟨n, 0, none⟩ v0).setCell ⟨n, 1, none⟩ v1).setCell ⟨n, 2, none⟩ v2) := by
  have h1 := blk_set hk 0 v0
  have h2 := blk_set h1 1 v1
  have h3 := blk_set h2 2 v2
  exact ⟨by simpa using h3, (((Fr.refl B [t] w1).set hk hB (by simp) 0 v0).set hk hB (by simp) 1 v1).set hk hB (by simp) 2 v2⟩
theorem k_pred (j : Nat) (h : j ≤ 1000000) : IntKind.u64.wrap (j : Int) = (j : Int) := by rw [IntKind.wrap_u64]; omega
/-- What Of answers. -/
def OfNAns (W : World) (r : Nod × Int) (e : Ending) (W1 : World) : Prop := ∃ B0 d0 B1 d1, e = .returned (.tuple #[.agg #[.int .i64 r.1.lev, .slice B0 r.1.es.length d0, .slice B1 r.1.ks.length d1], .int .i64 r.2]) ∧ r.1.es.length ≤ d0 ∧ r.1.ks.length ≤ d1 ∧ Kd.C k27 W1 B0 r.1.es.length r.1.es ∧ Kd.C k60 W1 B1 r.1.ks.length r.1.ks ∧ Below W.heap.size W W1
theorem ofNAns_zero {W W1 : World} (h : Below W.heap.size W W1) : OfNAns W (zeroN, 90) (.returned (.tuple #[.agg #[.int .i64 0, .slice none 0 0, .slice none 0 0], .int .i64 90])) W1 :=
  ⟨none, 0, none, 0, rfl, Nat.le_refl _, Nat.le_refl _, Kd.C_nil _ _, Kd.C_nil _ _, h⟩
set_option maxHeartbeats 16000000 in
set_option maxRecDepth 100000 in
theorem of9_calls (A : Option Addr) (c : Nat) (b : List Int) (W : World) (hC : Kd.C (Kd.int .u8) W A b.length b) (hF : Fine (b, false)) :
    Calls Try.prog 23 #[.slice A b.length c] W fun e W1 => OfNAns W (ofN b) e W1 := by
  have HP := Aside0.mk (rd_read A c b (W.alloc (.cells zeroNC 34)) (Kd.C_below hC (below_alloc (Below.refl _ _) _)) hF)
  have HFF := Aside0.mk hF
  have hbl : IntKind.u64.wrap (b.length : Int) = (b.length : Int) := by rw [IntKind.wrap_u64]; have : b.length ≤ 1000000 := hF.2.1; omega
  have HBL := Aside0.mk (show b.length ≤ 1000000 from hF.2.1)
  have huF := Try.underlying34
  have huE := Try.underlying27
  have huK := Try.underlying60
  have HOF0 := Aside0.mk (show ∀ x, ofN b = x ↔ ofN b = x from fun _ => Iff.rfl)
  obtain ⟨L, s1, hL⟩ : ∃ L s1, rdNum 20 (b, false) = (L, s1) := ⟨_, _, rfl⟩
  have hLi := num_in hF 20 (by decide)
  have hs1 := fine_num hF 20
  rw [hL] at hLi hs1
  simp only at hLi hs1
  have HLI := Aside0.mk hLi
  obtain ⟨q, s2, hq⟩ : ∃ q s2, rdNum (b.length : Int) s1 = (q, s2) := ⟨_, _, rfl⟩
  have hqi := num_in hs1 (b.length : Int) (by omega)
  have hs2 := fine_num hs1 (b.length : Int)
  rw [hq] at hqi hs2
  simp only at hqi hs2
  obtain ⟨n, hn⟩ : ∃ n : Nat, q = (n : Int) := ⟨q.toNat, by omega⟩
  subst hn
  have HNB := Aside0.mk (show n ≤ 1000000 by have : b.length ≤ 1000000 := hF.2.1; omega)
  have HFS := Aside0.mk hs2
  have HRN := Aside0.mk (show rdN (b.length : Int) b = if L = 0 then (⟨0, (rdMany rdE n s2).1, []⟩, (rdMany rdE n s2).2) else (⟨L, [], (rdMany rdK n s2).1⟩, (rdMany rdK n s2).2) by
    unfold rdN
    rw [hL]
    simp only
    rw [hq]
    simp only [Int.toNat_natCast])
  have hwl : wrap64 L = L := by unfold wrap64; omega
  have hwl2 : IntKind.i64.wrap L = L := by first | exact hwl | (rw [i64_w]; exact hwl)
  have HL := Aside0.mk hL
  have HQ := Aside0.mk hq
  clear hC hF hL hq hLi hqi hs1 hs2
  go_enter Try.func23, Try.ntmps23
  go_wp2_with (first | (go_at_call 40; refine HP.out.mono ?_; rintro e w1 ⟨g, rfl, hr, hb⟩; have HR1 := Aside0.mk (hr W.heap.size (below_alloc (Below.refl _ _) _).size); have HK1 := Aside0.mk ((Fr.of_below (T := []) (B := 0) hb).blk (blk_new W _) (by simp)); have HB1 := Aside0.mk (below_step (below_alloc (Below.refl _ _) _) hb); clear hr hb) | (go_at_call 42; have hq := HS2.out; clear hq; refine (rd_num W.heap.size g _ (b.length : Int) _ HS2.out.rd).mono ?_; rw [HQ.out]; rintro e w3 ⟨rfl, hr, hf⟩; have HS3 := Aside0.mk (HS2.out.fr hr hf (by decide)); clear hr hf HS2) | (go_at_call 42; have hq := HR1.out; clear hq; refine (rd_num W.heap.size g (b, false) 20 _ HR1.out).mono ?_; rw [HL.out]; rintro e w2 ⟨rfl, hr, hf⟩; have HS2 := Aside0.mk (ndSt_new (T := 89) (x := L) hr hf HK1.out HB1.out (by decide)); clear hr hf HR1 HK1 HB1))
  by_cases hl0 : L = 0
  · subst hl0
    have HR0 := Aside0.mk (show rdN (b.length : Int) b = (⟨0, (rdMany rdE n s2).1, []⟩, (rdMany rdE n s2).2) by rw [HRN.out, if_pos rfl])
    clear HRN
    go_loopg [7] n (fun kq v7 w' => ∃ (j : Nat) (s : RS) (v : Value) (xs : List Entry), v7 = .int .u64 (j : Int) ∧ Aside0 (kq = j ∧ j + xs.length = n) ∧ Aside0 (rdMany rdE n s2 = (xs ++ (rdMany rdE j s).1, (rdMany rdE j s).2)) ∧ Aside0 (NdSt 89 W g w2.heap.size w' s 0 v xs (.slice none 0 0) []))
    case atStart => exact ⟨n, s2, .slice none 0 0, [], rfl, ⟨rfl, by simp⟩, ⟨by simp⟩, ⟨HS3.out⟩⟩
    case round =>
      obtain ⟨j, s, v, xs, rfl, HJ, HE, HS⟩ := hrel
      cases j with
      | succ j =>
        have hj : decide ((0 : Int) < (j : Int) + 1) = true := decide_eq_true (by omega)
        have HWI := Aside0.mk (k_pred j (by have := HJ.out; have := HNB.out; omega))
        have HSd := Aside0.mk (HS.out.below (below_drew (Below.refl wr.heap.size wr)))
        have hc0 := HS.out.c.1
        have hc1 := HS.out.c.2.1
        have hcd : wr.drew.cell? ⟨w2.heap.size, 1, none⟩ = some v := HSd.out.c.2.1
        go_wp2
        go_region_law (first | (refine Kd.R_append_step k27 (w0 := W) W.heap.size (by rfl) (.tmp 27) (.tmp 31) 22 27 (.agg #[(.string ⟨#[]⟩), (.string ⟨#[]⟩)]) 32 rfl Try.underlying22 (by kernel_rfl) rfl (by decide) (by omega) v xs (rdE s).1 [.string (rdE s).1.f0, .string (rdE s).1.f1] (fun _ => True) (fun _ => False) rfl rfl (k27_mkM _ _ _ _) (fun _ hk => hk.elim) (fun _ _ => trivial) HS5.out.hE HS5.out.bel HS5.out.bel.size (by have := HJ.out; have := HNB.out; omega) ?_; intro v1 w6 ho hb hgr hat; obtain ⟨Ax, nx, cx, hvx⟩ := R_slice' ho; subst hvx; have hF6 := (show Fr W.heap.size [27] w5 w6 by obtain ⟨inner, h⟩ := Kd.R_own HS5.out.hE; exact Fr.of_grown h (Nat.le_refl _) hgr (by simp)); have HS6 := Aside0.mk (HS5.out.pushE ⟨by decide, by decide⟩ ho hF6 hb); have hf6 := hF6.blk HS5.out.bC (by decide); have hc61 : w6.cell? ⟨w2.heap.size, 1, none⟩ = some v := (blk_cell hf6 1).trans rfl; have hz61 : w6.frozen? ⟨w2.heap.size, 1, none⟩ = false := blk_frozen hf6 1; clear ho hb hgr hat hf6 hF6) | (go_simp; (go_at_call 43; refine (entry_calls W.heap.size g s _ HSd.out.rd).mono ?_; rintro e w5 ⟨rfl, hr, hf⟩; have HS5 := Aside0.mk (HSd.out.fr hr hf (by decide)); have hc51 := HS5.out.c.2.1; have hc5b : (w5.alloc (.cells #[.string (rdE s).1.f0, .string (rdE s).1.f1] 27)).cell? ⟨w2.heap.size, 1, none⟩ = some v := (HS5.out.below (below_alloc (Below.refl _ _) _)).c.2.1; clear hr hf)))
        all_goals (
          go_wp2
          go_roundg j
          case measure => have := HJ.out; omega
          case rel => exact ⟨j, (rdE s).2, .slice Ax nx cx, xs ++ [(rdE s).1], by rw [HWI.out], ⟨rfl, by have := HJ.out; simp; omega⟩, ⟨many_snoc _ _ _ _ _ _ HE.out⟩, ⟨HS6.out⟩⟩)
      | zero =>
        have hj : decide ((0 : Int) < ((0 : Nat) : Int)) = false := decide_eq_false (by omega)
        have HRD := Aside0.mk (show rdN (b.length : Int) b = ((⟨0, xs, []⟩ : Nod), s) by rw [HR0.out, HE.out]; simp [rdMany])
        have HXL := Aside0.mk (show xs.length ≤ 1000000 by have := HJ.out; have := HNB.out; omega)
        obtain ⟨A1, n1, hv, _, _⟩ := Kd.R_reads HS.out.hE
        subst hv
        obtain ⟨ca, cb, cc⟩ := HS.out.c
        obtain ⟨ra, rb, rc⟩ := HS.out.r
        have y0 := HS.out.y 0
        have y1 := HS.out.y 1
        have y2 := HS.out.y 2
        have HRC := Aside0.mk (Kd.R_reads' HS.out.hE)
        cases hd : rdDone s with
        | false =>
          have HOF := Aside0.mk (show ofN b = (zeroN, 90) by unfold ofN; rw [HRD.out, if_neg (by rw [hd]; simp)])
          have HDN := Aside0.mk hd
          clear hd
          go_wp2_with ((go_at_call 45; refine (rd_done W.heap.size g s _ HS.out.rd).mono ?_; rw [HDN.out]; rintro e w10 ⟨rfl, rfl⟩))
          obtain ⟨hk, hf⟩ := tri_set (B := W.heap.size) HS.out.bR (Nat.le_refl _) (.int .i64 0) (.slice none 0 0) (.slice none 0 0)
          refine bodyPost_ret (results_ct rfl _ _ W.heap.size 34 #[.int .i64 0, .slice none 0 0, .slice none 0 0] (0, 0) _ rfl hk huF rfl (by kernel_rfl)) rfl ?_
          rw [HOF.out]
          exact ofNAns_zero (HS.out.bel.trans (hf.below HS.out.bel.size))
        | true =>
          have HDN := Aside0.mk hd
          by_cases hlong : (131072 : Int) < (b.length : Int)
          · have hlo : decide ((131072 : Int) < (b.length : Int)) = true := decide_eq_true hlong
            have HOF := Aside0.mk (show ofN b = (zeroN, 90) by unfold ofN; rw [HRD.out, if_neg (fun h => by have := h.2.1; omega)])
            clear hd hlong
            go_wp2_with ((go_at_call 45; refine (rd_done W.heap.size g s _ HS.out.rd).mono ?_; rw [HDN.out]; rintro e w10 ⟨rfl, rfl⟩))
            obtain ⟨hk, hf⟩ := tri_set (B := W.heap.size) HS.out.bR (Nat.le_refl _) (.int .i64 0) (.slice none 0 0) (.slice none 0 0)
            refine bodyPost_ret (results_ct rfl _ _ W.heap.size 34 #[.int .i64 0, .slice none 0 0, .slice none 0 0] (0, 0) _ rfl hk huF rfl (by kernel_rfl)) rfl ?_
            rw [HOF.out]
            exact ofNAns_zero (HS.out.bel.trans (hf.below HS.out.bel.size))
          · have hlo : decide ((131072 : Int) < (b.length : Int)) = false := decide_eq_false hlong
            by_cases he : nodeE 0 xs [] = 0
            · have HOF := Aside0.mk (show ofN b = ((⟨0, xs, []⟩ : Nod), 0) by unfold ofN; rw [HRD.out, if_pos ⟨hd, by omega, he⟩])
              have HEE := Aside0.mk he
              clear hd he hlong
              go_wp2_with (first | (go_at_call 45; refine (rd_done W.heap.size g s _ HS.out.rd).mono ?_; rw [HDN.out]; rintro e w10 ⟨rfl, rfl⟩) | (go_at_call 25; refine (right9_calls 0 A1 n1 xs none 0 [] _ HRC.out.2.2 HRC.out.2.1 (Kd.C_nil _ _) (by simp) HXL.out (by simp)).mono ?_; rw [HEE.out]; rintro e w11 ⟨rfl, hb11⟩; have HS11 := Aside0.mk (HS.out.below hb11); obtain ⟨da, db, dc⟩ := HS11.out.c; obtain ⟨qa, qb, qc⟩ := HS11.out.r; have x0 := HS11.out.y 0; have x1 := HS11.out.y 1; have x2 := HS11.out.y 2; clear hb11))
              obtain ⟨hk, hf⟩ := tri_set (B := W.heap.size) HS11.out.bR (Nat.le_refl _) (.int .i64 0) (.slice A1 xs.length n1) (.slice none 0 0)
              refine bodyPost_ret (results_ct rfl _ _ W.heap.size 34 #[.int .i64 0, .slice A1 xs.length n1, .slice none 0 0] (0, 0) _ rfl hk huF rfl (by kernel_rfl)) rfl ?_
              rw [HOF.out]
              exact ⟨A1, n1, none, 0, rfl, HRC.out.2.1, Nat.le_refl _, (Kd.R_reads' (hf.R HS11.out.hE (en_E (by decide)))).2.2, Kd.C_nil _ _, HS11.out.bel.trans (hf.below HS11.out.bel.size)⟩
            · have HOF := Aside0.mk (show ofN b = (zeroN, 90) by unfold ofN; rw [HRD.out, if_neg (fun h => he h.2.2)])
              have he' : (nodeE 0 xs [] != 0) = true := bne_iff_ne.mpr he
              clear hd he hlong
              go_wp2_with (first | (go_at_call 45; refine (rd_done W.heap.size g s _ HS.out.rd).mono ?_; rw [HDN.out]; rintro e w10 ⟨rfl, rfl⟩) | (go_at_call 25; refine (right9_calls 0 A1 n1 xs none 0 [] _ HRC.out.2.2 HRC.out.2.1 (Kd.C_nil _ _) (by simp) HXL.out (by simp)).mono ?_; rintro e w11 ⟨rfl, hb11⟩; have HS11 := Aside0.mk (HS.out.below hb11); obtain ⟨da, db, dc⟩ := HS11.out.c; obtain ⟨qa, qb, qc⟩ := HS11.out.r; have x0 := HS11.out.y 0; have x1 := HS11.out.y 1; have x2 := HS11.out.y 2; clear hb11))
              obtain ⟨hk, hf⟩ := tri_set (B := W.heap.size) HS11.out.bR (Nat.le_refl _) (.int .i64 0) (.slice none 0 0) (.slice none 0 0)
              refine bodyPost_ret (results_ct rfl _ _ W.heap.size 34 #[.int .i64 0, .slice none 0 0, .slice none 0 0] (0, 0) _ rfl hk huF rfl (by kernel_rfl)) rfl ?_
              rw [HOF.out]
              exact ofNAns_zero (HS11.out.bel.trans (hf.below HS11.out.bel.size))
  · have HR0 := Aside0.mk (show rdN (b.length : Int) b = (⟨L, [], (rdMany rdK n s2).1⟩, (rdMany rdK n s2).2) by rw [HRN.out, if_neg hl0])
    have hl1 : (L == 0) = false := beq_eq_false_iff_ne.mpr hl0
    clear HRN hl0
    go_loopg [7] n (fun kq v7 w' => ∃ (j : Nat) (s : RS) (v : Value) (xs : List Kid), v7 = .int .u64 (j : Int) ∧ Aside0 (kq = j ∧ j + xs.length = n) ∧ Aside0 (rdMany rdK n s2 = (xs ++ (rdMany rdK j s).1, (rdMany rdK j s).2)) ∧ Aside0 (NdSt 89 W g w2.heap.size w' s L (.slice none 0 0) [] v xs))
    case atStart => exact ⟨n, s2, .slice none 0 0, [], rfl, ⟨rfl, by simp⟩, ⟨by simp⟩, ⟨HS3.out⟩⟩
    case round =>
      obtain ⟨j, s, v, xs, rfl, HJ, HE, HS⟩ := hrel
      cases j with
      | succ j =>
        have hj : decide ((0 : Int) < (j : Int) + 1) = true := decide_eq_true (by omega)
        have HWI := Aside0.mk (k_pred j (by have := HJ.out; have := HNB.out; omega))
        have HSd := Aside0.mk (HS.out.below (below_drew (Below.refl wr.heap.size wr)))
        have hc0 := HS.out.c.1
        have hc1 := HS.out.c.2.2
        have hcd : wr.drew.cell? ⟨w2.heap.size, 2, none⟩ = some v := HSd.out.c.2.2
        go_wp2
        go_region_law (first | (refine Kd.R_append_step k60 (w0 := W) W.heap.size (by rfl) (.tmp 35) (.tmp 39) 31 60 (.agg #[(.string ⟨#[]⟩), (.int .u64 0)]) 24 rfl Try.underlying31 (by kernel_rfl) rfl (by decide) (by omega) v xs (rdK s).1 [.string (rdK s).1.f0, .int .u64 (rdK s).1.f1] (fun _ => True) (fun _ => False) rfl rfl (k60_mkM _ _ _ _) (fun _ hk => hk.elim) (fun _ _ => trivial) HS5.out.hK HS5.out.bel HS5.out.bel.size (by have := HJ.out; have := HNB.out; omega) ?_; intro v1 w6 ho hb hgr hat; obtain ⟨Ax, nx, cx, hvx⟩ := R_slice' ho; subst hvx; have hF6 := (show Fr W.heap.size [60] w5 w6 by obtain ⟨inner, h⟩ := Kd.R_own HS5.out.hK; exact Fr.of_grown h (Nat.le_refl _) hgr (by simp)); have HS6 := Aside0.mk (HS5.out.pushK ⟨by decide, by decide⟩ ho hF6 hb); have hf6 := hF6.blk HS5.out.bC (by decide); have hc61 : w6.cell? ⟨w2.heap.size, 2, none⟩ = some v := (blk_cell hf6 2).trans rfl; have hz61 : w6.frozen? ⟨w2.heap.size, 2, none⟩ = false := blk_frozen hf6 2; clear ho hb hgr hat hf6 hF6) | (go_simp; (go_at_call 44; refine (kid_calls W.heap.size g s _ HSd.out.rd).mono ?_; rintro e w5 ⟨rfl, hr, hf⟩; have HS5 := Aside0.mk (HSd.out.fr hr hf (by decide)); have hc51 := HS5.out.c.2.2; have hc5b : (w5.alloc (.cells #[.string (rdK s).1.f0, .int .u64 (rdK s).1.f1] 60)).cell? ⟨w2.heap.size, 2, none⟩ = some v := (HS5.out.below (below_alloc (Below.refl _ _) _)).c.2.2; clear hr hf)))
        all_goals (
          go_wp2
          go_roundg j
          case measure => have := HJ.out; omega
          case rel => exact ⟨j, (rdK s).2, .slice Ax nx cx, xs ++ [(rdK s).1], by rw [HWI.out], ⟨rfl, by have := HJ.out; simp; omega⟩, ⟨many_snoc _ _ _ _ _ _ HE.out⟩, ⟨HS6.out⟩⟩)
      | zero =>
        have hj : decide ((0 : Int) < ((0 : Nat) : Int)) = false := decide_eq_false (by omega)
        have HRD := Aside0.mk (show rdN (b.length : Int) b = ((⟨L, [], xs⟩ : Nod), s) by rw [HR0.out, HE.out]; simp [rdMany])
        have HXL := Aside0.mk (show xs.length ≤ 1000000 by have := HJ.out; have := HNB.out; omega)
        obtain ⟨A1, n1, hv, _, _⟩ := Kd.R_reads HS.out.hK
        subst hv
        obtain ⟨ca, cb, cc⟩ := HS.out.c
        obtain ⟨ra, rb, rc⟩ := HS.out.r
        have y0 := HS.out.y 0
        have y1 := HS.out.y 1
        have y2 := HS.out.y 2
        have HRC := Aside0.mk (Kd.R_reads' HS.out.hK)
        cases hd : rdDone s with
        | false =>
          have HOF := Aside0.mk (show ofN b = (zeroN, 90) by unfold ofN; rw [HRD.out, if_neg (by rw [hd]; simp)])
          have HDN := Aside0.mk hd
          clear hd
          go_wp2_with ((go_at_call 45; refine (rd_done W.heap.size g s _ HS.out.rd).mono ?_; rw [HDN.out]; rintro e w10 ⟨rfl, rfl⟩))
          obtain ⟨hk, hf⟩ := tri_set (B := W.heap.size) HS.out.bR (Nat.le_refl _) (.int .i64 0) (.slice none 0 0) (.slice none 0 0)
          refine bodyPost_ret (results_ct rfl _ _ W.heap.size 34 #[.int .i64 0, .slice none 0 0, .slice none 0 0] (0, 0) _ rfl hk huF rfl (by kernel_rfl)) rfl ?_
          rw [HOF.out]
          exact ofNAns_zero (HS.out.bel.trans (hf.below HS.out.bel.size))
        | true =>
          have HDN := Aside0.mk hd
          by_cases hlong : (131072 : Int) < (b.length : Int)
          · have hlo : decide ((131072 : Int) < (b.length : Int)) = true := decide_eq_true hlong
            have HOF := Aside0.mk (show ofN b = (zeroN, 90) by unfold ofN; rw [HRD.out, if_neg (fun h => by have := h.2.1; omega)])
            clear hd hlong
            go_wp2_with ((go_at_call 45; refine (rd_done W.heap.size g s _ HS.out.rd).mono ?_; rw [HDN.out]; rintro e w10 ⟨rfl, rfl⟩))
            obtain ⟨hk, hf⟩ := tri_set (B := W.heap.size) HS.out.bR (Nat.le_refl _) (.int .i64 0) (.slice none 0 0) (.slice none 0 0)
            refine bodyPost_ret (results_ct rfl _ _ W.heap.size 34 #[.int .i64 0, .slice none 0 0, .slice none 0 0] (0, 0) _ rfl hk huF rfl (by kernel_rfl)) rfl ?_
            rw [HOF.out]
            exact ofNAns_zero (HS.out.bel.trans (hf.below HS.out.bel.size))
          · have hlo : decide ((131072 : Int) < (b.length : Int)) = false := decide_eq_false hlong
            by_cases he : nodeE L [] xs = 0
            · have HOF := Aside0.mk (show ofN b = ((⟨L, [], xs⟩ : Nod), 0) by unfold ofN; rw [HRD.out, if_pos ⟨hd, by omega, he⟩])
              have HEE := Aside0.mk he
              clear hd he hlong
              go_wp2_with (first | (go_at_call 45; refine (rd_done W.heap.size g s _ HS.out.rd).mono ?_; rw [HDN.out]; rintro e w10 ⟨rfl, rfl⟩) | (go_at_call 25; refine (right9_calls L none 0 [] A1 n1 xs _ (Kd.C_nil _ _) (by simp) HRC.out.2.2 HRC.out.2.1 (by simp) HXL.out).mono ?_; rw [HEE.out]; rintro e w11 ⟨rfl, hb11⟩; have HS11 := Aside0.mk (HS.out.below hb11); obtain ⟨da, db, dc⟩ := HS11.out.c; obtain ⟨qa, qb, qc⟩ := HS11.out.r; have x0 := HS11.out.y 0; have x1 := HS11.out.y 1; have x2 := HS11.out.y 2; clear hb11))
              obtain ⟨hk, hf⟩ := tri_set (B := W.heap.size) HS11.out.bR (Nat.le_refl _) (.int .i64 L) (.slice none 0 0) (.slice A1 xs.length n1)
              refine bodyPost_ret (results_ct rfl _ _ W.heap.size 34 #[.int .i64 L, .slice none 0 0, .slice A1 xs.length n1] (0, 0) _ rfl hk huF rfl (by kernel_rfl)) rfl ?_
              rw [HOF.out]
              exact ⟨none, 0, A1, n1, rfl, Nat.le_refl _, HRC.out.2.1, Kd.C_nil _ _, (Kd.R_reads' (hf.R HS11.out.hK (ki_E (by decide)))).2.2, HS11.out.bel.trans (hf.below HS11.out.bel.size)⟩
            · have HOF := Aside0.mk (show ofN b = (zeroN, 90) by unfold ofN; rw [HRD.out, if_neg (fun h => he h.2.2)])
              have he' : (nodeE L [] xs != 0) = true := bne_iff_ne.mpr he
              clear hd he hlong
              go_wp2_with (first | (go_at_call 45; refine (rd_done W.heap.size g s _ HS.out.rd).mono ?_; rw [HDN.out]; rintro e w10 ⟨rfl, rfl⟩) | (go_at_call 25; refine (right9_calls L none 0 [] A1 n1 xs _ (Kd.C_nil _ _) (by simp) HRC.out.2.2 HRC.out.2.1 (by simp) HXL.out).mono ?_; rintro e w11 ⟨rfl, hb11⟩; have HS11 := Aside0.mk (HS.out.below hb11); obtain ⟨da, db, dc⟩ := HS11.out.c; obtain ⟨qa, qb, qc⟩ := HS11.out.r; have x0 := HS11.out.y 0; have x1 := HS11.out.y 1; have x2 := HS11.out.y 2; clear hb11))
              obtain ⟨hk, hf⟩ := tri_set (B := W.heap.size) HS11.out.bR (Nat.le_refl _) (.int .i64 0) (.slice none 0 0) (.slice none 0 0)
              refine bodyPost_ret (results_ct rfl _ _ W.heap.size 34 #[.int .i64 0, .slice none 0 0, .slice none 0 0] (0, 0) _ rfl hk huF rfl (by kernel_rfl)) rfl ?_
              rw [HOF.out]
              exact ofNAns_zero (HS11.out.bel.trans (hf.below HS11.out.bel.size))
end Go.Proofs.Ytdbgfmiokmempaa.Sep
namespace Go.Proofs.Ytdbgfmiokmempaa.Sep
set_option linter.unusedSimpArgs false
set_option linter.unusedVariables false
open Go.RowKit Go.Proofs.Ytdbgfmiokmempaa.PCore Go.Proofs.Ytdbgfmiokmempaa.Plain Go.Proofs.YtdbgfmiokmempaaW.PrintWords Go.Proofs.YtdbgfmiokmempaaW.PrintLast Go.Proofs.YtdbgfmiokmempaaW.PrintMore
open Go.Proofs.Ytdbgfmiokmempaa.PDat (S27 k27 z27 S60 k60 z60 node_Last.f node_Last.calls)
open Ends (endsB)
theorem shapeB_iff {lev : Int} {es : List Entry} {ks : List Kid} (h : shapeB lev es.length ks.length = true) : (lev = 0 ∧ ks = []) ∨ (lev ≠ 0 ∧ es = []) := by
  unfold shapeB at h
  split at h
  · simp only [Bool.and_eq_true, decide_eq_true_eq] at h
    exact .inr ⟨by omega, List.eq_nil_of_length_eq_zero h.2.2⟩
  · simp only [Bool.and_eq_true, decide_eq_true_eq] at h
    exact .inl ⟨h.1, List.eq_nil_of_length_eq_zero h.2.2⟩
theorem encT_pos (s : ByteArray) : 1 ≤ (encT s).length := by
  have := enc_len_pos (s.size : Int)
  simp only [encT, List.length_append]
  omega
theorem encEs_ge : ∀ l : List Entry, l.length ≤ (encEs l).length
  | [] => by simp
  | x :: l => by
    have h1 := encT_pos x.f0
    have h2 := encEs_ge l
    simp only [encEs, List.map_cons, List.flatten_cons, List.length_append, List.length_cons, encE] at h2 ⊢
    omega
theorem encKs_ge : ∀ l : List Kid, l.length ≤ (encKs l).length
  | [] => by simp
  | x :: l => by
    have h1 := encT_pos x.f0
    have h2 := encKs_ge l
    simp only [encKs, List.map_cons, List.flatten_cons, List.length_append, List.length_cons, encK] at h2 ⊢
    omega
theorem putNE_zero {lev : Int} {es : List Entry} {ks : List Kid} (h : putNE lev es ks = 0) : nodeE lev es ks = 0 ∧ (encN lev es ks).length ≤ 131072 := by
  unfold putNE at h
  split at h
  · rename_i h1
    split at h
    · rename_i h2; exact ⟨h1, h2⟩
    · cases h
  · rename_i h1; exact absurd h h1
theorem putNE_of {lev : Int} {es : List Entry} {ks : List Kid} (h : nodeE lev es ks = 0) (hl : (encN lev es ks).length ≤ 131072) : putNE lev es ks = 0 := by unfold putNE; rw [if_pos h, if_pos hl]
theorem putNL_of {lev : Int} {es : List Entry} {ks : List Kid} (h : putNE lev es ks = 0) : putNL lev es ks = encN lev es ks := by unfold putNL; rw [if_pos h]
theorem rdN_enc {lev : Int} {es : List Entry} {ks : List Kid} (h : nodeE lev es ks = 0) (hi : KidsIn ks) (hn : es.length + ks.length < 1000000000) (most : Int) (hm : ((es.length + ks.length : Nat) : Int) ≤ most) : rdN most (encN lev es ks) = (⟨lev, es, ks⟩, ([], false)) := by
  obtain ⟨h1, h2, _, _⟩ := nodeE_zero h
  have h3 := shapeB_lev h2
  obtain ⟨h4, h5⟩ := textsE_in h1
  have e1 : rdNum 20 (encN lev es ks, false) = (lev, (enc ((es.length + ks.length : Nat) : Int) ++ (encEs es ++ encKs ks), false)) := by
    have : encN lev es ks = enc lev ++ (enc ((es.length + ks.length : Nat) : Int) ++ (encEs es ++ encKs ks)) := by simp [encN]
    rw [this]
    exact rdNum_enc _ (by omega) (by omega) (by omega)
  have e2 : rdNum most (enc ((es.length + ks.length : Nat) : Int) ++ (encEs es ++ encKs ks), false) = (((es.length + ks.length : Nat) : Int), (encEs es ++ encKs ks, false)) := rdNum_enc _ (by omega) (by omega) hm
  unfold rdN
  rw [e1]
  simp only
  rw [e2]
  simp only [Int.toNat_natCast]
  rcases shapeB_iff h2 with ⟨rfl, rfl⟩ | ⟨hl, rfl⟩
  · rw [if_pos rfl]
    have e3 := many_enc rdE encE [] es (fun x hx r => rdE_enc x (h4 x hx) r)
    rw [List.append_nil] at e3
    simp only [List.length_nil, Nat.add_zero, encKs, List.map_nil, List.flatten_nil, List.append_nil]
    unfold encEs
    rw [e3]
  · rw [if_neg hl]
    have e3 := many_enc rdK encK [] ks (fun x hx r => rdK_enc x (h5 x hx) (hi x hx) r)
    rw [List.append_nil] at e3
    simp only [List.length_nil, Nat.zero_add, encEs, List.map_nil, List.flatten_nil, List.nil_append]
    unfold encKs
    rw [e3]
theorem ofN_enc {lev : Int} {es : List Entry} {ks : List Kid} (h : putNE lev es ks = 0) (hi : KidsIn ks) : ofN (putNL lev es ks) = (⟨lev, es, ks⟩, 0) := by
  obtain ⟨h1, h2⟩ := putNE_zero h
  have e1 := encEs_ge es
  have e2 := encKs_ge ks
  have e3 : (encEs es).length + (encKs ks).length ≤ (encN lev es ks).length := by simp only [encN, List.length_append]; omega
  rw [putNL_of h]
  unfold ofN
  rw [rdN_enc h1 hi (by omega) ((encN lev es ks).length : Int) (by omega), if_pos ⟨rfl, h2, h1⟩]
theorem rdN_of {b : List Int} {most : Int} (hF : Fine (b, false)) (hm : 0 ≤ most) (h : (rdN most b).2.2 = false) : b = encN (rdN most b).1.lev (rdN most b).1.es (rdN most b).1.ks ++ (rdN most b).2.1 := by
  have f1 := fine_num hF 20
  have f2 := fine_num f1 most
  have hn := num_in f1 most hm
  unfold rdN at h ⊢
  by_cases hl : (rdNum 20 (b, false)).1 = 0
  · rw [if_pos hl] at h ⊢
    simp only at h ⊢
    obtain ⟨a1, a2⟩ := many_of rdE encE fine_E rdE_of _ f2 h
    obtain ⟨c1, c2, _⟩ := rdNum_of f1.1 a1
    obtain ⟨d1, d2, _⟩ := rdNum_of (s := (b, false)) hF.1 c1
    rw [a2] at c2
    rw [c2, hl] at d2
    have hln := many_len rdE (rdNum most (rdNum 20 (b, false)).2).1.toNat (rdNum most (rdNum 20 (b, false)).2).2
    have hq : (((rdMany rdE (rdNum most (rdNum 20 (b, false)).2).1.toNat (rdNum most (rdNum 20 (b, false)).2).2).1.length + ([] : List Kid).length : Nat) : Int) = (rdNum most (rdNum 20 (b, false)).2).1 := by rw [hln]; simp only [List.length_nil]; omega
    simp only [encN, encEs, encKs, hq, List.map_nil, List.flatten_nil, List.append_nil, List.append_assoc]
    exact d2
  · rw [if_neg hl] at h ⊢
    simp only at h ⊢
    obtain ⟨a1, a2⟩ := many_of rdK encK fine_K rdK_of _ f2 h
    obtain ⟨c1, c2, _⟩ := rdNum_of f1.1 a1
    obtain ⟨d1, d2, _⟩ := rdNum_of (s := (b, false)) hF.1 c1
    rw [a2] at c2
    rw [c2] at d2
    have hln := many_len rdK (rdNum most (rdNum 20 (b, false)).2).1.toNat (rdNum most (rdNum 20 (b, false)).2).2
    have hq : ((([] : List Entry).length + (rdMany rdK (rdNum most (rdNum 20 (b, false)).2).1.toNat (rdNum most (rdNum 20 (b, false)).2).2).1.length : Nat) : Int) = (rdNum most (rdNum 20 (b, false)).2).1 := by rw [hln]; simp only [List.length_nil]; omega
    simp only [encN, encEs, encKs, hq, List.map_nil, List.flatten_nil, List.append_nil, List.append_assoc]
    exact d2
theorem many_all {α : Type} (f : RS → α × RS) (P : α → Prop) (hf : ∀ s, Fine s → Fine (f s).2) (hP : ∀ s, Fine s → P (f s).1) : ∀ (n : Nat) {s : RS}, Fine s → ∀ x ∈ (rdMany f n s).1, P x
  | 0, s, _, x, hx => by simp [rdMany] at hx
  | n + 1, s, h, x, hx => by
    simp only [rdMany, List.mem_cons] at hx
    rcases hx with rfl | hx
    · exact hP s h
    · exact many_all f P hf hP n (hf s h) x hx
theorem rdN_in {b : List Int} {most : Int} (hF : Fine (b, false)) (hm : 0 ≤ most) (hmost : most ≤ 1000000) : KidsIn (rdN most b).1.ks ∧ (rdN most b).1.es.length ≤ 1000000 ∧ (rdN most b).1.ks.length ≤ 1000000 := by
  have f1 := fine_num hF 20
  have f2 := fine_num f1 most
  have hn := num_in f1 most hm
  unfold rdN
  split
  · refine ⟨fun x hx => by simp at hx, ?_, by simp⟩
    simp only
    rw [many_len]
    omega
  · refine ⟨fun x hx => ?_, by simp, ?_⟩
    · exact many_all rdK (fun x => 0 ≤ x.f1 ∧ x.f1 < 18446744073709551616) fine_K (fun s h => by have := num_in (fine_text h 40) M64 (by decide); exact ⟨this.1, this.2.2⟩) _ f2 x hx
    · simp only
      rw [many_len]
      omega
theorem ofN_in {b : List Int} (hF : Fine (b, false)) : KidsIn (ofN b).1.ks ∧ (ofN b).1.es.length ≤ 1000000 ∧ (ofN b).1.ks.length ≤ 1000000 := by
  unfold ofN
  split
  · exact rdN_in hF (by omega) (by have : b.length ≤ 1000000 := hF.2.1; omega)
  · exact ⟨fun x hx => by simp [zeroN] at hx, by simp [zeroN], by simp [zeroN]⟩
theorem ofN_bytes {b : List Int} (hF : Fine (b, false)) (h : (ofN b).2 = 0) : putNE (ofN b).1.lev (ofN b).1.es (ofN b).1.ks = 0 ∧ putNL (ofN b).1.lev (ofN b).1.es (ofN b).1.ks = b := by
  unfold ofN at h ⊢
  split at h
  · rename_i hc
    rw [if_pos hc]
    simp only
    have hd := (rdDone_iff _).1 hc.1
    have hb := rdN_of hF (most := (b.length : Int)) (by omega) (by rw [hd])
    rw [hd, List.append_nil] at hb
    have h1 : putNE (rdN b.length b).1.lev (rdN b.length b).1.es (rdN b.length b).1.ks = 0 := putNE_of hc.2.2 (by rw [← hb]; exact hc.2.1)
    exact ⟨h1, by rw [putNL_of h1]; exact hb.symm⟩
  · cases h
theorem ofN_two (b : List Int) : (ofN b).2 = 0 ∨ ofN b = (zeroN, 90) := by
  unfold ofN
  split
  · exact .inl rfl
  · exact .inr rfl
theorem encEs_in (l : List Entry) : ∀ x ∈ encEs l, 0 ≤ x ∧ x < 256 := by
  intro x hx
  simp only [encEs, List.mem_flatten, List.mem_map] at hx
  obtain ⟨_, ⟨e, _, rfl⟩, hx⟩ := hx
  rcases List.mem_append.1 hx with h | h
  · exact encT_in _ x h
  · exact encT_in _ x h
theorem encKs_in (l : List Kid) (hi : KidsIn l) : ∀ x ∈ encKs l, 0 ≤ x ∧ x < 256 := by
  intro x hx
  simp only [encKs, List.mem_flatten, List.mem_map] at hx
  obtain ⟨_, ⟨e, he, rfl⟩, hx⟩ := hx
  rcases List.mem_append.1 hx with h | h
  · exact encT_in _ x h
  · exact enc_in (hi e he).1 x h
theorem putNL_in {lev : Int} {es : List Entry} {ks : List Kid} (hi : KidsIn ks) : ∀ x ∈ putNL lev es ks, 0 ≤ x ∧ x < 256 := by
  intro x hx
  unfold putNL at hx
  split at hx
  · rename_i h
    have h3 := shapeB_lev (nodeE_zero (putNE_zero h).1).2.1
    simp only [encN, List.mem_append] at hx
    rcases hx with ((hx | hx) | hx) | hx
    · exact enc_in (by omega) x hx
    · exact enc_in (by omega) x hx
    · exact encEs_in es x hx
    · exact encKs_in ks hi x hx
  · simp at hx
theorem putNL_fine {lev : Int} {es : List Entry} {ks : List Kid} (hi : KidsIn ks) : Fine (putNL lev es ks, false) := by
  refine ⟨putNL_in hi, ?_, fun h => by simp at h⟩
  unfold putNL
  split
  · rename_i h
    have := (putNE_zero h).2
    simp only
    omega
  · simp
/-- A node's last key. -/
def lastN (es : List Entry) (ks : List Kid) : ByteArray := if (keysL es ks).length = 0 then ⟨#[]⟩ else rdOf ByteArray.empty (keysL es ks) (((keysL es ks).length - 1 : Nat) : Int)
theorem last_form (lev : Int) (es : List Entry) (ks : List Kid) (he : es.length ≤ 1000000) (hk : ks.length ≤ 1000000) : Ev (fun k => node_Last.f k lev es ks) (lastN es ks) := by
  have hl := keysL_len es ks
  refine Ev.congr (f := fun k => (Go.Proofs.Ytdbgfmiokmempaa.PDat.node_keys.f k lev es ks).bind fun t => some (lastN es ks)) (fun k => ?_) (Ev.bind (keys_form lev es ks he hk) (Ev.now _))
  simp only [node_Last.f]
  cases hq : Go.Proofs.Ytdbgfmiokmempaa.PDat.node_keys.f k lev es ks with
  | none => rfl
  | some t =>
    have : t = keysL es ks := by
      obtain ⟨k0, h0⟩ := keys_form lev es ks he hk
      have h1 := at_rounds (g := fun k => Go.Proofs.Ytdbgfmiokmempaa.PDat.node_keys.f k lev es ks) (Go.Proofs.Ytdbgfmiokmempaa.PDat.node_keys.mono lev es ks) (Nat.le_max_left k k0) hq
      have h2 : Go.Proofs.Ytdbgfmiokmempaa.PDat.node_keys.f (max k k0) lev es ks = some (keysL es ks) := h0 (max k k0) (Nat.le_max_right k k0)
      rw [h1] at h2
      exact Option.some.inj h2
    subst this
    simp only [Option.bind_some]
    unfold lastN
    by_cases h : (keysL es ks).length = 0
    · rw [if_pos (by omega), if_pos h]
    · have hw : wrap64 (((keysL es ks).length : Int) - 1) = (((keysL es ks).length - 1 : Nat) : Int) := by unfold wrap64; omega
      rw [if_neg (by omega), if_neg h, hw, if_pos (by omega), if_pos (by omega)]
theorem last9_calls (lev : Int) (A0 : Option Addr) (c0 : Nat) (es : List Entry) (A1 : Option Addr) (c1 : Nat) (ks : List Kid) (w : World) (hC0 : Kd.C k27 w A0 es.length es) (hc0 : es.length ≤ c0) (hC1 : Kd.C k60 w A1 ks.length ks) (hc1 : ks.length ≤ c1) (hn0 : es.length ≤ 1000000) (hn1 : ks.length ≤ 1000000) :
    Calls Try.prog 28 #[.agg #[.int .i64 lev, .slice A0 es.length c0, .slice A1 ks.length c1]] w fun e w' => e = .returned (.string (lastN es ks)) ∧ Below w.heap.size w w' := by
  obtain ⟨k, h⟩ := Ev.rounds (last_form lev es ks hn0 hn1)
  exact node_Last.calls k lev A0 c0 es A1 c1 ks _ w hC0 hc0 hC1 hc1 h
end Go.Proofs.Ytdbgfmiokmempaa.Sep
namespace Go.Proofs.Ytdbgfmiokmempaa.Sep
set_option linter.unusedSimpArgs false
set_option linter.unusedVariables false
open Go.ChangeShapes Go.WideShapes Go.ChangeAt
open Go.RowKit Go.Proofs.Ytdbgfmiokmempaa.PCore Go.Proofs.Ytdbgfmiokmempaa.Plain Go.Proofs.YtdbgfmiokmempaaW.PrintWords Go.Proofs.YtdbgfmiokmempaaW.PrintLast Go.Proofs.YtdbgfmiokmempaaW.PrintMore
open Go.Proofs.Ytdbgfmiokmempaa.PDat (S27 k27 S60 k60)
def kN : Kd Nod := Kd.iso (Kd.pair (Kd.int .i64) (Kd.pair (Kd.slice 27 k27) (Kd.slice 60 k60))) (fun x : Nod => (x.lev, x.es, x.ks))
/-- What holds of a node that came in. -/
def okN (x : Nod) : Prop := (Lit.int .i64 x.lev).wf = true ∧ (x.es.length ≤ maxLen ∧ ∀ y ∈ x.es, ok27 y) ∧ (x.ks.length ≤ maxLen ∧ ∀ y ∈ x.ks, ok60 y)
theorem openN {H : Type} {enc : TypeId × Value → H} {W : World} {base : Nat} {spare : Nat → Bool} {held : Bool} : Opens enc Try.prog W base spare held 34 kN okN :=
  ⟨by kernel_rfl, fun fuel cs x h => by
    obtain ⟨xs, n, -, -, hl, hx, hf⟩ := DataW.trod_struct Try.underlying34 h
    have hxs : xs.length = 3 := hx
    have hlen : cs.length = kN.sz := hl.trans (by kernel_rfl)
    obtain ⟨v0, K0, o0⟩ := field_at (o := 0) (d := Kd.int .i64) (Opens.int (by kernel_rfl) Try.underlying3) (i := 0) (by omega) (hf 0 _ rfl)
    obtain ⟨v1, K1, o1⟩ := field_at (o := 1) (d := Kd.slice 27 k27) (Opens.slice (by kernel_rfl) Try.underlying22 open27) (i := 1) (by omega) (hf 1 _ rfl)
    obtain ⟨v2, K2, o2⟩ := field_at (o := 2) (d := Kd.slice 60 k60) (Opens.slice (by kernel_rfl) Try.underlying31 open60) (i := 2) (by omega) (hf 2 _ rfl)
    exact ⟨⟨v0, v1, v2⟩, (pair_at (o := 0) K0 (pair_at (o := 1) K1 (last_at (o := 2) K2 hlen))), o0, o1, o2⟩⟩
theorem kN_open {W : World} {x : Nod} {cs : List Value} (h : kN.K W x cs) : ∃ A n B m, cs = [.int .i64 x.lev, .slice A x.es.length n, .slice B x.ks.length m] ∧ x.es.length ≤ n ∧ x.ks.length ≤ m ∧ Kd.C k27 W A x.es.length x.es ∧ Kd.C k60 W B x.ks.length x.ks := by
  obtain ⟨c0, c1, rfl, h0, d1, d2, rfl, ⟨A, n, h1, hn, hC⟩, ⟨B, m, h2, hm, hD⟩⟩ := h
  simp only at h0 h1 h2 hn hm hC hD
  have e0 : c0 = [.int .i64 x.lev] := h0
  subst e0 h1 h2
  exact ⟨A, n, B, m, rfl, hn, hm, hC, hD⟩
theorem okN_kids {x : Nod} (h : okN x) : KidsIn x.ks := fun y hy => Plain.u64_of (h.2.2.2 y hy).2
end Go.Proofs.Ytdbgfmiokmempaa.Sep
