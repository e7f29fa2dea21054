/- Commits in rows; the walks of reply.list and reply.Put. Printed by gen3.py. Conditions: the bounds of the statements. · The walk of reply.Put. Printed by gen4.py. Conditions: the bounds of the statements. -/
import Derived.Test.YtcegkljkmnpkaaaRqA
namespace Go.Proofs.Ytcegkljkmnpkaaa.Sep
set_option linter.unusedSimpArgs false
set_option linter.unusedVariables false
open Go.RowKit Go.Proofs.Ytcegkljkmnpkaaa.PCore Go.Proofs.Ytcegkljkmnpkaaa.Plain Go.Proofs.YtcegkljkmnpkaaaW.PrintWords Go.Proofs.YtcegkljkmnpkaaaW.PrintLast Go.Proofs.YtcegkljkmnpkaaaW.PrintMore
open Go.Proofs.Ytcegkljkmnpkaaa.PDat (S53 S47 S57 S59 S62 k53 k47 k57 k59 k62 at_T53 at_T47 at_T59 at_T62 rd_T53 rd_T47 rd_T59 rd_T62 z53 z47 z59 z62)
/-- A commit's cells. -/
def kC : Kd Com := Kd.iso (Kd.pair (Kd.int .u64) (Kd.pair (Kd.slice 23 (Kd.int .u64)) (Kd.pair (Kd.int .u64) (Kd.pair (Kd.int .u64) Kd.string)))) (fun x : Com => (x.id, x.ps, x.gen, x.root, x.text))
def zeroCom : Com := ⟨0, [], 0, 0, ⟨#[]⟩⟩
theorem kC_open {w : World} {x : Com} {cs : List Value} (h : kC.K w x cs) : ∃ A n, cs = [.int .u64 x.id, .slice A x.ps.length n, .int .u64 x.gen, .int .u64 x.root, .string x.text] ∧ x.ps.length ≤ n ∧ Kd.C (Kd.int .u64) w A x.ps.length x.ps := by
  obtain ⟨_, _, rfl, rfl, ⟨_, _, rfl, ⟨A, n, rfl, hn, hC⟩, ⟨_, _, rfl, rfl, ⟨_, _, rfl, rfl, rfl⟩⟩⟩⟩ := h
  exact ⟨A, n, rfl, hn, hC⟩
theorem at_Com {w : World} {A : Option Addr} {n : Nat} {xs : List Com} (h : Kd.C kC w A n xs) (i : Nat) (h1 : i < n) : ∃ ad A' n', A = some ad ∧ w.cell? (ad.add (i * 5)) = some (.int .u64 (xs.getD i zeroCom).id) ∧ w.cell? ⟨(ad.add (i * 5)).block, (ad.add (i * 5)).off + 1, none⟩ = some (.slice A' (xs.getD i zeroCom).ps.length n') ∧ w.cell? ⟨(ad.add (i * 5)).block, (ad.add (i * 5)).off + 2, none⟩ = some (.int .u64 (xs.getD i zeroCom).gen) ∧ w.cell? ⟨(ad.add (i * 5)).block, (ad.add (i * 5)).off + 3, none⟩ = some (.int .u64 (xs.getD i zeroCom).root) ∧ w.cell? ⟨(ad.add (i * 5)).block, (ad.add (i * 5)).off + 4, none⟩ = some (.string (xs.getD i zeroCom).text) ∧ Kd.C (Kd.int .u64) w A' (xs.getD i zeroCom).ps.length (xs.getD i zeroCom).ps ∧ (xs.getD i zeroCom).ps.length ≤ n' := by
  obtain ⟨ad, c, e, _, hK, hc0⟩ := Kd.C_get h zeroCom (i : Int) (by omega) (by omega)
  rw [Int.toNat_natCast] at hK hc0
  have hc : ∀ j u, c[j]? = some u → w.cell? (ad.add (i * 5 + j)) = some u := hc0
  obtain ⟨A', n', rfl, hn, hC⟩ := kC_open hK
  exact ⟨ad, A', n', e, hc 0 _ rfl, by rw [← add_field _ _ 1 (by omega)]; exact hc 1 _ rfl, by rw [← add_field _ _ 2 (by omega)]; exact hc 2 _ rfl, by rw [← add_field _ _ 3 (by omega)]; exact hc 3 _ rfl, by rw [← add_field _ _ 4 (by omega)]; exact hc 4 _ rfl, hC, hn⟩
theorem en_at {l : List Entry} (i : Nat) (hi : i < l.length) : rd_T53 l (i : Int) = l[i] := by simp [rd_T53, List.getD, hi]
theorem ch_at {l : List Change} (i : Nat) (hi : i < l.length) : rd_T47 l (i : Int) = l[i] := by simp [rd_T47, List.getD, hi]
theorem cl_at {l : List Clash} (i : Nat) (hi : i < l.length) : rd_T59 l (i : Int) = l[i] := by simp [rd_T59, List.getD, hi]
theorem rf_at {l : List Ref} (i : Nat) (hi : i < l.length) : rd_T62 l (i : Int) = l[i] := by simp [rd_T62, List.getD, hi]
theorem co_at {l : List Com} (i : Nat) (hi : i < l.length) : l.getD i zeroCom = l[i] := by simp [List.getD, hi]
theorem encLs_len {α : Type} (en : α → List Int) (l : List α) : (encLs en l).length = (enc (l.length : Int)).length + (encMany en l).length := by rw [encLs, List.length_append]
set_option maxHeartbeats 8000000 in
set_option maxRecDepth 100000 in
theorem wl_entry (W0 : World) (g : Nat) (bs : List Int) (l : List Entry) (A : Option Addr) (n : Nat) (W : World) (hw : WrAt W0.heap.size g W bs) (hB : Below W0.heap.size W0 W) (hC : Kd.C k53 W0 A l.length l) (hn : l.length ≤ n) (hlim : bs.length + (encLs encE l).length ≤ 1000000000) :
    Calls Try.prog 58 #[.pointer (some ⟨g, 0, none⟩), .slice A l.length n, .func (.func 59) #[] #[]] W fun e W1 => e = .returned (.tuple #[]) ∧ WrAt W0.heap.size g W1 (bs ++ encLs encE l) ∧ Fr W0.heap.size [98, 5] W W1 := by
  have huX := Try.underlying53
  have huW := Try.underlying98
  have HC := Aside0.mk hC
  have HB := Aside0.mk hB
  have HMX := Aside0.mk (Kd.C_max hC)
  have HL := Aside0.mk (show bs.length + ((enc (l.length : Int)).length + (encMany encE l).length) ≤ 1000000000 by have h := hlim; rw [encLs_len] at h; exact h)
  have hlm := Kd.C_max hC
  have HU := Aside0.mk (show U64 (l.length : Int) from ⟨by omega, by omega⟩)
  have hcl : IntKind.u64.wrap (l.length : Int) = (l.length : Int) := by rw [IntKind.wrap_u64]; omega
  have HW0 := Aside0.mk hw
  clear hw hlim hC hB hlm
  go_enter Try.func58, Try.ntmps58
  go_wp2_with (go_at_call 54; refine (wr_num1_at W0.heap.size g _ bs (l.length : Int) _ rfl HW0.out HU.out (by have := HL.out; omega)).mono ?_; rintro e w1 ⟨rfl, hw, hf⟩; have HW1 := Aside0.mk hw; have HF1 := Aside0.mk hf; clear hw hf)
  go_loopg [18] l.length (fun kq v18 w' => ∃ i : Nat, v18 = .int .i64 (i : Int) ∧ Aside0 (i ≤ l.length ∧ kq = l.length - i) ∧ Aside0 (WrAt W0.heap.size g w' (bs ++ enc (l.length : Int) ++ encMany encE (l.take i))) ∧ Aside0 (Fr W0.heap.size [98, 5] W w'))
  case atStart => exact ⟨0, rfl, ⟨by omega, by omega⟩, ⟨by simpa [encMany] using HW1.out⟩, HF1⟩
  case round =>
    obtain ⟨i, rfl, HI, HW, HF⟩ := hrel
    clear HW1 HF1
    by_cases hlt : i < l.length
    · have HBw := Aside0.mk (HB.out.trans (HF.out.below HB.out.size))
      obtain ⟨ad, hA, h0, h1⟩ := at_T53 (Kd.C_below HC.out HBw.out) (i : Int) (by omega) (by omega)
      subst hA
      simp only [Int.toNat_natCast] at h0 h1
      have HTK := Aside0.mk (encMany_take encE l i hlt)
      have HLE := Aside0.mk (encMany_le encE l i hlt)
      have hx := en_at (l := l) i hlt
      rw [← hx] at HTK HLE
      generalize rd_T53 l (i : Int) = x at h0 h1 HTK HLE
      clear hx
      have hlt' : (i : Int) < (l.length : Int) := by omega
      obtain ⟨i1, hi1⟩ : ∃ z, z = i + 1 := ⟨_, rfl⟩
      have HWI := Aside0.mk (show wrap64 ((i : Int) + 1) = (i1 : Int) by have := HMX.out; unfold wrap64; omega)
      have HI1 := Aside0.mk (show i1 = i + 1 ∧ i1 ≤ l.length by omega)
      have HX := Aside0.mk (blk_new wr (.cells #[.string x.f0, .string x.f1] 53))
      have HWx := Aside0.mk (HW.out.below (below_alloc (Below.refl wr.heap.size wr) (.cells #[.string x.f0, .string x.f1] 53)))
      have HFx := Aside0.mk (HF.out.allocs (.cells #[.string x.f0, .string x.f1] 53))
      have HLX := Aside0.mk (show (bs ++ enc (l.length : Int) ++ encMany encE (l.take i)).length + (encE x).length ≤ 1000000000 by have h1 := HL.out; have h2 := HLE.out; simp only [List.length_append]; omega)
      clear hi1 hlt
      go_upto_region 4 with (fail)
      generalize wr.alloc (.cells #[.string x.f0, .string x.f1] 53) = w3 at HX HWx HFx ⊢
      generalize wr.heap.size = gx at HX ⊢
      obtain ⟨x0, x1⟩ := pair_cells HX.out
      go_wp2_with (go_at_call 59; refine (wr_entry W0.heap.size g _ x _ HWx.out HLX.out).mono ?_; rintro e w4 ⟨rfl, hw, hf⟩; have HW4 := Aside0.mk hw; have HF4 := Aside0.mk (HFx.out.trans hf); clear hw hf)
      go_roundg (l.length - i1)
      case measure => have := HI.out; have := HI1.out; omega
      case rel =>
        refine ⟨i1, ?_, ⟨?_⟩, ⟨?_⟩, HF4⟩
        · first | rfl | (rw [HWI.out]; done) | simp
        · exact ⟨HI1.out.2, rfl⟩
        · rw [HI1.out.1, HTK.out, ← List.append_assoc]; exact HW4.out
    · have hI : i = l.length := by have := HI.out; omega
      have hlt' : ¬ (i : Int) < (l.length : Int) := by omega
      have hw := HW.out
      rw [hI, List.take_length] at hw
      have HWe := Aside0.mk hw
      clear hw hI hlt HW
      go_wp2
      go_end0
      exact ⟨rfl, by simpa [encLs, List.append_assoc] using HWe.out, HF.out⟩
set_option maxHeartbeats 8000000 in
set_option maxRecDepth 100000 in
theorem wl_change (W0 : World) (g : Nat) (bs : List Int) (l : List Change) (A : Option Addr) (n : Nat) (W : World) (hw : WrAt W0.heap.size g W bs) (hB : Below W0.heap.size W0 W) (hC : Kd.C k47 W0 A l.length l) (hn : l.length ≤ n) (hlim : bs.length + (encLs encCh l).length ≤ 1000000000) :
    Calls Try.prog 60 #[.pointer (some ⟨g, 0, none⟩), .slice A l.length n, .func (.func 61) #[] #[]] W fun e W1 => e = .returned (.tuple #[]) ∧ WrAt W0.heap.size g W1 (bs ++ encLs encCh l) ∧ Fr W0.heap.size [98, 5] W W1 := by
  have huX := Try.underlying47
  have huW := Try.underlying98
  have HC := Aside0.mk hC
  have HB := Aside0.mk hB
  have HMX := Aside0.mk (Kd.C_max hC)
  have HL := Aside0.mk (show bs.length + ((enc (l.length : Int)).length + (encMany encCh l).length) ≤ 1000000000 by have h := hlim; rw [encLs_len] at h; exact h)
  have hlm := Kd.C_max hC
  have HU := Aside0.mk (show U64 (l.length : Int) from ⟨by omega, by omega⟩)
  have hcl : IntKind.u64.wrap (l.length : Int) = (l.length : Int) := by rw [IntKind.wrap_u64]; omega
  have HW0 := Aside0.mk hw
  clear hw hlim hC hB hlm
  go_enter Try.func60, Try.ntmps60
  go_wp2_with (go_at_call 54; refine (wr_num1_at W0.heap.size g _ bs (l.length : Int) _ rfl HW0.out HU.out (by have := HL.out; omega)).mono ?_; rintro e w1 ⟨rfl, hw, hf⟩; have HW1 := Aside0.mk hw; have HF1 := Aside0.mk hf; clear hw hf)
  go_loopg [18] l.length (fun kq v18 w' => ∃ i : Nat, v18 = .int .i64 (i : Int) ∧ Aside0 (i ≤ l.length ∧ kq = l.length - i) ∧ Aside0 (WrAt W0.heap.size g w' (bs ++ enc (l.length : Int) ++ encMany encCh (l.take i))) ∧ Aside0 (Fr W0.heap.size [98, 5] W w'))
  case atStart => exact ⟨0, rfl, ⟨by omega, by omega⟩, ⟨by simpa [encMany] using HW1.out⟩, HF1⟩
  case round =>
    obtain ⟨i, rfl, HI, HW, HF⟩ := hrel
    clear HW1 HF1
    by_cases hlt : i < l.length
    · have HBw := Aside0.mk (HB.out.trans (HF.out.below HB.out.size))
      obtain ⟨ad, hA, h0, h1, h2, h3, h4⟩ := at_T47 (Kd.C_below HC.out HBw.out) (i : Int) (by omega) (by omega)
      subst hA
      simp only [Int.toNat_natCast] at h0 h1 h2 h3 h4
      have HTK := Aside0.mk (encMany_take encCh l i hlt)
      have HLE := Aside0.mk (encMany_le encCh l i hlt)
      have hx := ch_at (l := l) i hlt
      rw [← hx] at HTK HLE
      generalize rd_T47 l (i : Int) = x at h0 h1 h2 h3 h4 HTK HLE
      clear hx
      have hlt' : (i : Int) < (l.length : Int) := by omega
      obtain ⟨i1, hi1⟩ : ∃ z, z = i + 1 := ⟨_, rfl⟩
      have HWI := Aside0.mk (show wrap64 ((i : Int) + 1) = (i1 : Int) by have := HMX.out; unfold wrap64; omega)
      have HI1 := Aside0.mk (show i1 = i + 1 ∧ i1 ≤ l.length by omega)
      have HX := Aside0.mk (blk_new wr (.cells #[.string x.f0, .bool x.f1, .string x.f2, .bool x.f3, .string x.f4] 47))
      have HWx := Aside0.mk (HW.out.below (below_alloc (Below.refl wr.heap.size wr) (.cells #[.string x.f0, .bool x.f1, .string x.f2, .bool x.f3, .string x.f4] 47)))
      have HFx := Aside0.mk (HF.out.allocs (.cells #[.string x.f0, .bool x.f1, .string x.f2, .bool x.f3, .string x.f4] 47))
      have HLX := Aside0.mk (show (bs ++ enc (l.length : Int) ++ encMany encCh (l.take i)).length + (encCh x).length ≤ 1000000000 by have h1 := HL.out; have h2 := HLE.out; simp only [List.length_append]; omega)
      clear hi1 hlt
      go_upto_region 4 with (fail)
      generalize wr.alloc (.cells #[.string x.f0, .bool x.f1, .string x.f2, .bool x.f3, .string x.f4] 47) = w3 at HX HWx HFx ⊢
      generalize wr.heap.size = gx at HX ⊢
      obtain ⟨x0, x1, x2, x3, x4⟩ := five_cells HX.out
      go_wp2_with (go_at_call 61; refine (wr_change W0.heap.size g _ x _ HWx.out HLX.out).mono ?_; rintro e w4 ⟨rfl, hw, hf⟩; have HW4 := Aside0.mk hw; have HF4 := Aside0.mk (HFx.out.trans hf); clear hw hf)
      go_roundg (l.length - i1)
      case measure => have := HI.out; have := HI1.out; omega
      case rel =>
        refine ⟨i1, ?_, ⟨?_⟩, ⟨?_⟩, HF4⟩
        · first | rfl | (rw [HWI.out]; done) | simp
        · exact ⟨HI1.out.2, rfl⟩
        · rw [HI1.out.1, HTK.out, ← List.append_assoc]; exact HW4.out
    · have hI : i = l.length := by have := HI.out; omega
      have hlt' : ¬ (i : Int) < (l.length : Int) := by omega
      have hw := HW.out
      rw [hI, List.take_length] at hw
      have HWe := Aside0.mk hw
      clear hw hI hlt HW
      go_wp2
      go_end0
      exact ⟨rfl, by simpa [encLs, List.append_assoc] using HWe.out, HF.out⟩
set_option maxHeartbeats 8000000 in
set_option maxRecDepth 100000 in
theorem wl_clash (W0 : World) (g : Nat) (bs : List Int) (l : List Clash) (A : Option Addr) (n : Nat) (W : World) (hw : WrAt W0.heap.size g W bs) (hB : Below W0.heap.size W0 W) (hC : Kd.C k59 W0 A l.length l) (hn : l.length ≤ n) (hlim : bs.length + (encLs encCl l).length ≤ 1000000000) :
    Calls Try.prog 62 #[.pointer (some ⟨g, 0, none⟩), .slice A l.length n, .func (.func 63) #[] #[]] W fun e W1 => e = .returned (.tuple #[]) ∧ WrAt W0.heap.size g W1 (bs ++ encLs encCl l) ∧ Fr W0.heap.size [98, 5] W W1 := by
  have huX := Try.underlying59
  have huW := Try.underlying98
  have HC := Aside0.mk hC
  have HB := Aside0.mk hB
  have HMX := Aside0.mk (Kd.C_max hC)
  have HL := Aside0.mk (show bs.length + ((enc (l.length : Int)).length + (encMany encCl l).length) ≤ 1000000000 by have h := hlim; rw [encLs_len] at h; exact h)
  have hlm := Kd.C_max hC
  have HU := Aside0.mk (show U64 (l.length : Int) from ⟨by omega, by omega⟩)
  have hcl : IntKind.u64.wrap (l.length : Int) = (l.length : Int) := by rw [IntKind.wrap_u64]; omega
  have HW0 := Aside0.mk hw
  clear hw hlim hC hB hlm
  go_enter Try.func62, Try.ntmps62
  go_wp2_with (go_at_call 54; refine (wr_num1_at W0.heap.size g _ bs (l.length : Int) _ rfl HW0.out HU.out (by have := HL.out; omega)).mono ?_; rintro e w1 ⟨rfl, hw, hf⟩; have HW1 := Aside0.mk hw; have HF1 := Aside0.mk hf; clear hw hf)
  go_loopg [18] l.length (fun kq v18 w' => ∃ i : Nat, v18 = .int .i64 (i : Int) ∧ Aside0 (i ≤ l.length ∧ kq = l.length - i) ∧ Aside0 (WrAt W0.heap.size g w' (bs ++ enc (l.length : Int) ++ encMany encCl (l.take i))) ∧ Aside0 (Fr W0.heap.size [98, 5] W w'))
  case atStart => exact ⟨0, rfl, ⟨by omega, by omega⟩, ⟨by simpa [encMany] using HW1.out⟩, HF1⟩
  case round =>
    obtain ⟨i, rfl, HI, HW, HF⟩ := hrel
    clear HW1 HF1
    by_cases hlt : i < l.length
    · have HBw := Aside0.mk (HB.out.trans (HF.out.below HB.out.size))
      obtain ⟨ad, hA, h0, h1, h2, h3, h4, h5, h6⟩ := at_T59 (Kd.C_below HC.out HBw.out) (i : Int) (by omega) (by omega)
      subst hA
      simp only [Int.toNat_natCast] at h0 h1 h2 h3 h4 h5 h6
      have HTK := Aside0.mk (encMany_take encCl l i hlt)
      have HLE := Aside0.mk (encMany_le encCl l i hlt)
      have hx := cl_at (l := l) i hlt
      rw [← hx] at HTK HLE
      generalize rd_T59 l (i : Int) = x at h0 h1 h2 h3 h4 h5 h6 HTK HLE
      clear hx
      have hlt' : (i : Int) < (l.length : Int) := by omega
      obtain ⟨i1, hi1⟩ : ∃ z, z = i + 1 := ⟨_, rfl⟩
      have HWI := Aside0.mk (show wrap64 ((i : Int) + 1) = (i1 : Int) by have := HMX.out; unfold wrap64; omega)
      have HI1 := Aside0.mk (show i1 = i + 1 ∧ i1 ≤ l.length by omega)
      have HX := Aside0.mk (blk_new wr (.cells #[.string x.f0, .bool x.f1.f0, .string x.f1.f1, .bool x.f2.f0, .string x.f2.f1, .bool x.f3.f0, .string x.f3.f1] 59))
      have HWx := Aside0.mk (HW.out.below (below_alloc (Below.refl wr.heap.size wr) (.cells #[.string x.f0, .bool x.f1.f0, .string x.f1.f1, .bool x.f2.f0, .string x.f2.f1, .bool x.f3.f0, .string x.f3.f1] 59)))
      have HFx := Aside0.mk (HF.out.allocs (.cells #[.string x.f0, .bool x.f1.f0, .string x.f1.f1, .bool x.f2.f0, .string x.f2.f1, .bool x.f3.f0, .string x.f3.f1] 59))
      have HLX := Aside0.mk (show (bs ++ enc (l.length : Int) ++ encMany encCl (l.take i)).length + (encCl x).length ≤ 1000000000 by have h1 := HL.out; have h2 := HLE.out; simp only [List.length_append]; omega)
      clear hi1 hlt
      go_upto_region 4 with (fail)
      generalize wr.alloc (.cells #[.string x.f0, .bool x.f1.f0, .string x.f1.f1, .bool x.f2.f0, .string x.f2.f1, .bool x.f3.f0, .string x.f3.f1] 59) = w3 at HX HWx HFx ⊢
      generalize wr.heap.size = gx at HX ⊢
      obtain ⟨x0, x1, x2, x3, x4, x5, x6⟩ := sev_cells HX.out
      go_wp2_with (go_at_call 63; refine (wr_clash W0.heap.size g _ x _ HWx.out HLX.out).mono ?_; rintro e w4 ⟨rfl, hw, hf⟩; have HW4 := Aside0.mk hw; have HF4 := Aside0.mk (HFx.out.trans hf); clear hw hf)
      go_roundg (l.length - i1)
      case measure => have := HI.out; have := HI1.out; omega
      case rel =>
        refine ⟨i1, ?_, ⟨?_⟩, ⟨?_⟩, HF4⟩
        · first | rfl | (rw [HWI.out]; done) | simp
        · exact ⟨HI1.out.2, rfl⟩
        · rw [HI1.out.1, HTK.out, ← List.append_assoc]; exact HW4.out
    · have hI : i = l.length := by have := HI.out; omega
      have hlt' : ¬ (i : Int) < (l.length : Int) := by omega
      have hw := HW.out
      rw [hI, List.take_length] at hw
      have HWe := Aside0.mk hw
      clear hw hI hlt HW
      go_wp2
      go_end0
      exact ⟨rfl, by simpa [encLs, List.append_assoc] using HWe.out, HF.out⟩
set_option maxHeartbeats 8000000 in
set_option maxRecDepth 100000 in
theorem wl_ref (W0 : World) (g : Nat) (bs : List Int) (l : List Ref) (A : Option Addr) (n : Nat) (W : World) (hw : WrAt W0.heap.size g W bs) (hB : Below W0.heap.size W0 W) (hC : Kd.C k62 W0 A l.length l) (hn : l.length ≤ n) (hin : ∀ x ∈ l, U64 x.f2) (hlim : bs.length + (encLs encRf l).length ≤ 1000000000) :
    Calls Try.prog 66 #[.pointer (some ⟨g, 0, none⟩), .slice A l.length n, .func (.func 67) #[] #[]] W fun e W1 => e = .returned (.tuple #[]) ∧ WrAt W0.heap.size g W1 (bs ++ encLs encRf l) ∧ Fr W0.heap.size [98, 5] W W1 := by
  have huX := Try.underlying62
  have huW := Try.underlying98
  have HC := Aside0.mk hC
  have HB := Aside0.mk hB
  have HIN := Aside0.mk hin
  clear hin
  have HMX := Aside0.mk (Kd.C_max hC)
  have HL := Aside0.mk (show bs.length + ((enc (l.length : Int)).length + (encMany encRf l).length) ≤ 1000000000 by have h := hlim; rw [encLs_len] at h; exact h)
  have hlm := Kd.C_max hC
  have HU := Aside0.mk (show U64 (l.length : Int) from ⟨by omega, by omega⟩)
  have hcl : IntKind.u64.wrap (l.length : Int) = (l.length : Int) := by rw [IntKind.wrap_u64]; omega
  have HW0 := Aside0.mk hw
  clear hw hlim hC hB hlm
  go_enter Try.func66, Try.ntmps66
  go_wp2_with (go_at_call 54; refine (wr_num1_at W0.heap.size g _ bs (l.length : Int) _ rfl HW0.out HU.out (by have := HL.out; omega)).mono ?_; rintro e w1 ⟨rfl, hw, hf⟩; have HW1 := Aside0.mk hw; have HF1 := Aside0.mk hf; clear hw hf)
  go_loopg [18] l.length (fun kq v18 w' => ∃ i : Nat, v18 = .int .i64 (i : Int) ∧ Aside0 (i ≤ l.length ∧ kq = l.length - i) ∧ Aside0 (WrAt W0.heap.size g w' (bs ++ enc (l.length : Int) ++ encMany encRf (l.take i))) ∧ Aside0 (Fr W0.heap.size [98, 5] W w'))
  case atStart => exact ⟨0, rfl, ⟨by omega, by omega⟩, ⟨by simpa [encMany] using HW1.out⟩, HF1⟩
  case round =>
    obtain ⟨i, rfl, HI, HW, HF⟩ := hrel
    clear HW1 HF1
    by_cases hlt : i < l.length
    · have HBw := Aside0.mk (HB.out.trans (HF.out.below HB.out.size))
      obtain ⟨ad, hA, h0, h1, h2⟩ := at_T62 (Kd.C_below HC.out HBw.out) (i : Int) (by omega) (by omega)
      subst hA
      simp only [Int.toNat_natCast] at h0 h1 h2
      have HTK := Aside0.mk (encMany_take encRf l i hlt)
      have HLE := Aside0.mk (encMany_le encRf l i hlt)
      have hx := rf_at (l := l) i hlt
      have HIX := Aside0.mk (HIN.out _ (List.getElem_mem hlt))
      rw [← hx] at HTK HLE HIX
      generalize rd_T62 l (i : Int) = x at h0 h1 h2 HTK HLE HIX
      clear hx
      have hlt' : (i : Int) < (l.length : Int) := by omega
      obtain ⟨i1, hi1⟩ : ∃ z, z = i + 1 := ⟨_, rfl⟩
      have HWI := Aside0.mk (show wrap64 ((i : Int) + 1) = (i1 : Int) by have := HMX.out; unfold wrap64; omega)
      have HI1 := Aside0.mk (show i1 = i + 1 ∧ i1 ≤ l.length by omega)
      have HX := Aside0.mk (blk_new wr (.cells #[.string x.f0, .bool x.f1, .int .u64 x.f2] 62))
      have HWx := Aside0.mk (HW.out.below (below_alloc (Below.refl wr.heap.size wr) (.cells #[.string x.f0, .bool x.f1, .int .u64 x.f2] 62)))
      have HFx := Aside0.mk (HF.out.allocs (.cells #[.string x.f0, .bool x.f1, .int .u64 x.f2] 62))
      have HLX := Aside0.mk (show (bs ++ enc (l.length : Int) ++ encMany encRf (l.take i)).length + (encRf x).length ≤ 1000000000 by have h1 := HL.out; have h2 := HLE.out; simp only [List.length_append]; omega)
      clear hi1 hlt
      go_upto_region 4 with (fail)
      generalize wr.alloc (.cells #[.string x.f0, .bool x.f1, .int .u64 x.f2] 62) = w3 at HX HWx HFx ⊢
      generalize wr.heap.size = gx at HX ⊢
      obtain ⟨x0, x1, x2⟩ := tri_cells HX.out
      go_wp2_with (go_at_call 67; refine (wr_ref W0.heap.size g _ x _ HWx.out HIX.out HLX.out).mono ?_; rintro e w4 ⟨rfl, hw, hf⟩; have HW4 := Aside0.mk hw; have HF4 := Aside0.mk (HFx.out.trans hf); clear hw hf)
      go_roundg (l.length - i1)
      case measure => have := HI.out; have := HI1.out; omega
      case rel =>
        refine ⟨i1, ?_, ⟨?_⟩, ⟨?_⟩, HF4⟩
        · first | rfl | (rw [HWI.out]; done) | simp
        · exact ⟨HI1.out.2, rfl⟩
        · rw [HI1.out.1, HTK.out, ← List.append_assoc]; exact HW4.out
    · have hI : i = l.length := by have := HI.out; omega
      have hlt' : ¬ (i : Int) < (l.length : Int) := by omega
      have hw := HW.out
      rw [hI, List.take_length] at hw
      have HWe := Aside0.mk hw
      clear hw hI hlt HW
      go_wp2
      go_end0
      exact ⟨rfl, by simpa [encLs, List.append_assoc] using HWe.out, HF.out⟩
set_option maxHeartbeats 8000000 in
set_option maxRecDepth 100000 in
theorem wl_commit (W0 : World) (g : Nat) (bs : List Int) (l : List Com) (A : Option Addr) (n : Nat) (W : World) (hw : WrAt W0.heap.size g W bs) (hB : Below W0.heap.size W0 W) (hC : Kd.C kC W0 A l.length l) (hn : l.length ≤ n) (hin : ∀ c ∈ l, ComIn c) (hlim : bs.length + (encLs encCo l).length ≤ 1000000000) :
    Calls Try.prog 64 #[.pointer (some ⟨g, 0, none⟩), .slice A l.length n, .func (.func 65) #[] #[]] W fun e W1 => e = .returned (.tuple #[]) ∧ WrAt W0.heap.size g W1 (bs ++ encLs encCo l) ∧ Fr W0.heap.size [98, 5] W W1 := by
  have huX := Try.underlying44
  have huW := Try.underlying98
  have HC := Aside0.mk hC
  have HB := Aside0.mk hB
  have HIN := Aside0.mk hin
  clear hin
  have HMX := Aside0.mk (Kd.C_max hC)
  have HL := Aside0.mk (show bs.length + ((enc (l.length : Int)).length + (encMany encCo l).length) ≤ 1000000000 by have h := hlim; rw [encLs_len] at h; exact h)
  have hlm := Kd.C_max hC
  have HU := Aside0.mk (show U64 (l.length : Int) from ⟨by omega, by omega⟩)
  have hcl : IntKind.u64.wrap (l.length : Int) = (l.length : Int) := by rw [IntKind.wrap_u64]; omega
  have HW0 := Aside0.mk hw
  clear hw hlim hC hB hlm
  go_enter Try.func64, Try.ntmps64
  go_wp2_with (go_at_call 54; refine (wr_num1_at W0.heap.size g _ bs (l.length : Int) _ rfl HW0.out HU.out (by have := HL.out; omega)).mono ?_; rintro e w1 ⟨rfl, hw, hf⟩; have HW1 := Aside0.mk hw; have HF1 := Aside0.mk hf; clear hw hf)
  go_loopg [18] l.length (fun kq v18 w' => ∃ i : Nat, v18 = .int .i64 (i : Int) ∧ Aside0 (i ≤ l.length ∧ kq = l.length - i) ∧ Aside0 (WrAt W0.heap.size g w' (bs ++ enc (l.length : Int) ++ encMany encCo (l.take i))) ∧ Aside0 (Fr W0.heap.size [98, 5] W w'))
  case atStart => exact ⟨0, rfl, ⟨by omega, by omega⟩, ⟨by simpa [encMany] using HW1.out⟩, HF1⟩
  case round =>
    obtain ⟨i, rfl, HI, HW, HF⟩ := hrel
    clear HW1 HF1
    by_cases hlt : i < l.length
    · have HBw := Aside0.mk (HB.out.trans (HF.out.below HB.out.size))
      obtain ⟨ad, A', n', hA, k0, k1, k2, k3, k4, hP, hPn⟩ := at_Com HC.out i hlt
      subst hA
      have h0 := pw_cell_below HBw.out k0
      have h1 := pw_cell_below HBw.out k1
      have h2 := pw_cell_below HBw.out k2
      have h3 := pw_cell_below HBw.out k3
      have h4 := pw_cell_below HBw.out k4
      clear k0 k1 k2 k3 k4
      have HP0 := Aside0.mk hP
      have HPN := Aside0.mk hPn
      clear hP hPn
      have HTK := Aside0.mk (encMany_take encCo l i hlt)
      have HLE := Aside0.mk (encMany_le encCo l i hlt)
      have hx := co_at (l := l) i hlt
      have HIX := Aside0.mk (HIN.out _ (List.getElem_mem hlt))
      rw [← hx] at HTK HLE HIX
      generalize l.getD i zeroCom = x at h0 h1 h2 h3 h4 HTK HLE HIX HP0 HPN
      clear hx
      have hlt' : (i : Int) < (l.length : Int) := by omega
      obtain ⟨i1, hi1⟩ : ∃ z, z = i + 1 := ⟨_, rfl⟩
      have HWI := Aside0.mk (show wrap64 ((i : Int) + 1) = (i1 : Int) by have := HMX.out; unfold wrap64; omega)
      have HI1 := Aside0.mk (show i1 = i + 1 ∧ i1 ≤ l.length by omega)
      have HX := Aside0.mk (blk_new wr (.cells #[.int .u64 x.id, .slice A' x.ps.length n', .int .u64 x.gen, .int .u64 x.root, .string x.text] 44))
      have HWx := Aside0.mk (HW.out.below (below_alloc (Below.refl wr.heap.size wr) (.cells #[.int .u64 x.id, .slice A' x.ps.length n', .int .u64 x.gen, .int .u64 x.root, .string x.text] 44)))
      have HBx := Aside0.mk (below_alloc HBw.out (.cells #[.int .u64 x.id, .slice A' x.ps.length n', .int .u64 x.gen, .int .u64 x.root, .string x.text] 44))
      have HFx := Aside0.mk (HF.out.allocs (.cells #[.int .u64 x.id, .slice A' x.ps.length n', .int .u64 x.gen, .int .u64 x.root, .string x.text] 44))
      have HLX := Aside0.mk (show (bs ++ enc (l.length : Int) ++ encMany encCo (l.take i)).length + (encCo x).length ≤ 1000000000 by have h1 := HL.out; have h2 := HLE.out; simp only [List.length_append]; omega)
      clear hi1 hlt
      go_upto_region 4 with (fail)
      generalize wr.alloc (.cells #[.int .u64 x.id, .slice A' x.ps.length n', .int .u64 x.gen, .int .u64 x.root, .string x.text] 44) = w3 at HX HWx HFx HBx ⊢
      generalize wr.heap.size = gx at HX ⊢
      obtain ⟨x0, x1, x2, x3, x4⟩ := five_cells HX.out
      go_wp2_with (go_at_call 65; refine (wr_commit W0 g _ x A' n' w3 HWx.out HBx.out HP0.out HPN.out HIX.out HLX.out).mono ?_; rintro e w4 ⟨rfl, hw, hf⟩; have HW4 := Aside0.mk hw; have HF4 := Aside0.mk (HFx.out.trans hf); clear hw hf)
      go_roundg (l.length - i1)
      case measure => have := HI.out; have := HI1.out; omega
      case rel =>
        refine ⟨i1, ?_, ⟨?_⟩, ⟨?_⟩, HF4⟩
        · first | rfl | (rw [HWI.out]; done) | simp
        · exact ⟨HI1.out.2, rfl⟩
        · rw [HI1.out.1, HTK.out, ← List.append_assoc]; exact HW4.out
    · have hI : i = l.length := by have := HI.out; omega
      have hlt' : ¬ (i : Int) < (l.length : Int) := by omega
      have hw := HW.out
      rw [hI, List.take_length] at hw
      have HWe := Aside0.mk hw
      clear hw hI hlt HW
      go_wp2
      go_end0
      exact ⟨rfl, by simpa [encLs, List.append_assoc] using HWe.out, HF.out⟩
end Go.Proofs.Ytcegkljkmnpkaaa.Sep
namespace Go.Proofs.Ytcegkljkmnpkaaa.Sep
set_option linter.unusedSimpArgs false
set_option linter.unusedVariables false
open Go.RowKit Go.Proofs.Ytcegkljkmnpkaaa.PCore Go.Proofs.Ytcegkljkmnpkaaa.Plain Go.Proofs.YtcegkljkmnpkaaaW.PrintWords Go.Proofs.YtcegkljkmnpkaaaW.PrintLast Go.Proofs.YtcegkljkmnpkaaaW.PrintMore
open Go.Proofs.Ytcegkljkmnpkaaa.PDat (S53 S47 S57 S59 S62 k53 k47 k57 k59 k62)
/-- An answer's cells. -/
abbrev rpV (r : Rp) (A1 : Option Addr) (n1 : Nat) (A2 : Option Addr) (n2 : Nat) (A3 : Option Addr) (n3 : Nat) (A4 : Option Addr) (n4 : Nat) (A5 : Option Addr) (n5 : Nat) : Array Value :=
  #[.int .i64 r.err, .bool r.is, .string r.val, .int .u64 r.id, .int .i64 r.n, .slice A1 r.es.length n1, .slice A2 r.chs.length n2, .slice A3 r.cls.length n3, .slice A4 r.coms.length n4, .slice A5 r.refs.length n5]
/-- An answer's rows in memory. -/
structure RpC (w : World) (r : Rp) (A1 : Option Addr) (n1 : Nat) (A2 : Option Addr) (n2 : Nat) (A3 : Option Addr) (n3 : Nat) (A4 : Option Addr) (n4 : Nat) (A5 : Option Addr) (n5 : Nat) : Prop where
  c1 : Kd.C k53 w A1 r.es.length r.es
  m1 : r.es.length ≤ n1
  c2 : Kd.C k47 w A2 r.chs.length r.chs
  m2 : r.chs.length ≤ n2
  c3 : Kd.C k59 w A3 r.cls.length r.cls
  m3 : r.cls.length ≤ n3
  c4 : Kd.C kC w A4 r.coms.length r.coms
  m4 : r.coms.length ≤ n4
  c5 : Kd.C k62 w A5 r.refs.length r.refs
  m5 : r.refs.length ≤ n5
theorem RpC.below {w w1 : World} {r : Rp} {A1 : Option Addr} {n1 : Nat} {A2 : Option Addr} {n2 : Nat} {A3 : Option Addr} {n3 : Nat} {A4 : Option Addr} {n4 : Nat} {A5 : Option Addr} {n5 : Nat} (h : RpC w r A1 n1 A2 n2 A3 n3 A4 n4 A5 n5) (hb : Below w.heap.size w w1) : RpC w1 r A1 n1 A2 n2 A3 n3 A4 n4 A5 n5 :=
  ⟨Kd.C_below h.c1 hb, h.m1, Kd.C_below h.c2 hb, h.m2, Kd.C_below h.c3 hb, h.m3, Kd.C_below h.c4 hb, h.m4, Kd.C_below h.c5 hb, h.m5⟩
theorem ten_cells {w : World} {g t : Nat} {a b c d e f h i j k : Value} (hk : w.heap[g]? = some (.cells #[a, b, c, d, e, f, h, i, j, k] t (0, 0))) :
    w.cell? ⟨g, 0, none⟩ = some a ∧ w.cell? ⟨g, 1, none⟩ = some b ∧ w.cell? ⟨g, 2, none⟩ = some c ∧ w.cell? ⟨g, 3, none⟩ = some d ∧ w.cell? ⟨g, 4, none⟩ = some e ∧ w.cell? ⟨g, 5, none⟩ = some f ∧ w.cell? ⟨g, 6, none⟩ = some h ∧ w.cell? ⟨g, 7, none⟩ = some i ∧ w.cell? ⟨g, 8, none⟩ = some j ∧ w.cell? ⟨g, 9, none⟩ = some k :=
  ⟨(blk_cell hk 0).trans rfl, (blk_cell hk 1).trans rfl, (blk_cell hk 2).trans rfl, (blk_cell hk 3).trans rfl, (blk_cell hk 4).trans rfl, (blk_cell hk 5).trans rfl, (blk_cell hk 6).trans rfl, (blk_cell hk 7).trans rfl, (blk_cell hk 8).trans rfl, (blk_cell hk 9).trans rfl⟩
set_option maxHeartbeats 32000000 in
set_option maxRecDepth 100000 in
theorem put20_calls (r : Rp) (A1 : Option Addr) (n1 : Nat) (A2 : Option Addr) (n2 : Nat) (A3 : Option Addr) (n3 : Nat) (A4 : Option Addr) (n4 : Nat) (A5 : Option Addr) (n5 : Nat) (W : World) (h : RpC W r A1 n1 A2 n2 A3 n3 A4 n4 A5 n5) (hI : RpIn r) (hlim : (encRp r).length ≤ 1000000) :
    Calls Try.prog 13 #[.agg (rpV r A1 n1 A2 n2 A3 n3 A4 n4 A5 n5)] W fun e W1 => ∃ v, e = .returned v ∧ Kd.R (Kd.int .u8) 5 W1 W.heap.size (fun _ => True) v (encRp r) ∧ Below W.heap.size W W1 := by
  obtain ⟨err, is, val, id, n, es, chs, cls, coms, refs⟩ := r
  have huR := Try.underlying30
  have huW := Try.underlying98
  have HC := Aside0.mk h
  have HI := Aside0.mk (show U64 id ∧ I64 n ∧ I64 err ∧ (∀ c ∈ coms, ComIn c) ∧ (∀ x ∈ refs, U64 x.f2) from hI)
  have HL := Aside0.mk (show (enc (errU err)).length + ((encB is).length + ((encT val).length + ((enc id).length + ((enc (zig n)).length + ((encLs encE es).length + ((encLs encCh chs).length + ((encLs encCl cls).length + ((encLs encCo coms).length + (encLs encRf refs).length)))))))) ≤ 1000000 by have h := hlim; simp only [encRp, List.length_append] at h; omega)
  have hce : IntKind.u64.wrap err = errU err := by rw [IntKind.wrap_u64]; rfl
  have HEU := Aside0.mk (errU_in err)
  have HZU := Aside0.mk (zig_in HI.out.2.1)
  have HX0 := Aside0.mk (blk_alloc (blk_new W (.cells #[.int .i64 err, .bool is, .string val, .int .u64 id, .int .i64 n, .slice A1 es.length n1, .slice A2 chs.length n2, .slice A3 cls.length n3, .slice A4 coms.length n4, .slice A5 refs.length n5] 30)) (.cells #[.slice none 0 0] 98))
  have HW0 := Aside0.mk (show WrAt W.heap.size (W.alloc (.cells #[.int .i64 err, .bool is, .string val, .int .u64 id, .int .i64 n, .slice A1 es.length n1, .slice A2 chs.length n2, .slice A3 cls.length n3, .slice A4 coms.length n4, .slice A5 refs.length n5] 30)).heap.size ((W.alloc (.cells #[.int .i64 err, .bool is, .string val, .int .u64 id, .int .i64 n, .slice A1 es.length n1, .slice A2 chs.length n2, .slice A3 cls.length n3, .slice A4 coms.length n4, .slice A5 refs.length n5] 30)).alloc (.cells #[.slice none 0 0] 98)) [] from ⟨_, blk_new _ _, (below_alloc (Below.refl W.heap.size W) _).size, Kd.R_nil _ _ _ _ _⟩)
  have HF0 := Aside0.mk (((Fr.refl W.heap.size [98, 5] W).allocs (.cells #[.int .i64 err, .bool is, .string val, .int .u64 id, .int .i64 n, .slice A1 es.length n1, .slice A2 chs.length n2, .slice A3 cls.length n3, .slice A4 coms.length n4, .slice A5 refs.length n5] 30)).allocs (.cells #[.slice none 0 0] 98))
  clear h hI hlim
  go_enter Try.func13, Try.ntmps13
  go_upto_region 2 with (fail)
  rw [← size_one W (.cells #[.int .i64 err, .bool is, .string val, .int .u64 id, .int .i64 n, .slice A1 es.length n1, .slice A2 chs.length n2, .slice A3 cls.length n3, .slice A4 coms.length n4, .slice A5 refs.length n5] 30)] at HW0
  generalize (W.alloc (.cells #[.int .i64 err, .bool is, .string val, .int .u64 id, .int .i64 n, .slice A1 es.length n1, .slice A2 chs.length n2, .slice A3 cls.length n3, .slice A4 coms.length n4, .slice A5 refs.length n5] 30)).alloc (.cells #[.slice none 0 0] 98) = w1 at HX0 HW0 HF0 ⊢
  obtain ⟨g, hg⟩ : ∃ g, g = W.heap.size + 1 := ⟨_, rfl⟩
  try rw [← hg] at HW0 ⊢
  clear hg
  have HX1 := HX0
  have HW1 := HW0
  have HF1 := HF0
  clear HX0 HW0 HF0
  have HXd1 := Aside0.mk (blk_drew HX1.out)
  have HWd1 := Aside0.mk HW1.out.drew
  have HFd1 := Aside0.mk HF1.out.drew
  obtain ⟨y1_0, y1_1, y1_2, y1_3, y1_4, y1_5, y1_6, y1_7, y1_8, y1_9⟩ := ten_cells HX1.out
  obtain ⟨z1_0, z1_1, z1_2, z1_3, z1_4, z1_5, z1_6, z1_7, z1_8, z1_9⟩ := ten_cells HXd1.out
  clear y1_1 z1_1 y1_2 z1_2 y1_3 z1_3 y1_4 z1_4 y1_5 z1_5 y1_6 z1_6 y1_7 z1_7 y1_8 z1_8 y1_9 z1_9
  go_region_with (go_at_call 54; refine (wr_num1_drew W.heap.size g _ _ (errU err) _ rfl HWd1.out HEU.out (by have := HL.out;  (try simp only [List.length_append]); (try simp only [List.length_nil]); omega)).mono ?_; rintro e w2 ⟨rfl, hw, hf⟩; have HW2 := Aside0.mk hw; have HF2 := Aside0.mk (HFd1.out.trans hf); have HX2 := Aside0.mk (hf.blk HXd1.out (by decide)); clear hw hf)
  clear y1_0 z1_0 HXd1 HWd1 HFd1
  go_upto_region 3 with (fail)
  have HXd2 := Aside0.mk (blk_drew HX2.out)
  have HWd2 := Aside0.mk HW2.out.drew
  have HFd2 := Aside0.mk HF2.out.drew
  obtain ⟨y2_0, y2_1, y2_2, y2_3, y2_4, y2_5, y2_6, y2_7, y2_8, y2_9⟩ := ten_cells HX2.out
  obtain ⟨z2_0, z2_1, z2_2, z2_3, z2_4, z2_5, z2_6, z2_7, z2_8, z2_9⟩ := ten_cells HXd2.out
  clear y2_0 z2_0 y2_2 z2_2 y2_3 z2_3 y2_4 z2_4 y2_5 z2_5 y2_6 z2_6 y2_7 z2_7 y2_8 z2_8 y2_9 z2_9
  go_region_with (go_at_call 55; refine (wr_flag W.heap.size g _ is _ HWd2.out (by have := HL.out;  (try simp only [List.length_append]); (try simp only [List.length_nil]); omega)).mono ?_; rintro e w3 ⟨rfl, hw, hf⟩; have HW3 := Aside0.mk hw; have HF3 := Aside0.mk (HFd2.out.trans hf); have HX3 := Aside0.mk (hf.blk HXd2.out (by decide)); clear hw hf)
  clear y2_1 z2_1 HXd2 HWd2 HFd2
  go_upto_region 4 with (fail)
  have HXd3 := Aside0.mk (blk_drew HX3.out)
  have HWd3 := Aside0.mk HW3.out.drew
  have HFd3 := Aside0.mk HF3.out.drew
  obtain ⟨y3_0, y3_1, y3_2, y3_3, y3_4, y3_5, y3_6, y3_7, y3_8, y3_9⟩ := ten_cells HX3.out
  obtain ⟨z3_0, z3_1, z3_2, z3_3, z3_4, z3_5, z3_6, z3_7, z3_8, z3_9⟩ := ten_cells HXd3.out
  clear y3_0 z3_0 y3_1 z3_1 y3_3 z3_3 y3_4 z3_4 y3_5 z3_5 y3_6 z3_6 y3_7 z3_7 y3_8 z3_8 y3_9 z3_9
  go_region_with (go_at_call 56; refine (wr_text W.heap.size g _ val _ HWd3.out (by have := HL.out; have := size_encT val; (try simp only [List.length_append]); (try simp only [List.length_nil]); omega)).mono ?_; rintro e w4 ⟨rfl, hw, hf⟩; have HW4 := Aside0.mk hw; have HF4 := Aside0.mk (HFd3.out.trans hf); have HX4 := Aside0.mk (hf.blk HXd3.out (by decide)); clear hw hf)
  clear y3_2 z3_2 HXd3 HWd3 HFd3
  go_upto_region 5 with (fail)
  have HXd4 := Aside0.mk (blk_drew HX4.out)
  have HWd4 := Aside0.mk HW4.out.drew
  have HFd4 := Aside0.mk HF4.out.drew
  obtain ⟨y4_0, y4_1, y4_2, y4_3, y4_4, y4_5, y4_6, y4_7, y4_8, y4_9⟩ := ten_cells HX4.out
  obtain ⟨z4_0, z4_1, z4_2, z4_3, z4_4, z4_5, z4_6, z4_7, z4_8, z4_9⟩ := ten_cells HXd4.out
  clear y4_0 z4_0 y4_1 z4_1 y4_2 z4_2 y4_5 z4_5 y4_6 z4_6 y4_7 z4_7 y4_8 z4_8 y4_9 z4_9
  go_region_with (first | (go_at_call 57; refine (zig_calls n HI.out.2.1 _).mono ?_; rintro e wz ⟨rfl, rfl⟩) | (go_at_call 54; refine (wr_num2_drew W.heap.size g _ _ id (zig n) _ rfl HWd4.out HI.out.1 HZU.out (by have := HL.out;  (try simp only [List.length_append]); (try simp only [List.length_nil]); omega)).mono ?_; rintro e w5 ⟨rfl, hw, hf⟩; have HW5 := Aside0.mk hw; have HF5 := Aside0.mk (HFd4.out.trans hf); have HX5 := Aside0.mk (hf.blk HXd4.out (by decide)); clear hw hf))
  all_goals (
    clear y4_3 z4_3 y4_4 z4_4 HXd4 HWd4 HFd4
    obtain ⟨bs, hbs⟩ : ∃ bs, bs = enc (errU err) ++ (encB is ++ (encT val ++ (enc id ++ enc (zig n)))) := ⟨_, rfl⟩
    have HBS := Aside0.mk hbs
    have HW6 := Aside0.mk (show WrAt W.heap.size g w5 bs by rw [hbs]; simpa [List.append_assoc] using HW5.out)
    have HBL := Aside0.mk (show bs.length + ((encLs encE es).length + ((encLs encCh chs).length + ((encLs encCl cls).length + ((encLs encCo coms).length + (encLs encRf refs).length)))) ≤ 1000000 by have h := HL.out; rw [hbs]; simp only [List.length_append]; omega)
    clear hbs HW5
    obtain ⟨x5_0, x5_1, x5_2, x5_3, x5_4, x5_5, x5_6, x5_7, x5_8, x5_9⟩ := ten_cells HX5.out
    go_wp2_with (first | (go_at_call 68; refine (wr_bytes W.heap.size g _ _ HV10.out (by have := HBL.out; simp only [List.length_append]; omega)).mono ?_; rintro e w11 ⟨v, rfl, hr, hb⟩; have HR11 := Aside0.mk hr; have HB11 := Aside0.mk (below_step (HF10.out.below (Nat.le_refl _)) hb); clear hr hb) | (go_at_call 66; refine (wl_ref W g _ refs A5 n5 _ HV9.out (HF9.out.below (Nat.le_refl _)) HC.out.c5 HC.out.m5 HI.out.2.2.2.2 (by have := HBL.out; (try simp only [List.length_append]); omega)).mono ?_; rintro e w10 ⟨rfl, hw, hf⟩; have HV10 := Aside0.mk hw; have HF10 := Aside0.mk (HF9.out.trans hf); have HX10 := Aside0.mk (hf.blk HX9.out (by decide)); obtain ⟨x10_0, x10_1, x10_2, x10_3, x10_4, x10_5, x10_6, x10_7, x10_8, x10_9⟩ := ten_cells HX10.out; clear hw hf) | (go_at_call 64; refine (wl_commit W g _ coms A4 n4 _ HV8.out (HF8.out.below (Nat.le_refl _)) HC.out.c4 HC.out.m4 HI.out.2.2.2.1 (by have := HBL.out; (try simp only [List.length_append]); omega)).mono ?_; rintro e w9 ⟨rfl, hw, hf⟩; have HV9 := Aside0.mk hw; have HF9 := Aside0.mk (HF8.out.trans hf); have HX9 := Aside0.mk (hf.blk HX8.out (by decide)); obtain ⟨x9_0, x9_1, x9_2, x9_3, x9_4, x9_5, x9_6, x9_7, x9_8, x9_9⟩ := ten_cells HX9.out; clear hw hf) | (go_at_call 62; refine (wl_clash W g _ cls A3 n3 _ HV7.out (HF7.out.below (Nat.le_refl _)) HC.out.c3 HC.out.m3 (by have := HBL.out; (try simp only [List.length_append]); omega)).mono ?_; rintro e w8 ⟨rfl, hw, hf⟩; have HV8 := Aside0.mk hw; have HF8 := Aside0.mk (HF7.out.trans hf); have HX8 := Aside0.mk (hf.blk HX7.out (by decide)); obtain ⟨x8_0, x8_1, x8_2, x8_3, x8_4, x8_5, x8_6, x8_7, x8_8, x8_9⟩ := ten_cells HX8.out; clear hw hf) | (go_at_call 60; refine (wl_change W g _ chs A2 n2 _ HV6.out (HF6.out.below (Nat.le_refl _)) HC.out.c2 HC.out.m2 (by have := HBL.out; (try simp only [List.length_append]); omega)).mono ?_; rintro e w7 ⟨rfl, hw, hf⟩; have HV7 := Aside0.mk hw; have HF7 := Aside0.mk (HF6.out.trans hf); have HX7 := Aside0.mk (hf.blk HX6.out (by decide)); obtain ⟨x7_0, x7_1, x7_2, x7_3, x7_4, x7_5, x7_6, x7_7, x7_8, x7_9⟩ := ten_cells HX7.out; clear hw hf) | (go_at_call 58; refine (wl_entry W g _ es A1 n1 _ HW6.out (HF5.out.below (Nat.le_refl _)) HC.out.c1 HC.out.m1 (by have := HBL.out; (try simp only [List.length_append]); omega)).mono ?_; rintro e w6 ⟨rfl, hw, hf⟩; have HV6 := Aside0.mk hw; have HF6 := Aside0.mk (HF5.out.trans hf); have HX6 := Aside0.mk (hf.blk HX5.out (by decide)); obtain ⟨x6_0, x6_1, x6_2, x6_3, x6_4, x6_5, x6_6, x6_7, x6_8, x6_9⟩ := ten_cells HX6.out; clear hw hf))
    go_ret
    refine ⟨v, rfl, ?_, HB11.out⟩
    have h := Kd.R_lower HR11.out (HF10.out.below (Nat.le_refl W.heap.size)).size
    rw [HBS.out] at h
    simpa [encRp, List.append_assoc] using h
  )
end Go.Proofs.Ytcegkljkmnpkaaa.Sep
