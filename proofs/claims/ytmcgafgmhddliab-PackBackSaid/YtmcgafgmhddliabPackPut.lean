/- pack.Put, and the reference's: what they make of fields. Conditions: the bounds of the statements. -/
import Derived.Test.YtmcgafgmhddliabWriter
import Derived.Test.YtmcgafgmhddliabPDatx0
namespace Go.Proofs.Ytmcgafgmhddliab.Sep
open Go.RowKit Go.Proofs.Ytmcgafgmhddliab.PCore Go.Proofs.Ytmcgafgmhddliab.Plain Go.Proofs.YtmcgafgmhddliabW.PrintWords Go.Proofs.YtmcgafgmhddliabW.PrintLast Go.Proofs.YtmcgafgmhddliabW.PrintMore
open Go.Proofs.Ytmcgafgmhddliab.PDat (S28 k28 z28 rd_T28 at_T28)
/-- A field, as it is written. -/
def encF (x : S28) : List Int := if x.f0 = 1 then enc x.f1 else if x.f0 = 2 then encT x.f2 else if x.f0 = 3 then encB x.f3 else []
def encFs (l : List S28) : List Int := (l.map encF).flatten
/-- Fields whose numbers are numbers, and whose texts are small. -/
def OkF (l : List S28) : Prop := ∀ x ∈ l, (0 ≤ x.f1 ∧ x.f1 < 18446744073709551616) ∧ x.f2.size ≤ 1000
theorem encF_len {x : S28} (h : (0 ≤ x.f1 ∧ x.f1 < 18446744073709551616) ∧ x.f2.size ≤ 1000) : (encF x).length ≤ 1010 := by
  unfold encF
  have h1 := enc_len_u64 h.1.1 h.1.2
  have h2 := encT_len x.f2 (by omega)
  split
  · omega
  · split
    · omega
    · split
      · simp [encB]
      · simp
theorem encFs_len : ∀ {l : List S28}, OkF l → (encFs l).length ≤ 1010 * l.length
  | [], _ => by simp [encFs]
  | x :: l, h => by
    have h1 := encF_len (h x (by simp))
    have h2 := encFs_len (l := l) (fun y hy => h y (by simp [hy]))
    simp only [encFs, List.map_cons, List.flatten_cons, List.length_append, List.length_cons] at h2 ⊢
    omega
theorem take_one {α : Type} (l : List α) (i : Nat) (h : i < l.length) : l.take (i + 1) = l.take i ++ [l[i]] := by
  rw [List.take_add_one, List.getElem?_eq_getElem h]
  rfl
theorem encFs_take {l : List S28} (i : Nat) (h : i < l.length) : encFs (l.take (i + 1)) = encFs (l.take i) ++ encF (rd_T28 l (i : Int)) := by
  have e : rd_T28 l (i : Int) = l[i] := by simp [rd_T28, List.getD, h]
  rw [e, take_one l i h]
  unfold encFs
  rw [List.map_append, List.flatten_append]
  simp
theorem size_one (W : World) (o : Obj) : W.heap.size + 1 = (W.alloc o).heap.size := (Array.size_push ..).symm
theorem wr_num1_at (B g n : Nat) (bs : List Int) (x : Int) (W : World) (hn : n = W.heap.size) (hw : WrAt B g W bs) (hx : 0 ≤ x ∧ x < 18446744073709551616) (hlim : bs.length + 10 < 140737488355328) :
    Calls Try.prog 13 #[.pointer (some ⟨g, 0, none⟩), .slice (some ⟨n, 0, none⟩) 1 1] (W.alloc (.cells #[.int .u64 x] 26)) fun e W1 => e = .returned (.tuple #[]) ∧ WrAt B g W1 (bs ++ enc x) ∧ Fr B [42, 5] W W1 := by
  subst hn
  exact wr_num1 B g bs x W hw hx hlim
theorem OkF.at {l : List S28} (h : OkF l) (i : Nat) (hi : i < l.length) : (0 ≤ (rd_T28 l (i : Int)).f1 ∧ (rd_T28 l (i : Int)).f1 < 18446744073709551616) ∧ (rd_T28 l (i : Int)).f2.size ≤ 1000 := by
  have e : rd_T28 l (i : Int) = l[i] := by simp [rd_T28, List.getD, hi]
  rw [e]
  exact h _ (List.getElem_mem hi)
theorem OkF.take {l : List S28} (h : OkF l) (i : Nat) : OkF (l.take i) := fun x hx => h x (List.mem_of_mem_take hx)
set_option maxHeartbeats 4000000 in
set_option maxRecDepth 100000 in
theorem pack_put (A : Option Addr) (c : Nat) (l : List S28) (W : World) (hC : Kd.C k28 W A l.length l) (hok : OkF l) (hn : l.length ≤ 1000) :
    Calls Try.prog 8 #[.slice A l.length c] W fun e W1 => ∃ v, e = .returned v ∧ Kd.R (Kd.int .u8) 5 W1 W.heap.size (fun _ => True) v (encFs l) ∧ Below W.heap.size W W1 := by
  have HC := Aside0.mk hC
  have HOK := Aside0.mk hok
  have HN := Aside0.mk hn
  clear hC hok hn
  have huF := Try.underlying28
  go_enter Try.func8, Try.ntmps8
  go_wp2
  go_loopg [10] l.length (fun kq v10 w' => ∃ i : Nat, v10 = .int .i64 i ∧ Aside0 (i ≤ l.length ∧ kq = l.length - i) ∧ Aside0 (WrAt W.heap.size W.heap.size w' (encFs (l.take i))) ∧ Aside0 (Below W.heap.size W w'))
  case atStart => exact ⟨0, rfl, ⟨by omega, by omega⟩, ⟨⟨_, blk_new _ _, Nat.le_refl _, Kd.R_nil _ _ _ _ _⟩⟩, ⟨below_alloc (Below.refl _ _) _⟩⟩
  case round =>
    obtain ⟨i, rfl, HI, HW, HB⟩ := hrel
    by_cases hlt : i < l.length
    · obtain ⟨ad, rfl, h0, h1, h2, h3⟩ := at_T28 (Kd.C_below HC.out HB.out) (i : Int) (by omega) (by omega)
      have HE := Aside0.mk (encFs_take i hlt)
      have HX := Aside0.mk (HOK.out.at i hlt)
      have HL := Aside0.mk (show (encFs (l.take i)).length ≤ 1010 * 1000 by have := encFs_len (HOK.out.take i); have := HN.out; simp only [List.length_take] at *; omega)
      generalize rd_T28 l (i : Int) = x at h0 h1 h2 h3 HE HX
      obtain ⟨f0, f1, f2, f3⟩ := x
      simp only [Int.toNat_natCast] at h0 h1 h2 h3
      have hlt' : (i : Int) < (l.length : Int) := by omega
      have HWI := Aside0.mk (show wrap64 ((i : Int) + 1) = ((i + 1 : Nat) : Int) by have := HN.out; unfold wrap64; omega)
      have HX2 := Aside0.mk (show 0 ≤ f1 ∧ f1 < 18446744073709551616 from HX.out.1)
      have HX3 := Aside0.mk (show f2.size ≤ 1000 from HX.out.2)
      clear HX
      by_cases k1 : f0 = 1
      · subst k1
        go_wp2_with (go_at_call 13; refine (wr_num1_at W.heap.size W.heap.size _ _ _ _ (size_one _ _) (HW.out.below (below_alloc (Below.refl _ _) _)) HX2.out (by have := HL.out; omega)).mono ?_; rintro e w1 ⟨rfl, hw1, hf1⟩; have HW1 := Aside0.mk hw1; have HB1 := Aside0.mk (HB.out.trans ((Fr.alloc hf1).below HB.out.size)); clear hw1 hf1)
        go_roundg (l.length - (i + 1))
        case measure => have := HI.out; omega
        case rel =>
          refine ⟨i + 1, by rw [HWI.out], ⟨by omega, rfl⟩, ⟨?_⟩, ⟨HB1.out⟩⟩
          rw [HE.out]
          exact HW1.out
      · have k1' : (f0 == 1) = false := beq_eq_false_iff_ne.mpr k1
        by_cases k2 : f0 = 2
        · subst k2
          go_wp2_with (go_at_call 14; refine (wr_text W.heap.size W.heap.size _ _ _ (HW.out.below (below_alloc (Below.refl _ _) _)) (by have := HL.out; have := HX3.out; omega)).mono ?_; rintro e w1 ⟨rfl, hw1, hf1⟩; have HW1 := Aside0.mk hw1; have HB1 := Aside0.mk (HB.out.trans ((Fr.alloc hf1).below HB.out.size)); clear hw1 hf1)
          go_roundg (l.length - (i + 1))
          case measure => have := HI.out; omega
          case rel =>
            refine ⟨i + 1, by rw [HWI.out], ⟨by omega, rfl⟩, ⟨?_⟩, ⟨HB1.out⟩⟩
            rw [HE.out]
            exact HW1.out
        · have k2' : (f0 == 2) = false := beq_eq_false_iff_ne.mpr k2
          by_cases k3 : f0 = 3
          · subst k3
            go_wp2_with (go_at_call 15; refine (wr_flag W.heap.size W.heap.size _ _ _ (HW.out.below (below_alloc (Below.refl _ _) _)) (by have := HL.out; omega)).mono ?_; rintro e w1 ⟨rfl, hw1, hf1⟩; have HW1 := Aside0.mk hw1; have HB1 := Aside0.mk (HB.out.trans ((Fr.alloc hf1).below HB.out.size)); clear hw1 hf1)
            go_roundg (l.length - (i + 1))
            case measure => have := HI.out; omega
            case rel =>
              refine ⟨i + 1, by rw [HWI.out], ⟨by omega, rfl⟩, ⟨?_⟩, ⟨HB1.out⟩⟩
              rw [HE.out]
              exact HW1.out
          · have k3' : (f0 == 3) = false := beq_eq_false_iff_ne.mpr k3
            have HK := Aside0.mk (show encF ⟨f0, f1, f2, f3⟩ = [] by simp [encF, k1, k2, k3])
            go_wp2
            go_roundg (l.length - (i + 1))
            case measure => have := HI.out; omega
            case rel =>
              refine ⟨i + 1, by rw [HWI.out], ⟨by omega, rfl⟩, ⟨?_⟩, ⟨below_alloc HB.out _⟩⟩
              rw [HE.out]
              exact (by rw [HK.out, List.append_nil]; exact HW.out.below (below_alloc (Below.refl _ _) _))
    · have hI : i = l.length := by have := HI.out; omega
      subst hI
      go_wp2_with (go_at_call 16; refine (wr_bytes W.heap.size W.heap.size _ _ HW.out (by have := encFs_len (HOK.out.take l.length); have := HN.out; simp only [List.length_take] at *; omega)).mono ?_; rintro e w1 ⟨v, rfl, hr, hb⟩; have HR := Aside0.mk hr; have HB1 := Aside0.mk (below_step HB.out hb); clear hr hb)
      go_ret
      refine ⟨_, rfl, ?_, HB1.out⟩
      have := HR.out
      rw [List.take_length] at this
      exact Kd.R_lower this HB.out.size
end Go.Proofs.Ytmcgafgmhddliab.Sep
