/- What the laws of layer 2 call: their example, and that nobody's writers and readers tell nothing. Conditions: none. -/
import Derived.Test.YtmcgafgmhddliabPackPut
import Derived.Test.YtmcgafgmhddliabNone
namespace Go.Proofs.Ytmcgafgmhddliab.Sep
open Go.RowKit Go.Proofs.Ytmcgafgmhddliab.PCore Go.Proofs.Ytmcgafgmhddliab.Plain Go.Proofs.YtmcgafgmhddliabW.PrintWords Go.Proofs.YtmcgafgmhddliabW.PrintLast Go.Proofs.YtmcgafgmhddliabW.PrintMore
open Go.Proofs.Ytmcgafgmhddliab.PDat (S28 k28 z28 rd_T28 at_T28 k28_mk)
/-- A slice written out is read as its elements. -/
theorem lit_C {α : Type} (d : Kd α) (W : World) (e : Nat) (xs : List α) (inner : List Value) (hr : Reps (d.K (W.alloc (.cells inner.toArray e))) d.sz xs inner) (hm : xs.length ≤ 9223372036854775807) :
    Kd.C d (W.alloc (.cells inner.toArray e)) (some ⟨W.heap.size, 0, none⟩) xs.length xs := by
  obtain ⟨A, c, he, _, hrow⟩ := OwnRow.reads (OwnRow.lit W 0 hr (Nat.zero_le _) hm)
  injection he with h1
  subst h1
  exact hrow
def aw2 : List S28 := [⟨2, 0, ⟨#[97, 98]⟩, false⟩, ⟨3, 0, ⟨#[]⟩, true⟩]
theorem aw2_enc : encFs aw2 = [2, 97, 98, 1] := by
  have e2 : enc 2 = [2] := enc_lt (by decide)
  have eb : bytesOf (⟨#[97, 98]⟩ : ByteArray) = [97, 98] := by decide
  have es : (((⟨#[97, 98]⟩ : ByteArray).size : Nat) : Int) = 2 := by decide
  simp [aw2, encFs, encF, encT, encB, es, e2, eb]
theorem aw2_ok : OkF aw2 := by
  intro x hx
  simp only [aw2, List.mem_cons, List.not_mem_nil, or_false] at hx
  rcases hx with rfl | rfl <;> exact ⟨⟨by decide, by decide⟩, by decide⟩
theorem aw2_C (W : World) : Kd.C k28 (W.alloc (.cells #[.int .i64 2, .int .u64 0, .string ⟨#[97, 98]⟩, .bool false, .int .i64 3, .int .u64 0, .string ⟨#[]⟩, .bool true] 28)) (some ⟨W.heap.size, 0, none⟩) aw2.length aw2 :=
  lit_C k28 W 28 aw2 [.int .i64 2, .int .u64 0, .string ⟨#[97, 98]⟩, .bool false, .int .i64 3, .int .u64 0, .string ⟨#[]⟩, .bool true] (Reps.c4 (k28_mk _ _) (Reps.c4 (k28_mk _ _) (Reps.none _ _))) (by decide)
set_option maxHeartbeats 1000000 in
set_option maxRecDepth 100000 in
theorem awake2_calls (W : World) : Calls Try.prog 4 #[] W fun e W1 => e = .returned (.bool true) ∧ Below W.heap.size W W1 := by
  go_enter Try.func4, Try.ntmps4
  go_wp2_with fail
  refine (pack_put (some ⟨W.heap.size, 0, none⟩) 2 aw2 _ (aw2_C W) aw2_ok (by decide)).mono ?_
  rintro e w1 ⟨v, rfl, hr, hb⟩
  rw [aw2_enc] at hr
  obtain ⟨A, c, rfl, _, hC⟩ := Kd.R_reads hr
  have hs := Kd.C_string (P := Try.prog) (A := A) (c := c) Try.underlying33 Try.underlying5 Try.underlying9 hC
  have HB := Aside0.mk hb
  clear hr hb hC
  have hs' : (convert 33 9 (.slice A 4 c)).run Try.prog w1 = .ok (.string ⟨#[2, 97, 98, 1]⟩) w1 := hs
  clear hs
  go_wp2
  go_ret
  refine ⟨?_, below_step (below_alloc (Below.refl _ _) _) HB.out⟩
  rfl
end Go.Proofs.Ytmcgafgmhddliab.Sep
