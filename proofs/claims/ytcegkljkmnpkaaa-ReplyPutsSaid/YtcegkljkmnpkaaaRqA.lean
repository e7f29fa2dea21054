/- Answers: plain: what they are, and their bytes. Conditions: none. · Package leb's Zig and Zag, and the reference's, in closed form. Conditions: none. · The walks of the parts of reply.Put: an entry, a change, a clash, a commit, a ref. Printed by gen2.py. Conditions: the bounds of the statements. -/
import Derived.Test.YtcegkljkmnpkaaaRefPut2
import Derived.Test.YtcegkljkmnpkaaaReach
import Derived.Test.YtcegkljkmnpkaaaCodec
import Derived.Test.YtcegkljkmnpkaaaPDatx
import Derived.WalkMore
import Derived.Deep.RegionHeld3
namespace Go.Proofs.Ytcegkljkmnpkaaa.Sep
set_option linter.unusedSimpArgs false
set_option linter.unusedVariables false
open Go.RowKit Go.Proofs.Ytcegkljkmnpkaaa.PCore Go.Proofs.Ytcegkljkmnpkaaa.Plain Go.Proofs.YtcegkljkmnpkaaaW.PrintWords Go.Proofs.YtcegkljkmnpkaaaW.PrintLast Go.Proofs.YtcegkljkmnpkaaaW.PrintMore
open Go.Proofs.Ytcegkljkmnpkaaa.PDat (S53 S47 S57 S59 S62 k53 k47 k57 k59 k62)
abbrev Entry := S53
abbrev Change := S47
abbrev Side := S57
abbrev Clash := S59
abbrev Ref := S62
/-- A commit. -/
structure Com where
  id : Int
  ps : List Int
  gen : Int
  root : Int
  text : ByteArray
/-- An answer. -/
structure Rp where
  err : Int
  is : Bool
  val : ByteArray
  id : Int
  n : Int
  es : List Entry
  chs : List Change
  cls : List Clash
  coms : List Com
  refs : List Ref
abbrev U64 (x : Int) : Prop := 0 ≤ x ∧ x < 18446744073709551616
abbrev I64 (x : Int) : Prop := -9223372036854775808 ≤ x ∧ x < 9223372036854775808
def ComIn (c : Com) : Prop := U64 c.id ∧ (∀ p ∈ c.ps, U64 p) ∧ U64 c.gen ∧ U64 c.root
def encE (x : Entry) : List Int := encT x.f0 ++ encT x.f1
def encCh (c : Change) : List Int := encT c.f0 ++ (encB c.f1 ++ (encT c.f2 ++ (encB c.f3 ++ encT c.f4)))
def encSd (s : Side) : List Int := encB s.f0 ++ encT s.f1
def encCl (c : Clash) : List Int := encT c.f0 ++ (encSd c.f1 ++ (encSd c.f2 ++ encSd c.f3))
def encCo (c : Com) : List Int := enc c.id ++ (enc (c.ps.length : Int) ++ (encs c.ps ++ (enc c.gen ++ (enc c.root ++ encT c.text))))
def encRf (r : Ref) : List Int := encT r.f0 ++ (encB r.f1 ++ enc r.f2)
/-- Things one by one. -/
def encMany {α : Type} (en : α → List Int) (l : List α) : List Int := (l.map en).flatten
def encLs {α : Type} (en : α → List Int) (l : List α) : List Int := enc (l.length : Int) ++ encMany en l
theorem encMany_take {α : Type} (en : α → List Int) (l : List α) (i : Nat) (h : i < l.length) : encMany en (l.take (i + 1)) = encMany en (l.take i) ++ en l[i] := by
  rw [take_one l i h]
  unfold encMany
  rw [List.map_append, List.flatten_append]
  show _ ++ (en l[i] ++ []) = _
  rw [List.append_nil]
theorem encMany_le {α : Type} (en : α → List Int) (l : List α) (i : Nat) (h : i < l.length) : (encMany en (l.take i)).length + (en l[i]).length ≤ (encMany en l).length := by
  have h1 : encMany en l = encMany en (l.take (i + 1)) ++ encMany en (l.drop (i + 1)) := by
    unfold encMany
    rw [← List.flatten_append, ← List.map_append, List.take_append_drop]
  rw [h1, encMany_take en l i h, List.length_append, List.length_append]
  omega
theorem size_encT (s : ByteArray) : s.size ≤ (encT s).length := by
  rw [encT, List.length_append, bytesOf_length]
  omega
/-- Whole numbers with a sign as ones without. -/
def zig (n : Int) : Int := if 0 ≤ n then 2 * n else -2 * n - 1
def zag (u : Int) : Int := if u % 2 = 0 then u / 2 else -(u / 2) - 1
theorem zig_in {n : Int} (h : I64 n) : U64 (zig n) := by
  unfold zig
  split <;> constructor <;> omega
/-- An answer's error as it is written. -/
def errU (e : Int) : Int := e % 18446744073709551616
theorem errU_in (e : Int) : U64 (errU e) := by unfold errU; omega
/-- An answer's bytes. -/
def encRp (r : Rp) : List Int := enc (errU r.err) ++ (encB r.is ++ (encT r.val ++ (enc r.id ++ (enc (zig r.n) ++ (encLs encE r.es ++ (encLs encCh r.chs ++ (encLs encCl r.cls ++ (encLs encCo r.coms ++ encLs encRf r.refs))))))))
def RpIn (r : Rp) : Prop := U64 r.id ∧ I64 r.n ∧ I64 r.err ∧ (∀ c ∈ r.coms, ComIn c) ∧ (∀ x ∈ r.refs, U64 x.f2)
theorem pair_cells {w : World} {g t : Nat} {a b : Value} (h : w.heap[g]? = some (.cells #[a, b] t (0, 0))) : w.cell? ⟨g, 0, none⟩ = some a ∧ w.cell? ⟨g, 1, none⟩ = some b :=
  ⟨(blk_cell h 0).trans rfl, (blk_cell h 1).trans rfl⟩
theorem tri_cells {w : World} {g t : Nat} {a b c : Value} (h : w.heap[g]? = some (.cells #[a, b, c] t (0, 0))) : w.cell? ⟨g, 0, none⟩ = some a ∧ w.cell? ⟨g, 1, none⟩ = some b ∧ w.cell? ⟨g, 2, none⟩ = some c :=
  ⟨(blk_cell h 0).trans rfl, (blk_cell h 1).trans rfl, (blk_cell h 2).trans rfl⟩
theorem five_cells {w : World} {g t : Nat} {a b c d e : Value} (h : w.heap[g]? = some (.cells #[a, b, c, d, e] t (0, 0))) : w.cell? ⟨g, 0, none⟩ = some a ∧ w.cell? ⟨g, 1, none⟩ = some b ∧ w.cell? ⟨g, 2, none⟩ = some c ∧ w.cell? ⟨g, 3, none⟩ = some d ∧ w.cell? ⟨g, 4, none⟩ = some e :=
  ⟨(blk_cell h 0).trans rfl, (blk_cell h 1).trans rfl, (blk_cell h 2).trans rfl, (blk_cell h 3).trans rfl, (blk_cell h 4).trans rfl⟩
theorem blk_drew {w : World} {g : Nat} {o : Obj} (h : w.heap[g]? = some o) : w.drew.heap[g]? = some o := h
theorem WrAt.drew {B g : Nat} {W : World} {bs : List Int} (h : WrAt B g W bs) : WrAt B g W.drew bs := h.below (below_drew (Below.refl _ _))
end Go.Proofs.Ytcegkljkmnpkaaa.Sep
namespace Go.Proofs.Ytcegkljkmnpkaaa.Sep
set_option linter.unusedSimpArgs false
set_option linter.unusedVariables false
open Go.RowKit Go.Proofs.Ytcegkljkmnpkaaa.PCore Go.Proofs.Ytcegkljkmnpkaaa.Plain Go.Proofs.YtcegkljkmnpkaaaW.PrintWords Go.Proofs.YtcegkljkmnpkaaaW.PrintLast Go.Proofs.YtcegkljkmnpkaaaW.PrintMore
theorem z_u64_wrap (n : Int) : IntKind.u64.wrap n = n % 18446744073709551616 := by
  simp [IntKind.wrap, IntKind.bits, IntKind.signed]
theorem z_u64_in (n : Int) (h0 : 0 ≤ n) (h1 : n < 2 ^ 64) : IntKind.u64.wrap n = n := by
  rw [z_u64_wrap]; omega
theorem xor_zero (k : IntKind) (hk : k = .u64 ∨ k = .i64) (x : Int) (h0 : 0 ≤ x) (h1 : x < 18446744073709551616) : Go.bits .xor k x 0 = k.wrap x := by
  obtain ⟨a, rfl⟩ := Int.eq_ofNat_of_zero_le h0
  have ha : a < 2 ^ 64 := by omega
  have key : (((BitVec.ofInt 64 (a : Int)) ^^^ (BitVec.ofInt 64 0)).toNat : Int) = a := by
    have e : BitVec.ofInt 64 0 = 0#64 := by decide
    rw [e, BitVec.xor_zero, BitVec.ofInt_natCast, BitVec.toNat_ofNat, Nat.mod_eq_of_lt ha]
  rcases hk with rfl | rfl
  · exact congrArg (IntKind.wrap .u64) key
  · exact congrArg (IntKind.wrap .i64) key
theorem xor_ones (k : IntKind) (hk : k = .u64 ∨ k = .i64) (x y : Int) (hy : BitVec.ofInt 64 y = BitVec.allOnes 64) (h0 : 0 ≤ x) (h1 : x < 18446744073709551616) : Go.bits .xor k x y = k.wrap (18446744073709551615 - x) := by
  obtain ⟨a, rfl⟩ := Int.eq_ofNat_of_zero_le h0
  have ha : a < 2 ^ 64 := by omega
  have key : (((BitVec.ofInt 64 (a : Int)) ^^^ (BitVec.ofInt 64 y)).toNat : Int) = 18446744073709551615 - a := by
    rw [hy, BitVec.xor_allOnes, BitVec.toNat_not, BitVec.ofInt_natCast, BitVec.toNat_ofNat, Nat.mod_eq_of_lt ha]
    omega
  rcases hk with rfl | rfl
  · exact congrArg (IntKind.wrap .u64) key
  · exact congrArg (IntKind.wrap .i64) key
theorem zig_form {a : Int} (h : -9223372036854775808 ≤ a ∧ a < 9223372036854775808) : leb_Zig.f a = some (zig a) := by
  unfold leb_Zig.f zig
  by_cases c : 0 ≤ a
  · have e1 : a / 9223372036854775808 = 0 := by omega
    have e2 : IntKind.u64.wrap (IntKind.u64.wrap a * 2) = 2 * a := by rw [z_u64_wrap, z_u64_wrap]; omega
    rw [e1, e2, show IntKind.u64.wrap 0 = 0 by decide, xor_zero .u64 (.inl rfl) _ (by omega) (by omega), z_u64_in _ (by omega) (by omega), if_pos c]
  · have e1 : a / 9223372036854775808 = -1 := by omega
    have e2 : IntKind.u64.wrap (IntKind.u64.wrap a * 2) = 2 * a + 18446744073709551616 := by rw [z_u64_wrap, z_u64_wrap]; omega
    rw [e1, e2, xor_ones .u64 (.inl rfl) _ _ (by decide) (by omega) (by omega), z_u64_in _ (by omega) (by omega), if_neg c]
    congr 1
    omega
theorem zig_ref {a : Int} (h : -9223372036854775808 ≤ a ∧ a < 9223372036854775808) : apographref01_Zig.f a = some (zig a) := by
  unfold apographref01_Zig.f zig
  by_cases c : 0 ≤ a
  · rw [if_pos (by omega), if_pos c, z_u64_wrap, z_u64_wrap]
    congr 1
    omega
  · have e : wrap64 (-(wrap64 (a + 1))) = -(a + 1) := by unfold wrap64; omega
    rw [if_neg (by omega), if_neg c, e, z_u64_wrap, z_u64_wrap, z_u64_wrap]
    congr 1
    omega
theorem zag_form {u : Int} (h : 0 ≤ u ∧ u < 18446744073709551616) : leb_Zag.f u = some (zag u) := by
  unfold leb_Zag.f zag
  have e1 : wrap64 (u / 2) = u / 2 := by unfold wrap64; omega
  have e2 : Go.bits .and .u64 u 1 = u % 2 := bits_mask .u64 64 (by decide) z_u64_in 1 (by decide) u h.1 (by omega)
  rw [e1, e2]
  by_cases c : u % 2 = 0
  · rw [c, show wrap64 (-(wrap64 0)) = 0 by decide +kernel, xor_zero .i64 (.inr rfl) _ (by omega) (by omega), if_pos rfl, IntKind.wrap_i64]
    congr 1
    omega
  · have c1 : u % 2 = 1 := by omega
    rw [c1, xor_ones .i64 (.inr rfl) _ _ (by decide +kernel) (by omega) (by omega), if_neg (by decide), IntKind.wrap_i64]
    congr 1
    omega
theorem zag_ref {u : Int} (h : 0 ≤ u ∧ u < 18446744073709551616) : apographref01_Zag.f u = some (zag u) := by
  unfold apographref01_Zag.f zag
  rw [Int.tmod_eq_emod_of_nonneg h.1, Int.tdiv_eq_ediv_of_nonneg h.1]
  have e1 : IntKind.u64.wrap (u / 2) = u / 2 := by rw [z_u64_wrap]; omega
  have e2 : wrap64 (u / 2) = u / 2 := by unfold wrap64; omega
  rw [e1, e2]
  by_cases c : u % 2 = 0
  · rw [if_pos c, if_pos c]
  · rw [if_neg c, if_neg c]
    congr 1
    unfold wrap64
    omega
theorem zig_calls (n : Int) (h : I64 n) (w : World) : Calls Try.prog 57 #[.int .i64 n] w fun e w' => e = .returned (.int .u64 (zig n)) ∧ w' = w := by
  have H := zig_form h
  unfold leb_Zig.f at H
  have h2 := Option.some.inj H
  rw [← h2]
  clear H h2
  go_enter Try.func57, Try.ntmps57
  go_wp2
  go_ret
  exact ⟨by first | rfl | (simp; done) | (simp [*]; done), rfl⟩
theorem zag_calls (u : Int) (h : U64 u) (w : World) : Calls Try.prog 35 #[.int .u64 u] w fun e w' => e = .returned (.int .i64 (zag u)) ∧ w' = w := by
  have H := zag_form h
  unfold leb_Zag.f at H
  have h2 := Option.some.inj H
  rw [show wrap64 (u / 2) = u / 2 by have h3 := h.1; have h4 := h.2; unfold wrap64; omega] at h2
  rw [← h2]
  clear H h2
  go_enter Try.func35, Try.ntmps35
  go_wp2
  go_ret
  exact ⟨by first | rfl | (simp; done) | (simp [*]; done), rfl⟩
theorem rzag_calls (u : Int) (h : U64 u) (w : World) : Calls Try.prog 50 #[.int .u64 u] w fun e w' => e = .returned (.int .i64 (zag u)) ∧ Below w.heap.size w w' :=
  (apographref01_Zag.calls u (zag u) w (zag_ref h)).mono fun e w' ⟨h1, h2⟩ => ⟨h1, by obtain ⟨m, rfl⟩ := h2.out; exact pw_below_drewN (Below.refl _ _) m⟩
end Go.Proofs.Ytcegkljkmnpkaaa.Sep
namespace Go.Proofs.Ytcegkljkmnpkaaa.Sep
set_option linter.unusedSimpArgs false
set_option linter.unusedVariables false
open Go.RowKit Go.Proofs.Ytcegkljkmnpkaaa.PCore Go.Proofs.Ytcegkljkmnpkaaa.Plain Go.Proofs.YtcegkljkmnpkaaaW.PrintWords Go.Proofs.YtcegkljkmnpkaaaW.PrintLast Go.Proofs.YtcegkljkmnpkaaaW.PrintMore
theorem wr_num2_at (B g n : Nat) (bs : List Int) (x y : Int) (W : World) (hn : n = W.heap.size) (hw : WrAt B g W bs) (hx : U64 x) (hy : U64 y) (hlim : bs.length + 20 < 140737488355328) :
    Calls Try.prog 54 #[.pointer (some ⟨g, 0, none⟩), .slice (some ⟨n, 0, none⟩) 2 2] (W.alloc (.cells #[.int .u64 x, .int .u64 y] 23)) fun e W1 => e = .returned (.tuple #[]) ∧ WrAt B g W1 (bs ++ enc x ++ enc y) ∧ Fr B [98, 5] W W1 := by
  subst hn
  have h := wr_num2 B g bs x y W hw hx hy hlim
  refine h.mono fun e W1 ⟨h1, h2, h3⟩ => ⟨h1, ?_, h3⟩
  simpa [encs_cons, encs_nil, List.append_assoc] using h2
theorem wr_num1_drew (B g n : Nat) (bs : List Int) (x : Int) (W : World) (hn : n = W.heap.size) (hw : WrAt B g W.drew bs) (hx : U64 x) (hlim : bs.length + 10 < 140737488355328) :
    Calls Try.prog 54 #[.pointer (some ⟨g, 0, none⟩), .slice (some ⟨n, 0, none⟩) 1 1] (W.alloc (.cells #[.int .u64 x] 23)).drew fun e W1 => e = .returned (.tuple #[]) ∧ WrAt B g W1 (bs ++ enc x) ∧ Fr B [98, 5] W.drew W1 :=
  wr_num1_at B g n bs x W.drew hn hw hx hlim
theorem wr_num2_drew (B g n : Nat) (bs : List Int) (x y : Int) (W : World) (hn : n = W.heap.size) (hw : WrAt B g W.drew bs) (hx : U64 x) (hy : U64 y) (hlim : bs.length + 20 < 140737488355328) :
    Calls Try.prog 54 #[.pointer (some ⟨g, 0, none⟩), .slice (some ⟨n, 0, none⟩) 2 2] (W.alloc (.cells #[.int .u64 x, .int .u64 y] 23)).drew fun e W1 => e = .returned (.tuple #[]) ∧ WrAt B g W1 (bs ++ enc x ++ enc y) ∧ Fr B [98, 5] W.drew W1 :=
  wr_num2_at B g n bs x y W.drew hn hw hx hy hlim
set_option maxRecDepth 100000 in
theorem idx0 (a c e : Bool) (b d f : ByteArray) (w : World) : (Instr.index 137 (.agg #[.bool a, .string b, .bool c, .string d, .bool e, .string f]) (.int .i64 0)).run Try.prog w = .ok (.agg #[.bool a, .string b]) w := by
  first | rfl | kernel_rfl
set_option maxRecDepth 100000 in
theorem idx1 (a c e : Bool) (b d f : ByteArray) (w : World) : (Instr.index 137 (.agg #[.bool a, .string b, .bool c, .string d, .bool e, .string f]) (.int .i64 1)).run Try.prog w = .ok (.agg #[.bool c, .string d]) w := by
  first | rfl | kernel_rfl
set_option maxRecDepth 100000 in
theorem idx2 (a c e : Bool) (b d f : ByteArray) (w : World) : (Instr.index 137 (.agg #[.bool a, .string b, .bool c, .string d, .bool e, .string f]) (.int .i64 2)).run Try.prog w = .ok (.agg #[.bool e, .string f]) w := by
  first | rfl | kernel_rfl
set_option maxHeartbeats 8000000 in
set_option maxRecDepth 100000 in
theorem wr_entry (B g : Nat) (bs : List Int) (x : Entry) (W : World) (hw : WrAt B g W bs) (hlim : bs.length + (encE x).length ≤ 1000000000) :
    Calls Try.prog 59 #[.pointer (some ⟨g, 0, none⟩), .agg #[.string x.f0, .string x.f1]] W fun e W1 => e = .returned (.tuple #[]) ∧ WrAt B g W1 (bs ++ encE x) ∧ Fr B [98, 5] W W1 := by
  obtain ⟨f0, f1⟩ := x
  have huX := Try.underlying53
  have huW := Try.underlying98
  have HL := Aside0.mk (show bs.length + ((encT f0).length + (encT f1).length) ≤ 1000000000 by have h := hlim; simp only [encE, List.length_append] at h; omega)
  have HX1 := Aside0.mk (blk_new W (.cells #[.string f0, .string f1] 53))
  have HW1 := Aside0.mk (hw.below (below_alloc (Below.refl W.heap.size W) (.cells #[.string f0, .string f1] 53)))
  have HF1 := Aside0.mk ((Fr.refl B [98, 5] W).allocs (.cells #[.string f0, .string f1] 53))
  clear hw hlim
  go_enter Try.func59, Try.ntmps59
  go_upto_region 1 with (fail)
  generalize W.alloc (.cells #[.string f0, .string f1] 53) = w1 at HX1 HW1 HF1 ⊢
  generalize W.heap.size = gx at HX1 ⊢
  have HXd1 := Aside0.mk (blk_drew HX1.out)
  have HWd1 := Aside0.mk HW1.out.drew
  have HFd1 := Aside0.mk HF1.out.drew
  obtain ⟨y10, y11⟩ := pair_cells HX1.out
  obtain ⟨z10, z11⟩ := pair_cells HXd1.out
  go_region_with (go_at_call 56; refine (wr_text B g _ f0 _ HWd1.out (by have := HL.out; have := size_encT f0; (try simp only [List.length_append]); omega)).mono ?_; rintro e w2 ⟨rfl, hw, hf⟩; have HW2 := Aside0.mk hw; have HF2 := Aside0.mk (HFd1.out.trans hf); have HX2 := Aside0.mk (hf.blk HXd1.out (by decide)); clear hw hf)
  clear y10 z10 y11 z11 HXd1 HWd1 HFd1
  go_upto_region 2 with (fail)
  have HXd2 := Aside0.mk (blk_drew HX2.out)
  have HWd2 := Aside0.mk HW2.out.drew
  have HFd2 := Aside0.mk HF2.out.drew
  obtain ⟨y20, y21⟩ := pair_cells HX2.out
  obtain ⟨z20, z21⟩ := pair_cells HXd2.out
  go_region_with (go_at_call 56; refine (wr_text B g _ f1 _ HWd2.out (by have := HL.out; have := size_encT f1; (try simp only [List.length_append]); omega)).mono ?_; rintro e w3 ⟨rfl, hw, hf⟩; have HW3 := Aside0.mk hw; have HF3 := Aside0.mk (HFd2.out.trans hf); have HX3 := Aside0.mk (hf.blk HXd2.out (by decide)); clear hw hf)
  clear y20 z20 y21 z21 HXd2 HWd2 HFd2
  go_wp2
  go_end0
  exact ⟨rfl, by simpa [encE, List.append_assoc] using HW3.out, HF3.out⟩
set_option maxHeartbeats 8000000 in
set_option maxRecDepth 100000 in
theorem wr_change (B g : Nat) (bs : List Int) (x : Change) (W : World) (hw : WrAt B g W bs) (hlim : bs.length + (encCh x).length ≤ 1000000000) :
    Calls Try.prog 61 #[.pointer (some ⟨g, 0, none⟩), .agg #[.string x.f0, .bool x.f1, .string x.f2, .bool x.f3, .string x.f4]] W fun e W1 => e = .returned (.tuple #[]) ∧ WrAt B g W1 (bs ++ encCh x) ∧ Fr B [98, 5] W W1 := by
  obtain ⟨f0, f1, f2, f3, f4⟩ := x
  have huX := Try.underlying47
  have huW := Try.underlying98
  have HL := Aside0.mk (show bs.length + ((encT f0).length + (encB f1).length + (encT f2).length + (encB f3).length + (encT f4).length) ≤ 1000000000 by have h := hlim; simp only [encCh, List.length_append] at h; omega)
  have HX1 := Aside0.mk (blk_new W (.cells #[.string f0, .bool f1, .string f2, .bool f3, .string f4] 47))
  have HW1 := Aside0.mk (hw.below (below_alloc (Below.refl W.heap.size W) (.cells #[.string f0, .bool f1, .string f2, .bool f3, .string f4] 47)))
  have HF1 := Aside0.mk ((Fr.refl B [98, 5] W).allocs (.cells #[.string f0, .bool f1, .string f2, .bool f3, .string f4] 47))
  clear hw hlim
  go_enter Try.func61, Try.ntmps61
  go_upto_region 1 with (fail)
  generalize W.alloc (.cells #[.string f0, .bool f1, .string f2, .bool f3, .string f4] 47) = w1 at HX1 HW1 HF1 ⊢
  generalize W.heap.size = gx at HX1 ⊢
  have HXd1 := Aside0.mk (blk_drew HX1.out)
  have HWd1 := Aside0.mk HW1.out.drew
  have HFd1 := Aside0.mk HF1.out.drew
  obtain ⟨y10, y11, y12, y13, y14⟩ := five_cells HX1.out
  obtain ⟨z10, z11, z12, z13, z14⟩ := five_cells HXd1.out
  go_region_with (go_at_call 56; refine (wr_text B g _ f0 _ HWd1.out (by have := HL.out; have := size_encT f0; (try simp only [List.length_append]); omega)).mono ?_; rintro e w2 ⟨rfl, hw, hf⟩; have HW2 := Aside0.mk hw; have HF2 := Aside0.mk (HFd1.out.trans hf); have HX2 := Aside0.mk (hf.blk HXd1.out (by decide)); clear hw hf)
  clear y10 z10 y11 z11 y12 z12 y13 z13 y14 z14 HXd1 HWd1 HFd1
  go_upto_region 2 with (fail)
  have HXd2 := Aside0.mk (blk_drew HX2.out)
  have HWd2 := Aside0.mk HW2.out.drew
  have HFd2 := Aside0.mk HF2.out.drew
  obtain ⟨y20, y21, y22, y23, y24⟩ := five_cells HX2.out
  obtain ⟨z20, z21, z22, z23, z24⟩ := five_cells HXd2.out
  go_region_with (go_at_call 55; refine (wr_flag B g _ f1 _ HWd2.out (by have := HL.out;  (try simp only [List.length_append]); omega)).mono ?_; rintro e w3 ⟨rfl, hw, hf⟩; have HW3 := Aside0.mk hw; have HF3 := Aside0.mk (HFd2.out.trans hf); have HX3 := Aside0.mk (hf.blk HXd2.out (by decide)); clear hw hf)
  clear y20 z20 y21 z21 y22 z22 y23 z23 y24 z24 HXd2 HWd2 HFd2
  go_upto_region 3 with (fail)
  have HXd3 := Aside0.mk (blk_drew HX3.out)
  have HWd3 := Aside0.mk HW3.out.drew
  have HFd3 := Aside0.mk HF3.out.drew
  obtain ⟨y30, y31, y32, y33, y34⟩ := five_cells HX3.out
  obtain ⟨z30, z31, z32, z33, z34⟩ := five_cells HXd3.out
  go_region_with (go_at_call 56; refine (wr_text B g _ f2 _ HWd3.out (by have := HL.out; have := size_encT f2; (try simp only [List.length_append]); omega)).mono ?_; rintro e w4 ⟨rfl, hw, hf⟩; have HW4 := Aside0.mk hw; have HF4 := Aside0.mk (HFd3.out.trans hf); have HX4 := Aside0.mk (hf.blk HXd3.out (by decide)); clear hw hf)
  clear y30 z30 y31 z31 y32 z32 y33 z33 y34 z34 HXd3 HWd3 HFd3
  go_upto_region 4 with (fail)
  have HXd4 := Aside0.mk (blk_drew HX4.out)
  have HWd4 := Aside0.mk HW4.out.drew
  have HFd4 := Aside0.mk HF4.out.drew
  obtain ⟨y40, y41, y42, y43, y44⟩ := five_cells HX4.out
  obtain ⟨z40, z41, z42, z43, z44⟩ := five_cells HXd4.out
  go_region_with (go_at_call 55; refine (wr_flag B g _ f3 _ HWd4.out (by have := HL.out;  (try simp only [List.length_append]); omega)).mono ?_; rintro e w5 ⟨rfl, hw, hf⟩; have HW5 := Aside0.mk hw; have HF5 := Aside0.mk (HFd4.out.trans hf); have HX5 := Aside0.mk (hf.blk HXd4.out (by decide)); clear hw hf)
  clear y40 z40 y41 z41 y42 z42 y43 z43 y44 z44 HXd4 HWd4 HFd4
  go_upto_region 5 with (fail)
  have HXd5 := Aside0.mk (blk_drew HX5.out)
  have HWd5 := Aside0.mk HW5.out.drew
  have HFd5 := Aside0.mk HF5.out.drew
  obtain ⟨y50, y51, y52, y53, y54⟩ := five_cells HX5.out
  obtain ⟨z50, z51, z52, z53, z54⟩ := five_cells HXd5.out
  go_region_with (go_at_call 56; refine (wr_text B g _ f4 _ HWd5.out (by have := HL.out; have := size_encT f4; (try simp only [List.length_append]); omega)).mono ?_; rintro e w6 ⟨rfl, hw, hf⟩; have HW6 := Aside0.mk hw; have HF6 := Aside0.mk (HFd5.out.trans hf); have HX6 := Aside0.mk (hf.blk HXd5.out (by decide)); clear hw hf)
  clear y50 z50 y51 z51 y52 z52 y53 z53 y54 z54 HXd5 HWd5 HFd5
  go_wp2
  go_end0
  exact ⟨rfl, by simpa [encCh, List.append_assoc] using HW6.out, HF6.out⟩
set_option maxHeartbeats 8000000 in
set_option maxRecDepth 100000 in
theorem wr_ref (B g : Nat) (bs : List Int) (x : Ref) (W : World) (hw : WrAt B g W bs) (hi : U64 x.f2) (hlim : bs.length + (encRf x).length ≤ 1000000000) :
    Calls Try.prog 67 #[.pointer (some ⟨g, 0, none⟩), .agg #[.string x.f0, .bool x.f1, .int .u64 x.f2]] W fun e W1 => e = .returned (.tuple #[]) ∧ WrAt B g W1 (bs ++ encRf x) ∧ Fr B [98, 5] W W1 := by
  obtain ⟨f0, f1, f2⟩ := x
  have huX := Try.underlying62
  have huW := Try.underlying98
  have HL := Aside0.mk (show bs.length + ((encT f0).length + (encB f1).length + (enc f2).length) ≤ 1000000000 by have h := hlim; simp only [encRf, List.length_append] at h; omega)
  have HX1 := Aside0.mk (blk_new W (.cells #[.string f0, .bool f1, .int .u64 f2] 62))
  have HW1 := Aside0.mk (hw.below (below_alloc (Below.refl W.heap.size W) (.cells #[.string f0, .bool f1, .int .u64 f2] 62)))
  have HF1 := Aside0.mk ((Fr.refl B [98, 5] W).allocs (.cells #[.string f0, .bool f1, .int .u64 f2] 62))
  have HI := Aside0.mk hi
  clear hi
  clear hw hlim
  go_enter Try.func67, Try.ntmps67
  go_upto_region 1 with (fail)
  generalize W.alloc (.cells #[.string f0, .bool f1, .int .u64 f2] 62) = w1 at HX1 HW1 HF1 ⊢
  generalize W.heap.size = gx at HX1 ⊢
  have HXd1 := Aside0.mk (blk_drew HX1.out)
  have HWd1 := Aside0.mk HW1.out.drew
  have HFd1 := Aside0.mk HF1.out.drew
  obtain ⟨y10, y11, y12⟩ := tri_cells HX1.out
  obtain ⟨z10, z11, z12⟩ := tri_cells HXd1.out
  go_region_with (go_at_call 56; refine (wr_text B g _ f0 _ HWd1.out (by have := HL.out; have := size_encT f0; (try simp only [List.length_append]); omega)).mono ?_; rintro e w2 ⟨rfl, hw, hf⟩; have HW2 := Aside0.mk hw; have HF2 := Aside0.mk (HFd1.out.trans hf); have HX2 := Aside0.mk (hf.blk HXd1.out (by decide)); clear hw hf)
  clear y10 z10 y11 z11 y12 z12 HXd1 HWd1 HFd1
  go_upto_region 2 with (fail)
  have HXd2 := Aside0.mk (blk_drew HX2.out)
  have HWd2 := Aside0.mk HW2.out.drew
  have HFd2 := Aside0.mk HF2.out.drew
  obtain ⟨y20, y21, y22⟩ := tri_cells HX2.out
  obtain ⟨z20, z21, z22⟩ := tri_cells HXd2.out
  go_region_with (go_at_call 55; refine (wr_flag B g _ f1 _ HWd2.out (by have := HL.out;  (try simp only [List.length_append]); omega)).mono ?_; rintro e w3 ⟨rfl, hw, hf⟩; have HW3 := Aside0.mk hw; have HF3 := Aside0.mk (HFd2.out.trans hf); have HX3 := Aside0.mk (hf.blk HXd2.out (by decide)); clear hw hf)
  clear y20 z20 y21 z21 y22 z22 HXd2 HWd2 HFd2
  go_upto_region 3 with (fail)
  have HXd3 := Aside0.mk (blk_drew HX3.out)
  have HWd3 := Aside0.mk HW3.out.drew
  have HFd3 := Aside0.mk HF3.out.drew
  obtain ⟨y30, y31, y32⟩ := tri_cells HX3.out
  obtain ⟨z30, z31, z32⟩ := tri_cells HXd3.out
  go_region_with (go_at_call 54; refine (wr_num1_drew B g _ _ f2 _ rfl HWd3.out HI.out (by have := HL.out;  (try simp only [List.length_append]); omega)).mono ?_; rintro e w4 ⟨rfl, hw, hf⟩; have HW4 := Aside0.mk hw; have HF4 := Aside0.mk (HFd3.out.trans hf); have HX4 := Aside0.mk (hf.blk HXd3.out (by decide)); clear hw hf)
  clear y30 z30 y31 z31 y32 z32 HXd3 HWd3 HFd3
  go_wp2
  go_end0
  exact ⟨rfl, by simpa [encRf, List.append_assoc] using HW4.out, HF4.out⟩
theorem encs_ge : ∀ (ps : List Int), ps.length ≤ (encs ps).length
  | [] => Nat.zero_le _
  | p :: ps => by
    have h := encs_ge ps
    have h1 := enc_len_pos p
    rw [encs_cons, List.length_append, List.length_cons]
    omega
set_option maxHeartbeats 8000000 in
set_option maxRecDepth 100000 in
theorem wr_commit (W0 : World) (g : Nat) (bs : List Int) (x : Com) (A : Option Addr) (n : Nat) (W : World) (hw : WrAt W0.heap.size g W bs) (hB : Below W0.heap.size W0 W) (hC : Kd.C (Kd.int .u64) W0 A x.ps.length x.ps) (hn : x.ps.length ≤ n) (hI : ComIn x) (hlim : bs.length + (encCo x).length ≤ 1000000000) :
    Calls Try.prog 65 #[.pointer (some ⟨g, 0, none⟩), .agg #[.int .u64 x.id, .slice A x.ps.length n, .int .u64 x.gen, .int .u64 x.root, .string x.text]] W fun e W1 => e = .returned (.tuple #[]) ∧ WrAt W0.heap.size g W1 (bs ++ encCo x) ∧ Fr W0.heap.size [98, 5] W W1 := by
  obtain ⟨id, ps, gen, root, t⟩ := x
  have huX := Try.underlying44
  have huW := Try.underlying98
  have HL := Aside0.mk (show bs.length + ((enc id).length + (enc (ps.length : Int)).length + (encs ps).length + (enc gen).length + (enc root).length + (encT t).length) ≤ 1000000000 by have h := hlim; simp only [encCo, List.length_append] at h; omega)
  have HX1 := Aside0.mk (blk_new W (.cells #[.int .u64 id, .slice A ps.length n, .int .u64 gen, .int .u64 root, .string t] 44))
  have HW1 := Aside0.mk (hw.below (below_alloc (Below.refl W.heap.size W) (.cells #[.int .u64 id, .slice A ps.length n, .int .u64 gen, .int .u64 root, .string t] 44)))
  have HF1 := Aside0.mk ((Fr.refl W0.heap.size [98, 5] W).allocs (.cells #[.int .u64 id, .slice A ps.length n, .int .u64 gen, .int .u64 root, .string t] 44))
  have HC := Aside0.mk hC
  have HB := Aside0.mk hB
  have HN := Aside0.mk hn
  have HI := Aside0.mk (show U64 id ∧ (∀ p ∈ ps, U64 p) ∧ U64 gen ∧ U64 root from hI)
  have HPL := Aside0.mk (show 10 * ps.length ≤ 10000000000 by have h := HL.out; have := encs_ge ps; omega)
  have hpl : ps.length ≤ 1000000000 := by have h := HL.out; have := encs_ge ps; omega
  have HU := Aside0.mk (show U64 (ps.length : Int) from ⟨by omega, by omega⟩)
  have hcl : IntKind.u64.wrap (ps.length : Int) = (ps.length : Int) := by rw [IntKind.wrap_u64]; omega
  simp only at hn
  clear hw hlim hC hB hn hI hpl
  go_enter Try.func65, Try.ntmps65
  go_upto_region 1 with (fail)
  generalize W.alloc (.cells #[.int .u64 id, .slice A ps.length n, .int .u64 gen, .int .u64 root, .string t] 44) = w1 at HX1 HW1 HF1 ⊢
  generalize W.heap.size = gx at HX1 ⊢
  have HXd1 := Aside0.mk (blk_drew HX1.out)
  have HWd1 := Aside0.mk HW1.out.drew
  have HFd1 := Aside0.mk HF1.out.drew
  obtain ⟨y10, y11, y12, y13, y14⟩ := five_cells HX1.out
  obtain ⟨z10, z11, z12, z13, z14⟩ := five_cells HXd1.out
  go_region_with (go_at_call 54; refine (wr_num2_drew W0.heap.size g _ _ id (ps.length : Int) _ rfl HWd1.out HI.out.1 HU.out (by have := HL.out;  (try simp only [List.length_append]); omega)).mono ?_; rintro e w2 ⟨rfl, hw, hf⟩; have HW2 := Aside0.mk hw; have HF2 := Aside0.mk (HFd1.out.trans hf); have HX2 := Aside0.mk (hf.blk HXd1.out (by decide)); clear hw hf)
  all_goals (
    clear y10 z10 y11 z11 y12 z12 y13 z13 y14 z14 HXd1 HWd1 HFd1
    go_upto_region 2 with (fail)
    have HXd2 := Aside0.mk (blk_drew HX2.out)
    have HWd2 := Aside0.mk HW2.out.drew
    have HFd2 := Aside0.mk HF2.out.drew
    obtain ⟨y20, y21, y22, y23, y24⟩ := five_cells HX2.out
    obtain ⟨z20, z21, z22, z23, z24⟩ := five_cells HXd2.out
    go_region_with (go_at_call 54; refine (wr_num W0.heap.size g _ ps A n _ HWd2.out (Kd.C_below HC.out (HB.out.trans (HFd2.out.below HB.out.size))) HN.out HI.out.2.1 (by have := HL.out; have := HPL.out; simp only [List.length_append]; omega)).mono ?_; rintro e w3 ⟨rfl, hw, hf⟩; have HW3 := Aside0.mk hw; have HF3 := Aside0.mk (HFd2.out.trans hf); have HX3 := Aside0.mk (hf.blk HXd2.out (by decide)); clear hw hf)
    clear y20 z20 y21 z21 y22 z22 y23 z23 y24 z24 HXd2 HWd2 HFd2
    go_upto_region 3 with (fail)
    have HXd3 := Aside0.mk (blk_drew HX3.out)
    have HWd3 := Aside0.mk HW3.out.drew
    have HFd3 := Aside0.mk HF3.out.drew
    obtain ⟨y30, y31, y32, y33, y34⟩ := five_cells HX3.out
    obtain ⟨z30, z31, z32, z33, z34⟩ := five_cells HXd3.out
    go_region_with (go_at_call 54; refine (wr_num2_drew W0.heap.size g _ _ gen root _ rfl HWd3.out HI.out.2.2.1 HI.out.2.2.2 (by have := HL.out;  (try simp only [List.length_append]); omega)).mono ?_; rintro e w4 ⟨rfl, hw, hf⟩; have HW4 := Aside0.mk hw; have HF4 := Aside0.mk (HFd3.out.trans hf); have HX4 := Aside0.mk (hf.blk HXd3.out (by decide)); clear hw hf)
    all_goals (
      clear y30 z30 y31 z31 y32 z32 y33 z33 y34 z34 HXd3 HWd3 HFd3
      go_upto_region 4 with (fail)
      have HXd4 := Aside0.mk (blk_drew HX4.out)
      have HWd4 := Aside0.mk HW4.out.drew
      have HFd4 := Aside0.mk HF4.out.drew
      obtain ⟨y40, y41, y42, y43, y44⟩ := five_cells HX4.out
      obtain ⟨z40, z41, z42, z43, z44⟩ := five_cells HXd4.out
      go_region_with (go_at_call 56; refine (wr_text W0.heap.size g _ t _ HWd4.out (by have := HL.out; have := size_encT t; (try simp only [List.length_append]); omega)).mono ?_; rintro e w5 ⟨rfl, hw, hf⟩; have HW5 := Aside0.mk hw; have HF5 := Aside0.mk (HFd4.out.trans hf); have HX5 := Aside0.mk (hf.blk HXd4.out (by decide)); clear hw hf)
      clear y40 z40 y41 z41 y42 z42 y43 z43 y44 z44 HXd4 HWd4 HFd4
      go_wp2
      go_end0
      exact ⟨rfl, by simpa [encCo, List.append_assoc] using HW5.out, HF5.out⟩
    )
  )
theorem sev_cells {w : World} {g t : Nat} {a b c d e f h : Value} (hk : w.heap[g]? = some (.cells #[a, b, c, d, e, f, h] t (0, 0))) :
    w.cell? ⟨g, 0, none⟩ = some a ∧ w.cell? ⟨g, 1, none⟩ = some b ∧ w.cell? ⟨g, 2, none⟩ = some c ∧ w.cell? ⟨g, 3, none⟩ = some d ∧ w.cell? ⟨g, 4, none⟩ = some e ∧ w.cell? ⟨g, 5, none⟩ = some f ∧ w.cell? ⟨g, 6, none⟩ = some h :=
  ⟨(blk_cell hk 0).trans rfl, (blk_cell hk 1).trans rfl, (blk_cell hk 2).trans rfl, (blk_cell hk 3).trans rfl, (blk_cell hk 4).trans rfl, (blk_cell hk 5).trans rfl, (blk_cell hk 6).trans rfl⟩
def sideAt (c : Clash) : Nat → Side
  | 0 => c.f1
  | 1 => c.f2
  | _ => c.f3
def sidesEnc (c : Clash) : Nat → List Int
  | 0 => []
  | k + 1 => sidesEnc c k ++ encSd (sideAt c k)
set_option maxHeartbeats 16000000 in
set_option maxRecDepth 100000 in
theorem wr_clash (B g : Nat) (bs : List Int) (x : Clash) (W : World) (hw : WrAt B g W bs) (hlim : bs.length + (encCl x).length ≤ 1000000000) :
    Calls Try.prog 63 #[.pointer (some ⟨g, 0, none⟩), .agg #[.string x.f0, .bool x.f1.f0, .string x.f1.f1, .bool x.f2.f0, .string x.f2.f1, .bool x.f3.f0, .string x.f3.f1]] W fun e W1 => e = .returned (.tuple #[]) ∧ WrAt B g W1 (bs ++ encCl x) ∧ Fr B [98, 5] W W1 := by
  obtain ⟨f0, ⟨g0, g1⟩, ⟨p0, p1⟩, ⟨q0, q1⟩⟩ := x
  have huX := Try.underlying59
  have huS := Try.underlying57
  have huW := Try.underlying98
  have HL := Aside0.mk (show bs.length + ((encT f0).length + ((encB g0).length + (encT g1).length + ((encB p0).length + (encT p1).length + ((encB q0).length + (encT q1).length)))) ≤ 1000000000 by have h := hlim; simp only [encCl, encSd, List.length_append] at h; omega)
  have HX1 := Aside0.mk (blk_new W (.cells #[.string f0, .bool g0, .string g1, .bool p0, .string p1, .bool q0, .string q1] 59))
  have HW1 := Aside0.mk (hw.below (below_alloc (Below.refl W.heap.size W) (.cells #[.string f0, .bool g0, .string g1, .bool p0, .string p1, .bool q0, .string q1] 59)))
  have HF1 := Aside0.mk ((Fr.refl B [98, 5] W).allocs (.cells #[.string f0, .bool g0, .string g1, .bool p0, .string p1, .bool q0, .string q1] 59))
  have HWL := Aside0.mk hw.lt
  clear hw hlim
  have hi0 := fun w => idx0 g0 p0 q0 g1 p1 q1 w
  have hi1 := fun w => idx1 g0 p0 q0 g1 p1 q1 w
  have hi2 := fun w => idx2 g0 p0 q0 g1 p1 q1 w
  go_enter Try.func63, Try.ntmps63
  go_upto_region 1 with (fail)
  have HBW := Aside0.mk (below_alloc (Below.refl W.heap.size W) (.cells #[.string f0, .bool g0, .string g1, .bool p0, .string p1, .bool q0, .string q1] 59))
  generalize W.alloc (.cells #[.string f0, .bool g0, .string g1, .bool p0, .string p1, .bool q0, .string q1] 59) = w1 at HX1 HW1 HF1 HBW ⊢
  generalize W.heap.size = gx at HX1 ⊢
  have HXd1 := Aside0.mk (blk_drew HX1.out)
  have HWd1 := Aside0.mk HW1.out.drew
  have HFd1 := Aside0.mk HF1.out.drew
  obtain ⟨y10, y11, y12, y13, y14, y15, y16⟩ := sev_cells HX1.out
  obtain ⟨z10, z11, z12, z13, z14, z15, z16⟩ := sev_cells HXd1.out
  go_region_with (go_at_call 56; refine (wr_text B g _ f0 _ HWd1.out (by have := HL.out; have := size_encT f0; (try simp only [List.length_append]); omega)).mono ?_; rintro e w2 ⟨rfl, hw, hf⟩; have HW2 := Aside0.mk hw; have HF2 := Aside0.mk (HFd1.out.trans hf); have HX2 := Aside0.mk (hf.blk HXd1.out (by decide)); clear hw hf)
  clear y10 z10 y11 z11 y12 z12 y13 z13 y14 z14 y15 z15 y16 z16 HXd1 HWd1 HFd1
  go_upto_region 2 with (fail)
  obtain ⟨a0, a1, a2, a3, a4, a5, a6⟩ := sev_cells HX2.out
  go_wp2
  clear a0 a1 a2 a3 a4 a5 a6
  go_loopg [19] 3 (fun kq v19 w' => ∃ k : Nat, v19 = .int .i64 k ∧ Aside0 (k ≤ 3 ∧ kq = 3 - k) ∧ Aside0 (WrAt B g w' (bs ++ encT f0 ++ sidesEnc ⟨f0, ⟨g0, g1⟩, ⟨p0, p1⟩, ⟨q0, q1⟩⟩ k)) ∧ Aside0 (Fr B [98, 5] W w'))
  case atStart => exact ⟨0, rfl, ⟨by omega, by omega⟩, ⟨by have := HW2.out; simpa [sidesEnc] using this⟩, HF2⟩
  case round =>
    obtain ⟨k, rfl, HI3, HWk, HFk⟩ := hrel
    clear HX2 HW2 HF2
    rcases (show k = 0 ∨ k = 1 ∨ k = 2 ∨ k = 3 by have := HI3.out; omega) with rfl | rfl | rfl | rfl
    · skip
      go_upto_region 5 with (fail)
      have HX3 := Aside0.mk (blk_new wr (.cells #[.bool g0, .string g1] 57))
      have HW3 := Aside0.mk (HWk.out.below (below_alloc (Below.refl wr.heap.size wr) (.cells #[.bool g0, .string g1] 57)))
      have HF3 := Aside0.mk (HFk.out.allocs (.cells #[.bool g0, .string g1] 57))
      generalize wr.alloc (.cells #[.bool g0, .string g1] 57) = w3 at HX3 HW3 HF3 ⊢
      generalize wr.heap.size = gy at HX3 ⊢
      have HXd3 := Aside0.mk (blk_drew HX3.out)
      have HWd3 := Aside0.mk HW3.out.drew
      have HFd3 := Aside0.mk HF3.out.drew
      obtain ⟨y30, y31⟩ := pair_cells HX3.out
      obtain ⟨z30, z31⟩ := pair_cells HXd3.out
      go_region_with (go_at_call 55; refine (wr_flag B g _ g0 _ HWd3.out (by have := HL.out;  (simp only [sidesEnc, sideAt, encSd, List.length_append, List.length_nil]); omega)).mono ?_; rintro e w4 ⟨rfl, hw, hf⟩; have HW4 := Aside0.mk hw; have HF4 := Aside0.mk (HFd3.out.trans hf); have HX4 := Aside0.mk (hf.blk HXd3.out (by decide)); clear hw hf)
      clear y30 z30 y31 z31 HXd3 HWd3 HFd3
      go_upto_region 6 with (fail)
      have HXd4 := Aside0.mk (blk_drew HX4.out)
      have HWd4 := Aside0.mk HW4.out.drew
      have HFd4 := Aside0.mk HF4.out.drew
      obtain ⟨y40, y41⟩ := pair_cells HX4.out
      obtain ⟨z40, z41⟩ := pair_cells HXd4.out
      go_region_with (go_at_call 56; refine (wr_text B g _ g1 _ HWd4.out (by have := HL.out; have := size_encT g1; (simp only [sidesEnc, sideAt, encSd, List.length_append, List.length_nil]); omega)).mono ?_; rintro e w5 ⟨rfl, hw, hf⟩; have HW5 := Aside0.mk hw; have HF5 := Aside0.mk (HFd4.out.trans hf); have HX5 := Aside0.mk (hf.blk HXd4.out (by decide)); clear hw hf)
      clear y40 z40 y41 z41 HXd4 HWd4 HFd4
      go_wp2
      go_roundg 2
      case measure => have := HI3.out; omega
      case rel => exact ⟨1, rfl, ⟨by omega, by omega⟩, ⟨by have := HW5.out; simpa [sidesEnc, encSd, sideAt, List.append_assoc] using this⟩, HF5⟩
    · skip
      go_upto_region 5 with (fail)
      have HX3 := Aside0.mk (blk_new wr (.cells #[.bool p0, .string p1] 57))
      have HW3 := Aside0.mk (HWk.out.below (below_alloc (Below.refl wr.heap.size wr) (.cells #[.bool p0, .string p1] 57)))
      have HF3 := Aside0.mk (HFk.out.allocs (.cells #[.bool p0, .string p1] 57))
      generalize wr.alloc (.cells #[.bool p0, .string p1] 57) = w3 at HX3 HW3 HF3 ⊢
      generalize wr.heap.size = gy at HX3 ⊢
      have HXd3 := Aside0.mk (blk_drew HX3.out)
      have HWd3 := Aside0.mk HW3.out.drew
      have HFd3 := Aside0.mk HF3.out.drew
      obtain ⟨y30, y31⟩ := pair_cells HX3.out
      obtain ⟨z30, z31⟩ := pair_cells HXd3.out
      go_region_with (go_at_call 55; refine (wr_flag B g _ p0 _ HWd3.out (by have := HL.out;  (simp only [sidesEnc, sideAt, encSd, List.length_append, List.length_nil]); omega)).mono ?_; rintro e w4 ⟨rfl, hw, hf⟩; have HW4 := Aside0.mk hw; have HF4 := Aside0.mk (HFd3.out.trans hf); have HX4 := Aside0.mk (hf.blk HXd3.out (by decide)); clear hw hf)
      clear y30 z30 y31 z31 HXd3 HWd3 HFd3
      go_upto_region 6 with (fail)
      have HXd4 := Aside0.mk (blk_drew HX4.out)
      have HWd4 := Aside0.mk HW4.out.drew
      have HFd4 := Aside0.mk HF4.out.drew
      obtain ⟨y40, y41⟩ := pair_cells HX4.out
      obtain ⟨z40, z41⟩ := pair_cells HXd4.out
      go_region_with (go_at_call 56; refine (wr_text B g _ p1 _ HWd4.out (by have := HL.out; have := size_encT p1; (simp only [sidesEnc, sideAt, encSd, List.length_append, List.length_nil]); omega)).mono ?_; rintro e w5 ⟨rfl, hw, hf⟩; have HW5 := Aside0.mk hw; have HF5 := Aside0.mk (HFd4.out.trans hf); have HX5 := Aside0.mk (hf.blk HXd4.out (by decide)); clear hw hf)
      clear y40 z40 y41 z41 HXd4 HWd4 HFd4
      go_wp2
      go_roundg 1
      case measure => have := HI3.out; omega
      case rel => exact ⟨2, rfl, ⟨by omega, by omega⟩, ⟨by have := HW5.out; simpa [sidesEnc, encSd, sideAt, List.append_assoc] using this⟩, HF5⟩
    · skip
      go_upto_region 5 with (fail)
      have HX3 := Aside0.mk (blk_new wr (.cells #[.bool q0, .string q1] 57))
      have HW3 := Aside0.mk (HWk.out.below (below_alloc (Below.refl wr.heap.size wr) (.cells #[.bool q0, .string q1] 57)))
      have HF3 := Aside0.mk (HFk.out.allocs (.cells #[.bool q0, .string q1] 57))
      generalize wr.alloc (.cells #[.bool q0, .string q1] 57) = w3 at HX3 HW3 HF3 ⊢
      generalize wr.heap.size = gy at HX3 ⊢
      have HXd3 := Aside0.mk (blk_drew HX3.out)
      have HWd3 := Aside0.mk HW3.out.drew
      have HFd3 := Aside0.mk HF3.out.drew
      obtain ⟨y30, y31⟩ := pair_cells HX3.out
      obtain ⟨z30, z31⟩ := pair_cells HXd3.out
      go_region_with (go_at_call 55; refine (wr_flag B g _ q0 _ HWd3.out (by have := HL.out;  (simp only [sidesEnc, sideAt, encSd, List.length_append, List.length_nil]); omega)).mono ?_; rintro e w4 ⟨rfl, hw, hf⟩; have HW4 := Aside0.mk hw; have HF4 := Aside0.mk (HFd3.out.trans hf); have HX4 := Aside0.mk (hf.blk HXd3.out (by decide)); clear hw hf)
      clear y30 z30 y31 z31 HXd3 HWd3 HFd3
      go_upto_region 6 with (fail)
      have HXd4 := Aside0.mk (blk_drew HX4.out)
      have HWd4 := Aside0.mk HW4.out.drew
      have HFd4 := Aside0.mk HF4.out.drew
      obtain ⟨y40, y41⟩ := pair_cells HX4.out
      obtain ⟨z40, z41⟩ := pair_cells HXd4.out
      go_region_with (go_at_call 56; refine (wr_text B g _ q1 _ HWd4.out (by have := HL.out; have := size_encT q1; (simp only [sidesEnc, sideAt, encSd, List.length_append, List.length_nil]); omega)).mono ?_; rintro e w5 ⟨rfl, hw, hf⟩; have HW5 := Aside0.mk hw; have HF5 := Aside0.mk (HFd4.out.trans hf); have HX5 := Aside0.mk (hf.blk HXd4.out (by decide)); clear hw hf)
      clear y40 z40 y41 z41 HXd4 HWd4 HFd4
      go_wp2
      go_roundg 0
      case measure => have := HI3.out; omega
      case rel => exact ⟨3, rfl, ⟨by omega, by omega⟩, ⟨by have := HW5.out; simpa [sidesEnc, encSd, sideAt, List.append_assoc] using this⟩, HF5⟩
    · go_wp2
      go_end0
      exact ⟨rfl, by have := HWk.out; simpa [encCl, encSd, sidesEnc, sideAt, List.append_assoc] using this, HFk.out⟩
end Go.Proofs.Ytcegkljkmnpkaaa.Sep
