/- Whether commits are alike; small ones; a commit as an argument. Conditions: the bounds of the statements. -/
import Derived.Test.YtaijciijfofbmaaObjOf
import Derived.Test.YtaijciijfofbmaaOpens
import Derived.Test.YtaijciijfofbmaaPDatx3
import Derived.Test.YtaijciijfofbmaaPObjx1
namespace Go.Proofs.Ytaijciijfofbmaa.Sep
set_option linter.unusedSimpArgs false
open Go.RowKit Go.Proofs.Ytaijciijfofbmaa.PCore Go.Proofs.Ytaijciijfofbmaa.Plain Go.Proofs.YtaijciijfofbmaaW.PrintWords Go.Proofs.YtaijciijfofbmaaW.PrintLast Go.Proofs.YtaijciijfofbmaaW.PrintMore
open Go.Proofs.Ytaijciijfofbmaa.PDat (apographref01_SameNumbers.f apographref01_SameNumbers.l0 apographref14_SameCommit.f apographref14_SameCommit.calls apographlaw14_Light.f apographlaw14_Light.calls)
open Go.Proofs.Ytaijciijfofbmaa.PObj (slices_Equal_uint64_uint64.f slices_Equal_uint64_uint64.l0 object_Same.f object_Same.calls)
theorem nums_loop (g : Nat → List Int → List Int → Int → Int → Option Bool)
    (hg : ∀ k a b n i, g (k + 1) a b n i = if i < n then (if 0 ≤ i then (if i < (a.length : Int) then (if i < (b.length : Int) then (if (rd a i) = (rd b i) then (g k a b n (wrap64 (i + 1))) else (some false)) else (none)) else (none)) else (none)) else (some true)) :
    ∀ (d : Nat) (a b : List Int) (i : Nat), a.length = b.length → i + d = a.length → a.length ≤ 140737488355328 → Ev (fun k => g k a b a.length i) (decide (a.drop i = b.drop i)) := by
  intro d
  induction d with
  | zero =>
    intro a b i hab hi hn
    rw [List.drop_eq_nil_of_le (by omega), List.drop_eq_nil_of_le (by omega)]
    refine Ev.step (f := fun _ => some true) (fun k => ?_) (Ev.now _)
    rw [hg, if_neg (by omega)]
  | succ d ih =>
    intro a b i hab hi hn
    have ew : wrap64 ((i : Int) + 1) = ((i + 1 : Nat) : Int) := by unfold wrap64; omega
    have ea := drop_rd a i (by omega)
    have eb := drop_rd b i (by omega)
    by_cases c : rd a i = rd b i
    · refine Ev.step (f := fun k => g k a b a.length ((i + 1 : Nat) : Int)) (fun k => ?_) ?_
      · rw [hg, ew, if_pos (by omega), if_pos (by omega), if_pos (by omega), if_pos (by omega), if_pos c]
      · have e : decide (a.drop i = b.drop i) = decide (a.drop (i + 1) = b.drop (i + 1)) := by
          rw [decide_eq_decide, ea, eb, List.cons.injEq]
          exact ⟨fun h => h.2, fun h => ⟨c, h⟩⟩
        rw [e]
        exact ih a b (i + 1) hab (by omega) hn
    · refine Ev.step (f := fun _ => some false) (fun k => ?_) ?_
      · rw [hg, if_pos (by omega), if_pos (by omega), if_pos (by omega), if_pos (by omega), if_neg c]
      · have e : decide (a.drop i = b.drop i) = false := by
          rw [decide_eq_false_iff_not, ea, eb, List.cons.injEq]
          exact fun h => c h.1
        rw [e]
        exact Ev.now _
theorem sameN_form (a b : List Int) (hn : a.length ≤ 140737488355328) : Ev (fun k => apographref01_SameNumbers.f k a b) (decide (a = b)) := by
  by_cases hab : a.length = b.length
  · refine Ev.congr (fun k => ?_) (nums_loop apographref01_SameNumbers.l0 (fun k a b n i => rfl) a.length a b 0 hab (by omega) hn)
    simp only [apographref01_SameNumbers.f]
    rw [if_pos (by omega)]
    rfl
  · have e : decide (a = b) = false := decide_eq_false (fun h => hab (by rw [h]))
    rw [e]
    refine Ev.congr (fun k => ?_) (Ev.now false)
    simp only [apographref01_SameNumbers.f]
    rw [if_neg (by omega)]
theorem equal_form (a b : List Int) (hn : a.length ≤ 140737488355328) : Ev (fun k => slices_Equal_uint64_uint64.f k a b) (decide (a = b)) := by
  by_cases hab : a.length = b.length
  · refine Ev.congr (fun k => ?_) (nums_loop slices_Equal_uint64_uint64.l0 (fun k a b n i => rfl) a.length a b 0 hab (by omega) hn)
    simp only [slices_Equal_uint64_uint64.f]
    rw [if_pos (by omega)]
    rfl
  · have e : decide (a = b) = false := decide_eq_false (fun h => hab (by rw [h]))
    rw [e]
    refine Ev.congr (fun k => ?_) (Ev.now false)
    simp only [slices_Equal_uint64_uint64.f]
    rw [if_neg (by omega)]
theorem text_one {s t : ByteArray} : s.toList = t.toList ↔ s = t := ⟨fun h => by
  rw [ByteArray.toList_eq, ByteArray.toList_eq] at h
  obtain ⟨⟨x⟩⟩ := s
  obtain ⟨⟨y⟩⟩ := t
  simp only at h
  rw [h], fun h => by rw [h]⟩
/-- Whether commits are alike. -/
def sameB (c d : Com) : Bool := decide (c.id = d.id) && (decide (c.ps = d.ps) && (decide (c.gen = d.gen) && (decide (c.root = d.root) && (c.text.toList == d.text.toList))))
theorem sameB_iff (c d : Com) : sameB c d = true ↔ c = d := by
  obtain ⟨a, b, g, r, t⟩ := c
  obtain ⟨a', b', g', r', t'⟩ := d
  simp only [sameB, Bool.and_eq_true, decide_eq_true_eq, beq_iff_eq, text_one, Com.mk.injEq]
theorem sameB_self (c : Com) : sameB c c = true := (sameB_iff c c).2 rfl
theorem same_bind (g : Nat → List Int → List Int → Option Bool) (c d : Com) (h : Ev (fun k => g k c.ps d.ps) (decide (c.ps = d.ps))) :
    Ev (fun k => if c.id = d.id then ((g k c.ps d.ps).bind fun t => (if t = true then (if c.gen = d.gen then (if c.root = d.root then (some (c.text.toList == d.text.toList)) else (some false)) else (some false)) else (some false))) else (some false)) (sameB c d) := by
  by_cases h1 : c.id = d.id
  · refine Ev.congr (fun k => if_pos h1) ?_
    refine Ev.bind h ?_
    refine Ev.congr (f := fun _ => some (sameB c d)) (fun k => ?_) (Ev.now _)
    by_cases h2 : c.ps = d.ps
    · rw [if_pos (decide_eq_true h2)]
      by_cases h3 : c.gen = d.gen
      · rw [if_pos h3]
        by_cases h4 : c.root = d.root
        · rw [if_pos h4]
          simp [sameB, h1, h2, h3, h4]
        · rw [if_neg h4]
          simp [sameB, h4]
      · rw [if_neg h3]
        simp [sameB, h3]
    · rw [if_neg (by simp [h2])]
      simp [sameB, h2]
  · refine Ev.congr (f := fun _ => some (sameB c d)) (fun k => ?_) (Ev.now _)
    rw [if_neg h1]
    simp [sameB, h1]
theorem same_calls (A : Option Addr) (n : Nat) (c : Com) (A' : Option Addr) (n' : Nat) (d : Com) (w : World) (h1 : Kd.C (Kd.int .u64) w A c.ps.length c.ps) (h2 : c.ps.length ≤ n) (h3 : Kd.C (Kd.int .u64) w A' d.ps.length d.ps) (h4 : d.ps.length ≤ n') (hl : c.ps.length ≤ 140737488355328) :
    Calls Try.prog 15 #[.agg #[.int .u64 c.id, .slice A c.ps.length n, .int .u64 c.gen, .int .u64 c.root, .string c.text], .agg #[.int .u64 d.id, .slice A' d.ps.length n', .int .u64 d.gen, .int .u64 d.root, .string d.text]] w fun e w' => e = .returned (.bool (sameB c d)) ∧ Below w.heap.size w w' := by
  obtain ⟨k, h⟩ := Ev.rounds (same_bind slices_Equal_uint64_uint64.f c d (equal_form c.ps d.ps hl))
  exact object_Same.calls k _ A n c.ps _ _ _ _ A' n' d.ps _ _ _ _ w h1 h2 h3 h4 h
theorem sameC_calls (A : Option Addr) (n : Nat) (c : Com) (A' : Option Addr) (n' : Nat) (d : Com) (w : World) (h1 : Kd.C (Kd.int .u64) w A c.ps.length c.ps) (h2 : c.ps.length ≤ n) (h3 : Kd.C (Kd.int .u64) w A' d.ps.length d.ps) (h4 : d.ps.length ≤ n') (hl : c.ps.length ≤ 140737488355328) :
    Calls Try.prog 10 #[.agg #[.int .u64 c.id, .slice A c.ps.length n, .int .u64 c.gen, .int .u64 c.root, .string c.text], .agg #[.int .u64 d.id, .slice A' d.ps.length n', .int .u64 d.gen, .int .u64 d.root, .string d.text]] w fun e w' => e = .returned (.bool (sameB c d)) ∧ Below w.heap.size w w' := by
  obtain ⟨k, h⟩ := Ev.rounds (same_bind apographref01_SameNumbers.f c d (sameN_form c.ps d.ps hl))
  exact apographref14_SameCommit.calls k _ A n c.ps _ _ _ _ A' n' d.ps _ _ _ _ w h1 h2 h3 h4 h
/-- Whether a commit is small. -/
def lightB (c : Com) : Bool := decide (c.ps.length ≤ 5) && decide (c.text.size ≤ 100)
theorem light_calls (A : Option Addr) (n : Nat) (c : Com) (w : World) (h1 : Kd.C (Kd.int .u64) w A c.ps.length c.ps) (h2 : c.ps.length ≤ n) :
    Calls Try.prog 7 #[.agg #[.int .u64 c.id, .slice A c.ps.length n, .int .u64 c.gen, .int .u64 c.root, .string c.text]] w fun e w' => e = .returned (.bool (lightB c)) ∧ Below w.heap.size w w' := by
  refine apographlaw14_Light.calls _ A n c.ps _ _ _ _ w h1 h2 ?_
  unfold apographlaw14_Light.f lightB
  by_cases h : c.ps.length ≤ 5
  · rw [if_pos (by omega)]
    simp only [h, decide_true, Bool.true_and]
    congr 2
    exact propext ⟨fun h => by omega, fun h => by omega⟩
  · rw [if_neg (by omega)]
    simp [h]
/-- A commit's cells. -/
def kC : Kd Com := Kd.iso (Kd.pair (Kd.int .u64) (Kd.pair (Kd.slice 22 (Kd.int .u64)) (Kd.pair (Kd.int .u64) (Kd.pair (Kd.int .u64) Kd.string)))) (fun x : Com => (x.id, x.ps, x.gen, x.root, x.text))
theorem kC_open {w : World} {x : Com} {cs : List Value} (h : kC.K w x cs) : ∃ A n, cs = [.int .u64 x.id, .slice A x.ps.length n, .int .u64 x.gen, .int .u64 x.root, .string x.text] ∧ x.ps.length ≤ n ∧ Kd.C (Kd.int .u64) w A x.ps.length x.ps := by
  obtain ⟨_, _, rfl, rfl, ⟨_, _, rfl, ⟨A, n, rfl, hn, hC⟩, ⟨_, _, rfl, rfl, ⟨_, _, rfl, rfl, rfl⟩⟩⟩⟩ := h
  exact ⟨A, n, rfl, hn, hC⟩
/-- What holds of a commit. -/
def okC (x : Com) : Prop := (Lit.int .u64 x.id).wf = true ∧ (x.ps.length ≤ maxLen ∧ ∀ p ∈ x.ps, (Lit.int .u64 p).wf = true) ∧ (Lit.int .u64 x.gen).wf = true ∧ (Lit.int .u64 x.root).wf = true ∧ x.text.size ≤ maxLen
theorem openC {H : Type} {enc : TypeId × Value → H} {W : World} {base : Nat} {spare : Nat → Bool} {held : Bool} : Opens enc Try.prog W base spare held 25 kC okC :=
  ⟨by kernel_rfl, fun fuel cs x h => by
    obtain ⟨xs, n, -, -, hl, hx, hf⟩ := DataW.trod_struct Try.underlying25 h
    have hxs : xs.length = 5 := hx
    have hlen : cs.length = kC.sz := hl.trans (by kernel_rfl)
    obtain ⟨v0, K0, o0⟩ := field_at (o := 0) (d := Kd.int .u64) (Opens.int (by kernel_rfl) Try.underlying22) (i := 0) (by omega) (hf 0 _ rfl)
    obtain ⟨v1, K1, o1⟩ := field_at (o := 1) (d := Kd.slice 22 (Kd.int .u64)) (Opens.slice (by kernel_rfl) Try.underlying23 (Opens.int (by kernel_rfl) Try.underlying22)) (i := 1) (by omega) (hf 1 _ rfl)
    obtain ⟨v2, K2, o2⟩ := field_at (o := 2) (d := Kd.int .u64) (Opens.int (by kernel_rfl) Try.underlying22) (i := 2) (by omega) (hf 2 _ rfl)
    obtain ⟨v3, K3, o3⟩ := field_at (o := 3) (d := Kd.int .u64) (Opens.int (by kernel_rfl) Try.underlying22) (i := 3) (by omega) (hf 3 _ rfl)
    obtain ⟨v4, K4, o4⟩ := field_at (o := 4) (d := Kd.string) (Opens.string (by kernel_rfl) Try.underlying9) (i := 4) (by omega) (hf 4 _ rfl)
    exact ⟨⟨v0, v1, v2, v3, v4⟩, (pair_at (o := 0) K0 (pair_at (o := 1) K1 (pair_at (o := 2) K2 (pair_at (o := 3) K3 (last_at (o := 4) K4 hlen))))), o0, o1, o2, o3, o4⟩⟩
theorem of_wf_u8 {n : Int} (h : (Lit.int .u8 n).wf = true) : 0 ≤ n ∧ n < 256 := by
  simp [Lit.wf, IntKind.min, IntKind.max, IntKind.signed, IntKind.bits] at h
  omega
theorem of_wf_u64 {n : Int} (h : (Lit.int .u64 n).wf = true) : 0 ≤ n ∧ n < 18446744073709551616 := by
  simp [Lit.wf, IntKind.min, IntKind.max, IntKind.signed, IntKind.bits] at h
  omega
theorem okC_in {x : Com} (h : okC x) : x.In := ⟨of_wf_u64 h.1, fun p hp => of_wf_u64 (h.2.1.2 p hp), of_wf_u64 h.2.2.1, of_wf_u64 h.2.2.2.1⟩
/-- What Put tells. -/
def Com.put (c : Com) : List Int := if c.err = 0 then c.enc else []
theorem putB (A : Option Addr) (n : Nat) (c : Com) (W : World) (hC : Kd.C (Kd.int .u64) W A c.ps.length c.ps) (hc : c.ps.length ≤ n) (hn : c.ps.length ≤ maxLen) (hI : c.In) :
    Calls Try.prog 8 #[.agg #[.int .u64 c.id, .slice A c.ps.length n, .int .u64 c.gen, .int .u64 c.root, .string c.text]] W fun e W1 => ∃ B m, e = .returned (.tuple #[.slice B c.put.length m, .int .i64 c.err]) ∧ c.put.length ≤ m ∧ Kd.C (Kd.int .u8) W1 B c.put.length c.put ∧ Below W.heap.size W W1 :=
  (put_calls A n c.id c.ps c.gen c.root c.text W hC hc hn hI).mono fun e W1 ⟨v, he, hR, hb⟩ => by
    obtain ⟨B, m, hv, hm, hC1⟩ := Kd.R_reads hR
    subst hv
    exact ⟨B, m, he, hm, hC1, hb⟩
theorem rightB (A : Option Addr) (n : Nat) (c : Com) (W : World) (hC : Kd.C (Kd.int .u64) W A c.ps.length c.ps) (hn : c.ps.length ≤ maxLen) (hI : c.In) :
    Calls Try.prog 9 #[.agg #[.int .u64 c.id, .slice A c.ps.length n, .int .u64 c.gen, .int .u64 c.root, .string c.text]] W fun e W1 => e = .returned (.int .i64 c.err) ∧ Below W.heap.size W W1 :=
  right_calls A n c.id c.ps c.gen c.root c.text W hC hn hI
theorem put_in {c : Com} (hI : c.In) : ∀ x ∈ c.put, 0 ≤ x ∧ x < 256 := by
  intro x hx
  unfold Com.put at hx
  split at hx
  · simp only [Com.enc, encC, List.mem_append] at hx
    rcases hx with ((((hx | hx) | hx) | hx) | hx) | hx
    · exact enc_in hI.1.1 x hx
    · exact enc_in (by omega) x hx
    · exact encs_bytes _ hI.2.1 x hx
    · exact enc_in hI.2.2.1.1 x hx
    · exact enc_in hI.2.2.2.1 x hx
    · exact encT_in _ x hx
  · simp at hx
theorem put_len {c : Com} (hI : c.In) : c.put.length ≤ 200 := by
  unfold Com.put
  split
  · rename_i h
    have := encC_len (root := c.root) hI (comE_zero h).2.2.1 (comE_zero h).2.2.2
    simp only [Com.enc, encC, List.length_append]
    omega
  · simp
set_option maxHeartbeats 2000000 in
set_option maxRecDepth 100000 in
theorem awake14_calls (W : World) : Calls Try.prog 6 #[] W fun e W1 => e = .returned (.bool true) ∧ Below W.heap.size W W1 := by
  have H0 := Aside0.mk (putB none 0 zeroC W (nil_C W) (Nat.le_refl _) (by decide) zeroC_in)
  have hz : zeroC.err = 120 := by rfl
  rw [hz] at H0
  have hI1 : (Com.mk 1 [] 1 0 ⟨#[97]⟩).In := ⟨⟨by decide, by decide⟩, fun p hp => by simp at hp, ⟨by decide, by decide⟩, ⟨by decide, by decide⟩⟩
  have H1 := Aside0.mk (fun w => putB none 0 (Com.mk 1 [] 1 0 ⟨#[97]⟩) w (nil_C w) (Nat.le_refl _) (by decide) hI1)
  have he : (Com.mk 1 [] 1 0 ⟨#[97]⟩).err = 0 := by decide
  have hp : (Com.mk 1 [] 1 0 ⟨#[97]⟩).put.length = 6 := by
    unfold Com.put
    rw [if_pos he]
    have e1 : Plain.enc 1 = [1] := enc_lt (by decide)
    have e0 : Plain.enc 0 = [0] := enc_lt (by decide)
    have eb : bytesOf (⟨#[97]⟩ : ByteArray) = [97] := by decide
    have es : (((⟨#[97]⟩ : ByteArray).size : Nat) : Int) = 1 := by decide
    simp [Com.enc, encC, encT, Plain.encs, e1, e0, eb, es]
  rw [he, hp] at H1
  go_enter Try.func6, Try.ntmps6
  go_wp2_with (go_at_call 8; first | (have hq := HB2.out; clear hq; refine (H1.out _).mono ?_; rintro e w2 ⟨B', m', rfl, _, _, hb⟩; have HB3 := Aside0.mk (below_step HB2.out hb); clear hb) | (refine H0.out.mono ?_; rintro e w1 ⟨B, m, rfl, _, _, hb⟩; have HB2 := Aside0.mk hb; clear hb))
  go_ret
  exact ⟨rfl, HB3.out⟩
end Go.Proofs.Ytaijciijfofbmaa.Sep
