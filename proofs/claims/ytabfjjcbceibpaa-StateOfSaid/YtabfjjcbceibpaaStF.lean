/- What Put and Of tell of each other: plain. Conditions: the bounds of the statements. · An argument that is a state. Conditions: none. · The state that there is at first: the walk of state.New. Conditions: none. · That the layer is awake: the walk of law17's awake. Conditions: none. · A state is the same as itself: the printed forms. Printed by gen16.py. Conditions: the bounds of the statements. · Bytes that are a state are its bytes: plain. Printed by gen16.py. Conditions: the bounds of the statements. · The walk of the law StateOf. Printed by gen16.py. Conditions: the bounds of the statement. -/
import Derived.Test.YtabfjjcbceibpaaStC
import Derived.Test.YtabfjjcbceibpaaOpenS
import Derived.Test.YtabfjjcbceibpaaStD
import Derived.Test.YtabfjjcbceibpaaStB
import Derived.Test.YtabfjjcbceibpaaStH
namespace Go.Proofs.Ytabfjjcbceibpaa.Sep
set_option linter.unusedSimpArgs false
set_option linter.unusedVariables false
open Go.RowKit Go.Proofs.Ytabfjjcbceibpaa.PCore Go.Proofs.Ytabfjjcbceibpaa.Plain Go.Proofs.YtabfjjcbceibpaaW.PrintWords Go.Proofs.YtabfjjcbceibpaaW.PrintLast Go.Proofs.YtabfjjcbceibpaaW.PrintMore
open Go.Proofs.Ytabfjjcbceibpaa.PDat (S46 k46 S48 k48)
theorem rdR_enc (x : Ref) (h : x.f0.size ≤ 20) (hi : U64 x.f2) (r : List Int) : rdR (encR x ++ r, false) = (x, (r, false)) := by
  unfold rdR encR
  rw [List.append_assoc, List.append_assoc, rdText_enc _ (by omega) (by omega)]
  simp only
  rw [rdFlag_enc]
  simp only
  rw [rdNum_enc _ hi.1 hi.2 (by have := hi.2; show x.f2 ≤ 18446744073709551615; omega)]
theorem rdM_enc (x : Made) (h : U64 x.f0 ∧ U64 x.f1) (r : List Int) : rdM (encM x ++ r, false) = (x, (r, false)) := by
  unfold rdM encM
  rw [List.append_assoc, rdNum_enc _ h.1.1 h.1.2 (by have := h.1.2; show x.f0 ≤ 18446744073709551615; omega)]
  simp only
  rw [rdNum_enc _ h.2.1 h.2.2 (by have := h.2.2; show x.f1 ≤ 18446744073709551615; omega)]
theorem putSE_zero {s : St} (h : putSE s = 0) : stateE s = 0 ∧ putE s.cls = 0 := by
  unfold putSE at h
  split at h
  · rename_i h1
    split at h
    · rename_i h2; exact ⟨h1, h2⟩
    · cases h
  · cases h
theorem bytes_of_put (l : List Clash) (hin : ∀ x ∈ putL l, 0 ≤ x ∧ x < 256) : bytesOf (strOfNums (putL l)) = putL l := bytes_str _ hin
theorem rdSt_enc {s : St} (h : stateE s = 0) (hI : InS s) : rdSt (encSt s) = (⟨s.head, s.work, s.next, s.pend, s.refs, s.made, []⟩, strOfNums (putL s.cls), ([], false)) := by
  obtain ⟨q1, q2, q3, q4, _⟩ := right_facts h
  have e : encSt s = encT s.head ++ (enc s.work ++ (enc s.next ++ (enc s.pend ++ (enc (s.refs.length : Int) ++ (encRs s.refs ++ (enc (s.made.length : Int) ++ (encMs s.made ++ (encT (strOfNums (putL s.cls)) ++ [])))))))) := by
    unfold encSt
    simp [Plain.encs, List.append_assoc]
  have m1 := many_enc rdR encR (enc (s.made.length : Int) ++ (encMs s.made ++ (encT (strOfNums (putL s.cls)) ++ []))) s.refs (fun x hx r => rdR_enc x (q3 x hx) (hI.r x hx) r)
  have m2 := many_enc rdM encM (encT (strOfNums (putL s.cls)) ++ []) s.made (fun x hx r => rdM_enc x (hI.m x hx) r)
  have hz : (strOfNums (putL s.cls)).size ≤ 800000 := by rw [str_size]; exact putL_len
  have c1 : rdText 20 (encSt s, false) = (s.head, (enc s.work ++ (enc s.next ++ (enc s.pend ++ (enc (s.refs.length : Int) ++ (encRs s.refs ++ (enc (s.made.length : Int) ++ (encMs s.made ++ (encT (strOfNums (putL s.cls)) ++ []))))))), false)) := by
    rw [e]
    exact rdText_enc _ (by omega) (by omega)
  have u : ∀ {x : Int}, U64 x → x ≤ M64 := fun {x} hx => by have := hx.2; show x ≤ 18446744073709551615; omega
  have c2 := fun r => rdNum_enc (most := M64) r hI.w.1 hI.w.2 (u hI.w)
  have c3 := fun r => rdNum_enc (most := M64) r hI.n.1 hI.n.2 (u hI.n)
  have c4 := fun r => rdNum_enc (most := M64) r hI.p.1 hI.p.2 (u hI.p)
  have c5 := fun r => rdNum_enc (most := 40) (n := (s.refs.length : Int)) r (by omega) (by omega) (by omega)
  have c6 := fun r => rdNum_enc (most := 200) (n := (s.made.length : Int)) r (by omega) (by omega) (by omega)
  have c7 := rdText_enc (most := 1048576) (s := strOfNums (putL s.cls)) [] (by omega) (by omega)
  unfold rdSt
  simp only [c1, c2, c3, c4, c5, Int.toNat_natCast]
  unfold encRs
  simp only [m1, c6, Int.toNat_natCast]
  unfold encMs
  simp only [m2, c7]
theorem ofS_enc {s : St} (h : putSE s = 0) (hI : InS s) : ofS (putSL s) = (s, 0) := by
  obtain ⟨h1, h2⟩ := putSE_zero h
  have e : putSL s = encSt s := by unfold putSL; rw [if_pos h]
  rw [e]
  unfold ofS
  rw [rdSt_enc h1 hI]
  simp only
  rw [bytes_of_put s.cls (putL_in s.cls), ofK_put h2]
  simp only
  rw [if_pos (by refine ⟨?_, ?_, h1⟩ <;> first | rfl | trivial)]
  rfl
theorem flat_in {α : Type} (f : α → List Int) (l : List α) (h : ∀ x ∈ l, ∀ y ∈ f x, 0 ≤ y ∧ y < 256) : ∀ y ∈ (l.map f).flatten, 0 ≤ y ∧ y < 256 := by
  intro y hy
  simp only [List.mem_flatten, List.mem_map] at hy
  obtain ⟨_, ⟨e, he, rfl⟩, hy⟩ := hy
  exact h e he y hy
theorem encSt_in {s : St} (hI : InS s) : ∀ x ∈ encSt s, 0 ≤ x ∧ x < 256 := by
  intro x hx
  unfold encSt at hx
  simp only [List.mem_append] at hx
  rcases hx with ((((hx | hx) | hx) | hx) | hx) | hx
  · exact encT_in _ x hx
  · refine flat_in enc [s.work, s.next, s.pend, (s.refs.length : Int)] (fun n hn y hy => ?_) x hx
    refine enc_in ?_ y hy
    simp only [List.mem_cons, List.not_mem_nil, or_false] at hn
    rcases hn with rfl | rfl | rfl | rfl
    · exact hI.w.1
    · exact hI.n.1
    · exact hI.p.1
    · omega
  · refine flat_in encR s.refs (fun r hr y hy => ?_) x hx
    simp only [encR, List.mem_append] at hy
    rcases hy with (hy | hy) | hy
    · exact encT_in _ y hy
    · exact encB_in _ y hy
    · exact enc_in (hI.r r hr).1 y hy
  · exact enc_in (by omega) x hx
  · refine flat_in encM s.made (fun r hr y hy => ?_) x hx
    simp only [encM, List.mem_append] at hy
    rcases hy with hy | hy
    · exact enc_in (hI.m r hr).1.1 y hy
    · exact enc_in (hI.m r hr).2.1 y hy
  · exact encT_in _ x hx
theorem encSt_len {s : St} (h : stateE s = 0) (hI : InS s) : (encSt s).length ≤ 900000 := by
  obtain ⟨q1, q2, q3, q4, _⟩ := right_facts h
  have h1 := encT_len s.head (by omega)
  have h2 := encs_le [s.work, s.next, s.pend, (s.refs.length : Int)] (fun x hx => by
    simp only [List.mem_cons, List.not_mem_nil, or_false] at hx
    rcases hx with rfl | rfl | rfl | rfl
    · exact hI.w
    · exact hI.n
    · exact hI.p
    · exact ⟨by omega, by omega⟩)
  have h3 := encRs_len (l := s.refs) (fun r hr => ⟨q3 r hr, hI.r r hr⟩)
  have h4 := encMs_len (l := s.made) hI.m
  have h5 := enc_len_u64 (n := (s.made.length : Int)) (by omega) (by omega)
  have h6 := putL_len (l := s.cls)
  have h7 : (strOfNums (putL s.cls)).size ≤ 800000 := by rw [str_size]; exact h6
  have h8 := encT_len (strOfNums (putL s.cls)) (by omega)
  unfold encSt
  simp only [List.length_append]
  simp only [List.length_cons, List.length_nil] at h2
  omega
theorem putSL_fine {s : St} (hI : InS s) : Fine (putSL s, false) := by
  unfold putSL
  split
  · rename_i h
    exact ⟨encSt_in hI, by have := encSt_len (putSE_zero h).1 hI; show (encSt s).length ≤ 1000000; omega, fun h => by cases h⟩
  · exact ⟨fun x hx => by simp at hx, by simp, fun h => by cases h⟩
theorem putSE_two (s : St) : putSE s = 0 ∨ putSE s = 150 := by
  unfold putSE
  split
  · split
    · exact .inl rfl
    · exact .inr rfl
  · exact .inr rfl
end Go.Proofs.Ytabfjjcbceibpaa.Sep
namespace Go.Proofs.Ytabfjjcbceibpaa.Sep
set_option linter.unusedSimpArgs false
set_option linter.unusedVariables false
open Go.ChangeShapes Go.WideShapes Go.ChangeAt
open Go.RowKit Go.Proofs.Ytabfjjcbceibpaa.PCore Go.Proofs.Ytabfjjcbceibpaa.Plain Go.Proofs.YtabfjjcbceibpaaW.PrintWords Go.Proofs.YtabfjjcbceibpaaW.PrintLast Go.Proofs.YtabfjjcbceibpaaW.PrintMore
open Go.Proofs.Ytabfjjcbceibpaa.PDat (S46 k46 S48 k48 S74 k74)
def kSt : Kd St := Kd.iso (Kd.pair Kd.string (Kd.pair (Kd.int .u64) (Kd.pair (Kd.int .u64) (Kd.pair (Kd.int .u64) (Kd.pair (Kd.slice 46 k46) (Kd.pair (Kd.slice 48 k48) (Kd.slice 74 k74))))))) (fun x : St => (x.head, x.work, x.next, x.pend, x.refs, x.made, x.cls))
/-- What holds of a state that came in. -/
def okSt (x : St) : Prop := x.head.size ≤ maxLen ∧ (Lit.int .u64 x.work).wf = true ∧ (Lit.int .u64 x.next).wf = true ∧ (Lit.int .u64 x.pend).wf = true ∧ (x.refs.length ≤ maxLen ∧ ∀ y ∈ x.refs, ok46 y) ∧ (x.made.length ≤ maxLen ∧ ∀ y ∈ x.made, ok48 y) ∧ (x.cls.length ≤ maxLen ∧ ∀ y ∈ x.cls, ok74 y)
theorem openSt {H : Type} {enc : TypeId × Value → H} {W : World} {base : Nat} {spare : Nat → Bool} {held : Bool} : Opens enc Try.prog W base spare held 29 kSt okSt :=
  ⟨by kernel_rfl, fun fuel cs x h => by
    obtain ⟨xs, n, -, -, hl, hx, hf⟩ := DataW.trod_struct Try.underlying29 h
    have hxs : xs.length = 7 := hx
    have hlen : cs.length = kSt.sz := hl.trans (by kernel_rfl)
    obtain ⟨v0, K0, o0⟩ := field_at (o := 0) (d := Kd.string) (Opens.string (by kernel_rfl) Try.underlying9) (i := 0) (by omega) (hf 0 _ rfl)
    obtain ⟨v1, K1, o1⟩ := field_at (o := 1) (d := Kd.int .u64) (Opens.int (by kernel_rfl) Try.underlying24) (i := 1) (by omega) (hf 1 _ rfl)
    obtain ⟨v2, K2, o2⟩ := field_at (o := 2) (d := Kd.int .u64) (Opens.int (by kernel_rfl) Try.underlying24) (i := 2) (by omega) (hf 2 _ rfl)
    obtain ⟨v3, K3, o3⟩ := field_at (o := 3) (d := Kd.int .u64) (Opens.int (by kernel_rfl) Try.underlying24) (i := 3) (by omega) (hf 3 _ rfl)
    obtain ⟨v4, K4, o4⟩ := field_at (o := 4) (d := Kd.slice 46 k46) (Opens.slice (by kernel_rfl) Try.underlying25 open46) (i := 4) (by omega) (hf 4 _ rfl)
    obtain ⟨v5, K5, o5⟩ := field_at (o := 5) (d := Kd.slice 48 k48) (Opens.slice (by kernel_rfl) Try.underlying26 open48) (i := 5) (by omega) (hf 5 _ rfl)
    obtain ⟨v6, K6, o6⟩ := field_at (o := 6) (d := Kd.slice 74 k74) (Opens.slice (by kernel_rfl) Try.underlying27 open74) (i := 6) (by omega) (hf 6 _ rfl)
    exact ⟨⟨v0, v1, v2, v3, v4, v5, v6⟩, (pair_at (o := 0) K0 (pair_at (o := 1) K1 (pair_at (o := 2) K2 (pair_at (o := 3) K3 (pair_at (o := 4) K4 (pair_at (o := 5) K5 (last_at (o := 6) K6 hlen))))))), o0, o1, o2, o3, o4, o5, o6⟩⟩
theorem kSt_open {W : World} {x : St} {cs : List Value} (h : kSt.K W x cs) : ∃ A n B m C o, cs = [.string x.head, .int .u64 x.work, .int .u64 x.next, .int .u64 x.pend, .slice A x.refs.length n, .slice B x.made.length m, .slice C x.cls.length o] ∧ StC W x A n B m C o := by
  obtain ⟨c0, d0, rfl, h0, c1, d1, rfl, h1, c2, d2, rfl, h2, c3, d3, rfl, h3, c4, d4, rfl, ⟨A, n, h4, hn, hA⟩, c5, d5, rfl, ⟨B, m, h5, hm, hB⟩, ⟨C, o, h6, ho, hC⟩⟩ := h
  simp only at h4 h5 h6 hn hm ho hA hB hC
  have e0 : c0 = [.string x.head] := h0
  have e1 : c1 = [.int .u64 x.work] := h1
  have e2 : c2 = [.int .u64 x.next] := h2
  have e3 : c3 = [.int .u64 x.pend] := h3
  subst e0 e1 e2 e3 h4 h5 h6
  exact ⟨A, n, B, m, C, o, rfl, hA, hn, hB, hm, hC, ho⟩
theorem okSt_in {x : St} (h : okSt x) : InS x :=
  ⟨Plain.u64_of h.2.1, Plain.u64_of h.2.2.1, Plain.u64_of h.2.2.2.1, fun r hr => Plain.u64_of (h.2.2.2.2.1.2 r hr).2.2, fun m hm => ⟨Plain.u64_of (h.2.2.2.2.2.1.2 m hm).1, Plain.u64_of (h.2.2.2.2.2.1.2 m hm).2⟩⟩
end Go.Proofs.Ytabfjjcbceibpaa.Sep
namespace Go.Proofs.Ytabfjjcbceibpaa.Sep
set_option linter.unusedSimpArgs false
set_option linter.unusedVariables false
open Go.RowKit Go.Proofs.Ytabfjjcbceibpaa.PCore Go.Proofs.Ytabfjjcbceibpaa.Plain Go.Proofs.YtabfjjcbceibpaaW.PrintWords Go.Proofs.YtabfjjcbceibpaaW.PrintLast Go.Proofs.YtabfjjcbceibpaaW.PrintMore
open Go.Proofs.Ytabfjjcbceibpaa.PDat (S46 k46 k46_mk S48 k48)
abbrev mainT : ByteArray := ⟨#[109, 97, 105, 110]⟩
def newS : St := ⟨mainT, 0, 1, 0, [⟨mainT, false, 0⟩], [], []⟩
theorem refC_one {W : World} {g t : Nat} (x : Ref) (hk : W.heap[g]? = some (.cells #[.string x.f0, .bool x.f1, .int .u64 x.f2] t (0, 0))) : Kd.C k46 W (some ⟨g, 0, none⟩) 1 [x] := by
  obtain ⟨h0, h1, h2⟩ := tri_cells hk
  refine ⟨rfl, by decide, fun _ => ⟨⟨g, 0, none⟩, rfl, fun j p hj => ?_⟩⟩
  cases j with
  | succ j => simp at hj
  | zero =>
    have hp : x = p := by simpa using hj
    subst hp
    refine ⟨[.string x.f0, .bool x.f1, .int .u64 x.f2], by first | exact k46_mk _ _ | rfl, by first | rfl | exact k46_mk _ _, fun i u hu => ?_⟩
    match i, hu with
    | 0, hu => simp at hu; subst hu; simpa [Addr.add] using h0
    | 1, hu => simp at hu; subst hu; simpa [Addr.add] using h1
    | 2, hu => simp at hu; subst hu; simpa [Addr.add] using h2
    | i + 3, hu => simp at hu
set_option maxHeartbeats 4000000 in
set_option maxRecDepth 100000 in
theorem new17_calls (W : World) :
    Calls Try.prog 12 #[] W fun e W1 => ∃ A n B m C o, e = .returned (stV newS A n B m C o) ∧ StC W1 newS A n B m C o ∧ Below W.heap.size W W1 := by
  have huS := Try.underlying29
  have huR := Try.underlying46
  go_enter Try.func12, Try.ntmps12
  go_wp2
  have hk := blk_alloc (blk_new W (.cells #[.string mainT, .int .u64 0, .int .u64 1, .int .u64 0, .slice (some ⟨W.heap.size + 1, 0, none⟩) 1 1, .slice none 0 0, .slice none 0 0] 29)) (.cells #[.string mainT, .bool false, .int .u64 0] 46)
  have hr := blk_new (W.alloc (.cells #[.string mainT, .int .u64 0, .int .u64 1, .int .u64 0, .slice (some ⟨W.heap.size + 1, 0, none⟩) 1 1, .slice none 0 0, .slice none 0 0] 29)) (.cells #[.string mainT, .bool false, .int .u64 0] 46)
  rw [← size_one] at hr
  refine bodyPost_ret (results_cell_row rfl _ _ W.heap.size 29 #[.string mainT, .int .u64 0, .int .u64 1, .int .u64 0, .slice (some ⟨W.heap.size + 1, 0, none⟩) 1 1, .slice none 0 0, .slice none 0 0] (0, 0) _ rfl hk huS rfl (by kernel_rfl)) rfl ?_
  exact ⟨some ⟨W.heap.size + 1, 0, none⟩, 1, none, 0, none, 0, rfl, ⟨refC_one ⟨mainT, false, 0⟩ hr, Nat.le_refl _, Kd.C_nil _ _, Nat.le_refl _, Kd.C_nil _ _, Nat.le_refl _⟩, below_alloc (below_alloc (Below.refl _ _) _) _⟩
end Go.Proofs.Ytabfjjcbceibpaa.Sep
namespace Go.Proofs.Ytabfjjcbceibpaa.Sep
set_option linter.unusedSimpArgs false
set_option linter.unusedVariables false
open Go.RowKit Go.Proofs.Ytabfjjcbceibpaa.PCore Go.Proofs.Ytabfjjcbceibpaa.Plain Go.Proofs.YtabfjjcbceibpaaW.PrintWords Go.Proofs.YtabfjjcbceibpaaW.PrintLast Go.Proofs.YtabfjjcbceibpaaW.PrintMore
open Go.Proofs.Ytabfjjcbceibpaa.PDat (S46 k46 S48 k48)
theorem newS_ok : putSE newS = 0 := by kernel_rfl
theorem newS_in : InS newS := ⟨by decide, by decide, by decide, fun x hx => by simp [newS] at hx; subst hx; decide, fun x hx => by simp [newS] at hx⟩
set_option maxHeartbeats 4000000 in
set_option maxRecDepth 100000 in
theorem awake17_calls (W : World) :
    Calls Try.prog 5 #[] W fun e W1 => e = .returned (.bool true) ∧ Below W.heap.size W W1 := by
  have huS := Try.underlying29
  have HOF := Aside0.mk (ofS_enc newS_ok newS_in)
  have HFI := Aside0.mk (putSL_fine newS_in)
  have HOK := Aside0.mk newS_ok
  have hnh : newS.head.toList = [109, 97, 105, 110] := by kernel_rfl
  have hnl : newS.refs.length = 1 := rfl
  have hnn : newS.next = 1 := rfl
  go_enter Try.func5, Try.ntmps5
  go_wp2_with (first | (go_at_call 6; have hq := HC2.out; clear hq; refine (of17_calls A2 c2 (putSL newS) _ HC2.out HFI.out).mono ?_; rw [HOF.out]; rintro e w3 ⟨A3, n3, B3, m3, C3, o3, rfl, hs, hb⟩; have HB3 := Aside0.mk (below_step HB2.out hb); clear hs hb) | (go_at_call 9; refine (put17_calls _ HS1.out newS_in).mono ?_; rw [HOK.out]; rintro e w2 ⟨v2, rfl, hr, hb⟩; obtain ⟨A2, c2, hv2, hl2, hC2⟩ := Kd.R_reads hr; subst hv2; have HC2 := Aside0.mk hC2; have HB2 := Aside0.mk (below_step HB1.out hb); clear hr hb hl2 hC2) | (go_at_call 12; refine (new17_calls _).mono ?_; rintro e w1 ⟨A1, n1, B1, m1, C1, o1, rfl, hs, hb⟩; have HS1 := Aside0.mk hs; have HB1 := Aside0.mk hb; clear hs hb))
  go_ret
  exact ⟨by first | rfl | simp, by first | exact HB3.out | exact below_alloc HB3.out _⟩
end Go.Proofs.Ytabfjjcbceibpaa.Sep
namespace Go.Proofs.Ytabfjjcbceibpaa.Sep
set_option linter.unusedSimpArgs false
set_option linter.unusedVariables false
set_option linter.unnecessarySimpa false
open Go.RowKit Go.Proofs.Ytabfjjcbceibpaa.PCore Go.Proofs.Ytabfjjcbceibpaa.Plain Go.Proofs.YtabfjjcbceibpaaW.PrintWords Go.Proofs.YtabfjjcbceibpaaW.PrintLast Go.Proofs.YtabfjjcbceibpaaW.PrintMore
open Go.Proofs.Ytabfjjcbceibpaa.PDat (S46 k46 S48 k48 S74 k74 apographref14_SameState.f apographref14_SameState.calls apographref14_SameRefs.f apographref14_SameRefs.l0 apographref14_SameMade.f apographref14_SameMade.l0 apographref09_SameClashes.f apographref09_SameClashes.l0)
theorem apographref14_SameRefs_loop : ∀ (d : Nat) (l : List Ref) (i : Nat), i + d = l.length → l.length ≤ 9223372036854775807 → Ev (fun k => apographref14_SameRefs.l0 k l l l.length i) true := by
  intro d
  induction d with
  | zero =>
    intro l i hi hn
    refine Ev.step (f := fun _ => some true) (fun k => ?_) (Ev.now _)
    simp only [apographref14_SameRefs.l0]
    rw [if_neg (by omega)]
  | succ d ih =>
    intro l i hi hn
    have hw : wrap64 ((i : Int) + 1) = ((i + 1 : Nat) : Int) := by unfold wrap64; omega
    refine Ev.step (fun k => ?_) (ih l (i + 1) (by omega) hn)
    simp only [apographref14_SameRefs.l0, hw]
    rw [if_pos (by omega), if_pos (by omega), if_pos (by omega), if_pos (by omega), if_neg (by simp)]
theorem apographref14_SameRefs_self (l : List Ref) (hn : l.length ≤ 9223372036854775807) : Ev (fun k => apographref14_SameRefs.f k l l) true := by
  refine Ev.congr (fun k => ?_) (apographref14_SameRefs_loop l.length l 0 (by omega) hn)
  show (if (l.length : Int) = (l.length : Int) then apographref14_SameRefs.l0 k l l (l.length : Int) 0 else some false) = _
  rw [if_pos rfl]
  rfl
theorem apographref14_SameMade_loop : ∀ (d : Nat) (l : List Made) (i : Nat), i + d = l.length → l.length ≤ 9223372036854775807 → Ev (fun k => apographref14_SameMade.l0 k l l l.length i) true := by
  intro d
  induction d with
  | zero =>
    intro l i hi hn
    refine Ev.step (f := fun _ => some true) (fun k => ?_) (Ev.now _)
    simp only [apographref14_SameMade.l0]
    rw [if_neg (by omega)]
  | succ d ih =>
    intro l i hi hn
    have hw : wrap64 ((i : Int) + 1) = ((i + 1 : Nat) : Int) := by unfold wrap64; omega
    refine Ev.step (fun k => ?_) (ih l (i + 1) (by omega) hn)
    simp only [apographref14_SameMade.l0, hw]
    rw [if_pos (by omega), if_pos (by omega), if_pos (by omega), if_pos (by omega), if_neg (by simp)]
theorem apographref14_SameMade_self (l : List Made) (hn : l.length ≤ 9223372036854775807) : Ev (fun k => apographref14_SameMade.f k l l) true := by
  refine Ev.congr (fun k => ?_) (apographref14_SameMade_loop l.length l 0 (by omega) hn)
  show (if (l.length : Int) = (l.length : Int) then apographref14_SameMade.l0 k l l (l.length : Int) 0 else some false) = _
  rw [if_pos rfl]
  rfl
theorem apographref09_SameClashes_loop : ∀ (d : Nat) (l : List Clash) (i : Nat), i + d = l.length → l.length ≤ 9223372036854775807 → Ev (fun k => apographref09_SameClashes.l0 k l l l.length i) true := by
  intro d
  induction d with
  | zero =>
    intro l i hi hn
    refine Ev.step (f := fun _ => some true) (fun k => ?_) (Ev.now _)
    simp only [apographref09_SameClashes.l0]
    rw [if_neg (by omega)]
  | succ d ih =>
    intro l i hi hn
    have hw : wrap64 ((i : Int) + 1) = ((i + 1 : Nat) : Int) := by unfold wrap64; omega
    refine Ev.step (fun k => ?_) (ih l (i + 1) (by omega) hn)
    simp only [apographref09_SameClashes.l0, hw]
    rw [if_pos (by omega), if_pos (by omega), if_pos (by omega), if_pos (by omega), if_neg (by simp)]
theorem apographref09_SameClashes_self (l : List Clash) (hn : l.length ≤ 9223372036854775807) : Ev (fun k => apographref09_SameClashes.f k l l) true := by
  refine Ev.congr (fun k => ?_) (apographref09_SameClashes_loop l.length l 0 (by omega) hn)
  show (if (l.length : Int) = (l.length : Int) then apographref09_SameClashes.l0 k l l (l.length : Int) 0 else some false) = _
  rw [if_pos rfl]
  rfl
theorem apographref14_SameState_self (s : St) (h1 : s.refs.length ≤ 9223372036854775807) (h2 : s.made.length ≤ 9223372036854775807) (h3 : s.cls.length ≤ 9223372036854775807) : Ev (fun k => apographref14_SameState.f k s.head s.work s.next s.pend s.refs s.made s.cls s.head s.work s.next s.pend s.refs s.made s.cls) true := by
  refine Ev.congr (f := fun k => (apographref14_SameRefs.f k s.refs s.refs).bind fun t1 => (if t1 = true then ((apographref14_SameMade.f k s.made s.made).bind fun t2 => (if t2 = true then ((apographref09_SameClashes.f k s.cls s.cls).bind fun t3 => (some t3)) else (some false))) else (some false))) (fun k => by simp [apographref14_SameState.f]) ?_
  refine Ev.bind (apographref14_SameRefs_self s.refs h1) ?_
  refine Ev.congr (fun k => by rw [if_pos rfl]) (Ev.bind (apographref14_SameMade_self s.made h2) (Ev.congr (fun k => by rw [if_pos rfl]) (Ev.bind (apographref09_SameClashes_self s.cls h3) (Ev.now _))))
end Go.Proofs.Ytabfjjcbceibpaa.Sep
namespace Go.Proofs.Ytabfjjcbceibpaa.Sep
set_option linter.unusedSimpArgs false
set_option linter.unusedVariables false
open Go.RowKit Go.Proofs.Ytabfjjcbceibpaa.PCore Go.Proofs.Ytabfjjcbceibpaa.Plain Go.Proofs.YtabfjjcbceibpaaW.PrintWords Go.Proofs.YtabfjjcbceibpaaW.PrintLast Go.Proofs.YtabfjjcbceibpaaW.PrintMore
open Go.Proofs.Ytabfjjcbceibpaa.PDat (S46 k46 S48 k48)
theorem rdR_of (s : RS) (hb : Fine s) (h : (rdR s).2.2 = false) : s.2 = false ∧ s.1 = encR (rdR s).1 ++ (rdR s).2.1 := by
  have f1 := fine_text hb 20
  have f2 := fine_flag f1
  obtain ⟨a1, a2, _⟩ := rdNum_of (most := M64) f2.1 h
  obtain ⟨b1, b2⟩ := rdFlag_of f1.1 a1
  obtain ⟨c1, c2, _⟩ := rdText_of (most := 20) hb.1 b1
  refine ⟨c1, ?_⟩
  rw [a2] at b2
  rw [b2] at c2
  rw [c2]
  simp only [encR, rdR, List.append_assoc]
theorem rdM_of (s : RS) (hb : Fine s) (h : (rdM s).2.2 = false) : s.2 = false ∧ s.1 = encM (rdM s).1 ++ (rdM s).2.1 := by
  have f1 := fine_num hb M64
  obtain ⟨a1, a2, _⟩ := rdNum_of (most := M64) f1.1 h
  obtain ⟨b1, b2, _⟩ := rdNum_of (most := M64) hb.1 a1
  refine ⟨b1, ?_⟩
  rw [a2] at b2
  rw [b2]
  simp only [encM, rdM, List.append_assoc]
theorem rdSt_of {b : List Int} (hF : Fine (b, false)) (h : (rdSt b).2.2.2 = false) :
    b = encT (rdSt b).1.head ++ (enc (rdSt b).1.work ++ (enc (rdSt b).1.next ++ (enc (rdSt b).1.pend ++ (enc ((rdSt b).1.refs.length : Int) ++ (encRs (rdSt b).1.refs ++ (enc ((rdSt b).1.made.length : Int) ++ (encMs (rdSt b).1.made ++ (encT (rdSt b).2.1 ++ (rdSt b).2.2.1)))))))) ∧ InS (rdSt b).1 ∧ (rdSt b).1.cls = [] ∧ (rdSt b).2.1.size ≤ 1000000 := by
  have g1 := fine_text hF 20
  have g2 := fine_num g1 M64
  have g3 := fine_num g2 M64
  have g4 := fine_num g3 M64
  have g5 := fine_num g4 40
  have n5 := num_in g4 40 (by decide)
  have g6 := many_fine rdR fine_R (rdNum 40 (rdNum M64 (rdNum M64 (rdNum M64 (rdText 20 (b, false)).2).2).2).2).1.toNat g5
  have g7 := fine_num g6 200
  have n7 := num_in g6 200 (by decide)
  have g8 := many_fine rdM fine_M (rdNum 200 (rdMany rdR (rdNum 40 (rdNum M64 (rdNum M64 (rdNum M64 (rdText 20 (b, false)).2).2).2).2).1.toNat (rdNum 40 (rdNum M64 (rdNum M64 (rdNum M64 (rdText 20 (b, false)).2).2).2).2).2).2).1.toNat g7
  have q2 := num_in g1 M64 (by decide)
  have q3 := num_in g2 M64 (by decide)
  have q4 := num_in g3 M64 (by decide)
  have hR := many_all rdR (fun r => U64 r.f2) fine_R (fun s h => rdR_in h) (rdNum 40 (rdNum M64 (rdNum M64 (rdNum M64 (rdText 20 (b, false)).2).2).2).2).1.toNat g5
  have hM := many_all rdM (fun x => U64 x.f0 ∧ U64 x.f1) fine_M (fun s h => rdM_in h) (rdNum 200 (rdMany rdR (rdNum 40 (rdNum M64 (rdNum M64 (rdNum M64 (rdText 20 (b, false)).2).2).2).2).1.toNat (rdNum 40 (rdNum M64 (rdNum M64 (rdNum M64 (rdText 20 (b, false)).2).2).2).2).2).2).1.toNat g7
  have hz := text_size g8 1048576
  have hl1 := many_len rdR (rdNum 40 (rdNum M64 (rdNum M64 (rdNum M64 (rdText 20 (b, false)).2).2).2).2).1.toNat (rdNum 40 (rdNum M64 (rdNum M64 (rdNum M64 (rdText 20 (b, false)).2).2).2).2).2
  have hl2 := many_len rdM (rdNum 200 (rdMany rdR (rdNum 40 (rdNum M64 (rdNum M64 (rdNum M64 (rdText 20 (b, false)).2).2).2).2).1.toNat (rdNum 40 (rdNum M64 (rdNum M64 (rdNum M64 (rdText 20 (b, false)).2).2).2).2).2).2).1.toNat (rdNum 200 (rdMany rdR (rdNum 40 (rdNum M64 (rdNum M64 (rdNum M64 (rdText 20 (b, false)).2).2).2).2).1.toNat (rdNum 40 (rdNum M64 (rdNum M64 (rdNum M64 (rdText 20 (b, false)).2).2).2).2).2).2).2
  unfold rdSt at h ⊢
  simp only at h ⊢
  obtain ⟨t1, t2, _⟩ := rdText_of (most := 1048576) g8.1 h
  obtain ⟨m1, m2⟩ := many_of rdM encM fine_M rdM_of _ g7 t1
  obtain ⟨j1, j2, _⟩ := rdNum_of (most := 200) g6.1 m1
  obtain ⟨r1, r2⟩ := many_of rdR encR fine_R rdR_of _ g5 j1
  obtain ⟨k1, k2, _⟩ := rdNum_of (most := 40) g4.1 r1
  obtain ⟨p1, p2, _⟩ := rdNum_of (most := M64) g3.1 k1
  obtain ⟨x1, x2, _⟩ := rdNum_of (most := M64) g2.1 p1
  obtain ⟨w1, w2, _⟩ := rdNum_of (most := M64) g1.1 x1
  obtain ⟨h1, h2, _⟩ := rdText_of (most := 20) hF.1 w1
  refine ⟨?_, ⟨⟨q2.1, q2.2.2⟩, ⟨q3.1, q3.2.2⟩, ⟨q4.1, q4.2.2⟩, hR, hM⟩, trivial, hz⟩
  rw [hl1, hl2, Int.toNat_of_nonneg n5.1, Int.toNat_of_nonneg n7.1]
  conv => lhs; rw [show b = (b, false).1 from rfl, h2, w2, x2, p2, k2, r2, j2, m2, t2]
  rfl
theorem ofS_bytes {b : List Int} (hF : Fine (b, false)) (h : (ofS b).2 = 0) : putSE (ofS b).1 = 0 ∧ putSL (ofS b).1 = b ∧ InS (ofS b).1 := by
  unfold ofS at h ⊢
  split at h
  · rename_i hc
    rw [if_pos hc]
    simp only
    have hd := (rdDone_iff _).1 hc.2.1
    obtain ⟨e1, hI, hcl, hz⟩ := rdSt_of hF (by rw [hd])
    obtain ⟨k1, k2⟩ := ofK_bytes (bytes_fine _ hz) hc.1
    have hE : putSE (withC (rdSt b).1 (ofK (bytesOf (rdSt b).2.1)).1) = 0 := by
      unfold putSE
      rw [if_pos hc.2.2]
      exact if_pos k2
    have hL : putL (ofK (bytesOf (rdSt b).2.1)).1 = bytesOf (rdSt b).2.1 := by unfold putL; rw [if_pos k2, k1]
    refine ⟨hE, ?_, ⟨hI.w, hI.n, hI.p, hI.r, hI.m⟩⟩
    unfold putSL
    rw [if_pos hE]
    unfold encSt
    simp only [withC]
    rw [hL, str_bytes]
    conv => rhs; rw [e1, hd]
    simp [Plain.encs, List.append_assoc]
  · cases h
theorem ofS_two (b : List Int) : (ofS b).2 = 0 ∨ ofS b = (zeroS, 20) := by
  unfold ofS
  split
  · exact .inl rfl
  · exact .inr rfl
end Go.Proofs.Ytabfjjcbceibpaa.Sep
namespace Go.Proofs.Ytabfjjcbceibpaa.Sep
set_option linter.unusedSimpArgs false
set_option linter.unusedVariables false
open Go.RowKit Go.Proofs.Ytabfjjcbceibpaa.PCore Go.Proofs.Ytabfjjcbceibpaa.Plain Go.Proofs.YtabfjjcbceibpaaW.PrintWords Go.Proofs.YtabfjjcbceibpaaW.PrintLast Go.Proofs.YtabfjjcbceibpaaW.PrintMore
open Go.Proofs.Ytabfjjcbceibpaa.PDat (S46 k46 S48 k48 apographref14_SameState.calls)
theorem sameRef17_calls {x : St} {A B C A' B' C' : Option Addr} {n m o n' m' o' : Nat} (w : World) (h : StC w x A n B m C o) (h' : StC w x A' n' B' m' C' o') :
    Calls Try.prog 8 #[stV x A n B m C o, stV x A' n' B' m' C' o'] w fun e w' => e = .returned (.bool true) ∧ Below w.heap.size w w' := by
  obtain ⟨k, hk⟩ := Ev.rounds (apographref14_SameState_self x (Kd.C_max h.hr) (Kd.C_max h.hm) (Kd.C_max h.hc))
  exact apographref14_SameState.calls k x.head x.work x.next x.pend A n x.refs B m x.made C o x.cls x.head x.work x.next x.pend A' n' x.refs B' m' x.made C' o' x.cls _ w h.hr h.hrn h.hm h.hmn h.hc h.hcn h'.hr h'.hrn h'.hm h'.hmn h'.hc h'.hcn hk
set_option maxHeartbeats 16000000 in
set_option maxRecDepth 100000 in
theorem stateOf_walk (A : Option Addr) (c : Nat) (b : List Int) (W : World) (hC : Kd.C (Kd.int .u8) W A b.length b) (hc : b.length ≤ c) (hm : b.length ≤ maxLen) (hw : ∀ x ∈ b, (Lit.int .u8 x).wf = true) :
    Calls Try.prog 3 #[.slice A b.length c] W fun e W1 => e = .returned (.bool true) ∧ Below W.heap.size W W1 := by
  have HC := Aside0.mk hC
  have HCC := Aside0.mk hc
  have huS := Try.underlying29
  by_cases hb : (3000 : Int) < (b.length : Int)
  · have hb' : decide ((3000 : Int) < (b.length : Int)) = true := decide_eq_true hb
    clear hC hc hm hw hb
    go_enter Try.func3, Try.ntmps3
    go_wp2_with (go_at_call 5; refine (awake17_calls _).mono ?_; rintro e w1 ⟨rfl, hb⟩; have HB1 := Aside0.mk hb; clear hb)
    go_ret
    exact ⟨rfl, HB1.out⟩
  · have hb' : decide ((3000 : Int) < (b.length : Int)) = false := decide_eq_false hb
    have hF : Fine (b, false) := ⟨fun x hx => u8_of (hw x hx), by show b.length ≤ 1000000; omega, fun h => by simp at h⟩
    have HFF := Aside0.mk hF
    by_cases h0 : (ofS b).2 = 0
    · obtain ⟨h1, h2, h3⟩ := ofS_bytes hF h0
      obtain ⟨x, e0, hx⟩ : ∃ x e0, ofS b = (x, e0) := ⟨_, _, rfl⟩
      rw [hx] at h0 h1 h2 h3
      simp only at h0 h1 h2 h3
      subst h0
      have HX := Aside0.mk hx
      have HE := Aside0.mk h1
      have HPL := Aside0.mk h2
      have HI := Aside0.mk h3
      clear hC hc hm hw hb hF h1 h2 h3 hx
      go_enter Try.func3, Try.ntmps3
      go_wp2_with (first | (go_at_call 9; refine (put17_calls _ HS4.out HI.out).mono ?_; rw [HE.out, HPL.out]; rintro e w5 ⟨v5, rfl, hr, hb⟩; obtain ⟨A5, c5, hv5, hl5, hC5⟩ := Kd.R_reads hr; subst hv5; have HB5 := Aside0.mk (below_step HB4.out hb); have hs5 := Kd.C_string (P := Try.prog) (A := A5) (c := c5) Try.underlying22 Try.underlying5 Try.underlying9 hC5; have hs6 := Kd.C_string (P := Try.prog) (A := A) (c := c) Try.underlying22 Try.underlying5 Try.underlying9 (Kd.C_below HC.out HB5.out); clear hr hb hl5 hC5) | (go_at_call 8; refine (sameRef17_calls _ HS23.out HS3.out).mono ?_; rintro e w4 ⟨rfl, hb⟩; have HB4 := Aside0.mk (below_step HB3.out hb); have HS4 := Aside0.mk (HS23.out.below hb); have hk4 := (Fr.of_below (B := 0) (T := []) hb).blk HK23.out (by simp); obtain ⟨g0, g1, g2, g3, g4, g5, g6⟩ := st_cells hk4; clear hb hk4) | (go_at_call 7; refine (refStateOf_calls A c b _ (Kd.C_below HC.out HB2.out) HCC.out HFF.out).mono ?_; rw [HX.out]; rintro e w3 ⟨A3, n3, B3, m3, C3, o3, rfl, hs, hb⟩; have HB3 := Aside0.mk (below_alloc (below_step HB2.out hb) (.cells #[.string x.head, .int .u64 x.work, .int .u64 x.next, .int .u64 x.pend, .slice A3 x.refs.length n3, .slice B3 x.made.length m3, .slice C3 x.cls.length o3] 29)); have HS23 := Aside0.mk ((HS2.out.below hb).below (below_alloc (Below.refl _ _) (.cells #[.string x.head, .int .u64 x.work, .int .u64 x.next, .int .u64 x.pend, .slice A3 x.refs.length n3, .slice B3 x.made.length m3, .slice C3 x.cls.length o3] 29))); have HS3 := Aside0.mk (hs.below (below_alloc (Below.refl _ _) (.cells #[.string x.head, .int .u64 x.work, .int .u64 x.next, .int .u64 x.pend, .slice A3 x.refs.length n3, .slice B3 x.made.length m3, .slice C3 x.cls.length o3] 29))); have hk23 := blk_alloc ((Fr.of_below (B := 0) (T := []) hb).blk HK2.out (by simp)) (.cells #[.string x.head, .int .u64 x.work, .int .u64 x.next, .int .u64 x.pend, .slice A3 x.refs.length n3, .slice B3 x.made.length m3, .slice C3 x.cls.length o3] 29); have HK23 := Aside0.mk hk23; obtain ⟨d0, d1, d2, d3, d4, d5, d6⟩ := st_cells hk23; have hk3 := blk_new w3 (.cells #[.string x.head, .int .u64 x.work, .int .u64 x.next, .int .u64 x.pend, .slice A3 x.refs.length n3, .slice B3 x.made.length m3, .slice C3 x.cls.length o3] 29); obtain ⟨f0, f1, f2, f3, f4, f5, f6⟩ := st_cells hk3; clear hs hb hk23 hk3) | (go_at_call 6; refine (of17_calls A c b _ (Kd.C_below HC.out HB1.out) HFF.out).mono ?_; rw [HX.out]; rintro e w2 ⟨A2, n2, B2, m2, C2, o2, rfl, hs, hb⟩; have HB2 := Aside0.mk (below_alloc (below_step HB1.out hb) (.cells #[.string x.head, .int .u64 x.work, .int .u64 x.next, .int .u64 x.pend, .slice A2 x.refs.length n2, .slice B2 x.made.length m2, .slice C2 x.cls.length o2] 29)); have HS2 := Aside0.mk (hs.below (below_alloc (Below.refl _ _) (.cells #[.string x.head, .int .u64 x.work, .int .u64 x.next, .int .u64 x.pend, .slice A2 x.refs.length n2, .slice B2 x.made.length m2, .slice C2 x.cls.length o2] 29))); have HK2 := Aside0.mk (blk_new w2 (.cells #[.string x.head, .int .u64 x.work, .int .u64 x.next, .int .u64 x.pend, .slice A2 x.refs.length n2, .slice B2 x.made.length m2, .slice C2 x.cls.length o2] 29)); clear hs hb) | (go_at_call 5; refine (awake17_calls _).mono ?_; rintro e w1 ⟨rfl, hb⟩; have HB1 := Aside0.mk hb; clear hb))
      go_ret
      exact ⟨by first | rfl | simp, HB5.out⟩
    · have h2 := (ofS_two b).resolve_left h0
      have HX := Aside0.mk h2
      clear hC hc hm hw hb hF h0 h2
      obtain ⟨x, hx⟩ : ∃ x, x = zeroS := ⟨_, rfl⟩
      rw [← hx] at HX
      clear hx
      go_enter Try.func3, Try.ntmps3
      go_wp2_with (first | (go_at_call 8; refine (sameRef17_calls _ HS23.out HS3.out).mono ?_; rintro e w4 ⟨rfl, hb⟩; have HB4 := Aside0.mk (below_step HB3.out hb); have HS4 := Aside0.mk (HS23.out.below hb); have hk4 := (Fr.of_below (B := 0) (T := []) hb).blk HK23.out (by simp); obtain ⟨g0, g1, g2, g3, g4, g5, g6⟩ := st_cells hk4; clear hb hk4) | (go_at_call 7; refine (refStateOf_calls A c b _ (Kd.C_below HC.out HB2.out) HCC.out HFF.out).mono ?_; rw [HX.out]; rintro e w3 ⟨A3, n3, B3, m3, C3, o3, rfl, hs, hb⟩; have HB3 := Aside0.mk (below_alloc (below_step HB2.out hb) (.cells #[.string x.head, .int .u64 x.work, .int .u64 x.next, .int .u64 x.pend, .slice A3 x.refs.length n3, .slice B3 x.made.length m3, .slice C3 x.cls.length o3] 29)); have HS23 := Aside0.mk ((HS2.out.below hb).below (below_alloc (Below.refl _ _) (.cells #[.string x.head, .int .u64 x.work, .int .u64 x.next, .int .u64 x.pend, .slice A3 x.refs.length n3, .slice B3 x.made.length m3, .slice C3 x.cls.length o3] 29))); have HS3 := Aside0.mk (hs.below (below_alloc (Below.refl _ _) (.cells #[.string x.head, .int .u64 x.work, .int .u64 x.next, .int .u64 x.pend, .slice A3 x.refs.length n3, .slice B3 x.made.length m3, .slice C3 x.cls.length o3] 29))); have hk23 := blk_alloc ((Fr.of_below (B := 0) (T := []) hb).blk HK2.out (by simp)) (.cells #[.string x.head, .int .u64 x.work, .int .u64 x.next, .int .u64 x.pend, .slice A3 x.refs.length n3, .slice B3 x.made.length m3, .slice C3 x.cls.length o3] 29); have HK23 := Aside0.mk hk23; obtain ⟨d0, d1, d2, d3, d4, d5, d6⟩ := st_cells hk23; have hk3 := blk_new w3 (.cells #[.string x.head, .int .u64 x.work, .int .u64 x.next, .int .u64 x.pend, .slice A3 x.refs.length n3, .slice B3 x.made.length m3, .slice C3 x.cls.length o3] 29); obtain ⟨f0, f1, f2, f3, f4, f5, f6⟩ := st_cells hk3; clear hs hb hk23 hk3) | (go_at_call 6; refine (of17_calls A c b _ (Kd.C_below HC.out HB1.out) HFF.out).mono ?_; rw [HX.out]; rintro e w2 ⟨A2, n2, B2, m2, C2, o2, rfl, hs, hb⟩; have HB2 := Aside0.mk (below_alloc (below_step HB1.out hb) (.cells #[.string x.head, .int .u64 x.work, .int .u64 x.next, .int .u64 x.pend, .slice A2 x.refs.length n2, .slice B2 x.made.length m2, .slice C2 x.cls.length o2] 29)); have HS2 := Aside0.mk (hs.below (below_alloc (Below.refl _ _) (.cells #[.string x.head, .int .u64 x.work, .int .u64 x.next, .int .u64 x.pend, .slice A2 x.refs.length n2, .slice B2 x.made.length m2, .slice C2 x.cls.length o2] 29))); have HK2 := Aside0.mk (blk_new w2 (.cells #[.string x.head, .int .u64 x.work, .int .u64 x.next, .int .u64 x.pend, .slice A2 x.refs.length n2, .slice B2 x.made.length m2, .slice C2 x.cls.length o2] 29)); clear hs hb) | (go_at_call 5; refine (awake17_calls _).mono ?_; rintro e w1 ⟨rfl, hb⟩; have HB1 := Aside0.mk hb; clear hb))
      go_ret
      exact ⟨by first | rfl | simp, HB4.out⟩
end Go.Proofs.Ytabfjjcbceibpaa.Sep
