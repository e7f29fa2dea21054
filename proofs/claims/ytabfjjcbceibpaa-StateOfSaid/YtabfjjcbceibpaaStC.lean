/- A state's bytes: plain; the walk of state.Put. Printed by gen5.py. Conditions: the bounds of the statements. · A state told of bytes: plain; where reading one stands. Printed by gen6.py. Conditions: the bounds of the statements. -/
import Derived.Test.YtabfjjcbceibpaaStB
import Derived.Deep.AppendLies
import Derived.Deep.RegionLaw
namespace Go.Proofs.Ytabfjjcbceibpaa.Sep
set_option linter.unusedSimpArgs false
set_option linter.unusedVariables false
open Go.RowKit Go.Proofs.Ytabfjjcbceibpaa.PCore Go.Proofs.Ytabfjjcbceibpaa.Plain Go.Proofs.YtabfjjcbceibpaaW.PrintWords Go.Proofs.YtabfjjcbceibpaaW.PrintLast Go.Proofs.YtabfjjcbceibpaaW.PrintMore
open Go.Proofs.Ytabfjjcbceibpaa.PDat (S46 k46 z46 rd_T46 at_T46 S48 k48 z48 rd_T48 at_T48)
abbrev U64 (x : Int) : Prop := 0 ≤ x ∧ x < 18446744073709551616
def encR (r : Ref) : List Int := encT r.f0 ++ encB r.f1 ++ enc r.f2
def encRs (l : List Ref) : List Int := (l.map encR).flatten
def encM (x : Made) : List Int := enc x.f0 ++ enc x.f1
def encMs (l : List Made) : List Int := (l.map encM).flatten
/-- A state's bytes. -/
def encSt (s : St) : List Int := encT s.head ++ encs [s.work, s.next, s.pend, (s.refs.length : Int)] ++ encRs s.refs ++ enc (s.made.length : Int) ++ encMs s.made ++ encT (strOfNums (putL s.cls))
/-- A state whose numbers are numbers. -/
structure InS (s : St) : Prop where
  w : U64 s.work
  n : U64 s.next
  p : U64 s.pend
  r : ∀ x ∈ s.refs, U64 x.f2
  m : ∀ x ∈ s.made, U64 x.f0 ∧ U64 x.f1
def putSE (s : St) : Int := if stateE s = 0 then (if putE s.cls = 0 then 0 else 150) else 150
def putSL (s : St) : List Int := if putSE s = 0 then encSt s else []
theorem stateE_two (s : St) : stateE s = 0 ∨ stateE s = 150 := by
  unfold stateE
  split
  · exact .inr rfl
  · exact .inl rfl
theorem stateE_zero {s : St} (h : stateE s = 0) : (s.next == 0) = false ∧ refsB s = true ∧ madeB s = true ∧ pendB s = true ∧ confE s.cls = 0 := by
  unfold stateE at h
  split at h
  · cases h
  · rename_i hc
    simp only [Bool.or_eq_true, not_or, Bool.not_eq_true, Bool.not_eq_false', beq_iff_eq] at hc
    exact ⟨beq_eq_false_iff_ne.mpr hc.1, hc.2.1, hc.2.2.1, hc.2.2.2.1, hc.2.2.2.2⟩
theorem nameB_size {t : ByteArray} (h : nameB t = true) : 1 ≤ t.size ∧ t.size ≤ 20 := by
  simp only [nameB, Bool.and_eq_true, decide_eq_true_eq] at h
  exact ⟨h.1, h.2.1⟩
theorem refsL_in (made : List Made) (head : ByteArray) : ∀ (l : List Ref) (p : Option ByteArray) (h : Bool), refsL made head p h l = true → (h = true → head.size ≤ 20) → (∀ r ∈ l, r.f0.size ≤ 20) ∧ head.size ≤ 20
  | [], p, h, hl, hh => ⟨fun r hr => by simp at hr, hh (by cases p <;> simpa [refsL] using hl)⟩
  | r :: l, p, h, hl, hh => by
    have h2 : nameB r.f0 = true ∧ refsL made head (some r.f0) (h || (r.f0.toList == head.toList && !r.f1)) l = true := by
      cases p with
      | none => rw [refsL] at hl; simp only [Bool.and_eq_true] at hl; exact ⟨hl.1, hl.2.2.2⟩
      | some q => rw [refsL] at hl; simp only [Bool.and_eq_true] at hl; exact ⟨hl.1, hl.2.2.2⟩
    have h3 := nameB_size h2.1
    obtain ⟨h4, h5⟩ := refsL_in made head l (some r.f0) _ h2.2 (fun e => by
      simp only [Bool.or_eq_true, Bool.and_eq_true, beq_iff_eq] at e
      rcases e with e | e
      · exact hh e
      · rw [← text_one.1 e.1]; exact h3.2)
    exact ⟨fun x hx => (List.mem_cons.1 hx).elim (fun e => by rw [e]; exact h3.2) (h4 x), h5⟩
/-- What is known of a state that may be. -/
theorem right_facts {s : St} (h : stateE s = 0) : s.refs.length ≤ 40 ∧ s.made.length ≤ 200 ∧ (∀ r ∈ s.refs, r.f0.size ≤ 20) ∧ s.head.size ≤ 20 ∧ confE s.cls = 0 := by
  obtain ⟨_, h2, h3, _, h5⟩ := stateE_zero h
  simp only [refsB, Bool.and_eq_true, decide_eq_true_eq] at h2
  simp only [madeB, Bool.and_eq_true, decide_eq_true_eq] at h3
  obtain ⟨h6, h7⟩ := refsL_in s.made s.head s.refs none false h2.2 (fun e => by cases e)
  exact ⟨h2.1, h3.1, h6, h7, h5⟩
theorem encR_len {r : Ref} (h : r.f0.size ≤ 20) (hi : U64 r.f2) : (encR r).length ≤ 60 := by
  have h1 := encT_len r.f0 (by omega)
  have h2 := enc_len_u64 hi.1 hi.2
  simp only [encR, List.length_append, encB, List.length_cons, List.length_nil]
  omega
theorem encM_len {x : Made} (h : U64 x.f0 ∧ U64 x.f1) : (encM x).length ≤ 20 := by
  have h1 := enc_len_u64 h.1.1 h.1.2
  have h2 := enc_len_u64 h.2.1 h.2.2
  simp only [encM, List.length_append]
  omega
theorem encRs_len : ∀ {l : List Ref}, (∀ r ∈ l, r.f0.size ≤ 20 ∧ U64 r.f2) → (encRs l).length ≤ 60 * l.length
  | [], _ => by simp [encRs]
  | x :: l, h => by
    have h1 := encR_len (h x (by simp)).1 (h x (by simp)).2
    have h2 := encRs_len (l := l) (fun y hy => h y (by simp [hy]))
    simp only [encRs, List.map_cons, List.flatten_cons, List.length_append, List.length_cons] at h2 ⊢
    omega
theorem encMs_len : ∀ {l : List Made}, (∀ x ∈ l, U64 x.f0 ∧ U64 x.f1) → (encMs l).length ≤ 20 * l.length
  | [], _ => by simp [encMs]
  | x :: l, h => by
    have h1 := encM_len (h x (by simp))
    have h2 := encMs_len (l := l) (fun y hy => h y (by simp [hy]))
    simp only [encMs, List.map_cons, List.flatten_cons, List.length_append, List.length_cons] at h2 ⊢
    omega
theorem encRs_take {l : List Ref} (i : Nat) (h : i < l.length) : encRs (l.take (i + 1)) = encRs (l.take i) ++ encR (rd_T46 l (i : Int)) := by
  rw [ref_at i h, take_one l i h]
  unfold encRs
  rw [List.map_append, List.flatten_append]
  simp
theorem encMs_take {l : List Made} (i : Nat) (h : i < l.length) : encMs (l.take (i + 1)) = encMs (l.take i) ++ encM (rd_T48 l (i : Int)) := by
  rw [made_at i h, take_one l i h]
  unfold encMs
  rw [List.map_append, List.flatten_append]
  simp
theorem putL_len {l : List Clash} : (putL l).length ≤ 800000 := by
  unfold putL
  split
  · rename_i h
    obtain ⟨_, h2, h3⟩ := putE_zero h
    have h4 := encCls_len h3
    have h5 := enc_len_u64 (n := (l.length : Int)) (by omega) (by omega)
    simp only [encL, List.length_append]
    omega
  · simp
theorem wr_num2_at (B g n : Nat) (bs : List Int) (x y : Int) (W : World) (hn : n = W.heap.size) (hw : WrAt B g W bs) (hx : U64 x) (hy : U64 y) (hlim : bs.length + 20 < 140737488355328) :
    Calls Try.prog 31 #[.pointer (some ⟨g, 0, none⟩), .slice (some ⟨n, 0, none⟩) 2 2] (W.alloc (.cells #[.int .u64 x, .int .u64 y] 24)) fun e W1 => e = .returned (.tuple #[]) ∧ WrAt B g W1 (bs ++ enc x ++ enc y) ∧ Fr B [64, 5] W W1 := by
  subst hn
  exact wr_num2 B g bs x y W hw hx hy hlim
set_option maxHeartbeats 32000000 in
set_option maxRecDepth 100000 in
theorem put17_calls {s : St} {A : Option Addr} {n : Nat} {B : Option Addr} {m : Nat} {C : Option Addr} {o : Nat} (W : World) (h : StC W s A n B m C o) (hI : InS s) :
    Calls Try.prog 9 #[.agg #[.string s.head, .int .u64 s.work, .int .u64 s.next, .int .u64 s.pend, .slice A s.refs.length n, .slice B s.made.length m, .slice C s.cls.length o]] W fun e W1 => ∃ v, e = .returned (.tuple #[v, .int .i64 (putSE s)]) ∧ Kd.R (Kd.int .u8) 5 W1 W.heap.size (fun _ => True) v (putSL s) ∧ Below W.heap.size W W1 := by
  have HS := Aside0.mk h
  have HII := Aside0.mk hI
  have HCX := Aside0.mk (Kd.C_max h.hc)
  have HRX := Aside0.mk (Kd.C_max h.hr)
  have HMX := Aside0.mk (Kd.C_max h.hm)
  have huS := Try.underlying29
  have huR := Try.underlying46
  have huM := Try.underlying48
  have HK0 := Aside0.mk (blk_new W (.cells #[.string s.head, .int .u64 s.work, .int .u64 s.next, .int .u64 s.pend, .slice A s.refs.length n, .slice B s.made.length m, .slice C s.cls.length o] 29))
  have HB0 := Aside0.mk (below_alloc (Below.refl W.heap.size W) (.cells #[.string s.head, .int .u64 s.work, .int .u64 s.next, .int .u64 s.pend, .slice A s.refs.length n, .slice B s.made.length m, .slice C s.cls.length o] 29))
  clear h hI
  rcases stateE_two s with he | he
  · have HE := Aside0.mk he
    obtain ⟨q1, q2, q3, q4, q5⟩ := right_facts he
    have HQ1 := Aside0.mk q1
    have HQ2 := Aside0.mk q2
    have HQ3 := Aside0.mk q3
    have HQ4 := Aside0.mk q4
    clear he q5
    by_cases hp : putE s.cls = 0
    · have HPE := Aside0.mk hp
      have HP := Aside0.mk (show putSE s = 0 by unfold putSE; rw [if_pos HE.out, if_pos hp])
      have HPL := Aside0.mk (show putSL s = encSt s by unfold putSL; rw [if_pos HP.out])
      have hw1 : IntKind.u64.wrap (s.refs.length : Int) = (s.refs.length : Int) := by rw [IntKind.wrap_u64]; omega
      have hw2 : IntKind.u64.wrap (s.made.length : Int) = (s.made.length : Int) := by rw [IntKind.wrap_u64]; omega
      have HU1 := Aside0.mk (show U64 (s.refs.length : Int) from ⟨by omega, by omega⟩)
      have HU2 := Aside0.mk (show U64 (s.made.length : Int) from ⟨by omega, by omega⟩)
      have HT0 := Aside0.mk (encT_len s.head (by omega))
      clear q1 q2 q3 q4 hp
      go_enter Try.func9, Try.ntmps9
      go_wp2_with (first | (go_at_call 31; have hq := HW3.out; clear hq; refine (wr_num4 w2.heap.size w2.heap.size _ s.work s.next s.pend (s.refs.length : Int) _ HW3.out HII.out.w HII.out.n HII.out.p HU1.out (by have := HT0.out; have := HQ4.out; omega)).mono ?_; rintro e w4 ⟨rfl, hw, hf⟩; have HW4 := Aside0.mk hw; have HBw4 := Aside0.mk (HBw3.out.trans (hf.below HBw3.out.size)); have hk4 := (Fr.of_below (B := 0) (T := []) HBw4.out).blk HK2.out (by simp); obtain ⟨d0, d1, d2, d3, d4, d5, d6⟩ := st_cells hk4; clear hw hf hk4) | (go_at_call 30; refine (wr_text w2.heap.size w2.heap.size [] s.head _ HW2.out (by have := HQ4.out; simp only [List.length_nil]; omega)).mono ?_; rintro e w3 ⟨rfl, hw, hf⟩; rw [List.nil_append] at hw; have HW3 := Aside0.mk hw; have HBw3 := Aside0.mk (HBw2.out.trans (hf.below HBw2.out.size)); have hk3 := (Fr.of_below (B := 0) (T := []) HBw3.out).blk HK2.out (by simp); obtain ⟨e0, e1, e2, e3, e4, e5, e6⟩ := st_cells hk3; clear hw hf hk3) | (go_at_call 29; refine (putB C o s.cls _ (HS.out.below HB1.out).hc HCX.out).mono ?_; rw [HPE.out]; rintro e w2 ⟨B2, c2, rfl, hn2, hC2, hb⟩; have HB2 := Aside0.mk (below_step HB1.out hb); have HBw2 := Aside0.mk (below_alloc (Below.refl w2.heap.size w2) (.cells #[.slice none 0 0] 64)); have HK2 := Aside0.mk ((Fr.of_below (B := 0) (T := []) hb).blk HK1.out (by simp)); have hk2 := blk_alloc HK2.out (.cells #[.slice none 0 0] 64); obtain ⟨b0, b1, b2, b3, b4, b5, b6⟩ := st_cells hk2; have HC2 := Aside0.mk hC2; have HW2 := Aside0.mk (show WrAt w2.heap.size w2.heap.size (w2.alloc (.cells #[.slice none 0 0] 64)) [] from ⟨_, blk_new _ _, Nat.le_refl _, Kd.R_nil _ _ _ _ _⟩); clear hb hk2 hn2 hC2) | (go_at_call 19; refine (right17_calls _ (HS.out.below HB0.out)).mono ?_; rw [HE.out]; rintro e w1 ⟨rfl, hb⟩; have HB1 := Aside0.mk (below_step HB0.out hb); have hk1 := (Fr.of_below (B := 0) (T := []) hb).blk HK0.out (by simp); have HK1 := Aside0.mk hk1; obtain ⟨a0, a1, a2, a3, a4, a5, a6⟩ := st_cells hk1; clear hb hk1))
      have HLH := Aside0.mk (show (encT s.head ++ encs [s.work, s.next, s.pend, (s.refs.length : Int)]).length ≤ 100 by
        have h1 := HT0.out
        have h2 := HQ4.out
        have h3 := encs_le [s.work, s.next, s.pend, (s.refs.length : Int)] (fun x hx => by
          simp only [List.mem_cons, List.not_mem_nil, or_false] at hx
          rcases hx with rfl | rfl | rfl | rfl
          · exact HII.out.w
          · exact HII.out.n
          · exact HII.out.p
          · exact HU1.out)
        rw [List.length_append]
        simp only [List.length_cons, List.length_nil] at h3
        omega)
      generalize hhd : encT s.head ++ encs [s.work, s.next, s.pend, (s.refs.length : Int)] = hd at HW4 HLH
      have HHD := Aside0.mk hhd
      clear hhd HW3 HW2 HBw2 HBw3 a0 a1 a2 a3 a4 a5 a6 b0 b1 b2 b3 b4 b5 b6 e0 e1 e2 e3 e4 e5 e6
      have HBN := Aside0.mk (show ∀ w', Below w2.heap.size w2 w' → Below W.heap.size W w' from fun w' hb => below_step HB2.out hb)
      have HRL := Aside0.mk (show ∀ i, (encRs (s.refs.take i)).length ≤ 2400 from fun i => by
        have h1 := encRs_len (l := s.refs.take i) (fun r hr => ⟨HQ3.out r (List.mem_of_mem_take hr), HII.out.r r (List.mem_of_mem_take hr)⟩)
        have h2 := HQ1.out
        rw [List.length_take] at h1
        omega)
      have HML := Aside0.mk (show ∀ i, (encMs (s.made.take i)).length ≤ 4000 from fun i => by
        have h1 := encMs_len (l := s.made.take i) (fun r hr => HII.out.m r (List.mem_of_mem_take hr))
        have h2 := HQ2.out
        rw [List.length_take] at h1
        omega)
      go_loopg [47] s.refs.length (fun kq v47 w' => ∃ i : Nat, v47 = .int .i64 i ∧ Aside0 (i ≤ s.refs.length ∧ kq = s.refs.length - i) ∧ Aside0 (WrAt w2.heap.size w2.heap.size w' (hd ++ encRs (s.refs.take i))) ∧ Aside0 (Below w2.heap.size w2 w'))
      case atStart => exact ⟨0, rfl, ⟨by omega, by omega⟩, ⟨by simpa [encRs] using HW4.out⟩, ⟨HBw4.out⟩⟩
      case round =>
        clear d0 d1 d2 d3 d4 d5 d6 HBw4 HW4
        obtain ⟨i, rfl, HI, HW, HB⟩ := hrel
        by_cases hlt : i < s.refs.length
        · have hcc := (HS.out.below (HBN.out _ HB.out)).hr
          obtain ⟨ad, hA, h0, h1, h2⟩ := at_T46 hcc (i : Int) (by omega) (by omega)
          subst hA
          simp only [Int.toNat_natCast] at h0 h1 h2
          have HTK := Aside0.mk (encRs_take i hlt)
          have hsz := HQ3.out _ (List.getElem_mem hlt)
          have hin := HII.out.r _ (List.getElem_mem hlt)
          rw [← ref_at i hlt] at hsz hin
          generalize rd_T46 s.refs (i : Int) = x at h0 h1 h2 HTK hsz hin
          obtain ⟨f0, f1, f2⟩ := x
          simp only at h0 h1 h2 hsz hin
          have HSZ := Aside0.mk hsz
          have HIN := Aside0.mk hin
          have HT1 := Aside0.mk (encT_len f0 (by omega))
          clear hsz hin hcc
          have hlt' : (i : Int) < (s.refs.length : Int) := by omega
          have HWI := Aside0.mk (show wrap64 ((i : Int) + 1) = ((i + 1 : Nat) : Int) by have := HQ1.out; unfold wrap64; omega)
          have HLB := Aside0.mk (show (hd ++ encRs (s.refs.take i)).length ≤ 3000 by have h1 := HLH.out; have h2 := HRL.out i; rw [List.length_append]; omega)
          generalize hbs : hd ++ encRs (s.refs.take i) = bs at HW HLB
          have HBS := Aside0.mk hbs
          clear hbs
          go_wp2_with (first | (go_at_call 31; have hq := HW6.out; clear hq; refine (wr_num1_at w2.heap.size w2.heap.size _ _ f2 _ rfl HW6.out HIN.out (by have h1 := HLB.out; have h2 := HT1.out; have h3 := HSZ.out; have h7 : (encB f1).length = 1 := rfl; simp only [List.length_append, h7]; omega)).mono ?_; rintro e w7 ⟨rfl, hw, hf⟩; have HW7 := Aside0.mk hw; have HB7 := Aside0.mk (HB6.out.trans (hf.below (HB6.out.size))); clear hw hf) | (go_at_call 32; refine (wr_flag w2.heap.size w2.heap.size _ f1 _ HW5.out (by have h1 := HLB.out; have h2 := HT1.out; have h3 := HSZ.out; simp only [List.length_append]; omega)).mono ?_; rintro e w6 ⟨rfl, hw, hf⟩; have HW6 := Aside0.mk hw; have HB6 := Aside0.mk (HB5.out.trans (hf.below (HB5.out.size))); have hv6 := hf.blk HV5.out (by decide); obtain ⟨z0, z1, z2⟩ := tri_cells hv6; clear hw hf hv6) | (go_at_call 30; refine (wr_text w2.heap.size w2.heap.size bs f0 _ (HW.out.below (below_alloc (Below.refl _ _) (.cells #[.string f0, .bool f1, .int .u64 f2] 46))) (by have := HLB.out; have := HSZ.out; omega)).mono ?_; rintro e w5 ⟨rfl, hw, hf⟩; have HW5 := Aside0.mk hw; have HB5 := Aside0.mk ((below_alloc HB.out (.cells #[.string f0, .bool f1, .int .u64 f2] 46)).trans (hf.below ((below_alloc HB.out (.cells #[.string f0, .bool f1, .int .u64 f2] 46)).size))); have hv5 := hf.blk (blk_new wr (.cells #[.string f0, .bool f1, .int .u64 f2] 46)) (by decide); have HV5 := Aside0.mk hv5; obtain ⟨y0, y1, y2⟩ := tri_cells hv5; clear hw hf hv5))
          go_roundg (s.refs.length - (i + 1))
          case measure => have := HI.out; omega
          case rel => exact ⟨i + 1, by rw [HWI.out], ⟨by omega, rfl⟩, ⟨by rw [HTK.out, ← List.append_assoc, HBS.out]; simpa [encR, List.append_assoc] using HW7.out⟩, ⟨HB7.out⟩⟩
        · have hI : i = s.refs.length := by have := HI.out; omega
          subst hI
          have hW := HW.out
          rw [List.take_length] at hW
          have HWa := Aside0.mk hW
          have hk5 := (Fr.of_below (B := 0) (T := []) HB.out).blk HK2.out (by simp)
          obtain ⟨f0, f1, f2, f3, f4, f5, f6⟩ := st_cells hk5
          have HLB := Aside0.mk (show (hd ++ encRs s.refs).length ≤ 3000 by have h1 := HLH.out; have h2 := HRL.out s.refs.length; rw [List.take_length] at h2; rw [List.length_append]; omega)
          clear hW HW hk5
          generalize hbs : hd ++ encRs s.refs = bs at HWa HLB
          have HBS := Aside0.mk hbs
          clear hbs
          go_wp2_with (go_at_call 31; refine (wr_num1_at w2.heap.size w2.heap.size _ bs (s.made.length : Int) _ rfl HWa.out HU2.out (by have := HLB.out; omega)).mono ?_; rintro e w5 ⟨rfl, hw, hf⟩; have HW5 := Aside0.mk hw; have HB5 := Aside0.mk (HB.out.trans (hf.below (HB.out.size))); have hk6 := (Fr.of_below (B := 0) (T := []) HB5.out).blk HK2.out (by simp); obtain ⟨g0, g1, g2, g3, g4, g5, g6⟩ := st_cells hk6; clear hw hf hk6)
          have HLC := Aside0.mk (show (bs ++ enc (s.made.length : Int)).length ≤ 3020 by have h1 := HLB.out; have h2 := enc_len_u64 HU2.out.1 HU2.out.2; rw [List.length_append]; omega)
          generalize hcs : bs ++ enc (s.made.length : Int) = cs at HW5 HLC
          have HCS := Aside0.mk hcs
          clear hcs f0 f1 f2 f3 f4 f5 f6 HWa HB HI
          go_loopg [75] s.made.length (fun kq v75 w' => ∃ i : Nat, v75 = .int .i64 i ∧ Aside0 (i ≤ s.made.length ∧ kq = s.made.length - i) ∧ Aside0 (WrAt w2.heap.size w2.heap.size w' (cs ++ encMs (s.made.take i))) ∧ Aside0 (Below w2.heap.size w2 w'))
          case atStart => exact ⟨0, rfl, ⟨by omega, by omega⟩, ⟨by simpa [encMs] using HW5.out⟩, ⟨HB5.out⟩⟩
          case round =>
            clear g0 g1 g2 g3 g4 g5 g6 HB5 HW5
            obtain ⟨i, rfl, HI, HW, HB⟩ := hrel
            by_cases hlt : i < s.made.length
            · have hcc := (HS.out.below (HBN.out _ HB.out)).hm
              obtain ⟨ad, hA, h0, h1⟩ := at_T48 hcc (i : Int) (by omega) (by omega)
              subst hA
              simp only [Int.toNat_natCast] at h0 h1
              have HTK := Aside0.mk (encMs_take i hlt)
              have hin := HII.out.m _ (List.getElem_mem hlt)
              rw [← made_at i hlt] at hin
              generalize rd_T48 s.made (i : Int) = x at h0 h1 HTK hin
              obtain ⟨f0, f1⟩ := x
              simp only at h0 h1 hin
              have HIN := Aside0.mk hin
              clear hin hcc
              have hlt' : (i : Int) < (s.made.length : Int) := by omega
              have HWI := Aside0.mk (show wrap64 ((i : Int) + 1) = ((i + 1 : Nat) : Int) by have := HQ2.out; unfold wrap64; omega)
              have HLD := Aside0.mk (show (cs ++ encMs (s.made.take i)).length ≤ 8000 by have h1 := HLC.out; have h2 := HML.out i; rw [List.length_append]; omega)
              generalize hbt : cs ++ encMs (s.made.take i) = bt at HW HLD
              have HBT := Aside0.mk hbt
              clear hbt
              go_wp2_with (go_at_call 31; refine (wr_num2_at w2.heap.size w2.heap.size _ bt f0 f1 _ (size_one _ _) (HW.out.below (below_alloc (Below.refl _ _) (.cells #[.int .u64 f0, .int .u64 f1] 48))) HIN.out.1 HIN.out.2 (by have := HLD.out; omega)).mono ?_; rintro e w7 ⟨rfl, hw, hf⟩; have HW7 := Aside0.mk hw; have HB7 := Aside0.mk ((below_alloc HB.out (.cells #[.int .u64 f0, .int .u64 f1] 48)).trans (hf.below ((below_alloc HB.out (.cells #[.int .u64 f0, .int .u64 f1] 48)).size))); clear hw hf)
              go_roundg (s.made.length - (i + 1))
              case measure => have := HI.out; omega
              case rel => exact ⟨i + 1, by rw [HWI.out], ⟨by omega, rfl⟩, ⟨by rw [HTK.out, ← List.append_assoc, HBT.out]; simpa [encM, List.append_assoc] using HW7.out⟩, ⟨HB7.out⟩⟩
            · have hI : i = s.made.length := by have := HI.out; omega
              subst hI
              have hW := HW.out
              rw [List.take_length] at hW
              have HWb := Aside0.mk hW
              have HLE := Aside0.mk (show (cs ++ encMs s.made).length ≤ 8000 by have h1 := HLC.out; have h2 := HML.out s.made.length; rw [List.take_length] at h2; rw [List.length_append]; omega)
              have HZ := Aside0.mk (show (cs ++ encMs s.made) ++ encT (strOfNums (putL s.cls)) = encSt s by unfold encSt; rw [← HCS.out, ← HBS.out, ← HHD.out])
              have HPN := Aside0.mk (putL_len (l := s.cls))
              have HSN := Aside0.mk (show (strOfNums (putL s.cls)).size ≤ 800000 by rw [str_size]; exact HPN.out)
              have HXN := Aside0.mk (encT_len (strOfNums (putL s.cls)) (by have := HSN.out; omega))
              have xs := Kd.C_string (P := Try.prog) (A := B2) (c := c2) Try.underlying22 Try.underlying5 Try.underlying9 (Kd.C_below HC2.out HB.out)
              have HLS := Aside0.mk (show (encSt s).length ≤ 2000000 by have h1 := HLE.out; have h2 := HXN.out; have h3 := HSN.out; rw [← HZ.out, List.length_append]; omega)
              generalize hbt : cs ++ encMs s.made = bt at HWb HLE HZ
              clear hbt hW HW
              go_wp2_with (first | (go_at_call 33; have hq := HW7.out; clear hq; refine (wr_bytes w2.heap.size w2.heap.size _ _ HW7.out (by have h1 := HLS.out; omega)).mono ?_; rintro e w8 ⟨v, rfl, hr, hb⟩; obtain ⟨A8, c8, hv8, _, _⟩ := Kd.R_reads hr; subst hv8; have HR8 := Aside0.mk (Kd.R_lower hr HB7.out.size); have HB8 := Aside0.mk (below_step HB7.out hb); clear hr hb) | (go_at_call 30; refine (wr_text w2.heap.size w2.heap.size bt (strOfNums (putL s.cls)) _ HWb.out (by have h1 := HLE.out; have h2 := HSN.out; omega)).mono ?_; rintro e w7 ⟨rfl, hw, hf⟩; rw [HZ.out] at hw; have HW7 := Aside0.mk hw; have HB7 := Aside0.mk (HB.out.trans (hf.below (HB.out.size))); clear hw hf))
              go_ret2
              refine ⟨_, by rw [HP.out]; rfl, ?_, below_step HB2.out HB8.out⟩
              rw [HPL.out]
              exact Kd.R_lower HR8.out HB2.out.size
    · have HP := Aside0.mk (show putSE s = 150 by unfold putSE; rw [if_pos HE.out, if_neg hp])
      have HPL := Aside0.mk (show putSL s = [] by unfold putSL; rw [HP.out]; rfl)
      have hp' : (putE s.cls != 0) = true := bne_iff_ne.mpr hp
      clear q1 q2 q3 q4 hp
      go_enter Try.func9, Try.ntmps9
      go_wp2_with (first | (go_at_call 29; refine (putB C o s.cls _ (HS.out.below HB1.out).hc HCX.out).mono ?_; rintro e w2 ⟨B2, c2, rfl, hn2, hC2, hb⟩; have HB2 := Aside0.mk (below_step HB1.out hb); clear hb hn2 hC2) | (go_at_call 19; refine (right17_calls _ (HS.out.below HB0.out)).mono ?_; rw [HE.out]; rintro e w1 ⟨rfl, hb⟩; have HB1 := Aside0.mk (below_step HB0.out hb); have hk1 := (Fr.of_below (B := 0) (T := []) hb).blk HK0.out (by simp); have HK1 := Aside0.mk hk1; obtain ⟨a0, a1, a2, a3, a4, a5, a6⟩ := st_cells hk1; clear hb hk1))
      go_ret2
      refine ⟨.slice none 0 0, by rw [HP.out]; rfl, ?_, HB2.out⟩
      rw [HPL.out]
      exact Kd.R_nil _ _ _ _ _
  · have HE := Aside0.mk he
    have HP := Aside0.mk (show putSE s = 150 by unfold putSE; rw [if_neg (by rw [he]; decide)])
    have HPL := Aside0.mk (show putSL s = [] by unfold putSL; rw [HP.out]; rfl)
    clear he
    go_enter Try.func9, Try.ntmps9
    go_wp2_with ((go_at_call 19; refine (right17_calls _ (HS.out.below HB0.out)).mono ?_; rw [HE.out]; rintro e w1 ⟨rfl, hb⟩; have HB1 := Aside0.mk (below_step HB0.out hb); have hk1 := (Fr.of_below (B := 0) (T := []) hb).blk HK0.out (by simp); have HK1 := Aside0.mk hk1; obtain ⟨a0, a1, a2, a3, a4, a5, a6⟩ := st_cells hk1; clear hb hk1))
    go_ret2
    refine ⟨.slice none 0 0, by rw [HP.out]; rfl, ?_, HB1.out⟩
    rw [HPL.out]
    exact Kd.R_nil _ _ _ _ _
end Go.Proofs.Ytabfjjcbceibpaa.Sep
namespace Go.Proofs.Ytabfjjcbceibpaa.Sep
set_option linter.unusedSimpArgs false
set_option linter.unusedVariables false
open Go.RowKit Go.Proofs.Ytabfjjcbceibpaa.PCore Go.Proofs.Ytabfjjcbceibpaa.Plain Go.Proofs.YtabfjjcbceibpaaW.PrintWords Go.Proofs.YtabfjjcbceibpaaW.PrintLast Go.Proofs.YtabfjjcbceibpaaW.PrintMore
open Go.Proofs.Ytabfjjcbceibpaa.PDat (S74 k74 S46 k46 z46 k46_mkM rd_T46 at_T46 S48 k48 z48 k48_mkM rd_T48 at_T48)
abbrev M64 : Int := 18446744073709551615
def rdMany {α : Type} (f : RS → α × RS) : Nat → RS → List α × RS
  | 0, s => ([], s)
  | n + 1, s => ((f s).1 :: (rdMany f n (f s).2).1, (rdMany f n (f s).2).2)
theorem many_len {α : Type} (f : RS → α × RS) : ∀ (n : Nat) (s : RS), (rdMany f n s).1.length = n
  | 0, s => rfl
  | n + 1, s => by simp [rdMany, many_len f n]
theorem many_fine {α : Type} (f : RS → α × RS) (hf : ∀ s, Fine s → Fine (f s).2) : ∀ (n : Nat) {s : RS}, Fine s → Fine (rdMany f n s).2
  | 0, s, h => h
  | n + 1, s, h => many_fine f hf n (hf s h)
theorem many_snoc {α : Type} (f : RS → α × RS) (j : Nat) (s s0 : RS) (xs : List α) (N : Nat) (h : rdMany f N s0 = (xs ++ (rdMany f (j + 1) s).1, (rdMany f (j + 1) s).2)) : rdMany f N s0 = ((xs ++ [(f s).1]) ++ (rdMany f j (f s).2).1, (rdMany f j (f s).2).2) := by
  rw [h]
  simp [rdMany]
theorem many_bad {α : Type} (f : RS → α × RS) (hf : ∀ s, s.2 = true → (f s).2.2 = true) : ∀ (n : Nat) {s : RS}, s.2 = true → (rdMany f n s).2.2 = true
  | 0, s, h => h
  | n + 1, s, h => many_bad f hf n (hf s h)
theorem many_enc {α : Type} (f : RS → α × RS) (en : α → List Int) (r : List Int) : ∀ (l : List α), (∀ x ∈ l, ∀ r, f (en x ++ r, false) = (x, (r, false))) → rdMany f l.length ((l.map en).flatten ++ r, false) = (l, (r, false))
  | [], _ => rfl
  | x :: l, h => by
    have e : ((x :: l).map en).flatten ++ r = en x ++ ((l.map en).flatten ++ r) := by simp
    rw [e]
    simp only [List.length_cons, rdMany]
    rw [h x (by simp)]
    simp only
    rw [many_enc f en r l (fun y hy => h y (by simp [hy]))]
theorem many_of {α : Type} (f : RS → α × RS) (en : α → List Int) (hf : ∀ s, Fine s → Fine (f s).2) (ho : ∀ s, Fine s → (f s).2.2 = false → s.2 = false ∧ s.1 = en (f s).1 ++ (f s).2.1) :
    ∀ (n : Nat) {s : RS}, Fine s → (rdMany f n s).2.2 = false → s.2 = false ∧ s.1 = ((rdMany f n s).1.map en).flatten ++ (rdMany f n s).2.1
  | 0, s, _, h => ⟨h, by simp [rdMany]⟩
  | n + 1, s, hb, h => by
    obtain ⟨a1, a2⟩ := many_of f en hf ho n (hf s hb) h
    obtain ⟨b1, b2⟩ := ho s hb a1
    refine ⟨b1, ?_⟩
    rw [a2] at b2
    rw [b2]
    simp [rdMany]
/-- Reading a reference, a commit. -/
def rdR (s : RS) : Ref × RS := (⟨(rdText 20 s).1, (rdFlag (rdText 20 s).2).1, (rdNum M64 (rdFlag (rdText 20 s).2).2).1⟩, (rdNum M64 (rdFlag (rdText 20 s).2).2).2)
def rdM (s : RS) : Made × RS := (⟨(rdNum M64 s).1, (rdNum M64 (rdNum M64 s).2).1⟩, (rdNum M64 (rdNum M64 s).2).2)
theorem fine_R (s : RS) (h : Fine s) : Fine (rdR s).2 := fine_num (fine_flag (fine_text h 20)) M64
theorem fine_M (s : RS) (h : Fine s) : Fine (rdM s).2 := fine_num (fine_num h M64) M64
def zeroS : St := ⟨⟨#[]⟩, 0, 0, 0, [], [], []⟩
/-- What is read ahead of the clashes, and the clashes' bytes. -/
def rdSt (b : List Int) : St × ByteArray × RS :=
  let h := rdText 20 (b, false)
  let w := rdNum M64 h.2
  let n := rdNum M64 w.2
  let p := rdNum M64 n.2
  let k := rdNum 40 p.2
  let rs := rdMany rdR k.1.toNat k.2
  let j := rdNum 200 rs.2
  let ms := rdMany rdM j.1.toNat j.2
  let t := rdText 1048576 ms.2
  (⟨h.1, w.1, n.1, p.1, rs.1, ms.1, []⟩, t.1, t.2)
def withC (s : St) (l : List Clash) : St := ⟨s.head, s.work, s.next, s.pend, s.refs, s.made, l⟩
/-- The state that any bytes are. -/
def ofS (b : List Int) : St × Int :=
  if (ofK (bytesOf (rdSt b).2.1)).2 = 0 ∧ rdDone (rdSt b).2.2 = true ∧ stateE (withC (rdSt b).1 (ofK (bytesOf (rdSt b).2.1)).1) = 0 then (withC (rdSt b).1 (ofK (bytesOf (rdSt b).2.1)).1, 0) else (zeroS, 20)
theorem ref_E {T : List Nat} (h : 46 ∉ T) : ∀ q, q ∈ 46 :: (k46).E → q ∉ T := fun q hq => by
  have e : q = 46 := by simpa [k46, Kd.iso, Kd.pair, Kd.int, Kd.scalar, Kd.string, Kd.bool] using hq
  rw [e]
  exact h
theorem made_E {T : List Nat} (h : 48 ∉ T) : ∀ q, q ∈ 48 :: (k48).E → q ∉ T := fun q hq => by
  have e : q = 48 := by simpa [k48, Kd.iso, Kd.pair, Kd.int, Kd.scalar, Kd.string, Kd.bool] using hq
  rw [e]
  exact h
theorem st_E {T : List Nat} (h1 : 46 ∉ T) : ∀ q, q ∈ 46 :: (k46).E → q ∉ T := ref_E h1
abbrev zeroSC : Array Value := #[.string ⟨#[]⟩, .int .u64 0, .int .u64 0, .int .u64 0, .slice none 0 0, .slice none 0 0, .slice none 0 0]
/-- Where reading a state stands: the reader (type T, block g), the state's variable (block C); the blocks that K keeps are those of the lists. -/
structure SvSt (T : Nat) (K : Nat → Prop) (W0 : World) (g C : Nat) (w : World) (s : RS) (hd : ByteArray) (x1 x2 x3 : Int) (vr vm vc : Value) (rs : List Ref) (ms : List Made) : Prop where
  rd : RdAt T W0.heap.size g w s
  bC : w.heap[C]? = some (.cells #[.string hd, .int .u64 x1, .int .u64 x2, .int .u64 x3, vr, vm, vc] 29 (0, 0))
  hr : Kd.R k46 46 w W0.heap.size K vr rs
  hm : Kd.R k48 48 w W0.heap.size K vm ms
  bR : w.heap[W0.heap.size]? = some (.cells zeroSC 29 (0, 0))
  lt : W0.heap.size < C
  bel : Below W0.heap.size W0 w
section
variable {T : Nat} {K : Nat → Prop} {W0 : World} {g C X t : Nat} {w w1 : World} {s s' : RS} {hd : ByteArray} {x1 x2 x3 : Int} {vr vm vc : Value} {rs : List Ref} {ms : List Made} {a : Array Value}
theorem SvSt.fr (h : SvSt T K W0 g C w s hd x1 x2 x3 vr vm vc rs ms) (hr : RdAt T W0.heap.size g w1 s') (hf : Fr W0.heap.size [T] w w1) (hT : 29 ∉ [T] ∧ 46 ∉ [T] ∧ 48 ∉ [T]) : SvSt T K W0 g C w1 s' hd x1 x2 x3 vr vm vc rs ms :=
  ⟨hr, hf.blk h.bC hT.1, hf.R h.hr (ref_E hT.2.1), hf.R h.hm (made_E hT.2.2), hf.blk h.bR hT.1, h.lt, h.bel.trans (hf.below h.bel.size)⟩
theorem SvSt.below (h : SvSt T K W0 g C w s hd x1 x2 x3 vr vm vc rs ms) (hb : Below w.heap.size w w1) : SvSt T K W0 g C w1 s hd x1 x2 x3 vr vm vc rs ms :=
  ⟨h.rd.below hb, (Fr.of_below (B := 0) (T := []) hb).blk h.bC (by simp), Kd.R_below h.hr hb, Kd.R_below h.hm hb, (Fr.of_below (B := 0) (T := []) hb).blk h.bR (by simp), h.lt, below_step h.bel hb⟩
theorem SvSt.loose (h : SvSt T K W0 g C w s hd x1 x2 x3 vr vm vc rs ms) : SvSt T (fun _ => True) W0 g C w s hd x1 x2 x3 vr vm vc rs ms :=
  ⟨h.rd, h.bC, Kd.R_mono h.hr (fun _ _ => trivial), Kd.R_mono h.hm (fun _ _ => trivial), h.bR, h.lt, h.bel⟩
/-- A variable is made. -/
theorem SvSt.newX (h : SvSt T (fun _ => True) W0 g C w s hd x1 x2 x3 vr vm vc rs ms) (a : Array Value) (t : Nat) : SvSt T (fun k => k ≠ w.heap.size) W0 g C (w.alloc (.cells a t)) s hd x1 x2 x3 vr vm vc rs ms :=
  ⟨h.rd.below (below_alloc (Below.refl _ _) _), blk_alloc h.bC _, Kd.R_alloc (Kd.R_mono (Kd.R_bound h.hr) (fun k hk => Nat.ne_of_lt hk.2.2.1)) _, Kd.R_alloc (Kd.R_mono (Kd.R_bound h.hm) (fun k hk => Nat.ne_of_lt hk.2.2.1)) _, blk_alloc h.bR _, h.lt, below_alloc h.bel _⟩
/-- A variable is stored to. -/
theorem SvSt.setX (h : SvSt T (fun k => k ≠ X) W0 g C w s hd x1 x2 x3 vr vm vc rs ms) (hx : w.heap[X]? = some (.cells a t (0, 0))) (hle : W0.heap.size ≤ X) (ht : t ≠ T ∧ t ≠ 5 ∧ t ≠ 29) (j : Nat) (u : Value) :
    SvSt T (fun k => k ≠ X) W0 g C (w.setCell ⟨X, j, none⟩ u) s hd x1 x2 x3 vr vm vc rs ms ∧ (w.setCell ⟨X, j, none⟩ u).heap[X]? = some (.cells (a.setIfInBounds j u) t (0, 0)) := by
  have hF := (Fr.refl W0.heap.size [t] w).set hx hle (by simp) j u
  exact ⟨⟨h.rd.fr hF ⟨by simp; exact fun e => ht.1 e.symm, by simp; exact fun e => ht.2.1 e.symm⟩, hF.blk h.bC (by simp; exact fun e => ht.2.2 e.symm), Kd.R_far h.hr (p := ⟨X, j, none⟩) (fun k hk => hk) u, Kd.R_far h.hm (p := ⟨X, j, none⟩) (fun k hk => hk) u, hF.blk h.bR (by simp; exact fun e => ht.2.2 e.symm), h.lt, h.bel.trans (hF.below h.bel.size)⟩, blk_set hx j u⟩
theorem SvSt.setC (h : SvSt T K W0 g C w s hd x1 x2 x3 vr vm vc rs ms) (hT : 29 ≠ T) (j : Nat) (u : Value) {y1 y2 y3 : Int} {uc : Value} (hc : (#[.string hd, .int .u64 x1, .int .u64 x2, .int .u64 x3, vr, vm, vc] : Array Value).setIfInBounds j u = #[.string hd, .int .u64 y1, .int .u64 y2, .int .u64 y3, vr, vm, uc]) :
    SvSt T K W0 g C (w.setCell ⟨C, j, none⟩ u) s hd y1 y2 y3 vr vm uc rs ms := by
  have hF := (Fr.refl W0.heap.size [29] w).set h.bC (Nat.le_of_lt h.lt) (by simp) j u
  refine ⟨h.rd.fr hF ⟨by simp; exact fun e => hT e.symm, by decide⟩, ?_, Kd.R_set h.hr h.bC (fun q hq e => ref_E (T := [29]) (by decide) q hq (by rw [e]; simp)) j u, Kd.R_set h.hm h.bC (fun q hq e => made_E (T := [29]) (by decide) q hq (by rw [e]; simp)) j u, blk_far h.bR (p := ⟨C, j, none⟩) (show W0.heap.size ≠ C from Nat.ne_of_lt h.lt) u, h.lt, h.bel.trans (hF.below h.bel.size)⟩
  have := blk_set h.bC j u
  rw [hc] at this
  exact this
theorem SvSt.set1 (h : SvSt T K W0 g C w s hd x1 x2 x3 vr vm vc rs ms) (hT : 29 ≠ T) (y : Int) : SvSt T K W0 g C (w.setCell ⟨C, 1, none⟩ (.int .u64 y)) s hd y x2 x3 vr vm vc rs ms := h.setC hT 1 _ rfl
theorem SvSt.set2 (h : SvSt T K W0 g C w s hd x1 x2 x3 vr vm vc rs ms) (hT : 29 ≠ T) (y : Int) : SvSt T K W0 g C (w.setCell ⟨C, 2, none⟩ (.int .u64 y)) s hd x1 y x3 vr vm vc rs ms := h.setC hT 2 _ rfl
theorem SvSt.set3 (h : SvSt T K W0 g C w s hd x1 x2 x3 vr vm vc rs ms) (hT : 29 ≠ T) (y : Int) : SvSt T K W0 g C (w.setCell ⟨C, 3, none⟩ (.int .u64 y)) s hd x1 x2 y vr vm vc rs ms := h.setC hT 3 _ rfl
theorem SvSt.set6 (h : SvSt T K W0 g C w s hd x1 x2 x3 vr vm vc rs ms) (hT : 29 ≠ T) (u : Value) : SvSt T K W0 g C (w.setCell ⟨C, 6, none⟩ u) s hd x1 x2 x3 vr vm u rs ms := h.setC hT 6 _ rfl
/-- A reference is appended. -/
theorem SvSt.moreR (h : SvSt T K W0 g C w s hd x1 x2 x3 vr vm vc rs ms) (hT : T ≠ 46) {v1 : Value} {rs1 : List Ref} (ho : Kd.R k46 46 w1 W0.heap.size K v1 rs1) (hf : Fr W0.heap.size [46] w w1) (hb : Below W0.heap.size W0 w1) :
    RdAt T W0.heap.size g w1 s ∧ w1.heap[C]? = some (.cells #[.string hd, .int .u64 x1, .int .u64 x2, .int .u64 x3, vr, vm, vc] 29 (0, 0)) ∧ Kd.R k48 48 w1 W0.heap.size K vm ms ∧ w1.heap[W0.heap.size]? = some (.cells zeroSC 29 (0, 0)) :=
  ⟨h.rd.fr hf ⟨by simp; exact hT, by decide⟩, hf.blk h.bC (by decide), hf.R h.hm (made_E (by decide)), hf.blk h.bR (by decide)⟩
theorem SvSt.pushR (h : SvSt T K W0 g C w s hd x1 x2 x3 vr vm vc rs ms) (hT : 29 ≠ T ∧ T ≠ 46) {v1 : Value} {rs1 : List Ref} (ho : Kd.R k46 46 w1 W0.heap.size K v1 rs1) (hf : Fr W0.heap.size [46] w w1) (hb : Below W0.heap.size W0 w1) :
    SvSt T K W0 g C (w1.setCell ⟨C, 4, none⟩ v1) s hd x1 x2 x3 v1 vm vc rs1 ms := by
  obtain ⟨r1, b1, k1, z1⟩ := h.moreR hT.2 ho hf hb
  have hF := (Fr.refl W0.heap.size [29] w1).set b1 (Nat.le_of_lt h.lt) (by simp) 4 v1
  exact ⟨r1.fr hF ⟨by simp; exact fun e => hT.1 e.symm, by decide⟩, blk_set b1 4 v1, Kd.R_set ho b1 (fun q hq e => ref_E (T := [29]) (by decide) q hq (by rw [e]; simp)) 4 v1, Kd.R_set k1 b1 (fun q hq e => made_E (T := [29]) (by decide) q hq (by rw [e]; simp)) 4 v1, blk_far z1 (p := ⟨C, 4, none⟩) (show W0.heap.size ≠ C from Nat.ne_of_lt h.lt) v1, h.lt, hb.trans (hF.below hb.size)⟩
/-- A commit is appended. -/
theorem SvSt.moreM (h : SvSt T K W0 g C w s hd x1 x2 x3 vr vm vc rs ms) (hT : T ≠ 48) {v1 : Value} {ms1 : List Made} (ho : Kd.R k48 48 w1 W0.heap.size K v1 ms1) (hf : Fr W0.heap.size [48] w w1) (hb : Below W0.heap.size W0 w1) :
    RdAt T W0.heap.size g w1 s ∧ w1.heap[C]? = some (.cells #[.string hd, .int .u64 x1, .int .u64 x2, .int .u64 x3, vr, vm, vc] 29 (0, 0)) ∧ Kd.R k46 46 w1 W0.heap.size K vr rs ∧ w1.heap[W0.heap.size]? = some (.cells zeroSC 29 (0, 0)) :=
  ⟨h.rd.fr hf ⟨by simp; exact hT, by decide⟩, hf.blk h.bC (by decide), hf.R h.hr (ref_E (by decide)), hf.blk h.bR (by decide)⟩
theorem SvSt.pushM (h : SvSt T K W0 g C w s hd x1 x2 x3 vr vm vc rs ms) (hT : 29 ≠ T ∧ T ≠ 48) {v1 : Value} {ms1 : List Made} (ho : Kd.R k48 48 w1 W0.heap.size K v1 ms1) (hf : Fr W0.heap.size [48] w w1) (hb : Below W0.heap.size W0 w1) :
    SvSt T K W0 g C (w1.setCell ⟨C, 5, none⟩ v1) s hd x1 x2 x3 vr v1 vc rs ms1 := by
  obtain ⟨r1, b1, k1, z1⟩ := h.moreM hT.2 ho hf hb
  have hF := (Fr.refl W0.heap.size [29] w1).set b1 (Nat.le_of_lt h.lt) (by simp) 5 v1
  exact ⟨r1.fr hF ⟨by simp; exact fun e => hT.1 e.symm, by decide⟩, blk_set b1 5 v1, Kd.R_set k1 b1 (fun q hq e => ref_E (T := [29]) (by decide) q hq (by rw [e]; simp)) 5 v1, Kd.R_set ho b1 (fun q hq e => made_E (T := [29]) (by decide) q hq (by rw [e]; simp)) 5 v1, blk_far z1 (p := ⟨C, 5, none⟩) (show W0.heap.size ≠ C from Nat.ne_of_lt h.lt) v1, h.lt, hb.trans (hF.below hb.size)⟩
theorem SvSt.c (h : SvSt T K W0 g C w s hd x1 x2 x3 vr vm vc rs ms) : w.cell? ⟨C, 0, none⟩ = some (.string hd) ∧ w.cell? ⟨C, 1, none⟩ = some (.int .u64 x1) ∧ w.cell? ⟨C, 2, none⟩ = some (.int .u64 x2) ∧ w.cell? ⟨C, 3, none⟩ = some (.int .u64 x3) ∧ w.cell? ⟨C, 4, none⟩ = some vr ∧ w.cell? ⟨C, 5, none⟩ = some vm ∧ w.cell? ⟨C, 6, none⟩ = some vc := st_cells h.bC
theorem SvSt.z (h : SvSt T K W0 g C w s hd x1 x2 x3 vr vm vc rs ms) (j : Nat) : w.frozen? ⟨C, j, none⟩ = false := blk_frozen h.bC j
end
/-- What holds of the lists that were read. -/
theorem rdR_in {s : RS} (h : Fine s) : 0 ≤ (rdR s).1.f2 ∧ (rdR s).1.f2 < 18446744073709551616 := by
  have := num_in (fine_flag (fine_text h 20)) M64 (by decide)
  exact ⟨this.1, this.2.2⟩
theorem rdM_in {s : RS} (h : Fine s) : (0 ≤ (rdM s).1.f0 ∧ (rdM s).1.f0 < 18446744073709551616) ∧ (0 ≤ (rdM s).1.f1 ∧ (rdM s).1.f1 < 18446744073709551616) := by
  have h1 := num_in h M64 (by decide)
  have h2 := num_in (fine_num h M64) M64 (by decide)
  exact ⟨⟨h1.1, h1.2.2⟩, ⟨h2.1, h2.2.2⟩⟩
/-- A text that was read is no longer than what was there. -/
theorem text_size {s : RS} (h : Fine s) (most : Int) : (rdText most s).1.size ≤ 1000000 := by
  unfold rdText
  split
  · simp [ByteArray.size]
  · simp only
    split
    · simp [ByteArray.size]
    · split
      · simp [ByteArray.size]
      · rw [str_size]
        have := (fine_num h most).2.1
        rw [List.length_take]
        omega
theorem bytes_C (W : World) (s : ByteArray) (hs : s.size ≤ 9223372036854775807) : Kd.C (Kd.int .u8) (Lib.bytesWorld W 5 s) (some ⟨W.heap.size, 0, none⟩) (bytesOf s).length (bytesOf s) := by
  have h := bytes_reads W 5 s hs
  rw [← bytesOf_length] at h
  exact Kd.C_of_reads (d := (0 : Int)) (h1 := fun _ => rfl) h
theorem bytes_fine (t : ByteArray) (h : t.size ≤ 1000000) : Fine (bytesOf t, false) := by
  refine ⟨fun x hx => ?_, by rw [bytesOf_length]; exact h, fun h => by cases h⟩
  simp only [bytesOf, List.mem_map] at hx
  obtain ⟨b, _, rfl⟩ := hx
  have := b.toNat_lt
  omega
/-- Clashes told of a text. -/
theorem ofT (t : ByteArray) (w : World) (cap : Nat) (ls : List Clash) (r : Int) (h : ofK (bytesOf t) = (ls, r)) (ht : t.size ≤ 1000000) :
    Calls Try.prog 17 #[.slice (some ⟨w.heap.size, 0, none⟩) t.size cap] (Lib.bytesWorld w 5 t) fun e W1 => ∃ v, e = .returned (.tuple #[v, .int .i64 r]) ∧ Kd.R k74 74 W1 w.heap.size (fun _ => True) v ls ∧ Below w.heap.size w W1 := by
  have h1 := of13_calls (some ⟨w.heap.size, 0, none⟩) cap (bytesOf t) (Lib.bytesWorld w 5 t) (bytes_C w t (by omega)) (bytes_fine t ht)
  rw [bytesOf_length, h] at h1
  have hb := bytes_below (Below.refl w.heap.size w) (Nat.le_refl _) 5 t
  exact h1.mono fun e W1 ⟨v, he, hR, hb1⟩ => ⟨v, he, Kd.R_lower hR hb.size, below_step hb hb1⟩
theorem sev_set {B n t : Nat} {w1 : World} {a0 a1 a2 a3 a4 a5 a6 : Value} (hk : w1.heap[n]? = some (.cells #[a0, a1, a2, a3, a4, a5, a6] t (0, 0))) (hB : B ≤ n) (v0 v1 v2 v3 v4 v5 v6 : Value) :
    (((((((w1.setCell ⟨n, 0, none⟩ v0).setCell ⟨n, 1, none⟩ v1).setCell ⟨n, 2, none⟩ v2).setCell ⟨n, 3, none⟩ v3).setCell ⟨n, 4, none⟩ v4).setCell ⟨n, 5, none⟩ v5).setCell ⟨n, 6, none⟩ v6).heap[n]? = some (.cells #[v0, v1, v2, v3, v4, v5, v6] t (0, 0)) ∧
    Fr B [t] w1 (((((((w1.setCell ⟨n, 0, none⟩ v0).setCell ⟨n, 1, none⟩ v1).setCell ⟨n, 2, none⟩ v2).setCell ⟨n, 3, none⟩ v3).setCell ⟨n, 4, none⟩ v4).setCell ⟨n, 5, none⟩ v5).setCell ⟨n, 6, none⟩ v6) := by
  have h0 := blk_set hk 0 v0
  have h1 := blk_set h0 1 v1
  have h2 := blk_set h1 2 v2
  have h3 := blk_set h2 3 v3
  have h4 := blk_set h3 4 v4
  have h5 := blk_set h4 5 v5
  have h6 := blk_set h5 6 v6
  exact ⟨by simpa using h6, ((((((((Fr.refl B [t] w1).set hk hB (by simp) 0 v0).set hk hB (by simp) 1 v1).set hk hB (by simp) 2 v2).set hk hB (by simp) 3 v3).set hk hB (by simp) 4 v4).set hk hB (by simp) 5 v5).set hk hB (by simp) 6 v6)⟩
theorem SvSt.r {T : Nat} {K : Nat → Prop} {W0 : World} {g C : Nat} {w : World} {s : RS} {hd : ByteArray} {x1 x2 x3 : Int} {vr vm vc : Value} {rs : List Ref} {ms : List Made} (h : SvSt T K W0 g C w s hd x1 x2 x3 vr vm vc rs ms) : w.cell? ⟨W0.heap.size, 0, none⟩ = some (.string ⟨#[]⟩) ∧ w.cell? ⟨W0.heap.size, 1, none⟩ = some (.int .u64 0) ∧ w.cell? ⟨W0.heap.size, 2, none⟩ = some (.int .u64 0) ∧ w.cell? ⟨W0.heap.size, 3, none⟩ = some (.int .u64 0) ∧ w.cell? ⟨W0.heap.size, 4, none⟩ = some (.slice none 0 0) ∧ w.cell? ⟨W0.heap.size, 5, none⟩ = some (.slice none 0 0) ∧ w.cell? ⟨W0.heap.size, 6, none⟩ = some (.slice none 0 0) := st_cells h.bR
theorem SvSt.y {T : Nat} {K : Nat → Prop} {W0 : World} {g C : Nat} {w : World} {s : RS} {hd : ByteArray} {x1 x2 x3 : Int} {vr vm vc : Value} {rs : List Ref} {ms : List Made} (h : SvSt T K W0 g C w s hd x1 x2 x3 vr vm vc rs ms) (j : Nat) : w.frozen? ⟨W0.heap.size, j, none⟩ = false := blk_frozen h.bR j
end Go.Proofs.Ytabfjjcbceibpaa.Sep
