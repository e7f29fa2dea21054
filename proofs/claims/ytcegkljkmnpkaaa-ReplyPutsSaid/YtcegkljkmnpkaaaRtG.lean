/- The walk of the reference's PutReply. Printed by gen17.py. Conditions: the bounds of the statements. · The reference's reading of answers: a row's reading stops at the first fault; the walks of its side and commit. Printed by gen18.py. Conditions: the bounds of the statements. · The walk of the reference's ReplyOf. Printed by gen19.py. Conditions: the bounds of the statements. · The walk of the law ReplyPuts. Printed by gen21.py. Conditions: none beyond the statement's own. -/
import Derived.Test.YtcegkljkmnpkaaaRqB
import Derived.Test.YtcegkljkmnpkaaaRtE
import Derived.Test.YtcegkljkmnpkaaaRefReader
import Derived.Deep.CutBlock
import Derived.Test.YtcegkljkmnpkaaaRtD
namespace Go.Proofs.Ytcegkljkmnpkaaa.Sep
set_option linter.unusedSimpArgs false
set_option linter.unusedVariables false
open Go.RowKit Go.Proofs.Ytcegkljkmnpkaaa.PCore Go.Proofs.Ytcegkljkmnpkaaa.Plain Go.Proofs.YtcegkljkmnpkaaaW.PrintWords Go.Proofs.YtcegkljkmnpkaaaW.PrintLast Go.Proofs.YtcegkljkmnpkaaaW.PrintMore
open Go.Proofs.Ytcegkljkmnpkaaa.PDat (S53 S47 S57 S59 S62 k53 k47 k57 k59 k62 at_T53 at_T47 at_T59 at_T62 rd_T53 rd_T47 rd_T59 rd_T62)
structure KeyBox (A : Prop) : Prop where
  out : A
theorem key_trick {A B : Prop} (f : KeyBox A → B) (a : A) : B := f ⟨a⟩
theorem rzig_same0 (a0 r : Int) (w : World) (h : apographref01_Zig.f a0 = some r) : Calls Try.prog 72 #[.int .i64 a0] w fun e w' => e = .returned (.int .u64 r) ∧ w' = w := by
  have H := h
  clear h
  unfold apographref01_Zig.f at H
  by_cases c2 : a0 ≥ 0
  · rw [if_pos c2] at H
    obtain rfl := Option.some.inj H
    have c2b0 : decide (0 ≤ a0) = true := decide_eq_true (by omega)
    clear c2 H
    go_enter Try.func72, Try.ntmps72
    go_wp2
    go_ret
    exact ⟨by first | rfl | (simp; done) | (simp [*]; done), rfl⟩
  · rw [if_neg c2] at H
    obtain rfl := Option.some.inj H
    have c2b0 : decide (0 ≤ a0) = false := decide_eq_false (by omega)
    clear c2 H
    go_enter Try.func72, Try.ntmps72
    go_wp2
    go_ret
    exact ⟨by first | rfl | (simp; done) | (simp [*]; done), rfl⟩
theorem rzig_same (n : Int) (h : I64 n) (w : World) : Calls Try.prog 72 #[.int .i64 n] w fun e w' => e = .returned (.int .u64 (zig n)) ∧ w' = w := rzig_same0 n (zig n) w (zig_ref h)
theorem six_cells {w : World} {g t : Nat} {a b c d e f : Value} (hk : w.heap[g]? = some (.cells #[a, b, c, d, e, f] t (0, 0))) :
    w.cell? ⟨g, 0, none⟩ = some a ∧ w.cell? ⟨g, 1, none⟩ = some b ∧ w.cell? ⟨g, 2, none⟩ = some c ∧ w.cell? ⟨g, 3, none⟩ = some d ∧ w.cell? ⟨g, 4, none⟩ = some e ∧ w.cell? ⟨g, 5, none⟩ = some f :=
  ⟨(blk_cell hk 0).trans rfl, (blk_cell hk 1).trans rfl, (blk_cell hk 2).trans rfl, (blk_cell hk 3).trans rfl, (blk_cell hk 4).trans rfl, (blk_cell hk 5).trans rfl⟩
theorem rd_mem (ps : List Int) (i : Nat) (h : i < ps.length) : rd ps (i : Int) ∈ ps := by
  rw [rd_nat ps i h]
  exact List.getElem_mem h
theorem encs_take (ps : List Int) (i : Nat) (h : i < ps.length) : encs (ps.take (i + 1)) = encs (ps.take i) ++ enc (rd ps (i : Int)) := by
  rw [take_one ps i h, Plain.encs_append, rd_nat ps i h, encs_cons, encs_nil, List.append_nil]
theorem encs_part (ps : List Int) (i : Nat) (h : i < ps.length) : (encs (ps.take i)).length + (enc (rd ps (i : Int))).length ≤ (encs ps).length := by
  have h1 : encs ps = encs (ps.take (i + 1)) ++ encs (ps.drop (i + 1)) := by rw [← Plain.encs_append, List.take_append_drop]
  rw [h1, encs_take ps i h, List.length_append, List.length_append]
  omega
set_option maxHeartbeats 128000000 in
set_option maxRecDepth 100000 in
theorem rput20_calls (r : Rp) (A1 : Option Addr) (n1 : Nat) (A2 : Option Addr) (n2 : Nat) (A3 : Option Addr) (n3 : Nat) (A4 : Option Addr) (n4 : Nat) (A5 : Option Addr) (n5 : Nat) (W : World) (h : RpC W r A1 n1 A2 n2 A3 n3 A4 n4 A5 n5) (hI : RpIn r) (hlim : (encRp r).length ≤ 1000000) :
    Calls Try.prog 14 #[.agg (rpV r A1 n1 A2 n2 A3 n3 A4 n4 A5 n5)] W fun e W1 => ∃ v, e = .returned v ∧ Kd.R (Kd.int .u8) 5 W1 W.heap.size (fun _ => True) v (encRp r) ∧ Below W.heap.size W W1 := by
  obtain ⟨err, is, val, id, n, es, chs, cls, coms, refs⟩ := r
  have huR := Try.underlying30
  have huE := Try.underlying53
  have huC := Try.underlying47
  have huL := Try.underlying59
  have huS := Try.underlying57
  have huO := Try.underlying44
  have huF := Try.underlying62
  have HC := Aside0.mk h
  have HI := Aside0.mk (show U64 id ∧ I64 n ∧ I64 err ∧ (∀ c ∈ coms, ComIn c) ∧ (∀ x ∈ refs, U64 x.f2) from hI)
  have HL := Aside0.mk (show (enc (errU err)).length + ((encB is).length + ((encT val).length + ((enc id).length + ((enc (zig n)).length + (((enc (es.length : Int)).length + (encMany encE es).length) + (((enc (chs.length : Int)).length + (encMany encCh chs).length) + (((enc (cls.length : Int)).length + (encMany encCl cls).length) + (((enc (coms.length : Int)).length + (encMany encCo coms).length) + ((enc (refs.length : Int)).length + (encMany encRf refs).length))))))))) ≤ 1000000 by have h := hlim; simp only [encRp, encLs, List.length_append] at h; omega)
  have hce : IntKind.u64.wrap err = errU err := by rw [IntKind.wrap_u64]; rfl
  have HEU := Aside0.mk (errU_in err)
  have HZU := Aside0.mk (zig_in HI.out.2.1)
  have HG := Aside0.mk (blk_new W (.cells #[.int .i64 err, .bool is, .string val, .int .u64 id, .int .i64 n, .slice A1 es.length n1, .slice A2 chs.length n2, .slice A3 cls.length n3, .slice A4 coms.length n4, .slice A5 refs.length n5] 30))
  have HB := Aside0.mk (below_alloc (Below.refl W.heap.size W) (.cells #[.int .i64 err, .bool is, .string val, .int .u64 id, .int .i64 n, .slice A1 es.length n1, .slice A2 chs.length n2, .slice A3 cls.length n3, .slice A4 coms.length n4, .slice A5 refs.length n5] 30))
  have hm1 := Kd.C_max h.c1
  have hm2 := Kd.C_max h.c2
  have hm3 := Kd.C_max h.c3
  have hm4 := Kd.C_max h.c4
  have hm5 := Kd.C_max h.c5
  simp only at hm1 hm2 hm3 hm4 hm5
  have HMM := Aside0.mk (And.intro hm1 (And.intro hm2 (And.intro hm3 (And.intro hm4 hm5))))
  have hw1 : IntKind.u64.wrap (es.length : Int) = (es.length : Int) := by rw [IntKind.wrap_u64]; omega
  have hw2 : IntKind.u64.wrap (chs.length : Int) = (chs.length : Int) := by rw [IntKind.wrap_u64]; omega
  have hw3 : IntKind.u64.wrap (cls.length : Int) = (cls.length : Int) := by rw [IntKind.wrap_u64]; omega
  have hw4 : IntKind.u64.wrap (coms.length : Int) = (coms.length : Int) := by rw [IntKind.wrap_u64]; omega
  have hw5 : IntKind.u64.wrap (refs.length : Int) = (refs.length : Int) := by rw [IntKind.wrap_u64]; omega
  have HU1 := Aside0.mk (show U64 (es.length : Int) from ⟨by omega, by omega⟩)
  have HU2 := Aside0.mk (show U64 (chs.length : Int) from ⟨by omega, by omega⟩)
  have HU3 := Aside0.mk (show U64 (cls.length : Int) from ⟨by omega, by omega⟩)
  have HU4 := Aside0.mk (show U64 (coms.length : Int) from ⟨by omega, by omega⟩)
  have HU5 := Aside0.mk (show U64 (refs.length : Int) from ⟨by omega, by omega⟩)
  clear h hI hlim hm1 hm2 hm3 hm4 hm5
  go_enter Try.func14, Try.ntmps14
  go_upto_region 1 with (fail)
  have HV := Aside0.mk (Kd.R_nil (Kd.int .u8) 5 (W.alloc (.cells #[.int .i64 err, .bool is, .string val, .int .u64 id, .int .i64 n, .slice A1 es.length n1, .slice A2 chs.length n2, .slice A3 cls.length n3, .slice A4 coms.length n4, .slice A5 refs.length n5] 30)) W.heap.size (fun _ => True))
  generalize W.alloc (.cells #[.int .i64 err, .bool is, .string val, .int .u64 id, .int .i64 n, .slice A1 es.length n1, .slice A2 chs.length n2, .slice A3 cls.length n3, .slice A4 coms.length n4, .slice A5 refs.length n5] 30) = w0 at HG HB HV ⊢
  have ca0 := ten_cells HG.out
  have HVd := Aside0.mk (Kd.R_drew HV.out)
  have HBd := Aside0.mk (below_drew HB.out)
  have HGd := Aside0.mk (blk_drew HG.out)
  go_region_held3 (fun w' => World.cell? w' ⟨W.heap.size, 0, none⟩ = some (.int .i64 err) ∧ World.cell? w' ⟨W.heap.size, 1, none⟩ = some (.bool is) ∧ World.cell? w' ⟨W.heap.size, 2, none⟩ = some (.string val)) (first | exact ⟨ca0.1, ca0.2.1, ca0.2.2.1⟩ | exact ⟨ca1.1, ca1.2.1, ca1.2.2.1⟩ | exact ⟨ca2.1, ca2.2.1, ca2.2.2.1⟩ | exact ⟨ca3.1, ca3.2.1, ca3.2.2.1⟩ | go_keep) (first | (go_at_call 69; have hq := HV2.out; clear hq; refine (rn_text2 W _ _ _ val HB2.out HV2.out (by have := HL.out; have := size_encT val; (try simp only [List.length_append]); (try simp only [List.length_nil]); omega)).mono ?_; rintro e' ya3 ⟨va3, rfl, hr, hb, hf⟩; have HV3 := Aside0.mk hr; have HB3 := Aside0.mk hb; have HG3 := Aside0.mk (hf.blk HG2.out (by decide)); have ca3 := ten_cells HG3.out; clear hr hb hf) | (go_at_call 70; have hq := HV1.out; clear hq; refine (rn_flag2 W _ _ _ is HB1.out HV1.out (by have := HL.out; (try simp only [List.length_append]); (try simp only [List.length_nil]); omega)).mono ?_; rintro e' ya2 ⟨va2, rfl, hr, hb, hf⟩; have HV2 := Aside0.mk hr; have HB2 := Aside0.mk hb; have HG2 := Aside0.mk (hf.blk HG1.out (by decide)); have ca2 := ten_cells HG2.out; clear hr hb hf) | (go_at_call 71; refine (rn_num2 W _ _ _ (errU err) HBd.out HVd.out HEU.out (by have := HL.out; (try simp only [List.length_append]); (try simp only [List.length_nil]); omega)).mono ?_; rintro e' ya1 ⟨va1, rfl, hr, hb, hf⟩; have HV1 := Aside0.mk hr; have HB1 := Aside0.mk hb; have HG1 := Aside0.mk (hf.blk HGd.out (by decide)); have ca1 := ten_cells HG1.out; clear hr hb hf))
  have HVz := HV3
  have HBz := HB3
  have HGz := HG3
  clear ca0 ca1 ca2 ca3 HVd HBd HGd HV1 HV2 HV3 HB1 HB2 HB3 HG1 HG2 HG3
  clear HV
  clear HB
  clear HG
  have HV := HVz
  have HB := HBz
  have HG := HGz
  clear HVz HBz HGz
  go_upto_region 2 with (fail)
  refine key_trick (A := ?PK) (fun key => ?main) ?pf
  case main =>
    have cb0 := ten_cells HG.out
    have HVd := Aside0.mk (Kd.R_drew HV.out)
    have HBd := Aside0.mk (below_drew HB.out)
    have HGd := Aside0.mk (blk_drew HG.out)
    go_region_held3 (fun w' => World.cell? w' ⟨W.heap.size, 3, none⟩ = some (.int .u64 id) ∧ World.cell? w' ⟨W.heap.size, 4, none⟩ = some (.int .i64 n)) (first | exact ⟨cb0.2.2.2.1, cb0.2.2.2.2.1⟩ | exact ⟨cb1.2.2.2.1, cb1.2.2.2.2.1⟩ | exact ⟨cb2.2.2.2.1, cb2.2.2.2.2.1⟩ | go_keep) (first | (go_at_call 72; refine (rzig_same n HI.out.2.1 _).mono ?_; rintro e' yz ⟨rfl, rfl⟩) | (go_at_call 71; have hq := HV1.out; clear hq; refine (rn_num2 W _ _ _ (zig n) HB1.out HV1.out HZU.out (by have := HL.out; (try simp only [List.length_append]); (try simp only [List.length_nil]); omega)).mono ?_; rintro e' yb2 ⟨vb2, rfl, hr, hb, hf⟩; have HV2 := Aside0.mk hr; have HB2 := Aside0.mk hb; have HG2 := Aside0.mk (hf.blk HG1.out (by decide)); have cb2 := ten_cells HG2.out; clear hr hb hf) | (go_at_call 71; refine (rn_num2 W _ _ _ (id) HBd.out HVd.out HI.out.1 (by have := HL.out; (try simp only [List.length_append]); (try simp only [List.length_nil]); omega)).mono ?_; rintro e' yb1 ⟨vb1, rfl, hr, hb, hf⟩; have HV1 := Aside0.mk hr; have HB1 := Aside0.mk hb; have HG1 := Aside0.mk (hf.blk HGd.out (by decide)); have cb1 := ten_cells HG1.out; clear hr hb hf))
    all_goals (
      have HVz := Aside0.mk (show Kd.R (Kd.int .u8) 5 yb2 W.heap.size (fun _ => True) vb2 (enc (errU err) ++ (encB is ++ (encT val ++ (enc id ++ enc (zig n))))) by simpa [List.append_assoc] using HV2.out)
      have HBz := HB2
      have HGz := HG2
      clear cb0 cb1 cb2 HVd HBd HGd HV1 HB1 HG1 HV2 HB2 HG2
      revert HGz HBz HVz
      generalize vb1 = q1
      generalize vb2 = q2
      generalize yb2 = q3
      revert q1 q2 q3
      exact key.out
    )
  case pf =>
    intro qv1 qv2 qw HV2 HB2 HG2
    clear HV HB HG
    have HV := HV2
    have HB := HB2
    have HG := HG2
    clear HV2 HB2 HG2
    obtain ⟨bs0, hbs0⟩ : ∃ z, z = enc (errU err) ++ (encB is ++ (encT val ++ (enc id ++ enc (zig n)))) := ⟨_, rfl⟩
    have HBS0 := Aside0.mk hbs0
    rw [← hbs0] at HV
    have HLL := Aside0.mk (show bs0.length + (((enc (es.length : Int)).length + (encMany encE es).length) + (((enc (chs.length : Int)).length + (encMany encCh chs).length) + (((enc (cls.length : Int)).length + (encMany encCl cls).length) + (((enc (coms.length : Int)).length + (encMany encCo coms).length) + ((enc (refs.length : Int)).length + (encMany encRf refs).length))))) ≤ 1000000 by have h := HL.out; rw [hbs0]; simp only [List.length_append]; omega)
    clear hbs0 HL
    have HL := HLL
    clear HLL
    go_upto_region 3 with (fail)
    have g0 := ten_cells HG.out
    obtain ⟨p0, p1, p2, p3, p4, p5, p6, p7, p8, p9⟩ := g0
    go_upto_region 4 with (go_at_call 71; refine (rn_num2 W _ _ _ (es.length : Int) HB.out HV.out HU1.out (by have := HL.out; (try simp only [List.length_append]); omega)).mono ?_; rintro e' y1 ⟨v1, rfl, hr, hb, hf⟩; have HV1 := Aside0.mk hr; have HB1 := Aside0.mk hb; have HG1 := Aside0.mk (hf.blk HG.out (by decide)); clear hr hb hf)
    clear p0 p1 p2 p3 p4 p5 p6 p7 p8 p9 HV HB HG
    obtain ⟨p0, p1, p2, p3, p4, p5, p6, p7, p8, p9⟩ := ten_cells HG1.out
    go_wp2
    clear p0 p1 p2 p3 p4 p5 p6 p7 p8 p9
    go_loopg [3, 45] es.length (fun kq v3 v45 w' => ∃ i : Nat, v45 = .int .i64 (i : Int) ∧ Aside0 (i ≤ es.length ∧ kq = es.length - i) ∧ Aside0 (Kd.R (Kd.int .u8) 5 w' W.heap.size (fun _ => True) v3 (bs0 ++ enc (es.length : Int) ++ encMany encE (es.take i))) ∧ Aside0 (Below W.heap.size W w') ∧ Aside0 (w'.heap[W.heap.size]? = some (.cells #[.int .i64 err, .bool is, .string val, .int .u64 id, .int .i64 n, .slice A1 es.length n1, .slice A2 chs.length n2, .slice A3 cls.length n3, .slice A4 coms.length n4, .slice A5 refs.length n5] 30 (0, 0))))
    case atStart => exact ⟨0, rfl, ⟨by omega, by omega⟩, ⟨by simpa [encMany] using HV1.out⟩, HB1, HG1⟩
    case round =>
      rename_i v3 v45
      obtain ⟨i, rfl, HI2, HV, HB, HG⟩ := hrel
      clear HV1 HB1 HG1
      by_cases hlt : i < es.length
      · obtain ⟨ad, hA, h0, h1⟩ := at_T53 (Kd.C_below HC.out.c1 HB.out) (i : Int) (by omega) (by show (i : Int) < (es.length : Int); omega)
        have hA' : A1 = some ad := hA
        subst hA'
        simp only [Int.toNat_natCast] at h0 h1
        have HTK := Aside0.mk (encMany_take encE es i hlt)
        have HLE := Aside0.mk (encMany_le encE es i hlt)
        have hx := en_at (l := es) i hlt
        rw [← hx] at HTK HLE
        generalize rd_T53 es (i : Int) = x at h0 h1 HTK HLE
        clear hx
        have hlt' : (i : Int) < (es.length : Int) := by omega
        obtain ⟨i1, hi1⟩ : ∃ z, z = i + 1 := ⟨_, rfl⟩
        have HWI := Aside0.mk (show wrap64 ((i : Int) + 1) = (i1 : Int) by have := HMM.out.1; unfold wrap64; omega)
        have HI1 := Aside0.mk (show i1 = i + 1 ∧ i1 ≤ es.length by omega)
        have HXa := Aside0.mk (blk_new wr (.cells #[.string x.f0, .string x.f1] 53))
        have HVa := Aside0.mk (Kd.R_alloc HV.out (.cells #[.string x.f0, .string x.f1] 53))
        have HBa := Aside0.mk (below_alloc HB.out (.cells #[.string x.f0, .string x.f1] 53))
        have HGa := Aside0.mk (blk_alloc HG.out (.cells #[.string x.f0, .string x.f1] 53))
        obtain ⟨bs, hbs⟩ : ∃ z, z = bs0 ++ enc (es.length : Int) ++ encMany encE (es.take i) := ⟨_, rfl⟩
        have HBS := Aside0.mk hbs
        rw [← hbs] at HVa
        have HLX := Aside0.mk (show bs.length + (encE x).length ≤ 1000000 by have h1 := HL.out; have h2 := HLE.out; rw [hbs]; simp only [List.length_append]; omega)
        have HLx := Aside0.mk (show bs.length + ((encT x.f0).length + (encT x.f1).length) ≤ 1000000 by have h := HLX.out; simp only [encE, List.length_append] at h; omega)
        clear hi1 hlt hbs HV HB HG
        go_upto_region 7 with (fail)
        clear h0 h1
        have HX := HXa
        have HV := HVa
        have HB := HBa
        have HG := HGa
        clear HXa HVa HBa HGa
        generalize wr.alloc (.cells #[.string x.f0, .string x.f1] 53) = w1 at HX HV HB HG ⊢
        generalize wr.heap.size = gy at HX ⊢
        have cc00 := pair_cells HX.out
        have HVd := Aside0.mk (Kd.R_drew HV.out)
        have HBd := Aside0.mk (below_drew HB.out)
        have HXd := Aside0.mk (blk_drew HX.out)
        have HGd := Aside0.mk (blk_drew HG.out)
        go_region_held3 (fun w' => World.cell? w' ⟨gy, 0, none⟩ = some (.string x.f0) ∧ World.cell? w' ⟨gy, 1, none⟩ = some (.string x.f1)) (first | exact ⟨cc00.1, cc00.2⟩ | exact ⟨cc01.1, cc01.2⟩ | exact ⟨cc02.1, cc02.2⟩ | go_keep) (first | (go_at_call 69; have hq := HV1.out; clear hq; refine (rn_text2 W _ _ _ x.f1 HB1.out HV1.out (by have := HL.out; have := size_encT x.f1; have := HLx.out; (try simp only [List.length_append]); (try simp only [List.length_nil]); omega)).mono ?_; rintro e' yc02 ⟨vc02, rfl, hr, hb, hf⟩; have HV2 := Aside0.mk hr; have HB2 := Aside0.mk hb; have HX2 := Aside0.mk (hf.blk HX1.out (by decide)); have HG2 := Aside0.mk (hf.blk HG1.out (by decide)); have cc02 := pair_cells HX2.out; clear hr hb hf) | (go_at_call 69; refine (rn_text2 W _ _ _ x.f0 HBd.out HVd.out (by have := HL.out; have := size_encT x.f0; have := HLx.out; (try simp only [List.length_append]); (try simp only [List.length_nil]); omega)).mono ?_; rintro e' yc01 ⟨vc01, rfl, hr, hb, hf⟩; have HV1 := Aside0.mk hr; have HB1 := Aside0.mk hb; have HX1 := Aside0.mk (hf.blk HXd.out (by decide)); have HG1 := Aside0.mk (hf.blk HGd.out (by decide)); have cc01 := pair_cells HX1.out; clear hr hb hf))
        have HVz := HV2
        have HBz := HB2
        have HXz := HX2
        have HGz := HG2
        clear cc00 cc01 cc02 HVd HBd HXd HGd HV1 HV2 HB1 HB2 HX1 HX2 HG1 HG2
        clear HV
        clear HB
        clear HX
        clear HG
        have HV := HVz
        have HB := HBz
        have HX := HXz
        have HG := HGz
        clear HVz HBz HXz HGz
        go_wp2
        go_roundg (es.length - i1)
        case measure => have := HI2.out; have := HI1.out; omega
        case rel =>
          refine ⟨i1, ?_, ⟨?_⟩, ⟨?_⟩, HB, HG⟩
          · first | rfl | (rw [HWI.out]; done) | simp
          · exact ⟨HI1.out.2, rfl⟩
          · rw [HI1.out.1, HTK.out, ← List.append_assoc, ← HBS.out]; simpa [encE, List.append_assoc] using HV.out
      · have hI2 : i = es.length := by have := HI2.out; omega
        have hlt' : ¬ (i : Int) < (es.length : Int) := by omega
        have hv := HV.out
        rw [hI2, List.take_length] at hv
        have HVn := Aside0.mk hv
        clear hv hI2 hlt HV
        have HV := HVn
        clear HVn
        obtain ⟨bs1, hnb⟩ : ∃ z, z = bs0 ++ enc (es.length : Int) ++ encMany encE es := ⟨_, rfl⟩
        have HBS1 := Aside0.mk hnb
        rw [← hnb] at HV
        have HLn := Aside0.mk (show bs1.length + (((enc (chs.length : Int)).length + (encMany encCh chs).length) + (((enc (cls.length : Int)).length + (encMany encCl cls).length) + (((enc (coms.length : Int)).length + (encMany encCo coms).length) + ((enc (refs.length : Int)).length + (encMany encRf refs).length)))) ≤ 1000000 by have h := HL.out; rw [hnb]; simp only [List.length_append]; omega)
        clear hnb HL
        have HL := HLn
        clear HLn
        go_upto_region 9 with (fail)
        clear hlt'
        generalize wr = wz1 at HV HB HG ⊢
        have g0 := ten_cells HG.out
        obtain ⟨p0, p1, p2, p3, p4, p5, p6, p7, p8, p9⟩ := g0
        go_upto_region 10 with (go_at_call 71; refine (rn_num2 W _ _ _ (chs.length : Int) HB.out HV.out HU2.out (by have := HL.out; (try simp only [List.length_append]); omega)).mono ?_; rintro e' y2 ⟨v2, rfl, hr, hb, hf⟩; have HV1 := Aside0.mk hr; have HB1 := Aside0.mk hb; have HG1 := Aside0.mk (hf.blk HG.out (by decide)); clear hr hb hf)
        clear p0 p1 p2 p3 p4 p5 p6 p7 p8 p9 HV HB HG
        obtain ⟨p0, p1, p2, p3, p4, p5, p6, p7, p8, p9⟩ := ten_cells HG1.out
        go_wp2
        clear p0 p1 p2 p3 p4 p5 p6 p7 p8 p9
        go_loopg [3, 66] chs.length (fun kq v3 v66 w' => ∃ i : Nat, v66 = .int .i64 (i : Int) ∧ Aside0 (i ≤ chs.length ∧ kq = chs.length - i) ∧ Aside0 (Kd.R (Kd.int .u8) 5 w' W.heap.size (fun _ => True) v3 (bs1 ++ enc (chs.length : Int) ++ encMany encCh (chs.take i))) ∧ Aside0 (Below W.heap.size W w') ∧ Aside0 (w'.heap[W.heap.size]? = some (.cells #[.int .i64 err, .bool is, .string val, .int .u64 id, .int .i64 n, .slice A1 es.length n1, .slice A2 chs.length n2, .slice A3 cls.length n3, .slice A4 coms.length n4, .slice A5 refs.length n5] 30 (0, 0))))
        case atStart => exact ⟨0, rfl, ⟨by omega, by omega⟩, ⟨by simpa [encMany] using HV1.out⟩, HB1, HG1⟩
        case round =>
          rename_i v3 v66
          obtain ⟨i, rfl, HI2, HV, HB, HG⟩ := hrel
          clear HV1 HB1 HG1
          by_cases hlt : i < chs.length
          · obtain ⟨ad, hA, h0, h1, h2, h3, h4⟩ := at_T47 (Kd.C_below HC.out.c2 HB.out) (i : Int) (by omega) (by show (i : Int) < (chs.length : Int); omega)
            have hA' : A2 = some ad := hA
            subst hA'
            simp only [Int.toNat_natCast] at h0 h1 h2 h3 h4
            have HTK := Aside0.mk (encMany_take encCh chs i hlt)
            have HLE := Aside0.mk (encMany_le encCh chs i hlt)
            have hx := ch_at (l := chs) i hlt
            rw [← hx] at HTK HLE
            generalize rd_T47 chs (i : Int) = x at h0 h1 h2 h3 h4 HTK HLE
            clear hx
            have hlt' : (i : Int) < (chs.length : Int) := by omega
            obtain ⟨i1, hi1⟩ : ∃ z, z = i + 1 := ⟨_, rfl⟩
            have HWI := Aside0.mk (show wrap64 ((i : Int) + 1) = (i1 : Int) by have := HMM.out.2.1; unfold wrap64; omega)
            have HI1 := Aside0.mk (show i1 = i + 1 ∧ i1 ≤ chs.length by omega)
            have HXa := Aside0.mk (blk_new wr (.cells #[.string x.f0, .bool x.f1, .string x.f2, .bool x.f3, .string x.f4] 47))
            have HVa := Aside0.mk (Kd.R_alloc HV.out (.cells #[.string x.f0, .bool x.f1, .string x.f2, .bool x.f3, .string x.f4] 47))
            have HBa := Aside0.mk (below_alloc HB.out (.cells #[.string x.f0, .bool x.f1, .string x.f2, .bool x.f3, .string x.f4] 47))
            have HGa := Aside0.mk (blk_alloc HG.out (.cells #[.string x.f0, .bool x.f1, .string x.f2, .bool x.f3, .string x.f4] 47))
            obtain ⟨bs, hbs⟩ : ∃ z, z = bs1 ++ enc (chs.length : Int) ++ encMany encCh (chs.take i) := ⟨_, rfl⟩
            have HBS := Aside0.mk hbs
            rw [← hbs] at HVa
            have HLX := Aside0.mk (show bs.length + (encCh x).length ≤ 1000000 by have h1 := HL.out; have h2 := HLE.out; rw [hbs]; simp only [List.length_append]; omega)
            have HLx := Aside0.mk (show bs.length + ((encT x.f0).length + ((encB x.f1).length + ((encT x.f2).length + ((encB x.f3).length + (encT x.f4).length)))) ≤ 1000000 by have h := HLX.out; simp only [encCh, List.length_append] at h; omega)
            clear hi1 hlt hbs HV HB HG
            go_upto_region 13 with (fail)
            clear h0 h1 h2 h3 h4
            have HX := HXa
            have HV := HVa
            have HB := HBa
            have HG := HGa
            clear HXa HVa HBa HGa
            generalize wr.alloc (.cells #[.string x.f0, .bool x.f1, .string x.f2, .bool x.f3, .string x.f4] 47) = w1 at HX HV HB HG ⊢
            generalize wr.heap.size = gy at HX ⊢
            have cc00 := five_cells HX.out
            have HVd := Aside0.mk (Kd.R_drew HV.out)
            have HBd := Aside0.mk (below_drew HB.out)
            have HXd := Aside0.mk (blk_drew HX.out)
            have HGd := Aside0.mk (blk_drew HG.out)
            go_region_held3 (fun w' => World.cell? w' ⟨gy, 0, none⟩ = some (.string x.f0) ∧ World.cell? w' ⟨gy, 1, none⟩ = some (.bool x.f1) ∧ World.cell? w' ⟨gy, 2, none⟩ = some (.string x.f2)) (first | exact ⟨cc00.1, cc00.2.1, cc00.2.2.1⟩ | exact ⟨cc01.1, cc01.2.1, cc01.2.2.1⟩ | exact ⟨cc02.1, cc02.2.1, cc02.2.2.1⟩ | exact ⟨cc03.1, cc03.2.1, cc03.2.2.1⟩ | go_keep) (first | (go_at_call 69; have hq := HV2.out; clear hq; refine (rn_text2 W _ _ _ x.f2 HB2.out HV2.out (by have := HL.out; have := size_encT x.f2; have := HLx.out; (try simp only [List.length_append]); (try simp only [List.length_nil]); omega)).mono ?_; rintro e' yc03 ⟨vc03, rfl, hr, hb, hf⟩; have HV3 := Aside0.mk hr; have HB3 := Aside0.mk hb; have HX3 := Aside0.mk (hf.blk HX2.out (by decide)); have HG3 := Aside0.mk (hf.blk HG2.out (by decide)); have cc03 := five_cells HX3.out; clear hr hb hf) | (go_at_call 70; have hq := HV1.out; clear hq; refine (rn_flag2 W _ _ _ x.f1 HB1.out HV1.out (by have := HL.out; have := HLx.out; (try simp only [List.length_append]); (try simp only [List.length_nil]); omega)).mono ?_; rintro e' yc02 ⟨vc02, rfl, hr, hb, hf⟩; have HV2 := Aside0.mk hr; have HB2 := Aside0.mk hb; have HX2 := Aside0.mk (hf.blk HX1.out (by decide)); have HG2 := Aside0.mk (hf.blk HG1.out (by decide)); have cc02 := five_cells HX2.out; clear hr hb hf) | (go_at_call 69; refine (rn_text2 W _ _ _ x.f0 HBd.out HVd.out (by have := HL.out; have := size_encT x.f0; have := HLx.out; (try simp only [List.length_append]); (try simp only [List.length_nil]); omega)).mono ?_; rintro e' yc01 ⟨vc01, rfl, hr, hb, hf⟩; have HV1 := Aside0.mk hr; have HB1 := Aside0.mk hb; have HX1 := Aside0.mk (hf.blk HXd.out (by decide)); have HG1 := Aside0.mk (hf.blk HGd.out (by decide)); have cc01 := five_cells HX1.out; clear hr hb hf))
            have HVz := HV3
            have HBz := HB3
            have HXz := HX3
            have HGz := HG3
            clear cc00 cc01 cc02 cc03 HVd HBd HXd HGd HV1 HV2 HV3 HB1 HB2 HB3 HX1 HX2 HX3 HG1 HG2 HG3
            clear HV
            clear HB
            clear HX
            clear HG
            have HV := HVz
            have HB := HBz
            have HX := HXz
            have HG := HGz
            clear HVz HBz HXz HGz
            go_upto_region 14 with (fail)
            have cc10 := five_cells HX.out
            have HVd := Aside0.mk (Kd.R_drew HV.out)
            have HBd := Aside0.mk (below_drew HB.out)
            have HXd := Aside0.mk (blk_drew HX.out)
            have HGd := Aside0.mk (blk_drew HG.out)
            go_region_held3 (fun w' => World.cell? w' ⟨gy, 3, none⟩ = some (.bool x.f3) ∧ World.cell? w' ⟨gy, 4, none⟩ = some (.string x.f4)) (first | exact ⟨cc10.2.2.2.1, cc10.2.2.2.2⟩ | exact ⟨cc11.2.2.2.1, cc11.2.2.2.2⟩ | exact ⟨cc12.2.2.2.1, cc12.2.2.2.2⟩ | go_keep) (first | (go_at_call 69; have hq := HV1.out; clear hq; refine (rn_text2 W _ _ _ x.f4 HB1.out HV1.out (by have := HL.out; have := size_encT x.f4; have := HLx.out; (try simp only [List.length_append]); (try simp only [List.length_nil]); omega)).mono ?_; rintro e' yc12 ⟨vc12, rfl, hr, hb, hf⟩; have HV2 := Aside0.mk hr; have HB2 := Aside0.mk hb; have HX2 := Aside0.mk (hf.blk HX1.out (by decide)); have HG2 := Aside0.mk (hf.blk HG1.out (by decide)); have cc12 := five_cells HX2.out; clear hr hb hf) | (go_at_call 70; refine (rn_flag2 W _ _ _ x.f3 HBd.out HVd.out (by have := HL.out; have := HLx.out; (try simp only [List.length_append]); (try simp only [List.length_nil]); omega)).mono ?_; rintro e' yc11 ⟨vc11, rfl, hr, hb, hf⟩; have HV1 := Aside0.mk hr; have HB1 := Aside0.mk hb; have HX1 := Aside0.mk (hf.blk HXd.out (by decide)); have HG1 := Aside0.mk (hf.blk HGd.out (by decide)); have cc11 := five_cells HX1.out; clear hr hb hf))
            have HVz := HV2
            have HBz := HB2
            have HXz := HX2
            have HGz := HG2
            clear cc10 cc11 cc12 HVd HBd HXd HGd HV1 HV2 HB1 HB2 HX1 HX2 HG1 HG2
            clear HV
            clear HB
            clear HX
            clear HG
            have HV := HVz
            have HB := HBz
            have HX := HXz
            have HG := HGz
            clear HVz HBz HXz HGz
            go_wp2
            go_roundg (chs.length - i1)
            case measure => have := HI2.out; have := HI1.out; omega
            case rel =>
              refine ⟨i1, ?_, ⟨?_⟩, ⟨?_⟩, HB, HG⟩
              · first | rfl | (rw [HWI.out]; done) | simp
              · exact ⟨HI1.out.2, rfl⟩
              · rw [HI1.out.1, HTK.out, ← List.append_assoc, ← HBS.out]; simpa [encCh, List.append_assoc] using HV.out
          · have hI2 : i = chs.length := by have := HI2.out; omega
            have hlt' : ¬ (i : Int) < (chs.length : Int) := by omega
            have hv := HV.out
            rw [hI2, List.take_length] at hv
            have HVn := Aside0.mk hv
            clear hv hI2 hlt HV
            have HV := HVn
            clear HVn
            obtain ⟨bs2, hnb⟩ : ∃ z, z = bs1 ++ enc (chs.length : Int) ++ encMany encCh chs := ⟨_, rfl⟩
            have HBS2 := Aside0.mk hnb
            rw [← hnb] at HV
            have HLn := Aside0.mk (show bs2.length + (((enc (cls.length : Int)).length + (encMany encCl cls).length) + (((enc (coms.length : Int)).length + (encMany encCo coms).length) + ((enc (refs.length : Int)).length + (encMany encRf refs).length))) ≤ 1000000 by have h := HL.out; rw [hnb]; simp only [List.length_append]; omega)
            clear hnb HL
            have HL := HLn
            clear HLn
            go_upto_region 16 with (fail)
            clear hlt'
            generalize wr = wz2 at HV HB HG ⊢
            have g0 := ten_cells HG.out
            obtain ⟨p0, p1, p2, p3, p4, p5, p6, p7, p8, p9⟩ := g0
            go_upto_region 17 with (go_at_call 71; refine (rn_num2 W _ _ _ (cls.length : Int) HB.out HV.out HU3.out (by have := HL.out; (try simp only [List.length_append]); omega)).mono ?_; rintro e' y3 ⟨v3, rfl, hr, hb, hf⟩; have HV1 := Aside0.mk hr; have HB1 := Aside0.mk hb; have HG1 := Aside0.mk (hf.blk HG.out (by decide)); clear hr hb hf)
            clear p0 p1 p2 p3 p4 p5 p6 p7 p8 p9 HV HB HG
            obtain ⟨p0, p1, p2, p3, p4, p5, p6, p7, p8, p9⟩ := ten_cells HG1.out
            go_wp2
            clear p0 p1 p2 p3 p4 p5 p6 p7 p8 p9
            go_loopg [3, 97] cls.length (fun kq v3 v97 w' => ∃ i : Nat, v97 = .int .i64 (i : Int) ∧ Aside0 (i ≤ cls.length ∧ kq = cls.length - i) ∧ Aside0 (Kd.R (Kd.int .u8) 5 w' W.heap.size (fun _ => True) v3 (bs2 ++ enc (cls.length : Int) ++ encMany encCl (cls.take i))) ∧ Aside0 (Below W.heap.size W w') ∧ Aside0 (w'.heap[W.heap.size]? = some (.cells #[.int .i64 err, .bool is, .string val, .int .u64 id, .int .i64 n, .slice A1 es.length n1, .slice A2 chs.length n2, .slice A3 cls.length n3, .slice A4 coms.length n4, .slice A5 refs.length n5] 30 (0, 0))))
            case atStart => exact ⟨0, rfl, ⟨by omega, by omega⟩, ⟨by simpa [encMany] using HV1.out⟩, HB1, HG1⟩
            case round =>
              rename_i v3 v97
              obtain ⟨i, rfl, HI2, HV, HB, HG⟩ := hrel
              clear HV1 HB1 HG1
              by_cases hlt : i < cls.length
              · obtain ⟨ad, hA, h0, h1, h2, h3, h4, h5, h6⟩ := at_T59 (Kd.C_below HC.out.c3 HB.out) (i : Int) (by omega) (by show (i : Int) < (cls.length : Int); omega)
                have hA' : A3 = some ad := hA
                subst hA'
                simp only [Int.toNat_natCast] at h0 h1 h2 h3 h4 h5 h6
                have HTK := Aside0.mk (encMany_take encCl cls i hlt)
                have HLE := Aside0.mk (encMany_le encCl cls i hlt)
                have hx := cl_at (l := cls) i hlt
                rw [← hx] at HTK HLE
                generalize rd_T59 cls (i : Int) = x at h0 h1 h2 h3 h4 h5 h6 HTK HLE
                clear hx
                have hlt' : (i : Int) < (cls.length : Int) := by omega
                obtain ⟨i1, hi1⟩ : ∃ z, z = i + 1 := ⟨_, rfl⟩
                have HWI := Aside0.mk (show wrap64 ((i : Int) + 1) = (i1 : Int) by have := HMM.out.2.2.1; unfold wrap64; omega)
                have HI1 := Aside0.mk (show i1 = i + 1 ∧ i1 ≤ cls.length by omega)
                have HXa := Aside0.mk (blk_new wr (.cells #[.string x.f0, .bool x.f1.f0, .string x.f1.f1, .bool x.f2.f0, .string x.f2.f1, .bool x.f3.f0, .string x.f3.f1] 59))
                have HVa := Aside0.mk (Kd.R_alloc HV.out (.cells #[.string x.f0, .bool x.f1.f0, .string x.f1.f1, .bool x.f2.f0, .string x.f2.f1, .bool x.f3.f0, .string x.f3.f1] 59))
                have HBa := Aside0.mk (below_alloc HB.out (.cells #[.string x.f0, .bool x.f1.f0, .string x.f1.f1, .bool x.f2.f0, .string x.f2.f1, .bool x.f3.f0, .string x.f3.f1] 59))
                have HGa := Aside0.mk (blk_alloc HG.out (.cells #[.string x.f0, .bool x.f1.f0, .string x.f1.f1, .bool x.f2.f0, .string x.f2.f1, .bool x.f3.f0, .string x.f3.f1] 59))
                obtain ⟨bs, hbs⟩ : ∃ z, z = bs2 ++ enc (cls.length : Int) ++ encMany encCl (cls.take i) := ⟨_, rfl⟩
                have HBS := Aside0.mk hbs
                rw [← hbs] at HVa
                have HLX := Aside0.mk (show bs.length + (encCl x).length ≤ 1000000 by have h1 := HL.out; have h2 := HLE.out; rw [hbs]; simp only [List.length_append]; omega)
                have HLx := Aside0.mk (show bs.length + ((encT x.f0).length + ((encB x.f1.f0).length + (encT x.f1.f1).length + ((encB x.f2.f0).length + (encT x.f2.f1).length + ((encB x.f3.f0).length + (encT x.f3.f1).length)))) ≤ 1000000 by have h := HLX.out; simp only [encCl, encSd, List.length_append] at h; omega)
                clear hi1 hlt hbs HV HB HG
                go_upto_region 20 with (fail)
                clear h0 h1 h2 h3 h4 h5 h6
                have HX := HXa
                have HV := HVa
                have HB := HBa
                have HG := HGa
                clear HXa HVa HBa HGa
                generalize wr.alloc (.cells #[.string x.f0, .bool x.f1.f0, .string x.f1.f1, .bool x.f2.f0, .string x.f2.f1, .bool x.f3.f0, .string x.f3.f1] 59) = w1 at HX HV HB HG ⊢
                generalize wr.heap.size = gy at HX ⊢
                obtain ⟨z0, z1, z2, z3, z4, z5, z6⟩ := sev_cells HX.out
                go_upto_region 21 with (go_at_call 69; refine (rn_text2 W _ _ _ x.f0 HB.out HV.out (by have := HLx.out; have := size_encT x.f0; omega)).mono ?_; rintro e' yt ⟨vt, rfl, hr, hb, hf⟩; have HV1 := Aside0.mk hr; have HB1 := Aside0.mk hb; have HX1 := Aside0.mk (hf.blk HX.out (by decide)); have HG1 := Aside0.mk (hf.blk HG.out (by decide)); clear hr hb hf)
                clear z0 z1 z2 z3 z4 z5 z6 HV HB HX HG
                obtain ⟨z0, z1, z2, z3, z4, z5, z6⟩ := sev_cells HX1.out
                have HS1 := Aside0.mk (blk_new yt (.cells #[.bool x.f1.f0, .string x.f1.f1, .bool x.f2.f0, .string x.f2.f1, .bool x.f3.f0, .string x.f3.f1] 57))
                have HV2 := Aside0.mk (Kd.R_alloc HV1.out (.cells #[.bool x.f1.f0, .string x.f1.f1, .bool x.f2.f0, .string x.f2.f1, .bool x.f3.f0, .string x.f3.f1] 57))
                have HB2 := Aside0.mk (below_alloc HB1.out (.cells #[.bool x.f1.f0, .string x.f1.f1, .bool x.f2.f0, .string x.f2.f1, .bool x.f3.f0, .string x.f3.f1] 57))
                have HG2 := Aside0.mk (blk_alloc HG1.out (.cells #[.bool x.f1.f0, .string x.f1.f1, .bool x.f2.f0, .string x.f2.f1, .bool x.f3.f0, .string x.f3.f1] 57))
                go_wp2
                clear z0 z1 z2 z3 z4 z5 z6 HV1 HB1 HX1 HG1
                generalize yt.alloc (.cells #[.bool x.f1.f0, .string x.f1.f1, .bool x.f2.f0, .string x.f2.f1, .bool x.f3.f0, .string x.f3.f1] 57) = w2 at HS1 HV2 HB2 HG2 ⊢
                generalize yt.heap.size = gs at HS1 ⊢
                go_loopg [3, 113] 3 (fun kq v3 v113 w' => ∃ k : Nat, v113 = .int .i64 (k : Int) ∧ Aside0 (k ≤ 3 ∧ kq = 3 - k) ∧ Aside0 (Kd.R (Kd.int .u8) 5 w' W.heap.size (fun _ => True) v3 (bs ++ encT x.f0 ++ sidesEnc x k)) ∧ Aside0 (Below W.heap.size W w') ∧ Aside0 (w'.heap[gs]? = some (.cells #[.bool x.f1.f0, .string x.f1.f1, .bool x.f2.f0, .string x.f2.f1, .bool x.f3.f0, .string x.f3.f1] 57 (0, 0))) ∧ Aside0 (w'.heap[W.heap.size]? = some (.cells #[.int .i64 err, .bool is, .string val, .int .u64 id, .int .i64 n, .slice A1 es.length n1, .slice A2 chs.length n2, .slice (some ad) cls.length n3, .slice A4 coms.length n4, .slice A5 refs.length n5] 30 (0, 0))))
                case atStart => exact ⟨0, rfl, ⟨by omega, by omega⟩, ⟨by simpa [sidesEnc] using HV2.out⟩, HB2, HS1, HG2⟩
                case round =>
                  rename_i v3 v113
                  obtain ⟨k, rfl, HK, HV, HB, HS, HG⟩ := hrel
                  clear HS1 HV2 HB2 HG2
                  rcases (show k = 0 ∨ k = 1 ∨ k = 2 ∨ k = 3 by have := HK.out; omega) with rfl | rfl | rfl | rfl
                  · obtain ⟨s0, s1, s2, s3, s4, s5⟩ := six_cells HS.out
                    have HXa := Aside0.mk (blk_new wr (.cells #[.bool x.f1.f0, .string x.f1.f1] 57))
                    have HVa := Aside0.mk (Kd.R_alloc HV.out (.cells #[.bool x.f1.f0, .string x.f1.f1] 57))
                    have HBa := Aside0.mk (below_alloc HB.out (.cells #[.bool x.f1.f0, .string x.f1.f1] 57))
                    have HGa := Aside0.mk (blk_alloc HG.out (.cells #[.bool x.f1.f0, .string x.f1.f1] 57))
                    have HSa := Aside0.mk (blk_alloc HS.out (.cells #[.bool x.f1.f0, .string x.f1.f1] 57))
                    clear HV HB HG HS
                    go_upto_region 24 with (fail)
                    clear s0 s1 s2 s3 s4 s5
                    have HX := HXa
                    have HV := HVa
                    have HB := HBa
                    have HG := HGa
                    have HS := HSa
                    clear HXa HVa HBa HGa HSa
                    generalize wr.alloc (.cells #[.bool x.f1.f0, .string x.f1.f1] 57) = w1 at HX HV HB HG HS ⊢
                    generalize wr.heap.size = gv at HX ⊢
                    have cs00 := pair_cells HX.out
                    have HVd := Aside0.mk (Kd.R_drew HV.out)
                    have HBd := Aside0.mk (below_drew HB.out)
                    have HXd := Aside0.mk (blk_drew HX.out)
                    have HGd := Aside0.mk (blk_drew HG.out)
                    have HSd := Aside0.mk (blk_drew HS.out)
                    go_region_held3 (fun w' => World.cell? w' ⟨gv, 0, none⟩ = some (.bool x.f1.f0) ∧ World.cell? w' ⟨gv, 1, none⟩ = some (.string x.f1.f1)) (first | exact ⟨cs00.1, cs00.2⟩ | exact ⟨cs01.1, cs01.2⟩ | exact ⟨cs02.1, cs02.2⟩ | go_keep) (first | (go_at_call 69; have hq := HV1.out; clear hq; refine (rn_text2 W _ _ _ x.f1.f1 HB1.out HV1.out (by have := HL.out; have := size_encT x.f1.f1; have := HLx.out; simp only [sidesEnc, sideAt, encSd, List.length_append, List.length_nil]; (try simp only [List.length_append]); (try simp only [List.length_nil]); omega)).mono ?_; rintro e' ys02 ⟨vs02, rfl, hr, hb, hf⟩; have HV2 := Aside0.mk hr; have HB2 := Aside0.mk hb; have HX2 := Aside0.mk (hf.blk HX1.out (by decide)); have HG2 := Aside0.mk (hf.blk HG1.out (by decide)); have HS2 := Aside0.mk (hf.blk HS1.out (by decide)); have cs02 := pair_cells HX2.out; clear hr hb hf) | (go_at_call 70; refine (rn_flag2 W _ _ _ x.f1.f0 HBd.out HVd.out (by have := HL.out; have := HLx.out; simp only [sidesEnc, sideAt, encSd, List.length_append, List.length_nil]; (try simp only [List.length_append]); (try simp only [List.length_nil]); omega)).mono ?_; rintro e' ys01 ⟨vs01, rfl, hr, hb, hf⟩; have HV1 := Aside0.mk hr; have HB1 := Aside0.mk hb; have HX1 := Aside0.mk (hf.blk HXd.out (by decide)); have HG1 := Aside0.mk (hf.blk HGd.out (by decide)); have HS1 := Aside0.mk (hf.blk HSd.out (by decide)); have cs01 := pair_cells HX1.out; clear hr hb hf))
                    have HVz := HV2
                    have HBz := HB2
                    have HXz := HX2
                    have HGz := HG2
                    have HSz := HS2
                    clear cs00 cs01 cs02 HVd HBd HXd HGd HSd HV1 HV2 HB1 HB2 HX1 HX2 HG1 HG2 HS1 HS2
                    clear HV
                    clear HB
                    clear HX
                    clear HG
                    clear HS
                    have HV := HVz
                    have HB := HBz
                    have HX := HXz
                    have HG := HGz
                    have HS := HSz
                    clear HVz HBz HXz HGz HSz
                    go_wp2
                    go_roundg 2
                    case measure => have := HK.out; omega
                    case rel => exact ⟨1, rfl, ⟨by omega, by omega⟩, ⟨by have := HV.out; simpa [sidesEnc, encSd, sideAt, List.append_assoc] using this⟩, HB, HS, HG⟩
                  · obtain ⟨s0, s1, s2, s3, s4, s5⟩ := six_cells HS.out
                    have HXa := Aside0.mk (blk_new wr (.cells #[.bool x.f2.f0, .string x.f2.f1] 57))
                    have HVa := Aside0.mk (Kd.R_alloc HV.out (.cells #[.bool x.f2.f0, .string x.f2.f1] 57))
                    have HBa := Aside0.mk (below_alloc HB.out (.cells #[.bool x.f2.f0, .string x.f2.f1] 57))
                    have HGa := Aside0.mk (blk_alloc HG.out (.cells #[.bool x.f2.f0, .string x.f2.f1] 57))
                    have HSa := Aside0.mk (blk_alloc HS.out (.cells #[.bool x.f2.f0, .string x.f2.f1] 57))
                    clear HV HB HG HS
                    go_upto_region 24 with (fail)
                    clear s0 s1 s2 s3 s4 s5
                    have HX := HXa
                    have HV := HVa
                    have HB := HBa
                    have HG := HGa
                    have HS := HSa
                    clear HXa HVa HBa HGa HSa
                    generalize wr.alloc (.cells #[.bool x.f2.f0, .string x.f2.f1] 57) = w1 at HX HV HB HG HS ⊢
                    generalize wr.heap.size = gv at HX ⊢
                    have cs10 := pair_cells HX.out
                    have HVd := Aside0.mk (Kd.R_drew HV.out)
                    have HBd := Aside0.mk (below_drew HB.out)
                    have HXd := Aside0.mk (blk_drew HX.out)
                    have HGd := Aside0.mk (blk_drew HG.out)
                    have HSd := Aside0.mk (blk_drew HS.out)
                    go_region_held3 (fun w' => World.cell? w' ⟨gv, 0, none⟩ = some (.bool x.f2.f0) ∧ World.cell? w' ⟨gv, 1, none⟩ = some (.string x.f2.f1)) (first | exact ⟨cs10.1, cs10.2⟩ | exact ⟨cs11.1, cs11.2⟩ | exact ⟨cs12.1, cs12.2⟩ | go_keep) (first | (go_at_call 69; have hq := HV1.out; clear hq; refine (rn_text2 W _ _ _ x.f2.f1 HB1.out HV1.out (by have := HL.out; have := size_encT x.f2.f1; have := HLx.out; simp only [sidesEnc, sideAt, encSd, List.length_append, List.length_nil]; (try simp only [List.length_append]); (try simp only [List.length_nil]); omega)).mono ?_; rintro e' ys12 ⟨vs12, rfl, hr, hb, hf⟩; have HV2 := Aside0.mk hr; have HB2 := Aside0.mk hb; have HX2 := Aside0.mk (hf.blk HX1.out (by decide)); have HG2 := Aside0.mk (hf.blk HG1.out (by decide)); have HS2 := Aside0.mk (hf.blk HS1.out (by decide)); have cs12 := pair_cells HX2.out; clear hr hb hf) | (go_at_call 70; refine (rn_flag2 W _ _ _ x.f2.f0 HBd.out HVd.out (by have := HL.out; have := HLx.out; simp only [sidesEnc, sideAt, encSd, List.length_append, List.length_nil]; (try simp only [List.length_append]); (try simp only [List.length_nil]); omega)).mono ?_; rintro e' ys11 ⟨vs11, rfl, hr, hb, hf⟩; have HV1 := Aside0.mk hr; have HB1 := Aside0.mk hb; have HX1 := Aside0.mk (hf.blk HXd.out (by decide)); have HG1 := Aside0.mk (hf.blk HGd.out (by decide)); have HS1 := Aside0.mk (hf.blk HSd.out (by decide)); have cs11 := pair_cells HX1.out; clear hr hb hf))
                    have HVz := HV2
                    have HBz := HB2
                    have HXz := HX2
                    have HGz := HG2
                    have HSz := HS2
                    clear cs10 cs11 cs12 HVd HBd HXd HGd HSd HV1 HV2 HB1 HB2 HX1 HX2 HG1 HG2 HS1 HS2
                    clear HV
                    clear HB
                    clear HX
                    clear HG
                    clear HS
                    have HV := HVz
                    have HB := HBz
                    have HX := HXz
                    have HG := HGz
                    have HS := HSz
                    clear HVz HBz HXz HGz HSz
                    go_wp2
                    go_roundg 1
                    case measure => have := HK.out; omega
                    case rel => exact ⟨2, rfl, ⟨by omega, by omega⟩, ⟨by have := HV.out; simpa [sidesEnc, encSd, sideAt, List.append_assoc] using this⟩, HB, HS, HG⟩
                  · obtain ⟨s0, s1, s2, s3, s4, s5⟩ := six_cells HS.out
                    have HXa := Aside0.mk (blk_new wr (.cells #[.bool x.f3.f0, .string x.f3.f1] 57))
                    have HVa := Aside0.mk (Kd.R_alloc HV.out (.cells #[.bool x.f3.f0, .string x.f3.f1] 57))
                    have HBa := Aside0.mk (below_alloc HB.out (.cells #[.bool x.f3.f0, .string x.f3.f1] 57))
                    have HGa := Aside0.mk (blk_alloc HG.out (.cells #[.bool x.f3.f0, .string x.f3.f1] 57))
                    have HSa := Aside0.mk (blk_alloc HS.out (.cells #[.bool x.f3.f0, .string x.f3.f1] 57))
                    clear HV HB HG HS
                    go_upto_region 24 with (fail)
                    clear s0 s1 s2 s3 s4 s5
                    have HX := HXa
                    have HV := HVa
                    have HB := HBa
                    have HG := HGa
                    have HS := HSa
                    clear HXa HVa HBa HGa HSa
                    generalize wr.alloc (.cells #[.bool x.f3.f0, .string x.f3.f1] 57) = w1 at HX HV HB HG HS ⊢
                    generalize wr.heap.size = gv at HX ⊢
                    have cs20 := pair_cells HX.out
                    have HVd := Aside0.mk (Kd.R_drew HV.out)
                    have HBd := Aside0.mk (below_drew HB.out)
                    have HXd := Aside0.mk (blk_drew HX.out)
                    have HGd := Aside0.mk (blk_drew HG.out)
                    have HSd := Aside0.mk (blk_drew HS.out)
                    go_region_held3 (fun w' => World.cell? w' ⟨gv, 0, none⟩ = some (.bool x.f3.f0) ∧ World.cell? w' ⟨gv, 1, none⟩ = some (.string x.f3.f1)) (first | exact ⟨cs20.1, cs20.2⟩ | exact ⟨cs21.1, cs21.2⟩ | exact ⟨cs22.1, cs22.2⟩ | go_keep) (first | (go_at_call 69; have hq := HV1.out; clear hq; refine (rn_text2 W _ _ _ x.f3.f1 HB1.out HV1.out (by have := HL.out; have := size_encT x.f3.f1; have := HLx.out; simp only [sidesEnc, sideAt, encSd, List.length_append, List.length_nil]; (try simp only [List.length_append]); (try simp only [List.length_nil]); omega)).mono ?_; rintro e' ys22 ⟨vs22, rfl, hr, hb, hf⟩; have HV2 := Aside0.mk hr; have HB2 := Aside0.mk hb; have HX2 := Aside0.mk (hf.blk HX1.out (by decide)); have HG2 := Aside0.mk (hf.blk HG1.out (by decide)); have HS2 := Aside0.mk (hf.blk HS1.out (by decide)); have cs22 := pair_cells HX2.out; clear hr hb hf) | (go_at_call 70; refine (rn_flag2 W _ _ _ x.f3.f0 HBd.out HVd.out (by have := HL.out; have := HLx.out; simp only [sidesEnc, sideAt, encSd, List.length_append, List.length_nil]; (try simp only [List.length_append]); (try simp only [List.length_nil]); omega)).mono ?_; rintro e' ys21 ⟨vs21, rfl, hr, hb, hf⟩; have HV1 := Aside0.mk hr; have HB1 := Aside0.mk hb; have HX1 := Aside0.mk (hf.blk HXd.out (by decide)); have HG1 := Aside0.mk (hf.blk HGd.out (by decide)); have HS1 := Aside0.mk (hf.blk HSd.out (by decide)); have cs21 := pair_cells HX1.out; clear hr hb hf))
                    have HVz := HV2
                    have HBz := HB2
                    have HXz := HX2
                    have HGz := HG2
                    have HSz := HS2
                    clear cs20 cs21 cs22 HVd HBd HXd HGd HSd HV1 HV2 HB1 HB2 HX1 HX2 HG1 HG2 HS1 HS2
                    clear HV
                    clear HB
                    clear HX
                    clear HG
                    clear HS
                    have HV := HVz
                    have HB := HBz
                    have HX := HXz
                    have HG := HGz
                    have HS := HSz
                    clear HVz HBz HXz HGz HSz
                    go_wp2
                    go_roundg 0
                    case measure => have := HK.out; omega
                    case rel => exact ⟨3, rfl, ⟨by omega, by omega⟩, ⟨by have := HV.out; simpa [sidesEnc, encSd, sideAt, List.append_assoc] using this⟩, HB, HS, HG⟩
                  · go_wp2
                    go_roundg (cls.length - i1)
                    case measure => have := HI2.out; have := HI1.out; omega
                    case rel =>
                      refine ⟨i1, ?_, ⟨?_⟩, ⟨?_⟩, HB, HG⟩
                      · first | rfl | (rw [HWI.out]; done) | simp
                      · exact ⟨HI1.out.2, rfl⟩
                      · rw [HI1.out.1, HTK.out, ← List.append_assoc, ← HBS.out]; have h := HV.out; simpa [encCl, encSd, sidesEnc, sideAt, List.append_assoc] using h
              · have hI2 : i = cls.length := by have := HI2.out; omega
                have hlt' : ¬ (i : Int) < (cls.length : Int) := by omega
                have hv := HV.out
                rw [hI2, List.take_length] at hv
                have HVn := Aside0.mk hv
                clear hv hI2 hlt HV
                have HV := HVn
                clear HVn
                obtain ⟨bs3, hnb⟩ : ∃ z, z = bs2 ++ enc (cls.length : Int) ++ encMany encCl cls := ⟨_, rfl⟩
                have HBS3 := Aside0.mk hnb
                rw [← hnb] at HV
                have HLn := Aside0.mk (show bs3.length + (((enc (coms.length : Int)).length + (encMany encCo coms).length) + ((enc (refs.length : Int)).length + (encMany encRf refs).length)) ≤ 1000000 by have h := HL.out; rw [hnb]; simp only [List.length_append]; omega)
                clear hnb HL
                have HL := HLn
                clear HLn
                go_upto_region 27 with (fail)
                clear hlt'
                generalize wr = wz3 at HV HB HG ⊢
                have g0 := ten_cells HG.out
                obtain ⟨p0, p1, p2, p3, p4, p5, p6, p7, p8, p9⟩ := g0
                go_upto_region 28 with (go_at_call 71; refine (rn_num2 W _ _ _ (coms.length : Int) HB.out HV.out HU4.out (by have := HL.out; (try simp only [List.length_append]); omega)).mono ?_; rintro e' y4 ⟨v4, rfl, hr, hb, hf⟩; have HV1 := Aside0.mk hr; have HB1 := Aside0.mk hb; have HG1 := Aside0.mk (hf.blk HG.out (by decide)); clear hr hb hf)
                clear p0 p1 p2 p3 p4 p5 p6 p7 p8 p9 HV HB HG
                obtain ⟨p0, p1, p2, p3, p4, p5, p6, p7, p8, p9⟩ := ten_cells HG1.out
                go_wp2
                clear p0 p1 p2 p3 p4 p5 p6 p7 p8 p9
                go_loopg [3, 135] coms.length (fun kq v3 v135 w' => ∃ i : Nat, v135 = .int .i64 (i : Int) ∧ Aside0 (i ≤ coms.length ∧ kq = coms.length - i) ∧ Aside0 (Kd.R (Kd.int .u8) 5 w' W.heap.size (fun _ => True) v3 (bs3 ++ enc (coms.length : Int) ++ encMany encCo (coms.take i))) ∧ Aside0 (Below W.heap.size W w') ∧ Aside0 (w'.heap[W.heap.size]? = some (.cells #[.int .i64 err, .bool is, .string val, .int .u64 id, .int .i64 n, .slice A1 es.length n1, .slice A2 chs.length n2, .slice A3 cls.length n3, .slice A4 coms.length n4, .slice A5 refs.length n5] 30 (0, 0))))
                case atStart => exact ⟨0, rfl, ⟨by omega, by omega⟩, ⟨by simpa [encMany] using HV1.out⟩, HB1, HG1⟩
                case round =>
                  rename_i v3 v135
                  obtain ⟨i, rfl, HI2, HV, HB, HG⟩ := hrel
                  clear HV1 HB1 HG1
                  by_cases hlt : i < coms.length
                  · obtain ⟨ad, A', n', hA, k0, k1, k2, k3, k4, hP, hPn⟩ := at_Com HC.out.c4 i hlt
                    have hA' : A4 = some ad := hA
                    subst hA'
                    have h0 := pw_cell_below HB.out k0
                    have h1 := pw_cell_below HB.out k1
                    have h2 := pw_cell_below HB.out k2
                    have h3 := pw_cell_below HB.out k3
                    have h4 := pw_cell_below HB.out k4
                    have HP0 := Aside0.mk hP
                    clear k0 k1 k2 k3 k4 hP
                    have HIX := Aside0.mk (HI.out.2.2.2.1 _ (List.getElem_mem hlt))
                    have HTK := Aside0.mk (encMany_take encCo coms i hlt)
                    have HLE := Aside0.mk (encMany_le encCo coms i hlt)
                    have hx := co_at (l := coms) i hlt
                    rw [← hx] at HTK HLE HIX
                    generalize coms.getD i zeroCom = x at h0 h1 h2 h3 h4 HTK HLE HIX HP0 hPn
                    clear hx
                    have hlt' : (i : Int) < (coms.length : Int) := by omega
                    obtain ⟨i1, hi1⟩ : ∃ z, z = i + 1 := ⟨_, rfl⟩
                    have HWI := Aside0.mk (show wrap64 ((i : Int) + 1) = (i1 : Int) by have := HMM.out.2.2.2.1; unfold wrap64; omega)
                    have HI1 := Aside0.mk (show i1 = i + 1 ∧ i1 ≤ coms.length by omega)
                    have HXa := Aside0.mk (blk_new wr (.cells #[.int .u64 x.id, .slice A' x.ps.length n', .int .u64 x.gen, .int .u64 x.root, .string x.text] 44))
                    have HVa := Aside0.mk (Kd.R_alloc HV.out (.cells #[.int .u64 x.id, .slice A' x.ps.length n', .int .u64 x.gen, .int .u64 x.root, .string x.text] 44))
                    have HBa := Aside0.mk (below_alloc HB.out (.cells #[.int .u64 x.id, .slice A' x.ps.length n', .int .u64 x.gen, .int .u64 x.root, .string x.text] 44))
                    have HGa := Aside0.mk (blk_alloc HG.out (.cells #[.int .u64 x.id, .slice A' x.ps.length n', .int .u64 x.gen, .int .u64 x.root, .string x.text] 44))
                    obtain ⟨bs, hbs⟩ : ∃ z, z = bs3 ++ enc (coms.length : Int) ++ encMany encCo (coms.take i) := ⟨_, rfl⟩
                    have HBS := Aside0.mk hbs
                    rw [← hbs] at HVa
                    have HLX := Aside0.mk (show bs.length + (encCo x).length ≤ 1000000 by have h1 := HL.out; have h2 := HLE.out; rw [hbs]; simp only [List.length_append]; omega)
                    have HLx := Aside0.mk (show bs.length + ((enc x.id).length + ((enc (x.ps.length : Int)).length + ((encs x.ps).length + ((enc x.gen).length + ((enc x.root).length + (encT x.text).length))))) ≤ 1000000 by have h := HLX.out; simp only [encCo, List.length_append] at h; omega)
                    clear hi1 hlt hbs HV HB HG
                    go_upto_region 31 with (fail)
                    clear h0 h1 h2 h3 h4
                    have HX := HXa
                    have HV := HVa
                    have HB := HBa
                    have HG := HGa
                    clear HXa HVa HBa HGa
                    generalize wr.alloc (.cells #[.int .u64 x.id, .slice A' x.ps.length n', .int .u64 x.gen, .int .u64 x.root, .string x.text] 44) = w1 at HX HV HB HG ⊢
                    generalize wr.heap.size = gy at HX ⊢
                    have hpl : x.ps.length ≤ 1000000 := by have h := HLx.out; have := encs_ge x.ps; omega
                    have HPL := Aside0.mk hpl
                    have hwp : IntKind.u64.wrap (x.ps.length : Int) = (x.ps.length : Int) := by rw [IntKind.wrap_u64]; omega
                    have HUP := Aside0.mk (show U64 (x.ps.length : Int) from ⟨by omega, by omega⟩)
                    clear hpl
                    have cc00 := five_cells HX.out
                    have HVd := Aside0.mk (Kd.R_drew HV.out)
                    have HBd := Aside0.mk (below_drew HB.out)
                    have HXd := Aside0.mk (blk_drew HX.out)
                    have HGd := Aside0.mk (blk_drew HG.out)
                    go_region_held3 (fun w' => World.cell? w' ⟨gy, 0, none⟩ = some (.int .u64 x.id) ∧ World.cell? w' ⟨gy, 1, none⟩ = some (.slice A' x.ps.length n')) (first | exact ⟨cc00.1, cc00.2.1⟩ | exact ⟨cc01.1, cc01.2.1⟩ | exact ⟨cc02.1, cc02.2.1⟩ | go_keep) (first | (go_at_call 71; have hq := HV1.out; clear hq; refine (rn_num2 W _ _ _ ((x.ps.length : Int)) HB1.out HV1.out HUP.out (by have := HL.out; have := HLx.out; (try simp only [List.length_append]); (try simp only [List.length_nil]); omega)).mono ?_; rintro e' yc02 ⟨vc02, rfl, hr, hb, hf⟩; have HV2 := Aside0.mk hr; have HB2 := Aside0.mk hb; have HX2 := Aside0.mk (hf.blk HX1.out (by decide)); have HG2 := Aside0.mk (hf.blk HG1.out (by decide)); have cc02 := five_cells HX2.out; clear hr hb hf) | (go_at_call 71; refine (rn_num2 W _ _ _ (x.id) HBd.out HVd.out HIX.out.1 (by have := HL.out; have := HLx.out; (try simp only [List.length_append]); (try simp only [List.length_nil]); omega)).mono ?_; rintro e' yc01 ⟨vc01, rfl, hr, hb, hf⟩; have HV1 := Aside0.mk hr; have HB1 := Aside0.mk hb; have HX1 := Aside0.mk (hf.blk HXd.out (by decide)); have HG1 := Aside0.mk (hf.blk HGd.out (by decide)); have cc01 := five_cells HX1.out; clear hr hb hf))
                    have HVz := HV2
                    have HBz := HB2
                    have HXz := HX2
                    have HGz := HG2
                    clear cc00 cc01 cc02 HVd HBd HXd HGd HV1 HV2 HB1 HB2 HX1 HX2 HG1 HG2
                    clear HV
                    clear HB
                    clear HX
                    clear HG
                    have HV := HVz
                    have HB := HBz
                    have HX := HXz
                    have HG := HGz
                    clear HVz HBz HXz HGz
                    go_upto_region 32 with (fail)
                    obtain ⟨z0, z1, z2, z3, z4⟩ := five_cells HX.out
                    go_wp2
                    clear z0 z1 z2 z3 z4
                    have HVs := HV
                    have HBs := HB
                    have HXs := HX
                    have HGs := HG
                    clear HV HB HX HG
                    go_loopg [3, 151] x.ps.length (fun kq v3 v151 w' => ∃ j : Nat, v151 = .int .i64 (j : Int) ∧ Aside0 (j ≤ x.ps.length ∧ kq = x.ps.length - j) ∧ Aside0 (Kd.R (Kd.int .u8) 5 w' W.heap.size (fun _ => True) v3 (bs ++ enc x.id ++ enc (x.ps.length : Int) ++ encs (x.ps.take j))) ∧ Aside0 (Below W.heap.size W w') ∧ Aside0 (w'.heap[gy]? = some (.cells #[.int .u64 x.id, .slice A' x.ps.length n', .int .u64 x.gen, .int .u64 x.root, .string x.text] 44 (0, 0))) ∧ Aside0 (w'.heap[W.heap.size]? = some (.cells #[.int .i64 err, .bool is, .string val, .int .u64 id, .int .i64 n, .slice A1 es.length n1, .slice A2 chs.length n2, .slice A3 cls.length n3, .slice (some ad) coms.length n4, .slice A5 refs.length n5] 30 (0, 0))))
                    case atStart => exact ⟨0, rfl, ⟨by omega, by omega⟩, ⟨by simpa [encs_nil] using HVs.out⟩, HBs, HXs, HGs⟩
                    case round =>
                      rename_i v3 v151
                      obtain ⟨j, rfl, HJ, HV, HB, HX, HG⟩ := hrel
                      clear HVs HBs HXs HGs
                      by_cases hlj : j < x.ps.length
                      · obtain ⟨pd, hpd, h0⟩ := (show ReadsInt wr .u64 A' x.ps.length x.ps from Kd.reads_of_C (d := 0) (Kd.C_below HP0.out HB.out)).at_ (j : Int) (by omega) (by omega)
                        subst hpd
                        simp only [Int.toNat_natCast] at h0
                        have HTJ := Aside0.mk (encs_take x.ps j hlj)
                        have HPJ := Aside0.mk (HIX.out.2.1 _ (rd_mem x.ps j hlj))
                        have HLJ := Aside0.mk (encs_part x.ps j hlj)
                        generalize rd x.ps (j : Int) = pv at h0 HTJ HPJ HLJ
                        have hlj' : (j : Int) < (x.ps.length : Int) := by omega
                        obtain ⟨j1, hj1⟩ : ∃ z, z = j + 1 := ⟨_, rfl⟩
                        have HWJ := Aside0.mk (show wrap64 ((j : Int) + 1) = (j1 : Int) by have := HPL.out; unfold wrap64; omega)
                        have HJ1 := Aside0.mk (show j1 = j + 1 ∧ j1 ≤ x.ps.length by omega)
                        clear hj1 hlj
                        go_wp2_with (go_at_call 71; refine (rn_num2 W _ _ _ pv HB.out HV.out HPJ.out (by have := HLx.out; have := HLJ.out; simp only [List.length_append]; omega)).mono ?_; rintro e' yj ⟨vj, rfl, hr, hb, hf⟩; have HVj := Aside0.mk hr; have HBj := Aside0.mk hb; have HXj := Aside0.mk (hf.blk HX.out (by decide)); have HGj := Aside0.mk (hf.blk HG.out (by decide)); clear hr hb hf)
                        go_roundg (x.ps.length - j1)
                        case measure => have := HJ.out; have := HJ1.out; omega
                        case rel =>
                          refine ⟨j1, ?_, ⟨?_⟩, ⟨?_⟩, HBj, HXj, HGj⟩
                          · first | rfl | (rw [HWJ.out]; done) | simp
                          · exact ⟨HJ1.out.2, rfl⟩
                          · rw [HJ1.out.1, HTJ.out, ← List.append_assoc]; exact HVj.out
                      · have hJ2 : j = x.ps.length := by have := HJ.out; omega
                        have hlj' : ¬ (j : Int) < (x.ps.length : Int) := by omega
                        have hv := HV.out
                        rw [hJ2, List.take_length] at hv
                        have HVn := Aside0.mk hv
                        clear hv hJ2 hlj HV
                        have HV := HVn
                        clear HVn
                        go_upto_region 37 with (fail)
                        clear hlj'
                        generalize wr = w1 at HV HB HX HG ⊢
                        have cc10 := five_cells HX.out
                        have HVd := Aside0.mk (Kd.R_drew HV.out)
                        have HBd := Aside0.mk (below_drew HB.out)
                        have HXd := Aside0.mk (blk_drew HX.out)
                        have HGd := Aside0.mk (blk_drew HG.out)
                        go_region_held3 (fun w' => World.cell? w' ⟨gy, 2, none⟩ = some (.int .u64 x.gen) ∧ World.cell? w' ⟨gy, 3, none⟩ = some (.int .u64 x.root) ∧ World.cell? w' ⟨gy, 4, none⟩ = some (.string x.text)) (first | exact ⟨cc10.2.2.1, cc10.2.2.2.1, cc10.2.2.2.2⟩ | exact ⟨cc11.2.2.1, cc11.2.2.2.1, cc11.2.2.2.2⟩ | exact ⟨cc12.2.2.1, cc12.2.2.2.1, cc12.2.2.2.2⟩ | exact ⟨cc13.2.2.1, cc13.2.2.2.1, cc13.2.2.2.2⟩ | go_keep) (first | (go_at_call 69; have hq := HV2.out; clear hq; refine (rn_text2 W _ _ _ x.text HB2.out HV2.out (by have := HL.out; have := size_encT x.text; have := HLx.out; (try simp only [List.length_append]); (try simp only [List.length_nil]); omega)).mono ?_; rintro e' yc13 ⟨vc13, rfl, hr, hb, hf⟩; have HV3 := Aside0.mk hr; have HB3 := Aside0.mk hb; have HX3 := Aside0.mk (hf.blk HX2.out (by decide)); have HG3 := Aside0.mk (hf.blk HG2.out (by decide)); have cc13 := five_cells HX3.out; clear hr hb hf) | (go_at_call 71; have hq := HV1.out; clear hq; refine (rn_num2 W _ _ _ (x.root) HB1.out HV1.out HIX.out.2.2.2 (by have := HL.out; have := HLx.out; (try simp only [List.length_append]); (try simp only [List.length_nil]); omega)).mono ?_; rintro e' yc12 ⟨vc12, rfl, hr, hb, hf⟩; have HV2 := Aside0.mk hr; have HB2 := Aside0.mk hb; have HX2 := Aside0.mk (hf.blk HX1.out (by decide)); have HG2 := Aside0.mk (hf.blk HG1.out (by decide)); have cc12 := five_cells HX2.out; clear hr hb hf) | (go_at_call 71; refine (rn_num2 W _ _ _ (x.gen) HBd.out HVd.out HIX.out.2.2.1 (by have := HL.out; have := HLx.out; (try simp only [List.length_append]); (try simp only [List.length_nil]); omega)).mono ?_; rintro e' yc11 ⟨vc11, rfl, hr, hb, hf⟩; have HV1 := Aside0.mk hr; have HB1 := Aside0.mk hb; have HX1 := Aside0.mk (hf.blk HXd.out (by decide)); have HG1 := Aside0.mk (hf.blk HGd.out (by decide)); have cc11 := five_cells HX1.out; clear hr hb hf))
                        have HVz := HV3
                        have HBz := HB3
                        have HXz := HX3
                        have HGz := HG3
                        clear cc10 cc11 cc12 cc13 HVd HBd HXd HGd HV1 HV2 HV3 HB1 HB2 HB3 HX1 HX2 HX3 HG1 HG2 HG3
                        clear HV
                        clear HB
                        clear HX
                        clear HG
                        have HV := HVz
                        have HB := HBz
                        have HX := HXz
                        have HG := HGz
                        clear HVz HBz HXz HGz
                        go_wp2
                        go_roundg (coms.length - i1)
                        case measure => have := HI2.out; have := HI1.out; omega
                        case rel =>
                          refine ⟨i1, ?_, ⟨?_⟩, ⟨?_⟩, HB, HG⟩
                          · first | rfl | (rw [HWI.out]; done) | simp
                          · exact ⟨HI1.out.2, rfl⟩
                          · rw [HI1.out.1, HTK.out, ← List.append_assoc, ← HBS.out]; simpa [encCo, List.append_assoc] using HV.out
                  · have hI2 : i = coms.length := by have := HI2.out; omega
                    have hlt' : ¬ (i : Int) < (coms.length : Int) := by omega
                    have hv := HV.out
                    rw [hI2, List.take_length] at hv
                    have HVn := Aside0.mk hv
                    clear hv hI2 hlt HV
                    have HV := HVn
                    clear HVn
                    obtain ⟨bs4, hnb⟩ : ∃ z, z = bs3 ++ enc (coms.length : Int) ++ encMany encCo coms := ⟨_, rfl⟩
                    have HBS4 := Aside0.mk hnb
                    rw [← hnb] at HV
                    have HLn := Aside0.mk (show bs4.length + (((enc (refs.length : Int)).length + (encMany encRf refs).length)) ≤ 1000000 by have h := HL.out; rw [hnb]; simp only [List.length_append]; omega)
                    clear hnb HL
                    have HL := HLn
                    clear HLn
                    go_upto_region 39 with (fail)
                    clear hlt'
                    generalize wr = wz4 at HV HB HG ⊢
                    have g0 := ten_cells HG.out
                    obtain ⟨p0, p1, p2, p3, p4, p5, p6, p7, p8, p9⟩ := g0
                    go_upto_region 40 with (go_at_call 71; refine (rn_num2 W _ _ _ (refs.length : Int) HB.out HV.out HU5.out (by have := HL.out; (try simp only [List.length_append]); omega)).mono ?_; rintro e' y5 ⟨v5, rfl, hr, hb, hf⟩; have HV1 := Aside0.mk hr; have HB1 := Aside0.mk hb; have HG1 := Aside0.mk (hf.blk HG.out (by decide)); clear hr hb hf)
                    clear p0 p1 p2 p3 p4 p5 p6 p7 p8 p9 HV HB HG
                    obtain ⟨p0, p1, p2, p3, p4, p5, p6, p7, p8, p9⟩ := ten_cells HG1.out
                    go_wp2
                    clear p0 p1 p2 p3 p4 p5 p6 p7 p8 p9
                    go_loopg [3, 179] refs.length (fun kq v3 v179 w' => ∃ i : Nat, v179 = .int .i64 (i : Int) ∧ Aside0 (i ≤ refs.length ∧ kq = refs.length - i) ∧ Aside0 (Kd.R (Kd.int .u8) 5 w' W.heap.size (fun _ => True) v3 (bs4 ++ enc (refs.length : Int) ++ encMany encRf (refs.take i))) ∧ Aside0 (Below W.heap.size W w') ∧ Aside0 (w'.heap[W.heap.size]? = some (.cells #[.int .i64 err, .bool is, .string val, .int .u64 id, .int .i64 n, .slice A1 es.length n1, .slice A2 chs.length n2, .slice A3 cls.length n3, .slice A4 coms.length n4, .slice A5 refs.length n5] 30 (0, 0))))
                    case atStart => exact ⟨0, rfl, ⟨by omega, by omega⟩, ⟨by simpa [encMany] using HV1.out⟩, HB1, HG1⟩
                    case round =>
                      rename_i v3 v179
                      obtain ⟨i, rfl, HI2, HV, HB, HG⟩ := hrel
                      clear HV1 HB1 HG1
                      by_cases hlt : i < refs.length
                      · obtain ⟨ad, hA, h0, h1, h2⟩ := at_T62 (Kd.C_below HC.out.c5 HB.out) (i : Int) (by omega) (by show (i : Int) < (refs.length : Int); omega)
                        have hA' : A5 = some ad := hA
                        subst hA'
                        simp only [Int.toNat_natCast] at h0 h1 h2
                        have HIX := Aside0.mk (HI.out.2.2.2.2 _ (List.getElem_mem hlt))
                        have HTK := Aside0.mk (encMany_take encRf refs i hlt)
                        have HLE := Aside0.mk (encMany_le encRf refs i hlt)
                        have hx := rf_at (l := refs) i hlt
                        rw [← hx] at HTK HLE HIX
                        generalize rd_T62 refs (i : Int) = x at h0 h1 h2 HTK HLE HIX
                        clear hx
                        have hlt' : (i : Int) < (refs.length : Int) := by omega
                        obtain ⟨i1, hi1⟩ : ∃ z, z = i + 1 := ⟨_, rfl⟩
                        have HWI := Aside0.mk (show wrap64 ((i : Int) + 1) = (i1 : Int) by have := HMM.out.2.2.2.2; unfold wrap64; omega)
                        have HI1 := Aside0.mk (show i1 = i + 1 ∧ i1 ≤ refs.length by omega)
                        have HXa := Aside0.mk (blk_new wr (.cells #[.string x.f0, .bool x.f1, .int .u64 x.f2] 62))
                        have HVa := Aside0.mk (Kd.R_alloc HV.out (.cells #[.string x.f0, .bool x.f1, .int .u64 x.f2] 62))
                        have HBa := Aside0.mk (below_alloc HB.out (.cells #[.string x.f0, .bool x.f1, .int .u64 x.f2] 62))
                        have HGa := Aside0.mk (blk_alloc HG.out (.cells #[.string x.f0, .bool x.f1, .int .u64 x.f2] 62))
                        obtain ⟨bs, hbs⟩ : ∃ z, z = bs4 ++ enc (refs.length : Int) ++ encMany encRf (refs.take i) := ⟨_, rfl⟩
                        have HBS := Aside0.mk hbs
                        rw [← hbs] at HVa
                        have HLX := Aside0.mk (show bs.length + (encRf x).length ≤ 1000000 by have h1 := HL.out; have h2 := HLE.out; rw [hbs]; simp only [List.length_append]; omega)
                        have HLx := Aside0.mk (show bs.length + ((encT x.f0).length + ((encB x.f1).length + (enc x.f2).length)) ≤ 1000000 by have h := HLX.out; simp only [encRf, List.length_append] at h; omega)
                        clear hi1 hlt hbs HV HB HG
                        go_upto_region 43 with (fail)
                        clear h0 h1 h2
                        have HX := HXa
                        have HV := HVa
                        have HB := HBa
                        have HG := HGa
                        clear HXa HVa HBa HGa
                        generalize wr.alloc (.cells #[.string x.f0, .bool x.f1, .int .u64 x.f2] 62) = w1 at HX HV HB HG ⊢
                        generalize wr.heap.size = gy at HX ⊢
                        have cc00 := tri_cells HX.out
                        have HVd := Aside0.mk (Kd.R_drew HV.out)
                        have HBd := Aside0.mk (below_drew HB.out)
                        have HXd := Aside0.mk (blk_drew HX.out)
                        have HGd := Aside0.mk (blk_drew HG.out)
                        go_region_held3 (fun w' => World.cell? w' ⟨gy, 0, none⟩ = some (.string x.f0) ∧ World.cell? w' ⟨gy, 1, none⟩ = some (.bool x.f1) ∧ World.cell? w' ⟨gy, 2, none⟩ = some (.int .u64 x.f2)) (first | exact ⟨cc00.1, cc00.2.1, cc00.2.2⟩ | exact ⟨cc01.1, cc01.2.1, cc01.2.2⟩ | exact ⟨cc02.1, cc02.2.1, cc02.2.2⟩ | exact ⟨cc03.1, cc03.2.1, cc03.2.2⟩ | go_keep) (first | (go_at_call 71; have hq := HV2.out; clear hq; refine (rn_num2 W _ _ _ (x.f2) HB2.out HV2.out HIX.out (by have := HL.out; have := HLx.out; (try simp only [List.length_append]); (try simp only [List.length_nil]); omega)).mono ?_; rintro e' yc03 ⟨vc03, rfl, hr, hb, hf⟩; have HV3 := Aside0.mk hr; have HB3 := Aside0.mk hb; have HX3 := Aside0.mk (hf.blk HX2.out (by decide)); have HG3 := Aside0.mk (hf.blk HG2.out (by decide)); have cc03 := tri_cells HX3.out; clear hr hb hf) | (go_at_call 70; have hq := HV1.out; clear hq; refine (rn_flag2 W _ _ _ x.f1 HB1.out HV1.out (by have := HL.out; have := HLx.out; (try simp only [List.length_append]); (try simp only [List.length_nil]); omega)).mono ?_; rintro e' yc02 ⟨vc02, rfl, hr, hb, hf⟩; have HV2 := Aside0.mk hr; have HB2 := Aside0.mk hb; have HX2 := Aside0.mk (hf.blk HX1.out (by decide)); have HG2 := Aside0.mk (hf.blk HG1.out (by decide)); have cc02 := tri_cells HX2.out; clear hr hb hf) | (go_at_call 69; refine (rn_text2 W _ _ _ x.f0 HBd.out HVd.out (by have := HL.out; have := size_encT x.f0; have := HLx.out; (try simp only [List.length_append]); (try simp only [List.length_nil]); omega)).mono ?_; rintro e' yc01 ⟨vc01, rfl, hr, hb, hf⟩; have HV1 := Aside0.mk hr; have HB1 := Aside0.mk hb; have HX1 := Aside0.mk (hf.blk HXd.out (by decide)); have HG1 := Aside0.mk (hf.blk HGd.out (by decide)); have cc01 := tri_cells HX1.out; clear hr hb hf))
                        have HVz := HV3
                        have HBz := HB3
                        have HXz := HX3
                        have HGz := HG3
                        clear cc00 cc01 cc02 cc03 HVd HBd HXd HGd HV1 HV2 HV3 HB1 HB2 HB3 HX1 HX2 HX3 HG1 HG2 HG3
                        clear HV
                        clear HB
                        clear HX
                        clear HG
                        have HV := HVz
                        have HB := HBz
                        have HX := HXz
                        have HG := HGz
                        clear HVz HBz HXz HGz
                        go_wp2
                        go_roundg (refs.length - i1)
                        case measure => have := HI2.out; have := HI1.out; omega
                        case rel =>
                          refine ⟨i1, ?_, ⟨?_⟩, ⟨?_⟩, HB, HG⟩
                          · first | rfl | (rw [HWI.out]; done) | simp
                          · exact ⟨HI1.out.2, rfl⟩
                          · rw [HI1.out.1, HTK.out, ← List.append_assoc, ← HBS.out]; simpa [encRf, List.append_assoc] using HV.out
                      · have hI2 : i = refs.length := by have := HI2.out; omega
                        have hlt' : ¬ (i : Int) < (refs.length : Int) := by omega
                        have hv := HV.out
                        rw [hI2, List.take_length] at hv
                        have HVn := Aside0.mk hv
                        clear hv hI2 hlt HV
                        have HV := HVn
                        clear HVn
                        go_wp2
                        go_ret
                        refine ⟨_, rfl, ?_, HB.out⟩
                        have h := HV.out
                        rw [HBS4.out, HBS3.out, HBS2.out, HBS1.out, HBS0.out] at h
                        simpa [encRp, encLs, List.append_assoc] using h
end Go.Proofs.Ytcegkljkmnpkaaa.Sep
namespace Go.Proofs.Ytcegkljkmnpkaaa.Sep
set_option linter.unusedSimpArgs false
set_option linter.unusedVariables false
open Go.RowKit Go.Proofs.Ytcegkljkmnpkaaa.PCore Go.Proofs.Ytcegkljkmnpkaaa.Plain Go.Proofs.YtcegkljkmnpkaaaW.PrintWords Go.Proofs.YtcegkljkmnpkaaaW.PrintLast Go.Proofs.YtcegkljkmnpkaaaW.PrintMore
open Go.Proofs.Ytcegkljkmnpkaaa.PDat (S53 S47 S57 S59 S62 k53 k47 k57 k59 k62 k53_mkM k47_mkM k59_mkM k62_mkM)
/-- A row's reading that stops at the first fault. -/
def rdStop {α : Type} (f : RS → α × RS) : Nat → RS → List α × RS
  | 0, s => ([], s)
  | n + 1, s => if s.2 = true then ([], s) else ((f s).1 :: (rdStop f n (f s).2).1, (rdStop f n (f s).2).2)
theorem stop_bad {α : Type} (f : RS → α × RS) (n : Nat) {s : RS} (h : s.2 = true) : rdStop f n s = ([], s) := by
  cases n with
  | zero => rfl
  | succ n => rw [rdStop, if_pos h]
theorem stop_snoc {α : Type} (f : RS → α × RS) (j : Nat) (s s0 : RS) (xs : List α) (N : Nat) (hb : s.2 = false) (h : rdStop f N s0 = (xs ++ (rdStop f (j + 1) s).1, (rdStop f (j + 1) s).2)) : rdStop f N s0 = ((xs ++ [(f s).1]) ++ (rdStop f j (f s).2).1, (rdStop f j (f s).2).2) := by
  rw [h, rdStop, if_neg (by rw [hb]; decide)]
  simp
/-- Two readings that differ at most behind a fault. -/
def Sim {α : Type} (a b : α × RS) : Prop := a = b ∨ (a.2.2 = true ∧ b.2.2 = true)
def Mon {α : Type} (f : RS → α × RS) : Prop := ∀ s : RS, s.2 = true → (f s).2.2 = true
theorem stop_mon {α : Type} (f : RS → α × RS) (n : Nat) : Mon (rdStop f n) := fun s h => by rw [stop_bad f n h]; exact h
theorem many_mon {α : Type} (f : RS → α × RS) (hf : Mon f) (n : Nat) : Mon (rdMany f n) := fun s h => many_bad f hf n s h
theorem stop_sim {α : Type} (f f' : RS → α × RS) (hf : Mon f) (hm : Mon f') (hs : ∀ s, Sim (f' s) (f s)) : ∀ (n : Nat) (s : RS), Sim (rdStop f' n s) (rdMany f n s)
  | 0, s => .inl rfl
  | n + 1, s => by
    by_cases hb : s.2 = true
    · exact .inr ⟨stop_mon f' (n + 1) s hb, many_mon f hf (n + 1) s hb⟩
    · have e1 : rdStop f' (n + 1) s = ((f' s).1 :: (rdStop f' n (f' s).2).1, (rdStop f' n (f' s).2).2) := by rw [rdStop, if_neg hb]
      have e2 : rdMany f (n + 1) s = ((f s).1 :: (rdMany f n (f s).2).1, (rdMany f n (f s).2).2) := rfl
      rw [e1, e2]
      rcases hs s with h | ⟨h1, h2⟩
      · rw [h]
        rcases stop_sim f f' hf hm hs n (f s).2 with h3 | ⟨h3, h4⟩
        · rw [h3]; exact .inl rfl
        · exact .inr ⟨h3, h4⟩
      · exact .inr ⟨stop_mon f' n _ h1, many_mon f hf n _ h2⟩
theorem seq_mon {α β : Type} (f : RS → α × RS) (g : α → RS → β × RS) (hf : Mon f) (hg : ∀ a, Mon (g a)) : Mon (seqR f g) := fun s h => hg _ _ (hf s h)
theorem seq_sim {α β : Type} (f f' : RS → α × RS) (g g' : α → RS → β × RS) (hs : ∀ s, Sim (f' s) (f s)) (hg : ∀ a s, Sim (g' a s) (g a s)) (m : ∀ a, Mon (g a)) (m' : ∀ a, Mon (g' a)) (s : RS) : Sim (seqR f' g' s) (seqR f g s) := by
  rcases hs s with h | ⟨h1, h2⟩
  · show Sim (g' (f' s).1 (f' s).2) (g (f s).1 (f s).2)
    rw [h]
    exact hg _ _
  · exact .inr ⟨m' _ _ h1, m _ _ h2⟩
theorem num_mon (m : Int) : Mon (rdNum m) := fun _ h => rdNum_bad h
theorem flag_mon : Mon rdFlag := fun _ h => rdFlag_bad h
theorem text_mon (m : Int) : Mon (rdText m) := fun _ h => rdText_bad h
theorem ret_mon {α β : Type} (k : α) : Mon (fun s : RS => (k, s)) := fun _ h => h
theorem sim_rfl {α : Type} (f : RS → α × RS) (s : RS) : Sim (f s) (f s) := .inl rfl
def rdLsS {α : Type} (f : RS → α × RS) : RS → List α × RS := seqR (rdNum MO) fun n => rdStop f n.toNat
theorem lsS_mon {α : Type} (f : RS → α × RS) : Mon (rdLsS f) := seq_mon _ _ (num_mon MO) (fun n => stop_mon f _)
theorem ls_mon {α : Type} (f : RS → α × RS) (hf : Mon f) : Mon (rdLs f) := ls_bad f hf
theorem ls_sim {α : Type} (f f' : RS → α × RS) (hf : Mon f) (hm : Mon f') (hs : ∀ s, Sim (f' s) (f s)) (s : RS) : Sim (rdLsS f' s) (rdLs f s) :=
  seq_sim _ _ _ _ (sim_rfl _) (fun n s => stop_sim f f' hf hm hs _ s) (fun n => many_mon f hf _) (fun n => stop_mon f' _) s
def rdCoS : RS → Com × RS := seqR (rdNum M64) fun a => seqR (rdLsS (rdNum M64)) fun p => seqR (rdNum M64) fun c => seqR (rdNum M64) fun d => seqR (rdText LT) fun e s => (⟨a, p, c, d, e⟩, s)
theorem rdCoS_mon : Mon rdCoS := seq_mon _ _ (num_mon _) fun _ => seq_mon _ _ (lsS_mon _) fun _ => seq_mon _ _ (num_mon _) fun _ => seq_mon _ _ (num_mon _) fun _ => seq_mon _ _ (text_mon _) fun _ => fun _ h => h
theorem rdCo_sim (s : RS) : Sim (rdCoS s) (rdCo s) := by
  unfold rdCoS rdCo
  refine seq_sim _ _ _ _ (sim_rfl _) ?_ ?_ ?_ s
  · intro a s
    refine seq_sim _ _ _ _ (ls_sim _ _ (num_mon _) (num_mon _) (sim_rfl _)) ?_ ?_ ?_ s
    · exact fun _ _ => .inl rfl
    · (intros; repeat (first | with_reducible exact num_mon _ | with_reducible exact flag_mon | with_reducible exact text_mon _ | with_reducible exact lsS_mon _ | with_reducible exact ls_mon _ (num_mon _) | (with_reducible refine seq_mon _ _ ?_ (fun _ => ?_)) | exact (fun _ h => h)))
    · (intros; repeat (first | with_reducible exact num_mon _ | with_reducible exact flag_mon | with_reducible exact text_mon _ | with_reducible exact lsS_mon _ | with_reducible exact ls_mon _ (num_mon _) | (with_reducible refine seq_mon _ _ ?_ (fun _ => ?_)) | exact (fun _ h => h)))
  · (intros; repeat (first | with_reducible exact num_mon _ | with_reducible exact flag_mon | with_reducible exact text_mon _ | with_reducible exact lsS_mon _ | with_reducible exact ls_mon _ (num_mon _) | (with_reducible refine seq_mon _ _ ?_ (fun _ => ?_)) | exact (fun _ h => h)))
  · (intros; repeat (first | with_reducible exact num_mon _ | with_reducible exact flag_mon | with_reducible exact text_mon _ | with_reducible exact lsS_mon _ | with_reducible exact ls_mon _ (num_mon _) | (with_reducible refine seq_mon _ _ ?_ (fun _ => ?_)) | exact (fun _ h => h)))
/-- What the reference reads. -/
def rdRpS : RS → Rp × RS := seqR (rdNum E31) fun e => seqR (rdFlag) fun i => seqR (rdText LT) fun v => seqR (rdNum M64) fun k => seqR (rdNum M64) fun u => seqR (rdLsS rdE) fun l1 => seqR (rdLsS rdCh) fun l2 => seqR (rdLsS rdCl) fun l3 => seqR (rdLsS rdCoS) fun l4 => seqR (rdLsS rdRf) fun l5 s => (⟨e, i, v, k, zag u, l1, l2, l3, l4, l5⟩, s)
theorem rdE_mon : Mon rdE := rdE_bad
theorem rdCh_mon : Mon rdCh := rdCh_bad
theorem rdCl_mon : Mon rdCl := rdCl_bad
theorem rdCo_mon : Mon rdCo := rdCo_bad
theorem rdRf_mon : Mon rdRf := rdRf_bad
theorem rdRp_sim (s : RS) : Sim (rdRpS s) (rdRp s) := by
  unfold rdRpS rdRp
  refine seq_sim _ _ _ _ (sim_rfl _) ?_ ?_ ?_ s
  rotate_left
  · (intros; repeat (first | with_reducible exact num_mon _ | with_reducible exact flag_mon | with_reducible exact text_mon _ | with_reducible exact lsS_mon _ | with_reducible exact ls_mon _ (num_mon _) | with_reducible exact ls_mon _ rdE_mon | with_reducible exact ls_mon _ rdCh_mon | with_reducible exact ls_mon _ rdCl_mon | with_reducible exact ls_mon _ rdCo_mon | with_reducible exact ls_mon _ rdRf_mon | (with_reducible refine seq_mon _ _ ?_ (fun _ => ?_)) | exact (fun _ h => h)))
  · (intros; repeat (first | with_reducible exact num_mon _ | with_reducible exact flag_mon | with_reducible exact text_mon _ | with_reducible exact lsS_mon _ | with_reducible exact ls_mon _ (num_mon _) | with_reducible exact ls_mon _ rdE_mon | with_reducible exact ls_mon _ rdCh_mon | with_reducible exact ls_mon _ rdCl_mon | with_reducible exact ls_mon _ rdCo_mon | with_reducible exact ls_mon _ rdRf_mon | (with_reducible refine seq_mon _ _ ?_ (fun _ => ?_)) | exact (fun _ h => h)))
  intro a0 s
  refine seq_sim _ _ _ _ (sim_rfl _) ?_ ?_ ?_ s
  rotate_left
  · (intros; repeat (first | with_reducible exact num_mon _ | with_reducible exact flag_mon | with_reducible exact text_mon _ | with_reducible exact lsS_mon _ | with_reducible exact ls_mon _ (num_mon _) | with_reducible exact ls_mon _ rdE_mon | with_reducible exact ls_mon _ rdCh_mon | with_reducible exact ls_mon _ rdCl_mon | with_reducible exact ls_mon _ rdCo_mon | with_reducible exact ls_mon _ rdRf_mon | (with_reducible refine seq_mon _ _ ?_ (fun _ => ?_)) | exact (fun _ h => h)))
  · (intros; repeat (first | with_reducible exact num_mon _ | with_reducible exact flag_mon | with_reducible exact text_mon _ | with_reducible exact lsS_mon _ | with_reducible exact ls_mon _ (num_mon _) | with_reducible exact ls_mon _ rdE_mon | with_reducible exact ls_mon _ rdCh_mon | with_reducible exact ls_mon _ rdCl_mon | with_reducible exact ls_mon _ rdCo_mon | with_reducible exact ls_mon _ rdRf_mon | (with_reducible refine seq_mon _ _ ?_ (fun _ => ?_)) | exact (fun _ h => h)))
  intro a1 s
  refine seq_sim _ _ _ _ (sim_rfl _) ?_ ?_ ?_ s
  rotate_left
  · (intros; repeat (first | with_reducible exact num_mon _ | with_reducible exact flag_mon | with_reducible exact text_mon _ | with_reducible exact lsS_mon _ | with_reducible exact ls_mon _ (num_mon _) | with_reducible exact ls_mon _ rdE_mon | with_reducible exact ls_mon _ rdCh_mon | with_reducible exact ls_mon _ rdCl_mon | with_reducible exact ls_mon _ rdCo_mon | with_reducible exact ls_mon _ rdRf_mon | (with_reducible refine seq_mon _ _ ?_ (fun _ => ?_)) | exact (fun _ h => h)))
  · (intros; repeat (first | with_reducible exact num_mon _ | with_reducible exact flag_mon | with_reducible exact text_mon _ | with_reducible exact lsS_mon _ | with_reducible exact ls_mon _ (num_mon _) | with_reducible exact ls_mon _ rdE_mon | with_reducible exact ls_mon _ rdCh_mon | with_reducible exact ls_mon _ rdCl_mon | with_reducible exact ls_mon _ rdCo_mon | with_reducible exact ls_mon _ rdRf_mon | (with_reducible refine seq_mon _ _ ?_ (fun _ => ?_)) | exact (fun _ h => h)))
  intro a2 s
  refine seq_sim _ _ _ _ (sim_rfl _) ?_ ?_ ?_ s
  rotate_left
  · (intros; repeat (first | with_reducible exact num_mon _ | with_reducible exact flag_mon | with_reducible exact text_mon _ | with_reducible exact lsS_mon _ | with_reducible exact ls_mon _ (num_mon _) | with_reducible exact ls_mon _ rdE_mon | with_reducible exact ls_mon _ rdCh_mon | with_reducible exact ls_mon _ rdCl_mon | with_reducible exact ls_mon _ rdCo_mon | with_reducible exact ls_mon _ rdRf_mon | (with_reducible refine seq_mon _ _ ?_ (fun _ => ?_)) | exact (fun _ h => h)))
  · (intros; repeat (first | with_reducible exact num_mon _ | with_reducible exact flag_mon | with_reducible exact text_mon _ | with_reducible exact lsS_mon _ | with_reducible exact ls_mon _ (num_mon _) | with_reducible exact ls_mon _ rdE_mon | with_reducible exact ls_mon _ rdCh_mon | with_reducible exact ls_mon _ rdCl_mon | with_reducible exact ls_mon _ rdCo_mon | with_reducible exact ls_mon _ rdRf_mon | (with_reducible refine seq_mon _ _ ?_ (fun _ => ?_)) | exact (fun _ h => h)))
  intro a3 s
  refine seq_sim _ _ _ _ (sim_rfl _) ?_ ?_ ?_ s
  rotate_left
  · (intros; repeat (first | with_reducible exact num_mon _ | with_reducible exact flag_mon | with_reducible exact text_mon _ | with_reducible exact lsS_mon _ | with_reducible exact ls_mon _ (num_mon _) | with_reducible exact ls_mon _ rdE_mon | with_reducible exact ls_mon _ rdCh_mon | with_reducible exact ls_mon _ rdCl_mon | with_reducible exact ls_mon _ rdCo_mon | with_reducible exact ls_mon _ rdRf_mon | (with_reducible refine seq_mon _ _ ?_ (fun _ => ?_)) | exact (fun _ h => h)))
  · (intros; repeat (first | with_reducible exact num_mon _ | with_reducible exact flag_mon | with_reducible exact text_mon _ | with_reducible exact lsS_mon _ | with_reducible exact ls_mon _ (num_mon _) | with_reducible exact ls_mon _ rdE_mon | with_reducible exact ls_mon _ rdCh_mon | with_reducible exact ls_mon _ rdCl_mon | with_reducible exact ls_mon _ rdCo_mon | with_reducible exact ls_mon _ rdRf_mon | (with_reducible refine seq_mon _ _ ?_ (fun _ => ?_)) | exact (fun _ h => h)))
  intro a4 s
  refine seq_sim _ _ _ _ (ls_sim _ _ rdE_mon rdE_mon (sim_rfl _)) ?_ ?_ ?_ s
  rotate_left
  · (intros; repeat (first | with_reducible exact num_mon _ | with_reducible exact flag_mon | with_reducible exact text_mon _ | with_reducible exact lsS_mon _ | with_reducible exact ls_mon _ (num_mon _) | with_reducible exact ls_mon _ rdE_mon | with_reducible exact ls_mon _ rdCh_mon | with_reducible exact ls_mon _ rdCl_mon | with_reducible exact ls_mon _ rdCo_mon | with_reducible exact ls_mon _ rdRf_mon | (with_reducible refine seq_mon _ _ ?_ (fun _ => ?_)) | exact (fun _ h => h)))
  · (intros; repeat (first | with_reducible exact num_mon _ | with_reducible exact flag_mon | with_reducible exact text_mon _ | with_reducible exact lsS_mon _ | with_reducible exact ls_mon _ (num_mon _) | with_reducible exact ls_mon _ rdE_mon | with_reducible exact ls_mon _ rdCh_mon | with_reducible exact ls_mon _ rdCl_mon | with_reducible exact ls_mon _ rdCo_mon | with_reducible exact ls_mon _ rdRf_mon | (with_reducible refine seq_mon _ _ ?_ (fun _ => ?_)) | exact (fun _ h => h)))
  intro a5 s
  refine seq_sim _ _ _ _ (ls_sim _ _ rdCh_mon rdCh_mon (sim_rfl _)) ?_ ?_ ?_ s
  rotate_left
  · (intros; repeat (first | with_reducible exact num_mon _ | with_reducible exact flag_mon | with_reducible exact text_mon _ | with_reducible exact lsS_mon _ | with_reducible exact ls_mon _ (num_mon _) | with_reducible exact ls_mon _ rdE_mon | with_reducible exact ls_mon _ rdCh_mon | with_reducible exact ls_mon _ rdCl_mon | with_reducible exact ls_mon _ rdCo_mon | with_reducible exact ls_mon _ rdRf_mon | (with_reducible refine seq_mon _ _ ?_ (fun _ => ?_)) | exact (fun _ h => h)))
  · (intros; repeat (first | with_reducible exact num_mon _ | with_reducible exact flag_mon | with_reducible exact text_mon _ | with_reducible exact lsS_mon _ | with_reducible exact ls_mon _ (num_mon _) | with_reducible exact ls_mon _ rdE_mon | with_reducible exact ls_mon _ rdCh_mon | with_reducible exact ls_mon _ rdCl_mon | with_reducible exact ls_mon _ rdCo_mon | with_reducible exact ls_mon _ rdRf_mon | (with_reducible refine seq_mon _ _ ?_ (fun _ => ?_)) | exact (fun _ h => h)))
  intro a6 s
  refine seq_sim _ _ _ _ (ls_sim _ _ rdCl_mon rdCl_mon (sim_rfl _)) ?_ ?_ ?_ s
  rotate_left
  · (intros; repeat (first | with_reducible exact num_mon _ | with_reducible exact flag_mon | with_reducible exact text_mon _ | with_reducible exact lsS_mon _ | with_reducible exact ls_mon _ (num_mon _) | with_reducible exact ls_mon _ rdE_mon | with_reducible exact ls_mon _ rdCh_mon | with_reducible exact ls_mon _ rdCl_mon | with_reducible exact ls_mon _ rdCo_mon | with_reducible exact ls_mon _ rdRf_mon | (with_reducible refine seq_mon _ _ ?_ (fun _ => ?_)) | exact (fun _ h => h)))
  · (intros; repeat (first | with_reducible exact num_mon _ | with_reducible exact flag_mon | with_reducible exact text_mon _ | with_reducible exact lsS_mon _ | with_reducible exact ls_mon _ (num_mon _) | with_reducible exact ls_mon _ rdE_mon | with_reducible exact ls_mon _ rdCh_mon | with_reducible exact ls_mon _ rdCl_mon | with_reducible exact ls_mon _ rdCo_mon | with_reducible exact ls_mon _ rdRf_mon | (with_reducible refine seq_mon _ _ ?_ (fun _ => ?_)) | exact (fun _ h => h)))
  intro a7 s
  refine seq_sim _ _ _ _ (ls_sim _ _ rdCo_mon rdCoS_mon rdCo_sim) ?_ ?_ ?_ s
  rotate_left
  · (intros; repeat (first | with_reducible exact num_mon _ | with_reducible exact flag_mon | with_reducible exact text_mon _ | with_reducible exact lsS_mon _ | with_reducible exact ls_mon _ (num_mon _) | with_reducible exact ls_mon _ rdE_mon | with_reducible exact ls_mon _ rdCh_mon | with_reducible exact ls_mon _ rdCl_mon | with_reducible exact ls_mon _ rdCo_mon | with_reducible exact ls_mon _ rdRf_mon | (with_reducible refine seq_mon _ _ ?_ (fun _ => ?_)) | exact (fun _ h => h)))
  · (intros; repeat (first | with_reducible exact num_mon _ | with_reducible exact flag_mon | with_reducible exact text_mon _ | with_reducible exact lsS_mon _ | with_reducible exact ls_mon _ (num_mon _) | with_reducible exact ls_mon _ rdE_mon | with_reducible exact ls_mon _ rdCh_mon | with_reducible exact ls_mon _ rdCl_mon | with_reducible exact ls_mon _ rdCo_mon | with_reducible exact ls_mon _ rdRf_mon | (with_reducible refine seq_mon _ _ ?_ (fun _ => ?_)) | exact (fun _ h => h)))
  intro a8 s
  refine seq_sim _ _ _ _ (ls_sim _ _ rdRf_mon rdRf_mon (sim_rfl _)) ?_ ?_ ?_ s
  rotate_left
  · (intros; repeat (first | with_reducible exact num_mon _ | with_reducible exact flag_mon | with_reducible exact text_mon _ | with_reducible exact lsS_mon _ | with_reducible exact ls_mon _ (num_mon _) | with_reducible exact ls_mon _ rdE_mon | with_reducible exact ls_mon _ rdCh_mon | with_reducible exact ls_mon _ rdCl_mon | with_reducible exact ls_mon _ rdCo_mon | with_reducible exact ls_mon _ rdRf_mon | (with_reducible refine seq_mon _ _ ?_ (fun _ => ?_)) | exact (fun _ h => h)))
  · (intros; repeat (first | with_reducible exact num_mon _ | with_reducible exact flag_mon | with_reducible exact text_mon _ | with_reducible exact lsS_mon _ | with_reducible exact ls_mon _ (num_mon _) | with_reducible exact ls_mon _ rdE_mon | with_reducible exact ls_mon _ rdCh_mon | with_reducible exact ls_mon _ rdCl_mon | with_reducible exact ls_mon _ rdCo_mon | with_reducible exact ls_mon _ rdRf_mon | (with_reducible refine seq_mon _ _ ?_ (fun _ => ?_)) | exact (fun _ h => h)))
  exact fun _ _ => .inl rfl
def ofRpS (b : List Int) : Rp × Int := if rdDone (rdRpS (b, false)).2 = true then ((rdRpS (b, false)).1, 0) else (noRp, 20)
theorem done_bad {s : RS} (h : s.2 = true) : rdDone s = false := by
  rw [← Bool.not_eq_true, rdDone_iff]
  intro e
  rw [e] at h
  cases h
theorem ofRpS_ofRp (b : List Int) : ofRpS b = ofRp b := by
  unfold ofRpS ofRp
  rcases rdRp_sim (b, false) with h | ⟨h1, h2⟩
  · rw [h]
  · rw [done_bad h1, done_bad h2]
    rfl
/-- The reference's reader at its block. -/
structure RsAt (B g : Nat) (w : World) (s : RS) : Prop where
  rd : RdAt 91 B g w s
theorem RsAt.fr {B g : Nat} {w w1 : World} {s s' : RS} (h : RsAt B g w s) (hr : RdAt 91 B g w1 s') (hf : Fr B [91] w w1) : RsAt B g w1 s' := ⟨hr⟩
theorem RsAt.below {B g : Nat} {w w1 : World} {s : RS} (h : RsAt B g w s) (hb : Below w.heap.size w w1) : RsAt B g w1 s := ⟨h.rd.below hb⟩
theorem RsAt.set {B g gy t : Nat} {w : World} {s : RS} {cs : Array Value} (h : RsAt B g w s) (hy : w.heap[gy]? = some (.cells cs t (0, 0))) (ht : 91 ≠ t ∧ 5 ≠ t) (hB : B ≤ gy) (hne : g ≠ gy) (j : Nat) (u : Value) : RsAt B g (w.setCell ⟨gy, j, none⟩ u) s := ⟨rd_set h.rd hy ht hB j u⟩
theorem RsAt.row {B B' g t : Nat} {w w1 : World} {s : RS} (h : RsAt B g w s) (hf : Fr B' [t] w w1) (hB : B ≤ B') (ht : 91 ≠ t ∧ 5 ≠ t) : RsAt B g w1 s := ⟨h.rd.fr (hf.lower hB) (by simpa using ht)⟩
theorem RsAt.lt2 {B g : Nat} {w : World} {s : RS} (h : RsAt B g w s) : g < w.heap.size := by
  obtain ⟨A, c, hb, _⟩ := h.rd
  exact blk_lt hb
theorem RsAt.badc {B g : Nat} {w : World} {s : RS} (h : RsAt B g w s) : w.cell? ⟨g, 1, none⟩ = some (.bool s.2) := by
  obtain ⟨A, c, hb, _⟩ := h.rd
  exact (blk_cell hb 1).trans rfl
set_option maxHeartbeats 16000000 in
set_option maxRecDepth 100000 in
theorem rs_side (B g : Nat) (s : RS) (W : World) (h : RsAt B g W s) :
    Calls Try.prog 51 #[.pointer (some ⟨g, 0, none⟩)] W fun e W1 => e = .returned (.agg #[.bool (rdSd s).1.f0, .string (rdSd s).1.f1]) ∧ RsAt B g W1 (rdSd s).2 ∧ Fr B [91] W W1 := by
  have huT := Try.underlying57
  have huX := Try.underlying91
  obtain ⟨a, s1, h1⟩ : ∃ x t, rdFlag s = (x, t) := ⟨_, _, rfl⟩
  have HS1 := Aside0.mk h1
  obtain ⟨b, s2, h2⟩ : ∃ x t, rdText LT s1 = (x, t) := ⟨_, _, rfl⟩
  have HS2 := Aside0.mk h2
  have HE := Aside0.mk (show rdSd s = (⟨a, b⟩, s2) by simp only [rdSd, seqR, h1, h2])
  clear h1 h2
  have HR0 := Aside0.mk (h.below (below_alloc (Below.refl W.heap.size W) (.cells #[.bool false, .string ⟨#[]⟩] 57)))
  have HQ0 := Aside0.mk (blk_new W (.cells #[.bool false, .string ⟨#[]⟩] 57))
  have HF0 := Aside0.mk ((Fr.refl B [91] W).allocs (.cells #[.bool false, .string ⟨#[]⟩] 57))
  have HGX := Aside0.mk h.lt2
  have HBW := Aside0.mk h.rd.lt
  clear h
  go_enter Try.func51, Try.ntmps51
  go_upto_region 1 with (fail)
  generalize W.alloc (.cells #[.bool false, .string ⟨#[]⟩] 57) = w0 at HR0 HQ0 HF0 ⊢
  obtain ⟨gr, hgr⟩ : ∃ z, z = W.heap.size := ⟨_, rfl⟩
  rw [← hgr] at HQ0 ⊢
  have HGR := Aside0.mk hgr
  clear hgr
  have k0 := True.intro
  go_upto_region 2 with (go_at_call 48; refine (rf_flag B g _ _ HR0.out.rd).mono ?_; rw [HS1.out]; rintro e w1 ⟨rfl, hr, hf⟩; have HRb := Aside0.mk (HR0.out.fr hr hf); have HQb := Aside0.mk (hf.blk HQ0.out (by decide)); have HFb := Aside0.mk (HF0.out.trans hf); clear hr hf)
  have HRc := Aside0.mk (HRb.out.below (below_alloc (Below.refl w1.heap.size w1) (.cells #[.bool a, .string ⟨#[]⟩] 57)))
  have HQc := Aside0.mk (blk_alloc HQb.out (.cells #[.bool a, .string ⟨#[]⟩] 57))
  have HYc := Aside0.mk (blk_new w1 (.cells #[.bool a, .string ⟨#[]⟩] 57))
  have HFc := Aside0.mk (HFb.out.allocs (.cells #[.bool a, .string ⟨#[]⟩] 57))
  have HGY := Aside0.mk (show gr < w1.heap.size from blk_lt HQb.out)
  clear k0 HRb HQb HFb HR0 HQ0 HF0
  generalize w1.alloc (.cells #[.bool a, .string ⟨#[]⟩] 57) = w2 at HRc HQc HYc HFc ⊢
  generalize w1.heap.size = gy at HYc HGY ⊢
  have HGYW := Aside0.mk (show W.heap.size ≤ gy ∧ B ≤ gy ∧ g ≠ gy ∧ gr ≠ gy by have h1 := HGY.out; have h2 := HGR.out; have h3 := HGX.out; have h4 := HBW.out; omega)
  clear HGY
  have k0 := True.intro
  go_upto_region 3 with (go_at_call 49; refine (rf_text B g _ 131072 _ HRc.out.rd (by decide)).mono ?_; rw [HS2.out]; rintro e v2 ⟨rfl, hr, hf⟩; have HRd := Aside0.mk (HRc.out.fr hr hf); have HQd := Aside0.mk (hf.blk HQc.out (by decide)); have hyd := hf.blk HYc.out (by decide); have HYd := Aside0.mk hyd; have HFd := Aside0.mk (HFc.out.trans hf); obtain ⟨q0, q1⟩ := pair_cells hyd; have z0 := blk_frozen hyd 1; clear hr hf hyd)
  have HRe := Aside0.mk (HRd.out.set HYd.out (by decide) HGYW.out.2.1 HGYW.out.2.2.1 1 (.string b))
  have HQe := Aside0.mk (blk_other HQd.out ⟨gy, 1, none⟩ HGYW.out.2.2.2 (.string b))
  have HYe := Aside0.mk (show (v2.setCell ⟨gy, 1, none⟩ (.string b)).heap[gy]? = some (.cells #[.bool a, .string b] 57 (0, 0)) from (blk_set HYd.out 1 (.string b)).trans rfl)
  have HFe := Aside0.mk (HFd.out.setNew (p := ⟨gy, 1, none⟩) HGYW.out.1 (.string b))
  clear k0 HRc HQc HYc HFc HRd HQd HYd HFd q0 q1 z0
  generalize (v2.setCell ⟨gy, 1, none⟩ (.string b)) = u2 at HRe HQe HYe HFe ⊢
  have HRc := HRe
  have HQc := HQe
  have HYc := HYe
  have HFc := HFe
  clear HRe HQe HYe HFe
  obtain ⟨y0, y1⟩ := pair_cells HYc.out
  obtain ⟨r0, r1⟩ := pair_cells HQc.out
  have zr := fun j => blk_frozen HQc.out j
  obtain ⟨hk, hf⟩ := set2_new HQc.out HFc.out (Nat.le_of_eq HGR.out.symm) (.bool a) (.string b)
  have HKe := Aside0.mk hk
  have HFe := Aside0.mk hf
  have HRe := Aside0.mk (((((HRc.out).set (HQc.out) (by decide) (show B ≤ gr by have h1 := HGR.out; have h2 := HBW.out; omega) (show g ≠ gr by have h1 := HGR.out; have h2 := HGX.out; omega) 0 (.bool a))).set (blk_set (HQc.out) 0 (.bool a)) (by decide) (show B ≤ gr by have h1 := HGR.out; have h2 := HBW.out; omega) (show g ≠ gr by have h1 := HGR.out; have h2 := HGX.out; omega) 1 (.string b)))
  clear hk hf
  go_wp2
  generalize (World.setCell (World.setCell u2 ⟨gr, 0, none⟩ (.bool a)) ⟨gr, 1, none⟩ (.string b)) = wz at HKe HFe HRe ⊢
  refine bodyPost_ret (results_cell_row rfl _ _ gr 57 #[.bool a, .string b] (0, 0) _ rfl HKe.out huT rfl (by kernel_rfl)) rfl ?_
  rw [HE.out]
  exact ⟨rfl, HRe.out, HFe.out⟩
/-- Reading a commit: where it stands. -/
structure CsSt (W : World) (B g gr gy : Nat) (w : World) (s : RS) (id gn rt : Int) (tx : ByteArray) (v : Value) (ps : List Int) : Prop where
  rr : RsAt B g w s
  bY : w.heap[gy]? = some (.cells #[.int .u64 id, v, .int .u64 gn, .int .u64 rt, .string tx] 44 (0, 0))
  bQ : w.heap[gr]? = some (.cells #[.int .u64 0, .slice none 0 0, .int .u64 0, .int .u64 0, .string ⟨#[]⟩] 44 (0, 0))
  hR : Kd.R (Kd.int .u64) 23 w W.heap.size (fun _ => True) v ps
  fr : Fr B [91] W w
  ne : W.heap.size ≤ gy ∧ B ≤ gy ∧ g ≠ gy ∧ gr ≠ gy
section
variable {W : World} {B g gr gy : Nat} {w w1 : World} {s s' : RS} {id gn rt : Int} {tx : ByteArray} {v : Value} {ps : List Int}
theorem CsSt.read (h : CsSt W B g gr gy w s id gn rt tx v ps) (hr : RdAt 91 B g w1 s') (hf : Fr B [91] w w1) : CsSt W B g gr gy w1 s' id gn rt tx v ps :=
  ⟨h.rr.fr hr hf, hf.blk h.bY (by decide), hf.blk h.bQ (by decide), hf.R h.hR (int_E (by decide)), h.fr.trans hf, h.ne⟩
theorem CsSt.below (h : CsSt W B g gr gy w s id gn rt tx v ps) (hb : Below w.heap.size w w1) : CsSt W B g gr gy w1 s id gn rt tx v ps :=
  ⟨h.rr.below hb, blk_below h.bY hb, blk_below h.bQ hb, Kd.R_below h.hR hb, h.fr.trans (Fr.of_below hb), h.ne⟩
theorem CsSt.c (h : CsSt W B g gr gy w s id gn rt tx v ps) : w.cell? ⟨gy, 0, none⟩ = some (.int .u64 id) ∧ w.cell? ⟨gy, 1, none⟩ = some v ∧ w.cell? ⟨gy, 2, none⟩ = some (.int .u64 gn) ∧ w.cell? ⟨gy, 3, none⟩ = some (.int .u64 rt) ∧ w.cell? ⟨gy, 4, none⟩ = some (.string tx) := five_cells h.bY
theorem CsSt.z (h : CsSt W B g gr gy w s id gn rt tx v ps) (j : Nat) : w.frozen? ⟨gy, j, none⟩ = false := blk_frozen h.bY j
theorem CsSt.set (h : CsSt W B g gr gy w s id gn rt tx v ps) (j : Nat) (u : Value) {gn' rt' : Int} {tx' : ByteArray} (he : (#[.int .u64 id, v, .int .u64 gn, .int .u64 rt, .string tx] : Array Value).setIfInBounds j u = #[.int .u64 id, v, .int .u64 gn', .int .u64 rt', .string tx']) : CsSt W B g gr gy (w.setCell ⟨gy, j, none⟩ u) s id gn' rt' tx' v ps :=
  ⟨h.rr.set h.bY (by decide) h.ne.2.1 h.ne.2.2.1 j u, by rw [blk_set h.bY j u, he], blk_other h.bQ _ h.ne.2.2.2 _, Kd.R_set h.hR h.bY (by decide) j u, h.fr.setNew (p := ⟨gy, j, none⟩) h.ne.1 u, h.ne⟩
theorem CsSt.push (h : CsSt W B g gr gy w s id gn rt tx v ps) {v1 : Value} {qs : List Int} (ho : Kd.R (Kd.int .u64) 23 w1 W.heap.size (fun _ => True) v1 qs) (hf : Fr W.heap.size [23] w w1) (hb : Below W.heap.size w w1) (hB : B ≤ W.heap.size) :
    CsSt W B g gr gy (w1.setCell ⟨gy, 1, none⟩ v1) s id gn rt tx v1 qs :=
  have hY := hf.blk h.bY (by decide)
  ⟨(h.rr.row hf hB (by decide)).set hY (by decide) h.ne.2.1 h.ne.2.2.1 1 v1, (blk_set hY 1 v1).trans rfl, blk_other (hf.blk h.bQ (by decide)) _ h.ne.2.2.2 _, Kd.R_set ho hY (by decide) 1 v1, (h.fr.more hb).setNew (p := ⟨gy, 1, none⟩) h.ne.1 v1, h.ne⟩
end
theorem wrap_up (i : Nat) (h : i ≤ 1000000) : IntKind.u64.wrap ((i : Int) + 1) = ((i + 1 : Nat) : Int) := by rw [IntKind.wrap_u64]; omega
set_option maxHeartbeats 32000000 in
set_option maxRecDepth 100000 in
theorem rs_commit (B g : Nat) (s : RS) (W : World) (h : RsAt B g W s) :
    Calls Try.prog 52 #[.pointer (some ⟨g, 0, none⟩)] W fun e W1 => ∃ v, e = .returned (.agg #[.int .u64 (rdCoS s).1.id, v, .int .u64 (rdCoS s).1.gen, .int .u64 (rdCoS s).1.root, .string (rdCoS s).1.text]) ∧ Kd.R (Kd.int .u64) 23 W1 W.heap.size (fun _ => True) v (rdCoS s).1.ps ∧ RsAt B g W1 (rdCoS s).2 ∧ Fr B [91] W W1 := by
  have huT := Try.underlying44
  have huX := Try.underlying91
  have hFs := RdAt.fine h.rd
  obtain ⟨id, s1, h1⟩ : ∃ x t, rdNum M64 s = (x, t) := ⟨_, _, rfl⟩
  have HS1 := Aside0.mk h1
  have F1 : Fine s1 := by have hz := fine_num hFs M64; rw [h1] at hz; exact hz
  obtain ⟨q, s2, h2⟩ : ∃ x t, rdNum MO s1 = (x, t) := ⟨_, _, rfl⟩
  have HS2 := Aside0.mk h2
  have hq := num_in F1 MO (by decide)
  rw [h2] at hq
  simp only at hq
  obtain ⟨N, hN⟩ : ∃ N : Nat, q = (N : Int) := ⟨q.toNat, by omega⟩
  subst hN
  have HNB := Aside0.mk (show N ≤ 16384 by have h9 : (N : Int) ≤ 16384 := hq.2.1; omega)
  have HBW := Aside0.mk h.rd.lt
  have HR0 := Aside0.mk (h.below (below_alloc (Below.refl W.heap.size W) (.cells #[.int .u64 0, .slice none 0 0, .int .u64 0, .int .u64 0, .string ⟨#[]⟩] 44)))
  have HQ0 := Aside0.mk (blk_new W (.cells #[.int .u64 0, .slice none 0 0, .int .u64 0, .int .u64 0, .string ⟨#[]⟩] 44))
  have HF0 := Aside0.mk ((Fr.refl B [91] W).allocs (.cells #[.int .u64 0, .slice none 0 0, .int .u64 0, .int .u64 0, .string ⟨#[]⟩] 44))
  have HGX := Aside0.mk h.lt2
  clear h h1 h2 hq hFs F1
  go_enter Try.func52, Try.ntmps52
  go_upto_region 1 with (fail)
  generalize W.alloc (.cells #[.int .u64 0, .slice none 0 0, .int .u64 0, .int .u64 0, .string ⟨#[]⟩] 44) = w0 at HR0 HQ0 HF0 ⊢
  obtain ⟨gr, hgr⟩ : ∃ z, z = W.heap.size := ⟨_, rfl⟩
  rw [← hgr] at HQ0 ⊢
  have HGR := Aside0.mk hgr
  clear hgr
  have k0 := True.intro
  go_upto_region 2 with (go_at_call 47; refine (rf_num B g _ 18446744073709551615 _ HR0.out.rd).mono ?_; rw [HS1.out]; rintro e w1 ⟨rfl, hr, hf⟩; have HRb := Aside0.mk (HR0.out.fr hr hf); have HQb := Aside0.mk (hf.blk HQ0.out (by decide)); have HFb := Aside0.mk (HF0.out.trans hf); clear hr hf)
  have HGY := Aside0.mk (show gr < w1.heap.size from blk_lt HQb.out)
  have HC0 := Aside0.mk (show CsSt W B g gr w1.heap.size (w1.alloc (.cells #[.int .u64 id, .slice none 0 0, .int .u64 0, .int .u64 0, .string ⟨#[]⟩] 44)) s1 id 0 0 ⟨#[]⟩ (.slice none 0 0) [] from ⟨HRb.out.below (below_alloc (Below.refl _ _) _), blk_new _ _, blk_alloc HQb.out _, Kd.R_nil _ _ _ _ _, HFb.out.allocs _, by have a1 := HGY.out; have a2 := HGR.out; have a3 := HGX.out; have a4 := HBW.out; omega⟩)
  clear k0 HRb HQb HFb HR0 HQ0 HF0
  generalize w1.alloc (.cells #[.int .u64 id, .slice none 0 0, .int .u64 0, .int .u64 0, .string ⟨#[]⟩] 44) = w2 at HC0 ⊢
  generalize w1.heap.size = gy at HC0 HGY ⊢
  go_upto_region 3 with (go_at_call 47; refine (rf_num B g _ 16384 _ HC0.out.rr.rd).mono ?_; rw [HS2.out]; rintro e w3 ⟨rfl, hr, hf⟩; have HC3 := Aside0.mk (HC0.out.read hr hf); clear hr hf)
  clear HC0
  go_upto_block 0 with fail
  go_cut [] from 11 to 29 (fun w' => ∃ (t : RS) (v : Value) (ps : List Int), Aside0 (rdStop (rdNum M64) N s2 = (ps, t)) ∧ Aside0 (CsSt W B g gr gy w' t id 0 0 ⟨#[]⟩ v ps))
  case first =>
    go_wp2_with fail
    go_loopg [5] N (fun kq v5 w' => ∃ (i j : Nat) (t : RS) (v : Value) (ps : List Int), v5 = .int .u64 (i : Int) ∧ Aside0 (kq = j ∧ i + j = N ∧ ps.length = i) ∧ Aside0 (rdStop (rdNum M64) N s2 = (ps ++ (rdStop (rdNum M64) j t).1, (rdStop (rdNum M64) j t).2)) ∧ Aside0 (CsSt W B g gr gy w' t id 0 0 ⟨#[]⟩ v ps))
    case atStart => exact ⟨0, N, s2, .slice none 0 0, [], rfl, ⟨rfl, by omega, rfl⟩, ⟨by simp⟩, HC3⟩
    case round =>
      obtain ⟨i, j, t, v, ps, rfl, HJ, HE, HS⟩ := hrel
      clear HC3
      have hbad := HS.out.rr.badc
      by_cases hgo : 0 < j ∧ t.2 = false
      · obtain ⟨j, rfl⟩ : ∃ k, j = k + 1 := ⟨j - 1, by omega⟩
        have HSB := Aside0.mk hgo.2
        rw [hgo.2] at hbad
        have hlt1 : decide ((i : Int) < (N : Int)) = true := decide_eq_true (by have := HJ.out; omega)
        have hlt2 : decide (i < N) = true := decide_eq_true (by have := HJ.out; omega)
        have HWI := Aside0.mk (wrap_up i (by have := HJ.out; have := HNB.out; omega))
        have HSd := Aside0.mk (HS.out.below (below_drew (Below.refl wr.heap.size wr)))
        have hc1 := HS.out.c.2.1
        have hcd : wr.drew.cell? ⟨gy, 1, none⟩ = some v := HSd.out.c.2.1
        have HBz := Aside0.mk HBW.out
        clear hgo
        go_wp2
        go_region_law (first | (refine Kd.R_append_step (Kd.int .u64) (w0 := w5) W.heap.size (by rfl) (.tmp 24) (.tmp 27) 42 23 (.int .u64 0) 8 rfl Try.underlying42 (by kernel_rfl) rfl (by decide) (by omega) v ps (rdNum M64 t).1 [.int .u64 (rdNum M64 t).1] (fun _ => True) (fun _ => False) rfl rfl rfl (fun _ hk => hk.elim) (fun _ _ => trivial) HS5.out.hR (Below.refl _ _) HS5.out.fr.size (by have := HJ.out; have := HNB.out; omega) ?_; intro v1 w6 ho hb hgr hat; obtain ⟨Ax, nx, cx, hvx⟩ := R_slice' ho; subst hvx; have hf6 := (show Fr W.heap.size [23] w5 w6 by obtain ⟨inner, h⟩ := Kd.R_own HS5.out.hR; exact Fr.of_grown h (Nat.le_refl _) hgr (by simp)); have HS6 := Aside0.mk (HS5.out.push ho hf6 hb HBz.out); have hy6 := hf6.blk HS5.out.bY (by decide); have hc61 : w6.cell? ⟨gy, 1, none⟩ = some v := (blk_cell hy6 1).trans rfl; have hz61 : w6.frozen? ⟨gy, 1, none⟩ = false := blk_frozen hy6 1; clear ho hb hgr hat hf6 hy6) | (go_simp; (go_at_call 47; refine (rf_num B g t 18446744073709551615 _ HSd.out.rr.rd).mono ?_; rintro e w5 ⟨rfl, hr, hf⟩; have HS5 := Aside0.mk (HSd.out.read hr hf); have hc51 := HS5.out.c.2.1; have hc5b : (w5.alloc (.cells #[.int .u64 (rdNum M64 t).1] 23)).cell? ⟨gy, 1, none⟩ = some v := (HS5.out.below (below_alloc (Below.refl _ _) _)).c.2.1; clear hr hf)))
        all_goals (
          go_wp2
          go_roundg j
          case measure => have := HJ.out; omega
          case rel => exact ⟨i + 1, j, (rdNum M64 t).2, .slice Ax nx cx, ps ++ [(rdNum M64 t).1], by rw [HWI.out], ⟨rfl, by have := HJ.out; omega, by have := HJ.out; simp; omega⟩, ⟨stop_snoc _ _ _ _ _ _ HSB.out HE.out⟩, ⟨HS6.out⟩⟩)
      · have HXE := Aside0.mk (show rdStop (rdNum M64) N s2 = (ps, t) by
          rw [HE.out]
          cases hs : t.2 with
          | true => rw [stop_bad (rdNum M64) _ hs]; simp
          | false => have : j = 0 := (by omega : ∀ j : Nat, ¬ 0 < j → j = 0) j (fun h => hgo ⟨h, hs⟩); subst this; simp [rdStop])
        rcases (show (decide ((i : Int) < (N : Int)) = false ∧ decide (i < N) = false) ∨ (decide ((i : Int) < (N : Int)) = true ∧ decide (i < N) = true ∧ t.2 = true) by
          have h1 := HJ.out
          cases hs : t.2 with
          | true => by_cases hi : i = N
                    · exact .inl ⟨decide_eq_false (by omega), decide_eq_false (by omega)⟩
                    · exact .inr ⟨decide_eq_true (by omega), decide_eq_true (by omega), rfl⟩
          | false => exact .inl ⟨decide_eq_false (by have : ¬ 0 < j := fun h => hgo ⟨h, hs⟩; omega), decide_eq_false (by have : ¬ 0 < j := fun h => hgo ⟨h, hs⟩; omega)⟩) with hcmp | hcmp
        · have hcm1 := hcmp.1
          have hcm2 := hcmp.2
          clear hcmp hgo
          go_wp2_with fail
          go_meet
          case rel => exact ⟨t, v, ps, HXE, HS⟩
        · have hcm1 := hcmp.1
          have hcm2 := hcmp.2.1
          rw [hcmp.2.2] at hbad
          clear hcmp hgo
          go_wp2_with fail
          go_meet
          case rel => exact ⟨t, v, ps, HXE, HS⟩
  case rest =>
    obtain ⟨t, v, ps, HE2, HS⟩ := hcut
    clear HC3
    obtain ⟨gn, s4, h4⟩ : ∃ x u, rdNum M64 t = (x, u) := ⟨_, _, rfl⟩
    have HS4 := Aside0.mk h4
    obtain ⟨rt, s5, h5⟩ : ∃ x u, rdNum M64 s4 = (x, u) := ⟨_, _, rfl⟩
    have HS5 := Aside0.mk h5
    obtain ⟨tx, s6, h6⟩ : ∃ x u, rdText LT s5 = (x, u) := ⟨_, _, rfl⟩
    have HS6 := Aside0.mk h6
    have HRC := Aside0.mk (show rdCoS s = (⟨id, ps, gn, rt, tx⟩, s6) by
      have hl : rdLsS (rdNum M64) s1 = (ps, t) := by
        rw [rdLsS, seqR, HS2.out]
        simp only [Int.toNat_natCast]
        exact HE2.out
      simp only [rdCoS, seqR, HS1.out, hl, h4, h5, h6])
    clear h4 h5 h6
    go_upto_region 8 with (go_at_call 47; refine (rf_num B g _ 18446744073709551615 _ HS.out.rr.rd).mono ?_; rw [HS4.out]; rintro e w7 ⟨rfl, hr, hf⟩; have HC7 := Aside0.mk (HS.out.read hr hf); have c7 := HC7.out.c.2.2.1; have z7 := HC7.out.z 2; clear hr hf)
    have HD7 := Aside0.mk (HC7.out.set 2 (.int .u64 gn) (gn' := gn) (rt' := 0) (tx' := ⟨#[]⟩) rfl)
    clear c7 z7 HC7 HS
    generalize w7.setCell ⟨gy, 2, none⟩ (.int .u64 gn) = u7 at HD7 ⊢
    go_upto_region 9 with (go_at_call 47; refine (rf_num B g _ 18446744073709551615 _ HD7.out.rr.rd).mono ?_; rw [HS5.out]; rintro e w8 ⟨rfl, hr, hf⟩; have HC8 := Aside0.mk (HD7.out.read hr hf); have c8 := HC8.out.c.2.2.2.1; have z8 := HC8.out.z 3; clear hr hf)
    have HD8 := Aside0.mk (HC8.out.set 3 (.int .u64 rt) (gn' := gn) (rt' := rt) (tx' := ⟨#[]⟩) rfl)
    clear c8 z8 HC8 HD7
    generalize w8.setCell ⟨gy, 3, none⟩ (.int .u64 rt) = u8 at HD8 ⊢
    go_upto_region 10 with (go_at_call 49; refine (rf_text B g _ 131072 _ HD8.out.rr.rd (by decide)).mono ?_; rw [HS6.out]; rintro e w9 ⟨rfl, hr, hf⟩; have HC9 := Aside0.mk (HD8.out.read hr hf); have c9 := HC9.out.c.2.2.2.2; have z9 := HC9.out.z 4; clear hr hf)
    have HD9 := Aside0.mk (HC9.out.set 4 (.string tx) (gn' := gn) (rt' := rt) (tx' := tx) rfl)
    clear c9 z9 HC9 HD8
    generalize w9.setCell ⟨gy, 4, none⟩ (.string tx) = u9 at HD9 ⊢
    obtain ⟨y0, y1, y2, y3, y4⟩ := HD9.out.c
    obtain ⟨r0, r1, r2, r3, r4⟩ := five_cells HD9.out.bQ
    have zr := fun j => blk_frozen HD9.out.bQ j
    obtain ⟨hk, hf⟩ := set5_new HD9.out.bQ HD9.out.fr (Nat.le_of_eq HGR.out.symm) (.int .u64 id) v (.int .u64 gn) (.int .u64 rt) (.string tx)
    have HKe := Aside0.mk hk
    have HFe := Aside0.mk hf
    have hBr : B ≤ gr := by have h1 := HGR.out; have h2 := HBW.out; omega
    have hXr : g ≠ gr := by have h1 := HGR.out; have h2 := HGX.out; omega
    have HRe := Aside0.mk (((((((((((HD9.out.rr).set (HD9.out.bQ) (by decide) hBr hXr 0 (.int .u64 id))).set (blk_set (HD9.out.bQ) 0 (.int .u64 id)) (by decide) hBr hXr 1 (v))).set (blk_set (blk_set (HD9.out.bQ) 0 (.int .u64 id)) 1 (v)) (by decide) hBr hXr 2 (.int .u64 gn))).set (blk_set (blk_set (blk_set (HD9.out.bQ) 0 (.int .u64 id)) 1 (v)) 2 (.int .u64 gn)) (by decide) hBr hXr 3 (.int .u64 rt))).set (blk_set (blk_set (blk_set (blk_set (HD9.out.bQ) 0 (.int .u64 id)) 1 (v)) 2 (.int .u64 gn)) 3 (.int .u64 rt)) (by decide) hBr hXr 4 (.string tx)))
    have HVe := Aside0.mk ((Kd.R_set (Kd.R_set (Kd.R_set (Kd.R_set (Kd.R_set HD9.out.hR (HD9.out.bQ) (by decide) 0 (.int .u64 id)) (blk_set (HD9.out.bQ) 0 (.int .u64 id)) (by decide) 1 (v)) (blk_set (blk_set (HD9.out.bQ) 0 (.int .u64 id)) 1 (v)) (by decide) 2 (.int .u64 gn)) (blk_set (blk_set (blk_set (HD9.out.bQ) 0 (.int .u64 id)) 1 (v)) 2 (.int .u64 gn)) (by decide) 3 (.int .u64 rt)) (blk_set (blk_set (blk_set (blk_set (HD9.out.bQ) 0 (.int .u64 id)) 1 (v)) 2 (.int .u64 gn)) 3 (.int .u64 rt)) (by decide) 4 (.string tx)))
    clear hk hf hBr hXr
    obtain ⟨Av, nv, cv, hv⟩ := R_slice' HD9.out.hR
    subst hv
    go_wp2
    generalize (World.setCell (World.setCell (World.setCell (World.setCell (World.setCell u9 ⟨gr, 0, none⟩ (.int .u64 id)) ⟨gr, 1, none⟩ (.slice Av nv cv)) ⟨gr, 2, none⟩ (.int .u64 gn)) ⟨gr, 3, none⟩ (.int .u64 rt)) ⟨gr, 4, none⟩ (.string tx)) = wz at HKe HFe HRe HVe ⊢
    refine bodyPost_ret (results_cell_row rfl _ _ gr 44 #[.int .u64 id, .slice Av nv cv, .int .u64 gn, .int .u64 rt, .string tx] (0, 0) _ rfl HKe.out huT rfl (by kernel_rfl)) rfl ?_
    rw [HRC.out]
    exact ⟨_, rfl, HVe.out, HRe.out, HFe.out⟩
end Go.Proofs.Ytcegkljkmnpkaaa.Sep
namespace Go.Proofs.Ytcegkljkmnpkaaa.Sep
set_option linter.unusedSimpArgs false
set_option linter.unusedVariables false
open Go.RowKit Go.Proofs.Ytcegkljkmnpkaaa.PCore Go.Proofs.Ytcegkljkmnpkaaa.Plain Go.Proofs.YtcegkljkmnpkaaaW.PrintWords Go.Proofs.YtcegkljkmnpkaaaW.PrintLast Go.Proofs.YtcegkljkmnpkaaaW.PrintMore
open Go.Proofs.Ytcegkljkmnpkaaa.PDat (S53 S47 S57 S59 S62 k53 k47 k57 k59 k62 k53_mkM k47_mkM k59_mkM k62_mkM)
theorem rf_boxR {W w3 : World} {A0 : Option Addr} {c0 : Nat} {b : List Int} (hC0 : Kd.C (Kd.int .u8) W A0 b.length b) (hc0 : b.length ≤ c0) (hF : Fine (b, false)) (hB : Below W.heap.size W w3) :
    RdAt 91 W.heap.size w3.heap.size (w3.alloc (.cells #[.slice A0 b.length c0, .bool false] 91)) (b, false) := by
  refine ⟨A0, c0, blk_new _ _, hB.size, hc0, Kd.C_below (Kd.C_below hC0 hB) (below_alloc (Below.refl _ _) _), fun hp ad e => .inl ?_, hF⟩
  obtain ⟨ad', e', hc⟩ := (show ReadsInt W .u8 A0 b.length b from Kd.reads_of_C (d := 0) hC0).2.2 hp
  rw [e] at e'
  injection e' with e'
  subst e'
  exact World.block_lt_of_cell? _ _ (hc 0 hp)
/-- The reference reading an answer: where it stands. -/
structure RqSt (W : World) (g gr gy : Nat) (ok : Nat → Prop) (w : World) (s : RS) (e : Int) (i : Bool) (v : ByteArray) (k n : Int) (V1 V2 V3 V4 V5 : Value) (es : List Entry) (chs : List Change) (cls : List Clash) (coms : List Com) (refs : List Ref) : Prop where
  rr : RsAt W.heap.size g w s
  bY : w.heap[gy]? = some (.cells #[.int .i64 e, .bool i, .string v, .int .u64 k, .int .i64 n, V1, V2, V3, V4, V5] 30 (0, 0))
  bQ : w.heap[gr]? = some (.cells #[.int .i64 0, .bool false, .string ⟨#[]⟩, .int .u64 0, .int .i64 0, .slice none 0 0, .slice none 0 0, .slice none 0 0, .slice none 0 0, .slice none 0 0] 30 (0, 0))
  r1 : Kd.R k53 53 w W.heap.size ok V1 es
  r2 : Kd.R k47 47 w W.heap.size ok V2 chs
  r3 : Kd.R k59 59 w W.heap.size ok V3 cls
  r4 : Kd.R kC 44 w W.heap.size ok V4 coms
  r5 : Kd.R k62 62 w W.heap.size ok V5 refs
  fr : Fr W.heap.size [91] W w
  ne : W.heap.size ≤ gy ∧ g ≠ gy ∧ gr ≠ gy
section
variable {W : World} {g gr gy : Nat} {ok : Nat → Prop} {w w1 : World} {s s' : RS} {e : Int} {i : Bool} {v : ByteArray} {k n : Int} {V1 V2 V3 V4 V5 : Value} {es : List Entry} {chs : List Change} {cls : List Clash} {coms : List Com} {refs : List Ref}
theorem RqSt.readR (h : RqSt W g gr gy ok w s e i v k n V1 V2 V3 V4 V5 es chs cls coms refs) (hr : RsAt W.heap.size g w1 s') (hf : Fr W.heap.size [91] w w1) : RqSt W g gr gy ok w1 s' e i v k n V1 V2 V3 V4 V5 es chs cls coms refs :=
  ⟨hr, hf.blk h.bY (by decide), hf.blk h.bQ (by decide), hf.R h.r1 (en_E (by decide)), hf.R h.r2 (ch_E (by decide)), hf.R h.r3 (cl_E (by decide)), hf.R h.r4 (coE (by decide) (by decide)), hf.R h.r5 (rf_E (by decide)), h.fr.trans hf, h.ne⟩
theorem RqSt.read (h : RqSt W g gr gy ok w s e i v k n V1 V2 V3 V4 V5 es chs cls coms refs) (hr : RdAt 91 W.heap.size g w1 s') (hf : Fr W.heap.size [91] w w1) : RqSt W g gr gy ok w1 s' e i v k n V1 V2 V3 V4 V5 es chs cls coms refs := h.readR ⟨hr⟩ hf
theorem RqSt.below (h : RqSt W g gr gy ok w s e i v k n V1 V2 V3 V4 V5 es chs cls coms refs) (hb : Below w.heap.size w w1) : RqSt W g gr gy ok w1 s e i v k n V1 V2 V3 V4 V5 es chs cls coms refs :=
  ⟨h.rr.below hb, blk_below h.bY hb, blk_below h.bQ hb, Kd.R_below h.r1 hb, Kd.R_below h.r2 hb, Kd.R_below h.r3 hb, Kd.R_below h.r4 hb, Kd.R_below h.r5 hb, h.fr.trans (Fr.of_below hb), h.ne⟩
theorem RqSt.fresh (h : RqSt W g gr gy (fun _ => True) w s e i v k n V1 V2 V3 V4 V5 es chs cls coms refs) (o : Obj) : RqSt W g gr gy (fun k => k ≠ w.heap.size) (w.alloc o) s e i v k n V1 V2 V3 V4 V5 es chs cls coms refs :=
  ⟨h.rr.below (below_alloc (Below.refl _ _) _), blk_alloc h.bY _, blk_alloc h.bQ _, Kd.R_alloc (Kd.R_mono (Kd.R_bound h.r1) (fun k hk => Nat.ne_of_lt hk.2.2.1)) _, Kd.R_alloc (Kd.R_mono (Kd.R_bound h.r2) (fun k hk => Nat.ne_of_lt hk.2.2.1)) _, Kd.R_alloc (Kd.R_mono (Kd.R_bound h.r3) (fun k hk => Nat.ne_of_lt hk.2.2.1)) _, Kd.R_alloc (Kd.R_mono (Kd.R_bound h.r4) (fun k hk => Nat.ne_of_lt hk.2.2.1)) _, Kd.R_alloc (Kd.R_mono (Kd.R_bound h.r5) (fun k hk => Nat.ne_of_lt hk.2.2.1)) _, h.fr.trans (Fr.of_below (below_alloc (Below.refl _ _) _)), h.ne⟩
theorem RqSt.all (h : RqSt W g gr gy ok w s e i v k n V1 V2 V3 V4 V5 es chs cls coms refs) : RqSt W g gr gy (fun _ => True) w s e i v k n V1 V2 V3 V4 V5 es chs cls coms refs := ⟨h.rr, h.bY, h.bQ, Kd.R_mono h.r1 (fun _ _ => trivial), Kd.R_mono h.r2 (fun _ _ => trivial), Kd.R_mono h.r3 (fun _ _ => trivial), Kd.R_mono h.r4 (fun _ _ => trivial), Kd.R_mono h.r5 (fun _ _ => trivial), h.fr, h.ne⟩
theorem RqSt.far {C t : Nat} {cs : Array Value} (h : RqSt W g gr gy (fun k => k ≠ C) w s e i v k n V1 V2 V3 V4 V5 es chs cls coms refs) (hy : w.heap[C]? = some (.cells cs t (0, 0))) (ht : 91 ≠ t ∧ 5 ≠ t) (hC : W.heap.size ≤ C ∧ g ≠ C ∧ gy ≠ C ∧ gr ≠ C) (j : Nat) (u : Value) : RqSt W g gr gy (fun k => k ≠ C) (w.setCell ⟨C, j, none⟩ u) s e i v k n V1 V2 V3 V4 V5 es chs cls coms refs :=
  ⟨h.rr.set hy ht hC.1 hC.2.1 j u, blk_other h.bY _ hC.2.2.1 _, blk_other h.bQ _ hC.2.2.2 _, Kd.R_far h.r1 (p := ⟨C, j, none⟩) (fun k hk => hk) u, Kd.R_far h.r2 (p := ⟨C, j, none⟩) (fun k hk => hk) u, Kd.R_far h.r3 (p := ⟨C, j, none⟩) (fun k hk => hk) u, Kd.R_far h.r4 (p := ⟨C, j, none⟩) (fun k hk => hk) u, Kd.R_far h.r5 (p := ⟨C, j, none⟩) (fun k hk => hk) u, h.fr.setNew (p := ⟨C, j, none⟩) hC.1 u, h.ne⟩
theorem RqSt.c (h : RqSt W g gr gy ok w s e i v k n V1 V2 V3 V4 V5 es chs cls coms refs) : w.cell? ⟨gy, 0, none⟩ = some (.int .i64 e) ∧ w.cell? ⟨gy, 1, none⟩ = some (.bool i) ∧ w.cell? ⟨gy, 2, none⟩ = some (.string v) ∧ w.cell? ⟨gy, 3, none⟩ = some (.int .u64 k) ∧ w.cell? ⟨gy, 4, none⟩ = some (.int .i64 n) ∧ w.cell? ⟨gy, 5, none⟩ = some V1 ∧ w.cell? ⟨gy, 6, none⟩ = some V2 ∧ w.cell? ⟨gy, 7, none⟩ = some V3 ∧ w.cell? ⟨gy, 8, none⟩ = some V4 ∧ w.cell? ⟨gy, 9, none⟩ = some V5 := ten_cells h.bY
theorem RqSt.z (h : RqSt W g gr gy ok w s e i v k n V1 V2 V3 V4 V5 es chs cls coms refs) (j : Nat) : w.frozen? ⟨gy, j, none⟩ = false := blk_frozen h.bY j
theorem RqSt.put (h : RqSt W g gr gy ok w s e i v k n V1 V2 V3 V4 V5 es chs cls coms refs) (j : Nat) (u : Value) {e' : Int} {i' : Bool} {v' : ByteArray} {k' n' : Int}
    (he : (#[.int .i64 e, .bool i, .string v, .int .u64 k, .int .i64 n, V1, V2, V3, V4, V5] : Array Value).setIfInBounds j u = #[.int .i64 e', .bool i', .string v', .int .u64 k', .int .i64 n', V1, V2, V3, V4, V5]) : RqSt W g gr gy ok (w.setCell ⟨gy, j, none⟩ u) s e' i' v' k' n' V1 V2 V3 V4 V5 es chs cls coms refs :=
  ⟨h.rr.set h.bY (by decide) h.ne.1 h.ne.2.1 j u, by rw [blk_set h.bY j u, he], blk_other h.bQ _ h.ne.2.2 _, Kd.R_set h.r1 h.bY (by decide) j u, Kd.R_set h.r2 h.bY (by decide) j u, Kd.R_set h.r3 h.bY (by decide) j u, Kd.R_set h.r4 h.bY (by decide) j u, Kd.R_set h.r5 h.bY (by decide) j u, h.fr.setNew (p := ⟨gy, j, none⟩) h.ne.1 u, h.ne⟩
theorem RqSt.push1 (h : RqSt W g gr gy (fun _ => True) w s e i v k n V1 V2 V3 V4 V5 es chs cls coms refs) {v1 : Value} {xs1 : List Entry} (ho : Kd.R k53 53 w1 W.heap.size (fun _ => True) v1 xs1) (hf : Fr W.heap.size [53] w w1) (hb : Below W.heap.size w w1) : RqSt W g gr gy (fun _ => True) (w1.setCell ⟨gy, 5, none⟩ v1) s e i v k n v1 V2 V3 V4 V5 xs1 chs cls coms refs :=
  have hY := hf.blk h.bY (by decide)
  ⟨(h.rr.row hf (Nat.le_refl _) (by decide)).set hY (by decide) h.ne.1 h.ne.2.1 5 v1, (blk_set hY 5 v1).trans rfl, blk_other (hf.blk h.bQ (by decide)) _ h.ne.2.2 _, Kd.R_set ho hY (by decide) 5 v1, Kd.R_set (hf.R h.r2 (ch_E (by decide))) hY (by decide) 5 v1, Kd.R_set (hf.R h.r3 (cl_E (by decide))) hY (by decide) 5 v1, Kd.R_set (hf.R h.r4 (coE (by decide) (by decide))) hY (by decide) 5 v1, Kd.R_set (hf.R h.r5 (rf_E (by decide))) hY (by decide) 5 v1, (h.fr.more hb).setNew (p := ⟨gy, 5, none⟩) h.ne.1 v1, h.ne⟩
theorem RqSt.push2 (h : RqSt W g gr gy (fun _ => True) w s e i v k n V1 V2 V3 V4 V5 es chs cls coms refs) {v1 : Value} {xs1 : List Change} (ho : Kd.R k47 47 w1 W.heap.size (fun _ => True) v1 xs1) (hf : Fr W.heap.size [47] w w1) (hb : Below W.heap.size w w1) : RqSt W g gr gy (fun _ => True) (w1.setCell ⟨gy, 6, none⟩ v1) s e i v k n V1 v1 V3 V4 V5 es xs1 cls coms refs :=
  have hY := hf.blk h.bY (by decide)
  ⟨(h.rr.row hf (Nat.le_refl _) (by decide)).set hY (by decide) h.ne.1 h.ne.2.1 6 v1, (blk_set hY 6 v1).trans rfl, blk_other (hf.blk h.bQ (by decide)) _ h.ne.2.2 _, Kd.R_set (hf.R h.r1 (en_E (by decide))) hY (by decide) 6 v1, Kd.R_set ho hY (by decide) 6 v1, Kd.R_set (hf.R h.r3 (cl_E (by decide))) hY (by decide) 6 v1, Kd.R_set (hf.R h.r4 (coE (by decide) (by decide))) hY (by decide) 6 v1, Kd.R_set (hf.R h.r5 (rf_E (by decide))) hY (by decide) 6 v1, (h.fr.more hb).setNew (p := ⟨gy, 6, none⟩) h.ne.1 v1, h.ne⟩
theorem RqSt.push3 (h : RqSt W g gr gy (fun _ => True) w s e i v k n V1 V2 V3 V4 V5 es chs cls coms refs) {v1 : Value} {xs1 : List Clash} (ho : Kd.R k59 59 w1 W.heap.size (fun _ => True) v1 xs1) (hf : Fr W.heap.size [59] w w1) (hb : Below W.heap.size w w1) : RqSt W g gr gy (fun _ => True) (w1.setCell ⟨gy, 7, none⟩ v1) s e i v k n V1 V2 v1 V4 V5 es chs xs1 coms refs :=
  have hY := hf.blk h.bY (by decide)
  ⟨(h.rr.row hf (Nat.le_refl _) (by decide)).set hY (by decide) h.ne.1 h.ne.2.1 7 v1, (blk_set hY 7 v1).trans rfl, blk_other (hf.blk h.bQ (by decide)) _ h.ne.2.2 _, Kd.R_set (hf.R h.r1 (en_E (by decide))) hY (by decide) 7 v1, Kd.R_set (hf.R h.r2 (ch_E (by decide))) hY (by decide) 7 v1, Kd.R_set ho hY (by decide) 7 v1, Kd.R_set (hf.R h.r4 (coE (by decide) (by decide))) hY (by decide) 7 v1, Kd.R_set (hf.R h.r5 (rf_E (by decide))) hY (by decide) 7 v1, (h.fr.more hb).setNew (p := ⟨gy, 7, none⟩) h.ne.1 v1, h.ne⟩
theorem RqSt.push4 (h : RqSt W g gr gy (fun _ => True) w s e i v k n V1 V2 V3 V4 V5 es chs cls coms refs) {v1 : Value} {xs1 : List Com} (ho : Kd.R kC 44 w1 W.heap.size (fun _ => True) v1 xs1) (hf : Fr W.heap.size [44] w w1) (hb : Below W.heap.size w w1) : RqSt W g gr gy (fun _ => True) (w1.setCell ⟨gy, 8, none⟩ v1) s e i v k n V1 V2 V3 v1 V5 es chs cls xs1 refs :=
  have hY := hf.blk h.bY (by decide)
  ⟨(h.rr.row hf (Nat.le_refl _) (by decide)).set hY (by decide) h.ne.1 h.ne.2.1 8 v1, (blk_set hY 8 v1).trans rfl, blk_other (hf.blk h.bQ (by decide)) _ h.ne.2.2 _, Kd.R_set (hf.R h.r1 (en_E (by decide))) hY (by decide) 8 v1, Kd.R_set (hf.R h.r2 (ch_E (by decide))) hY (by decide) 8 v1, Kd.R_set (hf.R h.r3 (cl_E (by decide))) hY (by decide) 8 v1, Kd.R_set ho hY (by decide) 8 v1, Kd.R_set (hf.R h.r5 (rf_E (by decide))) hY (by decide) 8 v1, (h.fr.more hb).setNew (p := ⟨gy, 8, none⟩) h.ne.1 v1, h.ne⟩
theorem RqSt.push5 (h : RqSt W g gr gy (fun _ => True) w s e i v k n V1 V2 V3 V4 V5 es chs cls coms refs) {v1 : Value} {xs1 : List Ref} (ho : Kd.R k62 62 w1 W.heap.size (fun _ => True) v1 xs1) (hf : Fr W.heap.size [62] w w1) (hb : Below W.heap.size w w1) : RqSt W g gr gy (fun _ => True) (w1.setCell ⟨gy, 9, none⟩ v1) s e i v k n V1 V2 V3 V4 v1 es chs cls coms xs1 :=
  have hY := hf.blk h.bY (by decide)
  ⟨(h.rr.row hf (Nat.le_refl _) (by decide)).set hY (by decide) h.ne.1 h.ne.2.1 9 v1, (blk_set hY 9 v1).trans rfl, blk_other (hf.blk h.bQ (by decide)) _ h.ne.2.2 _, Kd.R_set (hf.R h.r1 (en_E (by decide))) hY (by decide) 9 v1, Kd.R_set (hf.R h.r2 (ch_E (by decide))) hY (by decide) 9 v1, Kd.R_set (hf.R h.r3 (cl_E (by decide))) hY (by decide) 9 v1, Kd.R_set (hf.R h.r4 (coE (by decide) (by decide))) hY (by decide) 9 v1, Kd.R_set ho hY (by decide) 9 v1, (h.fr.more hb).setNew (p := ⟨gy, 9, none⟩) h.ne.1 v1, h.ne⟩
end
set_option maxHeartbeats 64000000 in
set_option maxRecDepth 100000 in
theorem rof20_calls (A : Option Addr) (c : Nat) (b : List Int) (W : World) (hC : Kd.C (Kd.int .u8) W A b.length b) (hc : b.length ≤ c) (hF : Fine (b, false)) :
    Calls Try.prog 12 #[.slice A b.length c] W fun e W1 => OfRpAns W (ofRp b) e W1 := by
  rw [← ofRpS_ofRp b]
  have huR := Try.underlying30
  have huX := Try.underlying91
  have huE := Try.underlying53
  have huH := Try.underlying47
  have huL := Try.underlying59
  have huS := Try.underlying57
  have huO := Try.underlying44
  have huF := Try.underlying62
  obtain ⟨e, s1, h1⟩ : ∃ x t, rdNum E31 (b, false) = (x, t) := ⟨_, _, rfl⟩
  have HS1 := Aside0.mk h1
  have F1 : Fine s1 := by have hz := fine_num hF E31; rw [h1] at hz; exact hz
  obtain ⟨i, s2, h2⟩ : ∃ x t, rdFlag s1 = (x, t) := ⟨_, _, rfl⟩
  have HS2 := Aside0.mk h2
  have F2 : Fine s2 := by have hz := fine_flag F1; rw [h2] at hz; exact hz
  obtain ⟨v, s3, h3⟩ : ∃ x t, rdText LT s2 = (x, t) := ⟨_, _, rfl⟩
  have HS3 := Aside0.mk h3
  have F3 : Fine s3 := by have hz := fine_text F2 LT; rw [h3] at hz; exact hz
  obtain ⟨k, s4, h4⟩ : ∃ x t, rdNum M64 s3 = (x, t) := ⟨_, _, rfl⟩
  have HS4 := Aside0.mk h4
  have F4 : Fine s4 := by have hz := fine_num F3 M64; rw [h4] at hz; exact hz
  obtain ⟨u, s5, h5⟩ : ∃ x t, rdNum M64 s4 = (x, t) := ⟨_, _, rfl⟩
  have HS5 := Aside0.mk h5
  obtain ⟨es, s6, h6⟩ : ∃ x t, rdLsS rdE s5 = (x, t) := ⟨_, _, rfl⟩
  have HS6 := Aside0.mk h6
  obtain ⟨chs, s7, h7⟩ : ∃ x t, rdLsS rdCh s6 = (x, t) := ⟨_, _, rfl⟩
  have HS7 := Aside0.mk h7
  obtain ⟨cls, s8, h8⟩ : ∃ x t, rdLsS rdCl s7 = (x, t) := ⟨_, _, rfl⟩
  have HS8 := Aside0.mk h8
  obtain ⟨coms, s9, h9⟩ : ∃ x t, rdLsS rdCoS s8 = (x, t) := ⟨_, _, rfl⟩
  have HS9 := Aside0.mk h9
  obtain ⟨refs, s10, h10⟩ : ∃ x t, rdLsS rdRf s9 = (x, t) := ⟨_, _, rfl⟩
  have HS10 := Aside0.mk h10
  have hei := num_in hF E31 (by decide)
  rw [h1] at hei
  have hui := num_in F4 M64 (by decide)
  rw [h5] at hui
  have HUU := Aside0.mk (show U64 u from ⟨hui.1, hui.2.2⟩)
  have hwe : wrap64 e = e := by have h8 : e ≤ 2147483647 := hei.2.1; have h9 : 0 ≤ e := hei.1; unfold wrap64; omega
  have hwe2 : IntKind.i64.wrap e = e := by rw [IntKind.wrap_i64]; have h8 : e ≤ 2147483647 := hei.2.1; have h9 : 0 ≤ e := hei.1; omega
  have HRD := Aside0.mk (show rdRpS (b, false) = (⟨e, i, v, k, zag u, es, chs, cls, coms, refs⟩, s10) by simp only [rdRpS, seqR, h1, h2, h3, h4, h5, h6, h7, h8, h9, h10])
  have HP := Aside0.mk (rf_boxR hC hc hF (below_alloc (Below.refl W.heap.size W) (.cells #[.int .i64 0, .bool false, .string ⟨#[]⟩, .int .u64 0, .int .i64 0, .slice none 0 0, .slice none 0 0, .slice none 0 0, .slice none 0 0, .slice none 0 0] 30)))
  have HQ0 := Aside0.mk (blk_alloc (blk_new W (.cells #[.int .i64 0, .bool false, .string ⟨#[]⟩, .int .u64 0, .int .i64 0, .slice none 0 0, .slice none 0 0, .slice none 0 0, .slice none 0 0, .slice none 0 0] 30)) (.cells #[.slice A b.length c, .bool false] 91))
  have HF0 := Aside0.mk (((Fr.refl W.heap.size [91] W).allocs (.cells #[.int .i64 0, .bool false, .string ⟨#[]⟩, .int .u64 0, .int .i64 0, .slice none 0 0, .slice none 0 0, .slice none 0 0, .slice none 0 0, .slice none 0 0] 30)).allocs (.cells #[.slice A b.length c, .bool false] 91))
  have HGS := Aside0.mk (size_one W (.cells #[.int .i64 0, .bool false, .string ⟨#[]⟩, .int .u64 0, .int .i64 0, .slice none 0 0, .slice none 0 0, .slice none 0 0, .slice none 0 0, .slice none 0 0] 30))
  clear h1 h2 h3 h4 h5 h6 h7 h8 h9 h10 F1 F2 F3 F4 hei hui hC hc hF
  go_enter Try.func12, Try.ntmps12
  go_upto_region 2 with (fail)
  obtain ⟨gr, hgr⟩ : ∃ z, z = W.heap.size := ⟨_, rfl⟩
  have HGR := Aside0.mk hgr
  obtain ⟨g, hg⟩ : ∃ z, z = W.heap.size + 1 := ⟨_, rfl⟩
  have HGG := Aside0.mk hg
  have hp := HP.out
  rw [← HGS.out, ← hg] at hp
  have HR2 := Aside0.mk (show RsAt W.heap.size g ((W.alloc (.cells #[.int .i64 0, .bool false, .string ⟨#[]⟩, .int .u64 0, .int .i64 0, .slice none 0 0, .slice none 0 0, .slice none 0 0, .slice none 0 0, .slice none 0 0] 30)).alloc (.cells #[.slice A b.length c, .bool false] 91)) (b, false) from ⟨hp⟩)
  have hq0 := HQ0.out
  rw [← hgr] at hq0
  have HQ2 := Aside0.mk hq0
  have HF2 := HF0
  rw [← hg]
  try rw [← hgr]
  clear hp hq0 hg hgr HP HQ0 HF0 HGS
  generalize (W.alloc (.cells #[.int .i64 0, .bool false, .string ⟨#[]⟩, .int .u64 0, .int .i64 0, .slice none 0 0, .slice none 0 0, .slice none 0 0, .slice none 0 0, .slice none 0 0] 30)).alloc (.cells #[.slice A b.length c, .bool false] 91) = w2 at HR2 HQ2 HF2 ⊢
  go_upto_region 3 with (go_at_call 47; refine (rf_num W.heap.size g _ 2147483647 _ HR2.out.rd).mono ?_; rw [HS1.out]; rintro e w3 ⟨rfl, hr, hf⟩; have HRb := Aside0.mk (HR2.out.fr hr hf); have HQb := Aside0.mk (hf.blk HQ2.out (by decide)); have HFb := Aside0.mk (HF2.out.trans hf); have HGb := Aside0.mk (RsAt.lt2 (show RsAt W.heap.size g w3 s1 from ⟨hr⟩)); clear hr hf)
  try simp only [hwe, hwe2]
  have HS := Aside0.mk (show RqSt W g gr w3.heap.size (fun _ => True) (w3.alloc (.cells #[.int .i64 e, .bool false, .string ⟨#[]⟩, .int .u64 0, .int .i64 0, .slice none 0 0, .slice none 0 0, .slice none 0 0, .slice none 0 0, .slice none 0 0] 30)) s1 e false ⟨#[]⟩ 0 0 (.slice none 0 0) (.slice none 0 0) (.slice none 0 0) (.slice none 0 0) (.slice none 0 0) [] [] [] [] [] from ⟨HRb.out.below (below_alloc (Below.refl _ _) _), blk_new _ _, blk_alloc HQb.out _, Kd.R_nil _ _ _ _ _, Kd.R_nil _ _ _ _ _, Kd.R_nil _ _ _ _ _, Kd.R_nil _ _ _ _ _, Kd.R_nil _ _ _ _ _, HFb.out.allocs _, by have a2 := HGR.out; have a3 := HGb.out; have a4 := HFb.out.size; have a5 := HGG.out; omega⟩)
  clear HRb HQb HFb HR2 HQ2 HF2 HGb
  generalize w3.alloc (.cells #[.int .i64 e, .bool false, .string ⟨#[]⟩, .int .u64 0, .int .i64 0, .slice none 0 0, .slice none 0 0, .slice none 0 0, .slice none 0 0, .slice none 0 0] 30) = u2 at HS ⊢
  generalize w3.heap.size = gy at HS ⊢
  go_upto_region 4 with (go_at_call 48; refine (rf_flag W.heap.size g _ _ HS.out.rr.rd).mono ?_; rw [HS2.out]; rintro e' x1 ⟨rfl, hr, hf⟩; have HT := Aside0.mk (HS.out.read hr hf); have cc := HT.out.c.2.1; have zz := HT.out.z 1; clear hr hf)
  have HSn := Aside0.mk (HT.out.put 1 (.bool i) (e' := e) (i' := i) (v' := ⟨#[]⟩) (k' := 0) (n' := 0) rfl)
  clear cc zz HT HS
  generalize x1.setCell ⟨gy, 1, none⟩ (.bool i) = u3 at HSn ⊢
  have HS := HSn
  clear HSn
  go_upto_region 5 with (go_at_call 49; refine (rf_text W.heap.size g _ 131072 _ HS.out.rr.rd (by decide)).mono ?_; rw [HS3.out]; rintro e' x2 ⟨rfl, hr, hf⟩; have HT := Aside0.mk (HS.out.read hr hf); have cc := HT.out.c.2.2.1; have zz := HT.out.z 2; clear hr hf)
  have HSn := Aside0.mk (HT.out.put 2 (.string v) (e' := e) (i' := i) (v' := v) (k' := 0) (n' := 0) rfl)
  clear cc zz HT HS
  generalize x2.setCell ⟨gy, 2, none⟩ (.string v) = u4 at HSn ⊢
  have HS := HSn
  clear HSn
  go_upto_region 6 with (go_at_call 47; refine (rf_num W.heap.size g _ 18446744073709551615 _ HS.out.rr.rd).mono ?_; rw [HS4.out]; rintro e' x3 ⟨rfl, hr, hf⟩; have HT := Aside0.mk (HS.out.read hr hf); have cc := HT.out.c.2.2.2.1; have zz := HT.out.z 3; clear hr hf)
  have HSn := Aside0.mk (HT.out.put 3 (.int .u64 k) (e' := e) (i' := i) (v' := v) (k' := k) (n' := 0) rfl)
  clear cc zz HT HS
  generalize x3.setCell ⟨gy, 3, none⟩ (.int .u64 k) = u5 at HSn ⊢
  have HS := HSn
  clear HSn
  go_upto_region 7 with (first | (go_at_call 47; refine (rf_num W.heap.size g _ 18446744073709551615 _ HS.out.rr.rd).mono ?_; rw [HS5.out]; rintro e' y4 ⟨rfl, hr, hf⟩; have HT0 := Aside0.mk (HS.out.read hr hf); clear hr hf) | (go_at_call 50; refine (rzag_calls u HUU.out _).mono ?_; rintro e' x4 ⟨rfl, hb⟩; have HT := Aside0.mk (HT0.out.below hb); have cc := HT.out.c.2.2.2.2.1; have zz := HT.out.z 4; clear hb))
  have HSn := Aside0.mk (HT.out.put 4 (.int .i64 (zag u)) (e' := e) (i' := i) (v' := v) (k' := k) (n' := (zag u)) rfl)
  clear cc zz HT HS HT0
  generalize x4.setCell ⟨gy, 4, none⟩ (.int .i64 (zag u)) = u6 at HSn ⊢
  have HS := HSn
  clear HSn
  go_upto_region 8 with (go_at_call 47; refine (rf_num W.heap.size g _ 16384 _ HS.out.rr.rd).mono ?_; rintro e' xn ⟨rfl, hr, hf⟩; have HT := Aside0.mk (HS.out.read hr hf); clear hr hf)
  have hq := num_in (RdAt.fine HS.out.rr.rd) MO (by decide)
  obtain ⟨qn, tn, hqn⟩ : ∃ x t, rdNum MO s5 = (x, t) := ⟨_, _, rfl⟩
  rw [hqn] at hq
  rw [show rdNum 16384 s5 = (qn, tn) from hqn] at HT ⊢
  simp only at hq HT ⊢
  obtain ⟨N, hN⟩ : ∃ N : Nat, qn = (N : Int) := ⟨qn.toNat, by omega⟩
  subst hN
  have HNB := Aside0.mk (show N ≤ 16384 by have h9 : (N : Int) ≤ 16384 := hq.2.1; omega)
  have HLS := Aside0.mk (show rdStop rdE N tn = (es, s6) by have h := HS6.out; rw [rdLsS, seqR, hqn] at h; simpa only [Int.toNat_natCast] using h)
  clear hq hqn HS
  go_upto_block 0 with fail
  go_cut [] from 38 to 61 (fun w' => ∃ (V : Value), Aside0 (RqSt W g gr gy (fun _ => True) w' s6 e i v k (zag u) V (.slice none 0 0) (.slice none 0 0) (.slice none 0 0) (.slice none 0 0) es [] [] [] []))
  case first =>
    go_wp2_with fail
    go_loopg [7] N (fun kq vi w' => ∃ (ii j : Nat) (t : RS) (V : Value) (xs : List Entry), vi = .int .u64 (ii : Int) ∧ Aside0 (kq = j ∧ ii + j = N ∧ xs.length = ii) ∧ Aside0 (rdStop rdE N tn = (xs ++ (rdStop rdE j t).1, (rdStop rdE j t).2)) ∧ Aside0 (RqSt W g gr gy (fun _ => True) w' t e i v k (zag u) V (.slice none 0 0) (.slice none 0 0) (.slice none 0 0) (.slice none 0 0) xs [] [] [] []))
    case atStart => exact ⟨0, N, tn, .slice none 0 0, [], rfl, ⟨rfl, by omega, rfl⟩, ⟨by simp⟩, HT⟩
    case round =>
      obtain ⟨ii, j, t, V, xs, rfl, HJ, HE, HS⟩ := hrel
      clear HT
      have hbad := HS.out.rr.badc
      by_cases hgo : 0 < j ∧ t.2 = false
      · obtain ⟨j, rfl⟩ : ∃ k, j = k + 1 := ⟨j - 1, by omega⟩
        have HSB := Aside0.mk hgo.2
        rw [hgo.2] at hbad
        have hlt1 : decide ((ii : Int) < (N : Int)) = true := decide_eq_true (by have := HJ.out; omega)
        have hlt2 : decide (ii < N) = true := decide_eq_true (by have := HJ.out; omega)
        have HWI := Aside0.mk (wrap_up ii (by have := HJ.out; have := HNB.out; omega))
        clear hgo
        obtain ⟨f0, t1, hr0⟩ : ∃ x u, rdText LT t = (x, u) := ⟨_, _, rfl⟩
        have HF0 := Aside0.mk hr0
        obtain ⟨f1, t2, hr1⟩ : ∃ x u, rdText LT t1 = (x, u) := ⟨_, _, rfl⟩
        have HF1 := Aside0.mk hr1
        have HEL := Aside0.mk (show rdE t = (⟨f0, f1⟩, t2) by simp only [rdE, seqR, hr0, hr1])
        clear hr0 hr1
        go_upto_region 12 with (go_at_call 49; refine (rf_text W.heap.size g _ 131072 _ HS.out.rr.rd (by decide)).mono ?_; rw [HF0.out]; rintro e' x1 ⟨rfl, hr, hf⟩; have HA := Aside0.mk (HS.out.read hr hf); clear hr hf)
        have HCN := Aside0.mk (show W.heap.size ≤ x1.heap.size ∧ g ≠ x1.heap.size ∧ gy ≠ x1.heap.size ∧ gr ≠ x1.heap.size by have a1 := HA.out.fr.size; have a2 := HA.out.rr.lt2; have a3 := blk_lt HA.out.bY; have a4 := blk_lt HA.out.bQ; omega)
        have HSc := Aside0.mk (HA.out.fresh (.cells #[.string f0, .string ⟨#[]⟩] 53))
        have HYc := Aside0.mk (blk_new x1 (.cells #[.string f0, .string ⟨#[]⟩] 53))
        clear hbad HS HA
        generalize x1.alloc (.cells #[.string f0, .string ⟨#[]⟩] 53) = z1 at HSc HYc ⊢
        generalize x1.heap.size = C at HSc HYc HCN ⊢
        go_upto_region 13 with (go_at_call 49; refine (rf_text W.heap.size g _ 131072 _ HSc.out.rr.rd (by decide)).mono ?_; rw [HF1.out]; rintro e' x2 ⟨rfl, hr, hf⟩; have HSd := Aside0.mk (HSc.out.read hr hf); have hyd := hf.blk HYc.out (by decide); have HYd := Aside0.mk hyd; obtain ⟨q0, q1⟩ := pair_cells hyd; have zz0 := blk_frozen hyd 1; clear hr hf hyd)
        have HSe := Aside0.mk (HSd.out.far HYd.out (by decide) HCN.out 1 (.string f1))
        have HYe := Aside0.mk (show (x2.setCell ⟨C, 1, none⟩ (.string f1)).heap[C]? = some (.cells #[.string f0, .string f1] 53 (0, 0)) from (blk_set HYd.out 1 (.string f1)).trans rfl)
        clear HSc HYc HSd HYd q0 q1 zz0
        generalize (x2.setCell ⟨C, 1, none⟩ (.string f1)) = z2 at HSe HYe ⊢
        have HSc := HSe
        have HYc := HYe
        clear HSe HYe
        obtain ⟨q0, q1⟩ := pair_cells HYc.out
        have HSt := Aside0.mk HSc.out.all
        have cv := HSt.out.c.2.2.2.2.2.1
        clear HSc HYc
        go_wp2_with (at_builtin; refine Kd.R_append k53 (w0 := z2) W.heap.size rfl (.tmp 57) (.tmp 59) 24 53 (.agg #[.string ⟨#[]⟩, .string ⟨#[]⟩]) 32 rfl Try.underlying24 (by kernel_rfl) rfl (by decide) (by omega) V xs (⟨f0, f1⟩ : Entry) [.string f0, .string f1] (fun _ => True) (fun _ => False) rfl rfl ?aP (fun _ hk => hk.elim) (fun _ _ => trivial) ?aO ?aB ?aS ?aL ?_; (case aP => exact k53_mkM _ _ _ _); (case aO => exact HSt.out.r1); (case aB => exact Below.refl _ _); (case aS => exact HSt.out.fr.size); (case aL => have := HJ.out; have := HNB.out; omega); intro v1 w6 ho hb hgr hat; obtain ⟨Ax, nx, cx, hvx⟩ := R_slice' ho; subst hvx; have hf6 := (show Fr W.heap.size [53] z2 w6 by obtain ⟨inner, h⟩ := Kd.R_own HSt.out.r1; exact Fr.of_grown h (Nat.le_refl _) hgr (by simp)); have HS6 := Aside0.mk (HSt.out.push1 ho hf6 hb); have hy6 := hf6.blk HSt.out.bY (by decide); have hc61 : w6.cell? ⟨gy, 5, none⟩ = some V := (blk_cell hy6 5).trans rfl; have hz61 : w6.frozen? ⟨gy, 5, none⟩ = false := blk_frozen hy6 5; clear ho hb hgr hat hf6 hy6)
        go_roundg j
        case measure => have := HJ.out; omega
        case rel =>
          refine ⟨ii + 1, j, t2, .slice Ax nx cx, xs ++ [(⟨f0, f1⟩ : Entry)], ?_, ⟨rfl, by have := HJ.out; omega, by have := HJ.out; simp; omega⟩, ⟨?_⟩, ⟨HS6.out⟩⟩
          · rw [HWI.out]
          · have h := stop_snoc _ _ _ _ _ _ HSB.out HE.out
            rw [HEL.out] at h
            exact h
      · have hx := HE.out
        rw [HLS.out] at hx
        have HXE : (es = xs ∧ s6 = t) := by
          cases hs : t.2 with
          | true =>
            rw [stop_bad rdE _ hs] at hx
            simpa using hx
          | false =>
            have : j = 0 := (by omega : ∀ j : Nat, ¬ 0 < j → j = 0) j (fun h => hgo ⟨h, hs⟩)
            subst this
            simpa [rdStop] using hx
        clear hx
        obtain ⟨hxa, hxb⟩ := HXE
        rcases (show (decide ((ii : Int) < (N : Int)) = false ∧ decide (ii < N) = false) ∨ (decide ((ii : Int) < (N : Int)) = true ∧ decide (ii < N) = true ∧ t.2 = true) by
          have h1 := HJ.out
          cases hs : t.2 with
          | true => by_cases hi : ii = N
                    · exact .inl ⟨decide_eq_false (by omega), decide_eq_false (by omega)⟩
                    · exact .inr ⟨decide_eq_true (by omega), decide_eq_true (by omega), rfl⟩
          | false => exact .inl ⟨decide_eq_false (by have : ¬ 0 < j := fun h => hgo ⟨h, hs⟩; omega), decide_eq_false (by have : ¬ 0 < j := fun h => hgo ⟨h, hs⟩; omega)⟩) with hcmp | hcmp
        · have hcm1 := hcmp.1
          have hcm2 := hcmp.2
          rw [← hxa, ← hxb] at HS
          clear hcmp hgo hxa hxb
          go_wp2_with fail
          go_meet
          case rel => exact ⟨V, HS⟩
        · have hcm1 := hcmp.1
          have hcm2 := hcmp.2.1
          rw [hcmp.2.2] at hbad
          rw [← hxa, ← hxb] at HS
          clear hcmp hgo hxa hxb
          go_wp2_with fail
          go_meet
          case rel => exact ⟨V, HS⟩
  case rest =>
    obtain ⟨V, HS⟩ := hcut
    obtain ⟨A1, n1, hvv, _, _⟩ := Kd.R_reads HS.out.r1
    subst hvv
    clear HT HLS HNB
    generalize wc = y1 at HS ⊢
    go_upto_region 15 with (go_at_call 47; refine (rf_num W.heap.size g _ 16384 _ HS.out.rr.rd).mono ?_; rintro e' xn ⟨rfl, hr, hf⟩; have HT := Aside0.mk (HS.out.read hr hf); clear hr hf)
    have hq := num_in (RdAt.fine HS.out.rr.rd) MO (by decide)
    obtain ⟨qn, tn, hqn⟩ : ∃ x t, rdNum MO s6 = (x, t) := ⟨_, _, rfl⟩
    rw [hqn] at hq
    rw [show rdNum 16384 s6 = (qn, tn) from hqn] at HT ⊢
    simp only at hq HT ⊢
    obtain ⟨N, hN⟩ : ∃ N : Nat, qn = (N : Int) := ⟨qn.toNat, by omega⟩
    subst hN
    have HNB := Aside0.mk (show N ≤ 16384 by have h9 : (N : Int) ≤ 16384 := hq.2.1; omega)
    have HLS := Aside0.mk (show rdStop rdCh N tn = (chs, s7) by have h := HS7.out; rw [rdLsS, seqR, hqn] at h; simpa only [Int.toNat_natCast] using h)
    clear hq hqn HS
    go_upto_block 2 with fail
    go_cut [] from 64 to 96 (fun w' => ∃ (V : Value), Aside0 (RqSt W g gr gy (fun _ => True) w' s7 e i v k (zag u) (.slice A1 es.length n1) V (.slice none 0 0) (.slice none 0 0) (.slice none 0 0) es chs [] [] []))
    case first =>
      go_wp2_with fail
      go_loopg [9] N (fun kq vi w' => ∃ (ii j : Nat) (t : RS) (V : Value) (xs : List Change), vi = .int .u64 (ii : Int) ∧ Aside0 (kq = j ∧ ii + j = N ∧ xs.length = ii) ∧ Aside0 (rdStop rdCh N tn = (xs ++ (rdStop rdCh j t).1, (rdStop rdCh j t).2)) ∧ Aside0 (RqSt W g gr gy (fun _ => True) w' t e i v k (zag u) (.slice A1 es.length n1) V (.slice none 0 0) (.slice none 0 0) (.slice none 0 0) es xs [] [] []))
      case atStart => exact ⟨0, N, tn, .slice none 0 0, [], rfl, ⟨rfl, by omega, rfl⟩, ⟨by simp⟩, HT⟩
      case round =>
        obtain ⟨ii, j, t, V, xs, rfl, HJ, HE, HS⟩ := hrel
        clear HT
        have hbad := HS.out.rr.badc
        by_cases hgo : 0 < j ∧ t.2 = false
        · obtain ⟨j, rfl⟩ : ∃ k, j = k + 1 := ⟨j - 1, by omega⟩
          have HSB := Aside0.mk hgo.2
          rw [hgo.2] at hbad
          have hlt1 : decide ((ii : Int) < (N : Int)) = true := decide_eq_true (by have := HJ.out; omega)
          have hlt2 : decide (ii < N) = true := decide_eq_true (by have := HJ.out; omega)
          have HWI := Aside0.mk (wrap_up ii (by have := HJ.out; have := HNB.out; omega))
          clear hgo
          obtain ⟨f0, t1, hr0⟩ : ∃ x u, rdText LT t = (x, u) := ⟨_, _, rfl⟩
          have HF0 := Aside0.mk hr0
          obtain ⟨f1, t2, hr1⟩ : ∃ x u, rdFlag t1 = (x, u) := ⟨_, _, rfl⟩
          have HF1 := Aside0.mk hr1
          obtain ⟨f2, t3, hr2⟩ : ∃ x u, rdText LT t2 = (x, u) := ⟨_, _, rfl⟩
          have HF2 := Aside0.mk hr2
          obtain ⟨f3, t4, hr3⟩ : ∃ x u, rdFlag t3 = (x, u) := ⟨_, _, rfl⟩
          have HF3 := Aside0.mk hr3
          obtain ⟨f4, t5, hr4⟩ : ∃ x u, rdText LT t4 = (x, u) := ⟨_, _, rfl⟩
          have HF4 := Aside0.mk hr4
          have HEL := Aside0.mk (show rdCh t = (⟨f0, f1, f2, f3, f4⟩, t5) by simp only [rdCh, seqR, hr0, hr1, hr2, hr3, hr4])
          clear hr0 hr1 hr2 hr3 hr4
          go_upto_region 19 with (go_at_call 49; refine (rf_text W.heap.size g _ 131072 _ HS.out.rr.rd (by decide)).mono ?_; rw [HF0.out]; rintro e' x1 ⟨rfl, hr, hf⟩; have HA := Aside0.mk (HS.out.read hr hf); clear hr hf)
          have HCN := Aside0.mk (show W.heap.size ≤ x1.heap.size ∧ g ≠ x1.heap.size ∧ gy ≠ x1.heap.size ∧ gr ≠ x1.heap.size by have a1 := HA.out.fr.size; have a2 := HA.out.rr.lt2; have a3 := blk_lt HA.out.bY; have a4 := blk_lt HA.out.bQ; omega)
          have HSc := Aside0.mk (HA.out.fresh (.cells #[.string f0, .bool false, .string ⟨#[]⟩, .bool false, .string ⟨#[]⟩] 47))
          have HYc := Aside0.mk (blk_new x1 (.cells #[.string f0, .bool false, .string ⟨#[]⟩, .bool false, .string ⟨#[]⟩] 47))
          clear hbad HS HA
          generalize x1.alloc (.cells #[.string f0, .bool false, .string ⟨#[]⟩, .bool false, .string ⟨#[]⟩] 47) = z1 at HSc HYc ⊢
          generalize x1.heap.size = C at HSc HYc HCN ⊢
          go_upto_region 20 with (go_at_call 48; refine (rf_flag W.heap.size g _ _ HSc.out.rr.rd).mono ?_; rw [HF1.out]; rintro e' x2 ⟨rfl, hr, hf⟩; have HSd := Aside0.mk (HSc.out.read hr hf); have hyd := hf.blk HYc.out (by decide); have HYd := Aside0.mk hyd; obtain ⟨q0, q1, q2, q3, q4⟩ := five_cells hyd; have zz0 := blk_frozen hyd 1; clear hr hf hyd)
          have HSe := Aside0.mk (HSd.out.far HYd.out (by decide) HCN.out 1 (.bool f1))
          have HYe := Aside0.mk (show (x2.setCell ⟨C, 1, none⟩ (.bool f1)).heap[C]? = some (.cells #[.string f0, .bool f1, .string ⟨#[]⟩, .bool false, .string ⟨#[]⟩] 47 (0, 0)) from (blk_set HYd.out 1 (.bool f1)).trans rfl)
          clear HSc HYc HSd HYd q0 q1 q2 q3 q4 zz0
          generalize (x2.setCell ⟨C, 1, none⟩ (.bool f1)) = z2 at HSe HYe ⊢
          have HSc := HSe
          have HYc := HYe
          clear HSe HYe
          go_upto_region 21 with (go_at_call 49; refine (rf_text W.heap.size g _ 131072 _ HSc.out.rr.rd (by decide)).mono ?_; rw [HF2.out]; rintro e' x3 ⟨rfl, hr, hf⟩; have HSd := Aside0.mk (HSc.out.read hr hf); have hyd := hf.blk HYc.out (by decide); have HYd := Aside0.mk hyd; obtain ⟨q0, q1, q2, q3, q4⟩ := five_cells hyd; have zz0 := blk_frozen hyd 2; clear hr hf hyd)
          have HSe := Aside0.mk (HSd.out.far HYd.out (by decide) HCN.out 2 (.string f2))
          have HYe := Aside0.mk (show (x3.setCell ⟨C, 2, none⟩ (.string f2)).heap[C]? = some (.cells #[.string f0, .bool f1, .string f2, .bool false, .string ⟨#[]⟩] 47 (0, 0)) from (blk_set HYd.out 2 (.string f2)).trans rfl)
          clear HSc HYc HSd HYd q0 q1 q2 q3 q4 zz0
          generalize (x3.setCell ⟨C, 2, none⟩ (.string f2)) = z3 at HSe HYe ⊢
          have HSc := HSe
          have HYc := HYe
          clear HSe HYe
          go_upto_region 22 with (go_at_call 48; refine (rf_flag W.heap.size g _ _ HSc.out.rr.rd).mono ?_; rw [HF3.out]; rintro e' x4 ⟨rfl, hr, hf⟩; have HSd := Aside0.mk (HSc.out.read hr hf); have hyd := hf.blk HYc.out (by decide); have HYd := Aside0.mk hyd; obtain ⟨q0, q1, q2, q3, q4⟩ := five_cells hyd; have zz0 := blk_frozen hyd 3; clear hr hf hyd)
          have HSe := Aside0.mk (HSd.out.far HYd.out (by decide) HCN.out 3 (.bool f3))
          have HYe := Aside0.mk (show (x4.setCell ⟨C, 3, none⟩ (.bool f3)).heap[C]? = some (.cells #[.string f0, .bool f1, .string f2, .bool f3, .string ⟨#[]⟩] 47 (0, 0)) from (blk_set HYd.out 3 (.bool f3)).trans rfl)
          clear HSc HYc HSd HYd q0 q1 q2 q3 q4 zz0
          generalize (x4.setCell ⟨C, 3, none⟩ (.bool f3)) = z4 at HSe HYe ⊢
          have HSc := HSe
          have HYc := HYe
          clear HSe HYe
          go_upto_region 23 with (go_at_call 49; refine (rf_text W.heap.size g _ 131072 _ HSc.out.rr.rd (by decide)).mono ?_; rw [HF4.out]; rintro e' x5 ⟨rfl, hr, hf⟩; have HSd := Aside0.mk (HSc.out.read hr hf); have hyd := hf.blk HYc.out (by decide); have HYd := Aside0.mk hyd; obtain ⟨q0, q1, q2, q3, q4⟩ := five_cells hyd; have zz0 := blk_frozen hyd 4; clear hr hf hyd)
          have HSe := Aside0.mk (HSd.out.far HYd.out (by decide) HCN.out 4 (.string f4))
          have HYe := Aside0.mk (show (x5.setCell ⟨C, 4, none⟩ (.string f4)).heap[C]? = some (.cells #[.string f0, .bool f1, .string f2, .bool f3, .string f4] 47 (0, 0)) from (blk_set HYd.out 4 (.string f4)).trans rfl)
          clear HSc HYc HSd HYd q0 q1 q2 q3 q4 zz0
          generalize (x5.setCell ⟨C, 4, none⟩ (.string f4)) = z5 at HSe HYe ⊢
          have HSc := HSe
          have HYc := HYe
          clear HSe HYe
          obtain ⟨q0, q1, q2, q3, q4⟩ := five_cells HYc.out
          have HSt := Aside0.mk HSc.out.all
          have cv := HSt.out.c.2.2.2.2.2.2.1
          clear HSc HYc
          go_wp2_with (at_builtin; refine Kd.R_append k47 (w0 := z5) W.heap.size rfl (.tmp 92) (.tmp 94) 25 47 (.agg #[.string ⟨#[]⟩, .bool false, .string ⟨#[]⟩, .bool false, .string ⟨#[]⟩]) 64 rfl Try.underlying25 (by kernel_rfl) rfl (by decide) (by omega) V xs (⟨f0, f1, f2, f3, f4⟩ : Change) [.string f0, .bool f1, .string f2, .bool f3, .string f4] (fun _ => True) (fun _ => False) rfl rfl ?aP (fun _ hk => hk.elim) (fun _ _ => trivial) ?aO ?aB ?aS ?aL ?_; (case aP => exact k47_mkM _ _ _ _); (case aO => exact HSt.out.r2); (case aB => exact Below.refl _ _); (case aS => exact HSt.out.fr.size); (case aL => have := HJ.out; have := HNB.out; omega); intro v1 w6 ho hb hgr hat; obtain ⟨Ax, nx, cx, hvx⟩ := R_slice' ho; subst hvx; have hf6 := (show Fr W.heap.size [47] z5 w6 by obtain ⟨inner, h⟩ := Kd.R_own HSt.out.r2; exact Fr.of_grown h (Nat.le_refl _) hgr (by simp)); have HS6 := Aside0.mk (HSt.out.push2 ho hf6 hb); have hy6 := hf6.blk HSt.out.bY (by decide); have hc61 : w6.cell? ⟨gy, 6, none⟩ = some V := (blk_cell hy6 6).trans rfl; have hz61 : w6.frozen? ⟨gy, 6, none⟩ = false := blk_frozen hy6 6; clear ho hb hgr hat hf6 hy6)
          go_roundg j
          case measure => have := HJ.out; omega
          case rel =>
            refine ⟨ii + 1, j, t5, .slice Ax nx cx, xs ++ [(⟨f0, f1, f2, f3, f4⟩ : Change)], ?_, ⟨rfl, by have := HJ.out; omega, by have := HJ.out; simp; omega⟩, ⟨?_⟩, ⟨HS6.out⟩⟩
            · rw [HWI.out]
            · have h := stop_snoc _ _ _ _ _ _ HSB.out HE.out
              rw [HEL.out] at h
              exact h
        · have hx := HE.out
          rw [HLS.out] at hx
          have HXE : (chs = xs ∧ s7 = t) := by
            cases hs : t.2 with
            | true =>
              rw [stop_bad rdCh _ hs] at hx
              simpa using hx
            | false =>
              have : j = 0 := (by omega : ∀ j : Nat, ¬ 0 < j → j = 0) j (fun h => hgo ⟨h, hs⟩)
              subst this
              simpa [rdStop] using hx
          clear hx
          obtain ⟨hxa, hxb⟩ := HXE
          rcases (show (decide ((ii : Int) < (N : Int)) = false ∧ decide (ii < N) = false) ∨ (decide ((ii : Int) < (N : Int)) = true ∧ decide (ii < N) = true ∧ t.2 = true) by
            have h1 := HJ.out
            cases hs : t.2 with
            | true => by_cases hi : ii = N
                      · exact .inl ⟨decide_eq_false (by omega), decide_eq_false (by omega)⟩
                      · exact .inr ⟨decide_eq_true (by omega), decide_eq_true (by omega), rfl⟩
            | false => exact .inl ⟨decide_eq_false (by have : ¬ 0 < j := fun h => hgo ⟨h, hs⟩; omega), decide_eq_false (by have : ¬ 0 < j := fun h => hgo ⟨h, hs⟩; omega)⟩) with hcmp | hcmp
          · have hcm1 := hcmp.1
            have hcm2 := hcmp.2
            rw [← hxa, ← hxb] at HS
            clear hcmp hgo hxa hxb
            go_wp2_with fail
            go_meet
            case rel => exact ⟨V, HS⟩
          · have hcm1 := hcmp.1
            have hcm2 := hcmp.2.1
            rw [hcmp.2.2] at hbad
            rw [← hxa, ← hxb] at HS
            clear hcmp hgo hxa hxb
            go_wp2_with fail
            go_meet
            case rel => exact ⟨V, HS⟩
    case rest =>
      obtain ⟨V, HS⟩ := hcut
      obtain ⟨A2, n2, hvv, _, _⟩ := Kd.R_reads HS.out.r2
      subst hvv
      clear HT HLS HNB
      generalize wc = y2 at HS ⊢
      go_upto_region 25 with (go_at_call 47; refine (rf_num W.heap.size g _ 16384 _ HS.out.rr.rd).mono ?_; rintro e' xn ⟨rfl, hr, hf⟩; have HT := Aside0.mk (HS.out.read hr hf); clear hr hf)
      have hq := num_in (RdAt.fine HS.out.rr.rd) MO (by decide)
      obtain ⟨qn, tn, hqn⟩ : ∃ x t, rdNum MO s7 = (x, t) := ⟨_, _, rfl⟩
      rw [hqn] at hq
      rw [show rdNum 16384 s7 = (qn, tn) from hqn] at HT ⊢
      simp only at hq HT ⊢
      obtain ⟨N, hN⟩ : ∃ N : Nat, qn = (N : Int) := ⟨qn.toNat, by omega⟩
      subst hN
      have HNB := Aside0.mk (show N ≤ 16384 by have h9 : (N : Int) ≤ 16384 := hq.2.1; omega)
      have HLS := Aside0.mk (show rdStop rdCl N tn = (cls, s8) by have h := HS8.out; rw [rdLsS, seqR, hqn] at h; simpa only [Int.toNat_natCast] using h)
      clear hq hqn HS
      go_upto_block 4 with fail
      go_cut [] from 99 to 128 (fun w' => ∃ (V : Value), Aside0 (RqSt W g gr gy (fun _ => True) w' s8 e i v k (zag u) (.slice A1 es.length n1) (.slice A2 chs.length n2) V (.slice none 0 0) (.slice none 0 0) es chs cls [] []))
      case first =>
        go_wp2_with fail
        go_loopg [11] N (fun kq vi w' => ∃ (ii j : Nat) (t : RS) (V : Value) (xs : List Clash), vi = .int .u64 (ii : Int) ∧ Aside0 (kq = j ∧ ii + j = N ∧ xs.length = ii) ∧ Aside0 (rdStop rdCl N tn = (xs ++ (rdStop rdCl j t).1, (rdStop rdCl j t).2)) ∧ Aside0 (RqSt W g gr gy (fun _ => True) w' t e i v k (zag u) (.slice A1 es.length n1) (.slice A2 chs.length n2) V (.slice none 0 0) (.slice none 0 0) es chs xs [] []))
        case atStart => exact ⟨0, N, tn, .slice none 0 0, [], rfl, ⟨rfl, by omega, rfl⟩, ⟨by simp⟩, HT⟩
        case round =>
          obtain ⟨ii, j, t, V, xs, rfl, HJ, HE, HS⟩ := hrel
          clear HT
          have hbad := HS.out.rr.badc
          by_cases hgo : 0 < j ∧ t.2 = false
          · obtain ⟨j, rfl⟩ : ∃ k, j = k + 1 := ⟨j - 1, by omega⟩
            have HSB := Aside0.mk hgo.2
            rw [hgo.2] at hbad
            have hlt1 : decide ((ii : Int) < (N : Int)) = true := decide_eq_true (by have := HJ.out; omega)
            have hlt2 : decide (ii < N) = true := decide_eq_true (by have := HJ.out; omega)
            have HWI := Aside0.mk (wrap_up ii (by have := HJ.out; have := HNB.out; omega))
            clear hgo
            obtain ⟨f0, t1, hr0⟩ : ∃ x u, rdText LT t = (x, u) := ⟨_, _, rfl⟩
            have HF0 := Aside0.mk hr0
            obtain ⟨f1, t2, hr1⟩ : ∃ x u, rdSd t1 = (x, u) := ⟨_, _, rfl⟩
            have HF1 := Aside0.mk hr1
            obtain ⟨f2, t3, hr2⟩ : ∃ x u, rdSd t2 = (x, u) := ⟨_, _, rfl⟩
            have HF2 := Aside0.mk hr2
            obtain ⟨f3, t4, hr3⟩ : ∃ x u, rdSd t3 = (x, u) := ⟨_, _, rfl⟩
            have HF3 := Aside0.mk hr3
            have HEL := Aside0.mk (show rdCl t = (⟨f0, f1, f2, f3⟩, t4) by simp only [rdCl, seqR, hr0, hr1, hr2, hr3])
            clear hr0 hr1 hr2 hr3
            go_upto_region 29 with (go_at_call 49; refine (rf_text W.heap.size g _ 131072 _ HS.out.rr.rd (by decide)).mono ?_; rw [HF0.out]; rintro e' x1 ⟨rfl, hr, hf⟩; have HA := Aside0.mk (HS.out.read hr hf); clear hr hf)
            have HCN := Aside0.mk (show W.heap.size ≤ x1.heap.size ∧ g ≠ x1.heap.size ∧ gy ≠ x1.heap.size ∧ gr ≠ x1.heap.size by have a1 := HA.out.fr.size; have a2 := HA.out.rr.lt2; have a3 := blk_lt HA.out.bY; have a4 := blk_lt HA.out.bQ; omega)
            have HSc := Aside0.mk (HA.out.fresh (.cells #[.string f0, .bool false, .string ⟨#[]⟩, .bool false, .string ⟨#[]⟩, .bool false, .string ⟨#[]⟩] 59))
            have HYc := Aside0.mk (blk_new x1 (.cells #[.string f0, .bool false, .string ⟨#[]⟩, .bool false, .string ⟨#[]⟩, .bool false, .string ⟨#[]⟩] 59))
            clear hbad HS HA
            generalize x1.alloc (.cells #[.string f0, .bool false, .string ⟨#[]⟩, .bool false, .string ⟨#[]⟩, .bool false, .string ⟨#[]⟩] 59) = z1 at HSc HYc ⊢
            generalize x1.heap.size = C at HSc HYc HCN ⊢
            go_upto_region 30 with (go_at_call 51; refine (rs_side W.heap.size g _ _ HSc.out.rr).mono ?_; rw [HF1.out]; rintro e' x2 ⟨rfl, hr, hf⟩; have HSd := Aside0.mk (HSc.out.readR hr hf); have hyd := hf.blk HYc.out (by decide); have HYd := Aside0.mk hyd; obtain ⟨q0, q1, q2, q3, q4, q5, q6⟩ := sev_cells hyd; have zz0 := blk_frozen hyd 1; have zz1 := blk_frozen hyd 2; clear hr hf hyd)
            have HSe := Aside0.mk ((HSd.out.far HYd.out (by decide) HCN.out 1 (.bool f1.f0)).far (blk_set HYd.out 1 (.bool f1.f0)) (by decide) HCN.out 2 (.string f1.f1))
            have HYe := Aside0.mk (show ((x2.setCell ⟨C, 1, none⟩ (.bool f1.f0)).setCell ⟨C, 2, none⟩ (.string f1.f1)).heap[C]? = some (.cells #[.string f0, .bool f1.f0, .string f1.f1, .bool false, .string ⟨#[]⟩, .bool false, .string ⟨#[]⟩] 59 (0, 0)) from (blk_set (blk_set HYd.out 1 (.bool f1.f0)) 2 (.string f1.f1)).trans rfl)
            clear HSc HYc HSd HYd q0 q1 q2 q3 q4 q5 q6 zz0 zz1
            generalize ((x2.setCell ⟨C, 1, none⟩ (.bool f1.f0)).setCell ⟨C, 2, none⟩ (.string f1.f1)) = z2 at HSe HYe ⊢
            have HSc := HSe
            have HYc := HYe
            clear HSe HYe
            go_upto_region 31 with (go_at_call 51; refine (rs_side W.heap.size g _ _ HSc.out.rr).mono ?_; rw [HF2.out]; rintro e' x3 ⟨rfl, hr, hf⟩; have HSd := Aside0.mk (HSc.out.readR hr hf); have hyd := hf.blk HYc.out (by decide); have HYd := Aside0.mk hyd; obtain ⟨q0, q1, q2, q3, q4, q5, q6⟩ := sev_cells hyd; have zz0 := blk_frozen hyd 3; have zz1 := blk_frozen hyd 4; clear hr hf hyd)
            have HSe := Aside0.mk ((HSd.out.far HYd.out (by decide) HCN.out 3 (.bool f2.f0)).far (blk_set HYd.out 3 (.bool f2.f0)) (by decide) HCN.out 4 (.string f2.f1))
            have HYe := Aside0.mk (show ((x3.setCell ⟨C, 3, none⟩ (.bool f2.f0)).setCell ⟨C, 4, none⟩ (.string f2.f1)).heap[C]? = some (.cells #[.string f0, .bool f1.f0, .string f1.f1, .bool f2.f0, .string f2.f1, .bool false, .string ⟨#[]⟩] 59 (0, 0)) from (blk_set (blk_set HYd.out 3 (.bool f2.f0)) 4 (.string f2.f1)).trans rfl)
            clear HSc HYc HSd HYd q0 q1 q2 q3 q4 q5 q6 zz0 zz1
            generalize ((x3.setCell ⟨C, 3, none⟩ (.bool f2.f0)).setCell ⟨C, 4, none⟩ (.string f2.f1)) = z3 at HSe HYe ⊢
            have HSc := HSe
            have HYc := HYe
            clear HSe HYe
            go_upto_region 32 with (go_at_call 51; refine (rs_side W.heap.size g _ _ HSc.out.rr).mono ?_; rw [HF3.out]; rintro e' x4 ⟨rfl, hr, hf⟩; have HSd := Aside0.mk (HSc.out.readR hr hf); have hyd := hf.blk HYc.out (by decide); have HYd := Aside0.mk hyd; obtain ⟨q0, q1, q2, q3, q4, q5, q6⟩ := sev_cells hyd; have zz0 := blk_frozen hyd 5; have zz1 := blk_frozen hyd 6; clear hr hf hyd)
            have HSe := Aside0.mk ((HSd.out.far HYd.out (by decide) HCN.out 5 (.bool f3.f0)).far (blk_set HYd.out 5 (.bool f3.f0)) (by decide) HCN.out 6 (.string f3.f1))
            have HYe := Aside0.mk (show ((x4.setCell ⟨C, 5, none⟩ (.bool f3.f0)).setCell ⟨C, 6, none⟩ (.string f3.f1)).heap[C]? = some (.cells #[.string f0, .bool f1.f0, .string f1.f1, .bool f2.f0, .string f2.f1, .bool f3.f0, .string f3.f1] 59 (0, 0)) from (blk_set (blk_set HYd.out 5 (.bool f3.f0)) 6 (.string f3.f1)).trans rfl)
            clear HSc HYc HSd HYd q0 q1 q2 q3 q4 q5 q6 zz0 zz1
            generalize ((x4.setCell ⟨C, 5, none⟩ (.bool f3.f0)).setCell ⟨C, 6, none⟩ (.string f3.f1)) = z4 at HSe HYe ⊢
            have HSc := HSe
            have HYc := HYe
            clear HSe HYe
            obtain ⟨q0, q1, q2, q3, q4, q5, q6⟩ := sev_cells HYc.out
            have HSt := Aside0.mk HSc.out.all
            have cv := HSt.out.c.2.2.2.2.2.2.2.1
            clear HSc HYc
            go_wp2_with (at_builtin; refine Kd.R_append k59 (w0 := z4) W.heap.size rfl (.tmp 124) (.tmp 126) 26 59 (.agg #[.string ⟨#[]⟩, .bool false, .string ⟨#[]⟩, .bool false, .string ⟨#[]⟩, .bool false, .string ⟨#[]⟩]) 88 rfl Try.underlying26 (by kernel_rfl) rfl (by decide) (by omega) V xs (⟨f0, f1, f2, f3⟩ : Clash) [.string f0, .bool f1.f0, .string f1.f1, .bool f2.f0, .string f2.f1, .bool f3.f0, .string f3.f1] (fun _ => True) (fun _ => False) rfl rfl ?aP (fun _ hk => hk.elim) (fun _ _ => trivial) ?aO ?aB ?aS ?aL ?_; (case aP => exact k59_mkM _ _ _ _); (case aO => exact HSt.out.r3); (case aB => exact Below.refl _ _); (case aS => exact HSt.out.fr.size); (case aL => have := HJ.out; have := HNB.out; omega); intro v1 w6 ho hb hgr hat; obtain ⟨Ax, nx, cx, hvx⟩ := R_slice' ho; subst hvx; have hf6 := (show Fr W.heap.size [59] z4 w6 by obtain ⟨inner, h⟩ := Kd.R_own HSt.out.r3; exact Fr.of_grown h (Nat.le_refl _) hgr (by simp)); have HS6 := Aside0.mk (HSt.out.push3 ho hf6 hb); have hy6 := hf6.blk HSt.out.bY (by decide); have hc61 : w6.cell? ⟨gy, 7, none⟩ = some V := (blk_cell hy6 7).trans rfl; have hz61 : w6.frozen? ⟨gy, 7, none⟩ = false := blk_frozen hy6 7; clear ho hb hgr hat hf6 hy6)
            go_roundg j
            case measure => have := HJ.out; omega
            case rel =>
              refine ⟨ii + 1, j, t4, .slice Ax nx cx, xs ++ [(⟨f0, f1, f2, f3⟩ : Clash)], ?_, ⟨rfl, by have := HJ.out; omega, by have := HJ.out; simp; omega⟩, ⟨?_⟩, ⟨HS6.out⟩⟩
              · rw [HWI.out]
              · have h := stop_snoc _ _ _ _ _ _ HSB.out HE.out
                rw [HEL.out] at h
                exact h
          · have hx := HE.out
            rw [HLS.out] at hx
            have HXE : (cls = xs ∧ s8 = t) := by
              cases hs : t.2 with
              | true =>
                rw [stop_bad rdCl _ hs] at hx
                simpa using hx
              | false =>
                have : j = 0 := (by omega : ∀ j : Nat, ¬ 0 < j → j = 0) j (fun h => hgo ⟨h, hs⟩)
                subst this
                simpa [rdStop] using hx
            clear hx
            obtain ⟨hxa, hxb⟩ := HXE
            rcases (show (decide ((ii : Int) < (N : Int)) = false ∧ decide (ii < N) = false) ∨ (decide ((ii : Int) < (N : Int)) = true ∧ decide (ii < N) = true ∧ t.2 = true) by
              have h1 := HJ.out
              cases hs : t.2 with
              | true => by_cases hi : ii = N
                        · exact .inl ⟨decide_eq_false (by omega), decide_eq_false (by omega)⟩
                        · exact .inr ⟨decide_eq_true (by omega), decide_eq_true (by omega), rfl⟩
              | false => exact .inl ⟨decide_eq_false (by have : ¬ 0 < j := fun h => hgo ⟨h, hs⟩; omega), decide_eq_false (by have : ¬ 0 < j := fun h => hgo ⟨h, hs⟩; omega)⟩) with hcmp | hcmp
            · have hcm1 := hcmp.1
              have hcm2 := hcmp.2
              rw [← hxa, ← hxb] at HS
              clear hcmp hgo hxa hxb
              go_wp2_with fail
              go_meet
              case rel => exact ⟨V, HS⟩
            · have hcm1 := hcmp.1
              have hcm2 := hcmp.2.1
              rw [hcmp.2.2] at hbad
              rw [← hxa, ← hxb] at HS
              clear hcmp hgo hxa hxb
              go_wp2_with fail
              go_meet
              case rel => exact ⟨V, HS⟩
      case rest =>
        obtain ⟨V, HS⟩ := hcut
        obtain ⟨A3, n3, hvv, _, _⟩ := Kd.R_reads HS.out.r3
        subst hvv
        clear HT HLS HNB
        generalize wc = y3 at HS ⊢
        go_upto_region 34 with (go_at_call 47; refine (rf_num W.heap.size g _ 16384 _ HS.out.rr.rd).mono ?_; rintro e' xn ⟨rfl, hr, hf⟩; have HT := Aside0.mk (HS.out.read hr hf); clear hr hf)
        have hq := num_in (RdAt.fine HS.out.rr.rd) MO (by decide)
        obtain ⟨qn, tn, hqn⟩ : ∃ x t, rdNum MO s8 = (x, t) := ⟨_, _, rfl⟩
        rw [hqn] at hq
        rw [show rdNum 16384 s8 = (qn, tn) from hqn] at HT ⊢
        simp only at hq HT ⊢
        obtain ⟨N, hN⟩ : ∃ N : Nat, qn = (N : Int) := ⟨qn.toNat, by omega⟩
        subst hN
        have HNB := Aside0.mk (show N ≤ 16384 by have h9 : (N : Int) ≤ 16384 := hq.2.1; omega)
        have HLS := Aside0.mk (show rdStop rdCoS N tn = (coms, s9) by have h := HS9.out; rw [rdLsS, seqR, hqn] at h; simpa only [Int.toNat_natCast] using h)
        clear hq hqn HS
        go_upto_block 6 with fail
        go_cut [] from 131 to 149 (fun w' => ∃ (V : Value), Aside0 (RqSt W g gr gy (fun _ => True) w' s9 e i v k (zag u) (.slice A1 es.length n1) (.slice A2 chs.length n2) (.slice A3 cls.length n3) V (.slice none 0 0) es chs cls coms []))
        case first =>
          go_wp2_with fail
          go_loopg [13] N (fun kq vi w' => ∃ (ii j : Nat) (t : RS) (V : Value) (xs : List Com), vi = .int .u64 (ii : Int) ∧ Aside0 (kq = j ∧ ii + j = N ∧ xs.length = ii) ∧ Aside0 (rdStop rdCoS N tn = (xs ++ (rdStop rdCoS j t).1, (rdStop rdCoS j t).2)) ∧ Aside0 (RqSt W g gr gy (fun _ => True) w' t e i v k (zag u) (.slice A1 es.length n1) (.slice A2 chs.length n2) (.slice A3 cls.length n3) V (.slice none 0 0) es chs cls xs []))
          case atStart => exact ⟨0, N, tn, .slice none 0 0, [], rfl, ⟨rfl, by omega, rfl⟩, ⟨by simp⟩, HT⟩
          case round =>
            obtain ⟨ii, j, t, V, xs, rfl, HJ, HE, HS⟩ := hrel
            clear HT
            have hbad := HS.out.rr.badc
            by_cases hgo : 0 < j ∧ t.2 = false
            · obtain ⟨j, rfl⟩ : ∃ k, j = k + 1 := ⟨j - 1, by omega⟩
              have HSB := Aside0.mk hgo.2
              rw [hgo.2] at hbad
              have hlt1 : decide ((ii : Int) < (N : Int)) = true := decide_eq_true (by have := HJ.out; omega)
              have hlt2 : decide (ii < N) = true := decide_eq_true (by have := HJ.out; omega)
              have HWI := Aside0.mk (wrap_up ii (by have := HJ.out; have := HNB.out; omega))
              clear hgo
              obtain ⟨Ay, ny, cy, hvy⟩ := R_slice' HS.out.r4
              subst hvy
              have HSd := Aside0.mk (HS.out.below (below_drew (Below.refl wr.heap.size wr)))
              have hc1 := HS.out.c.2.2.2.2.2.2.2.2.1
              have hcd : wr.drew.cell? ⟨gy, 8, none⟩ = some (.slice Ay ny cy) := HSd.out.c.2.2.2.2.2.2.2.2.1
              go_wp2
              go_region_law (first | (refine Kd.R_append_step kC (w0 := w5) W.heap.size (by rfl) (.tmp 144) (.tmp 147) 27 44 (.agg #[.int .u64 0, .slice none 0 0, .int .u64 0, .int .u64 0, .string ⟨#[]⟩]) 64 rfl Try.underlying27 (by kernel_rfl) rfl (by decide) (by omega) (.slice Ay ny cy) xs (rdCoS t).1 [.int .u64 (rdCoS t).1.id, .slice Ap (rdCoS t).1.ps.length np, .int .u64 (rdCoS t).1.gen, .int .u64 (rdCoS t).1.root, .string (rdCoS t).1.text] (fun _ => True) (fun k => some k ≠ (Value.slice Ay ny cy).ownBlock) rfl rfl (coM HP5.out) (fun _ hk => ⟨trivial, hk⟩) (fun _ _ => trivial) HS5.out.r4 (Below.refl _ _) HS5.out.fr.size (by have := HJ.out; have := HNB.out; omega) ?_; intro v1 w6 ho hb hgr hat; obtain ⟨Ax, nx, cx, hvx⟩ := R_slice' ho; subst hvx; have hf6 := (show Fr W.heap.size [44] w5 w6 by obtain ⟨inner, h⟩ := Kd.R_own HS5.out.r4; exact Fr.of_grown h (Nat.le_refl _) hgr (by simp)); have HS6 := Aside0.mk (HS5.out.push4 ho hf6 hb); have hy6 := hf6.blk HS5.out.bY (by decide); have hc61 : w6.cell? ⟨gy, 8, none⟩ = some (.slice Ay ny cy) := (blk_cell hy6 8).trans rfl; have hz61 : w6.frozen? ⟨gy, 8, none⟩ = false := blk_frozen hy6 8; clear ho hb hgr hat hf6 hy6) | (go_simp; (go_at_call 52; refine (rs_commit W.heap.size g t _ HSd.out.rr).mono ?_; rintro e' w5 ⟨vp, rfl, hp, hr, hf⟩; have HS5 := Aside0.mk (HSd.out.readR hr hf); have HP5 := Aside0.mk (Kd.R_lower (Kd.R_mono (show Kd.R (Kd.int .u64) 23 w5 wr.drew.heap.size (fun k => True ∧ some k ≠ (Value.slice Ay ny cy).ownBlock) vp _ by obtain ⟨inner, h⟩ := Kd.R_own HSd.out.r4; exact Kd.R_new hp h) (fun _ hk => hk.2)) HSd.out.fr.size); obtain ⟨Ap, np, hvp, _, _⟩ := Kd.R_reads HP5.out; subst hvp; have hc51 := HS5.out.c.2.2.2.2.2.2.2.2.1; have hc5b : (w5.alloc (.cells #[.int .u64 (rdCoS t).1.id, .slice Ap (rdCoS t).1.ps.length np, .int .u64 (rdCoS t).1.gen, .int .u64 (rdCoS t).1.root, .string (rdCoS t).1.text] 44)).cell? ⟨gy, 8, none⟩ = some (.slice Ay ny cy) := (HS5.out.below (below_alloc (Below.refl _ _) _)).c.2.2.2.2.2.2.2.2.1; clear hr hf hp)))
              all_goals (
                go_wp2
                go_roundg j
                case measure => have := HJ.out; omega
                case rel => exact ⟨ii + 1, j, (rdCoS t).2, .slice Ax nx cx, xs ++ [(rdCoS t).1], by rw [HWI.out], ⟨rfl, by have := HJ.out; omega, by have := HJ.out; simp; omega⟩, ⟨stop_snoc _ _ _ _ _ _ HSB.out HE.out⟩, ⟨HS6.out⟩⟩)
            · have hx := HE.out
              rw [HLS.out] at hx
              have HXE : (coms = xs ∧ s9 = t) := by
                cases hs : t.2 with
                | true =>
                  rw [stop_bad rdCoS _ hs] at hx
                  simpa using hx
                | false =>
                  have : j = 0 := (by omega : ∀ j : Nat, ¬ 0 < j → j = 0) j (fun h => hgo ⟨h, hs⟩)
                  subst this
                  simpa [rdStop] using hx
              clear hx
              obtain ⟨hxa, hxb⟩ := HXE
              rcases (show (decide ((ii : Int) < (N : Int)) = false ∧ decide (ii < N) = false) ∨ (decide ((ii : Int) < (N : Int)) = true ∧ decide (ii < N) = true ∧ t.2 = true) by
                have h1 := HJ.out
                cases hs : t.2 with
                | true => by_cases hi : ii = N
                          · exact .inl ⟨decide_eq_false (by omega), decide_eq_false (by omega)⟩
                          · exact .inr ⟨decide_eq_true (by omega), decide_eq_true (by omega), rfl⟩
                | false => exact .inl ⟨decide_eq_false (by have : ¬ 0 < j := fun h => hgo ⟨h, hs⟩; omega), decide_eq_false (by have : ¬ 0 < j := fun h => hgo ⟨h, hs⟩; omega)⟩) with hcmp | hcmp
              · have hcm1 := hcmp.1
                have hcm2 := hcmp.2
                rw [← hxa, ← hxb] at HS
                clear hcmp hgo hxa hxb
                go_wp2_with fail
                go_meet
                case rel => exact ⟨V, HS⟩
              · have hcm1 := hcmp.1
                have hcm2 := hcmp.2.1
                rw [hcmp.2.2] at hbad
                rw [← hxa, ← hxb] at HS
                clear hcmp hgo hxa hxb
                go_wp2_with fail
                go_meet
                case rel => exact ⟨V, HS⟩
        case rest =>
          obtain ⟨V, HS⟩ := hcut
          obtain ⟨A4, n4, hvv, _, _⟩ := Kd.R_reads HS.out.r4
          subst hvv
          clear HT HLS HNB
          generalize wc = y4 at HS ⊢
          go_upto_region 39 with (go_at_call 47; refine (rf_num W.heap.size g _ 16384 _ HS.out.rr.rd).mono ?_; rintro e' xn ⟨rfl, hr, hf⟩; have HT := Aside0.mk (HS.out.read hr hf); clear hr hf)
          have hq := num_in (RdAt.fine HS.out.rr.rd) MO (by decide)
          obtain ⟨qn, tn, hqn⟩ : ∃ x t, rdNum MO s9 = (x, t) := ⟨_, _, rfl⟩
          rw [hqn] at hq
          rw [show rdNum 16384 s9 = (qn, tn) from hqn] at HT ⊢
          simp only at hq HT ⊢
          obtain ⟨N, hN⟩ : ∃ N : Nat, qn = (N : Int) := ⟨qn.toNat, by omega⟩
          subst hN
          have HNB := Aside0.mk (show N ≤ 16384 by have h9 : (N : Int) ≤ 16384 := hq.2.1; omega)
          have HLS := Aside0.mk (show rdStop rdRf N tn = (refs, s10) by have h := HS10.out; rw [rdLsS, seqR, hqn] at h; simpa only [Int.toNat_natCast] using h)
          clear hq hqn HS
          go_upto_block 8 with fail
          go_cut [] from 152 to 178 (fun w' => ∃ (V : Value), Aside0 (RqSt W g gr gy (fun _ => True) w' s10 e i v k (zag u) (.slice A1 es.length n1) (.slice A2 chs.length n2) (.slice A3 cls.length n3) (.slice A4 coms.length n4) V es chs cls coms refs))
          case first =>
            go_wp2_with fail
            go_loopg [14] N (fun kq vi w' => ∃ (ii j : Nat) (t : RS) (V : Value) (xs : List Ref), vi = .int .u64 (ii : Int) ∧ Aside0 (kq = j ∧ ii + j = N ∧ xs.length = ii) ∧ Aside0 (rdStop rdRf N tn = (xs ++ (rdStop rdRf j t).1, (rdStop rdRf j t).2)) ∧ Aside0 (RqSt W g gr gy (fun _ => True) w' t e i v k (zag u) (.slice A1 es.length n1) (.slice A2 chs.length n2) (.slice A3 cls.length n3) (.slice A4 coms.length n4) V es chs cls coms xs))
            case atStart => exact ⟨0, N, tn, .slice none 0 0, [], rfl, ⟨rfl, by omega, rfl⟩, ⟨by simp⟩, HT⟩
            case round =>
              obtain ⟨ii, j, t, V, xs, rfl, HJ, HE, HS⟩ := hrel
              clear HT
              have hbad := HS.out.rr.badc
              by_cases hgo : 0 < j ∧ t.2 = false
              · obtain ⟨j, rfl⟩ : ∃ k, j = k + 1 := ⟨j - 1, by omega⟩
                have HSB := Aside0.mk hgo.2
                rw [hgo.2] at hbad
                have hlt1 : decide ((ii : Int) < (N : Int)) = true := decide_eq_true (by have := HJ.out; omega)
                have hlt2 : decide (ii < N) = true := decide_eq_true (by have := HJ.out; omega)
                have HWI := Aside0.mk (wrap_up ii (by have := HJ.out; have := HNB.out; omega))
                clear hgo
                obtain ⟨f0, t1, hr0⟩ : ∃ x u, rdText LT t = (x, u) := ⟨_, _, rfl⟩
                have HF0 := Aside0.mk hr0
                obtain ⟨f1, t2, hr1⟩ : ∃ x u, rdFlag t1 = (x, u) := ⟨_, _, rfl⟩
                have HF1 := Aside0.mk hr1
                obtain ⟨f2, t3, hr2⟩ : ∃ x u, rdNum M64 t2 = (x, u) := ⟨_, _, rfl⟩
                have HF2 := Aside0.mk hr2
                have HEL := Aside0.mk (show rdRf t = (⟨f0, f1, f2⟩, t3) by simp only [rdRf, seqR, hr0, hr1, hr2])
                clear hr0 hr1 hr2
                go_upto_region 43 with (go_at_call 49; refine (rf_text W.heap.size g _ 131072 _ HS.out.rr.rd (by decide)).mono ?_; rw [HF0.out]; rintro e' x1 ⟨rfl, hr, hf⟩; have HA := Aside0.mk (HS.out.read hr hf); clear hr hf)
                have HCN := Aside0.mk (show W.heap.size ≤ x1.heap.size ∧ g ≠ x1.heap.size ∧ gy ≠ x1.heap.size ∧ gr ≠ x1.heap.size by have a1 := HA.out.fr.size; have a2 := HA.out.rr.lt2; have a3 := blk_lt HA.out.bY; have a4 := blk_lt HA.out.bQ; omega)
                have HSc := Aside0.mk (HA.out.fresh (.cells #[.string f0, .bool false, .int .u64 0] 62))
                have HYc := Aside0.mk (blk_new x1 (.cells #[.string f0, .bool false, .int .u64 0] 62))
                clear hbad HS HA
                generalize x1.alloc (.cells #[.string f0, .bool false, .int .u64 0] 62) = z1 at HSc HYc ⊢
                generalize x1.heap.size = C at HSc HYc HCN ⊢
                go_upto_region 44 with (go_at_call 48; refine (rf_flag W.heap.size g _ _ HSc.out.rr.rd).mono ?_; rw [HF1.out]; rintro e' x2 ⟨rfl, hr, hf⟩; have HSd := Aside0.mk (HSc.out.read hr hf); have hyd := hf.blk HYc.out (by decide); have HYd := Aside0.mk hyd; obtain ⟨q0, q1, q2⟩ := tri_cells hyd; have zz0 := blk_frozen hyd 1; clear hr hf hyd)
                have HSe := Aside0.mk (HSd.out.far HYd.out (by decide) HCN.out 1 (.bool f1))
                have HYe := Aside0.mk (show (x2.setCell ⟨C, 1, none⟩ (.bool f1)).heap[C]? = some (.cells #[.string f0, .bool f1, .int .u64 0] 62 (0, 0)) from (blk_set HYd.out 1 (.bool f1)).trans rfl)
                clear HSc HYc HSd HYd q0 q1 q2 zz0
                generalize (x2.setCell ⟨C, 1, none⟩ (.bool f1)) = z2 at HSe HYe ⊢
                have HSc := HSe
                have HYc := HYe
                clear HSe HYe
                go_upto_region 45 with (go_at_call 47; refine (rf_num W.heap.size g _ 18446744073709551615 _ HSc.out.rr.rd).mono ?_; rw [HF2.out]; rintro e' x3 ⟨rfl, hr, hf⟩; have HSd := Aside0.mk (HSc.out.read hr hf); have hyd := hf.blk HYc.out (by decide); have HYd := Aside0.mk hyd; obtain ⟨q0, q1, q2⟩ := tri_cells hyd; have zz0 := blk_frozen hyd 2; clear hr hf hyd)
                have HSe := Aside0.mk (HSd.out.far HYd.out (by decide) HCN.out 2 (.int .u64 f2))
                have HYe := Aside0.mk (show (x3.setCell ⟨C, 2, none⟩ (.int .u64 f2)).heap[C]? = some (.cells #[.string f0, .bool f1, .int .u64 f2] 62 (0, 0)) from (blk_set HYd.out 2 (.int .u64 f2)).trans rfl)
                clear HSc HYc HSd HYd q0 q1 q2 zz0
                generalize (x3.setCell ⟨C, 2, none⟩ (.int .u64 f2)) = z3 at HSe HYe ⊢
                have HSc := HSe
                have HYc := HYe
                clear HSe HYe
                obtain ⟨q0, q1, q2⟩ := tri_cells HYc.out
                have HSt := Aside0.mk HSc.out.all
                have cv := HSt.out.c.2.2.2.2.2.2.2.2.2
                clear HSc HYc
                go_wp2_with (at_builtin; refine Kd.R_append k62 (w0 := z3) W.heap.size rfl (.tmp 174) (.tmp 176) 28 62 (.agg #[.string ⟨#[]⟩, .bool false, .int .u64 0]) 32 rfl Try.underlying28 (by kernel_rfl) rfl (by decide) (by omega) V xs (⟨f0, f1, f2⟩ : Ref) [.string f0, .bool f1, .int .u64 f2] (fun _ => True) (fun _ => False) rfl rfl ?aP (fun _ hk => hk.elim) (fun _ _ => trivial) ?aO ?aB ?aS ?aL ?_; (case aP => exact k62_mkM _ _ _ _); (case aO => exact HSt.out.r5); (case aB => exact Below.refl _ _); (case aS => exact HSt.out.fr.size); (case aL => have := HJ.out; have := HNB.out; omega); intro v1 w6 ho hb hgr hat; obtain ⟨Ax, nx, cx, hvx⟩ := R_slice' ho; subst hvx; have hf6 := (show Fr W.heap.size [62] z3 w6 by obtain ⟨inner, h⟩ := Kd.R_own HSt.out.r5; exact Fr.of_grown h (Nat.le_refl _) hgr (by simp)); have HS6 := Aside0.mk (HSt.out.push5 ho hf6 hb); have hy6 := hf6.blk HSt.out.bY (by decide); have hc61 : w6.cell? ⟨gy, 9, none⟩ = some V := (blk_cell hy6 9).trans rfl; have hz61 : w6.frozen? ⟨gy, 9, none⟩ = false := blk_frozen hy6 9; clear ho hb hgr hat hf6 hy6)
                go_roundg j
                case measure => have := HJ.out; omega
                case rel =>
                  refine ⟨ii + 1, j, t3, .slice Ax nx cx, xs ++ [(⟨f0, f1, f2⟩ : Ref)], ?_, ⟨rfl, by have := HJ.out; omega, by have := HJ.out; simp; omega⟩, ⟨?_⟩, ⟨HS6.out⟩⟩
                  · rw [HWI.out]
                  · have h := stop_snoc _ _ _ _ _ _ HSB.out HE.out
                    rw [HEL.out] at h
                    exact h
              · have hx := HE.out
                rw [HLS.out] at hx
                have HXE : (refs = xs ∧ s10 = t) := by
                  cases hs : t.2 with
                  | true =>
                    rw [stop_bad rdRf _ hs] at hx
                    simpa using hx
                  | false =>
                    have : j = 0 := (by omega : ∀ j : Nat, ¬ 0 < j → j = 0) j (fun h => hgo ⟨h, hs⟩)
                    subst this
                    simpa [rdStop] using hx
                clear hx
                obtain ⟨hxa, hxb⟩ := HXE
                rcases (show (decide ((ii : Int) < (N : Int)) = false ∧ decide (ii < N) = false) ∨ (decide ((ii : Int) < (N : Int)) = true ∧ decide (ii < N) = true ∧ t.2 = true) by
                  have h1 := HJ.out
                  cases hs : t.2 with
                  | true => by_cases hi : ii = N
                            · exact .inl ⟨decide_eq_false (by omega), decide_eq_false (by omega)⟩
                            · exact .inr ⟨decide_eq_true (by omega), decide_eq_true (by omega), rfl⟩
                  | false => exact .inl ⟨decide_eq_false (by have : ¬ 0 < j := fun h => hgo ⟨h, hs⟩; omega), decide_eq_false (by have : ¬ 0 < j := fun h => hgo ⟨h, hs⟩; omega)⟩) with hcmp | hcmp
                · have hcm1 := hcmp.1
                  have hcm2 := hcmp.2
                  rw [← hxa, ← hxb] at HS
                  clear hcmp hgo hxa hxb
                  go_wp2_with fail
                  go_meet
                  case rel => exact ⟨V, HS⟩
                · have hcm1 := hcmp.1
                  have hcm2 := hcmp.2.1
                  rw [hcmp.2.2] at hbad
                  rw [← hxa, ← hxb] at HS
                  clear hcmp hgo hxa hxb
                  go_wp2_with fail
                  go_meet
                  case rel => exact ⟨V, HS⟩
          case rest =>
            obtain ⟨V, HS⟩ := hcut
            obtain ⟨A5, n5, hvv, _, _⟩ := Kd.R_reads HS.out.r5
            subst hvv
            clear HT HLS HNB
            generalize wc = y5 at HS ⊢
            obtain ⟨p0, p1, p2, p3, p4, p5, p6, p7, p8, p9⟩ := HS.out.c
            obtain ⟨r0, r1, r2, r3, r4, r5, r6, r7, r8, r9⟩ := ten_cells HS.out.bQ
            have zr := fun j => blk_frozen HS.out.bQ j
            cases hd : rdDone s10 with
            | true =>
              have HDN := Aside0.mk hd
              have HOF := Aside0.mk (show ofRpS b = (⟨e, i, v, k, zag u, es, chs, cls, coms, refs⟩, 0) by unfold ofRpS; rw [HRD.out]; simp only; rw [if_pos hd])
              clear hd
              obtain ⟨hk, hf⟩ := ten_put (B := W.heap.size) HS.out.bQ (Nat.le_of_eq HGR.out.symm) (.int .i64 e) (.bool i) (.string v) (.int .u64 k) (.int .i64 (zag u)) (.slice A1 es.length n1) (.slice A2 chs.length n2) (.slice A3 cls.length n3) (.slice A4 coms.length n4) (.slice A5 refs.length n5)
              have HKe := Aside0.mk hk
              have HBe := Aside0.mk (HS.out.fr.below (Nat.le_refl _) |>.trans (hf.below HS.out.fr.size))
              have HC1 := Aside0.mk (Kd.R_reads (hf.R HS.out.r1 (en_E (by decide))))
              have HC2 := Aside0.mk (Kd.R_reads (hf.R HS.out.r2 (ch_E (by decide))))
              have HC3 := Aside0.mk (Kd.R_reads (hf.R HS.out.r3 (cl_E (by decide))))
              have HC4 := Aside0.mk (Kd.R_reads (hf.R HS.out.r4 (coE (by decide) (by decide))))
              have HC5 := Aside0.mk (Kd.R_reads (hf.R HS.out.r5 (rf_E (by decide))))
              clear hk hf
              go_wp2_with (go_at_call 53; refine (rf_done W.heap.size g _ _ HS.out.rr.rd).mono ?_; rw [HDN.out]; rintro e' x10 ⟨rfl, rfl⟩)
              generalize (World.setCell (World.setCell (World.setCell (World.setCell (World.setCell (World.setCell (World.setCell (World.setCell (World.setCell (World.setCell y5 ⟨gr, 0, none⟩ (.int .i64 e)) ⟨gr, 1, none⟩ (.bool i)) ⟨gr, 2, none⟩ (.string v)) ⟨gr, 3, none⟩ (.int .u64 k)) ⟨gr, 4, none⟩ (.int .i64 (zag u))) ⟨gr, 5, none⟩ (.slice A1 es.length n1)) ⟨gr, 6, none⟩ (.slice A2 chs.length n2)) ⟨gr, 7, none⟩ (.slice A3 cls.length n3)) ⟨gr, 8, none⟩ (.slice A4 coms.length n4)) ⟨gr, 9, none⟩ (.slice A5 refs.length n5)) = wz at HKe HBe HC1 HC2 HC3 HC4 HC5 ⊢
              refine bodyPost_ret (results_ct rfl _ _ gr 30 #[.int .i64 e, .bool i, .string v, .int .u64 k, .int .i64 (zag u), .slice A1 es.length n1, .slice A2 chs.length n2, .slice A3 cls.length n3, .slice A4 coms.length n4, .slice A5 refs.length n5] (0, 0) _ rfl HKe.out huR rfl (by kernel_rfl)) rfl ?_
              rw [HOF.out]
              obtain ⟨B1, o1, hv1, hl1, hC1⟩ := HC1.out
              injection hv1 with ea eb ec
              subst ea ec
              clear eb
              obtain ⟨B2, o2, hv2, hl2, hC2⟩ := HC2.out
              injection hv2 with ea eb ec
              subst ea ec
              clear eb
              obtain ⟨B3, o3, hv3, hl3, hC3⟩ := HC3.out
              injection hv3 with ea eb ec
              subst ea ec
              clear eb
              obtain ⟨B4, o4, hv4, hl4, hC4⟩ := HC4.out
              injection hv4 with ea eb ec
              subst ea ec
              clear eb
              obtain ⟨B5, o5, hv5, hl5, hC5⟩ := HC5.out
              injection hv5 with ea eb ec
              subst ea ec
              clear eb
              exact ⟨A1, n1, A2, n2, A3, n3, A4, n4, A5, n5, rfl, ⟨hC1, hl1, hC2, hl2, hC3, hl3, hC4, hl4, hC5, hl5⟩, HBe.out⟩
            | false =>
              have HDN := Aside0.mk hd
              have HOF := Aside0.mk (show ofRpS b = (noRp, 20) by unfold ofRpS; rw [HRD.out]; simp only; rw [if_neg (by rw [hd]; decide)])
              clear hd
              obtain ⟨hk, hf⟩ := ten_put (B := W.heap.size) HS.out.bQ (Nat.le_of_eq HGR.out.symm) (.int .i64 0) (.bool false) (.string ⟨#[]⟩) (.int .u64 0) (.int .i64 0) (.slice none 0 0) (.slice none 0 0) (.slice none 0 0) (.slice none 0 0) (.slice none 0 0)
              have HKe := Aside0.mk hk
              have HBe := Aside0.mk (HS.out.fr.below (Nat.le_refl _) |>.trans (hf.below HS.out.fr.size))
              clear hk hf
              go_wp2_with (go_at_call 53; refine (rf_done W.heap.size g _ _ HS.out.rr.rd).mono ?_; rw [HDN.out]; rintro e' x10 ⟨rfl, rfl⟩)
              generalize (World.setCell (World.setCell (World.setCell (World.setCell (World.setCell (World.setCell (World.setCell (World.setCell (World.setCell (World.setCell y5 ⟨gr, 0, none⟩ (.int .i64 0)) ⟨gr, 1, none⟩ (.bool false)) ⟨gr, 2, none⟩ (.string ⟨#[]⟩)) ⟨gr, 3, none⟩ (.int .u64 0)) ⟨gr, 4, none⟩ (.int .i64 0)) ⟨gr, 5, none⟩ (.slice none 0 0)) ⟨gr, 6, none⟩ (.slice none 0 0)) ⟨gr, 7, none⟩ (.slice none 0 0)) ⟨gr, 8, none⟩ (.slice none 0 0)) ⟨gr, 9, none⟩ (.slice none 0 0)) = wz at HKe HBe ⊢
              refine bodyPost_ret (results_ct rfl _ _ gr 30 #[.int .i64 0, .bool false, .string ⟨#[]⟩, .int .u64 0, .int .i64 0, .slice none 0 0, .slice none 0 0, .slice none 0 0, .slice none 0 0, .slice none 0 0] (0, 0) _ rfl HKe.out huR rfl (by kernel_rfl)) rfl ?_
              rw [HOF.out]
              exact ⟨none, 0, none, 0, none, 0, none, 0, none, 0, rfl, ⟨Kd.C_nil _ _, Nat.le_refl _, Kd.C_nil _ _, Nat.le_refl _, Kd.C_nil _ _, Nat.le_refl _, Kd.C_nil _ _, Nat.le_refl _, Kd.C_nil _ _, Nat.le_refl _⟩, HBe.out⟩
end Go.Proofs.Ytcegkljkmnpkaaa.Sep
namespace Go.Proofs.Ytcegkljkmnpkaaa.Sep
set_option linter.unusedSimpArgs false
set_option linter.unusedVariables false
open Go.RowKit Go.Proofs.Ytcegkljkmnpkaaa.PCore Go.Proofs.Ytcegkljkmnpkaaa.Plain Go.Proofs.YtcegkljkmnpkaaaW.PrintWords Go.Proofs.YtcegkljkmnpkaaaW.PrintLast Go.Proofs.YtcegkljkmnpkaaaW.PrintMore
set_option maxHeartbeats 64000000 in
set_option maxRecDepth 100000 in
theorem replyPuts_walk (A1 : Option Addr) (n1 : Nat) (A2 : Option Addr) (n2 : Nat) (A3 : Option Addr) (n3 : Nat) (A4 : Option Addr) (n4 : Nat) (A5 : Option Addr) (n5 : Nat) (a : Rp) (Ab : Option Addr) (cb : Nat) (b : List Int) (W : World) (h : RpC W a A1 n1 A2 n2 A3 n3 A4 n4 A5 n5) (hw0 : okRp a)
    (hC1 : Kd.C (Kd.int .u8) W Ab b.length b) (hc1 : b.length ≤ cb) (hm1 : b.length ≤ maxLen) (hw1 : ∀ x ∈ b, (Lit.int .u8 x).wf = true) :
    Calls Try.prog 4 #[.agg (rpV a A1 n1 A2 n2 A3 n3 A4 n4 A5 n5), .slice Ab b.length cb] W fun e W1 => e = .returned (.bool true) ∧ Below W.heap.size W W1 := by
  have huR := Try.underlying30
  have HC := Aside0.mk h
  have HCb := Aside0.mk hC1
  have HNb := Aside0.mk hc1
  have HIA := Aside0.mk (okRp_in hw0)
  have HX0 := Aside0.mk (blk_new W (.cells (rpV a A1 n1 A2 n2 A3 n3 A4 n4 A5 n5) 30))
  have HB0 := Aside0.mk (below_alloc (Below.refl W.heap.size W) (.cells (rpV a A1 n1 A2 n2 A3 n3 A4 n4 A5 n5) 30))
  cases hla : lightRp a with
  | false =>
    have HLA := Aside0.mk hla
    clear hla
    clear h hw0 hC1 hc1 hm1 hw1
    go_enter Try.func4, Try.ntmps4
    go_upto_region 1 with (fail)
    generalize W.alloc (.cells (rpV a A1 n1 A2 n2 A3 n3 A4 n4 A5 n5) 30) = w0 at HX0 HB0 ⊢
    generalize hgx : W.heap.size = gx at HX0 ⊢
    go_wp2_with (first | (go_at_call 7; have hq := HB1.out; clear hq; refine (light20_calls a A1 n1 A2 n2 A3 n3 A4 n4 A5 n5 _ (HC.out.below HB1.out)).mono ?_; rw [HLA.out]; rintro e' w2 ⟨rfl, hb⟩; have HB2 := Aside0.mk (below_step HB1.out hb); have HX2 := Aside0.mk (blk_below HX1.out hb); obtain ⟨q0, q1, q2, q3, q4, q5, q6, q7, q8, q9⟩ := ten_cells HX2.out; clear hb) | (go_at_call 6; refine (awake20_calls _).mono ?_; rintro e' w1 ⟨rfl, hb⟩; have HB1 := Aside0.mk (below_step HB0.out hb); have HX1 := Aside0.mk (blk_below HX0.out hb); obtain ⟨p0, p1, p2, p3, p4, p5, p6, p7, p8, p9⟩ := ten_cells HX1.out; clear hb))
    go_ret
    exact ⟨by first | rfl | simp, HB2.out⟩
  | true =>
    have HLA := Aside0.mk hla
    have HSM := Aside0.mk (light_small hla)
    by_cases hb0 : (3000 : Int) < (b.length : Int)
    · have hb' : decide ((3000 : Int) < (b.length : Int)) = true := decide_eq_true hb0
      clear hla hb0
      clear h hw0 hC1 hc1 hm1 hw1
      go_enter Try.func4, Try.ntmps4
      go_upto_region 1 with (fail)
      generalize W.alloc (.cells (rpV a A1 n1 A2 n2 A3 n3 A4 n4 A5 n5) 30) = w0 at HX0 HB0 ⊢
      generalize hgx : W.heap.size = gx at HX0 ⊢
      go_wp2_with (first | (go_at_call 7; have hq := HB1.out; clear hq; refine (light20_calls a A1 n1 A2 n2 A3 n3 A4 n4 A5 n5 _ (HC.out.below HB1.out)).mono ?_; rw [HLA.out]; rintro e' w2 ⟨rfl, hb⟩; have HB2 := Aside0.mk (below_step HB1.out hb); have HX2 := Aside0.mk (blk_below HX1.out hb); obtain ⟨q0, q1, q2, q3, q4, q5, q6, q7, q8, q9⟩ := ten_cells HX2.out; clear hb) | (go_at_call 6; refine (awake20_calls _).mono ?_; rintro e' w1 ⟨rfl, hb⟩; have HB1 := Aside0.mk (below_step HB0.out hb); have HX1 := Aside0.mk (blk_below HX0.out hb); obtain ⟨p0, p1, p2, p3, p4, p5, p6, p7, p8, p9⟩ := ten_cells HX1.out; clear hb))
      go_ret
      exact ⟨by first | rfl | simp, HB2.out⟩
    · have hb' : decide ((3000 : Int) < (b.length : Int)) = false := decide_eq_false hb0
      have HFB := Aside0.mk (show Fine (b, false) from ⟨fun x hx => Plain.u8_of (hw1 x hx), by show b.length ≤ 1000000; omega, fun h => by simp at h⟩)
      have HLN := Aside0.mk (encRp_len a HSM.out HIA.out)
      clear hla hb0
      obtain ⟨y, r, hy⟩ : ∃ (y : Rp) (r : Int), ofRp b = (y, r) := ⟨_, _, rfl⟩
      have HOB := Aside0.mk hy
      clear hy
      clear h hw0 hC1 hc1 hm1 hw1
      go_enter Try.func4, Try.ntmps4
      go_upto_region 1 with (fail)
      generalize W.alloc (.cells (rpV a A1 n1 A2 n2 A3 n3 A4 n4 A5 n5) 30) = w0 at HX0 HB0 ⊢
      generalize hgx : W.heap.size = gx at HX0 ⊢
      go_upto_region 5 with (first | (go_at_call 7; have hq := HB1.out; clear hq; refine (light20_calls a A1 n1 A2 n2 A3 n3 A4 n4 A5 n5 _ (HC.out.below HB1.out)).mono ?_; rw [HLA.out]; rintro e' w2 ⟨rfl, hb⟩; have HB2 := Aside0.mk (below_step HB1.out hb); have HX2 := Aside0.mk (blk_below HX1.out hb); obtain ⟨q0, q1, q2, q3, q4, q5, q6, q7, q8, q9⟩ := ten_cells HX2.out; clear hb) | (go_at_call 6; refine (awake20_calls _).mono ?_; rintro e' w1 ⟨rfl, hb⟩; have HB1 := Aside0.mk (below_step HB0.out hb); have HX1 := Aside0.mk (blk_below HX0.out hb); obtain ⟨p0, p1, p2, p3, p4, p5, p6, p7, p8, p9⟩ := ten_cells HX1.out; clear hb))
      clear p0 p1 p2 p3 p4 p5 p6 p7 p8 p9 q0 q1 q2 q3 q4 q5 q6 q7 q8 q9
      go_upto_region 6 with (go_at_call 11; refine (of20_calls Ab cb b _ (Kd.C_below HCb.out HB2.out) HFB.out).mono ?_; rw [HOB.out]; rintro e' w3 ⟨D1, d1, D2, d2, D3, d3, D4, d4, D5, d5, rfl, hr, hb⟩; have HD3 := Aside0.mk hr; have HX3 := Aside0.mk (blk_below HX2.out hb); have HB3 := Aside0.mk (below_step HB2.out hb); clear hr hb)
      have HM4 := Aside0.mk (blk_new w3 (.cells (rpV y D1 d1 D2 d2 D3 d3 D4 d4 D5 d5) 30))
      have HX4 := Aside0.mk (blk_alloc HX3.out (.cells (rpV y D1 d1 D2 d2 D3 d3 D4 d4 D5 d5) 30))
      have HB4 := Aside0.mk (below_alloc HB3.out (.cells (rpV y D1 d1 D2 d2 D3 d3 D4 d4 D5 d5) 30))
      have HD4 := Aside0.mk (HD3.out.below (below_alloc (Below.refl _ _) (.cells (rpV y D1 d1 D2 d2 D3 d3 D4 d4 D5 d5) 30)))
      generalize w3.alloc (.cells (rpV y D1 d1 D2 d2 D3 d3 D4 d4 D5 d5) 30) = w4 at HM4 HX4 HB4 HD4 ⊢
      generalize w3.heap.size = gm at HM4 ⊢
      go_upto_region 7 with (go_at_call 12; refine (rof20_calls Ab cb b _ (Kd.C_below HCb.out HB4.out) HNb.out HFB.out).mono ?_; rw [HOB.out]; rintro e' w5 ⟨E1, e1, E2, e2, E3, e3, E4, e4, E5, e5, rfl, hr, hb⟩; have HE5 := Aside0.mk hr; have HD5 := Aside0.mk (HD4.out.below hb); have HX5 := Aside0.mk (blk_below HX4.out hb); have HM5 := Aside0.mk (blk_below HM4.out hb); have HB5 := Aside0.mk (below_step HB4.out hb); clear hr hb)
      have HJ6 := Aside0.mk (blk_new w5 (.cells (rpV y E1 e1 E2 e2 E3 e3 E4 e4 E5 e5) 30))
      have HX6 := Aside0.mk (blk_alloc HX5.out (.cells (rpV y E1 e1 E2 e2 E3 e3 E4 e4 E5 e5) 30))
      have HM6 := Aside0.mk (blk_alloc HM5.out (.cells (rpV y E1 e1 E2 e2 E3 e3 E4 e4 E5 e5) 30))
      have HB6 := Aside0.mk (below_alloc HB5.out (.cells (rpV y E1 e1 E2 e2 E3 e3 E4 e4 E5 e5) 30))
      have HD6 := Aside0.mk (HD5.out.below (below_alloc (Below.refl _ _) (.cells (rpV y E1 e1 E2 e2 E3 e3 E4 e4 E5 e5) 30)))
      have HE6 := Aside0.mk (HE5.out.below (below_alloc (Below.refl _ _) (.cells (rpV y E1 e1 E2 e2 E3 e3 E4 e4 E5 e5) 30)))
      generalize w5.alloc (.cells (rpV y E1 e1 E2 e2 E3 e3 E4 e4 E5 e5) 30) = w6 at HJ6 HX6 HM6 HB6 HD6 HE6 ⊢
      generalize w5.heap.size = gj at HJ6 ⊢
      have HBd := Aside0.mk (below_drew HB6.out)
      have HB6d := Aside0.mk (below_drew (Below.refl w6.heap.size w6))
      have HXd := Aside0.mk (blk_drew HX6.out)
      have HMd := Aside0.mk (blk_drew HM6.out)
      have HJd := Aside0.mk (blk_drew HJ6.out)
      have txd := ten_cells HXd.out
      have tmd := ten_cells HMd.out
      have tjd := ten_cells HJd.out
      go_region_held (fun w' => (World.cell? w' ⟨gx, 0, none⟩ = some (.int .i64 a.err) ∧ World.cell? w' ⟨gx, 1, none⟩ = some (.bool a.is) ∧ World.cell? w' ⟨gx, 2, none⟩ = some (.string a.val) ∧ World.cell? w' ⟨gx, 3, none⟩ = some (.int .u64 a.id) ∧ World.cell? w' ⟨gx, 4, none⟩ = some (.int .i64 a.n) ∧ World.cell? w' ⟨gx, 5, none⟩ = some (.slice A1 a.es.length n1) ∧ World.cell? w' ⟨gx, 6, none⟩ = some (.slice A2 a.chs.length n2) ∧ World.cell? w' ⟨gx, 7, none⟩ = some (.slice A3 a.cls.length n3) ∧ World.cell? w' ⟨gx, 8, none⟩ = some (.slice A4 a.coms.length n4) ∧ World.cell? w' ⟨gx, 9, none⟩ = some (.slice A5 a.refs.length n5)) ∧ (World.cell? w' ⟨gm, 0, none⟩ = some (.int .i64 y.err) ∧ World.cell? w' ⟨gm, 1, none⟩ = some (.bool y.is) ∧ World.cell? w' ⟨gm, 2, none⟩ = some (.string y.val) ∧ World.cell? w' ⟨gm, 3, none⟩ = some (.int .u64 y.id) ∧ World.cell? w' ⟨gm, 4, none⟩ = some (.int .i64 y.n) ∧ World.cell? w' ⟨gm, 5, none⟩ = some (.slice D1 y.es.length d1) ∧ World.cell? w' ⟨gm, 6, none⟩ = some (.slice D2 y.chs.length d2) ∧ World.cell? w' ⟨gm, 7, none⟩ = some (.slice D3 y.cls.length d3) ∧ World.cell? w' ⟨gm, 8, none⟩ = some (.slice D4 y.coms.length d4) ∧ World.cell? w' ⟨gm, 9, none⟩ = some (.slice D5 y.refs.length d5)) ∧ (World.cell? w' ⟨gj, 0, none⟩ = some (.int .i64 y.err) ∧ World.cell? w' ⟨gj, 1, none⟩ = some (.bool y.is) ∧ World.cell? w' ⟨gj, 2, none⟩ = some (.string y.val) ∧ World.cell? w' ⟨gj, 3, none⟩ = some (.int .u64 y.id) ∧ World.cell? w' ⟨gj, 4, none⟩ = some (.int .i64 y.n) ∧ World.cell? w' ⟨gj, 5, none⟩ = some (.slice E1 y.es.length e1) ∧ World.cell? w' ⟨gj, 6, none⟩ = some (.slice E2 y.chs.length e2) ∧ World.cell? w' ⟨gj, 7, none⟩ = some (.slice E3 y.cls.length e3) ∧ World.cell? w' ⟨gj, 8, none⟩ = some (.slice E4 y.coms.length e4) ∧ World.cell? w' ⟨gj, 9, none⟩ = some (.slice E5 y.refs.length e5))) (first | exact ⟨txd, tmd, tjd⟩ | exact ⟨tx7, tm7, tj7⟩ | exact ⟨tx8, tm8, tj8⟩ | exact ⟨tx9, tm9, tj9⟩ | go_keep) (first | (go_at_call 9; have hq := HB8.out; clear hq; refine (rsame20_calls y y D1 d1 D2 d2 D3 d3 D4 d4 D5 d5 E1 e1 E2 e2 E3 e3 E4 e4 E5 e5 true _ (HD6.out.below HR8.out) (HE6.out.below HR8.out)).mono ?_; rw [rsameRp_true, sameRp_me]; rintro e' w9 ⟨rfl, hb⟩; have HB9 := Aside0.mk (below_step HB8.out hb); have HX9 := Aside0.mk (blk_below HX8.out hb); have HM9 := Aside0.mk (blk_below HM8.out hb); have HJ9 := Aside0.mk (blk_below HJ8.out hb); have tx9 := ten_cells HX9.out; have tm9 := ten_cells HM9.out; have tj9 := ten_cells HJ9.out; clear hb) | (go_at_call 14; have hq := HB7.out; clear hq; refine (rput20_calls a A1 n1 A2 n2 A3 n3 A4 n4 A5 n5 _ (HC.out.below HB7.out) HIA.out HLN.out).mono ?_; rintro e' w8 ⟨v8, rfl, hr, hb⟩; obtain ⟨P2, p2, hv8, _, hCp⟩ := Kd.R_reads hr; subst hv8; have HP8 := Aside0.mk hCp; have HB8 := Aside0.mk (below_step HB7.out hb); have HR8 := Aside0.mk (below_step HR7.out hb); have HX8 := Aside0.mk (blk_below HX7.out hb); have HM8 := Aside0.mk (blk_below HM7.out hb); have HJ8 := Aside0.mk (blk_below HJ7.out hb); have tx8 := ten_cells HX8.out; have tm8 := ten_cells HM8.out; have tj8 := ten_cells HJ8.out; have hs18 := Kd.C_string (P := Try.prog) (A := P1) (c := p1) Try.underlying35 Try.underlying5 Try.underlying9 (Kd.C_below HP7.out hb); have hs28 := Kd.C_string (P := Try.prog) (A := P2) (c := p2) Try.underlying35 Try.underlying5 Try.underlying9 HP8.out; clear hr hb hCp) | (go_at_call 13; refine (put20_calls a A1 n1 A2 n2 A3 n3 A4 n4 A5 n5 _ (HC.out.below HBd.out) HIA.out HLN.out).mono ?_; rintro e' w7 ⟨v7, rfl, hr, hb⟩; obtain ⟨P1, p1, hv7, _, hCp⟩ := Kd.R_reads hr; subst hv7; have HP7 := Aside0.mk hCp; have HB7 := Aside0.mk (below_step HBd.out hb); have HR7 := Aside0.mk (below_step HB6d.out hb); have HX7 := Aside0.mk (blk_below HXd.out hb); have HM7 := Aside0.mk (blk_below HMd.out hb); have HJ7 := Aside0.mk (blk_below HJd.out hb); have tx7 := ten_cells HX7.out; have tm7 := ten_cells HM7.out; have tj7 := ten_cells HJ7.out; have hs17 := Kd.C_string (P := Try.prog) (A := P1) (c := p1) Try.underlying35 Try.underlying5 Try.underlying9 HP7.out; clear hr hb hCp))
      all_goals (
        go_wp2
        go_ret
        subst hgx
        exact ⟨by first | rfl | simp, HB9.out⟩)
end Go.Proofs.Ytcegkljkmnpkaaa.Sep
