/- A state told of bytes: the walk of state.Of. Printed by gen7.py. Conditions: the bounds of the statements. -/
import Derived.Test.YtabfjjcbceibpaaStC
namespace Go.Proofs.Ytabfjjcbceibpaa.Sep
set_option linter.unusedSimpArgs false
set_option linter.unusedVariables false
open Go.RowKit Go.Proofs.Ytabfjjcbceibpaa.PCore Go.Proofs.Ytabfjjcbceibpaa.Plain Go.Proofs.YtabfjjcbceibpaaW.PrintWords Go.Proofs.YtabfjjcbceibpaaW.PrintLast Go.Proofs.YtabfjjcbceibpaaW.PrintMore
open Go.Proofs.Ytabfjjcbceibpaa.PDat (S46 k46 z46 k46_mkM rd_T46 at_T46 S48 k48 z48 k48_mkM rd_T48 at_T48)
theorem svSt_new {T : Nat} {W w2 : World} {g : Nat} {s' : RS} {x : ByteArray} (hr : RdAt T W.heap.size g w2 s') (hk : w2.heap[W.heap.size]? = some (.cells zeroSC 29 (0, 0))) (hb : Below W.heap.size W w2) :
    SvSt T (fun _ => True) W g w2.heap.size (w2.alloc (.cells #[.string x, .int .u64 0, .int .u64 0, .int .u64 0, .slice none 0 0, .slice none 0 0, .slice none 0 0] 29)) s' x 0 0 0 (.slice none 0 0) (.slice none 0 0) (.slice none 0 0) [] [] :=
  ⟨hr.below (below_alloc (Below.refl _ _) _), blk_new _ _, Kd.R_nil _ _ _ _ _, Kd.R_nil _ _ _ _ _, blk_alloc hk _, blk_lt hk, below_alloc hb _⟩
/-- What Of answers. -/
def OfSAns (W : World) (r : St × Int) (e : Ending) (W1 : World) : Prop := ∃ A n B m C o, e = .returned (.tuple #[stV r.1 A n B m C o, .int .i64 r.2]) ∧ StC W1 r.1 A n B m C o ∧ Below W.heap.size W W1
theorem s_pred (j : Nat) (h : j ≤ 1000000) : IntKind.u64.wrap (j : Int) = (j : Int) := by rw [IntKind.wrap_u64]; omega
set_option maxHeartbeats 16000000 in
set_option maxRecDepth 100000 in
theorem of17_calls (A : Option Addr) (c : Nat) (b : List Int) (W : World) (hC : Kd.C (Kd.int .u8) W A b.length b) (hF : Fine (b, false)) :
    Calls Try.prog 6 #[.slice A b.length c] W fun e W1 => OfSAns W (ofS b) e W1 := by
  have hmf : ∀ (fn : Fn) (first cap : Array Value) (w : World), (Instr.makeFunc fn first cap).run Try.prog w = .ok (.func fn first cap) w := fun _ _ _ _ => rfl
  have HC := Aside0.mk hC
  have HFF := Aside0.mk hF
  have huS := Try.underlying29
  have huR := Try.underlying46
  have huM := Try.underlying48
  obtain ⟨hd, s1, h1⟩ : ∃ q s1, rdText 20 (b, false) = (q, s1) := ⟨_, _, rfl⟩
  obtain ⟨x1, s2, h2⟩ : ∃ q s2, rdNum M64 s1 = (q, s2) := ⟨_, _, rfl⟩
  obtain ⟨x2, s3, h3⟩ : ∃ q s3, rdNum M64 s2 = (q, s3) := ⟨_, _, rfl⟩
  obtain ⟨x3, s4, h4⟩ : ∃ q s4, rdNum M64 s3 = (q, s4) := ⟨_, _, rfl⟩
  obtain ⟨n, s5, h5⟩ : ∃ (q : Nat) (s5 : RS), rdNum 40 s4 = ((q : Int), s5) := by
    have f1 := fine_text hF 20
    rw [h1] at f1
    have f2 := fine_num f1 M64
    rw [h2] at f2
    have f3 := fine_num f2 M64
    rw [h3] at f3
    have f4 := fine_num f3 M64
    rw [h4] at f4
    simp only at f4
    have := num_in f4 40 (by decide)
    exact ⟨(rdNum 40 s4).1.toNat, (rdNum 40 s4).2, Prod.ext (by simp only; omega) rfl⟩
  have f1 := fine_text hF 20
  rw [h1] at f1
  have f2 := fine_num f1 M64
  rw [h2] at f2
  have f3 := fine_num f2 M64
  rw [h3] at f3
  have f4 := fine_num f3 M64
  rw [h4] at f4
  have f5 := fine_num f4 40
  rw [h5] at f5
  have hn := num_in f4 40 (by decide)
  rw [h5] at hn
  simp only at f1 f2 f3 f4 f5 hn
  have HN := Aside0.mk (show n ≤ 40 by omega)
  have HF5 := Aside0.mk f5
  have HST := Aside0.mk (show rdSt b = (let rs := rdMany rdR n s5; let j := rdNum 200 rs.2; let ms := rdMany rdM j.1.toNat j.2; let t := rdText 1048576 ms.2; (⟨hd, x1, x2, x3, rs.1, ms.1, []⟩, t.1, t.2)) by
    unfold rdSt
    simp only [h1, h2, h3, h4, h5, Int.toNat_natCast])
  have H1 := Aside0.mk h1
  have H2 := Aside0.mk h2
  have H3 := Aside0.mk h3
  have H4 := Aside0.mk h4
  have H5 := Aside0.mk h5
  clear hC hF h1 h2 h3 h4 h5 f1 f2 f3 f4 f5 hn
  go_enter Try.func6, Try.ntmps6
  go_wp2_with (first | (go_at_call 15; have hq := HS5.out; clear hq; refine (rd_num W.heap.size g _ 40 _ HS5.out.rd).mono ?_; rw [H5.out]; rintro e w6 ⟨rfl, hr, hf⟩; have HS6 := Aside0.mk (HS5.out.fr hr hf (by decide)); clear hr hf HS5) | (go_at_call 15; have hq := HS4.out; clear hq; refine (rd_num W.heap.size g _ M64 _ HS4.out.rd).mono ?_; rw [H4.out]; rintro e w5 ⟨rfl, hr, hf⟩; have hs := HS4.out.fr hr hf (by decide); have zz3 := hs.z 3; obtain ⟨p0, p1, p2, p3, p4, p5, p6⟩ := hs.c; have HS5 := Aside0.mk (hs.set3 (by decide) x3); clear hr hf hs HS4) | (go_at_call 15; have hq := HS3.out; clear hq; refine (rd_num W.heap.size g _ M64 _ HS3.out.rd).mono ?_; rw [H3.out]; rintro e w4 ⟨rfl, hr, hf⟩; have hs := HS3.out.fr hr hf (by decide); have zz2 := hs.z 2; obtain ⟨m0, m1, m2, m3, m4, m5, m6⟩ := hs.c; have HS4 := Aside0.mk (hs.set2 (by decide) x2); clear hr hf hs HS3) | (go_at_call 15; have hq := HS2.out; clear hq; refine (rd_num W.heap.size g _ M64 _ HS2.out.rd).mono ?_; rw [H2.out]; rintro e w3 ⟨rfl, hr, hf⟩; have hs := HS2.out.fr hr hf (by decide); have zz1 := hs.z 1; obtain ⟨l0, l1, l2, l3, l4, l5, l6⟩ := hs.c; have HS3 := Aside0.mk (hs.set1 (by decide) x1); clear hr hf hs HS2) | (go_at_call 14; refine (rd_text W.heap.size g (b, false) 20 _ HR1.out (by decide)).mono ?_; rw [H1.out]; rintro e w2 ⟨rfl, hr, hf⟩; have HS2 := Aside0.mk (svSt_new (T := 77) (x := hd) hr (hf.blk HK1.out (by decide)) (HB1.out.trans (hf.below HB1.out.size))); obtain ⟨k0, k1, k2, k3, k4, k5, k6⟩ := HS2.out.c; clear hr hf) | (go_at_call 13; refine (rd_read A c b _ (Kd.C_below HC.out (below_alloc (Below.refl W.heap.size W) (.cells zeroSC 29))) HFF.out).mono ?_; rintro e w1 ⟨g, rfl, hr, hb⟩; have HR1 := Aside0.mk (hr W.heap.size (below_alloc (Below.refl W.heap.size W) (.cells zeroSC 29)).size); have HB1 := Aside0.mk (below_step (below_alloc (Below.refl W.heap.size W) (.cells zeroSC 29)) hb); have HK1 := Aside0.mk ((Fr.of_below (T := []) (B := 0) hb).blk (blk_new W (.cells zeroSC 29)) (by simp)); clear hr hb))
  go_loopg [8] n (fun kq v8 w' => ∃ (j : Nat) (s : RS) (v : Value) (xs : List Ref), v8 = .int .u64 (j : Int) ∧ Aside0 (kq = j ∧ j + xs.length = n) ∧ Aside0 (rdMany rdR n s5 = (xs ++ (rdMany rdR j s).1, (rdMany rdR j s).2)) ∧ Aside0 (SvSt 77 (fun _ => True) W g w2.heap.size w' s hd x1 x2 x3 v (.slice none 0 0) (.slice none 0 0) xs []))
  case atStart => exact ⟨n, s5, .slice none 0 0, [], rfl, ⟨rfl, by simp⟩, ⟨by simp⟩, ⟨HS6.out⟩⟩
  case round =>
    obtain ⟨j, s, v, xs, rfl, HJ, HE, HS⟩ := hrel
    cases j with
    | succ j =>
      have hj : decide ((0 : Int) < (j : Int) + 1) = true := decide_eq_true (by omega)
      have HWI := Aside0.mk (s_pred j (by have := HJ.out; have := HN.out; omega))
      obtain ⟨t, sa, h1⟩ : ∃ q z, rdText 20 s = (q, z) := ⟨_, _, rfl⟩
      obtain ⟨f, sb, h2⟩ : ∃ q z, rdFlag sa = (q, z) := ⟨_, _, rfl⟩
      obtain ⟨m, sc, h3⟩ : ∃ q z, rdNum M64 sb = (q, z) := ⟨_, _, rfl⟩
      have HRX := Aside0.mk (show rdR s = (⟨t, f, m⟩, sc) by unfold rdR; rw [h1]; simp only; rw [h2]; simp only; rw [h3])
      have HQ1 := Aside0.mk h1
      have HQ2 := Aside0.mk h2
      have HQ3 := Aside0.mk h3
      clear h1 h2 h3
      go_upto_region 13 with (first | (go_at_call 15; have hq := HA2.out; clear hq; refine (rd_num W.heap.size g sb M64 _ HA2.out.rd).mono ?_; rw [HQ3.out]; rintro e wc ⟨rfl, hr, hf⟩; have hs := HA2.out.fr hr hf (by decide); have hx := hf.blk HX2.out (by decide); have zy2 := blk_frozen hx 2; obtain ⟨b0, b1, b2⟩ := tri_cells hx; obtain ⟨ha, hxa⟩ := hs.setX hx HLX.out (by decide) 2 (.int .u64 m); have HAL := Aside0.mk ha.loose; have HX3 := Aside0.mk (show (wc.setCell ⟨wa.heap.size, 2, none⟩ (.int .u64 m)).heap[wa.heap.size]? = some (.cells #[.string t, .bool f, .int .u64 m] 46 (0, 0)) from hxa); clear hr hf hs hx ha hxa) | (go_at_call 16; have hq := HA1.out; clear hq; refine (rd_flag W.heap.size g sa _ HA1.out.rd).mono ?_; rw [HQ2.out]; rintro e wb ⟨rfl, hr, hf⟩; have hs := HA1.out.fr hr hf (by decide); have hx := hf.blk HX1.out (by decide); have zy1 := blk_frozen hx 1; obtain ⟨a0, a1, a2⟩ := tri_cells hx; obtain ⟨ha, hxa⟩ := hs.setX hx HLX.out (by decide) 1 (.bool f); have HA2 := Aside0.mk ha; have HX2 := Aside0.mk (show (wb.setCell ⟨wa.heap.size, 1, none⟩ (.bool f)).heap[wa.heap.size]? = some (.cells #[.string t, .bool f, .int .u64 0] 46 (0, 0)) from hxa); clear hr hf hs hx ha hxa) | (go_at_call 14; refine (rd_text W.heap.size g s 20 _ HS.out.rd (by decide)).mono ?_; rw [HQ1.out]; rintro e wa ⟨rfl, hr, hf⟩; have hs := HS.out.fr hr hf (by decide); have HLX := Aside0.mk hs.bel.size; have HA1 := Aside0.mk (hs.newX #[.string t, .bool false, .int .u64 0] 46); have HX1 := Aside0.mk (blk_new wa (.cells #[.string t, .bool false, .int .u64 0] 46)); clear hr hf hs))
      generalize (wc.setCell ⟨wa.heap.size, 2, none⟩ (.int .u64 m)) = X at HAL HX3 ⊢
      obtain ⟨y0, y1, y2⟩ := tri_cells HX3.out
      obtain ⟨r0, r1, r2, r3, r4, r5, r6⟩ := HAL.out.c
      go_wp2_with (at_builtin; refine Kd.R_append k46 (w0 := W) W.heap.size rfl (.tmp 48) (.tmp 50) 25 46 (.agg #[(.string ⟨#[]⟩), (.bool false), (.int .u64 0)]) 32 rfl Try.underlying25 (by kernel_rfl) rfl (by decide) (by omega) v xs ⟨t, f, m⟩ [.string t, .bool f, .int .u64 m] (fun _ => True) (fun _ => False) rfl rfl ?aP (fun _ hk => hk.elim) ?aF ?aO ?aB ?aS ?aL ?_; (case aP => exact k46_mkM _ _ _ _); (case aF => exact fun _ _ => trivial); (case aO => exact HAL.out.hr); (case aB => exact HAL.out.bel); (case aS => exact HAL.out.bel.size); (case aL => have := HJ.out; have := HN.out; omega); intro v9 w9 ho hb hgr hat; obtain ⟨Ax, nx, cx, hvx⟩ := R_slice' ho; subst hvx; have hF9 := (show Fr W.heap.size [46] _ w9 by obtain ⟨inner, h⟩ := Kd.R_own HAL.out.hr; exact Fr.of_grown h (Nat.le_refl _) hgr (by simp)); have HS9 := Aside0.mk (HAL.out.pushR ⟨by decide, by decide⟩ ho hF9 hb); obtain ⟨qr1, qb1, qk1, qz1⟩ := HAL.out.moreR (by decide) ho hF9 hb; obtain ⟨g0, g1, g2, g3, g4, g5, g6⟩ := st_cells qb1; have zz4 := blk_frozen qb1 4; clear ho hb hgr hat hF9 qr1 qb1 qk1 qz1)
      go_roundg j
      case measure => have := HJ.out; omega
      case rel => exact ⟨j, sc, .slice Ax nx cx, xs ++ [⟨t, f, m⟩], by rw [HWI.out], ⟨rfl, by have := HJ.out; simp; omega⟩, ⟨by have h1 := many_snoc _ _ _ _ _ _ HE.out; rw [HRX.out] at h1; exact h1⟩, ⟨HS9.out⟩⟩
    | zero =>
      have HRM := Aside0.mk (show rdMany rdR n s5 = (xs, s) by rw [HE.out]; simp [rdMany])
      have hj : decide ((0 : Int) < ((0 : Nat) : Int)) = false := decide_eq_false (by omega)
      have hf6 := HS.out.rd.fine
      obtain ⟨n2, s7, h7⟩ : ∃ (q : Nat) (s7 : RS), rdNum 200 s = ((q : Int), s7) := by
        have := num_in hf6 200 (by decide)
        exact ⟨(rdNum 200 s).1.toNat, (rdNum 200 s).2, Prod.ext (by simp only; omega) rfl⟩
      have hn2 := num_in hf6 200 (by decide)
      rw [h7] at hn2
      simp only at hn2
      have HN2 := Aside0.mk (show n2 ≤ 200 by omega)
      have H7 := Aside0.mk h7
      clear hf6 h7 hn2
      go_wp2_with (go_at_call 15; refine (rd_num W.heap.size g _ 200 _ HS.out.rd).mono ?_; rw [H7.out]; rintro e w7 ⟨rfl, hr, hf⟩; have HS7 := Aside0.mk (HS.out.fr hr hf (by decide)); clear hr hf)
      clear HS6
      clear HS HE HJ
      obtain ⟨v1, rfl⟩ : ∃ v1, v1 = v := ⟨_, rfl⟩
      obtain ⟨xs1, rfl⟩ : ∃ xs1, xs1 = xs := ⟨_, rfl⟩
      go_loopg [10] n2 (fun kq v8 w' => ∃ (j : Nat) (s : RS) (v : Value) (xs : List Made), v8 = .int .u64 (j : Int) ∧ Aside0 (kq = j ∧ j + xs.length = n2) ∧ Aside0 (rdMany rdM n2 s7 = (xs ++ (rdMany rdM j s).1, (rdMany rdM j s).2)) ∧ Aside0 (SvSt 77 (fun _ => True) W g w2.heap.size w' s hd x1 x2 x3 v1 v (.slice none 0 0) xs1 xs))
      case atStart => exact ⟨n2, s7, .slice none 0 0, [], rfl, ⟨rfl, by simp⟩, ⟨by simp⟩, ⟨HS7.out⟩⟩
      case round =>
        obtain ⟨j, s, v, xs, rfl, HJ, HE, HS⟩ := hrel
        cases j with
        | succ j =>
          have hj : decide ((0 : Int) < (j : Int) + 1) = true := decide_eq_true (by omega)
          have HWI := Aside0.mk (s_pred j (by have := HJ.out; have := HN2.out; omega))
          obtain ⟨m1, sa, h1⟩ : ∃ q z, rdNum M64 s = (q, z) := ⟨_, _, rfl⟩
          obtain ⟨m2, sb, h2⟩ : ∃ q z, rdNum M64 sa = (q, z) := ⟨_, _, rfl⟩
          have HRX := Aside0.mk (show rdM s = (⟨m1, m2⟩, sb) by unfold rdM; rw [h1]; simp only; rw [h2])
          have HQ1 := Aside0.mk h1
          have HQ2 := Aside0.mk h2
          clear h1 h2
          go_upto_region 19 with (first | (go_at_call 15; have hq := HA1.out; clear hq; refine (rd_num W.heap.size g sa M64 _ HA1.out.rd).mono ?_; rw [HQ2.out]; rintro e wc ⟨rfl, hr, hf⟩; have hs := HA1.out.fr hr hf (by decide); have hx := hf.blk HX1.out (by decide); have zy1 := blk_frozen hx 1; have b0 := (blk_cell hx 0).trans rfl; have b1 : World.cell? wc ⟨wa.heap.size, 1, none⟩ = some (.int .u64 0) := (blk_cell hx 1).trans rfl; obtain ⟨ha, hxa⟩ := hs.setX hx HLX.out (by decide) 1 (.int .u64 m2); have HAL := Aside0.mk ha.loose; have HX3 := Aside0.mk (show (wc.setCell ⟨wa.heap.size, 1, none⟩ (.int .u64 m2)).heap[wa.heap.size]? = some (.cells #[.int .u64 m1, .int .u64 m2] 48 (0, 0)) from hxa); clear hr hf hs hx ha hxa) | (go_at_call 15; refine (rd_num W.heap.size g s M64 _ HS.out.rd).mono ?_; rw [HQ1.out]; rintro e wa ⟨rfl, hr, hf⟩; have hs := HS.out.fr hr hf (by decide); have HLX := Aside0.mk hs.bel.size; have HA1 := Aside0.mk (hs.newX #[.int .u64 m1, .int .u64 0] 48); have HX1 := Aside0.mk (blk_new wa (.cells #[.int .u64 m1, .int .u64 0] 48)); clear hr hf hs))
          generalize (wc.setCell ⟨wa.heap.size, 1, none⟩ (.int .u64 m2)) = X at HAL HX3 ⊢
          have y0 : World.cell? X ⟨wa.heap.size, 0, none⟩ = some (.int .u64 m1) := (blk_cell HX3.out 0).trans rfl
          have y1 : World.cell? X ⟨wa.heap.size, 1, none⟩ = some (.int .u64 m2) := (blk_cell HX3.out 1).trans rfl
          obtain ⟨r0, r1, r2, r3, r4, r5, r6⟩ := HAL.out.c
          go_wp2_with (at_builtin; refine Kd.R_append k48 (w0 := W) W.heap.size rfl (.tmp 66) (.tmp 68) 26 48 (.agg #[(.int .u64 0), (.int .u64 0)]) 16 rfl Try.underlying26 (by kernel_rfl) rfl (by decide) (by omega) v xs ⟨m1, m2⟩ [.int .u64 m1, .int .u64 m2] (fun _ => True) (fun _ => False) rfl rfl ?aP (fun _ hk => hk.elim) ?aF ?aO ?aB ?aS ?aL ?_; (case aP => exact k48_mkM _ _ _ _); (case aF => exact fun _ _ => trivial); (case aO => exact HAL.out.hm); (case aB => exact HAL.out.bel); (case aS => exact HAL.out.bel.size); (case aL => have := HJ.out; have := HN2.out; omega); intro v9 w9 ho hb hgr hat; obtain ⟨Ax, nx, cx, hvx⟩ := R_slice' ho; subst hvx; have hF9 := (show Fr W.heap.size [48] _ w9 by obtain ⟨inner, h⟩ := Kd.R_own HAL.out.hm; exact Fr.of_grown h (Nat.le_refl _) hgr (by simp)); have HS9 := Aside0.mk (HAL.out.pushM ⟨by decide, by decide⟩ ho hF9 hb); obtain ⟨qr1, qb1, qk1, qz1⟩ := HAL.out.moreM (by decide) ho hF9 hb; obtain ⟨g0, g1, g2, g3, g4, g5, g6⟩ := st_cells qb1; have zz5 := blk_frozen qb1 5; clear ho hb hgr hat hF9 qr1 qb1 qk1 qz1)
          go_roundg j
          case measure => have := HJ.out; omega
          case rel => exact ⟨j, sb, .slice Ax nx cx, xs ++ [⟨m1, m2⟩], by rw [HWI.out], ⟨rfl, by have := HJ.out; simp; omega⟩, ⟨by have h1 := many_snoc _ _ _ _ _ _ HE.out; rw [HRX.out] at h1; exact h1⟩, ⟨HS9.out⟩⟩
        | zero =>
          have HMM := Aside0.mk (show rdMany rdM n2 s7 = (xs, s) by rw [HE.out]; simp [rdMany])
          have hj : decide ((0 : Int) < ((0 : Nat) : Int)) = false := decide_eq_false (by omega)
          obtain ⟨t, s8, h8⟩ : ∃ q z, rdText 1048576 s = (q, z) := ⟨_, _, rfl⟩
          have htz := text_size HS.out.rd.fine 1048576
          rw [h8] at htz
          simp only at htz
          have HTZ := Aside0.mk htz
          obtain ⟨ls, r, hk⟩ : ∃ ls r, ofK (bytesOf t) = (ls, r) := ⟨_, _, rfl⟩
          have HRS := Aside0.mk (show rdSt b = (⟨hd, x1, x2, x3, xs1, xs, []⟩, t, s8) by
            rw [HST.out]
            simp only [HRM.out, H7.out, HMM.out, h8, Int.toNat_natCast])
          have H8 := Aside0.mk h8
          have HK := Aside0.mk hk
          have kb := fun W => print_bytes (P := Try.prog) 9 22 5 Try.underlying9 Try.underlying22 Try.underlying5 t W
          obtain ⟨A1, n1, hv1, hl1, hC1⟩ := Kd.R_reads HS.out.hr
          obtain ⟨A2, m2, hv2, hl2, hC2⟩ := Kd.R_reads HS.out.hm
          subst hv1 hv2
          clear h8 htz hk hl1 hC1 hl2 hC2 HE HJ
          go_upto_region 22 with (first | (go_at_call 17; have hq := HS8.out; clear hq; refine (ofT t w8 _ ls r HK.out HTZ.out).mono ?_; rintro e w9 ⟨v9, rfl, hR, hb⟩; obtain ⟨A9, c9, hv9, hl9, hC9⟩ := Kd.R_reads hR; subst hv9; have hs := HS8.out.below hb; have HCL := Aside0.mk (Kd.R_set (Kd.R_lower hR HS8.out.bel.size) hs.bC (fun q hq e => cl_E (T := [29]) (by decide) q hq (by rw [e]; simp)) 6 (.slice A9 ls.length c9)); obtain ⟨r0, r1, r2, r3, r4, r5, r6⟩ := hs.c; have zz6 := hs.z 6; have HS9 := Aside0.mk (hs.set6 (by decide) (.slice A9 ls.length c9)); clear hR hb hs hl9 hC9) | (go_at_call 14; refine (rd_text W.heap.size g s 1048576 _ HS.out.rd (by decide)).mono ?_; rw [H8.out]; rintro e w8 ⟨rfl, hr, hf⟩; have HS8 := Aside0.mk (HS.out.fr hr hf (by decide)); clear hr hf))
          generalize (w9.setCell ⟨w2.heap.size, 6, none⟩ (.slice A9 ls.length c9)) = X at HS9 HCL ⊢
          clear r0 r1 r2 r3 r4 r5 r6 zz6 HS8 HS kb
          obtain ⟨ca, cb, cc, cd, ce, cf, cg⟩ := HS9.out.c
          obtain ⟨ra, rb, rc, rd, re, rf, rg⟩ := HS9.out.r
          have y0 := HS9.out.y 0
          have y1 := HS9.out.y 1
          have y2 := HS9.out.y 2
          have y3 := HS9.out.y 3
          have y4 := HS9.out.y 4
          have y5 := HS9.out.y 5
          have y6 := HS9.out.y 6
          have HSC := Aside0.mk (show StC X ⟨hd, x1, x2, x3, xs1, xs, ls⟩ A1 n1 A2 m2 A9 c9 from ⟨(Kd.R_reads' HS9.out.hr).2.2, (Kd.R_reads' HS9.out.hr).2.1, (Kd.R_reads' HS9.out.hm).2.2, (Kd.R_reads' HS9.out.hm).2.1, (Kd.R_reads' HCL.out).2.2, (Kd.R_reads' HCL.out).2.1⟩)
          by_cases hr0 : r = 0
          · subst hr0
            cases hd8 : rdDone s8 with
            | false =>
              have HOF := Aside0.mk (show ofS b = (zeroS, 20) by unfold ofS; rw [HRS.out]; simp only; rw [HK.out, if_neg (by rw [hd8]; simp)])
              have HDN := Aside0.mk hd8
              clear hd8
              go_wp2_with ((go_at_call 18; refine (rd_done W.heap.size g s8 _ HS9.out.rd).mono ?_; rw [HDN.out]; rintro e w10 ⟨rfl, rfl⟩))
              obtain ⟨hk, hf⟩ := sev_set (B := W.heap.size) HS9.out.bR (Nat.le_refl _) (.string ⟨#[]⟩) (.int .u64 0) (.int .u64 0) (.int .u64 0) (.slice none 0 0) (.slice none 0 0) (.slice none 0 0)
              refine bodyPost_ret (results_ct rfl _ _ W.heap.size 29 zeroSC (0, 0) _ rfl hk huS rfl (by kernel_rfl)) rfl ?_
              rw [HOF.out]
              exact ⟨none, 0, none, 0, none, 0, rfl, ⟨Kd.C_nil _ _, Nat.le_refl _, Kd.C_nil _ _, Nat.le_refl _, Kd.C_nil _ _, Nat.le_refl _⟩, HS9.out.bel.trans (hf.below HS9.out.bel.size)⟩
            | true =>
              have HDN := Aside0.mk hd8
              by_cases he : stateE ⟨hd, x1, x2, x3, xs1, xs, ls⟩ = 0
              · have HOF := Aside0.mk (show ofS b = (⟨hd, x1, x2, x3, xs1, xs, ls⟩, 0) by unfold ofS; rw [HRS.out]; simp only; rw [HK.out, if_pos ⟨rfl, hd8, he⟩]; rfl)
                have HEE := Aside0.mk he
                clear hd8 he
                go_wp2_with (first | (go_at_call 18; refine (rd_done W.heap.size g s8 _ HS9.out.rd).mono ?_; rw [HDN.out]; rintro e w10 ⟨rfl, rfl⟩) | (go_at_call 19; refine (right17_calls (s := ⟨hd, x1, x2, x3, xs1, xs, ls⟩) _ HSC.out).mono ?_; rw [HEE.out]; rintro e w11 ⟨rfl, hb⟩; have HS11 := Aside0.mk (HS9.out.below hb); have HCL11 := Aside0.mk (Kd.R_below HCL.out hb); obtain ⟨da, db, dc, dd, de, df, dg⟩ := HS11.out.c; obtain ⟨qa, qb, qc, qd, qe, qf, qg⟩ := HS11.out.r; have x_0 := HS11.out.y 0; have x_1 := HS11.out.y 1; have x_2 := HS11.out.y 2; have x_3 := HS11.out.y 3; have x_4 := HS11.out.y 4; have x_5 := HS11.out.y 5; have x_6 := HS11.out.y 6; clear hb))
                obtain ⟨hk, hf⟩ := sev_set (B := W.heap.size) HS11.out.bR (Nat.le_refl _) (.string hd) (.int .u64 x1) (.int .u64 x2) (.int .u64 x3) (.slice A1 xs1.length n1) (.slice A2 xs.length m2) (.slice A9 ls.length c9)
                refine bodyPost_ret (results_ct rfl _ _ W.heap.size 29 #[.string hd, .int .u64 x1, .int .u64 x2, .int .u64 x3, .slice A1 xs1.length n1, .slice A2 xs.length m2, .slice A9 ls.length c9] (0, 0) _ rfl hk huS rfl (by kernel_rfl)) rfl ?_
                rw [HOF.out]
                exact ⟨A1, n1, A2, m2, A9, c9, rfl, ⟨(Kd.R_reads' (hf.R HS11.out.hr (ref_E (by decide)))).2.2, (Kd.R_reads' HS11.out.hr).2.1, (Kd.R_reads' (hf.R HS11.out.hm (made_E (by decide)))).2.2, (Kd.R_reads' HS11.out.hm).2.1, (Kd.R_reads' (hf.R HCL11.out (cl_E (by decide)))).2.2, (Kd.R_reads' HCL11.out).2.1⟩, HS11.out.bel.trans (hf.below HS11.out.bel.size)⟩
              · have HOF := Aside0.mk (show ofS b = (zeroS, 20) by unfold ofS; rw [HRS.out]; simp only; rw [HK.out, if_neg (fun h => he h.2.2)])
                have he' : (stateE ⟨hd, x1, x2, x3, xs1, xs, ls⟩ != 0) = true := bne_iff_ne.mpr he
                clear hd8 he
                go_wp2_with (first | (go_at_call 18; refine (rd_done W.heap.size g s8 _ HS9.out.rd).mono ?_; rw [HDN.out]; rintro e w10 ⟨rfl, rfl⟩) | (go_at_call 19; refine (right17_calls (s := ⟨hd, x1, x2, x3, xs1, xs, ls⟩) _ HSC.out).mono ?_; rintro e w11 ⟨rfl, hb⟩; have HS11 := Aside0.mk (HS9.out.below hb); have HCL11 := Aside0.mk (Kd.R_below HCL.out hb); obtain ⟨da, db, dc, dd, de, df, dg⟩ := HS11.out.c; obtain ⟨qa, qb, qc, qd, qe, qf, qg⟩ := HS11.out.r; have x_0 := HS11.out.y 0; have x_1 := HS11.out.y 1; have x_2 := HS11.out.y 2; have x_3 := HS11.out.y 3; have x_4 := HS11.out.y 4; have x_5 := HS11.out.y 5; have x_6 := HS11.out.y 6; clear hb))
                obtain ⟨hk, hf⟩ := sev_set (B := W.heap.size) HS11.out.bR (Nat.le_refl _) (.string ⟨#[]⟩) (.int .u64 0) (.int .u64 0) (.int .u64 0) (.slice none 0 0) (.slice none 0 0) (.slice none 0 0)
                refine bodyPost_ret (results_ct rfl _ _ W.heap.size 29 zeroSC (0, 0) _ rfl hk huS rfl (by kernel_rfl)) rfl ?_
                rw [HOF.out]
                exact ⟨none, 0, none, 0, none, 0, rfl, ⟨Kd.C_nil _ _, Nat.le_refl _, Kd.C_nil _ _, Nat.le_refl _, Kd.C_nil _ _, Nat.le_refl _⟩, HS11.out.bel.trans (hf.below HS11.out.bel.size)⟩
          · have HOF := Aside0.mk (show ofS b = (zeroS, 20) by unfold ofS; rw [HRS.out]; simp only; rw [HK.out, if_neg (fun h => hr0 h.1)])
            have hr1 : (r != 0) = true := bne_iff_ne.mpr hr0
            clear hr0
            go_wp2
            obtain ⟨hk, hf⟩ := sev_set (B := W.heap.size) HS9.out.bR (Nat.le_refl _) (.string ⟨#[]⟩) (.int .u64 0) (.int .u64 0) (.int .u64 0) (.slice none 0 0) (.slice none 0 0) (.slice none 0 0)
            refine bodyPost_ret (results_ct rfl _ _ W.heap.size 29 zeroSC (0, 0) _ rfl hk huS rfl (by kernel_rfl)) rfl ?_
            rw [HOF.out]
            exact ⟨none, 0, none, 0, none, 0, rfl, ⟨Kd.C_nil _ _, Nat.le_refl _, Kd.C_nil _ _, Nat.le_refl _, Kd.C_nil _ _, Nat.le_refl _⟩, HS9.out.bel.trans (hf.below HS9.out.bel.size)⟩

end Go.Proofs.Ytabfjjcbceibpaa.Sep
