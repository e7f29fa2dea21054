/- The walk of the reference's Same. Printed by gen7.py. Conditions: the bounds of the statements. · The walks of slices.Clone over commits, of reply.rootless and of reply.Like. Conditions: the bounds of the statements. · The walk of reply.Like. Printed by gen9.py. Conditions: the bounds of the statements. -/
import Derived.Test.YtcegkljkmnpkaaaRqC
namespace Go.Proofs.Ytcegkljkmnpkaaa.Sep
set_option linter.unusedSimpArgs false
set_option linter.unusedVariables false
open Go.RowKit Go.Proofs.Ytcegkljkmnpkaaa.PCore Go.Proofs.Ytcegkljkmnpkaaa.Plain Go.Proofs.YtcegkljkmnpkaaaW.PrintWords Go.Proofs.YtcegkljkmnpkaaaW.PrintLast Go.Proofs.YtcegkljkmnpkaaaW.PrintMore
open Go.Proofs.Ytcegkljkmnpkaaa.PDat (S53 S47 S57 S59 S62 k53 k47 k57 k59 k62)
/-- A commit without its root. -/
def noRoot (c : Com) : Com := ⟨c.id, c.ps, c.gen, 0, c.text⟩
def rootsOf (r : Bool) (l : List Com) : List Com := if r = true then l else l.map noRoot
def rootOf (r : Bool) (c : Com) : Com := if r = true then c else noRoot c
theorem rootsOf_len (r : Bool) (l : List Com) : (rootsOf r l).length = l.length := by unfold rootsOf; split <;> simp
theorem rootsOf_at (r : Bool) (l : List Com) (i : Nat) (h : i < l.length) : (rootsOf r l)[i]'(by rw [rootsOf_len]; exact h) = rootOf r l[i] := by
  unfold rootsOf rootOf
  cases r <;> simp
/-- What the reference says of two answers. -/
noncomputable def rsameRp (r : Bool) (a b : Rp) : Bool := plainRp a b && (oneL (rootsOf r a.coms) (rootsOf r b.coms) && listsRp a b)
theorem rsameRp_true (a b : Rp) : rsameRp true a b = sameRp a b := by
  unfold rsameRp sameRp
  show (plainRp a b && (oneL a.coms b.coms && listsRp a b)) = _
  rw [Bool.and_comm (oneL a.coms b.coms)]
theorem chain6 (b1 b2 b3 b4 b5 b6 : Bool) : b1 = false ∨ (b1 = true ∧ b2 = false) ∨ (b1 = true ∧ b2 = true ∧ b3 = false) ∨ (b1 = true ∧ b2 = true ∧ b3 = true ∧ b4 = false) ∨ (b1 = true ∧ b2 = true ∧ b3 = true ∧ b4 = true ∧ b5 = false) ∨ (b1 = true ∧ b2 = true ∧ b3 = true ∧ b4 = true ∧ b5 = true ∧ b6 = false) ∨ (b1 = true ∧ b2 = true ∧ b3 = true ∧ b4 = true ∧ b5 = true ∧ b6 = true) := by
  cases b1 <;> cases b2 <;> cases b3 <;> cases b4 <;> cases b5 <;> cases b6 <;> simp
theorem two_new (w : World) (o1 o2 : Array Value) (t : Nat) : ((w.alloc (.cells o1 t)).alloc (.cells o2 t)).drew.heap[w.heap.size]? = some (.cells o1 t (0, 0)) ∧ ((w.alloc (.cells o1 t)).alloc (.cells o2 t)).drew.heap[w.heap.size + 1]? = some (.cells o2 t (0, 0)) ∧ Below w.heap.size w ((w.alloc (.cells o1 t)).alloc (.cells o2 t)).drew :=
  ⟨blk_drew (blk_alloc (blk_new w _) _), by rw [size_one w (.cells o1 t)]; exact blk_drew (blk_new _ _), below_drew (below_alloc (below_alloc (Below.refl _ _) _) _)⟩
theorem bne_f {α : Type} [BEq α] {x y : α} (h : (x == y) = true) : (x != y) = false := by simp [bne, h]
theorem bne_t {α : Type} [BEq α] {x y : α} (h : (x == y) = false) : (x != y) = true := by simp [bne, h]
set_option maxHeartbeats 64000000 in
set_option maxRecDepth 100000 in
theorem rsame20_calls (a b : Rp) (A1 : Option Addr) (n1 : Nat) (A2 : Option Addr) (n2 : Nat) (A3 : Option Addr) (n3 : Nat) (A4 : Option Addr) (n4 : Nat) (A5 : Option Addr) (n5 : Nat) (B1 : Option Addr) (m1 : Nat) (B2 : Option Addr) (m2 : Nat) (B3 : Option Addr) (m3 : Nat) (B4 : Option Addr) (m4 : Nat) (B5 : Option Addr) (m5 : Nat) (r : Bool) (W : World) (h : RpC W a A1 n1 A2 n2 A3 n3 A4 n4 A5 n5) (h' : RpC W b B1 m1 B2 m2 B3 m3 B4 m4 B5 m5) :
    Calls Try.prog 9 #[.agg (rpV a A1 n1 A2 n2 A3 n3 A4 n4 A5 n5), .agg (rpV b B1 m1 B2 m2 B3 m3 B4 m4 B5 m5), .bool r] W fun e W1 => e = .returned (.bool (rsameRp r a b)) ∧ Below W.heap.size W W1 := by
  have huR := Try.underlying30
  have huX := Try.underlying44
  have HC := Aside0.mk h
  have HD := Aside0.mk h'
  have HMX := Aside0.mk (Kd.C_max h.c4)
  have HX0 := Aside0.mk (blk_alloc (blk_new W (.cells (rpV a A1 n1 A2 n2 A3 n3 A4 n4 A5 n5) 30)) (.cells (rpV b B1 m1 B2 m2 B3 m3 B4 m4 B5 m5) 30))
  have HY0 := Aside0.mk (blk_new (W.alloc (.cells (rpV a A1 n1 A2 n2 A3 n3 A4 n4 A5 n5) 30)) (.cells (rpV b B1 m1 B2 m2 B3 m3 B4 m4 B5 m5) 30))
  have HB0 := Aside0.mk (below_alloc (below_alloc (Below.refl W.heap.size W) (.cells (rpV a A1 n1 A2 n2 A3 n3 A4 n4 A5 n5) 30)) (.cells (rpV b B1 m1 B2 m2 B3 m3 B4 m4 B5 m5) 30))
  clear h h'
  go_enter Try.func9, Try.ntmps9
  go_upto_region 1 with (fail)
  try rw [size_one W (.cells (rpV a A1 n1 A2 n2 A3 n3 A4 n4 A5 n5) 30)]
  generalize (W.alloc (.cells (rpV a A1 n1 A2 n2 A3 n3 A4 n4 A5 n5) 30)).alloc (.cells (rpV b B1 m1 B2 m2 B3 m3 B4 m4 B5 m5) 30) = w0 at HX0 HY0 HB0 ⊢
  generalize (W.alloc (.cells (rpV a A1 n1 A2 n2 A3 n3 A4 n4 A5 n5) 30)).heap.size = gy at HY0 ⊢
  generalize hgx : W.heap.size = gx at HX0 ⊢
  obtain ⟨p0, p1, p2, p3, p4, p5, p6, p7, p8, p9⟩ := ten_cells HX0.out
  obtain ⟨q0, q1, q2, q3, q4, q5, q6, q7, q8, q9⟩ := ten_cells HY0.out
  rcases chain6 (a.err == b.err) (a.is == b.is) (a.val.toList == b.val.toList) (a.id == b.id) (a.n == b.n) ((a.coms.length : Int) == (b.coms.length : Int)) with c1 | ⟨c1, c2⟩ | ⟨c1, c2, c3⟩ | ⟨c1, c2, c3, c4⟩ | ⟨c1, c2, c3, c4, c5⟩ | ⟨c1, c2, c3, c4, c5, c6⟩ | ⟨c1, c2, c3, c4, c5, c6⟩
  · have d1 := bne_t c1
    have HR := Aside0.mk (show rsameRp r a b = false by
      have h : plainRp a b = false := by simp only [plainRp]; simp [c1]
      simp [rsameRp, h])
    go_wp2
    go_ret
    rw [HR.out]
    exact ⟨rfl, hgx ▸ HB0.out⟩
  · have d1 := bne_f c1
    have d2 := bne_t c2
    have HR := Aside0.mk (show rsameRp r a b = false by
      have h : plainRp a b = false := by simp only [plainRp]; simp [c1, c2]
      simp [rsameRp, h])
    go_wp2
    go_ret
    rw [HR.out]
    exact ⟨rfl, hgx ▸ HB0.out⟩
  · have d1 := bne_f c1
    have d2 := bne_f c2
    have d3 := bne_t c3
    have HR := Aside0.mk (show rsameRp r a b = false by
      have h : plainRp a b = false := by simp only [plainRp]; simp [c1, c2, c3]
      simp [rsameRp, h])
    go_wp2
    go_ret
    rw [HR.out]
    exact ⟨rfl, hgx ▸ HB0.out⟩
  · have d1 := bne_f c1
    have d2 := bne_f c2
    have d3 := bne_f c3
    have d4 := bne_t c4
    have HR := Aside0.mk (show rsameRp r a b = false by
      have h : plainRp a b = false := by simp only [plainRp]; simp [c1, c2, c3, c4]
      simp [rsameRp, h])
    go_wp2
    go_ret
    rw [HR.out]
    exact ⟨rfl, hgx ▸ HB0.out⟩
  · have d1 := bne_f c1
    have d2 := bne_f c2
    have d3 := bne_f c3
    have d4 := bne_f c4
    have d5 := bne_t c5
    have HR := Aside0.mk (show rsameRp r a b = false by
      have h : plainRp a b = false := by simp only [plainRp]; simp [c1, c2, c3, c4, c5]
      simp [rsameRp, h])
    go_wp2
    go_ret
    rw [HR.out]
    exact ⟨rfl, hgx ▸ HB0.out⟩
  · have d1 := bne_f c1
    have d2 := bne_f c2
    have d3 := bne_f c3
    have d4 := bne_f c4
    have d5 := bne_f c5
    have d6 := bne_t c6
    have hne : a.coms.length ≠ b.coms.length := fun h => by rw [h, beq_self_eq_true] at c6; cases c6
    have c6N : (a.coms.length == b.coms.length) = false := beq_eq_false_iff_ne.mpr hne
    have d6N := bne_t c6N
    have HR := Aside0.mk (show rsameRp r a b = false by
      have h : oneL (rootsOf r a.coms) (rootsOf r b.coms) = false := by rw [← Bool.not_eq_true, oneL_iff]; exact fun h => hne (by have := congrArg List.length h; rwa [rootsOf_len, rootsOf_len] at this)
      simp [rsameRp, h])
    clear hne
    go_wp2
    go_ret
    rw [HR.out]
    exact ⟨rfl, hgx ▸ HB0.out⟩
  · have d1 := bne_f c1
    have d2 := bne_f c2
    have d3 := bne_f c3
    have d4 := bne_f c4
    have d5 := bne_f c5
    have d6 := bne_f c6
    have hab : a.coms.length = b.coms.length := by have := beq_iff_eq.1 c6; omega
    have c6N : (a.coms.length == b.coms.length) = true := beq_iff_eq.mpr hab
    have d6N := bne_f c6N
    have HAB := Aside0.mk hab
    have HPL := Aside0.mk (show plainRp a b = true by simp only [plainRp]; simp [c1, c2, c3, c4, c5])
    clear hab
    go_upto_region 3 with (fail)
    clear c1 c2 c3 c4 c5 c6 d1 d2 d3 d4 d5 d6 c6N d6N
    go_wp2
    clear p0 p1 p2 p3 p4 p5 p6 p7 p8 p9 q0 q1 q2 q3 q4 q5 q6 q7 q8 q9
    go_loopg [55] a.coms.length (fun kq v55 w' => ∃ i : Nat, v55 = .int .i64 (i : Int) ∧ Aside0 (i ≤ a.coms.length ∧ kq = a.coms.length - i) ∧ Aside0 ((rootsOf r a.coms).take i = (rootsOf r b.coms).take i) ∧ Aside0 (Below w0.heap.size w0 w'))
    case atStart => exact ⟨0, rfl, ⟨by omega, by omega⟩, ⟨rfl⟩, ⟨Below.refl _ _⟩⟩
    case round =>
      obtain ⟨i, rfl, HI, HT, HB⟩ := hrel
      by_cases hlt : i < a.coms.length
      · have hltb : i < b.coms.length := by have := HAB.out; omega
        have HBw := Aside0.mk (below_step HB0.out HB.out)
        obtain ⟨ad, C1, k1, hA, x0, x1, x2, x3, x4, hP, hPn⟩ := at_Com HC.out.c4 i hlt
        obtain ⟨bd, D1, l1, hB, y0, y1, y2, y3, y4, hQ, hQn⟩ := at_Com HD.out.c4 i hltb
        have hx := co_at (l := a.coms) i hlt
        have hy := co_at (l := b.coms) i hltb
        have HON := Aside0.mk (one_take (rootsOf r a.coms) (rootsOf r b.coms) i (by rw [rootsOf_len]; exact hlt) (by rw [rootsOf_len]; exact hltb) HT.out)
        have HOF := Aside0.mk (one_not (rootsOf r a.coms) (rootsOf r b.coms) i (by rw [rootsOf_len]; exact hlt) (by rw [rootsOf_len]; exact hltb))
        rw [rootsOf_at r a.coms i hlt, rootsOf_at r b.coms i hltb, ← hx, ← hy] at HON HOF
        generalize a.coms.getD i zeroCom = x at x0 x1 x2 x3 x4 hP hPn HON HOF
        generalize b.coms.getD i zeroCom = y at y0 y1 y2 y3 y4 hQ hQn HON HOF
        clear hx hy
        have HPQ := Aside0.mk (And.intro hP (And.intro hPn (And.intro hQ hQn)))
        clear hP hPn hQ hQn
        have X0 := pw_cell_below HBw.out x0
        have X1 := pw_cell_below HBw.out x1
        have X2 := pw_cell_below HBw.out x2
        have X3 := pw_cell_below HBw.out x3
        have X4 := pw_cell_below HBw.out x4
        have Y0 := pw_cell_below HBw.out y0
        have Y1 := pw_cell_below HBw.out y1
        have Y2 := pw_cell_below HBw.out y2
        have Y3 := pw_cell_below HBw.out y3
        have Y4 := pw_cell_below HBw.out y4
        have HXw := Aside0.mk (blk_below HX0.out HB.out)
        have HYw := Aside0.mk (blk_below HY0.out HB.out)
        have P8 : World.cell? wr ⟨gx, 8, none⟩ = some (.slice A4 a.coms.length n4) := (blk_cell HXw.out 8).trans rfl
        have Q8 : World.cell? wr ⟨gy, 8, none⟩ = some (.slice B4 b.coms.length m4) := (blk_cell HYw.out 8).trans rfl
        subst hA hB
        have hlt' : (i : Int) < (a.coms.length : Int) := by omega
        have hltb' : (i : Int) < (b.coms.length : Int) := by omega
        obtain ⟨i1, hi1⟩ : ∃ z, z = i + 1 := ⟨_, rfl⟩
        have HWI := Aside0.mk (show wrap64 ((i : Int) + 1) = (i1 : Int) by have := HMX.out; unfold wrap64; omega)
        have HI1 := Aside0.mk (show i1 = i + 1 ∧ i1 ≤ a.coms.length by omega)
        clear x0 x1 x2 x3 x4 y0 y1 y2 y3 y4 hi1
        go_upto_region 6 with (fail)
        generalize wr = w1 at HXw HYw HBw HB X0 X1 X2 X3 X4 Y0 Y1 Y2 Y3 Y4 P8 Q8 ⊢
        go_region_held3 (fun w' => World.cell? w' ⟨gx, 8, none⟩ = some (.slice (some ad) a.coms.length n4) ∧ World.cell? w' ⟨gy, 8, none⟩ = some (.slice (some bd) b.coms.length m4) ∧ (World.cell? w' (ad.add (i * 5)) = some (.int .u64 x.id) ∧ World.cell? w' ⟨(ad.add (i * 5)).block, (ad.add (i * 5)).off + 1, none⟩ = some (.slice C1 x.ps.length k1) ∧ World.cell? w' ⟨(ad.add (i * 5)).block, (ad.add (i * 5)).off + 2, none⟩ = some (.int .u64 x.gen) ∧ World.cell? w' ⟨(ad.add (i * 5)).block, (ad.add (i * 5)).off + 3, none⟩ = some (.int .u64 x.root) ∧ World.cell? w' ⟨(ad.add (i * 5)).block, (ad.add (i * 5)).off + 4, none⟩ = some (.string x.text)) ∧ (World.cell? w' (bd.add (i * 5)) = some (.int .u64 y.id) ∧ World.cell? w' ⟨(bd.add (i * 5)).block, (bd.add (i * 5)).off + 1, none⟩ = some (.slice D1 y.ps.length l1) ∧ World.cell? w' ⟨(bd.add (i * 5)).block, (bd.add (i * 5)).off + 2, none⟩ = some (.int .u64 y.gen) ∧ World.cell? w' ⟨(bd.add (i * 5)).block, (bd.add (i * 5)).off + 3, none⟩ = some (.int .u64 y.root) ∧ World.cell? w' ⟨(bd.add (i * 5)).block, (bd.add (i * 5)).off + 4, none⟩ = some (.string y.text))) (first | exact ⟨P8, Q8, ⟨X0, X1, X2, X3, X4⟩, ⟨Y0, Y1, Y2, Y3, Y4⟩⟩ | go_keep) (fail)
        · obtain ⟨hx2, hy2, hb2⟩ := two_new w1 (coV x C1 k1) (coV y D1 l1) 44
          have HX3 := Aside0.mk hx2
          have HY3 := Aside0.mk hy2
          have HB3 := Aside0.mk (below_step HB.out hb2)
          have HPW := Aside0.mk (show w0.heap.size ≤ w1.heap.size ∧ w0.heap.size ≤ w1.heap.size + 1 by have := HB.out.size; exact ⟨this, by omega⟩)
          have HPQN := Aside0.mk (show w1.heap.size ≠ w1.heap.size + 1 by omega)
          clear hx2 hy2 hb2
          generalize ((w1.alloc (.cells (coV x C1 k1) 44)).alloc (.cells (coV y D1 l1) 44)).drew = w3 at HX3 HY3 HB3 ⊢
          obtain ⟨q, hq⟩ : ∃ q, q = w1.heap.size + 1 := ⟨_, rfl⟩
          rw [← hq] at HY3 HPW HPQN ⊢
          clear hq
          generalize w1.heap.size = p at HX3 HPW HPQN ⊢
          cases r with
          | true =>
            have HX4 := HX3
            have HY4 := HY3
            have HB4 := HB3
            go_upto_region 9 with (fail)
            generalize w3 = w4 at HX4 HY4 HB4 ⊢
            have HBW4 := Aside0.mk (below_step HB0.out HB4.out)
            obtain ⟨x0, x1, x2, x3, x4⟩ := five_cells HX4.out
            obtain ⟨y0, y1, y2, y3, y4⟩ := five_cells HY4.out
            cases hs : sameCo x y with
            | true =>
              have HS := Aside0.mk hs
              have HT2 := Aside0.mk (HON.out ((sameCo_iff x y).1 hs))
              clear hs
              go_wp2_with (go_at_call 25; refine (rsame14_calls C1 k1 x D1 l1 y _ (Kd.C_below HPQ.out.1 HBW4.out) HPQ.out.2.1 (Kd.C_below HPQ.out.2.2.1 HBW4.out) HPQ.out.2.2.2).mono ?_; rw [HS.out]; rintro e w5 ⟨rfl, hb⟩; have HB5 := Aside0.mk (below_step HB4.out hb); clear hb)
              go_roundg (a.coms.length - i1)
              case measure => have := HI.out; have := HI1.out; omega
              case rel =>
               refine ⟨i1, ?_, ⟨?_⟩, ⟨?_⟩, HB5⟩
               · first | rfl | (rw [HWI.out]; done) | simp
               · exact ⟨HI1.out.2, rfl⟩
               · rw [HI1.out.1]; exact HT2.out
            | false =>
              have HS := Aside0.mk hs
              have HR := Aside0.mk (show rsameRp true a b = false by
               have h := HOF.out (fun h => by rw [(sameCo_iff x y).2 h] at hs; cases hs)
               simp [rsameRp, h])
              clear hs
              go_wp2_with (go_at_call 25; refine (rsame14_calls C1 k1 x D1 l1 y _ (Kd.C_below HPQ.out.1 HBW4.out) HPQ.out.2.1 (Kd.C_below HPQ.out.2.2.1 HBW4.out) HPQ.out.2.2.2).mono ?_; rw [HS.out]; rintro e w5 ⟨rfl, hb⟩; have HB5 := Aside0.mk (below_step HB4.out hb); clear hb)
              go_ret
              rw [HR.out]
              exact ⟨rfl, below_step (hgx ▸ HB0.out) HB5.out⟩
          | false =>
            obtain ⟨x0, x1, x2, x3, x4⟩ := five_cells HX3.out
            obtain ⟨y0, y1, y2, y3, y4⟩ := five_cells HY3.out
            have zx := blk_frozen HX3.out 3
            have zy := blk_frozen HY3.out 3
            have xa : (w3.setCell ⟨p, 3, none⟩ (.int .u64 0)).heap[p]? = some (.cells (coV (noRoot x) C1 k1) 44 (0, 0)) := (blk_set HX3.out 3 (.int .u64 0)).trans rfl
            have ya : (w3.setCell ⟨p, 3, none⟩ (.int .u64 0)).heap[q]? = some (.cells (coV y D1 l1) 44 (0, 0)) := by rw [Below.heap_setCell _ _ _ _ (show q ≠ p from fun h => HPQN.out h.symm)]; exact HY3.out
            have xb : ((w3.setCell ⟨p, 3, none⟩ (.int .u64 0)).setCell ⟨q, 3, none⟩ (.int .u64 0)).heap[p]? = some (.cells (coV (noRoot x) C1 k1) 44 (0, 0)) := by rw [Below.heap_setCell _ _ _ _ (show p ≠ q from HPQN.out)]; exact xa
            have yb : ((w3.setCell ⟨p, 3, none⟩ (.int .u64 0)).setCell ⟨q, 3, none⟩ (.int .u64 0)).heap[q]? = some (.cells (coV (noRoot y) D1 l1) 44 (0, 0)) := (blk_set ya 3 (.int .u64 0)).trans rfl
            have HX4 := Aside0.mk xb
            have HY4 := Aside0.mk yb
            have HB4 := Aside0.mk (below_set (j := 3) (v := .int .u64 0) (below_set (j := 3) (v := .int .u64 0) HB3.out HPW.out.1) HPW.out.2)
            have yc := (blk_cell ya 3).trans rfl
            have yz := blk_frozen ya 3
            clear xa ya xb yb
            go_upto_region 9 with (fail)
            generalize (w3.setCell ⟨p, 3, none⟩ (.int .u64 0)).setCell ⟨q, 3, none⟩ (.int .u64 0) = w4 at HX4 HY4 HB4 ⊢
            clear x0 x1 x2 x3 x4 y0 y1 y2 y3 y4 zx zy yc yz
            have HBW4 := Aside0.mk (below_step HB0.out HB4.out)
            obtain ⟨x0, x1, x2, x3, x4⟩ := five_cells HX4.out
            obtain ⟨y0, y1, y2, y3, y4⟩ := five_cells HY4.out
            cases hs : sameCo (noRoot x) (noRoot y) with
            | true =>
              have HS := Aside0.mk hs
              have HT2 := Aside0.mk (HON.out ((sameCo_iff (noRoot x) (noRoot y)).1 hs))
              clear hs
              go_wp2_with (go_at_call 25; refine (rsame14_calls C1 k1 (noRoot x) D1 l1 (noRoot y) _ (Kd.C_below HPQ.out.1 HBW4.out) HPQ.out.2.1 (Kd.C_below HPQ.out.2.2.1 HBW4.out) HPQ.out.2.2.2).mono ?_; rw [HS.out]; rintro e w5 ⟨rfl, hb⟩; have HB5 := Aside0.mk (below_step HB4.out hb); clear hb)
              go_roundg (a.coms.length - i1)
              case measure => have := HI.out; have := HI1.out; omega
              case rel =>
               refine ⟨i1, ?_, ⟨?_⟩, ⟨?_⟩, HB5⟩
               · first | rfl | (rw [HWI.out]; done) | simp
               · exact ⟨HI1.out.2, rfl⟩
               · rw [HI1.out.1]; exact HT2.out
            | false =>
              have HS := Aside0.mk hs
              have HR := Aside0.mk (show rsameRp false a b = false by
               have h := HOF.out (fun h => by rw [(sameCo_iff (noRoot x) (noRoot y)).2 h] at hs; cases hs)
               simp [rsameRp, h])
              clear hs
              go_wp2_with (go_at_call 25; refine (rsame14_calls C1 k1 (noRoot x) D1 l1 (noRoot y) _ (Kd.C_below HPQ.out.1 HBW4.out) HPQ.out.2.1 (Kd.C_below HPQ.out.2.2.1 HBW4.out) HPQ.out.2.2.2).mono ?_; rw [HS.out]; rintro e w5 ⟨rfl, hb⟩; have HB5 := Aside0.mk (below_step HB4.out hb); clear hb)
              go_ret
              rw [HR.out]
              exact ⟨rfl, below_step (hgx ▸ HB0.out) HB5.out⟩
        · obtain ⟨hy2, hx2, hb2⟩ := two_new w1 (coV y D1 l1) (coV x C1 k1) 44
          have HX3 := Aside0.mk hx2
          have HY3 := Aside0.mk hy2
          have HB3 := Aside0.mk (below_step HB.out hb2)
          have HPW := Aside0.mk (show w0.heap.size ≤ w1.heap.size + 1 ∧ w0.heap.size ≤ w1.heap.size by have := HB.out.size; exact ⟨by omega, this⟩)
          have HPQN := Aside0.mk (show w1.heap.size + 1 ≠ w1.heap.size by omega)
          clear hx2 hy2 hb2
          generalize ((w1.alloc (.cells (coV y D1 l1) 44)).alloc (.cells (coV x C1 k1) 44)).drew = w3 at HX3 HY3 HB3 ⊢
          obtain ⟨p, hp⟩ : ∃ p, p = w1.heap.size + 1 := ⟨_, rfl⟩
          rw [← hp] at HX3 HPW HPQN ⊢
          clear hp
          generalize w1.heap.size = q at HY3 HPW HPQN ⊢
          cases r with
          | true =>
            have HX4 := HX3
            have HY4 := HY3
            have HB4 := HB3
            go_upto_region 9 with (fail)
            generalize w3 = w4 at HX4 HY4 HB4 ⊢
            have HBW4 := Aside0.mk (below_step HB0.out HB4.out)
            obtain ⟨x0, x1, x2, x3, x4⟩ := five_cells HX4.out
            obtain ⟨y0, y1, y2, y3, y4⟩ := five_cells HY4.out
            cases hs : sameCo x y with
            | true =>
              have HS := Aside0.mk hs
              have HT2 := Aside0.mk (HON.out ((sameCo_iff x y).1 hs))
              clear hs
              go_wp2_with (go_at_call 25; refine (rsame14_calls C1 k1 x D1 l1 y _ (Kd.C_below HPQ.out.1 HBW4.out) HPQ.out.2.1 (Kd.C_below HPQ.out.2.2.1 HBW4.out) HPQ.out.2.2.2).mono ?_; rw [HS.out]; rintro e w5 ⟨rfl, hb⟩; have HB5 := Aside0.mk (below_step HB4.out hb); clear hb)
              go_roundg (a.coms.length - i1)
              case measure => have := HI.out; have := HI1.out; omega
              case rel =>
               refine ⟨i1, ?_, ⟨?_⟩, ⟨?_⟩, HB5⟩
               · first | rfl | (rw [HWI.out]; done) | simp
               · exact ⟨HI1.out.2, rfl⟩
               · rw [HI1.out.1]; exact HT2.out
            | false =>
              have HS := Aside0.mk hs
              have HR := Aside0.mk (show rsameRp true a b = false by
               have h := HOF.out (fun h => by rw [(sameCo_iff x y).2 h] at hs; cases hs)
               simp [rsameRp, h])
              clear hs
              go_wp2_with (go_at_call 25; refine (rsame14_calls C1 k1 x D1 l1 y _ (Kd.C_below HPQ.out.1 HBW4.out) HPQ.out.2.1 (Kd.C_below HPQ.out.2.2.1 HBW4.out) HPQ.out.2.2.2).mono ?_; rw [HS.out]; rintro e w5 ⟨rfl, hb⟩; have HB5 := Aside0.mk (below_step HB4.out hb); clear hb)
              go_ret
              rw [HR.out]
              exact ⟨rfl, below_step (hgx ▸ HB0.out) HB5.out⟩
          | false =>
            obtain ⟨x0, x1, x2, x3, x4⟩ := five_cells HX3.out
            obtain ⟨y0, y1, y2, y3, y4⟩ := five_cells HY3.out
            have zx := blk_frozen HX3.out 3
            have zy := blk_frozen HY3.out 3
            have xa : (w3.setCell ⟨p, 3, none⟩ (.int .u64 0)).heap[p]? = some (.cells (coV (noRoot x) C1 k1) 44 (0, 0)) := (blk_set HX3.out 3 (.int .u64 0)).trans rfl
            have ya : (w3.setCell ⟨p, 3, none⟩ (.int .u64 0)).heap[q]? = some (.cells (coV y D1 l1) 44 (0, 0)) := by rw [Below.heap_setCell _ _ _ _ (show q ≠ p from fun h => HPQN.out h.symm)]; exact HY3.out
            have xb : ((w3.setCell ⟨p, 3, none⟩ (.int .u64 0)).setCell ⟨q, 3, none⟩ (.int .u64 0)).heap[p]? = some (.cells (coV (noRoot x) C1 k1) 44 (0, 0)) := by rw [Below.heap_setCell _ _ _ _ (show p ≠ q from HPQN.out)]; exact xa
            have yb : ((w3.setCell ⟨p, 3, none⟩ (.int .u64 0)).setCell ⟨q, 3, none⟩ (.int .u64 0)).heap[q]? = some (.cells (coV (noRoot y) D1 l1) 44 (0, 0)) := (blk_set ya 3 (.int .u64 0)).trans rfl
            have HX4 := Aside0.mk xb
            have HY4 := Aside0.mk yb
            have HB4 := Aside0.mk (below_set (j := 3) (v := .int .u64 0) (below_set (j := 3) (v := .int .u64 0) HB3.out HPW.out.1) HPW.out.2)
            have yc := (blk_cell ya 3).trans rfl
            have yz := blk_frozen ya 3
            clear xa ya xb yb
            go_upto_region 9 with (fail)
            generalize (w3.setCell ⟨p, 3, none⟩ (.int .u64 0)).setCell ⟨q, 3, none⟩ (.int .u64 0) = w4 at HX4 HY4 HB4 ⊢
            clear x0 x1 x2 x3 x4 y0 y1 y2 y3 y4 zx zy yc yz
            have HBW4 := Aside0.mk (below_step HB0.out HB4.out)
            obtain ⟨x0, x1, x2, x3, x4⟩ := five_cells HX4.out
            obtain ⟨y0, y1, y2, y3, y4⟩ := five_cells HY4.out
            cases hs : sameCo (noRoot x) (noRoot y) with
            | true =>
              have HS := Aside0.mk hs
              have HT2 := Aside0.mk (HON.out ((sameCo_iff (noRoot x) (noRoot y)).1 hs))
              clear hs
              go_wp2_with (go_at_call 25; refine (rsame14_calls C1 k1 (noRoot x) D1 l1 (noRoot y) _ (Kd.C_below HPQ.out.1 HBW4.out) HPQ.out.2.1 (Kd.C_below HPQ.out.2.2.1 HBW4.out) HPQ.out.2.2.2).mono ?_; rw [HS.out]; rintro e w5 ⟨rfl, hb⟩; have HB5 := Aside0.mk (below_step HB4.out hb); clear hb)
              go_roundg (a.coms.length - i1)
              case measure => have := HI.out; have := HI1.out; omega
              case rel =>
               refine ⟨i1, ?_, ⟨?_⟩, ⟨?_⟩, HB5⟩
               · first | rfl | (rw [HWI.out]; done) | simp
               · exact ⟨HI1.out.2, rfl⟩
               · rw [HI1.out.1]; exact HT2.out
            | false =>
              have HS := Aside0.mk hs
              have HR := Aside0.mk (show rsameRp false a b = false by
               have h := HOF.out (fun h => by rw [(sameCo_iff (noRoot x) (noRoot y)).2 h] at hs; cases hs)
               simp [rsameRp, h])
              clear hs
              go_wp2_with (go_at_call 25; refine (rsame14_calls C1 k1 (noRoot x) D1 l1 (noRoot y) _ (Kd.C_below HPQ.out.1 HBW4.out) HPQ.out.2.1 (Kd.C_below HPQ.out.2.2.1 HBW4.out) HPQ.out.2.2.2).mono ?_; rw [HS.out]; rintro e w5 ⟨rfl, hb⟩; have HB5 := Aside0.mk (below_step HB4.out hb); clear hb)
              go_ret
              rw [HR.out]
              exact ⟨rfl, below_step (hgx ▸ HB0.out) HB5.out⟩
      · have hI : i = a.coms.length := by have := HI.out; omega
        have hlt' : ¬ (i : Int) < (a.coms.length : Int) := by omega
        have ht := HT.out
        rw [hI, List.take_of_length_le (by rw [rootsOf_len]; exact Nat.le_refl _), List.take_of_length_le (by rw [rootsOf_len, HAB.out]; exact Nat.le_refl _)] at ht
        have HON := Aside0.mk (show oneL (rootsOf r a.coms) (rootsOf r b.coms) = true by rw [oneL_iff]; exact ht)
        clear ht hI hlt HT
        have HXw := Aside0.mk (blk_below HX0.out HB.out)
        have HYw := Aside0.mk (blk_below HY0.out HB.out)
        have HL0 := Aside0.mk (below_step HB0.out HB.out)
        go_upto_region 12 with (fail)
        generalize wr = w1 at HXw HYw HL0 HB ⊢
        obtain ⟨p0, p1, p2, p3, p4, p5, p6, p7, p8, p9⟩ := ten_cells HXw.out
        obtain ⟨q0, q1, q2, q3, q4, q5, q6, q7, q8, q9⟩ := ten_cells HYw.out
        rcases chain4 (oneL a.es b.es) (oneL a.chs b.chs) (oneL a.cls b.cls) (oneL a.refs b.refs) with e1 | ⟨e1, e2⟩ | ⟨e1, e2, e3⟩ | ⟨e1, e2, e3, e4⟩ | ⟨e1, e2, e3, e4⟩
        · have HLS := Aside0.mk (show listsRp a b = false by simp only [listsRp]; simp [e1])
          have HE1 := Aside0.mk e1
          clear e1
          go_wp2_with (first | (go_at_call 26; refine (reqEntry_calls A1 n1 a.es B1 m1 b.es _ (Kd.C_below HC.out.c1 HL0.out) HC.out.m1 (Kd.C_below HD.out.c1 HL0.out) HD.out.m1).mono ?_; rw [HE1.out]; rintro e wl1 ⟨rfl, hb⟩; have HL1 := Aside0.mk (below_step HL0.out hb); have HX1 := Aside0.mk (blk_below HXw.out hb); have HY1 := Aside0.mk (blk_below HYw.out hb); obtain ⟨p1_0, p1_1, p1_2, p1_3, p1_4, p1_5, p1_6, p1_7, p1_8, p1_9⟩ := ten_cells HX1.out; obtain ⟨q1_0, q1_1, q1_2, q1_3, q1_4, q1_5, q1_6, q1_7, q1_8, q1_9⟩ := ten_cells HY1.out; clear hb))
          go_ret
          exact ⟨by simp [rsameRp, HPL.out, HLS.out, HON.out], hgx ▸ HL1.out⟩
        · have HLS := Aside0.mk (show listsRp a b = false by simp only [listsRp]; simp [e1, e2])
          have HE1 := Aside0.mk e1
          have HE2 := Aside0.mk e2
          clear e1 e2
          go_wp2_with (first | (go_at_call 26; refine (reqEntry_calls A1 n1 a.es B1 m1 b.es _ (Kd.C_below HC.out.c1 HL0.out) HC.out.m1 (Kd.C_below HD.out.c1 HL0.out) HD.out.m1).mono ?_; rw [HE1.out]; rintro e wl1 ⟨rfl, hb⟩; have HL1 := Aside0.mk (below_step HL0.out hb); have HX1 := Aside0.mk (blk_below HXw.out hb); have HY1 := Aside0.mk (blk_below HYw.out hb); obtain ⟨p1_0, p1_1, p1_2, p1_3, p1_4, p1_5, p1_6, p1_7, p1_8, p1_9⟩ := ten_cells HX1.out; obtain ⟨q1_0, q1_1, q1_2, q1_3, q1_4, q1_5, q1_6, q1_7, q1_8, q1_9⟩ := ten_cells HY1.out; clear hb) | (go_at_call 27; refine (reqChange_calls A2 n2 a.chs B2 m2 b.chs _ (Kd.C_below HC.out.c2 HL1.out) HC.out.m2 (Kd.C_below HD.out.c2 HL1.out) HD.out.m2).mono ?_; rw [HE2.out]; rintro e wl2 ⟨rfl, hb⟩; have HL2 := Aside0.mk (below_step HL1.out hb); have HX2 := Aside0.mk (blk_below HX1.out hb); have HY2 := Aside0.mk (blk_below HY1.out hb); obtain ⟨p2_0, p2_1, p2_2, p2_3, p2_4, p2_5, p2_6, p2_7, p2_8, p2_9⟩ := ten_cells HX2.out; obtain ⟨q2_0, q2_1, q2_2, q2_3, q2_4, q2_5, q2_6, q2_7, q2_8, q2_9⟩ := ten_cells HY2.out; clear hb))
          go_ret
          exact ⟨by simp [rsameRp, HPL.out, HLS.out, HON.out], hgx ▸ HL2.out⟩
        · have HLS := Aside0.mk (show listsRp a b = false by simp only [listsRp]; simp [e1, e2, e3])
          have HE1 := Aside0.mk e1
          have HE2 := Aside0.mk e2
          have HE3 := Aside0.mk e3
          clear e1 e2 e3
          go_wp2_with (first | (go_at_call 26; refine (reqEntry_calls A1 n1 a.es B1 m1 b.es _ (Kd.C_below HC.out.c1 HL0.out) HC.out.m1 (Kd.C_below HD.out.c1 HL0.out) HD.out.m1).mono ?_; rw [HE1.out]; rintro e wl1 ⟨rfl, hb⟩; have HL1 := Aside0.mk (below_step HL0.out hb); have HX1 := Aside0.mk (blk_below HXw.out hb); have HY1 := Aside0.mk (blk_below HYw.out hb); obtain ⟨p1_0, p1_1, p1_2, p1_3, p1_4, p1_5, p1_6, p1_7, p1_8, p1_9⟩ := ten_cells HX1.out; obtain ⟨q1_0, q1_1, q1_2, q1_3, q1_4, q1_5, q1_6, q1_7, q1_8, q1_9⟩ := ten_cells HY1.out; clear hb) | (go_at_call 27; refine (reqChange_calls A2 n2 a.chs B2 m2 b.chs _ (Kd.C_below HC.out.c2 HL1.out) HC.out.m2 (Kd.C_below HD.out.c2 HL1.out) HD.out.m2).mono ?_; rw [HE2.out]; rintro e wl2 ⟨rfl, hb⟩; have HL2 := Aside0.mk (below_step HL1.out hb); have HX2 := Aside0.mk (blk_below HX1.out hb); have HY2 := Aside0.mk (blk_below HY1.out hb); obtain ⟨p2_0, p2_1, p2_2, p2_3, p2_4, p2_5, p2_6, p2_7, p2_8, p2_9⟩ := ten_cells HX2.out; obtain ⟨q2_0, q2_1, q2_2, q2_3, q2_4, q2_5, q2_6, q2_7, q2_8, q2_9⟩ := ten_cells HY2.out; clear hb) | (go_at_call 28; refine (reqClash_calls A3 n3 a.cls B3 m3 b.cls _ (Kd.C_below HC.out.c3 HL2.out) HC.out.m3 (Kd.C_below HD.out.c3 HL2.out) HD.out.m3).mono ?_; rw [HE3.out]; rintro e wl3 ⟨rfl, hb⟩; have HL3 := Aside0.mk (below_step HL2.out hb); have HX3 := Aside0.mk (blk_below HX2.out hb); have HY3 := Aside0.mk (blk_below HY2.out hb); obtain ⟨p3_0, p3_1, p3_2, p3_3, p3_4, p3_5, p3_6, p3_7, p3_8, p3_9⟩ := ten_cells HX3.out; obtain ⟨q3_0, q3_1, q3_2, q3_3, q3_4, q3_5, q3_6, q3_7, q3_8, q3_9⟩ := ten_cells HY3.out; clear hb))
          go_ret
          exact ⟨by simp [rsameRp, HPL.out, HLS.out, HON.out], hgx ▸ HL3.out⟩
        · have HLS := Aside0.mk (show listsRp a b = false by simp only [listsRp]; simp [e1, e2, e3, e4])
          have HE1 := Aside0.mk e1
          have HE2 := Aside0.mk e2
          have HE3 := Aside0.mk e3
          have HE4 := Aside0.mk e4
          clear e1 e2 e3 e4
          go_wp2_with (first | (go_at_call 26; refine (reqEntry_calls A1 n1 a.es B1 m1 b.es _ (Kd.C_below HC.out.c1 HL0.out) HC.out.m1 (Kd.C_below HD.out.c1 HL0.out) HD.out.m1).mono ?_; rw [HE1.out]; rintro e wl1 ⟨rfl, hb⟩; have HL1 := Aside0.mk (below_step HL0.out hb); have HX1 := Aside0.mk (blk_below HXw.out hb); have HY1 := Aside0.mk (blk_below HYw.out hb); obtain ⟨p1_0, p1_1, p1_2, p1_3, p1_4, p1_5, p1_6, p1_7, p1_8, p1_9⟩ := ten_cells HX1.out; obtain ⟨q1_0, q1_1, q1_2, q1_3, q1_4, q1_5, q1_6, q1_7, q1_8, q1_9⟩ := ten_cells HY1.out; clear hb) | (go_at_call 27; refine (reqChange_calls A2 n2 a.chs B2 m2 b.chs _ (Kd.C_below HC.out.c2 HL1.out) HC.out.m2 (Kd.C_below HD.out.c2 HL1.out) HD.out.m2).mono ?_; rw [HE2.out]; rintro e wl2 ⟨rfl, hb⟩; have HL2 := Aside0.mk (below_step HL1.out hb); have HX2 := Aside0.mk (blk_below HX1.out hb); have HY2 := Aside0.mk (blk_below HY1.out hb); obtain ⟨p2_0, p2_1, p2_2, p2_3, p2_4, p2_5, p2_6, p2_7, p2_8, p2_9⟩ := ten_cells HX2.out; obtain ⟨q2_0, q2_1, q2_2, q2_3, q2_4, q2_5, q2_6, q2_7, q2_8, q2_9⟩ := ten_cells HY2.out; clear hb) | (go_at_call 28; refine (reqClash_calls A3 n3 a.cls B3 m3 b.cls _ (Kd.C_below HC.out.c3 HL2.out) HC.out.m3 (Kd.C_below HD.out.c3 HL2.out) HD.out.m3).mono ?_; rw [HE3.out]; rintro e wl3 ⟨rfl, hb⟩; have HL3 := Aside0.mk (below_step HL2.out hb); have HX3 := Aside0.mk (blk_below HX2.out hb); have HY3 := Aside0.mk (blk_below HY2.out hb); obtain ⟨p3_0, p3_1, p3_2, p3_3, p3_4, p3_5, p3_6, p3_7, p3_8, p3_9⟩ := ten_cells HX3.out; obtain ⟨q3_0, q3_1, q3_2, q3_3, q3_4, q3_5, q3_6, q3_7, q3_8, q3_9⟩ := ten_cells HY3.out; clear hb) | (go_at_call 29; refine (reqRef_calls A5 n5 a.refs B5 m5 b.refs _ (Kd.C_below HC.out.c5 HL3.out) HC.out.m5 (Kd.C_below HD.out.c5 HL3.out) HD.out.m5).mono ?_; rw [HE4.out]; rintro e wl4 ⟨rfl, hb⟩; have HL4 := Aside0.mk (below_step HL3.out hb); have HX4 := Aside0.mk (blk_below HX3.out hb); have HY4 := Aside0.mk (blk_below HY3.out hb); obtain ⟨p4_0, p4_1, p4_2, p4_3, p4_4, p4_5, p4_6, p4_7, p4_8, p4_9⟩ := ten_cells HX4.out; obtain ⟨q4_0, q4_1, q4_2, q4_3, q4_4, q4_5, q4_6, q4_7, q4_8, q4_9⟩ := ten_cells HY4.out; clear hb))
          go_ret
          exact ⟨by simp [rsameRp, HPL.out, HLS.out, HON.out], hgx ▸ HL4.out⟩
        · have HLS := Aside0.mk (show listsRp a b = true by simp only [listsRp]; simp [e1, e2, e3, e4])
          have HE1 := Aside0.mk e1
          have HE2 := Aside0.mk e2
          have HE3 := Aside0.mk e3
          have HE4 := Aside0.mk e4
          clear e1 e2 e3 e4
          go_wp2_with (first | (go_at_call 26; refine (reqEntry_calls A1 n1 a.es B1 m1 b.es _ (Kd.C_below HC.out.c1 HL0.out) HC.out.m1 (Kd.C_below HD.out.c1 HL0.out) HD.out.m1).mono ?_; rw [HE1.out]; rintro e wl1 ⟨rfl, hb⟩; have HL1 := Aside0.mk (below_step HL0.out hb); have HX1 := Aside0.mk (blk_below HXw.out hb); have HY1 := Aside0.mk (blk_below HYw.out hb); obtain ⟨p1_0, p1_1, p1_2, p1_3, p1_4, p1_5, p1_6, p1_7, p1_8, p1_9⟩ := ten_cells HX1.out; obtain ⟨q1_0, q1_1, q1_2, q1_3, q1_4, q1_5, q1_6, q1_7, q1_8, q1_9⟩ := ten_cells HY1.out; clear hb) | (go_at_call 27; refine (reqChange_calls A2 n2 a.chs B2 m2 b.chs _ (Kd.C_below HC.out.c2 HL1.out) HC.out.m2 (Kd.C_below HD.out.c2 HL1.out) HD.out.m2).mono ?_; rw [HE2.out]; rintro e wl2 ⟨rfl, hb⟩; have HL2 := Aside0.mk (below_step HL1.out hb); have HX2 := Aside0.mk (blk_below HX1.out hb); have HY2 := Aside0.mk (blk_below HY1.out hb); obtain ⟨p2_0, p2_1, p2_2, p2_3, p2_4, p2_5, p2_6, p2_7, p2_8, p2_9⟩ := ten_cells HX2.out; obtain ⟨q2_0, q2_1, q2_2, q2_3, q2_4, q2_5, q2_6, q2_7, q2_8, q2_9⟩ := ten_cells HY2.out; clear hb) | (go_at_call 28; refine (reqClash_calls A3 n3 a.cls B3 m3 b.cls _ (Kd.C_below HC.out.c3 HL2.out) HC.out.m3 (Kd.C_below HD.out.c3 HL2.out) HD.out.m3).mono ?_; rw [HE3.out]; rintro e wl3 ⟨rfl, hb⟩; have HL3 := Aside0.mk (below_step HL2.out hb); have HX3 := Aside0.mk (blk_below HX2.out hb); have HY3 := Aside0.mk (blk_below HY2.out hb); obtain ⟨p3_0, p3_1, p3_2, p3_3, p3_4, p3_5, p3_6, p3_7, p3_8, p3_9⟩ := ten_cells HX3.out; obtain ⟨q3_0, q3_1, q3_2, q3_3, q3_4, q3_5, q3_6, q3_7, q3_8, q3_9⟩ := ten_cells HY3.out; clear hb) | (go_at_call 29; refine (reqRef_calls A5 n5 a.refs B5 m5 b.refs _ (Kd.C_below HC.out.c5 HL3.out) HC.out.m5 (Kd.C_below HD.out.c5 HL3.out) HD.out.m5).mono ?_; rw [HE4.out]; rintro e wl4 ⟨rfl, hb⟩; have HL4 := Aside0.mk (below_step HL3.out hb); have HX4 := Aside0.mk (blk_below HX3.out hb); have HY4 := Aside0.mk (blk_below HY3.out hb); obtain ⟨p4_0, p4_1, p4_2, p4_3, p4_4, p4_5, p4_6, p4_7, p4_8, p4_9⟩ := ten_cells HX4.out; obtain ⟨q4_0, q4_1, q4_2, q4_3, q4_4, q4_5, q4_6, q4_7, q4_8, q4_9⟩ := ten_cells HY4.out; clear hb))
          go_ret
          exact ⟨by simp [rsameRp, HPL.out, HLS.out, HON.out], hgx ▸ HL4.out⟩
end Go.Proofs.Ytcegkljkmnpkaaa.Sep
namespace Go.Proofs.Ytcegkljkmnpkaaa.Sep
set_option linter.unusedSimpArgs false
set_option linter.unusedVariables false
open Go.RowKit Go.Proofs.Ytcegkljkmnpkaaa.PCore Go.Proofs.Ytcegkljkmnpkaaa.Plain Go.Proofs.YtcegkljkmnpkaaaW.PrintWords Go.Proofs.YtcegkljkmnpkaaaW.PrintLast Go.Proofs.YtcegkljkmnpkaaaW.PrintMore
open Go.Proofs.Ytcegkljkmnpkaaa.PDat (S53 S47 S57 S59 S62 k53 k47 k57 k59 k62)
theorem kC_mk {w : World} (x : Com) {A : Option Addr} {n : Nat} (h : Kd.C (Kd.int .u64) w A x.ps.length x.ps) (hn : x.ps.length ≤ n) : kC.K w x (coV x A n).toList :=
  ⟨[.int .u64 x.id], _, rfl, rfl, ⟨[.slice A x.ps.length n], _, rfl, ⟨A, n, rfl, hn, h⟩, ⟨[.int .u64 x.gen], _, rfl, rfl, ⟨[.int .u64 x.root], _, rfl, rfl, rfl⟩⟩⟩⟩
/-- Commits whose parents are read in a world that does not turn. -/
def kAt (W0 : World) : Kd Com where
  sz := 5
  E := []
  K := fun _ x cs => kC.K W0 x cs
  M := fun _ _ _ x cs => kC.K W0 x cs
  K_len := fun h => kC.K_len h
  K_one := fun h => kC.K_one h
  K_below := fun _ h => h
  K_of_M := fun h => h
  M_mono := fun _ h => h
  M_bound := fun h => h
  M_move := fun _ h => h
  M_lower := fun _ h => h
theorem kAt_of {W : World} {A : Option Addr} {n : Nat} {xs : List Com} (h : Kd.C kC W A n xs) : Kd.C (kAt W) W A n xs := h
theorem of_kAt {W w : World} {A : Option Addr} {n : Nat} {xs : List Com} (hb : Below W.heap.size W w) (h : Kd.C (kAt W) w A n xs) : Kd.C kC w A n xs :=
  ReadsRow.imp_ h (Below.refl _ _) (fun _ _ hp => kC.K_below hb hp)
theorem coInfo : (Try.prog.info? 44).map (fun i => (i.zero, i.size, i.bytes)) = some (some (.agg #[.int .u64 0, .slice none 0 0, .int .u64 0, .int .u64 0, .string ⟨#[]⟩]), 5, 64) := by kernel_rfl
set_option maxHeartbeats 4000000 in
set_option maxRecDepth 100000 in
theorem cloneCo_calls (W0 : World) (A : Option Addr) (c : Nat) (l : List Com) (W : World) (hB : Below W0.heap.size W0 W) (hC : Kd.C kC W0 A l.length l) (hlim : l.length ≤ 1000000) :
    Calls Try.prog 75 #[.slice A l.length c] W fun e W1 => ∃ v, e = .returned v ∧ Kd.R (kAt W0) 44 W1 W.heap.size (fun _ => True) v l ∧ Below W.heap.size W W1 := by
  cases A with
  | none =>
    have hn : l = [] := by
      cases l with
      | nil => rfl
      | cons x xs =>
        obtain ⟨ad, e, _⟩ := hC.2.2 (by simp)
        cases e
    subst hn
    clear hC
    have hq := fun W1 : World => Lib.run_eql_slice_nil (P := Try.prog) W1 27 44 none 0 c 0 0 Try.underlying27
    go_enter Try.func75, Try.ntmps75
    go_wp2
    go_ret
    exact ⟨_, rfl, Kd.R_nil _ _ _ _ _, Below.refl _ _⟩
  | some a =>
    have hq := fun W1 : World => Lib.run_eql_slice_nil (P := Try.prog) W1 27 44 (some a) l.length c 0 0 Try.underlying27
    have HC := Aside0.mk hC
    have HB0 := Aside0.mk hB
    have HL := Aside0.mk hlim
    clear hC hlim
    go_enter Try.func75, Try.ntmps75
    go_wp2_with (at_builtin; refine Kd.R_append_rows (kAt W0) (Rr := fun x cs => kC.K W0 x cs) (w0 := W) W.heap.size rfl (.tmp 5) (.tmp 6) 27 44 (.agg #[.int .u64 0, .slice none 0 0, .int .u64 0, .int .u64 0, .string ⟨#[]⟩]) 64 rfl Try.underlying27 coInfo rfl (show 0 < 5 by decide) (by omega) (.slice (some ⟨W.heap.size, 0, none⟩) 0 0) ([] : List Com) l _ _ _ (fun _ => True) (fun _ => False) rfl rfl ?aO ?aR (fun _ _ h => h) (fun _ h => h.elim) ?aF ?aB ?aS ?aL ?_; (try (case aO => exact ⟨fun _ _ => trivial, [], World.ownsRow_made W #[] 0 (Nat.le_refl _) (by decide) rfl, Reps.none _ _⟩)); (case aR => exact Kd.C_below (kAt_of HC.out) (below_alloc HB0.out _)); (case aF => exact fun _ _ => trivial); (case aB => exact below_alloc (Below.refl _ _) _); (case aS => exact (below_alloc (Below.refl _ _) _).size); (case aL => have := HL.out; simp; omega); intro v1 w1 hr hb hg hat; have HR := Aside0.mk hr; have HB := Aside0.mk hb; clear hr hb hg hat)
    go_ret
    exact ⟨_, rfl, HR.out, HB.out⟩
/-- An answer without roots. -/
def rootlessRp (r : Rp) : Rp := ⟨r.err, r.is, r.val, r.id, r.n, r.es, r.chs, r.cls, r.coms.map noRoot, r.refs⟩
/-- A root set to nought in a row of one's own. -/
theorem com_set {W w : World} {g n t : Nat} {arr : Array Value} {xs : List Com} (hk : w.heap[g]? = some (.cells arr t (0, 0))) (hC : Kd.C (kAt W) w (some ⟨g, 0, none⟩) n xs) (i : Nat) (hi : i < xs.length) :
    Kd.C (kAt W) (w.setCell ⟨g, i * 5 + 3, none⟩ (.int .u64 0)) (some ⟨g, 0, none⟩) n (xs.set i (noRoot xs[i])) := by
  refine ⟨by rw [List.length_set]; exact hC.1, hC.2.1, fun hn => ⟨⟨g, 0, none⟩, rfl, fun j p hj => ?_⟩⟩
  obtain ⟨ad, e, hc⟩ := hC.2.2 hn
  obtain rfl : ad = ⟨g, 0, none⟩ := by injection e with e; exact e.symm
  have hcell : ∀ q : Nat, (w.setCell ⟨g, i * 5 + 3, none⟩ (.int .u64 0)).cell? ((⟨g, 0, none⟩ : Addr).add q) = if q = i * 5 + 3 then (if q < arr.size then some (.int .u64 0) else none) else w.cell? ((⟨g, 0, none⟩ : Addr).add q) := by
    intro q
    have h1 := blk_cell (blk_set hk (i * 5 + 3) (.int .u64 0)) q
    have h2 := blk_cell hk q
    have e1 : ((⟨g, 0, none⟩ : Addr).add q) = ⟨g, q, none⟩ := by unfold Addr.add; split <;> simp_all
    rw [e1, h1, h2, Array.getElem?_setIfInBounds]
    by_cases hq : i * 5 + 3 = q
    · rw [if_pos hq, if_pos hq.symm]
      subst hq
      by_cases hs : i * 5 + 3 < arr.size
      · rw [if_pos hs]
      · rw [if_neg hs]
    · rw [if_neg hq, if_neg (fun h => hq h.symm)]
  by_cases hji : j = i
  · subst hji
    rw [List.getElem?_set_self hi] at hj
    injection hj with hj
    subst hj
    obtain ⟨c, hl, hK, hcc⟩ := hc j _ (List.getElem?_eq_getElem hi)
    obtain ⟨A', n', rfl, hn', hP⟩ := kC_open (show kC.K W _ _ from hK)
    have h3 : w.cell? ((⟨g, 0, none⟩ : Addr).add (j * 5 + 3)) = some (.int .u64 xs[j].root) := hcc 3 _ rfl
    refine ⟨(coV (noRoot xs[j]) A' n').toList, rfl, kC_mk (noRoot xs[j]) hP hn', fun k u hu => ?_⟩
    show World.cell? _ ((⟨g, 0, none⟩ : Addr).add (j * 5 + k)) = some u
    rw [hcell]
    match k, hu with
    | 0, hu => rw [if_neg (show ¬ j * 5 + 0 = j * 5 + 3 by omega)]; exact hcc 0 u hu
    | 1, hu => rw [if_neg (show ¬ j * 5 + 1 = j * 5 + 3 by omega)]; exact hcc 1 u hu
    | 2, hu => rw [if_neg (show ¬ j * 5 + 2 = j * 5 + 3 by omega)]; exact hcc 2 u hu
    | 3, hu =>
      have e1 : ((⟨g, 0, none⟩ : Addr).add (j * 5 + 3)) = ⟨g, j * 5 + 3, none⟩ := by unfold Addr.add; split <;> simp_all
      rw [e1, blk_cell hk] at h3
      rw [if_pos rfl, if_pos (Array.getElem?_eq_some_iff.1 h3).1]
      exact hu
    | 4, hu => rw [if_neg (show ¬ j * 5 + 4 = j * 5 + 3 by omega)]; exact hcc 4 u hu
    | k + 5, hu => simp [coV] at hu
  · rw [List.getElem?_set_ne (fun h => hji h.symm)] at hj
    obtain ⟨c, hl, hK, hcc⟩ := hc j p hj
    refine ⟨c, hl, hK, fun k u hu => ?_⟩
    show World.cell? _ ((⟨g, 0, none⟩ : Addr).add (j * 5 + k)) = some u
    rw [hcell]
    have hk5 : k < 5 := by
      have h1 : k < c.length := (List.getElem?_eq_some_iff.1 hu).1
      have h2 : c.length = 5 := hl
      omega
    rw [if_neg (show ¬ j * 5 + k = i * 5 + 3 by omega)]
    exact hcc k u hu
theorem own_form {W w : World} {base : Nat} {ok : Nat → Prop} {v : Value} {xs : List Com} {T : Nat} (h : Kd.R (kAt W) T w base ok v xs) : ∃ A n, v = .slice A xs.length n ∧ xs.length ≤ n ∧ Kd.C (kAt W) w A xs.length xs ∧ (0 < xs.length → ∃ g arr, A = some ⟨g, 0, none⟩ ∧ base ≤ g ∧ w.heap[g]? = some (.cells arr T (0, 0))) := by
  obtain ⟨A, n, hv, hn, hC⟩ := Kd.R_reads h
  refine ⟨A, n, hv, hn, hC, fun h0 => ?_⟩
  obtain ⟨inner, ho⟩ := Kd.R_own h
  rcases ho.2 with ⟨_, h2⟩ | ⟨g, cap, cur, hv2, hg, hk, _⟩
  · omega
  · rw [hv] at hv2
    injection hv2 with e1 e2 e3
    exact ⟨g, cur, e1, hg, hk⟩
theorem root_cell {W w : World} {g n : Nat} {xs : List Com} (hC : Kd.C (kAt W) w (some ⟨g, 0, none⟩) n xs) (i : Nat) (hi : i < xs.length) : w.cell? ⟨g, i * 5 + 3, none⟩ = some (.int .u64 xs[i].root) := by
  obtain ⟨ad, e, hc⟩ := hC.2.2 (by have := hC.1; omega)
  obtain rfl : ad = ⟨g, 0, none⟩ := by injection e with e; exact e.symm
  obtain ⟨c, hl, hK, hcc⟩ := hc i _ (List.getElem?_eq_getElem hi)
  obtain ⟨A', n', rfl, hn', hP⟩ := kC_open (show kC.K W _ _ from hK)
  have h3 : w.cell? ((⟨g, 0, none⟩ : Addr).add (i * 5 + 3)) = some (.int .u64 xs[i].root) := hcc 3 _ rfl
  have e1 : ((⟨g, 0, none⟩ : Addr).add (i * 5 + 3)) = ⟨g, i * 5 + 3, none⟩ := by unfold Addr.add; split <;> simp_all
  rw [e1] at h3
  exact h3
theorem C_far {W w : World} {A : Option Addr} {n : Nat} {xs : List Com} (hC : Kd.C (kAt W) w A n xs) (p : Addr) (v : Value) (hA : 0 < n → ∃ g, A = some ⟨g, 0, none⟩ ∧ g ≠ p.block) : Kd.C (kAt W) (w.setCell p v) A n xs := by
  refine ⟨hC.1, hC.2.1, fun hn => ?_⟩
  obtain ⟨ad, e, hc⟩ := hC.2.2 hn
  obtain ⟨g, e2, hg⟩ := hA hn
  refine ⟨ad, e, fun j q hj => ?_⟩
  obtain ⟨c, hl, hK, hcc⟩ := hc j q hj
  refine ⟨c, hl, hK, fun k u hu => ?_⟩
  rw [← hcc k u hu]
  refine World.cell?_of_block ?_
  rw [add_block]
  have : ad.block = g := by rw [e2] at e; injection e with e; rw [← e]
  rw [this]
  exact Below.heap_setCell _ _ _ _ hg
theorem ten_set {B n t : Nat} {w : World} {a0 a1 a2 a3 a4 a5 a6 a7 a8 a9 : Value} (hk : w.heap[n]? = some (.cells #[a0, a1, a2, a3, a4, a5, a6, a7, a8, a9] t (0, 0))) (hB : B ≤ n) (v0 v1 v2 v3 v4 v5 v6 v7 v8 v9 : Value) :
    ((((((((((w.setCell ⟨n, 0, none⟩ v0).setCell ⟨n, 1, none⟩ v1).setCell ⟨n, 2, none⟩ v2).setCell ⟨n, 3, none⟩ v3).setCell ⟨n, 4, none⟩ v4).setCell ⟨n, 5, none⟩ v5).setCell ⟨n, 6, none⟩ v6).setCell ⟨n, 7, none⟩ v7).setCell ⟨n, 8, none⟩ v8).setCell ⟨n, 9, none⟩ v9).heap[n]? = some (.cells #[v0, v1, v2, v3, v4, v5, v6, v7, v8, v9] t (0, 0)) ∧ Fr B [t] w ((((((((((w.setCell ⟨n, 0, none⟩ v0).setCell ⟨n, 1, none⟩ v1).setCell ⟨n, 2, none⟩ v2).setCell ⟨n, 3, none⟩ v3).setCell ⟨n, 4, none⟩ v4).setCell ⟨n, 5, none⟩ v5).setCell ⟨n, 6, none⟩ v6).setCell ⟨n, 7, none⟩ v7).setCell ⟨n, 8, none⟩ v8).setCell ⟨n, 9, none⟩ v9) := by
  have h0 := blk_set hk 0 v0
  have h1 := blk_set h0 1 v1
  have h2 := blk_set h1 2 v2
  have h3 := blk_set h2 3 v3
  have h4 := blk_set h3 4 v4
  have h5 := blk_set h4 5 v5
  have h6 := blk_set h5 6 v6
  have h7 := blk_set h6 7 v7
  have h8 := blk_set h7 8 v8
  have h9 := blk_set h8 9 v9
  exact ⟨by simpa using h9, (((((((((((Fr.refl B [t] w).set hk hB (by simp) 0 v0).set hk hB (by simp) 1 v1).set hk hB (by simp) 2 v2).set hk hB (by simp) 3 v3).set hk hB (by simp) 4 v4).set hk hB (by simp) 5 v5).set hk hB (by simp) 6 v6).set hk hB (by simp) 7 v7).set hk hB (by simp) 8 v8).set hk hB (by simp) 9 v9)⟩
theorem C_fr {W w w1 : World} {A : Option Addr} {n B t : Nat} {xs : List Com} (hC : Kd.C (kAt W) w A n xs) (hf : Fr B [t] w w1) (ht : t ≠ 44) (hA : 0 < n → ∃ g arr, A = some ⟨g, 0, none⟩ ∧ w.heap[g]? = some (.cells arr 44 (0, 0))) : Kd.C (kAt W) w1 A n xs := by
  refine ⟨hC.1, hC.2.1, fun hn => ?_⟩
  obtain ⟨ad, e, hc⟩ := hC.2.2 hn
  obtain ⟨g, arr, e2, hk⟩ := hA hn
  refine ⟨ad, e, fun j q hj => ?_⟩
  obtain ⟨c, hl, hK, hcc⟩ := hc j q hj
  refine ⟨c, hl, hK, fun k u hu => ?_⟩
  rw [← hcc k u hu]
  refine World.cell?_of_block ?_
  rw [add_block]
  have : ad.block = g := by rw [e2] at e; injection e with e; rw [← e]
  rw [this, hf.blk hk (by simp only [List.mem_cons, List.not_mem_nil, or_false]; exact fun h => ht h.symm), hk]
/-- Half of the roots set to nought. -/
def halfRoot (l : List Com) (i : Nat) : List Com := (l.take i).map noRoot ++ l.drop i
theorem halfRoot_len (l : List Com) (i : Nat) : (halfRoot l i).length = l.length := by unfold halfRoot; simp; omega
theorem halfRoot_set (l : List Com) (i : Nat) (h : i < l.length) : (halfRoot l i).set i (noRoot ((halfRoot l i)[i]'(by rw [halfRoot_len]; exact h))) = halfRoot l (i + 1) := by
  have hl : ((l.take i).map noRoot).length = i := by rw [List.length_map, List.length_take]; omega
  have he : (halfRoot l i)[i]'(by rw [halfRoot_len]; exact h) = l[i] := by
    simp only [halfRoot]
    rw [List.getElem_append_right (by omega)]
    simp [hl, Nat.min_eq_left (Nat.le_of_lt h)]
  rw [he]
  unfold halfRoot
  rw [List.set_append_right _ _ (by omega), hl, Nat.sub_self, List.drop_eq_getElem_cons h, List.set_cons_zero, take_one l i h, List.map_append, List.append_assoc]
  rfl
abbrev zeroRpC : Array Value := #[.int .i64 0, .bool false, .string ⟨#[]⟩, .int .u64 0, .int .i64 0, .slice none 0 0, .slice none 0 0, .slice none 0 0, .slice none 0 0, .slice none 0 0]
set_option maxHeartbeats 16000000 in
set_option maxRecDepth 100000 in
theorem rootless_calls (r : Rp) (A1 : Option Addr) (n1 : Nat) (A2 : Option Addr) (n2 : Nat) (A3 : Option Addr) (n3 : Nat) (A4 : Option Addr) (n4 : Nat) (A5 : Option Addr) (n5 : Nat) (W : World) (h : RpC W r A1 n1 A2 n2 A3 n3 A4 n4 A5 n5) (hlim : r.coms.length ≤ 1000000) :
    Calls Try.prog 30 #[.agg (rpV r A1 n1 A2 n2 A3 n3 A4 n4 A5 n5)] W fun e W1 => ∃ B4 m4, e = .returned (.agg (rpV (rootlessRp r) A1 n1 A2 n2 A3 n3 B4 m4 A5 n5)) ∧ RpC W1 (rootlessRp r) A1 n1 A2 n2 A3 n3 B4 m4 A5 n5 ∧ Below W.heap.size W W1 := by
  have huR := Try.underlying30
  have huX := Try.underlying44
  have HC := Aside0.mk h
  have HLM := Aside0.mk hlim
  have HX0 := Aside0.mk (blk_alloc (blk_new W (.cells (rpV r A1 n1 A2 n2 A3 n3 A4 n4 A5 n5) 30)) (.cells zeroRpC 30))
  have HY0 := Aside0.mk (blk_new (W.alloc (.cells (rpV r A1 n1 A2 n2 A3 n3 A4 n4 A5 n5) 30)) (.cells zeroRpC 30))
  have HB0 := Aside0.mk (below_alloc (below_alloc (Below.refl W.heap.size W) (.cells (rpV r A1 n1 A2 n2 A3 n3 A4 n4 A5 n5) 30)) (.cells zeroRpC 30))
  have HGX := Aside0.mk (show W.heap.size < ((W.alloc (.cells (rpV r A1 n1 A2 n2 A3 n3 A4 n4 A5 n5) 30)).alloc (.cells zeroRpC 30)).heap.size by have h1 := size_one W (.cells (rpV r A1 n1 A2 n2 A3 n3 A4 n4 A5 n5) 30); have h2 := size_one (W.alloc (.cells (rpV r A1 n1 A2 n2 A3 n3 A4 n4 A5 n5) 30)) (.cells zeroRpC 30); omega)
  have HGY := Aside0.mk (show (W.alloc (.cells (rpV r A1 n1 A2 n2 A3 n3 A4 n4 A5 n5) 30)).heap.size < ((W.alloc (.cells (rpV r A1 n1 A2 n2 A3 n3 A4 n4 A5 n5) 30)).alloc (.cells zeroRpC 30)).heap.size by have h2 := size_one (W.alloc (.cells (rpV r A1 n1 A2 n2 A3 n3 A4 n4 A5 n5) 30)) (.cells zeroRpC 30); omega)
  have HXY := Aside0.mk (show W.heap.size < (W.alloc (.cells (rpV r A1 n1 A2 n2 A3 n3 A4 n4 A5 n5) 30)).heap.size by have h1 := size_one W (.cells (rpV r A1 n1 A2 n2 A3 n3 A4 n4 A5 n5) 30); omega)
  clear h hlim
  go_enter Try.func30, Try.ntmps30
  go_upto_region 1 with (fail)
  try rw [size_one W (.cells (rpV r A1 n1 A2 n2 A3 n3 A4 n4 A5 n5) 30)]
  generalize (W.alloc (.cells (rpV r A1 n1 A2 n2 A3 n3 A4 n4 A5 n5) 30)).alloc (.cells zeroRpC 30) = w0 at HX0 HY0 HB0 HGX HGY ⊢
  generalize (W.alloc (.cells (rpV r A1 n1 A2 n2 A3 n3 A4 n4 A5 n5) 30)).heap.size = gy at HY0 HGY HXY ⊢
  obtain ⟨gx, hgx⟩ : ∃ g, g = W.heap.size := ⟨_, rfl⟩
  rw [← hgx] at HX0 HGX HXY
  try rw [← hgx]
  have HGW := Aside0.mk hgx
  clear hgx
  obtain ⟨p0, p1, p2, p3, p4, p5, p6, p7, p8, p9⟩ := ten_cells HX0.out
  clear p0 p1 p2 p3 p4 p5 p6 p7 p9
  go_upto_region 2 with (go_at_call 75; refine (cloneCo_calls W A4 n4 r.coms _ HB0.out HC.out.c4 HLM.out).mono ?_; rintro e w1 ⟨v, rfl, hr, hb⟩; obtain ⟨B4, m4, hv, hm, hCC, hB⟩ := own_form hr; subst hv; have HM := Aside0.mk hm; have HCC := Aside0.mk hCC; have HBB := Aside0.mk hB; have HB1 := Aside0.mk hb; have HX1 := Aside0.mk (blk_below HX0.out hb); have HY1 := Aside0.mk (blk_below HY0.out hb); obtain ⟨x0, x1, x2, x3, x4, x5, x6, x7, x8, x9⟩ := ten_cells HX1.out; have zx := blk_frozen HX1.out 8; clear hr hm hCC hB hb x0 x1 x2 x3 x4 x5 x6 x7 x9)
  have HXx := Aside0.mk (show (w1.setCell ⟨gx, 8, none⟩ (.slice B4 r.coms.length m4)).heap[gx]? = some (.cells (rpV r A1 n1 A2 n2 A3 n3 B4 m4 A5 n5) 30 (0, 0)) from (blk_set HX1.out 8 (.slice B4 r.coms.length m4)).trans rfl)
  have HYx := Aside0.mk (show (w1.setCell ⟨gx, 8, none⟩ (.slice B4 r.coms.length m4)).heap[gy]? = some (.cells zeroRpC 30 (0, 0)) by rw [Below.heap_setCell _ _ _ _ (show gy ≠ gx by have := HXY.out; omega)]; exact HY1.out)
  have HBx := Aside0.mk (below_set (j := 8) (v := .slice B4 r.coms.length m4) (below_step HB0.out HB1.out) (Nat.le_of_eq HGW.out.symm))
  have HCx := Aside0.mk (C_far HCC.out ⟨gx, 8, none⟩ (.slice B4 r.coms.length m4) (fun hn => by
    obtain ⟨g, arr, e, hg, _⟩ := HBB.out hn
    exact ⟨g, e, by have := HGX.out; show g ≠ gx; omega⟩))
  have HBBx := Aside0.mk (show 0 < r.coms.length → ∃ g arr, B4 = some ⟨g, 0, none⟩ ∧ w0.heap.size ≤ g ∧ (w1.setCell ⟨gx, 8, none⟩ (.slice B4 r.coms.length m4)).heap[g]? = some (.cells arr 44 (0, 0)) from fun hn => by
    obtain ⟨g, arr, e, hg, hk⟩ := HBB.out hn
    exact ⟨g, arr, e, hg, by rw [Below.heap_setCell _ _ _ _ (show g ≠ gx by have := HGX.out; omega)]; exact hk⟩)
  generalize w1.setCell ⟨gx, 8, none⟩ (.slice B4 r.coms.length m4) = w2 at HXx HYx HBx HCx HBBx ⊢
  clear HX1 HY1 HB1 HCC HBB x8 zx p8 HX0 HY0
  obtain ⟨x0, x1, x2, x3, x4, x5, x6, x7, x8, x9⟩ := ten_cells HXx.out
  go_wp2
  clear x0 x1 x2 x3 x4 x5 x6 x7 x8 x9
  go_loopg [11] r.coms.length (fun kq v11 w' => ∃ i : Nat, v11 = .int .i64 (i : Int) ∧ Aside0 (i ≤ r.coms.length ∧ kq = r.coms.length - i) ∧ Aside0 (Kd.C (kAt W) w' B4 r.coms.length (halfRoot r.coms i)) ∧ Aside0 (0 < r.coms.length → ∃ g arr, B4 = some ⟨g, 0, none⟩ ∧ w0.heap.size ≤ g ∧ w'.heap[g]? = some (.cells arr 44 (0, 0))) ∧ Aside0 (w'.heap[gx]? = some (.cells (rpV r A1 n1 A2 n2 A3 n3 B4 m4 A5 n5) 30 (0, 0))) ∧ Aside0 (w'.heap[gy]? = some (.cells zeroRpC 30 (0, 0))) ∧ Aside0 (Below W.heap.size W w'))
  case atStart => exact ⟨0, rfl, ⟨by omega, by omega⟩, ⟨by simpa [halfRoot] using HCx.out⟩, HBBx, HXx, HYx, HBx⟩
  case round =>
    obtain ⟨i, rfl, HI, HCi, HBi, HXi, HYi, HBL⟩ := hrel
    by_cases hlt : i < r.coms.length
    · obtain ⟨g, arr, hB4, hg, hk⟩ := HBi.out (by omega)
      subst hB4
      obtain ⟨rt, hroot⟩ : ∃ rt, World.cell? wr ⟨g, i * 5 + 3, none⟩ = some (.int .u64 rt) := ⟨_, root_cell HCi.out i (by rw [halfRoot_len]; exact hlt)⟩
      have hset := com_set hk HCi.out i (by rw [halfRoot_len]; exact hlt)
      rw [halfRoot_set r.coms i hlt] at hset
      have HSET := Aside0.mk hset
      have hz := blk_frozen hk (i * 5 + 3)
      have HKG := Aside0.mk (blk_set hk (i * 5 + 3) (.int .u64 0))
      have HGG := Aside0.mk hg
      obtain ⟨x0, x1, x2, x3, x4, x5, x6, x7, x8, x9⟩ := ten_cells HXi.out
      clear x0 x1 x2 x3 x4 x5 x6 x7 x9 hset hk hg
      have e1 : ((⟨g, 0, none⟩ : Addr).add (i * 5)) = ⟨g, i * 5, none⟩ := by unfold Addr.add; split <;> simp_all
      have hlt' : (i : Int) < (r.coms.length : Int) := by omega
      obtain ⟨i1, hi1⟩ : ∃ z, z = i + 1 := ⟨_, rfl⟩
      have HWI := Aside0.mk (show wrap64 ((i : Int) + 1) = (i1 : Int) by have := HLM.out; unfold wrap64; omega)
      have HI1 := Aside0.mk (show i1 = i + 1 ∧ i1 ≤ r.coms.length by omega)
      rw [← hi1] at HSET
      have HXn := Aside0.mk (show (World.setCell wr ⟨g, i * 5 + 3, none⟩ (.int .u64 0)).heap[gx]? = some (.cells (rpV r A1 n1 A2 n2 A3 n3 (some ⟨g, 0, none⟩) m4 A5 n5) 30 (0, 0)) by rw [Below.heap_setCell _ _ _ _ (show gx ≠ g by have := HGG.out; have := HGX.out; omega)]; exact HXi.out)
      have HYn := Aside0.mk (show (World.setCell wr ⟨g, i * 5 + 3, none⟩ (.int .u64 0)).heap[gy]? = some (.cells zeroRpC 30 (0, 0)) by rw [Below.heap_setCell _ _ _ _ (show gy ≠ g by have := HGG.out; have := HGY.out; omega)]; exact HYi.out)
      have HBn := Aside0.mk (below_set (j := i * 5 + 3) (v := .int .u64 0) HBL.out (show W.heap.size ≤ g by have := HGG.out; have := HGX.out; have := HGW.out; omega))
      clear hi1 hlt
      go_wp2
      go_roundg (r.coms.length - i1)
      case measure => have := HI.out; have := HI1.out; omega
      case rel =>
        refine ⟨i1, ?_, ⟨?_⟩, HSET, ⟨fun _ => ⟨g, _, rfl, HGG.out, HKG.out⟩⟩, HXn, HYn, HBn⟩
        · first | rfl | (rw [HWI.out]; done) | simp
        · exact ⟨HI1.out.2, rfl⟩
    · have hI : i = r.coms.length := by have := HI.out; omega
      have hlt' : ¬ (i : Int) < (r.coms.length : Int) := by omega
      have hc := HCi.out
      rw [hI] at hc
      have HCe := Aside0.mk (show Kd.C (kAt W) wr B4 r.coms.length (r.coms.map noRoot) by simpa [halfRoot] using hc)
      clear hc hI hlt HCi
      obtain ⟨x0, x1, x2, x3, x4, x5, x6, x7, x8, x9⟩ := ten_cells HXi.out
      obtain ⟨y0, y1, y2, y3, y4, y5, y6, y7, y8, y9⟩ := ten_cells HYi.out
      have zy := fun j => blk_frozen HYi.out j
      obtain ⟨hk, hf⟩ := ten_set (B := W.heap.size) HYi.out (show W.heap.size ≤ gy by have := HXY.out; have := HGW.out; omega) (.int .i64 r.err) (.bool r.is) (.string r.val) (.int .u64 r.id) (.int .i64 r.n) (.slice A1 r.es.length n1) (.slice A2 r.chs.length n2) (.slice A3 r.cls.length n3) (.slice B4 r.coms.length m4) (.slice A5 r.refs.length n5)
      have HKe := Aside0.mk hk
      have HFe := Aside0.mk hf
      have HBe := Aside0.mk (HBL.out.trans (hf.below HBL.out.size))
      have HCz := Aside0.mk (C_fr HCe.out hf (by decide) (fun hn => by
        obtain ⟨g, arr, e, _, hk⟩ := HBi.out hn
        exact ⟨g, arr, e, hk⟩))
      clear hk hf
      go_upto_region 7 with (fail)
      go_wp2
      generalize (World.setCell (World.setCell (World.setCell (World.setCell (World.setCell (World.setCell (World.setCell (World.setCell (World.setCell (World.setCell wr ⟨gy, 0, none⟩ (.int .i64 r.err)) ⟨gy, 1, none⟩ (.bool r.is)) ⟨gy, 2, none⟩ (.string r.val)) ⟨gy, 3, none⟩ (.int .u64 r.id)) ⟨gy, 4, none⟩ (.int .i64 r.n)) ⟨gy, 5, none⟩ (.slice A1 r.es.length n1)) ⟨gy, 6, none⟩ (.slice A2 r.chs.length n2)) ⟨gy, 7, none⟩ (.slice A3 r.cls.length n3)) ⟨gy, 8, none⟩ (.slice B4 r.coms.length m4)) ⟨gy, 9, none⟩ (.slice A5 r.refs.length n5)) = wz at HKe HFe HBe HCz ⊢
      refine bodyPost_ret (results_cell_row rfl _ _ gy 30 (rpV r A1 n1 A2 n2 A3 n3 B4 m4 A5 n5) (0, 0) _ rfl HKe.out huR rfl (by kernel_rfl)) rfl ?_
      have hc := HC.out.below HBe.out
      refine ⟨B4, m4, by simp [rpV, rootlessRp], ⟨hc.c1, hc.m1, hc.c2, hc.m2, hc.c3, hc.m3, ?_, ?_, hc.c5, hc.m5⟩, HBe.out⟩
      · show Kd.C kC wz B4 (r.coms.map noRoot).length (r.coms.map noRoot)
        rw [List.length_map]
        exact of_kAt HBe.out HCz.out
      · show (r.coms.map noRoot).length ≤ m4
        rw [List.length_map]
        exact HM.out
/-- Whether answers are alike but for roots. -/
theorem like_rs (a b : Rp) : sameRp (rootlessRp a) (rootlessRp b) = rsameRp false a b := by
  unfold sameRp rsameRp
  show (plainRp a b && (listsRp a b && oneL (a.coms.map noRoot) (b.coms.map noRoot))) = (plainRp a b && (oneL (a.coms.map noRoot) (b.coms.map noRoot) && listsRp a b))
  rw [Bool.and_comm (listsRp a b)]
end Go.Proofs.Ytcegkljkmnpkaaa.Sep
namespace Go.Proofs.Ytcegkljkmnpkaaa.Sep
set_option linter.unusedSimpArgs false
set_option linter.unusedVariables false
open Go.RowKit Go.Proofs.Ytcegkljkmnpkaaa.PCore Go.Proofs.Ytcegkljkmnpkaaa.Plain Go.Proofs.YtcegkljkmnpkaaaW.PrintWords Go.Proofs.YtcegkljkmnpkaaaW.PrintLast Go.Proofs.YtcegkljkmnpkaaaW.PrintMore
set_option maxHeartbeats 64000000 in
set_option maxRecDepth 100000 in
theorem like20_calls (a b : Rp) (A1 : Option Addr) (n1 : Nat) (A2 : Option Addr) (n2 : Nat) (A3 : Option Addr) (n3 : Nat) (A4 : Option Addr) (n4 : Nat) (A5 : Option Addr) (n5 : Nat) (B1 : Option Addr) (m1 : Nat) (B2 : Option Addr) (m2 : Nat) (B3 : Option Addr) (m3 : Nat) (B4 : Option Addr) (m4 : Nat) (B5 : Option Addr) (m5 : Nat) (W : World) (h : RpC W a A1 n1 A2 n2 A3 n3 A4 n4 A5 n5) (h' : RpC W b B1 m1 B2 m2 B3 m3 B4 m4 B5 m5) (hla : a.coms.length ≤ 1000000) (hlb : b.coms.length ≤ 1000000) :
    Calls Try.prog 10 #[.agg (rpV a A1 n1 A2 n2 A3 n3 A4 n4 A5 n5), .agg (rpV b B1 m1 B2 m2 B3 m3 B4 m4 B5 m5)] W fun e W1 => e = .returned (.bool (rsameRp false a b)) ∧ Below W.heap.size W W1 := by
  have huR := Try.underlying30
  have HC := Aside0.mk h
  have HD := Aside0.mk h'
  have HLA := Aside0.mk hla
  have HLB := Aside0.mk hlb
  have HX0 := Aside0.mk (blk_alloc (blk_new W (.cells (rpV a A1 n1 A2 n2 A3 n3 A4 n4 A5 n5) 30)) (.cells (rpV b B1 m1 B2 m2 B3 m3 B4 m4 B5 m5) 30))
  have HY0 := Aside0.mk (blk_new (W.alloc (.cells (rpV a A1 n1 A2 n2 A3 n3 A4 n4 A5 n5) 30)) (.cells (rpV b B1 m1 B2 m2 B3 m3 B4 m4 B5 m5) 30))
  have HB0 := Aside0.mk (below_alloc (below_alloc (Below.refl W.heap.size W) (.cells (rpV a A1 n1 A2 n2 A3 n3 A4 n4 A5 n5) 30)) (.cells (rpV b B1 m1 B2 m2 B3 m3 B4 m4 B5 m5) 30))
  clear h h' hla hlb
  go_enter Try.func10, Try.ntmps10
  go_upto_region 1 with (fail)
  try rw [size_one W (.cells (rpV a A1 n1 A2 n2 A3 n3 A4 n4 A5 n5) 30)]
  generalize (W.alloc (.cells (rpV a A1 n1 A2 n2 A3 n3 A4 n4 A5 n5) 30)).alloc (.cells (rpV b B1 m1 B2 m2 B3 m3 B4 m4 B5 m5) 30) = w0 at HX0 HY0 HB0 ⊢
  generalize (W.alloc (.cells (rpV a A1 n1 A2 n2 A3 n3 A4 n4 A5 n5) 30)).heap.size = gy at HY0 ⊢
  generalize hgx : W.heap.size = gx at HX0 ⊢
  have HBd := Aside0.mk (below_drew HB0.out)
  have HXd := Aside0.mk (blk_drew HX0.out)
  have HYd := Aside0.mk (blk_drew HY0.out)
  have SF0 := And.intro (ten_cells HX0.out) (ten_cells HY0.out)
  go_region_held3 (fun w' => (World.cell? w' ⟨gx, 0, none⟩ = some (.int .i64 a.err) ∧ World.cell? w' ⟨gx, 1, none⟩ = some (.bool a.is) ∧ World.cell? w' ⟨gx, 2, none⟩ = some (.string a.val) ∧ World.cell? w' ⟨gx, 3, none⟩ = some (.int .u64 a.id) ∧ World.cell? w' ⟨gx, 4, none⟩ = some (.int .i64 a.n) ∧ World.cell? w' ⟨gx, 5, none⟩ = some (.slice A1 a.es.length n1) ∧ World.cell? w' ⟨gx, 6, none⟩ = some (.slice A2 a.chs.length n2) ∧ World.cell? w' ⟨gx, 7, none⟩ = some (.slice A3 a.cls.length n3) ∧ World.cell? w' ⟨gx, 8, none⟩ = some (.slice A4 a.coms.length n4) ∧ World.cell? w' ⟨gx, 9, none⟩ = some (.slice A5 a.refs.length n5)) ∧ (World.cell? w' ⟨gy, 0, none⟩ = some (.int .i64 b.err) ∧ World.cell? w' ⟨gy, 1, none⟩ = some (.bool b.is) ∧ World.cell? w' ⟨gy, 2, none⟩ = some (.string b.val) ∧ World.cell? w' ⟨gy, 3, none⟩ = some (.int .u64 b.id) ∧ World.cell? w' ⟨gy, 4, none⟩ = some (.int .i64 b.n) ∧ World.cell? w' ⟨gy, 5, none⟩ = some (.slice B1 b.es.length m1) ∧ World.cell? w' ⟨gy, 6, none⟩ = some (.slice B2 b.chs.length m2) ∧ World.cell? w' ⟨gy, 7, none⟩ = some (.slice B3 b.cls.length m3) ∧ World.cell? w' ⟨gy, 8, none⟩ = some (.slice B4 b.coms.length m4) ∧ World.cell? w' ⟨gy, 9, none⟩ = some (.slice B5 b.refs.length m5))) (first | exact SF0 | exact SF1 | exact SF2 | exact SF3 | go_keep) (first | (go_at_call 8; refine (same20_calls (rootlessRp a) (rootlessRp b) A1 n1 A2 n2 A3 n3 Ba ma A5 n5 B1 m1 B2 m2 B3 m3 Bb mb B5 m5 _ HRA2.out HRB2.out).mono ?_; rintro e w3 ⟨rfl, hb⟩; have HB3 := Aside0.mk (below_step HB2.out hb); have HX3 := Aside0.mk (blk_below HX2.out hb); have HY3 := Aside0.mk (blk_below HY2.out hb); have SF3 := And.intro (ten_cells HX3.out) (ten_cells HY3.out); clear hb) | (go_at_call 30; have hq := HRA1.out; clear hq; with_reducible refine (rootless_calls b B1 m1 B2 m2 B3 m3 B4 m4 B5 m5 _ (HD.out.below HB1.out) HLB.out).mono ?_; rintro e w2 ⟨Bb, mb, rfl, hr, hb⟩; have HRB2 := Aside0.mk hr; have HRA2 := Aside0.mk (HRA1.out.below hb); have HB2 := Aside0.mk (below_step HB1.out hb); have HX2 := Aside0.mk (blk_below HX1.out hb); have HY2 := Aside0.mk (blk_below HY1.out hb); have SF2 := And.intro (ten_cells HX2.out) (ten_cells HY2.out); clear hr hb) | (go_at_call 30; have hq := HRB1.out; clear hq; with_reducible refine (rootless_calls a A1 n1 A2 n2 A3 n3 A4 n4 A5 n5 _ (HC.out.below HB1.out) HLA.out).mono ?_; rintro e w2 ⟨Ba, ma, rfl, hr, hb⟩; have HRA2 := Aside0.mk hr; have HRB2 := Aside0.mk (HRB1.out.below hb); have HB2 := Aside0.mk (below_step HB1.out hb); have HX2 := Aside0.mk (blk_below HX1.out hb); have HY2 := Aside0.mk (blk_below HY1.out hb); have SF2 := And.intro (ten_cells HX2.out) (ten_cells HY2.out); clear hr hb) | (go_at_call 30; with_reducible refine (rootless_calls a A1 n1 A2 n2 A3 n3 A4 n4 A5 n5 _ (HC.out.below HBd.out) HLA.out).mono ?_; rintro e w1 ⟨Ba, ma, rfl, hr, hb⟩; have HRA1 := Aside0.mk hr; have HB1 := Aside0.mk (below_step HBd.out hb); have HX1 := Aside0.mk (blk_below HXd.out hb); have HY1 := Aside0.mk (blk_below HYd.out hb); have SF1 := And.intro (ten_cells HX1.out) (ten_cells HY1.out); clear hr hb) | (go_at_call 30; with_reducible refine (rootless_calls b B1 m1 B2 m2 B3 m3 B4 m4 B5 m5 _ (HD.out.below HBd.out) HLB.out).mono ?_; rintro e w1 ⟨Bb, mb, rfl, hr, hb⟩; have HRB1 := Aside0.mk hr; have HB1 := Aside0.mk (below_step HBd.out hb); have HX1 := Aside0.mk (blk_below HXd.out hb); have HY1 := Aside0.mk (blk_below HYd.out hb); have SF1 := And.intro (ten_cells HX1.out) (ten_cells HY1.out); clear hr hb))
  all_goals (
    go_wp2
    go_ret
    rw [like_rs]
    exact ⟨rfl, hgx ▸ HB3.out⟩
  )
end Go.Proofs.Ytcegkljkmnpkaaa.Sep
