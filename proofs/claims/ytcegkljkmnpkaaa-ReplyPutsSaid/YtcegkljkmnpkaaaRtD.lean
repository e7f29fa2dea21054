/- The walk of the reference's Same. Printed by gen7.py. Conditions: the bounds of the statements. · The walks of law20's Light and awake. Printed by gen10.py. Conditions: the bounds of the statements. · An argument that is an answer. Conditions: none. -/
import Derived.Test.YtcegkljkmnpkaaaRqC
namespace Go.Proofs.Ytcegkljkmnpkaaa.Sep
set_option linter.unusedSimpArgs false
set_option linter.unusedVariables false
open Go.RowKit Go.Proofs.Ytcegkljkmnpkaaa.PCore Go.Proofs.Ytcegkljkmnpkaaa.Plain Go.Proofs.YtcegkljkmnpkaaaW.PrintWords Go.Proofs.YtcegkljkmnpkaaaW.PrintLast Go.Proofs.YtcegkljkmnpkaaaW.PrintMore
open Go.Proofs.Ytcegkljkmnpkaaa.PDat (S53 S47 S57 S59 S62 k53 k47 k57 k59 k62)
/-- A commit without its root. -/
def noRoot (c : Com) : Com := ⟨c.id, c.ps, c.gen, 0, c.text⟩
def rootsOf (r : Bool) (l : List Com) : List Com := if r = true then l else l.map noRoot
def rootOf (r : Bool) (c : Com) : Com := if r = true then c else noRoot c
theorem rootsOf_len (r : Bool) (l : List Com) : (rootsOf r l).length = l.length := by unfold rootsOf; split <;> simp
theorem rootsOf_at (r : Bool) (l : List Com) (i : Nat) (h : i < l.length) : (rootsOf r l)[i]'(by rw [rootsOf_len]; exact h) = rootOf r l[i] := by
  unfold rootsOf rootOf
  cases r <;> simp
/-- What the reference says of two answers. -/
noncomputable def rsameRp (r : Bool) (a b : Rp) : Bool := plainRp a b && (oneL (rootsOf r a.coms) (rootsOf r b.coms) && listsRp a b)
theorem rsameRp_true (a b : Rp) : rsameRp true a b = sameRp a b := by
  unfold rsameRp sameRp
  show (plainRp a b && (oneL a.coms b.coms && listsRp a b)) = _
  rw [Bool.and_comm (oneL a.coms b.coms)]
theorem chain6 (b1 b2 b3 b4 b5 b6 : Bool) : b1 = false ∨ (b1 = true ∧ b2 = false) ∨ (b1 = true ∧ b2 = true ∧ b3 = false) ∨ (b1 = true ∧ b2 = true ∧ b3 = true ∧ b4 = false) ∨ (b1 = true ∧ b2 = true ∧ b3 = true ∧ b4 = true ∧ b5 = false) ∨ (b1 = true ∧ b2 = true ∧ b3 = true ∧ b4 = true ∧ b5 = true ∧ b6 = false) ∨ (b1 = true ∧ b2 = true ∧ b3 = true ∧ b4 = true ∧ b5 = true ∧ b6 = true) := by
  cases b1 <;> cases b2 <;> cases b3 <;> cases b4 <;> cases b5 <;> cases b6 <;> simp
theorem two_new (w : World) (o1 o2 : Array Value) (t : Nat) : ((w.alloc (.cells o1 t)).alloc (.cells o2 t)).drew.heap[w.heap.size]? = some (.cells o1 t (0, 0)) ∧ ((w.alloc (.cells o1 t)).alloc (.cells o2 t)).drew.heap[w.heap.size + 1]? = some (.cells o2 t (0, 0)) ∧ Below w.heap.size w ((w.alloc (.cells o1 t)).alloc (.cells o2 t)).drew :=
  ⟨blk_drew (blk_alloc (blk_new w _) _), by rw [size_one w (.cells o1 t)]; exact blk_drew (blk_new _ _), below_drew (below_alloc (below_alloc (Below.refl _ _) _) _)⟩
theorem bne_f {α : Type} [BEq α] {x y : α} (h : (x == y) = true) : (x != y) = false := by simp [bne, h]
theorem bne_t {α : Type} [BEq α] {x y : α} (h : (x == y) = false) : (x != y) = true := by simp [bne, h]
set_option maxHeartbeats 64000000 in
set_option maxRecDepth 100000 in
theorem rsame20_calls (a b : Rp) (A1 : Option Addr) (n1 : Nat) (A2 : Option Addr) (n2 : Nat) (A3 : Option Addr) (n3 : Nat) (A4 : Option Addr) (n4 : Nat) (A5 : Option Addr) (n5 : Nat) (B1 : Option Addr) (m1 : Nat) (B2 : Option Addr) (m2 : Nat) (B3 : Option Addr) (m3 : Nat) (B4 : Option Addr) (m4 : Nat) (B5 : Option Addr) (m5 : Nat) (r : Bool) (W : World) (h : RpC W a A1 n1 A2 n2 A3 n3 A4 n4 A5 n5) (h' : RpC W b B1 m1 B2 m2 B3 m3 B4 m4 B5 m5) :
    Calls Try.prog 9 #[.agg (rpV a A1 n1 A2 n2 A3 n3 A4 n4 A5 n5), .agg (rpV b B1 m1 B2 m2 B3 m3 B4 m4 B5 m5), .bool r] W fun e W1 => e = .returned (.bool (rsameRp r a b)) ∧ Below W.heap.size W W1 := by
  have huR := Try.underlying30
  have huX := Try.underlying44
  have HC := Aside0.mk h
  have HD := Aside0.mk h'
  have HMX := Aside0.mk (Kd.C_max h.c4)
  have HX0 := Aside0.mk (blk_alloc (blk_new W (.cells (rpV a A1 n1 A2 n2 A3 n3 A4 n4 A5 n5) 30)) (.cells (rpV b B1 m1 B2 m2 B3 m3 B4 m4 B5 m5) 30))
  have HY0 := Aside0.mk (blk_new (W.alloc (.cells (rpV a A1 n1 A2 n2 A3 n3 A4 n4 A5 n5) 30)) (.cells (rpV b B1 m1 B2 m2 B3 m3 B4 m4 B5 m5) 30))
  have HB0 := Aside0.mk (below_alloc (below_alloc (Below.refl W.heap.size W) (.cells (rpV a A1 n1 A2 n2 A3 n3 A4 n4 A5 n5) 30)) (.cells (rpV b B1 m1 B2 m2 B3 m3 B4 m4 B5 m5) 30))
  clear h h'
  go_enter Try.func9, Try.ntmps9
  go_upto_region 1 with (fail)
  try rw [size_one W (.cells (rpV a A1 n1 A2 n2 A3 n3 A4 n4 A5 n5) 30)]
  generalize (W.alloc (.cells (rpV a A1 n1 A2 n2 A3 n3 A4 n4 A5 n5) 30)).alloc (.cells (rpV b B1 m1 B2 m2 B3 m3 B4 m4 B5 m5) 30) = w0 at HX0 HY0 HB0 ⊢
  generalize (W.alloc (.cells (rpV a A1 n1 A2 n2 A3 n3 A4 n4 A5 n5) 30)).heap.size = gy at HY0 ⊢
  generalize hgx : W.heap.size = gx at HX0 ⊢
  obtain ⟨p0, p1, p2, p3, p4, p5, p6, p7, p8, p9⟩ := ten_cells HX0.out
  obtain ⟨q0, q1, q2, q3, q4, q5, q6, q7, q8, q9⟩ := ten_cells HY0.out
  rcases chain6 (a.err == b.err) (a.is == b.is) (a.val.toList == b.val.toList) (a.id == b.id) (a.n == b.n) ((a.coms.length : Int) == (b.coms.length : Int)) with c1 | ⟨c1, c2⟩ | ⟨c1, c2, c3⟩ | ⟨c1, c2, c3, c4⟩ | ⟨c1, c2, c3, c4, c5⟩ | ⟨c1, c2, c3, c4, c5, c6⟩ | ⟨c1, c2, c3, c4, c5, c6⟩
  · have d1 := bne_t c1
    have HR := Aside0.mk (show rsameRp r a b = false by
      have h : plainRp a b = false := by simp only [plainRp]; simp [c1]
      simp [rsameRp, h])
    go_wp2
    go_ret
    rw [HR.out]
    exact ⟨rfl, hgx ▸ HB0.out⟩
  · have d1 := bne_f c1
    have d2 := bne_t c2
    have HR := Aside0.mk (show rsameRp r a b = false by
      have h : plainRp a b = false := by simp only [plainRp]; simp [c1, c2]
      simp [rsameRp, h])
    go_wp2
    go_ret
    rw [HR.out]
    exact ⟨rfl, hgx ▸ HB0.out⟩
  · have d1 := bne_f c1
    have d2 := bne_f c2
    have d3 := bne_t c3
    have HR := Aside0.mk (show rsameRp r a b = false by
      have h : plainRp a b = false := by simp only [plainRp]; simp [c1, c2, c3]
      simp [rsameRp, h])
    go_wp2
    go_ret
    rw [HR.out]
    exact ⟨rfl, hgx ▸ HB0.out⟩
  · have d1 := bne_f c1
    have d2 := bne_f c2
    have d3 := bne_f c3
    have d4 := bne_t c4
    have HR := Aside0.mk (show rsameRp r a b = false by
      have h : plainRp a b = false := by simp only [plainRp]; simp [c1, c2, c3, c4]
      simp [rsameRp, h])
    go_wp2
    go_ret
    rw [HR.out]
    exact ⟨rfl, hgx ▸ HB0.out⟩
  · have d1 := bne_f c1
    have d2 := bne_f c2
    have d3 := bne_f c3
    have d4 := bne_f c4
    have d5 := bne_t c5
    have HR := Aside0.mk (show rsameRp r a b = false by
      have h : plainRp a b = false := by simp only [plainRp]; simp [c1, c2, c3, c4, c5]
      simp [rsameRp, h])
    go_wp2
    go_ret
    rw [HR.out]
    exact ⟨rfl, hgx ▸ HB0.out⟩
  · have d1 := bne_f c1
    have d2 := bne_f c2
    have d3 := bne_f c3
    have d4 := bne_f c4
    have d5 := bne_f c5
    have d6 := bne_t c6
    have hne : a.coms.length ≠ b.coms.length := fun h => by rw [h, beq_self_eq_true] at c6; cases c6
    have c6N : (a.coms.length == b.coms.length) = false := beq_eq_false_iff_ne.mpr hne
    have d6N := bne_t c6N
    have HR := Aside0.mk (show rsameRp r a b = false by
      have h : oneL (rootsOf r a.coms) (rootsOf r b.coms) = false := by rw [← Bool.not_eq_true, oneL_iff]; exact fun h => hne (by have := congrArg List.length h; rwa [rootsOf_len, rootsOf_len] at this)
      simp [rsameRp, h])
    clear hne
    go_wp2
    go_ret
    rw [HR.out]
    exact ⟨rfl, hgx ▸ HB0.out⟩
  · have d1 := bne_f c1
    have d2 := bne_f c2
    have d3 := bne_f c3
    have d4 := bne_f c4
    have d5 := bne_f c5
    have d6 := bne_f c6
    have hab : a.coms.length = b.coms.length := by have := beq_iff_eq.1 c6; omega
    have c6N : (a.coms.length == b.coms.length) = true := beq_iff_eq.mpr hab
    have d6N := bne_f c6N
    have HAB := Aside0.mk hab
    have HPL := Aside0.mk (show plainRp a b = true by simp only [plainRp]; simp [c1, c2, c3, c4, c5])
    clear hab
    go_upto_region 3 with (fail)
    clear c1 c2 c3 c4 c5 c6 d1 d2 d3 d4 d5 d6 c6N d6N
    go_wp2
    clear p0 p1 p2 p3 p4 p5 p6 p7 p8 p9 q0 q1 q2 q3 q4 q5 q6 q7 q8 q9
    go_loopg [55] a.coms.length (fun kq v55 w' => ∃ i : Nat, v55 = .int .i64 (i : Int) ∧ Aside0 (i ≤ a.coms.length ∧ kq = a.coms.length - i) ∧ Aside0 ((rootsOf r a.coms).take i = (rootsOf r b.coms).take i) ∧ Aside0 (Below w0.heap.size w0 w'))
    case atStart => exact ⟨0, rfl, ⟨by omega, by omega⟩, ⟨rfl⟩, ⟨Below.refl _ _⟩⟩
    case round =>
      obtain ⟨i, rfl, HI, HT, HB⟩ := hrel
      by_cases hlt : i < a.coms.length
      · have hltb : i < b.coms.length := by have := HAB.out; omega
        have HBw := Aside0.mk (below_step HB0.out HB.out)
        obtain ⟨ad, C1, k1, hA, x0, x1, x2, x3, x4, hP, hPn⟩ := at_Com HC.out.c4 i hlt
        obtain ⟨bd, D1, l1, hB, y0, y1, y2, y3, y4, hQ, hQn⟩ := at_Com HD.out.c4 i hltb
        have hx := co_at (l := a.coms) i hlt
        have hy := co_at (l := b.coms) i hltb
        have HON := Aside0.mk (one_take (rootsOf r a.coms) (rootsOf r b.coms) i (by rw [rootsOf_len]; exact hlt) (by rw [rootsOf_len]; exact hltb) HT.out)
        have HOF := Aside0.mk (one_not (rootsOf r a.coms) (rootsOf r b.coms) i (by rw [rootsOf_len]; exact hlt) (by rw [rootsOf_len]; exact hltb))
        rw [rootsOf_at r a.coms i hlt, rootsOf_at r b.coms i hltb, ← hx, ← hy] at HON HOF
        generalize a.coms.getD i zeroCom = x at x0 x1 x2 x3 x4 hP hPn HON HOF
        generalize b.coms.getD i zeroCom = y at y0 y1 y2 y3 y4 hQ hQn HON HOF
        clear hx hy
        have HPQ := Aside0.mk (And.intro hP (And.intro hPn (And.intro hQ hQn)))
        clear hP hPn hQ hQn
        have X0 := pw_cell_below HBw.out x0
        have X1 := pw_cell_below HBw.out x1
        have X2 := pw_cell_below HBw.out x2
        have X3 := pw_cell_below HBw.out x3
        have X4 := pw_cell_below HBw.out x4
        have Y0 := pw_cell_below HBw.out y0
        have Y1 := pw_cell_below HBw.out y1
        have Y2 := pw_cell_below HBw.out y2
        have Y3 := pw_cell_below HBw.out y3
        have Y4 := pw_cell_below HBw.out y4
        have HXw := Aside0.mk (blk_below HX0.out HB.out)
        have HYw := Aside0.mk (blk_below HY0.out HB.out)
        have P8 : World.cell? wr ⟨gx, 8, none⟩ = some (.slice A4 a.coms.length n4) := (blk_cell HXw.out 8).trans rfl
        have Q8 : World.cell? wr ⟨gy, 8, none⟩ = some (.slice B4 b.coms.length m4) := (blk_cell HYw.out 8).trans rfl
        subst hA hB
        have hlt' : (i : Int) < (a.coms.length : Int) := by omega
        have hltb' : (i : Int) < (b.coms.length : Int) := by omega
        obtain ⟨i1, hi1⟩ : ∃ z, z = i + 1 := ⟨_, rfl⟩
        have HWI := Aside0.mk (show wrap64 ((i : Int) + 1) = (i1 : Int) by have := HMX.out; unfold wrap64; omega)
        have HI1 := Aside0.mk (show i1 = i + 1 ∧ i1 ≤ a.coms.length by omega)
        clear x0 x1 x2 x3 x4 y0 y1 y2 y3 y4 hi1
        go_upto_region 6 with (fail)
        generalize wr = w1 at HXw HYw HBw HB X0 X1 X2 X3 X4 Y0 Y1 Y2 Y3 Y4 P8 Q8 ⊢
        go_region_held3 (fun w' => World.cell? w' ⟨gx, 8, none⟩ = some (.slice (some ad) a.coms.length n4) ∧ World.cell? w' ⟨gy, 8, none⟩ = some (.slice (some bd) b.coms.length m4) ∧ (World.cell? w' (ad.add (i * 5)) = some (.int .u64 x.id) ∧ World.cell? w' ⟨(ad.add (i * 5)).block, (ad.add (i * 5)).off + 1, none⟩ = some (.slice C1 x.ps.length k1) ∧ World.cell? w' ⟨(ad.add (i * 5)).block, (ad.add (i * 5)).off + 2, none⟩ = some (.int .u64 x.gen) ∧ World.cell? w' ⟨(ad.add (i * 5)).block, (ad.add (i * 5)).off + 3, none⟩ = some (.int .u64 x.root) ∧ World.cell? w' ⟨(ad.add (i * 5)).block, (ad.add (i * 5)).off + 4, none⟩ = some (.string x.text)) ∧ (World.cell? w' (bd.add (i * 5)) = some (.int .u64 y.id) ∧ World.cell? w' ⟨(bd.add (i * 5)).block, (bd.add (i * 5)).off + 1, none⟩ = some (.slice D1 y.ps.length l1) ∧ World.cell? w' ⟨(bd.add (i * 5)).block, (bd.add (i * 5)).off + 2, none⟩ = some (.int .u64 y.gen) ∧ World.cell? w' ⟨(bd.add (i * 5)).block, (bd.add (i * 5)).off + 3, none⟩ = some (.int .u64 y.root) ∧ World.cell? w' ⟨(bd.add (i * 5)).block, (bd.add (i * 5)).off + 4, none⟩ = some (.string y.text))) (first | exact ⟨P8, Q8, ⟨X0, X1, X2, X3, X4⟩, ⟨Y0, Y1, Y2, Y3, Y4⟩⟩ | go_keep) (fail)
        · obtain ⟨hx2, hy2, hb2⟩ := two_new w1 (coV x C1 k1) (coV y D1 l1) 44
          have HX3 := Aside0.mk hx2
          have HY3 := Aside0.mk hy2
          have HB3 := Aside0.mk (below_step HB.out hb2)
          have HPW := Aside0.mk (show w0.heap.size ≤ w1.heap.size ∧ w0.heap.size ≤ w1.heap.size + 1 by have := HB.out.size; exact ⟨this, by omega⟩)
          have HPQN := Aside0.mk (show w1.heap.size ≠ w1.heap.size + 1 by omega)
          clear hx2 hy2 hb2
          generalize ((w1.alloc (.cells (coV x C1 k1) 44)).alloc (.cells (coV y D1 l1) 44)).drew = w3 at HX3 HY3 HB3 ⊢
          obtain ⟨q, hq⟩ : ∃ q, q = w1.heap.size + 1 := ⟨_, rfl⟩
          rw [← hq] at HY3 HPW HPQN ⊢
          clear hq
          generalize w1.heap.size = p at HX3 HPW HPQN ⊢
          cases r with
          | true =>
            have HX4 := HX3
            have HY4 := HY3
            have HB4 := HB3
            go_upto_region 9 with (fail)
            generalize w3 = w4 at HX4 HY4 HB4 ⊢
            have HBW4 := Aside0.mk (below_step HB0.out HB4.out)
            obtain ⟨x0, x1, x2, x3, x4⟩ := five_cells HX4.out
            obtain ⟨y0, y1, y2, y3, y4⟩ := five_cells HY4.out
            cases hs : sameCo x y with
            | true =>
              have HS := Aside0.mk hs
              have HT2 := Aside0.mk (HON.out ((sameCo_iff x y).1 hs))
              clear hs
              go_wp2_with (go_at_call 25; refine (rsame14_calls C1 k1 x D1 l1 y _ (Kd.C_below HPQ.out.1 HBW4.out) HPQ.out.2.1 (Kd.C_below HPQ.out.2.2.1 HBW4.out) HPQ.out.2.2.2).mono ?_; rw [HS.out]; rintro e w5 ⟨rfl, hb⟩; have HB5 := Aside0.mk (below_step HB4.out hb); clear hb)
              go_roundg (a.coms.length - i1)
              case measure => have := HI.out; have := HI1.out; omega
              case rel =>
               refine ⟨i1, ?_, ⟨?_⟩, ⟨?_⟩, HB5⟩
               · first | rfl | (rw [HWI.out]; done) | simp
               · exact ⟨HI1.out.2, rfl⟩
               · rw [HI1.out.1]; exact HT2.out
            | false =>
              have HS := Aside0.mk hs
              have HR := Aside0.mk (show rsameRp true a b = false by
               have h := HOF.out (fun h => by rw [(sameCo_iff x y).2 h] at hs; cases hs)
               simp [rsameRp, h])
              clear hs
              go_wp2_with (go_at_call 25; refine (rsame14_calls C1 k1 x D1 l1 y _ (Kd.C_below HPQ.out.1 HBW4.out) HPQ.out.2.1 (Kd.C_below HPQ.out.2.2.1 HBW4.out) HPQ.out.2.2.2).mono ?_; rw [HS.out]; rintro e w5 ⟨rfl, hb⟩; have HB5 := Aside0.mk (below_step HB4.out hb); clear hb)
              go_ret
              rw [HR.out]
              exact ⟨rfl, below_step (hgx ▸ HB0.out) HB5.out⟩
          | false =>
            obtain ⟨x0, x1, x2, x3, x4⟩ := five_cells HX3.out
            obtain ⟨y0, y1, y2, y3, y4⟩ := five_cells HY3.out
            have zx := blk_frozen HX3.out 3
            have zy := blk_frozen HY3.out 3
            have xa : (w3.setCell ⟨p, 3, none⟩ (.int .u64 0)).heap[p]? = some (.cells (coV (noRoot x) C1 k1) 44 (0, 0)) := (blk_set HX3.out 3 (.int .u64 0)).trans rfl
            have ya : (w3.setCell ⟨p, 3, none⟩ (.int .u64 0)).heap[q]? = some (.cells (coV y D1 l1) 44 (0, 0)) := by rw [Below.heap_setCell _ _ _ _ (show q ≠ p from fun h => HPQN.out h.symm)]; exact HY3.out
            have xb : ((w3.setCell ⟨p, 3, none⟩ (.int .u64 0)).setCell ⟨q, 3, none⟩ (.int .u64 0)).heap[p]? = some (.cells (coV (noRoot x) C1 k1) 44 (0, 0)) := by rw [Below.heap_setCell _ _ _ _ (show p ≠ q from HPQN.out)]; exact xa
            have yb : ((w3.setCell ⟨p, 3, none⟩ (.int .u64 0)).setCell ⟨q, 3, none⟩ (.int .u64 0)).heap[q]? = some (.cells (coV (noRoot y) D1 l1) 44 (0, 0)) := (blk_set ya 3 (.int .u64 0)).trans rfl
            have HX4 := Aside0.mk xb
            have HY4 := Aside0.mk yb
            have HB4 := Aside0.mk (below_set (j := 3) (v := .int .u64 0) (below_set (j := 3) (v := .int .u64 0) HB3.out HPW.out.1) HPW.out.2)
            have yc := (blk_cell ya 3).trans rfl
            have yz := blk_frozen ya 3
            clear xa ya xb yb
            go_upto_region 9 with (fail)
            generalize (w3.setCell ⟨p, 3, none⟩ (.int .u64 0)).setCell ⟨q, 3, none⟩ (.int .u64 0) = w4 at HX4 HY4 HB4 ⊢
            clear x0 x1 x2 x3 x4 y0 y1 y2 y3 y4 zx zy yc yz
            have HBW4 := Aside0.mk (below_step HB0.out HB4.out)
            obtain ⟨x0, x1, x2, x3, x4⟩ := five_cells HX4.out
            obtain ⟨y0, y1, y2, y3, y4⟩ := five_cells HY4.out
            cases hs : sameCo (noRoot x) (noRoot y) with
            | true =>
              have HS := Aside0.mk hs
              have HT2 := Aside0.mk (HON.out ((sameCo_iff (noRoot x) (noRoot y)).1 hs))
              clear hs
              go_wp2_with (go_at_call 25; refine (rsame14_calls C1 k1 (noRoot x) D1 l1 (noRoot y) _ (Kd.C_below HPQ.out.1 HBW4.out) HPQ.out.2.1 (Kd.C_below HPQ.out.2.2.1 HBW4.out) HPQ.out.2.2.2).mono ?_; rw [HS.out]; rintro e w5 ⟨rfl, hb⟩; have HB5 := Aside0.mk (below_step HB4.out hb); clear hb)
              go_roundg (a.coms.length - i1)
              case measure => have := HI.out; have := HI1.out; omega
              case rel =>
               refine ⟨i1, ?_, ⟨?_⟩, ⟨?_⟩, HB5⟩
               · first | rfl | (rw [HWI.out]; done) | simp
               · exact ⟨HI1.out.2, rfl⟩
               · rw [HI1.out.1]; exact HT2.out
            | false =>
              have HS := Aside0.mk hs
              have HR := Aside0.mk (show rsameRp false a b = false by
               have h := HOF.out (fun h => by rw [(sameCo_iff (noRoot x) (noRoot y)).2 h] at hs; cases hs)
               simp [rsameRp, h])
              clear hs
              go_wp2_with (go_at_call 25; refine (rsame14_calls C1 k1 (noRoot x) D1 l1 (noRoot y) _ (Kd.C_below HPQ.out.1 HBW4.out) HPQ.out.2.1 (Kd.C_below HPQ.out.2.2.1 HBW4.out) HPQ.out.2.2.2).mono ?_; rw [HS.out]; rintro e w5 ⟨rfl, hb⟩; have HB5 := Aside0.mk (below_step HB4.out hb); clear hb)
              go_ret
              rw [HR.out]
              exact ⟨rfl, below_step (hgx ▸ HB0.out) HB5.out⟩
        · obtain ⟨hy2, hx2, hb2⟩ := two_new w1 (coV y D1 l1) (coV x C1 k1) 44
          have HX3 := Aside0.mk hx2
          have HY3 := Aside0.mk hy2
          have HB3 := Aside0.mk (below_step HB.out hb2)
          have HPW := Aside0.mk (show w0.heap.size ≤ w1.heap.size + 1 ∧ w0.heap.size ≤ w1.heap.size by have := HB.out.size; exact ⟨by omega, this⟩)
          have HPQN := Aside0.mk (show w1.heap.size + 1 ≠ w1.heap.size by omega)
          clear hx2 hy2 hb2
          generalize ((w1.alloc (.cells (coV y D1 l1) 44)).alloc (.cells (coV x C1 k1) 44)).drew = w3 at HX3 HY3 HB3 ⊢
          obtain ⟨p, hp⟩ : ∃ p, p = w1.heap.size + 1 := ⟨_, rfl⟩
          rw [← hp] at HX3 HPW HPQN ⊢
          clear hp
          generalize w1.heap.size = q at HY3 HPW HPQN ⊢
          cases r with
          | true =>
            have HX4 := HX3
            have HY4 := HY3
            have HB4 := HB3
            go_upto_region 9 with (fail)
            generalize w3 = w4 at HX4 HY4 HB4 ⊢
            have HBW4 := Aside0.mk (below_step HB0.out HB4.out)
            obtain ⟨x0, x1, x2, x3, x4⟩ := five_cells HX4.out
            obtain ⟨y0, y1, y2, y3, y4⟩ := five_cells HY4.out
            cases hs : sameCo x y with
            | true =>
              have HS := Aside0.mk hs
              have HT2 := Aside0.mk (HON.out ((sameCo_iff x y).1 hs))
              clear hs
              go_wp2_with (go_at_call 25; refine (rsame14_calls C1 k1 x D1 l1 y _ (Kd.C_below HPQ.out.1 HBW4.out) HPQ.out.2.1 (Kd.C_below HPQ.out.2.2.1 HBW4.out) HPQ.out.2.2.2).mono ?_; rw [HS.out]; rintro e w5 ⟨rfl, hb⟩; have HB5 := Aside0.mk (below_step HB4.out hb); clear hb)
              go_roundg (a.coms.length - i1)
              case measure => have := HI.out; have := HI1.out; omega
              case rel =>
               refine ⟨i1, ?_, ⟨?_⟩, ⟨?_⟩, HB5⟩
               · first | rfl | (rw [HWI.out]; done) | simp
               · exact ⟨HI1.out.2, rfl⟩
               · rw [HI1.out.1]; exact HT2.out
            | false =>
              have HS := Aside0.mk hs
              have HR := Aside0.mk (show rsameRp true a b = false by
               have h := HOF.out (fun h => by rw [(sameCo_iff x y).2 h] at hs; cases hs)
               simp [rsameRp, h])
              clear hs
              go_wp2_with (go_at_call 25; refine (rsame14_calls C1 k1 x D1 l1 y _ (Kd.C_below HPQ.out.1 HBW4.out) HPQ.out.2.1 (Kd.C_below HPQ.out.2.2.1 HBW4.out) HPQ.out.2.2.2).mono ?_; rw [HS.out]; rintro e w5 ⟨rfl, hb⟩; have HB5 := Aside0.mk (below_step HB4.out hb); clear hb)
              go_ret
              rw [HR.out]
              exact ⟨rfl, below_step (hgx ▸ HB0.out) HB5.out⟩
          | false =>
            obtain ⟨x0, x1, x2, x3, x4⟩ := five_cells HX3.out
            obtain ⟨y0, y1, y2, y3, y4⟩ := five_cells HY3.out
            have zx := blk_frozen HX3.out 3
            have zy := blk_frozen HY3.out 3
            have xa : (w3.setCell ⟨p, 3, none⟩ (.int .u64 0)).heap[p]? = some (.cells (coV (noRoot x) C1 k1) 44 (0, 0)) := (blk_set HX3.out 3 (.int .u64 0)).trans rfl
            have ya : (w3.setCell ⟨p, 3, none⟩ (.int .u64 0)).heap[q]? = some (.cells (coV y D1 l1) 44 (0, 0)) := by rw [Below.heap_setCell _ _ _ _ (show q ≠ p from fun h => HPQN.out h.symm)]; exact HY3.out
            have xb : ((w3.setCell ⟨p, 3, none⟩ (.int .u64 0)).setCell ⟨q, 3, none⟩ (.int .u64 0)).heap[p]? = some (.cells (coV (noRoot x) C1 k1) 44 (0, 0)) := by rw [Below.heap_setCell _ _ _ _ (show p ≠ q from HPQN.out)]; exact xa
            have yb : ((w3.setCell ⟨p, 3, none⟩ (.int .u64 0)).setCell ⟨q, 3, none⟩ (.int .u64 0)).heap[q]? = some (.cells (coV (noRoot y) D1 l1) 44 (0, 0)) := (blk_set ya 3 (.int .u64 0)).trans rfl
            have HX4 := Aside0.mk xb
            have HY4 := Aside0.mk yb
            have HB4 := Aside0.mk (below_set (j := 3) (v := .int .u64 0) (below_set (j := 3) (v := .int .u64 0) HB3.out HPW.out.1) HPW.out.2)
            have yc := (blk_cell ya 3).trans rfl
            have yz := blk_frozen ya 3
            clear xa ya xb yb
            go_upto_region 9 with (fail)
            generalize (w3.setCell ⟨p, 3, none⟩ (.int .u64 0)).setCell ⟨q, 3, none⟩ (.int .u64 0) = w4 at HX4 HY4 HB4 ⊢
            clear x0 x1 x2 x3 x4 y0 y1 y2 y3 y4 zx zy yc yz
            have HBW4 := Aside0.mk (below_step HB0.out HB4.out)
            obtain ⟨x0, x1, x2, x3, x4⟩ := five_cells HX4.out
            obtain ⟨y0, y1, y2, y3, y4⟩ := five_cells HY4.out
            cases hs : sameCo (noRoot x) (noRoot y) with
            | true =>
              have HS := Aside0.mk hs
              have HT2 := Aside0.mk (HON.out ((sameCo_iff (noRoot x) (noRoot y)).1 hs))
              clear hs
              go_wp2_with (go_at_call 25; refine (rsame14_calls C1 k1 (noRoot x) D1 l1 (noRoot y) _ (Kd.C_below HPQ.out.1 HBW4.out) HPQ.out.2.1 (Kd.C_below HPQ.out.2.2.1 HBW4.out) HPQ.out.2.2.2).mono ?_; rw [HS.out]; rintro e w5 ⟨rfl, hb⟩; have HB5 := Aside0.mk (below_step HB4.out hb); clear hb)
              go_roundg (a.coms.length - i1)
              case measure => have := HI.out; have := HI1.out; omega
              case rel =>
               refine ⟨i1, ?_, ⟨?_⟩, ⟨?_⟩, HB5⟩
               · first | rfl | (rw [HWI.out]; done) | simp
               · exact ⟨HI1.out.2, rfl⟩
               · rw [HI1.out.1]; exact HT2.out
            | false =>
              have HS := Aside0.mk hs
              have HR := Aside0.mk (show rsameRp false a b = false by
               have h := HOF.out (fun h => by rw [(sameCo_iff (noRoot x) (noRoot y)).2 h] at hs; cases hs)
               simp [rsameRp, h])
              clear hs
              go_wp2_with (go_at_call 25; refine (rsame14_calls C1 k1 (noRoot x) D1 l1 (noRoot y) _ (Kd.C_below HPQ.out.1 HBW4.out) HPQ.out.2.1 (Kd.C_below HPQ.out.2.2.1 HBW4.out) HPQ.out.2.2.2).mono ?_; rw [HS.out]; rintro e w5 ⟨rfl, hb⟩; have HB5 := Aside0.mk (below_step HB4.out hb); clear hb)
              go_ret
              rw [HR.out]
              exact ⟨rfl, below_step (hgx ▸ HB0.out) HB5.out⟩
      · have hI : i = a.coms.length := by have := HI.out; omega
        have hlt' : ¬ (i : Int) < (a.coms.length : Int) := by omega
        have ht := HT.out
        rw [hI, List.take_of_length_le (by rw [rootsOf_len]; exact Nat.le_refl _), List.take_of_length_le (by rw [rootsOf_len, HAB.out]; exact Nat.le_refl _)] at ht
        have HON := Aside0.mk (show oneL (rootsOf r a.coms) (rootsOf r b.coms) = true by rw [oneL_iff]; exact ht)
        clear ht hI hlt HT
        have HXw := Aside0.mk (blk_below HX0.out HB.out)
        have HYw := Aside0.mk (blk_below HY0.out HB.out)
        have HL0 := Aside0.mk (below_step HB0.out HB.out)
        go_upto_region 12 with (fail)
        generalize wr = w1 at HXw HYw HL0 HB ⊢
        obtain ⟨p0, p1, p2, p3, p4, p5, p6, p7, p8, p9⟩ := ten_cells HXw.out
        obtain ⟨q0, q1, q2, q3, q4, q5, q6, q7, q8, q9⟩ := ten_cells HYw.out
        rcases chain4 (oneL a.es b.es) (oneL a.chs b.chs) (oneL a.cls b.cls) (oneL a.refs b.refs) with e1 | ⟨e1, e2⟩ | ⟨e1, e2, e3⟩ | ⟨e1, e2, e3, e4⟩ | ⟨e1, e2, e3, e4⟩
        · have HLS := Aside0.mk (show listsRp a b = false by simp only [listsRp]; simp [e1])
          have HE1 := Aside0.mk e1
          clear e1
          go_wp2_with (first | (go_at_call 26; refine (reqEntry_calls A1 n1 a.es B1 m1 b.es _ (Kd.C_below HC.out.c1 HL0.out) HC.out.m1 (Kd.C_below HD.out.c1 HL0.out) HD.out.m1).mono ?_; rw [HE1.out]; rintro e wl1 ⟨rfl, hb⟩; have HL1 := Aside0.mk (below_step HL0.out hb); have HX1 := Aside0.mk (blk_below HXw.out hb); have HY1 := Aside0.mk (blk_below HYw.out hb); obtain ⟨p1_0, p1_1, p1_2, p1_3, p1_4, p1_5, p1_6, p1_7, p1_8, p1_9⟩ := ten_cells HX1.out; obtain ⟨q1_0, q1_1, q1_2, q1_3, q1_4, q1_5, q1_6, q1_7, q1_8, q1_9⟩ := ten_cells HY1.out; clear hb))
          go_ret
          exact ⟨by simp [rsameRp, HPL.out, HLS.out, HON.out], hgx ▸ HL1.out⟩
        · have HLS := Aside0.mk (show listsRp a b = false by simp only [listsRp]; simp [e1, e2])
          have HE1 := Aside0.mk e1
          have HE2 := Aside0.mk e2
          clear e1 e2
          go_wp2_with (first | (go_at_call 26; refine (reqEntry_calls A1 n1 a.es B1 m1 b.es _ (Kd.C_below HC.out.c1 HL0.out) HC.out.m1 (Kd.C_below HD.out.c1 HL0.out) HD.out.m1).mono ?_; rw [HE1.out]; rintro e wl1 ⟨rfl, hb⟩; have HL1 := Aside0.mk (below_step HL0.out hb); have HX1 := Aside0.mk (blk_below HXw.out hb); have HY1 := Aside0.mk (blk_below HYw.out hb); obtain ⟨p1_0, p1_1, p1_2, p1_3, p1_4, p1_5, p1_6, p1_7, p1_8, p1_9⟩ := ten_cells HX1.out; obtain ⟨q1_0, q1_1, q1_2, q1_3, q1_4, q1_5, q1_6, q1_7, q1_8, q1_9⟩ := ten_cells HY1.out; clear hb) | (go_at_call 27; refine (reqChange_calls A2 n2 a.chs B2 m2 b.chs _ (Kd.C_below HC.out.c2 HL1.out) HC.out.m2 (Kd.C_below HD.out.c2 HL1.out) HD.out.m2).mono ?_; rw [HE2.out]; rintro e wl2 ⟨rfl, hb⟩; have HL2 := Aside0.mk (below_step HL1.out hb); have HX2 := Aside0.mk (blk_below HX1.out hb); have HY2 := Aside0.mk (blk_below HY1.out hb); obtain ⟨p2_0, p2_1, p2_2, p2_3, p2_4, p2_5, p2_6, p2_7, p2_8, p2_9⟩ := ten_cells HX2.out; obtain ⟨q2_0, q2_1, q2_2, q2_3, q2_4, q2_5, q2_6, q2_7, q2_8, q2_9⟩ := ten_cells HY2.out; clear hb))
          go_ret
          exact ⟨by simp [rsameRp, HPL.out, HLS.out, HON.out], hgx ▸ HL2.out⟩
        · have HLS := Aside0.mk (show listsRp a b = false by simp only [listsRp]; simp [e1, e2, e3])
          have HE1 := Aside0.mk e1
          have HE2 := Aside0.mk e2
          have HE3 := Aside0.mk e3
          clear e1 e2 e3
          go_wp2_with (first | (go_at_call 26; refine (reqEntry_calls A1 n1 a.es B1 m1 b.es _ (Kd.C_below HC.out.c1 HL0.out) HC.out.m1 (Kd.C_below HD.out.c1 HL0.out) HD.out.m1).mono ?_; rw [HE1.out]; rintro e wl1 ⟨rfl, hb⟩; have HL1 := Aside0.mk (below_step HL0.out hb); have HX1 := Aside0.mk (blk_below HXw.out hb); have HY1 := Aside0.mk (blk_below HYw.out hb); obtain ⟨p1_0, p1_1, p1_2, p1_3, p1_4, p1_5, p1_6, p1_7, p1_8, p1_9⟩ := ten_cells HX1.out; obtain ⟨q1_0, q1_1, q1_2, q1_3, q1_4, q1_5, q1_6, q1_7, q1_8, q1_9⟩ := ten_cells HY1.out; clear hb) | (go_at_call 27; refine (reqChange_calls A2 n2 a.chs B2 m2 b.chs _ (Kd.C_below HC.out.c2 HL1.out) HC.out.m2 (Kd.C_below HD.out.c2 HL1.out) HD.out.m2).mono ?_; rw [HE2.out]; rintro e wl2 ⟨rfl, hb⟩; have HL2 := Aside0.mk (below_step HL1.out hb); have HX2 := Aside0.mk (blk_below HX1.out hb); have HY2 := Aside0.mk (blk_below HY1.out hb); obtain ⟨p2_0, p2_1, p2_2, p2_3, p2_4, p2_5, p2_6, p2_7, p2_8, p2_9⟩ := ten_cells HX2.out; obtain ⟨q2_0, q2_1, q2_2, q2_3, q2_4, q2_5, q2_6, q2_7, q2_8, q2_9⟩ := ten_cells HY2.out; clear hb) | (go_at_call 28; refine (reqClash_calls A3 n3 a.cls B3 m3 b.cls _ (Kd.C_below HC.out.c3 HL2.out) HC.out.m3 (Kd.C_below HD.out.c3 HL2.out) HD.out.m3).mono ?_; rw [HE3.out]; rintro e wl3 ⟨rfl, hb⟩; have HL3 := Aside0.mk (below_step HL2.out hb); have HX3 := Aside0.mk (blk_below HX2.out hb); have HY3 := Aside0.mk (blk_below HY2.out hb); obtain ⟨p3_0, p3_1, p3_2, p3_3, p3_4, p3_5, p3_6, p3_7, p3_8, p3_9⟩ := ten_cells HX3.out; obtain ⟨q3_0, q3_1, q3_2, q3_3, q3_4, q3_5, q3_6, q3_7, q3_8, q3_9⟩ := ten_cells HY3.out; clear hb))
          go_ret
          exact ⟨by simp [rsameRp, HPL.out, HLS.out, HON.out], hgx ▸ HL3.out⟩
        · have HLS := Aside0.mk (show listsRp a b = false by simp only [listsRp]; simp [e1, e2, e3, e4])
          have HE1 := Aside0.mk e1
          have HE2 := Aside0.mk e2
          have HE3 := Aside0.mk e3
          have HE4 := Aside0.mk e4
          clear e1 e2 e3 e4
          go_wp2_with (first | (go_at_call 26; refine (reqEntry_calls A1 n1 a.es B1 m1 b.es _ (Kd.C_below HC.out.c1 HL0.out) HC.out.m1 (Kd.C_below HD.out.c1 HL0.out) HD.out.m1).mono ?_; rw [HE1.out]; rintro e wl1 ⟨rfl, hb⟩; have HL1 := Aside0.mk (below_step HL0.out hb); have HX1 := Aside0.mk (blk_below HXw.out hb); have HY1 := Aside0.mk (blk_below HYw.out hb); obtain ⟨p1_0, p1_1, p1_2, p1_3, p1_4, p1_5, p1_6, p1_7, p1_8, p1_9⟩ := ten_cells HX1.out; obtain ⟨q1_0, q1_1, q1_2, q1_3, q1_4, q1_5, q1_6, q1_7, q1_8, q1_9⟩ := ten_cells HY1.out; clear hb) | (go_at_call 27; refine (reqChange_calls A2 n2 a.chs B2 m2 b.chs _ (Kd.C_below HC.out.c2 HL1.out) HC.out.m2 (Kd.C_below HD.out.c2 HL1.out) HD.out.m2).mono ?_; rw [HE2.out]; rintro e wl2 ⟨rfl, hb⟩; have HL2 := Aside0.mk (below_step HL1.out hb); have HX2 := Aside0.mk (blk_below HX1.out hb); have HY2 := Aside0.mk (blk_below HY1.out hb); obtain ⟨p2_0, p2_1, p2_2, p2_3, p2_4, p2_5, p2_6, p2_7, p2_8, p2_9⟩ := ten_cells HX2.out; obtain ⟨q2_0, q2_1, q2_2, q2_3, q2_4, q2_5, q2_6, q2_7, q2_8, q2_9⟩ := ten_cells HY2.out; clear hb) | (go_at_call 28; refine (reqClash_calls A3 n3 a.cls B3 m3 b.cls _ (Kd.C_below HC.out.c3 HL2.out) HC.out.m3 (Kd.C_below HD.out.c3 HL2.out) HD.out.m3).mono ?_; rw [HE3.out]; rintro e wl3 ⟨rfl, hb⟩; have HL3 := Aside0.mk (below_step HL2.out hb); have HX3 := Aside0.mk (blk_below HX2.out hb); have HY3 := Aside0.mk (blk_below HY2.out hb); obtain ⟨p3_0, p3_1, p3_2, p3_3, p3_4, p3_5, p3_6, p3_7, p3_8, p3_9⟩ := ten_cells HX3.out; obtain ⟨q3_0, q3_1, q3_2, q3_3, q3_4, q3_5, q3_6, q3_7, q3_8, q3_9⟩ := ten_cells HY3.out; clear hb) | (go_at_call 29; refine (reqRef_calls A5 n5 a.refs B5 m5 b.refs _ (Kd.C_below HC.out.c5 HL3.out) HC.out.m5 (Kd.C_below HD.out.c5 HL3.out) HD.out.m5).mono ?_; rw [HE4.out]; rintro e wl4 ⟨rfl, hb⟩; have HL4 := Aside0.mk (below_step HL3.out hb); have HX4 := Aside0.mk (blk_below HX3.out hb); have HY4 := Aside0.mk (blk_below HY3.out hb); obtain ⟨p4_0, p4_1, p4_2, p4_3, p4_4, p4_5, p4_6, p4_7, p4_8, p4_9⟩ := ten_cells HX4.out; obtain ⟨q4_0, q4_1, q4_2, q4_3, q4_4, q4_5, q4_6, q4_7, q4_8, q4_9⟩ := ten_cells HY4.out; clear hb))
          go_ret
          exact ⟨by simp [rsameRp, HPL.out, HLS.out, HON.out], hgx ▸ HL4.out⟩
        · have HLS := Aside0.mk (show listsRp a b = true by simp only [listsRp]; simp [e1, e2, e3, e4])
          have HE1 := Aside0.mk e1
          have HE2 := Aside0.mk e2
          have HE3 := Aside0.mk e3
          have HE4 := Aside0.mk e4
          clear e1 e2 e3 e4
          go_wp2_with (first | (go_at_call 26; refine (reqEntry_calls A1 n1 a.es B1 m1 b.es _ (Kd.C_below HC.out.c1 HL0.out) HC.out.m1 (Kd.C_below HD.out.c1 HL0.out) HD.out.m1).mono ?_; rw [HE1.out]; rintro e wl1 ⟨rfl, hb⟩; have HL1 := Aside0.mk (below_step HL0.out hb); have HX1 := Aside0.mk (blk_below HXw.out hb); have HY1 := Aside0.mk (blk_below HYw.out hb); obtain ⟨p1_0, p1_1, p1_2, p1_3, p1_4, p1_5, p1_6, p1_7, p1_8, p1_9⟩ := ten_cells HX1.out; obtain ⟨q1_0, q1_1, q1_2, q1_3, q1_4, q1_5, q1_6, q1_7, q1_8, q1_9⟩ := ten_cells HY1.out; clear hb) | (go_at_call 27; refine (reqChange_calls A2 n2 a.chs B2 m2 b.chs _ (Kd.C_below HC.out.c2 HL1.out) HC.out.m2 (Kd.C_below HD.out.c2 HL1.out) HD.out.m2).mono ?_; rw [HE2.out]; rintro e wl2 ⟨rfl, hb⟩; have HL2 := Aside0.mk (below_step HL1.out hb); have HX2 := Aside0.mk (blk_below HX1.out hb); have HY2 := Aside0.mk (blk_below HY1.out hb); obtain ⟨p2_0, p2_1, p2_2, p2_3, p2_4, p2_5, p2_6, p2_7, p2_8, p2_9⟩ := ten_cells HX2.out; obtain ⟨q2_0, q2_1, q2_2, q2_3, q2_4, q2_5, q2_6, q2_7, q2_8, q2_9⟩ := ten_cells HY2.out; clear hb) | (go_at_call 28; refine (reqClash_calls A3 n3 a.cls B3 m3 b.cls _ (Kd.C_below HC.out.c3 HL2.out) HC.out.m3 (Kd.C_below HD.out.c3 HL2.out) HD.out.m3).mono ?_; rw [HE3.out]; rintro e wl3 ⟨rfl, hb⟩; have HL3 := Aside0.mk (below_step HL2.out hb); have HX3 := Aside0.mk (blk_below HX2.out hb); have HY3 := Aside0.mk (blk_below HY2.out hb); obtain ⟨p3_0, p3_1, p3_2, p3_3, p3_4, p3_5, p3_6, p3_7, p3_8, p3_9⟩ := ten_cells HX3.out; obtain ⟨q3_0, q3_1, q3_2, q3_3, q3_4, q3_5, q3_6, q3_7, q3_8, q3_9⟩ := ten_cells HY3.out; clear hb) | (go_at_call 29; refine (reqRef_calls A5 n5 a.refs B5 m5 b.refs _ (Kd.C_below HC.out.c5 HL3.out) HC.out.m5 (Kd.C_below HD.out.c5 HL3.out) HD.out.m5).mono ?_; rw [HE4.out]; rintro e wl4 ⟨rfl, hb⟩; have HL4 := Aside0.mk (below_step HL3.out hb); have HX4 := Aside0.mk (blk_below HX3.out hb); have HY4 := Aside0.mk (blk_below HY3.out hb); obtain ⟨p4_0, p4_1, p4_2, p4_3, p4_4, p4_5, p4_6, p4_7, p4_8, p4_9⟩ := ten_cells HX4.out; obtain ⟨q4_0, q4_1, q4_2, q4_3, q4_4, q4_5, q4_6, q4_7, q4_8, q4_9⟩ := ten_cells HY4.out; clear hb))
          go_ret
          exact ⟨by simp [rsameRp, HPL.out, HLS.out, HON.out], hgx ▸ HL4.out⟩
end Go.Proofs.Ytcegkljkmnpkaaa.Sep
namespace Go.Proofs.Ytcegkljkmnpkaaa.Sep
set_option linter.unusedSimpArgs false
set_option linter.unusedVariables false
open Go.RowKit Go.Proofs.Ytcegkljkmnpkaaa.PCore Go.Proofs.Ytcegkljkmnpkaaa.Plain Go.Proofs.YtcegkljkmnpkaaaW.PrintWords Go.Proofs.YtcegkljkmnpkaaaW.PrintLast Go.Proofs.YtcegkljkmnpkaaaW.PrintMore
open Go.Proofs.Ytcegkljkmnpkaaa.PDat (S53 S47 S57 S59 S62 k53 k47 k57 k59 k62 rd_T47 at_T47)
abbrev zeroRpC : Array Value := #[.int .i64 0, .bool false, .string ⟨#[]⟩, .int .u64 0, .int .i64 0, .slice none 0 0, .slice none 0 0, .slice none 0 0, .slice none 0 0, .slice none 0 0]
def okCh (x : Change) : Bool := decide (x.f0.size ≤ 60) && (decide (x.f2.size ≤ 250) && decide (x.f4.size ≤ 250))
/-- Whether an answer is small. -/
def lightRp (r : Rp) : Bool := r.coms.all lightCo && (r.chs.all okCh && (decide (r.val.size ≤ 250) && (decide (r.coms.length ≤ 20) && (decide (r.chs.length ≤ 30) && (lightEntry r.es && (lightClash r.cls && lightRef r.refs))))))
theorem all_take {α : Type} (f : α → Bool) (l : List α) (i : Nat) (h : i < l.length) (ha : (l.take i).all f = true) (hf : f l[i] = true) : (l.take (i + 1)).all f = true := by
  rw [take_one l i h, List.all_append, ha]
  simp [hf]
theorem all_not {α : Type} (f : α → Bool) (l : List α) (i : Nat) (h : i < l.length) (hf : f l[i] = false) : l.all f = false := by
  rw [← Bool.not_eq_true, List.all_eq_true]
  intro ha
  rw [ha _ (List.getElem_mem h)] at hf
  cases hf
set_option maxHeartbeats 64000000 in
set_option maxRecDepth 100000 in
theorem light20_calls (r : Rp) (A1 : Option Addr) (n1 : Nat) (A2 : Option Addr) (n2 : Nat) (A3 : Option Addr) (n3 : Nat) (A4 : Option Addr) (n4 : Nat) (A5 : Option Addr) (n5 : Nat) (W : World) (h : RpC W r A1 n1 A2 n2 A3 n3 A4 n4 A5 n5) :
    Calls Try.prog 7 #[.agg (rpV r A1 n1 A2 n2 A3 n3 A4 n4 A5 n5)] W fun e W1 => e = .returned (.bool (lightRp r)) ∧ Below W.heap.size W W1 := by
  have huR := Try.underlying30
  have huX := Try.underlying44
  have huC := Try.underlying47
  have HC := Aside0.mk h
  have HM4 := Aside0.mk (Kd.C_max h.c4)
  have HM2 := Aside0.mk (Kd.C_max h.c2)
  have HX0 := Aside0.mk (blk_new W (.cells (rpV r A1 n1 A2 n2 A3 n3 A4 n4 A5 n5) 30))
  have HB0 := Aside0.mk (below_alloc (Below.refl W.heap.size W) (.cells (rpV r A1 n1 A2 n2 A3 n3 A4 n4 A5 n5) 30))
  clear h
  go_enter Try.func7, Try.ntmps7
  go_upto_region 1 with (fail)
  generalize W.alloc (.cells (rpV r A1 n1 A2 n2 A3 n3 A4 n4 A5 n5) 30) = w0 at HX0 HB0 ⊢
  generalize hgx : W.heap.size = gx at HX0 ⊢
  obtain ⟨x0, x1, x2, x3, x4, x5, x6, x7, x8, x9⟩ := ten_cells HX0.out
  go_wp2
  clear x0 x1 x2 x3 x4 x5 x6 x7 x8 x9
  go_loopg [10] r.coms.length (fun kq v10 w' => ∃ i : Nat, v10 = .int .i64 (i : Int) ∧ Aside0 (i ≤ r.coms.length ∧ kq = r.coms.length - i) ∧ Aside0 ((r.coms.take i).all lightCo = true) ∧ Aside0 (Below w0.heap.size w0 w'))
  case atStart => exact ⟨0, rfl, ⟨by omega, by omega⟩, ⟨rfl⟩, ⟨Below.refl _ _⟩⟩
  case round =>
    obtain ⟨i, rfl, HI, HT, HB⟩ := hrel
    by_cases hlt : i < r.coms.length
    · obtain ⟨ad, C1, k1, hA, k0', q1, q2, q3, q4, hP, hPn⟩ := at_Com (HC.out.below (below_step HB0.out HB.out)).c4 i hlt
      subst hA
      have hx := co_at (l := r.coms) i hlt
      have HON := Aside0.mk (all_take lightCo r.coms i hlt HT.out)
      have HOF := Aside0.mk (all_not lightCo r.coms i hlt)
      rw [← hx] at HON HOF
      generalize r.coms.getD i zeroCom = x at k0' q1 q2 q3 q4 hP hPn HON HOF
      clear hx
      have HP := Aside0.mk (And.intro hP hPn)
      have hlt' : (i : Int) < (r.coms.length : Int) := by omega
      obtain ⟨i1, hi1⟩ : ∃ z, z = i + 1 := ⟨_, rfl⟩
      have HWI := Aside0.mk (show wrap64 ((i : Int) + 1) = (i1 : Int) by have := HM4.out; unfold wrap64; omega)
      have HI1 := Aside0.mk (show i1 = i + 1 ∧ i1 ≤ r.coms.length by omega)
      have HX1 := Aside0.mk (blk_new wr (.cells (coV x C1 k1) 44))
      have HB1 := Aside0.mk (below_alloc HB.out (.cells (coV x C1 k1) 44))
      have HP1 := Aside0.mk (Kd.C_below HP.out.1 (below_alloc (Below.refl wr.heap.size wr) (.cells (coV x C1 k1) 44)))
      clear hP hPn hi1 hlt
      go_upto_region 4 with (fail)
      clear k0' q1 q2 q3 q4
      generalize wr.alloc (.cells (coV x C1 k1) 44) = w1 at HX1 HB1 HP1 ⊢
      generalize wr.heap.size = gy at HX1 ⊢
      obtain ⟨y0, y1, y2, y3, y4⟩ := five_cells HX1.out
      cases hs : lightCo x with
      | true =>
        have HS := Aside0.mk hs
        have HTN := Aside0.mk (HON.out hs)
        clear hs
        go_wp2_with (go_at_call 15; refine (light14_calls C1 k1 x _ HP1.out HP.out.2).mono ?_; rw [HS.out]; rintro e w4 ⟨rfl, hb⟩; have HB4 := Aside0.mk (below_step HB1.out hb); clear hb)
        go_roundg (r.coms.length - i1)
        case measure => have := HI.out; have := HI1.out; omega
        case rel =>
          refine ⟨i1, ?_, ⟨?_⟩, ⟨?_⟩, HB4⟩
          · first | rfl | (rw [HWI.out]; done) | simp
          · exact ⟨HI1.out.2, rfl⟩
          · rw [HI1.out.1]; exact HTN.out
      | false =>
        have HS := Aside0.mk hs
        have HR := Aside0.mk (show lightRp r = false by simp [lightRp, HOF.out hs])
        clear hs
        go_wp2_with (go_at_call 15; refine (light14_calls C1 k1 x _ HP1.out HP.out.2).mono ?_; rw [HS.out]; rintro e w4 ⟨rfl, hb⟩; have HB4 := Aside0.mk (below_step HB1.out hb); clear hb)
        go_ret
        rw [HR.out]
        exact ⟨rfl, hgx ▸ below_step HB0.out HB4.out⟩
    · have hI : i = r.coms.length := by have := HI.out; omega
      have hlt' : ¬ (i : Int) < (r.coms.length : Int) := by omega
      have ht := HT.out
      rw [hI, List.take_length] at ht
      have HCA := Aside0.mk ht
      have HXw := Aside0.mk (blk_below HX0.out HB.out)
      have HBw := Aside0.mk (below_step HB0.out HB.out)
      clear ht hI hlt HT
      obtain ⟨x0, x1, x2, x3, x4, x5, x6, x7, x8, x9⟩ := ten_cells HXw.out
      go_upto_region 8 with (fail)
      clear x0 x1 x2 x3 x4 x5 x6 x7 x8 x9 hlt'
      generalize wr = w5 at HXw HBw HB ⊢
      go_loopg [21] r.chs.length (fun kq v21 w' => ∃ i : Nat, v21 = .int .i64 (i : Int) ∧ Aside0 (i ≤ r.chs.length ∧ kq = r.chs.length - i) ∧ Aside0 ((r.chs.take i).all okCh = true) ∧ Aside0 (Below w5.heap.size w5 w'))
      case atStart => exact ⟨0, rfl, ⟨by omega, by omega⟩, ⟨rfl⟩, ⟨Below.refl _ _⟩⟩
      case round =>
        obtain ⟨i, rfl, HI, HT, HB2⟩ := hrel
        by_cases hlt : i < r.chs.length
        · obtain ⟨ad, hA, h0, h1, h2, h3, h4⟩ := at_T47 (HC.out.below (below_step HBw.out HB2.out)).c2 (i : Int) (by omega) (by omega)
          subst hA
          simp only [Int.toNat_natCast] at h0 h1 h2 h3 h4
          have hx := ch_at (l := r.chs) i hlt
          have HON := Aside0.mk (all_take okCh r.chs i hlt HT.out)
          have HOF := Aside0.mk (all_not okCh r.chs i hlt)
          rw [← hx] at HON HOF
          generalize rd_T47 r.chs (i : Int) = x at h0 h1 h2 h3 h4 HON HOF
          clear hx
          have hlt' : (i : Int) < (r.chs.length : Int) := by omega
          obtain ⟨i1, hi1⟩ : ∃ z, z = i + 1 := ⟨_, rfl⟩
          have HWI := Aside0.mk (show wrap64 ((i : Int) + 1) = (i1 : Int) by have := HM2.out; unfold wrap64; omega)
          have HI1 := Aside0.mk (show i1 = i + 1 ∧ i1 ≤ r.chs.length by omega)
          have HX1 := Aside0.mk (blk_new wr (.cells #[.string x.f0, .bool x.f1, .string x.f2, .bool x.f3, .string x.f4] 47))
          have HB1 := Aside0.mk (below_alloc HB2.out (.cells #[.string x.f0, .bool x.f1, .string x.f2, .bool x.f3, .string x.f4] 47))
          clear hi1 hlt
          go_upto_region 10 with (fail)
          clear h0 h1 h2 h3 h4
          generalize wr.alloc (.cells #[.string x.f0, .bool x.f1, .string x.f2, .bool x.f3, .string x.f4] 47) = w1 at HX1 HB1 ⊢
          generalize wr.heap.size = gy at HX1 ⊢
          obtain ⟨y0, y1, y2, y3, y4⟩ := five_cells HX1.out
          by_cases c0 : 60 < x.f0.size
          · have d0 : decide ((60 : Int) < (x.f0.size : Int)) = true := decide_eq_true (by omega)
            have e0 : decide (60 < x.f0.size) = true := decide_eq_true c0
            have HR := Aside0.mk (show lightRp r = false by
              have h := HOF.out (by unfold okCh; rw [decide_eq_false (show ¬ x.f0.size ≤ 60 by omega)]; simp)
              simp [lightRp, h])
            clear c0
            go_wp2
            go_ret
            rw [HR.out]
            exact ⟨rfl, hgx ▸ below_step HBw.out HB1.out⟩
          · have d0 : decide ((60 : Int) < (x.f0.size : Int)) = false := decide_eq_false (by omega)
            have e0 : decide (60 < x.f0.size) = false := decide_eq_false c0
            by_cases c1 : 250 < x.f2.size
            · have d1 : decide ((250 : Int) < (x.f2.size : Int)) = true := decide_eq_true (by omega)
              have e1 : decide (250 < x.f2.size) = true := decide_eq_true c1
              have HR := Aside0.mk (show lightRp r = false by
                have h := HOF.out (by unfold okCh; rw [decide_eq_false (show ¬ x.f2.size ≤ 250 by omega)]; simp)
                simp [lightRp, h])
              clear c0 c1
              go_wp2
              go_ret
              rw [HR.out]
              exact ⟨rfl, hgx ▸ below_step HBw.out HB1.out⟩
            · have d1 : decide ((250 : Int) < (x.f2.size : Int)) = false := decide_eq_false (by omega)
              have e1 : decide (250 < x.f2.size) = false := decide_eq_false c1
              by_cases c2 : 250 < x.f4.size
              · have d2 : decide ((250 : Int) < (x.f4.size : Int)) = true := decide_eq_true (by omega)
                have e2 : decide (250 < x.f4.size) = true := decide_eq_true c2
                have HR := Aside0.mk (show lightRp r = false by
                  have h := HOF.out (by unfold okCh; rw [decide_eq_false (show ¬ x.f4.size ≤ 250 by omega)]; simp)
                  simp [lightRp, h])
                clear c0 c1 c2
                go_wp2
                go_ret
                rw [HR.out]
                exact ⟨rfl, hgx ▸ below_step HBw.out HB1.out⟩
              · have d2 : decide ((250 : Int) < (x.f4.size : Int)) = false := decide_eq_false (by omega)
                have e2 : decide (250 < x.f4.size) = false := decide_eq_false c2
                have HTN := Aside0.mk (HON.out (by unfold okCh; rw [decide_eq_true (show x.f0.size ≤ 60 by omega), decide_eq_true (show x.f2.size ≤ 250 by omega), decide_eq_true (show x.f4.size ≤ 250 by omega)]; rfl))
                clear c0 c1 c2
                go_wp2
                go_roundg (r.chs.length - i1)
                case measure => have := HI.out; have := HI1.out; omega
                case rel =>
                  refine ⟨i1, ?_, ⟨?_⟩, ⟨?_⟩, HB1⟩
                  · first | rfl | (rw [HWI.out]; done) | simp
                  · exact ⟨HI1.out.2, rfl⟩
                  · rw [HI1.out.1]; exact HTN.out
        · have hI : i = r.chs.length := by have := HI.out; omega
          have hlt' : ¬ (i : Int) < (r.chs.length : Int) := by omega
          have ht := HT.out
          rw [hI, List.take_length] at ht
          have HCB := Aside0.mk ht
          have HXv := Aside0.mk (blk_below HXw.out HB2.out)
          have HL0 := Aside0.mk (below_step HBw.out HB2.out)
          clear ht hI hlt HT
          go_upto_region 13 with (fail)
          clear hlt'
          generalize wr = w6 at HXv HL0 HB2 ⊢
          obtain ⟨x0, x1, x2, x3, x4, x5, x6, x7, x8, x9⟩ := ten_cells HXv.out
          have di0 : decide ((r.val.size : Int) ≤ 250) = decide (r.val.size ≤ 250) := decide_eq_decide.2 ⟨fun h => by omega, fun h => by omega⟩
          have di1 : decide ((r.coms.length : Int) ≤ 20) = decide (r.coms.length ≤ 20) := decide_eq_decide.2 ⟨fun h => by omega, fun h => by omega⟩
          have di2 : decide ((r.chs.length : Int) ≤ 30) = decide (r.chs.length ≤ 30) := decide_eq_decide.2 ⟨fun h => by omega, fun h => by omega⟩
          rcases chain6 (decide (r.val.size ≤ 250)) (decide (r.coms.length ≤ 20)) (decide (r.chs.length ≤ 30)) (lightEntry r.es) (lightClash r.cls) (lightRef r.refs) with c1 | ⟨c1, c2⟩ | ⟨c1, c2, c3⟩ | ⟨c1, c2, c3, c4⟩ | ⟨c1, c2, c3, c4, c5⟩ | ⟨c1, c2, c3, c4, c5, c6⟩ | ⟨c1, c2, c3, c4, c5, c6⟩
          · have HR := Aside0.mk (show lightRp r = false by simp [lightRp, HCA.out, HCB.out, c1])
            rw [c1] at di0
            clear di1
            clear di2
            go_wp2
            go_ret
            rw [HR.out]
            exact ⟨by first | rfl | simp, hgx ▸ HL0.out⟩
          · have HR := Aside0.mk (show lightRp r = false by simp [lightRp, HCA.out, HCB.out, c1, c2])
            rw [c1] at di0
            rw [c2] at di1
            clear di2
            go_wp2
            go_ret
            rw [HR.out]
            exact ⟨by first | rfl | simp, hgx ▸ HL0.out⟩
          · have HR := Aside0.mk (show lightRp r = false by simp [lightRp, HCA.out, HCB.out, c1, c2, c3])
            rw [c1] at di0
            rw [c2] at di1
            rw [c3] at di2
            go_wp2
            go_ret
            rw [HR.out]
            exact ⟨by first | rfl | simp, hgx ▸ HL0.out⟩
          · have HR := Aside0.mk (show lightRp r = false by simp [lightRp, HCA.out, HCB.out, c1, c2, c3, c4])
            rw [c1] at di0
            rw [c2] at di1
            rw [c3] at di2
            have HE0 := Aside0.mk c4
            clear c4
            go_wp2_with (first | (go_at_call 16; refine (lightEntry_calls A1 n1 r.es _ (HC.out.below HL0.out).c1 HC.out.m1).mono ?_; rw [HE0.out]; rintro e wl1 ⟨rfl, hb⟩; have HL1 := Aside0.mk (below_step HL0.out hb); have HV1 := Aside0.mk (blk_below HXv.out hb); obtain ⟨z0_0, z0_1, z0_2, z0_3, z0_4, z0_5, z0_6, z0_7, z0_8, z0_9⟩ := ten_cells HV1.out; clear hb))
            go_ret
            rw [HR.out]
            exact ⟨by first | rfl | simp, hgx ▸ HL1.out⟩
          · have HR := Aside0.mk (show lightRp r = false by simp [lightRp, HCA.out, HCB.out, c1, c2, c3, c4, c5])
            rw [c1] at di0
            rw [c2] at di1
            rw [c3] at di2
            have HE0 := Aside0.mk c4
            have HE1 := Aside0.mk c5
            clear c4 c5
            go_wp2_with (first | (go_at_call 16; refine (lightEntry_calls A1 n1 r.es _ (HC.out.below HL0.out).c1 HC.out.m1).mono ?_; rw [HE0.out]; rintro e wl1 ⟨rfl, hb⟩; have HL1 := Aside0.mk (below_step HL0.out hb); have HV1 := Aside0.mk (blk_below HXv.out hb); obtain ⟨z0_0, z0_1, z0_2, z0_3, z0_4, z0_5, z0_6, z0_7, z0_8, z0_9⟩ := ten_cells HV1.out; clear hb) | (go_at_call 17; refine (lightClash_calls A3 n3 r.cls _ (HC.out.below HL1.out).c3 HC.out.m3).mono ?_; rw [HE1.out]; rintro e wl2 ⟨rfl, hb⟩; have HL2 := Aside0.mk (below_step HL1.out hb); have HV2 := Aside0.mk (blk_below HV1.out hb); obtain ⟨z1_0, z1_1, z1_2, z1_3, z1_4, z1_5, z1_6, z1_7, z1_8, z1_9⟩ := ten_cells HV2.out; clear hb))
            go_ret
            rw [HR.out]
            exact ⟨by first | rfl | simp, hgx ▸ HL2.out⟩
          · have HR := Aside0.mk (show lightRp r = false by simp [lightRp, HCA.out, HCB.out, c1, c2, c3, c4, c5, c6])
            rw [c1] at di0
            rw [c2] at di1
            rw [c3] at di2
            have HE0 := Aside0.mk c4
            have HE1 := Aside0.mk c5
            have HE2 := Aside0.mk c6
            clear c4 c5 c6
            go_wp2_with (first | (go_at_call 16; refine (lightEntry_calls A1 n1 r.es _ (HC.out.below HL0.out).c1 HC.out.m1).mono ?_; rw [HE0.out]; rintro e wl1 ⟨rfl, hb⟩; have HL1 := Aside0.mk (below_step HL0.out hb); have HV1 := Aside0.mk (blk_below HXv.out hb); obtain ⟨z0_0, z0_1, z0_2, z0_3, z0_4, z0_5, z0_6, z0_7, z0_8, z0_9⟩ := ten_cells HV1.out; clear hb) | (go_at_call 17; refine (lightClash_calls A3 n3 r.cls _ (HC.out.below HL1.out).c3 HC.out.m3).mono ?_; rw [HE1.out]; rintro e wl2 ⟨rfl, hb⟩; have HL2 := Aside0.mk (below_step HL1.out hb); have HV2 := Aside0.mk (blk_below HV1.out hb); obtain ⟨z1_0, z1_1, z1_2, z1_3, z1_4, z1_5, z1_6, z1_7, z1_8, z1_9⟩ := ten_cells HV2.out; clear hb) | (go_at_call 18; refine (lightRef_calls A5 n5 r.refs _ (HC.out.below HL2.out).c5 HC.out.m5).mono ?_; rw [HE2.out]; rintro e wl3 ⟨rfl, hb⟩; have HL3 := Aside0.mk (below_step HL2.out hb); have HV3 := Aside0.mk (blk_below HV2.out hb); obtain ⟨z2_0, z2_1, z2_2, z2_3, z2_4, z2_5, z2_6, z2_7, z2_8, z2_9⟩ := ten_cells HV3.out; clear hb))
            go_ret
            rw [HR.out]
            exact ⟨by first | rfl | simp, hgx ▸ HL3.out⟩
          · have HR := Aside0.mk (show lightRp r = true by simp [lightRp, HCA.out, HCB.out, c1, c2, c3, c4, c5, c6])
            rw [c1] at di0
            rw [c2] at di1
            rw [c3] at di2
            have HE0 := Aside0.mk c4
            have HE1 := Aside0.mk c5
            have HE2 := Aside0.mk c6
            clear c4 c5 c6
            go_wp2_with (first | (go_at_call 16; refine (lightEntry_calls A1 n1 r.es _ (HC.out.below HL0.out).c1 HC.out.m1).mono ?_; rw [HE0.out]; rintro e wl1 ⟨rfl, hb⟩; have HL1 := Aside0.mk (below_step HL0.out hb); have HV1 := Aside0.mk (blk_below HXv.out hb); obtain ⟨z0_0, z0_1, z0_2, z0_3, z0_4, z0_5, z0_6, z0_7, z0_8, z0_9⟩ := ten_cells HV1.out; clear hb) | (go_at_call 17; refine (lightClash_calls A3 n3 r.cls _ (HC.out.below HL1.out).c3 HC.out.m3).mono ?_; rw [HE1.out]; rintro e wl2 ⟨rfl, hb⟩; have HL2 := Aside0.mk (below_step HL1.out hb); have HV2 := Aside0.mk (blk_below HV1.out hb); obtain ⟨z1_0, z1_1, z1_2, z1_3, z1_4, z1_5, z1_6, z1_7, z1_8, z1_9⟩ := ten_cells HV2.out; clear hb) | (go_at_call 18; refine (lightRef_calls A5 n5 r.refs _ (HC.out.below HL2.out).c5 HC.out.m5).mono ?_; rw [HE2.out]; rintro e wl3 ⟨rfl, hb⟩; have HL3 := Aside0.mk (below_step HL2.out hb); have HV3 := Aside0.mk (blk_below HV2.out hb); obtain ⟨z2_0, z2_1, z2_2, z2_3, z2_4, z2_5, z2_6, z2_7, z2_8, z2_9⟩ := ten_cells HV3.out; clear hb))
            go_ret
            rw [HR.out]
            exact ⟨by first | rfl | simp, hgx ▸ HL3.out⟩
def rA : Rp := ⟨0, false, ⟨#[97]⟩, 7, 0, [], [], [], [], []⟩
def zeroRp : Rp := ⟨0, false, ⟨#[]⟩, 0, 0, [], [], [], [], []⟩
theorem rA_len : (encRp rA).length = 11 := by kernel_rfl
theorem rA_self : sameRp rA rA = true := by simp [sameRp, plainRp, listsRp, oneL_self]
theorem rA_zero : sameRp rA zeroRp = false := by simp [sameRp, plainRp, rA, zeroRp]
theorem rA_in : RpIn rA := ⟨by decide, by decide, by decide, fun c hc => by simp [rA] at hc, fun c hc => by simp [rA] at hc⟩
theorem rA_C (w : World) : RpC w rA none 0 none 0 none 0 none 0 none 0 := ⟨Kd.C_nil _ _, Nat.le_refl _, Kd.C_nil _ _, Nat.le_refl _, Kd.C_nil _ _, Nat.le_refl _, Kd.C_nil _ _, Nat.le_refl _, Kd.C_nil _ _, Nat.le_refl _⟩
theorem zero_C (w : World) : RpC w zeroRp none 0 none 0 none 0 none 0 none 0 := ⟨Kd.C_nil _ _, Nat.le_refl _, Kd.C_nil _ _, Nat.le_refl _, Kd.C_nil _ _, Nat.le_refl _, Kd.C_nil _ _, Nat.le_refl _, Kd.C_nil _ _, Nat.le_refl _⟩
theorem rA_put (w : World) : Calls Try.prog 13 #[.agg #[.int .i64 0, .bool false, .string ⟨#[97]⟩, .int .u64 7, .int .i64 0, .slice none 0 0, .slice none 0 0, .slice none 0 0, .slice none 0 0, .slice none 0 0]] w fun e w' => ∃ A c, e = .returned (.slice A 11 c) ∧ Below w.heap.size w w' :=
  (put20_calls rA none 0 none 0 none 0 none 0 none 0 w (rA_C w) rA_in (by rw [rA_len]; decide)).mono fun e w' ⟨v, he, hr, hb⟩ => by
    obtain ⟨A, c, hv, _, _⟩ := Kd.R_reads hr
    rw [rA_len] at hv
    exact ⟨A, c, by rw [he, hv], hb⟩
theorem rA_same (w : World) : Calls Try.prog 8 #[.agg #[.int .i64 0, .bool false, .string ⟨#[97]⟩, .int .u64 7, .int .i64 0, .slice none 0 0, .slice none 0 0, .slice none 0 0, .slice none 0 0, .slice none 0 0], .agg #[.int .i64 0, .bool false, .string ⟨#[97]⟩, .int .u64 7, .int .i64 0, .slice none 0 0, .slice none 0 0, .slice none 0 0, .slice none 0 0, .slice none 0 0]] w fun e w' => e = .returned (.bool true) ∧ Below w.heap.size w w' := by
  have h := same20_calls rA rA none 0 none 0 none 0 none 0 none 0 none 0 none 0 none 0 none 0 none 0 w (rA_C w) (rA_C w)
  rw [rA_self] at h
  exact h
theorem rA_other (w : World) : Calls Try.prog 8 #[.agg #[.int .i64 0, .bool false, .string ⟨#[97]⟩, .int .u64 7, .int .i64 0, .slice none 0 0, .slice none 0 0, .slice none 0 0, .slice none 0 0, .slice none 0 0], .agg zeroRpC] w fun e w' => e = .returned (.bool false) ∧ Below w.heap.size w w' := by
  have h := same20_calls rA zeroRp none 0 none 0 none 0 none 0 none 0 none 0 none 0 none 0 none 0 none 0 w (rA_C w) (zero_C w)
  rw [rA_zero] at h
  exact h
set_option maxHeartbeats 16000000 in
set_option maxRecDepth 100000 in
theorem awake20_calls (W : World) : Calls Try.prog 6 #[] W fun e W1 => e = .returned (.bool true) ∧ Below W.heap.size W W1 := by
  have huR := Try.underlying30
  have HX0 := Aside0.mk (blk_new W (.cells #[.int .i64 0, .bool false, .string ⟨#[97]⟩, .int .u64 7, .int .i64 0, .slice none 0 0, .slice none 0 0, .slice none 0 0, .slice none 0 0, .slice none 0 0] 30))
  have HB0 := Aside0.mk (below_alloc (Below.refl W.heap.size W) (.cells #[.int .i64 0, .bool false, .string ⟨#[97]⟩, .int .u64 7, .int .i64 0, .slice none 0 0, .slice none 0 0, .slice none 0 0, .slice none 0 0, .slice none 0 0] 30))
  go_enter Try.func6, Try.ntmps6
  go_upto_region 2 with (fail)
  generalize W.alloc (.cells #[.int .i64 0, .bool false, .string ⟨#[97]⟩, .int .u64 7, .int .i64 0, .slice none 0 0, .slice none 0 0, .slice none 0 0, .slice none 0 0, .slice none 0 0] 30) = w0 at HX0 HB0 ⊢
  generalize hgx : W.heap.size = gx at HX0 ⊢
  obtain ⟨x0, x1, x2, x3, x4, x5, x6, x7, x8, x9⟩ := ten_cells HX0.out
  go_wp2_with (first | (go_at_call 13; refine (rA_put _).mono ?_; rintro e w3 ⟨A, c, rfl, hb⟩; have HB3 := Aside0.mk (below_step HB2.out hb); clear hb) | (go_at_call 8; have hq := HB1.out; clear hq; refine (rA_other _).mono ?_; rintro e w2 ⟨rfl, hb⟩; have HB2 := Aside0.mk (below_step HB1.out hb); have HX2 := Aside0.mk (blk_below HX1.out hb); obtain ⟨z0, z1, z2, z3, z4, z5, z6, z7, z8, z9⟩ := ten_cells HX2.out; clear hb) | (go_at_call 8; refine (rA_same _).mono ?_; rintro e w1 ⟨rfl, hb⟩; have HB1 := Aside0.mk (below_step HB0.out hb); have HX1 := Aside0.mk (blk_below HX0.out hb); obtain ⟨y0, y1, y2, y3, y4, y5, y6, y7, y8, y9⟩ := ten_cells HX1.out; clear hb))
  go_ret
  exact ⟨by first | rfl | simp, hgx ▸ HB3.out⟩
end Go.Proofs.Ytcegkljkmnpkaaa.Sep
namespace Go.Proofs.Ytcegkljkmnpkaaa.Sep
set_option linter.unusedSimpArgs false
set_option linter.unusedVariables false
open Go.ChangeShapes Go.WideShapes Go.ChangeAt
open Go.RowKit Go.Proofs.Ytcegkljkmnpkaaa.PCore Go.Proofs.Ytcegkljkmnpkaaa.Plain Go.Proofs.YtcegkljkmnpkaaaW.PrintWords Go.Proofs.YtcegkljkmnpkaaaW.PrintLast Go.Proofs.YtcegkljkmnpkaaaW.PrintMore
open Go.Proofs.Ytcegkljkmnpkaaa.PDat (S53 S47 S57 S59 S62 k53 k47 k57 k59 k62)
/-- What holds of a commit. -/
def okC (x : Com) : Prop := (Lit.int .u64 x.id).wf = true ∧ (x.ps.length ≤ maxLen ∧ ∀ p ∈ x.ps, (Lit.int .u64 p).wf = true) ∧ (Lit.int .u64 x.gen).wf = true ∧ (Lit.int .u64 x.root).wf = true ∧ x.text.size ≤ maxLen
theorem openC {H : Type} {enc : TypeId × Value → H} {W : World} {base : Nat} {spare : Nat → Bool} {held : Bool} : Opens enc Try.prog W base spare held 44 kC okC :=
  ⟨by kernel_rfl, fun fuel cs x h => by
    obtain ⟨xs, n, -, -, hl, hx, hf⟩ := DataW.trod_struct Try.underlying44 h
    have hxs : xs.length = 5 := hx
    have hlen : cs.length = kC.sz := hl.trans (by kernel_rfl)
    obtain ⟨v0, K0, o0⟩ := field_at (o := 0) (d := Kd.int .u64) (Opens.int (by kernel_rfl) Try.underlying23) (i := 0) (by omega) (hf 0 _ rfl)
    obtain ⟨v1, K1, o1⟩ := field_at (o := 1) (d := Kd.slice 23 (Kd.int .u64)) (Opens.slice (by kernel_rfl) Try.underlying42 (Opens.int (by kernel_rfl) Try.underlying23)) (i := 1) (by omega) (hf 1 _ rfl)
    obtain ⟨v2, K2, o2⟩ := field_at (o := 2) (d := Kd.int .u64) (Opens.int (by kernel_rfl) Try.underlying23) (i := 2) (by omega) (hf 2 _ rfl)
    obtain ⟨v3, K3, o3⟩ := field_at (o := 3) (d := Kd.int .u64) (Opens.int (by kernel_rfl) Try.underlying23) (i := 3) (by omega) (hf 3 _ rfl)
    obtain ⟨v4, K4, o4⟩ := field_at (o := 4) (d := Kd.string) (Opens.string (by kernel_rfl) Try.underlying9) (i := 4) (by omega) (hf 4 _ rfl)
    exact ⟨⟨v0, v1, v2, v3, v4⟩, (pair_at (o := 0) K0 (pair_at (o := 1) K1 (pair_at (o := 2) K2 (pair_at (o := 3) K3 (last_at (o := 4) K4 hlen))))), o0, o1, o2, o3, o4⟩⟩
def kRp : Kd Rp := Kd.iso (Kd.pair (Kd.int .i64) (Kd.pair Kd.bool (Kd.pair Kd.string (Kd.pair (Kd.int .u64) (Kd.pair (Kd.int .i64) (Kd.pair (Kd.slice 53 k53) (Kd.pair (Kd.slice 47 k47) (Kd.pair (Kd.slice 59 k59) (Kd.pair (Kd.slice 44 kC) (Kd.slice 62 k62)))))))))) (fun x : Rp => (x.err, x.is, x.val, x.id, x.n, x.es, x.chs, x.cls, x.coms, x.refs))
/-- What holds of an answer that came in. -/
def okRp (x : Rp) : Prop := (Lit.int .i64 x.err).wf = true ∧ True ∧ x.val.size ≤ maxLen ∧ (Lit.int .u64 x.id).wf = true ∧ (Lit.int .i64 x.n).wf = true ∧ (x.es.length ≤ maxLen ∧ ∀ y ∈ x.es, ok53 y) ∧ (x.chs.length ≤ maxLen ∧ ∀ y ∈ x.chs, ok47 y) ∧ (x.cls.length ≤ maxLen ∧ ∀ y ∈ x.cls, ok59 y) ∧ (x.coms.length ≤ maxLen ∧ ∀ y ∈ x.coms, okC y) ∧ (x.refs.length ≤ maxLen ∧ ∀ y ∈ x.refs, ok62 y)
theorem openRp {H : Type} {enc : TypeId × Value → H} {W : World} {base : Nat} {spare : Nat → Bool} {held : Bool} : Opens enc Try.prog W base spare held 30 kRp okRp :=
  ⟨by kernel_rfl, fun fuel cs x h => by
    obtain ⟨xs, n, -, -, hl, hx, hf⟩ := DataW.trod_struct Try.underlying30 h
    have hxs : xs.length = 10 := hx
    have hlen : cs.length = kRp.sz := hl.trans (by kernel_rfl)
    obtain ⟨v0, K0, o0⟩ := field_at (o := 0) (d := (Kd.int .i64)) (Opens.int (by kernel_rfl) Try.underlying22) (i := 0) (by omega) (hf 0 _ rfl)
    obtain ⟨v1, K1, o1⟩ := field_at (o := 1) (d := Kd.bool) (Opens.bool (by kernel_rfl) Try.underlying4) (i := 1) (by omega) (hf 1 _ rfl)
    obtain ⟨v2, K2, o2⟩ := field_at (o := 2) (d := Kd.string) (Opens.string (by kernel_rfl) Try.underlying9) (i := 2) (by omega) (hf 2 _ rfl)
    obtain ⟨v3, K3, o3⟩ := field_at (o := 3) (d := (Kd.int .u64)) (Opens.int (by kernel_rfl) Try.underlying23) (i := 3) (by omega) (hf 3 _ rfl)
    obtain ⟨v4, K4, o4⟩ := field_at (o := 4) (d := (Kd.int .i64)) (Opens.int (by kernel_rfl) Try.underlying3) (i := 4) (by omega) (hf 4 _ rfl)
    obtain ⟨v5, K5, o5⟩ := field_at (o := 5) (d := (Kd.slice 53 k53)) (Opens.slice (by kernel_rfl) Try.underlying24 open53) (i := 5) (by omega) (hf 5 _ rfl)
    obtain ⟨v6, K6, o6⟩ := field_at (o := 6) (d := (Kd.slice 47 k47)) (Opens.slice (by kernel_rfl) Try.underlying25 open47) (i := 6) (by omega) (hf 6 _ rfl)
    obtain ⟨v7, K7, o7⟩ := field_at (o := 7) (d := (Kd.slice 59 k59)) (Opens.slice (by kernel_rfl) Try.underlying26 open59) (i := 7) (by omega) (hf 7 _ rfl)
    obtain ⟨v8, K8, o8⟩ := field_at (o := 8) (d := (Kd.slice 44 kC)) (Opens.slice (by kernel_rfl) Try.underlying27 openC) (i := 8) (by omega) (hf 8 _ rfl)
    obtain ⟨v9, K9, o9⟩ := field_at (o := 9) (d := (Kd.slice 62 k62)) (Opens.slice (by kernel_rfl) Try.underlying28 open62) (i := 9) (by omega) (hf 9 _ rfl)
    exact ⟨⟨v0, v1, v2, v3, v4, v5, v6, v7, v8, v9⟩, (pair_at (o := 0) K0 (pair_at (o := 1) K1 (pair_at (o := 2) K2 (pair_at (o := 3) K3 (pair_at (o := 4) K4 (pair_at (o := 5) K5 (pair_at (o := 6) K6 (pair_at (o := 7) K7 (pair_at (o := 8) K8 (last_at (o := 9) K9 hlen)))))))))), o0, o1, o2, o3, o4, o5, o6, o7, o8, o9⟩⟩
theorem kRp_open {W : World} {x : Rp} {cs : List Value} (h : kRp.K W x cs) : ∃ A1 n1 A2 n2 A3 n3 A4 n4 A5 n5, cs = (rpV x A1 n1 A2 n2 A3 n3 A4 n4 A5 n5).toList ∧ RpC W x A1 n1 A2 n2 A3 n3 A4 n4 A5 n5 := by
  obtain ⟨c0, d0, rfl, h0, c1, d1, rfl, h1, c2, d2, rfl, h2, c3, d3, rfl, h3, c4, d4, rfl, h4, c5, d5, rfl, ⟨A1, n1, h5, m1, C1⟩, c6, d6, rfl, ⟨A2, n2, h6, m2, C2⟩, c7, d7, rfl, ⟨A3, n3, h7, m3, C3⟩, c8, d8, rfl, ⟨A4, n4, h8, m4, C4⟩, ⟨A5, n5, h9, m5, C5⟩⟩ := h
  simp only at h5 h6 h7 h8 h9 m1 m2 m3 m4 m5 C1 C2 C3 C4 C5
  have e0 : c0 = [.int .i64 x.err] := h0
  have e1 : c1 = [.bool x.is] := h1
  have e2 : c2 = [.string x.val] := h2
  have e3 : c3 = [.int .u64 x.id] := h3
  have e4 : c4 = [.int .i64 x.n] := h4
  subst e0 e1 e2 e3 e4 h5 h6 h7 h8 h9
  exact ⟨A1, n1, A2, n2, A3, n3, A4, n4, A5, n5, rfl, C1, m1, C2, m2, C3, m3, C4, m4, C5, m5⟩
theorem i64_wf {n : Int} (h : (Lit.int .i64 n).wf = true) : I64 n := by
  simp [Lit.wf, IntKind.min, IntKind.max, IntKind.signed, IntKind.bits] at h
  unfold I64
  omega
theorem u64_wf {n : Int} (h : (Lit.int .u64 n).wf = true) : U64 n := by
  simp [Lit.wf, IntKind.min, IntKind.max, IntKind.signed, IntKind.bits] at h
  unfold U64
  omega
theorem okRp_in {x : Rp} (h : okRp x) : RpIn x :=
  ⟨u64_wf h.2.2.2.1, i64_wf h.2.2.2.2.1, i64_wf h.1, fun c hc => by
    have h2 := h.2.2.2.2.2.2.2.2.1.2 c hc
    exact ⟨u64_wf h2.1, fun p hp => u64_wf (h2.2.1.2 p hp), u64_wf h2.2.2.1, u64_wf h2.2.2.2.1⟩, fun r hr => u64_wf (h.2.2.2.2.2.2.2.2.2.2 r hr).2.2⟩
end Go.Proofs.Ytcegkljkmnpkaaa.Sep
