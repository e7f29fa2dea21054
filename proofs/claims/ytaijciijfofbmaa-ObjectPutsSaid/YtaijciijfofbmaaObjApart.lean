/- The walk of the law ObjectApart. Conditions: the bounds of the statement. -/
import Derived.Test.YtaijciijfofbmaaObjSame
import Derived.Deep.RegionWith
import Derived.BigQuiet
import Derived.Deep.RegionHeld3
namespace Go.Proofs.Ytaijciijfofbmaa.Sep
set_option linter.unusedSimpArgs false
open Go.RowKit Go.Proofs.Ytaijciijfofbmaa.PCore Go.Proofs.Ytaijciijfofbmaa.Plain Go.Proofs.YtaijciijfofbmaaW.PrintWords Go.Proofs.YtaijciijfofbmaaW.PrintLast Go.Proofs.YtaijciijfofbmaaW.PrintMore
/-- A commit's variable. -/
abbrev comCells (A : Option Addr) (n : Nat) (c : Com) : Array Value := #[.int .u64 c.id, .slice A c.ps.length n, .int .u64 c.gen, .int .u64 c.root, .string c.text]
/-- The world behind the two commits' variables. -/
abbrev box2 (W : World) (A : Option Addr) (n : Nat) (c : Com) (A' : Option Addr) (n' : Nat) (d : Com) : World := (W.alloc (.cells (comCells A n c) 25)).alloc (.cells (comCells A' n' d) 25)
theorem com_cells {w : World} {g : Nat} {A : Option Addr} {n : Nat} {c : Com} (h : w.heap[g]? = some (.cells (comCells A n c) 25 (0, 0))) :
    w.cell? ⟨g, 0, none⟩ = some (.int .u64 c.id) ∧ w.cell? ⟨g, 1, none⟩ = some (.slice A c.ps.length n) ∧ w.cell? ⟨g, 2, none⟩ = some (.int .u64 c.gen) ∧ w.cell? ⟨g, 3, none⟩ = some (.int .u64 c.root) ∧ w.cell? ⟨g, 4, none⟩ = some (.string c.text) :=
  ⟨(blk_cell h 0).trans rfl, (blk_cell h 1).trans rfl, (blk_cell h 2).trans rfl, (blk_cell h 3).trans rfl, (blk_cell h 4).trans rfl⟩
theorem blk_second (W : World) (o o' : Obj) : ((W.alloc o).alloc o').heap[W.heap.size + 1]? = some o' := by
  rw [size_one W o]
  exact blk_new _ _
theorem box2_cells {W w : World} {A : Option Addr} {n : Nat} {c : Com} {A' : Option Addr} {n' : Nat} {d : Com} (h : Below (box2 W A n c A' n' d).heap.size (box2 W A n c A' n' d) w) :
    (w.cell? ⟨W.heap.size, 0, none⟩ = some (.int .u64 c.id) ∧ w.cell? ⟨W.heap.size, 1, none⟩ = some (.slice A c.ps.length n) ∧ w.cell? ⟨W.heap.size, 2, none⟩ = some (.int .u64 c.gen) ∧ w.cell? ⟨W.heap.size, 3, none⟩ = some (.int .u64 c.root) ∧ w.cell? ⟨W.heap.size, 4, none⟩ = some (.string c.text)) ∧
    w.cell? ⟨W.heap.size + 1, 0, none⟩ = some (.int .u64 d.id) ∧ w.cell? ⟨W.heap.size + 1, 1, none⟩ = some (.slice A' d.ps.length n') ∧ w.cell? ⟨W.heap.size + 1, 2, none⟩ = some (.int .u64 d.gen) ∧ w.cell? ⟨W.heap.size + 1, 3, none⟩ = some (.int .u64 d.root) ∧ w.cell? ⟨W.heap.size + 1, 4, none⟩ = some (.string d.text) :=
  ⟨com_cells ((Fr.of_below (B := 0) (T := []) h).blk (blk_alloc (blk_new W _) _) (by simp)), com_cells ((Fr.of_below (B := 0) (T := []) h).blk (blk_second W _ _) (by simp))⟩
theorem below_box2 {W : World} {A : Option Addr} {n : Nat} {c : Com} {A' : Option Addr} {n' : Nat} {d : Com} : Below W.heap.size W (box2 W A n c A' n' d) := below_alloc (below_alloc (Below.refl _ _) _) _
set_option maxHeartbeats 16000000 in
set_option maxRecDepth 100000 in
theorem objectApart_walk (A0 : Option Addr) (n0 : Nat) (c : Com) (A1 : Option Addr) (n1 : Nat) (d : Com) (W : World)
    (hC0 : Kd.C (Kd.int .u64) W A0 c.ps.length c.ps) (hn0 : c.ps.length ≤ n0) (hw0 : okC c) (hC1 : Kd.C (Kd.int .u64) W A1 d.ps.length d.ps) (hn1 : d.ps.length ≤ n1) (hw1 : okC d) :
    Calls Try.prog 3 #[.agg #[.int .u64 c.id, .slice A0 c.ps.length n0, .int .u64 c.gen, .int .u64 c.root, .string c.text], .agg #[.int .u64 d.id, .slice A1 d.ps.length n1, .int .u64 d.gen, .int .u64 d.root, .string d.text]] W fun e W1 => e = .returned (.bool true) ∧ Below W.heap.size W W1 := by
  have HA := Aside0.mk (fun w => awake14_calls w)
  have HL0 := Aside0.mk (fun w (hb : Below W.heap.size W w) => light_calls A0 n0 c w (Kd.C_below hC0 hb) hn0)
  have HL1 := Aside0.mk (fun w (hb : Below W.heap.size W w) => light_calls A1 n1 d w (Kd.C_below hC1 hb) hn1)
  have HP0 := Aside0.mk (fun w (hb : Below W.heap.size W w) => putB A0 n0 c w (Kd.C_below hC0 hb) hn0 hw0.2.1.1 (okC_in hw0))
  have HP1 := Aside0.mk (fun w (hb : Below W.heap.size W w) => putB A1 n1 d w (Kd.C_below hC1 hb) hn1 hw1.2.1.1 (okC_in hw1))
  have HR0 := Aside0.mk (fun w (hb : Below W.heap.size W w) => rightB A0 n0 c w (Kd.C_below hC0 hb) hw0.2.1.1 (okC_in hw0))
  have HI0 := Aside0.mk (okC_in hw0)
  have HI1 := Aside0.mk (okC_in hw1)
  have huF := Try.underlying25
  have HSA := Aside0.mk (fun w (hb : Below W.heap.size W w) (hl : c.ps.length ≤ 140737488355328) => sameC_calls A0 n0 c A1 n1 d w (Kd.C_below hC0 hb) hn0 (Kd.C_below hC1 hb) hn1 hl)
  clear hC0 hn0 hw0 hC1 hn1 hw1
  cases hf : lightB c with
  | false =>
    go_enter Try.func3, Try.ntmps3
    go_wp2_with (first | (go_at_call 6; refine (HA.out _).mono ?_; rintro e w1 ⟨rfl, hb⟩; have HB1 := Aside0.mk (show Below (box2 W A0 n0 c A1 n1 d).heap.size (box2 W A0 n0 c A1 n1 d) w1 from hb); obtain ⟨⟨a10, a11, a12, a13, a14⟩, b10, b11, b12, b13, b14⟩ := box2_cells HB1.out; clear hb) | (go_at_call 7; refine (HL0.out _ (below_step below_box2 HB1.out)).mono ?_; rw [hf]; rintro e w2 ⟨rfl, hb⟩; have HB2 := Aside0.mk (below_step HB1.out hb); clear hb))
    go_ret
    exact ⟨rfl, below_step below_box2 HB2.out⟩
  | true =>
    cases hg : lightB d with
    | false =>
      go_enter Try.func3, Try.ntmps3
      go_wp2_with (first | (go_at_call 6; refine (HA.out _).mono ?_; rintro e w1 ⟨rfl, hb⟩; have HB1 := Aside0.mk (show Below (box2 W A0 n0 c A1 n1 d).heap.size (box2 W A0 n0 c A1 n1 d) w1 from hb); obtain ⟨⟨a10, a11, a12, a13, a14⟩, b10, b11, b12, b13, b14⟩ := box2_cells HB1.out; clear hb) | (go_at_call 7; have hq := HB2.out; clear hq; refine (HL1.out _ (below_step below_box2 HB2.out)).mono ?_; rw [hg]; rintro e w3 ⟨rfl, hb⟩; have HB3 := Aside0.mk (below_step HB2.out hb); obtain ⟨⟨a30, a31, a32, a33, a34⟩, b30, b31, b32, b33, b34⟩ := box2_cells HB3.out; clear hb) | (go_at_call 7; refine (HL0.out _ (below_step below_box2 HB1.out)).mono ?_; rw [hf]; rintro e w2 ⟨rfl, hb⟩; have HB2 := Aside0.mk (below_step HB1.out hb); obtain ⟨⟨a20, a21, a22, a23, a24⟩, b20, b21, b22, b23, b24⟩ := box2_cells HB2.out; clear hb))
      go_ret
      exact ⟨rfl, below_step below_box2 HB3.out⟩
    | true =>
      have HCL := Aside0.mk (show c.ps.length ≤ 5 by simp only [lightB, Bool.and_eq_true, decide_eq_true_eq] at hf; exact hf.1)
      by_cases he : c.err = 0
      · by_cases hd : d.err = 0
        · have HE := Aside0.mk he
          have HD := Aside0.mk hd
          have HEQ := Aside0.mk (enc_one HI0.out HI1.out he hd)
          have HPC := Aside0.mk (show c.put = c.enc by unfold Com.put; rw [if_pos he])
          have HPD := Aside0.mk (show d.put = d.enc by unfold Com.put; rw [if_pos hd])
          have hs : ((strOfNums c.put).toList == (strOfNums d.put).toList) = sameB c d := by
            rw [Bool.eq_iff_iff, sameB_iff, ← HEQ.out, beq_iff_eq, bytes_eq (put_in HI0.out) (put_in HI1.out), HPC.out, HPD.out]
          clear he hd
          cases hq : sameB c d with
          | true =>
            rw [hq] at hs
            go_enter Try.func3, Try.ntmps3
            go_wp2_with (first | (go_at_call 6; refine (HA.out _).mono ?_; rintro e w1 ⟨rfl, hb⟩; have HB1 := Aside0.mk (show Below (box2 W A0 n0 c A1 n1 d).heap.size (box2 W A0 n0 c A1 n1 d) w1 from hb); obtain ⟨⟨a10, a11, a12, a13, a14⟩, b10, b11, b12, b13, b14⟩ := box2_cells HB1.out; clear hb) | (go_at_call 7; have hq := HB2.out; clear hq; refine (HL1.out _ (below_step below_box2 HB2.out)).mono ?_; rw [hg]; rintro e w3 ⟨rfl, hb⟩; have HB3 := Aside0.mk (below_step HB2.out hb); obtain ⟨⟨a30, a31, a32, a33, a34⟩, b30, b31, b32, b33, b34⟩ := box2_cells HB3.out; clear hb) | (go_at_call 7; refine (HL0.out _ (below_step below_box2 HB1.out)).mono ?_; rw [hf]; rintro e w2 ⟨rfl, hb⟩; have HB2 := Aside0.mk (below_step HB1.out hb); obtain ⟨⟨a20, a21, a22, a23, a24⟩, b20, b21, b22, b23, b24⟩ := box2_cells HB2.out; clear hb) | (go_at_call 8; have hq := HB4.out; clear hq; refine (HP1.out _ (below_step below_box2 HB4.out)).mono ?_; rw [HD.out]; rintro e w5 ⟨B5, m5, rfl, hm5, hC5, hb⟩; have HC5 := Aside0.mk hC5; have HC45 := Aside0.mk (Kd.C_below HC4.out hb); have HB5 := Aside0.mk (below_step HB4.out hb); obtain ⟨⟨a50, a51, a52, a53, a54⟩, b50, b51, b52, b53, b54⟩ := box2_cells HB5.out; clear hb hC5 hm5) | (go_at_call 8; refine (HP0.out _ (below_step below_box2 HB3.out)).mono ?_; rw [HE.out]; rintro e w4 ⟨B4, m4, rfl, hm4, hC4, hb⟩; have HC4 := Aside0.mk hC4; have HB4 := Aside0.mk (below_step HB3.out hb); obtain ⟨⟨a40, a41, a42, a43, a44⟩, b40, b41, b42, b43, b44⟩ := box2_cells HB4.out; clear hb hC4 hm4))
            have HB5d := Aside0.mk (below_drew HB5.out)
            have HS4 := Aside0.mk (fun (w : World) (hb : Below w5.heap.size w5 w) => Kd.C_string (P := Try.prog) (A := B4) (c := m4) Try.underlying28 Try.underlying5 Try.underlying9 (Kd.C_below HC45.out hb))
            have HS5 := Aside0.mk (fun (w : World) (hb : Below w5.heap.size w5 w) => Kd.C_string (P := Try.prog) (A := B5) (c := m5) Try.underlying28 Try.underlying5 Try.underlying9 (Kd.C_below HC5.out hb))
            have t4d := HS4.out w5.drew (below_drew (Below.refl _ _))
            have t5d := HS5.out w5.drew (below_drew (Below.refl _ _))
            obtain ⟨⟨ad0, ad1, ad2, ad3, ad4⟩, bd0, bd1, bd2, bd3, bd4⟩ := box2_cells HB5d.out
            go_region_held3 (fun w' => w'.cell? ⟨W.heap.size, 0, none⟩ = some (.int .u64 c.id) ∧ w'.cell? ⟨W.heap.size, 1, none⟩ = some (.slice A0 c.ps.length n0) ∧ w'.cell? ⟨W.heap.size, 2, none⟩ = some (.int .u64 c.gen) ∧ w'.cell? ⟨W.heap.size, 3, none⟩ = some (.int .u64 c.root) ∧ w'.cell? ⟨W.heap.size, 4, none⟩ = some (.string c.text) ∧ w'.cell? ⟨W.heap.size + 1, 0, none⟩ = some (.int .u64 d.id) ∧ w'.cell? ⟨W.heap.size + 1, 1, none⟩ = some (.slice A1 d.ps.length n1) ∧ w'.cell? ⟨W.heap.size + 1, 2, none⟩ = some (.int .u64 d.gen) ∧ w'.cell? ⟨W.heap.size + 1, 3, none⟩ = some (.int .u64 d.root) ∧ w'.cell? ⟨W.heap.size + 1, 4, none⟩ = some (.string d.text) ∧ (convert 28 9 (.slice B4 c.put.length m4)).run Try.prog w' = .ok (.string (strOfNums c.put)) w' ∧ (convert 28 9 (.slice B5 d.put.length m5)).run Try.prog w' = .ok (.string (strOfNums d.put)) w') (first | exact ⟨ad0, ad1, ad2, ad3, ad4, bd0, bd1, bd2, bd3, bd4, t4d, t5d⟩ | exact ⟨a60, a61, a62, a63, a64, b60, b61, b62, b63, b64, t46, t56⟩ | go_keep) (first | (go_at_call 10; refine (HSA.out _ (below_step below_box2 HB5d.out) (by have := HCL.out; omega)).mono ?_; rw [hq]; rintro e w6 ⟨rfl, hb⟩; have HB6 := Aside0.mk (below_step HB5d.out hb); have HB56 := Aside0.mk (below_step (below_drew (Below.refl w5.heap.size w5)) hb); obtain ⟨⟨a60, a61, a62, a63, a64⟩, b60, b61, b62, b63, b64⟩ := box2_cells HB6.out; have t46 := HS4.out w6 HB56.out; have t56 := HS5.out w6 HB56.out; clear hb))
            all_goals (
              go_wp2
              go_ret
              exact ⟨rfl, below_step below_box2 HB6.out⟩)
          | false =>
            rw [hq] at hs
            go_enter Try.func3, Try.ntmps3
            go_wp2_with (first | (go_at_call 6; refine (HA.out _).mono ?_; rintro e w1 ⟨rfl, hb⟩; have HB1 := Aside0.mk (show Below (box2 W A0 n0 c A1 n1 d).heap.size (box2 W A0 n0 c A1 n1 d) w1 from hb); obtain ⟨⟨a10, a11, a12, a13, a14⟩, b10, b11, b12, b13, b14⟩ := box2_cells HB1.out; clear hb) | (go_at_call 7; have hq := HB2.out; clear hq; refine (HL1.out _ (below_step below_box2 HB2.out)).mono ?_; rw [hg]; rintro e w3 ⟨rfl, hb⟩; have HB3 := Aside0.mk (below_step HB2.out hb); obtain ⟨⟨a30, a31, a32, a33, a34⟩, b30, b31, b32, b33, b34⟩ := box2_cells HB3.out; clear hb) | (go_at_call 7; refine (HL0.out _ (below_step below_box2 HB1.out)).mono ?_; rw [hf]; rintro e w2 ⟨rfl, hb⟩; have HB2 := Aside0.mk (below_step HB1.out hb); obtain ⟨⟨a20, a21, a22, a23, a24⟩, b20, b21, b22, b23, b24⟩ := box2_cells HB2.out; clear hb) | (go_at_call 8; have hq := HB4.out; clear hq; refine (HP1.out _ (below_step below_box2 HB4.out)).mono ?_; rw [HD.out]; rintro e w5 ⟨B5, m5, rfl, hm5, hC5, hb⟩; have HC5 := Aside0.mk hC5; have HC45 := Aside0.mk (Kd.C_below HC4.out hb); have HB5 := Aside0.mk (below_step HB4.out hb); obtain ⟨⟨a50, a51, a52, a53, a54⟩, b50, b51, b52, b53, b54⟩ := box2_cells HB5.out; clear hb hC5 hm5) | (go_at_call 8; refine (HP0.out _ (below_step below_box2 HB3.out)).mono ?_; rw [HE.out]; rintro e w4 ⟨B4, m4, rfl, hm4, hC4, hb⟩; have HC4 := Aside0.mk hC4; have HB4 := Aside0.mk (below_step HB3.out hb); obtain ⟨⟨a40, a41, a42, a43, a44⟩, b40, b41, b42, b43, b44⟩ := box2_cells HB4.out; clear hb hC4 hm4))
            have HB5d := Aside0.mk (below_drew HB5.out)
            have HS4 := Aside0.mk (fun (w : World) (hb : Below w5.heap.size w5 w) => Kd.C_string (P := Try.prog) (A := B4) (c := m4) Try.underlying28 Try.underlying5 Try.underlying9 (Kd.C_below HC45.out hb))
            have HS5 := Aside0.mk (fun (w : World) (hb : Below w5.heap.size w5 w) => Kd.C_string (P := Try.prog) (A := B5) (c := m5) Try.underlying28 Try.underlying5 Try.underlying9 (Kd.C_below HC5.out hb))
            have t4d := HS4.out w5.drew (below_drew (Below.refl _ _))
            have t5d := HS5.out w5.drew (below_drew (Below.refl _ _))
            obtain ⟨⟨ad0, ad1, ad2, ad3, ad4⟩, bd0, bd1, bd2, bd3, bd4⟩ := box2_cells HB5d.out
            go_region_held3 (fun w' => w'.cell? ⟨W.heap.size, 0, none⟩ = some (.int .u64 c.id) ∧ w'.cell? ⟨W.heap.size, 1, none⟩ = some (.slice A0 c.ps.length n0) ∧ w'.cell? ⟨W.heap.size, 2, none⟩ = some (.int .u64 c.gen) ∧ w'.cell? ⟨W.heap.size, 3, none⟩ = some (.int .u64 c.root) ∧ w'.cell? ⟨W.heap.size, 4, none⟩ = some (.string c.text) ∧ w'.cell? ⟨W.heap.size + 1, 0, none⟩ = some (.int .u64 d.id) ∧ w'.cell? ⟨W.heap.size + 1, 1, none⟩ = some (.slice A1 d.ps.length n1) ∧ w'.cell? ⟨W.heap.size + 1, 2, none⟩ = some (.int .u64 d.gen) ∧ w'.cell? ⟨W.heap.size + 1, 3, none⟩ = some (.int .u64 d.root) ∧ w'.cell? ⟨W.heap.size + 1, 4, none⟩ = some (.string d.text) ∧ (convert 28 9 (.slice B4 c.put.length m4)).run Try.prog w' = .ok (.string (strOfNums c.put)) w' ∧ (convert 28 9 (.slice B5 d.put.length m5)).run Try.prog w' = .ok (.string (strOfNums d.put)) w') (first | exact ⟨ad0, ad1, ad2, ad3, ad4, bd0, bd1, bd2, bd3, bd4, t4d, t5d⟩ | exact ⟨a60, a61, a62, a63, a64, b60, b61, b62, b63, b64, t46, t56⟩ | go_keep) (first | (go_at_call 10; refine (HSA.out _ (below_step below_box2 HB5d.out) (by have := HCL.out; omega)).mono ?_; rw [hq]; rintro e w6 ⟨rfl, hb⟩; have HB6 := Aside0.mk (below_step HB5d.out hb); have HB56 := Aside0.mk (below_step (below_drew (Below.refl w5.heap.size w5)) hb); obtain ⟨⟨a60, a61, a62, a63, a64⟩, b60, b61, b62, b63, b64⟩ := box2_cells HB6.out; have t46 := HS4.out w6 HB56.out; have t56 := HS5.out w6 HB56.out; clear hb))
            all_goals (
              go_wp2
              go_ret
              exact ⟨rfl, below_step below_box2 HB6.out⟩)
        · have hd' : (d.err != 0) = true := bne_iff_ne.mpr hd
          have HE := Aside0.mk he
          clear he hd
          go_enter Try.func3, Try.ntmps3
          go_wp2_with (first | (go_at_call 6; refine (HA.out _).mono ?_; rintro e w1 ⟨rfl, hb⟩; have HB1 := Aside0.mk (show Below (box2 W A0 n0 c A1 n1 d).heap.size (box2 W A0 n0 c A1 n1 d) w1 from hb); obtain ⟨⟨a10, a11, a12, a13, a14⟩, b10, b11, b12, b13, b14⟩ := box2_cells HB1.out; clear hb) | (go_at_call 7; have hq := HB2.out; clear hq; refine (HL1.out _ (below_step below_box2 HB2.out)).mono ?_; rw [hg]; rintro e w3 ⟨rfl, hb⟩; have HB3 := Aside0.mk (below_step HB2.out hb); obtain ⟨⟨a30, a31, a32, a33, a34⟩, b30, b31, b32, b33, b34⟩ := box2_cells HB3.out; clear hb) | (go_at_call 7; refine (HL0.out _ (below_step below_box2 HB1.out)).mono ?_; rw [hf]; rintro e w2 ⟨rfl, hb⟩; have HB2 := Aside0.mk (below_step HB1.out hb); obtain ⟨⟨a20, a21, a22, a23, a24⟩, b20, b21, b22, b23, b24⟩ := box2_cells HB2.out; clear hb) | (go_at_call 8; have hq := HB4.out; clear hq; refine (HP1.out _ (below_step below_box2 HB4.out)).mono ?_; rintro e w5 ⟨B5, m5, rfl, hm5, hC5, hb⟩; have HC5 := Aside0.mk hC5; have HC45 := Aside0.mk (Kd.C_below HC4.out hb); have HB5 := Aside0.mk (below_step HB4.out hb); obtain ⟨⟨a50, a51, a52, a53, a54⟩, b50, b51, b52, b53, b54⟩ := box2_cells HB5.out; clear hb hC5 hm5) | (go_at_call 8; refine (HP0.out _ (below_step below_box2 HB3.out)).mono ?_; rw [HE.out]; rintro e w4 ⟨B4, m4, rfl, hm4, hC4, hb⟩; have HC4 := Aside0.mk hC4; have HB4 := Aside0.mk (below_step HB3.out hb); obtain ⟨⟨a40, a41, a42, a43, a44⟩, b40, b41, b42, b43, b44⟩ := box2_cells HB4.out; clear hb hC4 hm4) | (go_at_call 9; refine (HR0.out _ (below_step below_box2 HB5.out)).mono ?_; rw [HE.out]; rintro e w6 ⟨rfl, hb⟩; have HB6 := Aside0.mk (below_step HB5.out hb); clear hb))
          go_ret
          exact ⟨rfl, below_step below_box2 HB6.out⟩
      · have he' : (c.err != 0) = true := bne_iff_ne.mpr he
        clear he
        go_enter Try.func3, Try.ntmps3
        go_wp2_with (first | (go_at_call 6; refine (HA.out _).mono ?_; rintro e w1 ⟨rfl, hb⟩; have HB1 := Aside0.mk (show Below (box2 W A0 n0 c A1 n1 d).heap.size (box2 W A0 n0 c A1 n1 d) w1 from hb); obtain ⟨⟨a10, a11, a12, a13, a14⟩, b10, b11, b12, b13, b14⟩ := box2_cells HB1.out; clear hb) | (go_at_call 7; have hq := HB2.out; clear hq; refine (HL1.out _ (below_step below_box2 HB2.out)).mono ?_; rw [hg]; rintro e w3 ⟨rfl, hb⟩; have HB3 := Aside0.mk (below_step HB2.out hb); obtain ⟨⟨a30, a31, a32, a33, a34⟩, b30, b31, b32, b33, b34⟩ := box2_cells HB3.out; clear hb) | (go_at_call 7; refine (HL0.out _ (below_step below_box2 HB1.out)).mono ?_; rw [hf]; rintro e w2 ⟨rfl, hb⟩; have HB2 := Aside0.mk (below_step HB1.out hb); obtain ⟨⟨a20, a21, a22, a23, a24⟩, b20, b21, b22, b23, b24⟩ := box2_cells HB2.out; clear hb) | (go_at_call 8; have hq := HB4.out; clear hq; refine (HP1.out _ (below_step below_box2 HB4.out)).mono ?_; rintro e w5 ⟨B5, m5, rfl, hm5, hC5, hb⟩; have HC5 := Aside0.mk hC5; have HC45 := Aside0.mk (Kd.C_below HC4.out hb); have HB5 := Aside0.mk (below_step HB4.out hb); obtain ⟨⟨a50, a51, a52, a53, a54⟩, b50, b51, b52, b53, b54⟩ := box2_cells HB5.out; clear hb hC5 hm5) | (go_at_call 8; refine (HP0.out _ (below_step below_box2 HB3.out)).mono ?_; rintro e w4 ⟨B4, m4, rfl, hm4, hC4, hb⟩; have HC4 := Aside0.mk hC4; have HB4 := Aside0.mk (below_step HB3.out hb); obtain ⟨⟨a40, a41, a42, a43, a44⟩, b40, b41, b42, b43, b44⟩ := box2_cells HB4.out; clear hb hC4 hm4) | (go_at_call 9; refine (HR0.out _ (below_step below_box2 HB5.out)).mono ?_; rintro e w6 ⟨rfl, hb⟩; have HB6 := Aside0.mk (below_step HB5.out hb); clear hb))
        go_ret
        exact ⟨rfl, below_step below_box2 HB6.out⟩
end Go.Proofs.Ytaijciijfofbmaa.Sep
