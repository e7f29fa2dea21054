/- The walk of the reference's pattern. Printed by gen14.py. Conditions: the bounds of the statements. -/
import Derived.Test.YtbnlfiklkddolaaG13
namespace Go.Proofs.Ytbnlfiklkddolaa.Sep
set_option linter.unusedSimpArgs false
set_option linter.unusedVariables false
open Go.RowKit Go.Proofs.Ytbnlfiklkddolaa.PCore Go.Proofs.Ytbnlfiklkddolaa.Plain Go.Proofs.YtbnlfiklkddolaaW.PrintWords Go.Proofs.YtbnlfiklkddolaaW.PrintLast Go.Proofs.YtbnlfiklkddolaaW.PrintMore
theorem bytes_extract' (s : ByteArray) (i j : Nat) : bytesOf (s.extract i j) = ((bytesOf s).take j).drop i := by
  unfold bytesOf
  rw [ByteArray.data_extract]
  simp [List.drop_take]
theorem zeroR_info : (Try.prog.info? 58).map (fun i => (i.zero, i.size)) = some (some (.agg (cellsR zeroF false false 0)), 259) := by kernel_rfl
theorem zeroR (w : World) : (zeroValue 58).run Try.prog w = .ok (.agg (cellsR zeroF false false 0)) w := (zero_of_info zeroR_info).1 w
theorem sizeR : (Try.prog.info? 58).map (·.size) = some 259 := (zero_of_info zeroR_info).2
theorem cellsR_many {f : List Bool} {m sf : Bool} {c : Int} (hf : f.length = 256) (v : Bool) : (cellsR f m sf c).setIfInBounds 256 (.bool v) = cellsR f v sf c := by
  unfold cellsR
  rw [List.setIfInBounds_toArray, List.set_append_right _ _ (by rw [List.length_map]; omega), List.length_map, hf]
  rfl
theorem cellsR_self {f : List Bool} {m sf : Bool} {c : Int} (hf : f.length = 256) (v : Bool) : (cellsR f m sf c).setIfInBounds 257 (.bool v) = cellsR f m v c := by
  unfold cellsR
  rw [List.setIfInBounds_toArray, List.set_append_right _ _ (by rw [List.length_map]; omega), List.length_map, hf]
  rfl
theorem cellsR_c {f : List Bool} {m sf : Bool} {c : Int} (hf : f.length = 256) (v : Int) : (cellsR f m sf c).setIfInBounds 258 (.int .u8 v) = cellsR f m sf v := by
  unfold cellsR
  rw [List.setIfInBounds_toArray, List.set_append_right _ _ (by rw [List.length_map]; omega), List.length_map, hf]
  rfl
theorem cellsR_tail {f : List Bool} {m sf : Bool} {c : Int} (hf : f.length = 256) : (cellsR f m sf c)[256]? = some (.bool m) ∧ (cellsR f m sf c)[257]? = some (.bool sf) ∧ (cellsR f m sf c)[258]? = some (.int .u8 c) := by
  have h : ∀ j, (cellsR f m sf c)[256 + j]? = [Value.bool m, Value.bool sf, Value.int .u8 c][j]? := fun j => by
    rw [cellsR, List.getElem?_toArray, List.getElem?_append_right (by rw [List.length_map]; omega), List.length_map, hf, show 256 + j - 256 = j by omega]
  exact ⟨h 0, h 1, h 2⟩
/-- An element as the reference keeps it. -/
def rF : El → List Bool
  | .one c => zeroF.set c.toNat true
  | .any => setUp zeroF 0 256
  | .many => zeroF
  | .set f => f
def rS : El → Bool
  | .one _ => true
  | _ => false
abbrev cellsRE (x : El) : Array Value := cellsR (rF x) x.isMany (rS x) (elC x)
def kER : Kd El where
  sz := 259
  E := []
  K := fun _ x cs => (rF x).length = 256 ∧ cs = (cellsRE x).toList
  M := fun _ _ _ x cs => (rF x).length = 256 ∧ cs = (cellsRE x).toList
  K_len := fun h => by rw [h.2, Array.length_toList]; exact cellsR_size h.1
  K_one := fun h u hu => by rw [h.2] at hu; exact cellsR_one u hu
  K_below := fun _ h => h
  K_of_M := fun h => h
  M_mono := fun _ h => h
  M_bound := fun h => h
  M_move := fun _ h => h
  M_lower := fun _ h => h
/-- What pattern answers. -/
def PatAns (W : World) (s : ByteArray) (e : Ending) (W1 : World) : Prop :=
  Below W.heap.size W W1 ∧ (match pat (bytesOf s) with
    | none => e = .returned (.tuple #[.slice none 0 0, .bool false])
    | some l => ∃ A n, e = .returned (.tuple #[.slice A l.length n, .bool true]) ∧ Kd.C kER W1 A l.length l ∧ l.length ≤ s.size ∧ ∀ x ∈ l, (rF x).length = 256 ∧ 0 ≤ elC x ∧ elC x < 256)
set_option maxHeartbeats 32000000 in
set_option maxRecDepth 100000 in
theorem rpattern_calls (s : ByteArray) (W : World) (hs : s.size ≤ 1000) :
    Calls Try.prog 23 #[.string s] W fun e W1 => PatAns W s e W1 := by
  have HSZ := Aside0.mk hs
  clear hs
  have hz := zeroR
  have hsz0 : (cellsR zeroF false false 0).size = 259 := cellsR_size zeroF_length
  go_enter Try.func23, Try.ntmps23
  go_wp2
  go_loopg [4, 5] (s.size + 1) (fun kq v4 v5 w' => ∃ (q i : Nat) (xs : List El), v5 = .int .i64 (i : Int) ∧ Aside0 (kq = s.size + 1 - i ∧ i ≤ s.size ∧ s.size - i < q ∧ xs.length ≤ i) ∧ Aside0 (pat (bytesOf s) = (patL q ((bytesOf s).drop i)).map (xs ++ ·)) ∧ Aside0 (Kd.R kER 58 w' W.heap.size (fun _ => True) v4 xs) ∧ Aside0 (∀ x ∈ xs, (rF x).length = 256 ∧ 0 ≤ elC x ∧ elC x < 256) ∧ Aside0 (Below W.heap.size W w'))
  case atStart => exact ⟨(bytesOf s).length + 1, 0, [], rfl, ⟨by omega, by omega, by rw [bytesOf_length]; omega, Nat.zero_le _⟩, ⟨by simp [pat]⟩, ⟨Kd.R_nil _ _ _ _ _⟩, ⟨fun x hx => by simp at hx⟩, ⟨Below.refl _ _⟩⟩
  case round =>
    obtain ⟨q, i, xs, rfl, HQ, HE, HR, HO, HB⟩ := hrel
    obtain ⟨q, rfl⟩ : ∃ q', q = q' + 1 := ⟨q - 1, by have := HQ.out; omega⟩
    generalize wr = w0 at HR HB ⊢
    by_cases hlti : i < s.size
    · skip
      have hlI : (i : Int) < (s.size : Int) := by omega
      have e1 : decide ((i : Int) < (s.size : Int)) = true := decide_eq_true hlI
      have e2 : decide (i < s.size) = true := decide_eq_true hlti
      obtain ⟨d, hd⟩ : ∃ z, z = bt s (i : Int) := ⟨_, rfl⟩
      have hb : ∀ h : i < s.size, ((s[i]'h).toNat : Int) = d := fun h => by rw [hd]; exact bt_at s ((i : Nat) : Int) h
      have hby := bt_byte s i hlti
      rw [← hd] at hby
      have HBY := Aside0.mk hby
      have HDR := Aside0.mk (bytes_drop s i hlti)
      rw [← hd] at HDR
      have HD := Aside0.mk hd
      clear hby hd
      have HX1 := Aside0.mk (blk_new w0 (.cells (cellsR zeroF false false 0) 58))
      have HB1 := Aside0.mk (below_alloc (Below.refl w0.heap.size w0) (.cells (cellsR zeroF false false 0) 58))
      go_upto_region 13 with (fail)
      obtain ⟨gx, hgx⟩ : ∃ z, z = w0.heap.size := ⟨_, rfl⟩
      generalize w0.alloc (.cells (cellsR zeroF false false 0) 58) = w1 at HX1 HB1 ⊢
      rw [← hgx] at HX1 ⊢
      have HGX := Aside0.mk hgx.symm
      clear hgx
      by_cases h42 : d = 42
      · subst h42
        have z := blk_frozen HX1.out 256
        have c0 := (blk_cell HX1.out 256).trans (cellsR_tail zeroF_length).1
        have hx5 : (w1.setCell ⟨gx, 256, none⟩ (.bool true)).heap[gx]? = some (.cells (cellsRE .many) 58 (0, 0)) := by rw [blk_set HX1.out, cellsR_many zeroF_length]; rfl
        have HX5 := Aside0.mk hx5
        have HB5 := Aside0.mk (below_set (j := 256) (v := .bool true) HB1.out (Nat.le_of_eq HGX.out))
        clear hx5
        obtain ⟨nx, hnx⟩ : ∃ z, z = i + 1 := ⟨_, rfl⟩
        have HWN := Aside0.mk (show wrap64 ((i : Int) + 1) = (nx : Int) by have := HSZ.out; unfold wrap64; omega)
        have HNX := Aside0.mk (show i < nx ∧ nx ≤ s.size by omega)
        rw [← hnx] at HDR
        clear hnx hlti
        go_upto_region 28 with (fail)
        go_upto_region 28 with (fail)
        generalize w1.setCell ⟨gx, 256, none⟩ (.bool true) = w5 at HX5 HB5 ⊢
        clear z c0 hb hlI e1 e2
        have HFL := Aside0.mk (show (rF (.many)).length = 256 from zeroF_length)
        have HPA := Aside0.mk (show pat (bytesOf s) = (patL q ((bytesOf s).drop nx)).map ((xs ++ [(.many)]) ++ ·) by rw [HE.out, HDR.out, patL_step (show prt (42 :: (bytesOf s).drop nx) = some (.many, (bytesOf s).drop nx) by simp [prt]), Option.map_map]; congr 1; funext z; simp)
        have HR5 := Aside0.mk (Kd.R_below (Kd.R_mono (Kd.R_bound HR.out) (ok' := fun k => k ≠ gx) (fun k hk => by have := hk.2.2.1; rw [← HGX.out]; exact Nat.ne_of_lt this)) HB5.out)
        have HBW := Aside0.mk (below_step HB.out HB5.out)
        go_step
        go_step
        go_step
        go_step
        go_step
        refine wp_load_row 58 (.tmp 6) rfl gx rfl 58 (cellsRE (.many)) (0, 0) _ HX5.out Try.underlying58 rfl (by rw [cellsR_size (HFL.out)]; exact sizeR) ?_
        try simp only [Act.put, List.setIfInBounds_toArray, List.set_cons_zero, List.set_cons_succ]
        go_step
        go_step
        refine wp_build1 53 58 259 (.tmp 65) rfl _ (cellsRE (.many)) Try.underlying53 zeroR_info (by decide) rfl (cellsR_size (HFL.out)) ?_
        try simp only [Act.put, List.setIfInBounds_toArray, List.set_cons_zero, List.set_cons_succ]
        go_step
        refine Kd.R_append kER (w0 := W) W.heap.size rfl (.tmp 64) (.tmp 66) 53 58 (.agg (cellsR zeroF false false 0)) 259 rfl Try.underlying53 (by kernel_rfl) (cellsR_size zeroF_length) (by decide) (by decide) _ xs ((.many)) (cellsRE (.many)).toList (fun k => k ≠ gx) (fun _ => False) ?hs rfl ⟨HFL.out, rfl⟩ (fun _ hk => hk.elim) (fun k hk => by have := blk_lt HX5.out; omega) HR5.out HBW.out HBW.out.size (by have := HQ.out; have := HSZ.out; omega) ?_
        case hs => rfl
        intro v1 w9 ho hb hgr hat
        obtain ⟨Ax, nx', cx, hvx⟩ := R_slice' ho
        subst hvx
        have HR9 := Aside0.mk (Kd.R_mono ho (ok' := fun _ => True) (fun _ _ => trivial))
        have HB9 := Aside0.mk hb
        clear ho hb hgr hat
        have hwn := HWN.out
        go_wp2
        clear hwn
        go_roundg (s.size + 1 - nx)
        case measure => have := HQ.out; have := HNX.out; omega
        case rel =>
          refine ⟨q, nx, xs ++ [(.many)], ?_, ⟨?_⟩, ?_, ?_, ⟨?_⟩, ?_⟩
          · first | rfl | (rw [HWN.out]; done) | simp
          · exact ⟨rfl, by have := HNX.out; omega, by have := HQ.out; have := HNX.out; omega, by have := HQ.out; have := HNX.out; simp only [List.length_append, List.length_cons, List.length_nil]; omega⟩
          · exact HPA
          · exact HR9
          · intro x hx
            rcases List.mem_append.1 hx with h | h
            · exact HO.out x h
            · simp only [List.mem_cons, List.not_mem_nil, or_false] at h; subst h; exact ⟨HFL.out, by decide⟩
          · exact HB9
      · have b42 : (d == 42) = false := beq_eq_false_iff_ne.mpr h42
        by_cases h63 : d = 63
        · subst h63
          obtain ⟨nx, hnx⟩ : ∃ z, z = i + 1 := ⟨_, rfl⟩
          have HWN := Aside0.mk (show wrap64 ((i : Int) + 1) = (nx : Int) by have := HSZ.out; unfold wrap64; omega)
          have HNX := Aside0.mk (show i < nx ∧ nx ≤ s.size by omega)
          rw [← hnx] at HDR
          clear hnx hlti
          go_wp2
          go_loopg [43] 256 (fun kq v43 w' => ∃ j : Nat, v43 = .int .i64 (j : Int) ∧ Aside0 (j ≤ 256 ∧ kq = 256 - j) ∧ Aside0 (w'.heap[gx]? = some (.cells (cellsR (setUp zeroF 0 j) false false 0) 58 (0, 0))) ∧ Aside0 (Below w0.heap.size w0 w'))
          case atStart => exact ⟨0, rfl, ⟨by omega, by omega⟩, HX1, HB1⟩
          case round =>
            obtain ⟨j, rfl, HI, HXi, HBi⟩ := hrel
            by_cases hj : j < 256
            · have e1' : decide ((j : Int) < 256) = true := decide_eq_true (by omega)
              have e2' : decide (j < 256) = true := decide_eq_true hj
              have z := blk_frozen HXi.out j
              have c0 := cellsR_at HXi.out j (by rw [setUp_length, zeroF_length]; exact hj)
              have hxk := cellsR_put HXi.out j (by rw [setUp_length, zeroF_length]; exact hj) true
              rw [show (setUp zeroF 0 j).set j true = setUp zeroF 0 (j + 1) by rw [setUp, Nat.zero_add]] at hxk
              have HXk := Aside0.mk hxk
              have HBk := Aside0.mk (below_set (j := j) (v := .bool true) HBi.out (Nat.le_of_eq HGX.out))
              have hw1 : wrap64 ((j : Int) + 1) = ((j + 1 : Nat) : Int) := by unfold wrap64; omega
              have HJ2 := Aside0.mk hj
              clear hxk e1 e2 hb hlI
              go_wp2
              go_roundg (256 - (j + 1))
              case measure => have := HI.out; have := HJ2.out; omega
              case rel => exact ⟨j + 1, by first | rfl | simp | rw [hw1], ⟨by have := HJ2.out; omega, rfl⟩, HXk, HBk⟩
            · have e1' : decide ((j : Int) < 256) = false := decide_eq_false (by omega)
              have e2' : decide (j < 256) = false := decide_eq_false hj
              obtain rfl : j = 256 := by have := HI.out; omega
              have HX5 := Aside0.mk (show wr.heap[gx]? = some (.cells (cellsRE .any) 58 (0, 0)) from HXi.out)
              have HB5 := HBi
              clear hj e1 e2 hb hlI HXi HBi
              go_upto_region 28 with (fail)
              go_upto_region 28 with (fail)
              clear e1' e2'
              generalize wr = w5 at HX5 HB5 ⊢
              have HFL := Aside0.mk (show (rF (.any)).length = 256 from by rw [show rF .any = setUp zeroF 0 256 from rfl, setUp_length]; exact zeroF_length)
              have HPA := Aside0.mk (show pat (bytesOf s) = (patL q ((bytesOf s).drop nx)).map ((xs ++ [(.any)]) ++ ·) by rw [HE.out, HDR.out, patL_step (show prt (63 :: (bytesOf s).drop nx) = some (.any, (bytesOf s).drop nx) by simp [prt]), Option.map_map]; congr 1; funext z; simp)
              have HR5 := Aside0.mk (Kd.R_below (Kd.R_mono (Kd.R_bound HR.out) (ok' := fun k => k ≠ gx) (fun k hk => by have := hk.2.2.1; rw [← HGX.out]; exact Nat.ne_of_lt this)) HB5.out)
              have HBW := Aside0.mk (below_step HB.out HB5.out)
              go_step
              go_step
              go_step
              go_step
              go_step
              refine wp_load_row 58 (.tmp 6) rfl gx rfl 58 (cellsRE (.any)) (0, 0) _ HX5.out Try.underlying58 rfl (by rw [cellsR_size (HFL.out)]; exact sizeR) ?_
              try simp only [Act.put, List.setIfInBounds_toArray, List.set_cons_zero, List.set_cons_succ]
              go_step
              go_step
              refine wp_build1 53 58 259 (.tmp 65) rfl _ (cellsRE (.any)) Try.underlying53 zeroR_info (by decide) rfl (cellsR_size (HFL.out)) ?_
              try simp only [Act.put, List.setIfInBounds_toArray, List.set_cons_zero, List.set_cons_succ]
              go_step
              refine Kd.R_append kER (w0 := W) W.heap.size rfl (.tmp 64) (.tmp 66) 53 58 (.agg (cellsR zeroF false false 0)) 259 rfl Try.underlying53 (by kernel_rfl) (cellsR_size zeroF_length) (by decide) (by decide) _ xs ((.any)) (cellsRE (.any)).toList (fun k => k ≠ gx) (fun _ => False) ?hs rfl ⟨HFL.out, rfl⟩ (fun _ hk => hk.elim) (fun k hk => by have := blk_lt HX5.out; omega) HR5.out HBW.out HBW.out.size (by have := HQ.out; have := HSZ.out; omega) ?_
              case hs => rfl
              intro v1 w9 ho hb hgr hat
              obtain ⟨Ax, nx', cx, hvx⟩ := R_slice' ho
              subst hvx
              have HR9 := Aside0.mk (Kd.R_mono ho (ok' := fun _ => True) (fun _ _ => trivial))
              have HB9 := Aside0.mk hb
              clear ho hb hgr hat
              have hwn := HWN.out
              go_wp2
              clear hwn
              go_roundg (s.size + 1 - nx)
              case measure => have := HQ.out; have := HNX.out; omega
              case rel =>
                refine ⟨q, nx, xs ++ [(.any)], ?_, ⟨?_⟩, ?_, ?_, ⟨?_⟩, ?_⟩
                · first | rfl | (rw [HWN.out]; done) | simp
                · exact ⟨rfl, by have := HNX.out; omega, by have := HQ.out; have := HNX.out; omega, by have := HQ.out; have := HNX.out; simp only [List.length_append, List.length_cons, List.length_nil]; omega⟩
                · exact HPA
                · exact HR9
                · intro x hx
                  rcases List.mem_append.1 hx with h | h
                  · exact HO.out x h
                  · simp only [List.mem_cons, List.not_mem_nil, or_false] at h; subst h; exact ⟨HFL.out, by decide⟩
                · exact HB9
        · have b63 : (d == 63) = false := beq_eq_false_iff_ne.mpr h63
          by_cases h93 : d = 93
          · subst h93
            have HPA := Aside0.mk (show pat (bytesOf s) = none by rw [HE.out, HDR.out, patL_bad (show prt (93 :: (bytesOf s).drop (i + 1)) = none by simp [prt])]; rfl)
            clear hlti
            go_wp2
            go_ret2
            refine ⟨below_step HB.out HB1.out, ?_⟩
            rw [HPA.out]
            rfl
          · have b93 : (d == 93) = false := beq_eq_false_iff_ne.mpr h93
            by_cases h91 : d = 91
            · subst h91
              obtain ⟨p, hp⟩ : ∃ z, z = i + 1 := ⟨_, rfl⟩
              have HWP := Aside0.mk (show wrap64 ((i : Int) + 1) = (p : Int) by have := HSZ.out; unfold wrap64; omega)
              rw [← hp] at HDR
              clear b42 b63 b93 h42 h63 h93
              have HLP := Aside0.mk (show p ≤ s.size by omega)
              have hex : bytesOf (s.extract p s.size) = (bytesOf s).drop p := by rw [bytes_extract', List.take_of_length_le (by rw [bytesOf_length]; omega)]
              have hxs : (s.extract p s.size).size ≤ 1000 := by rw [ByteArray.size_extract]; have := HSZ.out; omega
              have HCA := Aside0.mk (rclass_calls gx gx false false 0 (s.extract p s.size) w1 HX1.out (Nat.le_refl _) hxs)
              have HEX := Aside0.mk hex
              have HES := Aside0.mk (show (s.extract p s.size).size = s.size - p by rw [ByteArray.size_extract]; omega)
              have l0 : (p : Int) ≤ (s.size : Int) := by omega
              have l1 : decide ((p : Int) ≤ (s.size : Int)) = true := decide_eq_true l0
              have l2 : decide (p ≤ s.size) = true := decide_eq_true (by omega)
              have HHP := Aside0.mk hp
              clear hex hxs hp
              have hwp := HWP.out
              cases hcl : cls ((bytesOf s).drop p) with
              | none =>
                have HCL := Aside0.mk hcl
                clear hcl hlti
                have HPA := Aside0.mk (show pat (bytesOf s) = none by rw [HE.out, HDR.out, patL_bad (show prt (91 :: (bytesOf s).drop p) = none by simp [prt, HCL.out])]; rfl)
                go_wp2_with (go_at_call 27; refine HCA.out.mono ?_; rintro e w2 ⟨hf, hm⟩; rw [HEX.out, HCL.out] at hm; obtain ⟨rfl, fx, hfx, hx2⟩ := hm; have HF2 := Aside0.mk hf; clear hf)
                go_ret2
                refine ⟨below_step HB.out (HB1.out.trans (by rw [HGX.out]; exact HF2.out.below (by have := blk_lt HX1.out; omega))), ?_⟩
                rw [HPA.out]
                rfl
              | some pr =>
                obtain ⟨f, r'⟩ := pr
                have HCL := Aside0.mk hcl
                clear hcl
                go_upto_region 28 with (go_at_call 27; refine HCA.out.mono ?_; rintro e w5 ⟨hf, hm⟩; rw [HEX.out, HCL.out] at hm; obtain ⟨j, he, hj, hr', hfl, hx2⟩ := hm; rw [HES.out] at hj; rw [List.drop_drop] at hr'; obtain ⟨n1, hn1⟩ : ∃ z, z = j + 1 := ⟨_, rfl⟩; rw [← hn1] at he hr'; subst he; have HFX := Aside0.mk hfl; have HX2 := Aside0.mk hx2; have HR' := Aside0.mk hr'; have HF2 := Aside0.mk hf; have en : ((n1 : Int) == 0) = false := beq_eq_false_iff_ne.mpr (by omega); have enN : (n1 == 0) = false := beq_eq_false_iff_ne.mpr (by omega); have HN1 := Aside0.mk (show 1 ≤ n1 ∧ n1 ≤ s.size - p by omega); obtain ⟨i2, hi2⟩ : ∃ z, z = i + n1 := ⟨_, rfl⟩; have hwi := (show wrap64 ((i : Int) + (n1 : Int)) = (i2 : Int) by clear hwp; have := HSZ.out; unfold wrap64; omega); have HI2 := Aside0.mk hi2; clear hfl hx2 hr' hf hj hn1 hi2)
                go_upto_region 28 with (fail)
                try simp only [hwi]
                clear hwi hwp en enN l0 l1 l2 hb hlI e1 e2
                have hp := HHP.out
                have hi2 := HI2.out
                have hn1 := HN1.out
                have hlp := HLP.out
                obtain ⟨nx, hnx⟩ : ∃ z, z = i2 + 1 := ⟨_, rfl⟩
                have HWN := Aside0.mk (show wrap64 ((i2 : Int) + 1) = (nx : Int) by have := HSZ.out; unfold wrap64; omega)
                have HNX := Aside0.mk (show i < nx ∧ nx ≤ s.size by omega)
                have HR2 := Aside0.mk (show r' = (bytesOf s).drop nx by rw [HR'.out]; congr 1; omega)
                have HPRT := Aside0.mk (show prt (91 :: (bytesOf s).drop p) = some (.set f, (bytesOf s).drop nx) by rw [← HR2.out]; simp [prt, HCL.out])
                clear hnx hp hi2 hn1 hlp hlti
                have HX5 := Aside0.mk (show w5.heap[gx]? = some (.cells (cellsRE (.set f)) 58 (0, 0)) from HX2.out)
                have HB5 := Aside0.mk (HB1.out.trans (by rw [HGX.out]; exact HF2.out.below (by have := blk_lt HX1.out; omega)))
                have HFL := Aside0.mk (show (rF (.set f)).length = 256 from HFX.out)
                have HPA := Aside0.mk (show pat (bytesOf s) = (patL q ((bytesOf s).drop nx)).map ((xs ++ [(.set f)]) ++ ·) by rw [HE.out, HDR.out, patL_step (HPRT.out), Option.map_map]; congr 1; funext z; simp)
                have HR5 := Aside0.mk (Kd.R_below (Kd.R_mono (Kd.R_bound HR.out) (ok' := fun k => k ≠ gx) (fun k hk => by have := hk.2.2.1; rw [← HGX.out]; exact Nat.ne_of_lt this)) HB5.out)
                have HBW := Aside0.mk (below_step HB.out HB5.out)
                go_step
                go_step
                go_step
                go_step
                go_step
                refine wp_load_row 58 (.tmp 6) rfl gx rfl 58 (cellsRE (.set f)) (0, 0) _ HX5.out Try.underlying58 rfl (by rw [cellsR_size (HFL.out)]; exact sizeR) ?_
                try simp only [Act.put, List.setIfInBounds_toArray, List.set_cons_zero, List.set_cons_succ]
                go_step
                go_step
                refine wp_build1 53 58 259 (.tmp 65) rfl _ (cellsRE (.set f)) Try.underlying53 zeroR_info (by decide) rfl (cellsR_size (HFL.out)) ?_
                try simp only [Act.put, List.setIfInBounds_toArray, List.set_cons_zero, List.set_cons_succ]
                go_step
                refine Kd.R_append kER (w0 := W) W.heap.size rfl (.tmp 64) (.tmp 66) 53 58 (.agg (cellsR zeroF false false 0)) 259 rfl Try.underlying53 (by kernel_rfl) (cellsR_size zeroF_length) (by decide) (by decide) _ xs ((.set f)) (cellsRE (.set f)).toList (fun k => k ≠ gx) (fun _ => False) ?hs rfl ⟨HFL.out, rfl⟩ (fun _ hk => hk.elim) (fun k hk => by have := blk_lt HX5.out; omega) HR5.out HBW.out HBW.out.size (by have := HQ.out; have := HSZ.out; omega) ?_
                case hs => rfl
                intro v1 w9 ho hb hgr hat
                obtain ⟨Ax, nx', cx, hvx⟩ := R_slice' ho
                subst hvx
                have HR9 := Aside0.mk (Kd.R_mono ho (ok' := fun _ => True) (fun _ _ => trivial))
                have HB9 := Aside0.mk hb
                clear ho hb hgr hat
                have hwn := HWN.out
                go_wp2
                clear hwn
                go_roundg (s.size + 1 - nx)
                case measure => have := HQ.out; have := HNX.out; omega
                case rel =>
                  refine ⟨q, nx, xs ++ [(.set f)], ?_, ⟨?_⟩, ?_, ?_, ⟨?_⟩, ?_⟩
                  · first | rfl | (rw [HWN.out]; done) | simp
                  · exact ⟨rfl, by have := HNX.out; omega, by have := HQ.out; have := HNX.out; omega, by have := HQ.out; have := HNX.out; simp only [List.length_append, List.length_cons, List.length_nil]; omega⟩
                  · exact HPA
                  · exact HR9
                  · intro x hx
                    rcases List.mem_append.1 hx with h | h
                    · exact HO.out x h
                    · simp only [List.mem_cons, List.not_mem_nil, or_false] at h; subst h; exact ⟨HFL.out, show (0 : Int) ≤ 0 ∧ (0 : Int) < 256 by decide⟩
                  · exact HB9
            · have b91 : (d == 91) = false := beq_eq_false_iff_ne.mpr h91
              by_cases h92 : d = 92
              · subst h92
                obtain ⟨p, hp⟩ : ∃ z, z = i + 1 := ⟨_, rfl⟩
                have hwp : wrap64 ((i : Int) + 1) = (p : Int) := by have := HSZ.out; unfold wrap64; omega
                have HWP := Aside0.mk hwp
                clear hwp
                rw [← hp] at HDR
                clear b42 b63 b93 b91 h42 h63 h93 h91
                by_cases hltp : p < s.size
                · have hlp : (p : Int) < (s.size : Int) := by omega
                  have ep1 : decide ((p : Int) < (s.size : Int)) = true := decide_eq_true hlp
                  have ep2 : decide (p < s.size) = true := decide_eq_true hltp
                  clear HBY HD
                  obtain ⟨d, hd⟩ : ∃ z, z = bt s (p : Int) := ⟨_, rfl⟩
                  have hbp : ∀ h : p < s.size, ((s[p]'h).toNat : Int) = d := fun h => by rw [hd]; exact bt_at s ((p : Nat) : Int) h
                  have hby := bt_byte s p hltp
                  rw [← hd] at hby
                  have HBY := Aside0.mk hby
                  have hnp := bytes_drop s p hltp
                  rw [← hd] at hnp
                  have HNP := Aside0.mk hnp
                  clear hby hd hnp
                  have hwp := HWP.out
                  have HHP := Aside0.mk hp
                  clear hp
                  have ei : ((p : Int) == (s.size : Int)) = false := beq_eq_false_iff_ne.mpr (by omega)
                  have eiN : (p == s.size) = false := beq_eq_false_iff_ne.mpr (by omega)
                  go_upto_region 11 with (fail)
                  go_upto_region 11 with (fail)
                  try simp only [hwp]
                  try clear hwp
                  try have hp := HHP.out
                  have z7 := blk_frozen HX1.out 257
                  have z8 := blk_frozen HX1.out 258
                  have c7 := (blk_cell HX1.out 257).trans (cellsR_tail zeroF_length).2.1
                  have c8 := (blk_cell HX1.out 258).trans (cellsR_tail zeroF_length).2.2
                  have x7 : (w1.setCell ⟨gx, 257, none⟩ (.bool true)).heap[gx]? = some (.cells (cellsR zeroF false true 0) 58 (0, 0)) := by rw [blk_set HX1.out, cellsR_self zeroF_length]
                  have x78 : ((w1.setCell ⟨gx, 257, none⟩ (.bool true)).setCell ⟨gx, 258, none⟩ (.int .u8 d)).heap[gx]? = some (.cells (cellsR zeroF false true d) 58 (0, 0)) := by rw [blk_set x7, cellsR_c zeroF_length]
                  have X78 := Aside0.mk x78
                  have HB78 := Aside0.mk (below_set (j := 258) (v := .int .u8 d) (below_set (j := 257) (v := .bool true) HB1.out (Nat.le_of_eq HGX.out)) (Nat.le_of_eq HGX.out))
                  clear x7 x78
                  obtain ⟨nx, hnx⟩ : ∃ z, z = p + 1 := ⟨_, rfl⟩
                  have HWN := Aside0.mk (show wrap64 ((p : Int) + 1) = (nx : Int) by have := HSZ.out; unfold wrap64; omega)
                  have HNX := Aside0.mk (show i < nx ∧ nx ≤ s.size by omega)
                  have HPRT := Aside0.mk (show prt (92 :: (bytesOf s).drop p) = some (.one d, (bytesOf s).drop nx) by rw [HNP.out, hnx]; simp [prt, nxt])
                  clear hnx hp
                  go_region
                  clear z7 z8 c7 c8
                  have HX2 := Aside0.mk (show (((w1.setCell ⟨gx, 257, none⟩ (.bool true)).setCell ⟨gx, 258, none⟩ (.int .u8 d)).drew).heap[gx]? = some (.cells (cellsR zeroF false true d) 58 (0, 0)) from X78.out)
                  have HB2 := Aside0.mk (below_drew HB78.out)
                  generalize ((w1.setCell ⟨gx, 257, none⟩ (.bool true)).setCell ⟨gx, 258, none⟩ (.int .u8 d)).drew = w2 at HX2 HB2 ⊢
                  obtain ⟨C, rfl⟩ : ∃ C : Nat, d = (C : Int) := ⟨d.toNat, by have := HBY.out; omega⟩
                  have hC : C < 256 := by have := HBY.out; omega
                  have hC2 : decide (C < 256) = true := decide_eq_true hC
                  have z := blk_frozen HX2.out C
                  have c0 := cellsR_at HX2.out C (by rw [zeroF_length]; exact hC)
                  have HX5 := Aside0.mk (show (w2.setCell ⟨gx, C, none⟩ (.bool true)).heap[gx]? = some (.cells (cellsRE (.one (C : Int))) 58 (0, 0)) from cellsR_put HX2.out C (by rw [zeroF_length]; exact hC) true)
                  have HB5 := Aside0.mk (below_set (j := C) (v := .bool true) HB2.out (Nat.le_of_eq HGX.out))
                  go_upto_region 28 with (fail)
                  go_upto_region 28 with (fail)
                  generalize w2.setCell ⟨gx, C, none⟩ (.bool true) = w5 at HX5 HB5 ⊢
                  clear z c0 hb hlI e1 e2 ei eiN hC2 hlti
                  try clear hbp hlp ep1 ep2
                  have HFL := Aside0.mk (show (rF (.one (C : Int))).length = 256 from by rw [show rF (.one (C : Int)) = zeroF.set C true from rfl, List.length_set]; exact zeroF_length)
                  have HPA := Aside0.mk (show pat (bytesOf s) = (patL q ((bytesOf s).drop nx)).map ((xs ++ [(.one (C : Int))]) ++ ·) by rw [HE.out, HDR.out, patL_step (HPRT.out), Option.map_map]; congr 1; funext z; simp)
                  have HR5 := Aside0.mk (Kd.R_below (Kd.R_mono (Kd.R_bound HR.out) (ok' := fun k => k ≠ gx) (fun k hk => by have := hk.2.2.1; rw [← HGX.out]; exact Nat.ne_of_lt this)) HB5.out)
                  have HBW := Aside0.mk (below_step HB.out HB5.out)
                  go_step
                  go_step
                  go_step
                  go_step
                  go_step
                  refine wp_load_row 58 (.tmp 6) rfl gx rfl 58 (cellsRE (.one (C : Int))) (0, 0) _ HX5.out Try.underlying58 rfl (by rw [cellsR_size (HFL.out)]; exact sizeR) ?_
                  try simp only [Act.put, List.setIfInBounds_toArray, List.set_cons_zero, List.set_cons_succ]
                  go_step
                  go_step
                  refine wp_build1 53 58 259 (.tmp 65) rfl _ (cellsRE (.one (C : Int))) Try.underlying53 zeroR_info (by decide) rfl (cellsR_size (HFL.out)) ?_
                  try simp only [Act.put, List.setIfInBounds_toArray, List.set_cons_zero, List.set_cons_succ]
                  go_step
                  refine Kd.R_append kER (w0 := W) W.heap.size rfl (.tmp 64) (.tmp 66) 53 58 (.agg (cellsR zeroF false false 0)) 259 rfl Try.underlying53 (by kernel_rfl) (cellsR_size zeroF_length) (by decide) (by decide) _ xs ((.one (C : Int))) (cellsRE (.one (C : Int))).toList (fun k => k ≠ gx) (fun _ => False) ?hs rfl ⟨HFL.out, rfl⟩ (fun _ hk => hk.elim) (fun k hk => by have := blk_lt HX5.out; omega) HR5.out HBW.out HBW.out.size (by have := HQ.out; have := HSZ.out; omega) ?_
                  case hs => rfl
                  intro v1 w9 ho hb hgr hat
                  obtain ⟨Ax, nx', cx, hvx⟩ := R_slice' ho
                  subst hvx
                  have HR9 := Aside0.mk (Kd.R_mono ho (ok' := fun _ => True) (fun _ _ => trivial))
                  have HB9 := Aside0.mk hb
                  clear ho hb hgr hat
                  have hwn := HWN.out
                  go_wp2
                  clear hwn
                  go_roundg (s.size + 1 - nx)
                  case measure => have := HQ.out; have := HNX.out; omega
                  case rel =>
                    refine ⟨q, nx, xs ++ [(.one (C : Int))], ?_, ⟨?_⟩, ?_, ?_, ⟨?_⟩, ?_⟩
                    · first | rfl | (rw [HWN.out]; done) | simp
                    · exact ⟨rfl, by have := HNX.out; omega, by have := HQ.out; have := HNX.out; omega, by have := HQ.out; have := HNX.out; simp only [List.length_append, List.length_cons, List.length_nil]; omega⟩
                    · exact HPA
                    · exact HR9
                    · intro x hx
                      rcases List.mem_append.1 hx with h | h
                      · exact HO.out x h
                      · simp only [List.mem_cons, List.not_mem_nil, or_false] at h; subst h; exact ⟨HFL.out, HBY.out⟩
                    · exact HB9
                · have ei : ((p : Int) == (s.size : Int)) = true := beq_iff_eq.mpr (by omega)
                  have eiN : (p == s.size) = true := beq_iff_eq.mpr (by omega)
                  have hwp := HWP.out
                  have HPA := Aside0.mk (show pat (bytesOf s) = none by rw [HE.out, HDR.out, patL_bad (show prt (92 :: (bytesOf s).drop p) = none by rw [bytes_done s p (by omega)]; simp [prt, nxt])]; rfl)
                  clear hp hltp hlti
                  go_wp2
                  go_ret2
                  refine ⟨below_step HB.out HB1.out, ?_⟩
                  rw [HPA.out]
                  rfl
              · have b92 : (d == 92) = false := beq_eq_false_iff_ne.mpr h92
                have ei : ((i : Int) == (s.size : Int)) = false := beq_eq_false_iff_ne.mpr (by omega)
                have eiN : (i == s.size) = false := beq_eq_false_iff_ne.mpr (by omega)
                go_upto_region 11 with (fail)
                go_upto_region 11 with (fail)
                try simp only [hwp]
                try clear hwp
                try have hp := HHP.out
                have z7 := blk_frozen HX1.out 257
                have z8 := blk_frozen HX1.out 258
                have c7 := (blk_cell HX1.out 257).trans (cellsR_tail zeroF_length).2.1
                have c8 := (blk_cell HX1.out 258).trans (cellsR_tail zeroF_length).2.2
                have x7 : (w1.setCell ⟨gx, 257, none⟩ (.bool true)).heap[gx]? = some (.cells (cellsR zeroF false true 0) 58 (0, 0)) := by rw [blk_set HX1.out, cellsR_self zeroF_length]
                have x78 : ((w1.setCell ⟨gx, 257, none⟩ (.bool true)).setCell ⟨gx, 258, none⟩ (.int .u8 d)).heap[gx]? = some (.cells (cellsR zeroF false true d) 58 (0, 0)) := by rw [blk_set x7, cellsR_c zeroF_length]
                have X78 := Aside0.mk x78
                have HB78 := Aside0.mk (below_set (j := 258) (v := .int .u8 d) (below_set (j := 257) (v := .bool true) HB1.out (Nat.le_of_eq HGX.out)) (Nat.le_of_eq HGX.out))
                clear x7 x78
                obtain ⟨nx, hnx⟩ : ∃ z, z = i + 1 := ⟨_, rfl⟩
                have HWN := Aside0.mk (show wrap64 ((i : Int) + 1) = (nx : Int) by have := HSZ.out; unfold wrap64; omega)
                have HNX := Aside0.mk (show i < nx ∧ nx ≤ s.size by omega)
                have HPRT := Aside0.mk (show prt (d :: (bytesOf s).drop (i + 1)) = some (.one d, (bytesOf s).drop nx) by rw [hnx]; simp only [prt]; rw [if_neg h42, if_neg h63, if_neg h91, if_neg h93, if_neg h92])
                clear hnx h42 h63 h91 h93 h92 b42 b63 b91 b93 b92
                go_region
                clear z7 z8 c7 c8
                have HX2 := Aside0.mk (show (((w1.setCell ⟨gx, 257, none⟩ (.bool true)).setCell ⟨gx, 258, none⟩ (.int .u8 d)).drew).heap[gx]? = some (.cells (cellsR zeroF false true d) 58 (0, 0)) from X78.out)
                have HB2 := Aside0.mk (below_drew HB78.out)
                generalize ((w1.setCell ⟨gx, 257, none⟩ (.bool true)).setCell ⟨gx, 258, none⟩ (.int .u8 d)).drew = w2 at HX2 HB2 ⊢
                obtain ⟨C, rfl⟩ : ∃ C : Nat, d = (C : Int) := ⟨d.toNat, by have := HBY.out; omega⟩
                have hC : C < 256 := by have := HBY.out; omega
                have hC2 : decide (C < 256) = true := decide_eq_true hC
                have z := blk_frozen HX2.out C
                have c0 := cellsR_at HX2.out C (by rw [zeroF_length]; exact hC)
                have HX5 := Aside0.mk (show (w2.setCell ⟨gx, C, none⟩ (.bool true)).heap[gx]? = some (.cells (cellsRE (.one (C : Int))) 58 (0, 0)) from cellsR_put HX2.out C (by rw [zeroF_length]; exact hC) true)
                have HB5 := Aside0.mk (below_set (j := C) (v := .bool true) HB2.out (Nat.le_of_eq HGX.out))
                go_upto_region 28 with (fail)
                go_upto_region 28 with (fail)
                generalize w2.setCell ⟨gx, C, none⟩ (.bool true) = w5 at HX5 HB5 ⊢
                clear z c0 hb hlI e1 e2 ei eiN hC2 hlti
                try clear hbp hlp ep1 ep2
                have HFL := Aside0.mk (show (rF (.one (C : Int))).length = 256 from by rw [show rF (.one (C : Int)) = zeroF.set C true from rfl, List.length_set]; exact zeroF_length)
                have HPA := Aside0.mk (show pat (bytesOf s) = (patL q ((bytesOf s).drop nx)).map ((xs ++ [(.one (C : Int))]) ++ ·) by rw [HE.out, HDR.out, patL_step (HPRT.out), Option.map_map]; congr 1; funext z; simp)
                have HR5 := Aside0.mk (Kd.R_below (Kd.R_mono (Kd.R_bound HR.out) (ok' := fun k => k ≠ gx) (fun k hk => by have := hk.2.2.1; rw [← HGX.out]; exact Nat.ne_of_lt this)) HB5.out)
                have HBW := Aside0.mk (below_step HB.out HB5.out)
                go_step
                go_step
                go_step
                go_step
                go_step
                refine wp_load_row 58 (.tmp 6) rfl gx rfl 58 (cellsRE (.one (C : Int))) (0, 0) _ HX5.out Try.underlying58 rfl (by rw [cellsR_size (HFL.out)]; exact sizeR) ?_
                try simp only [Act.put, List.setIfInBounds_toArray, List.set_cons_zero, List.set_cons_succ]
                go_step
                go_step
                refine wp_build1 53 58 259 (.tmp 65) rfl _ (cellsRE (.one (C : Int))) Try.underlying53 zeroR_info (by decide) rfl (cellsR_size (HFL.out)) ?_
                try simp only [Act.put, List.setIfInBounds_toArray, List.set_cons_zero, List.set_cons_succ]
                go_step
                refine Kd.R_append kER (w0 := W) W.heap.size rfl (.tmp 64) (.tmp 66) 53 58 (.agg (cellsR zeroF false false 0)) 259 rfl Try.underlying53 (by kernel_rfl) (cellsR_size zeroF_length) (by decide) (by decide) _ xs ((.one (C : Int))) (cellsRE (.one (C : Int))).toList (fun k => k ≠ gx) (fun _ => False) ?hs rfl ⟨HFL.out, rfl⟩ (fun _ hk => hk.elim) (fun k hk => by have := blk_lt HX5.out; omega) HR5.out HBW.out HBW.out.size (by have := HQ.out; have := HSZ.out; omega) ?_
                case hs => rfl
                intro v1 w9 ho hb hgr hat
                obtain ⟨Ax, nx', cx, hvx⟩ := R_slice' ho
                subst hvx
                have HR9 := Aside0.mk (Kd.R_mono ho (ok' := fun _ => True) (fun _ _ => trivial))
                have HB9 := Aside0.mk hb
                clear ho hb hgr hat
                have hwn := HWN.out
                go_wp2
                clear hwn
                go_roundg (s.size + 1 - nx)
                case measure => have := HQ.out; have := HNX.out; omega
                case rel =>
                  refine ⟨q, nx, xs ++ [(.one (C : Int))], ?_, ⟨?_⟩, ?_, ?_, ⟨?_⟩, ?_⟩
                  · first | rfl | (rw [HWN.out]; done) | simp
                  · exact ⟨rfl, by have := HNX.out; omega, by have := HQ.out; have := HNX.out; omega, by have := HQ.out; have := HNX.out; simp only [List.length_append, List.length_cons, List.length_nil]; omega⟩
                  · exact HPA
                  · exact HR9
                  · intro x hx
                    rcases List.mem_append.1 hx with h | h
                    · exact HO.out x h
                    · simp only [List.mem_cons, List.not_mem_nil, or_false] at h; subst h; exact ⟨HFL.out, HBY.out⟩
                  · exact HB9
    · have e1 : decide ((i : Int) < (s.size : Int)) = false := decide_eq_false (by omega)
      have e2 : decide (i < s.size) = false := decide_eq_false hlti
      have HPA := Aside0.mk (show pat (bytesOf s) = some xs by rw [HE.out, bytes_done s i (by omega), patL_nil]; simp)
      clear hlti
      obtain ⟨A, n, hv, hn, hC⟩ := Kd.R_reads HR.out
      subst hv
      have HC := Aside0.mk hC
      clear hC hn
      go_wp2
      go_ret2
      refine ⟨HB.out, ?_⟩
      rw [HPA.out]
      exact ⟨A, n, rfl, HC.out, by have := HQ.out; omega, HO.out⟩
end Go.Proofs.Ytbnlfiklkddolaa.Sep
