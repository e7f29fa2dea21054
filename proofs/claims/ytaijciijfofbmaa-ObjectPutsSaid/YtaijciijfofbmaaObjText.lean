/- Which texts a commit may have: the program's Text and the reference's. Conditions: the bounds of the statements. -/
import Derived.Test.YtaijciijfofbmaaCodec
import Derived.Test.YtaijciijfofbmaaPackPut
import Derived.Test.YtaijciijfofbmaaPDatx1
namespace Go.Proofs.Ytaijciijfofbmaa.Sep
open Go.RowKit Go.Proofs.Ytaijciijfofbmaa.PCore Go.Proofs.Ytaijciijfofbmaa.Plain Go.Proofs.YtaijciijfofbmaaW.PrintWords Go.Proofs.YtaijciijfofbmaaW.PrintLast Go.Proofs.YtaijciijfofbmaaW.PrintMore
open Go.Proofs.Ytaijciijfofbmaa.PDat (apographref14_Text.l0 apographref14_Text.f apographref14_Text.calls)
/-- Whether a byte may be a text's. -/
def okc (c : Int) : Bool := decide (32 ≤ c) && decide (c ≤ 126)
/-- Whether a text may be a commit's. -/
def textB (s : ByteArray) : Bool := decide (s.size ≤ 60) && (bytesOf s).all okc
set_option maxHeartbeats 1000000 in
theorem text1_calls (c : Int) (W : World) : Calls Try.prog 33 #[.int .u8 c] W fun e W1 => e = .returned (.bool (!okc c)) ∧ W1 = W := by
  by_cases h1 : c < 32
  · have h1' : decide (c < 32) = true := decide_eq_true h1
    have e : okc c = false := by simp [okc]; omega
    go_enter Try.func33, Try.ntmps33
    go_wp2
    go_ret
    rw [e]
    exact ⟨rfl, rfl⟩
  · have h1' : decide (c < 32) = false := decide_eq_false h1
    have e : okc c = decide (c ≤ 126) := by simp [okc]; omega
    by_cases h2 : 126 < c
    · have h2' : decide (126 < c) = true := decide_eq_true h2
      have e2 : decide (c ≤ 126) = false := decide_eq_false (by omega)
      go_enter Try.func33, Try.ntmps33
      go_wp2
      go_ret
      exact ⟨rfl, rfl⟩
    · have h2' : decide (126 < c) = false := decide_eq_false h2
      have e2 : decide (c ≤ 126) = true := decide_eq_true (by omega)
      go_enter Try.func33, Try.ntmps33
      go_wp2
      go_ret
      exact ⟨rfl, rfl⟩
theorem all_one (l : List Int) (i : Nat) (h : i < l.length) : (l.take (i + 1)).all okc = ((l.take i).all okc && okc (rd l (i : Int))) := by
  rw [take_one l i h, List.all_append, rd_nat l i h]
  simp
set_option maxHeartbeats 1000000 in
theorem index_calls (A : Option Addr) (n : Nat) (bs : List Int) (W : World) (hC : Kd.C (Kd.int .u8) W A bs.length bs) (hn : bs.length ≤ 1000000) :
    Calls Try.prog 42 #[.slice A bs.length n, .func (.func 33) #[] #[]] W fun e W1 => ∃ r : Int, e = .returned (.int .i64 r) ∧ decide (0 ≤ r) = !(bs.all okc) ∧ W1 = W := by
  have HC := Aside0.mk hC
  have HN := Aside0.mk hn
  clear hC hn
  go_enter Try.func42, Try.ntmps42
  go_wp2
  go_loopg [8] bs.length (fun kq v8 w' => ∃ i : Nat, v8 = .int .i64 i ∧ Aside0 (i ≤ bs.length ∧ kq = bs.length - i) ∧ Aside0 ((bs.take i).all okc = true) ∧ w' = W)
  case atStart => exact ⟨0, rfl, ⟨by omega, by omega⟩, ⟨rfl⟩, rfl⟩
  case round =>
    obtain ⟨i, rfl, HI, HA, rfl⟩ := hrel
    by_cases hlt : i < bs.length
    · obtain ⟨ad, rfl, h0⟩ := (show ReadsInt wr .u8 A bs.length bs from Kd.reads_of_C (d := 0) HC.out).at_ (i : Int) (by omega) (by omega)
      simp only [Int.toNat_natCast] at h0
      have HT := Aside0.mk (all_one bs i hlt)
      generalize rd bs (i : Int) = c at h0 HT
      have hlt' : (i : Int) < (bs.length : Int) := by omega
      have HWI := Aside0.mk (show wrap64 ((i : Int) + 1) = ((i + 1 : Nat) : Int) by have := HN.out; unfold wrap64; omega)
      cases hc : okc c with
      | true =>
        have HCK := Aside0.mk hc
        clear hc
        go_wp2_with (go_at_call 33; refine (text1_calls c _).mono ?_; rw [HCK.out]; rintro e w1 ⟨rfl, rfl⟩)
        go_roundg (bs.length - (i + 1))
        case measure => have := HI.out; omega
        case rel => exact ⟨i + 1, by rw [HWI.out], ⟨by omega, rfl⟩, ⟨by rw [HT.out, HA.out, HCK.out]; rfl⟩, rfl⟩
      | false =>
        have HCK := Aside0.mk hc
        clear hc
        have HBA := Aside0.mk (show bs.all okc = false by
          rw [← Bool.not_eq_true]
          intro h
          have h1 : (bs.take (i + 1)).all okc = true := by
            rw [List.all_eq_true] at h ⊢
            exact fun x hx => h x (List.mem_of_mem_take hx)
          rw [HT.out, HCK.out, Bool.and_false] at h1
          cases h1)
        go_wp2_with (go_at_call 33; refine (text1_calls c _).mono ?_; rw [HCK.out]; rintro e w1 ⟨rfl, rfl⟩)
        go_ret
        exact ⟨(i : Int), rfl, by rw [HBA.out]; exact decide_eq_true (by omega), rfl⟩
    · have hI : i = bs.length := by have := HI.out; omega
      subst hI
      go_wp2
      go_ret
      have := HA.out
      rw [List.take_length] at this
      exact ⟨-1, rfl, by rw [this]; rfl, rfl⟩
set_option maxHeartbeats 1000000 in
theorem contains_calls (A : Option Addr) (n : Nat) (bs : List Int) (W : World) (hC : Kd.C (Kd.int .u8) W A bs.length bs) (hn : bs.length ≤ 1000000) :
    Calls Try.prog 32 #[.slice A bs.length n, .func (.func 33) #[] #[]] W fun e W1 => e = .returned (.bool (!(bs.all okc))) ∧ W1 = W := by
  have H := Aside0.mk (index_calls A n bs W hC hn)
  clear hC hn
  go_enter Try.func32, Try.ntmps32
  go_wp2_with (go_at_call 42; refine H.out.mono ?_; rintro e w1 ⟨r, rfl, hr, rfl⟩)
  go_ret
  exact ⟨by rw [← hr]; rfl, rfl⟩
theorem bytes_C (W : World) (s : ByteArray) (hs : s.size ≤ 9223372036854775807) : Kd.C (Kd.int .u8) (Lib.bytesWorld W 5 s) (some ⟨W.heap.size, 0, none⟩) (bytesOf s).length (bytesOf s) := by
  have h := bytes_reads W 5 s hs
  rw [← bytesOf_length] at h
  exact Kd.C_of_reads (d := (0 : Int)) (h1 := fun _ => rfl) h
set_option maxHeartbeats 1000000 in
theorem text_calls (s : ByteArray) (W : World) : Calls Try.prog 16 #[.string s] W fun e W1 => e = .returned (.bool (textB s)) ∧ Below W.heap.size W W1 := by
  by_cases h : (60 : Int) < (s.size : Int)
  · have h' : decide ((60 : Int) < (s.size : Int)) = true := decide_eq_true h
    have e : textB s = false := by simp [textB]; omega
    go_enter Try.func16, Try.ntmps16
    go_wp2
    go_ret
    rw [e]
    exact ⟨rfl, Below.refl _ _⟩
  · have h' : decide ((60 : Int) < (s.size : Int)) = false := decide_eq_false h
    have HS := Aside0.mk (show s.size ≤ 60 by omega)
    have kb := fun W => print_bytes (P := Try.prog) 9 28 5 Try.underlying9 Try.underlying28 Try.underlying5 s W
    have HBS := Aside0.mk (bytes_below (Below.refl W.heap.size W) (Nat.le_refl _) 5 s)
    have HC := Aside0.mk (contains_calls (some ⟨W.heap.size, 0, none⟩) (grownCap W s.size 0 5) (bytesOf s) (Lib.bytesWorld W 5 s) (bytes_C W s (by omega)) (by rw [bytesOf_length]; omega))
    rw [bytesOf_length] at HC
    go_enter Try.func16, Try.ntmps16
    go_wp2_with (go_at_call 32; refine HC.out.mono ?_; rintro e w1 ⟨rfl, rfl⟩)
    go_ret
    refine ⟨?_, HBS.out⟩
    have e : textB s = (bytesOf s).all okc := by simp [textB, HS.out]
    rw [e]
    simp
theorem refText_loop : ∀ (d : Nat) (s : ByteArray) (i : Nat), i + d = s.size → s.size ≤ 140737488355328 → (((bytesOf s).take i).all okc = true) → Ev (fun k => apographref14_Text.l0 k s i) (textB s) := by
  intro d
  induction d with
  | zero =>
    intro s i hi hn ha
    rw [List.take_of_length_le (by rw [bytesOf_length]; omega)] at ha
    refine Ev.step (f := fun _ => some (textB s)) (fun k => ?_) (Ev.now _)
    simp only [apographref14_Text.l0]
    rw [if_neg (by omega)]
    simp only [textB, ha, Bool.and_true]
    congr 2
    exact propext ⟨fun h => by omega, fun h => by omega⟩
  | succ d ih =>
    intro s i hi hn ha
    have ew : wrap64 ((i : Int) + 1) = ((i + 1 : Nat) : Int) := by unfold wrap64; omega
    have hT := all_one (bytesOf s) i (by rw [bytesOf_length]; omega)
    rw [ha, Bool.true_and, rd_bytesOf] at hT
    by_cases c1 : bt s i < 32
    · have hb : textB s = false := by
        rw [← Bool.not_eq_true]
        intro h
        simp only [textB, Bool.and_eq_true] at h
        have h2 : ((bytesOf s).take (i + 1)).all okc = true := by
          rw [List.all_eq_true] at h ⊢
          exact fun x hx => h.2 x (List.mem_of_mem_take hx)
        rw [hT] at h2
        simp [okc] at h2
        omega
      refine Ev.step (f := fun _ => some (textB s)) (fun k => ?_) (Ev.now _)
      simp only [apographref14_Text.l0]
      rw [if_pos (by omega), if_pos (by omega), if_pos c1, hb]
    · by_cases c2 : bt s i > 126
      · have hb : textB s = false := by
          rw [← Bool.not_eq_true]
          intro h
          simp only [textB, Bool.and_eq_true] at h
          have h2 : ((bytesOf s).take (i + 1)).all okc = true := by
            rw [List.all_eq_true] at h ⊢
            exact fun x hx => h.2 x (List.mem_of_mem_take hx)
          rw [hT] at h2
          simp [okc] at h2
          omega
        refine Ev.step (f := fun _ => some (textB s)) (fun k => ?_) (Ev.now _)
        simp only [apographref14_Text.l0]
        rw [if_pos (by omega), if_pos (by omega), if_neg c1, if_pos c2, hb]
      · refine Ev.step (f := fun k => apographref14_Text.l0 k s ((i + 1 : Nat) : Int)) (fun k => ?_) (ih s (i + 1) (by omega) hn (by rw [hT]; simp [okc]; omega))
        simp only [apographref14_Text.l0, ew]
        rw [if_pos (by omega), if_pos (by omega), if_neg c1, if_neg c2]
theorem refText_form (s : ByteArray) (hn : s.size ≤ 140737488355328) : Ev (fun k => apographref14_Text.f k s) (textB s) := refText_loop s.size s 0 (by omega) hn rfl
theorem refText_calls (s : ByteArray) (W : World) (hn : s.size ≤ 140737488355328) : Calls Try.prog 17 #[.string s] W fun e W1 => e = .returned (.bool (textB s)) ∧ Drawn0 W W1 := by
  obtain ⟨k, h⟩ := Ev.rounds (refText_form s hn)
  exact apographref14_Text.calls k s _ W h
end Go.Proofs.Ytaijciijfofbmaa.Sep
