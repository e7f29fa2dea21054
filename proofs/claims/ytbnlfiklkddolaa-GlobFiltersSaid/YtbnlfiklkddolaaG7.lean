/- Parse's contracts in use; chapter 31's example. Conditions: the bounds of the statements. -/
import Derived.Test.YtbnlfiklkddolaaG6
namespace Go.Proofs.Ytbnlfiklkddolaa.Sep
set_option linter.unusedSimpArgs false
set_option linter.unusedVariables false
open Go.RowKit Go.Proofs.Ytbnlfiklkddolaa.PCore Go.Proofs.Ytbnlfiklkddolaa.Plain Go.Proofs.YtbnlfiklkddolaaW.PrintWords Go.Proofs.YtbnlfiklkddolaaW.PrintLast Go.Proofs.YtbnlfiklkddolaaW.PrintMore
theorem parse_ok {s : ByteArray} {l : List El} (hs : s.size ≤ 100) (h : pat (bytesOf s) = some l) (W : World) :
    Calls Try.prog 9 #[.string s] W fun e W1 => ∃ g, e = .returned (.tuple #[.pointer (some ⟨g, 0, none⟩), .int .i64 0]) ∧ GlAt W1 g s l ∧ Below W.heap.size W W1 :=
  (parse31_calls s W (by omega)).mono fun e W1 ⟨hb, ha⟩ => by
    rw [if_neg (by omega), h] at ha
    obtain ⟨g, h1, h2⟩ := ha
    exact ⟨g, h1, h2, hb⟩
theorem parse_bad {s : ByteArray} (hs : s.size ≤ 100) (h : pat (bytesOf s) = none) (W : World) :
    Calls Try.prog 9 #[.string s] W fun e W1 => e = .returned (.tuple #[.pointer none, .int .i64 180]) ∧ Below W.heap.size W W1 :=
  (parse31_calls s W (by omega)).mono fun e W1 ⟨hb, ha⟩ => by
    rw [if_neg (by omega), h] at ha
    exact ⟨ha, hb⟩
theorem parse_long {s : ByteArray} (hs : 100 < s.size) (hm : s.size ≤ 1000000) (W : World) :
    Calls Try.prog 9 #[.string s] W fun e W1 => e = .returned (.tuple #[.pointer none, .int .i64 2]) ∧ Below W.heap.size W W1 :=
  (parse31_calls s W hm).mono fun e W1 ⟨hb, ha⟩ => by
    rw [if_pos hs] at ha
    exact ⟨ha, hb⟩
theorem str_size (l : List Int) : (strOfNums l).size = l.length := by
  simp [strOfNums, ByteArray.size]
theorem str_bytes (s : ByteArray) : strOfNums (bytesOf s) = s := by
  obtain ⟨⟨l⟩⟩ := s
  simp only [strOfNums, bytesOf, List.map_map]
  congr 2
  induction l with
  | nil => rfl
  | cons x l ih => simp [ih]
theorem bytes_str (l : List Int) (h : ∀ x ∈ l, 0 ≤ x ∧ x < 256) : bytesOf (strOfNums l) = l := by
  simp only [strOfNums, bytesOf, List.map_map]
  induction l with
  | nil => rfl
  | cons x l ih =>
    have hx := h x (by simp)
    simp only [List.map_cons, Function.comp_apply, List.cons.injEq]
    refine ⟨?_, ih (fun y hy => h y (by simp [hy]))⟩
    simp
    omega
theorem bytesOf_in (s : ByteArray) : ∀ x ∈ bytesOf s, 0 ≤ x ∧ x < 256 := by
  intro x hx
  simp only [bytesOf, List.mem_map] at hx
  obtain ⟨b, _, rfl⟩ := hx
  have := b.toNat_lt
  omega
theorem bytesOf_one {s t : ByteArray} (h : bytesOf s = bytesOf t) : s = t := by rw [← str_bytes s, ← str_bytes t, h]
theorem bytesOf_append (a b : ByteArray) : bytesOf (a ++ b) = bytesOf a ++ bytesOf b := by
  obtain ⟨⟨a⟩⟩ := a
  obtain ⟨⟨b⟩⟩ := b
  simp [bytesOf]
theorem pat_a : pat (bytesOf ⟨#[97, 42, 99]⟩) = some [.one 97, .many, .one 99] := by rfl
theorem pat_b : pat (bytesOf ⟨#[91]⟩) = none := by rfl
theorem mt_a : Mt [.one 97, .many, .one 99] (bytesOf ⟨#[97, 98, 98, 99]⟩) := by
  rw [show bytesOf ⟨#[97, 98, 98, 99]⟩ = [97, 98, 98, 99] from rfl, mt_one_cons rfl]
  refine ⟨rfl, ?_⟩
  rw [mt_many]
  exact ⟨2, by decide, by rw [show ([98, 98, 99] : List Int).drop 2 = [99] from rfl, mt_one_cons rfl]; exact ⟨rfl, rfl⟩⟩
theorem mt_b : ¬ Mt [.one 97, .many, .one 99] (bytesOf ⟨#[97, 98]⟩) := by
  rw [show bytesOf ⟨#[97, 98]⟩ = [97, 98] from rfl, mt_one_cons rfl]
  rintro ⟨_, h⟩
  rw [mt_many] at h
  obtain ⟨j, h1, h2⟩ := h
  rw [mt_one rfl] at h2
  obtain ⟨c, t, e, h3, _⟩ := h2
  have hm : c ∈ ([98] : List Int) := List.mem_of_mem_drop (i := j) (by rw [e]; simp)
  simp only [List.mem_cons, List.not_mem_nil, or_false] at hm
  subst hm
  cases h3
set_option maxHeartbeats 4000000 in
set_option maxRecDepth 100000 in
theorem awake31_calls (W : World) : Calls Try.prog 8 #[] W fun e W1 => e = .returned (.bool true) ∧ Below W.heap.size W W1 := by
  have m1 := mtB_t mt_a
  have m2 := mtB_f mt_b
  go_enter Try.func8, Try.ntmps8
  go_wp2_with (first | (go_at_call 10; have hq := HB3.out; clear hq; refine (match31_calls g _ _ ⟨#[97, 98]⟩ _ (HG2.out.below HB3x.out) (by decide)).mono ?_; rw [m2]; rintro e w4 ⟨rfl, hb⟩; have HB4 := Aside0.mk (below_step HB3.out hb); clear hb) | (go_at_call 10; have hq := HB2.out; clear hq; refine (match31_calls g _ _ ⟨#[97, 98, 98, 99]⟩ _ HG2.out (by decide)).mono ?_; rw [m1]; rintro e w3 ⟨rfl, hb⟩; have HB3 := Aside0.mk (below_step HB2.out hb); have HB3x := Aside0.mk hb; clear hb) | (go_at_call 9; have hq := HB1.out; clear hq; refine (parse_bad (s := ⟨#[91]⟩) (by decide) pat_b _).mono ?_; rintro e w2 ⟨rfl, hb⟩; have HB2 := Aside0.mk (below_step HB1.out hb); have HG2 := Aside0.mk (HG1.out.below hb); clear hb) | (go_at_call 9; refine (parse_ok (s := ⟨#[97, 42, 99]⟩) (by decide) pat_a _).mono ?_; rintro e w1 ⟨g, rfl, hg, hb⟩; have HB1 := Aside0.mk hb; have HG1 := Aside0.mk hg; clear hg hb))
  go_ret
  exact ⟨rfl, HB4.out⟩
end Go.Proofs.Ytbnlfiklkddolaa.Sep
