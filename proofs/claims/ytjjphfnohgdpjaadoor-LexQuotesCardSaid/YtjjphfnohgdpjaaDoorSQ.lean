/- The statement 'LexQuotes', its plain part: what All says of an x and a quoted text, closed or not. -/
import Derived.Test.YtjjphfnohgdpjaaDoorSLe
namespace Go.Proofs.YtjjphfnohgdpjaaDoor.SQ
set_option linter.unusedVariables false
set_option linter.unusedSimpArgs false
open Go.RowKit Go.Proofs.YtjjphfnohgdpjaaDoor.K Go.Proofs.YtjjphfnohgdpjaaDoor.SN Go.Proofs.YtjjphfnohgdpjaaDoor.SL Go.Proofs.YtjjphfnohgdpjaaDoorW.PrintWords
theorem first_x (X : B) : firstS (120 :: 39 :: X) = some (1, [120], 0, 1) := by
  have hs : spanN signsN (120 :: 39 :: X) = 1 := span_stop signsN 39 X (by decide) [120]
  unfold firstS
  simp only
  rw [if_pos (by decide)]
  unfold namedS
  rw [hs]
  unfold namedAt
  have h1 : isNm ((120 :: 39 :: X : B).take 1) = true := (by decide +kernel : isNm [120] = true)
  rw [if_pos h1]
  rfl
theorem first_open (T : B) (h : 39 ∉ T) : firstS (39 :: T) = none := by
  unfold firstS
  simp only
  rw [if_neg (by decide), if_neg (by decide), if_pos trivial]
  unfold quotedS quotedAt
  simp only [List.drop_succ_cons, List.drop_zero]
  rw [index_none 39 T h, if_pos (by decide)]
theorem first_closed (T : B) (h : 39 ∉ T) : firstS (39 :: (T ++ [39])) = if T.length > 64 then none else some (3, T, 0, T.length + 2) := by
  unfold firstS
  simp only
  rw [if_neg (by decide), if_neg (by decide), if_pos trivial]
  unfold quotedS quotedAt
  simp only [List.drop_succ_cons, List.drop_zero]
  rw [index_first 39 [] T h, if_neg (by omega)]
  by_cases hl : T.length > 64
  · rw [if_pos hl, if_pos (by omega)]
  · rw [if_neg hl, if_neg (by omega), Int.toNat_natCast, take_len]
theorem all_x (X : B) (hl : X.length ≤ 2000) : allS (120 :: 39 :: X) = outS [] ((⟨1, ⟨#[120]⟩, 0, 0⟩ : S40) :: (lexW (39 :: X) 1).1, (lexW (39 :: X) 1).2) := by
  have h0 : spanN spaceN (120 :: 39 :: X) = 0 := by unfold spanN; rw [List.takeWhile_cons_of_neg (by decide)]; rfl
  have h1 : spanN spaceN (39 :: X) = 0 := by unfold spanN; rw [List.takeWhile_cons_of_neg (by decide)]; rfl
  unfold allS
  rw [if_neg (by rw [List.length_cons, List.length_cons]; omega), h0, List.drop_zero, lexW_tok 0 (first_x X)]
  simp only [List.drop_succ_cons, List.drop_zero, h1, Nat.add_zero, Nat.zero_add]
  rfl
theorem all_open (T : B) (h : 39 ∉ T) (hl : T.length ≤ 2000) : allS (120 :: 39 :: T) = ([], 1, 2) := by
  rw [all_x T hl, lexW_bad 1 (by simp) (first_open T h)]
  rfl
theorem all_closed (T : B) (h : 39 ∉ T) (hl : T.length ≤ 1900) : allS (120 :: 39 :: (T ++ [39])) = if T.length > 64 then ([], 1, 2) else ([⟨1, ⟨#[120]⟩, 0, 0⟩, ⟨3, ⟨T.toArray⟩, 0, 1⟩], ((T.length + 3 : Nat) : Int), 0) := by
  have hf := first_closed T h
  rw [all_x (T ++ [39]) (by rw [List.length_append, List.length_singleton]; omega)]
  by_cases h64 : T.length > 64
  · rw [if_pos h64] at hf
    rw [if_pos h64, lexW_bad 1 (by simp) hf]
    rfl
  · rw [if_neg h64] at hf
    have hd : (39 :: (T ++ [39])).drop (T.length + 2) = [] := List.drop_of_length_le (by rw [List.length_cons, List.length_append, List.length_singleton]; omega)
    rw [if_neg h64, lexW_tok 1 hf, hd]
    have hz : spanN spaceN [] = 0 := rfl
    rw [hz, Nat.add_zero, hd, lexW_nil]
    unfold outS
    simp
    omega
end Go.Proofs.YtjjphfnohgdpjaaDoor.SQ
