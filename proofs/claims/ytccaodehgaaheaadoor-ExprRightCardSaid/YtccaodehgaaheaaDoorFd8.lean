/- The feed's number, text and truth, at any depth. -/
import Derived.Test.YtccaodehgaaheaaDoorFd6
import Derived.Test.YtccaodehgaaheaaDoorFd7
namespace Go.Proofs.YtccaodehgaaheaaDoor.R
open Go.RowKit Go.Proofs.YtccaodehgaaheaaDoorW.PrintWords Go.Proofs.YtccaodehgaaheaaDoorW.PrintLast Go.Proofs.YtccaodehgaaheaaDoorW.PrintMore
set_option linter.unusedVariables false
set_option linter.unusedSimpArgs false
theorem wrap_pred (n : Nat) (h : n + 1 ≤ 100) : IntKind.i64.wrap (((n + 1 : Nat) : Int) - 1) = (n : Int) := by rw [i64_w]; unfold wrap64; omega
theorem feed_number : ∀ (n : Nat), n ≤ 100 → ∀ (g : Nat) (A0 : Option Addr) (c0 : Nat) (A2 : Option Addr) (c2 : Nat) (A1 : Option Addr) (c1 : Nat) (l : List Int) (vars : List Slot) (own : Slot) (a many : Int) (w : World) (hin : FIn w g A0 c0 A2 c2 A1 c1 l vars own many a), Calls Tryd.prog 30 #[.pointer (some ⟨g, 0, none⟩), .agg #[.string own.f0, .slice A1 own.f1.length c1], .int .i64 (n : Int)] w fun e w' => ∃ A c, e = .returned (EV (numF n l a vars own).1 (.slice A ((numF n l a vars own).1).f5.length c)) ∧ FOut w w' g A0 c0 A2 c2 l vars many (numF n l a vars own).2 (numF n l a vars own).1 A c := by
  intro n
  induction n with
  | zero =>
    intro _ g A0 c0 A2 c2 A1 c1 l vars own a many w hin
    by_cases hm : Int.tmod (nx l a).1 8 < 3
    · rw [show numF 0 l a vars own = (litE ⟨1, rd numsL (Int.tmod (Int.tdiv (nx l a).1 8) 6), ⟨#[]⟩⟩, (nx l a).2) from by unfold numF; rw [if_pos hm]]
      exact number_lit _ g A0 c0 A2 c2 A1 c1 l vars own a many w hin hm
    · rw [show numF 0 l a vars own = ofF l (nx l a).2 vars own ⟨#[107, 120, 121]⟩ ⟨1, 1, ⟨#[]⟩⟩ from by unfold numF; rw [if_neg hm]]
      exact number_of _ g A0 c0 A2 c2 A1 c1 l vars own a many w hin hm (.inr (by decide))
  | succ n ih =>
    intro hn g A0 c0 A2 c2 A1 c1 l vars own a many w hin
    have hd : ¬ (((n + 1 : Nat) : Int) < 1) := by omega
    by_cases hm : Int.tmod (nx l a).1 8 < 3
    · rw [show numF (n + 1) l a vars own = (litE ⟨1, rd numsL (Int.tmod (Int.tdiv (nx l a).1 8) 6), ⟨#[]⟩⟩, (nx l a).2) from by rw [numF, if_pos hm]]
      exact number_lit _ g A0 c0 A2 c2 A1 c1 l vars own a many w hin hm
    · by_cases hm5 : Int.tmod (nx l a).1 8 < 5
      · rw [show numF (n + 1) l a vars own = ofF l (nx l a).2 vars own ⟨#[107, 120, 121]⟩ ⟨1, 1, ⟨#[]⟩⟩ from by rw [numF, if_neg hm, if_pos hm5]]
        exact number_of _ g A0 c0 A2 c2 A1 c1 l vars own a many w hin hm (.inl hm5)
      · by_cases he5 : Int.tmod (nx l a).1 8 = 5
        · rw [show numF (n + 1) l a vars own = (cntE own.f0, (nx l a).2) from by rw [numF, if_neg hm, if_neg hm5, if_pos he5]]
          exact number_count _ g A0 c0 A2 c2 A1 c1 l vars own a many w hin he5 hd
        · by_cases he6 : Int.tmod (nx l a).1 8 = 6
          · rw [show numF (n + 1) l a vars own = (unE ⟨#[45]⟩ (numF n l (nx l a).2 vars own).1, (numF n l (nx l a).2 vars own).2) from by rw [numF, if_neg hm, if_neg hm5, if_neg he5, if_pos he6]]
            exact number_un _ _ (wrap_pred n hn) g A0 c0 A2 c2 A1 c1 l vars own a many w hin _ _ (fun W i => ih (by omega) g A0 c0 A2 c2 A1 c1 l vars own _ many W i) he6 hd
          · rw [show numF (n + 1) l a vars own = (binE (rdOf ByteArray.empty arith (Int.tmod (Int.tdiv (nx l a).1 8) 5)) (numF n l (nx l a).2 vars own).1 (numF n l (numF n l (nx l a).2 vars own).2 vars own).1, (numF n l (numF n l (nx l a).2 vars own).2 vars own).2) from by rw [numF, if_neg hm, if_neg hm5, if_neg he5, if_neg he6]]
            exact number_bin _ _ (wrap_pred n hn) g A0 c0 A2 c2 A1 c1 l vars own a many w hin _ _ _ _ (fun W i => ih (by omega) g A0 c0 A2 c2 A1 c1 l vars own _ many W i) (fun W i => ih (by omega) g A0 c0 A2 c2 A1 c1 l vars own _ many W i) (Fed.num n hin.fed.next vars own) hm5 he5 he6 hd
theorem feed_text : ∀ (n : Nat), n ≤ 100 → ∀ (g : Nat) (A0 : Option Addr) (c0 : Nat) (A2 : Option Addr) (c2 : Nat) (A1 : Option Addr) (c1 : Nat) (l : List Int) (vars : List Slot) (own : Slot) (a many : Int) (w : World) (hin : FIn w g A0 c0 A2 c2 A1 c1 l vars own many a), Calls Tryd.prog 31 #[.pointer (some ⟨g, 0, none⟩), .agg #[.string own.f0, .slice A1 own.f1.length c1], .int .i64 (n : Int)] w fun e w' => ∃ A c, e = .returned (EV (textF n l a vars own).1 (.slice A ((textF n l a vars own).1).f5.length c)) ∧ FOut w w' g A0 c0 A2 c2 l vars many (textF n l a vars own).2 (textF n l a vars own).1 A c := by
  intro n
  induction n with
  | zero =>
    intro _ g A0 c0 A2 c2 A1 c1 l vars own a many w hin
    by_cases hm : Int.tmod (nx l a).1 4 = 0
    · rw [show textF 0 l a vars own = (litE ⟨3, 0, rdOf ByteArray.empty wordsL (Int.tmod (Int.tdiv (nx l a).1 4) 4)⟩, (nx l a).2) from by unfold textF; rw [if_pos hm]]
      exact text_lit _ g A0 c0 A2 c2 A1 c1 l vars own a many w hin hm
    · rw [show textF 0 l a vars own = ofF l (nx l a).2 vars own ⟨#[115]⟩ ⟨3, 0, ⟨#[97]⟩⟩ from by unfold textF; rw [if_neg hm]]
      exact text_of _ g A0 c0 A2 c2 A1 c1 l vars own a many w hin hm (.inr (by decide))
  | succ n ih =>
    intro hn g A0 c0 A2 c2 A1 c1 l vars own a many w hin
    have hd : ¬ (((n + 1 : Nat) : Int) < 1) := by omega
    by_cases hm : Int.tmod (nx l a).1 4 = 0
    · rw [show textF (n + 1) l a vars own = (litE ⟨3, 0, rdOf ByteArray.empty wordsL (Int.tmod (Int.tdiv (nx l a).1 4) 4)⟩, (nx l a).2) from by rw [textF, if_pos hm]]
      exact text_lit _ g A0 c0 A2 c2 A1 c1 l vars own a many w hin hm
    · by_cases hm3 : Int.tmod (nx l a).1 4 < 3
      · rw [show textF (n + 1) l a vars own = ofF l (nx l a).2 vars own ⟨#[115]⟩ ⟨3, 0, ⟨#[97]⟩⟩ from by rw [textF, if_neg hm, if_pos hm3]]
        exact text_of _ g A0 c0 A2 c2 A1 c1 l vars own a many w hin hm (.inl hm3)
      · rw [show textF (n + 1) l a vars own = (binE ⟨#[43]⟩ (textF n l (nx l a).2 vars own).1 (textF n l (textF n l (nx l a).2 vars own).2 vars own).1, (textF n l (textF n l (nx l a).2 vars own).2 vars own).2) from by rw [textF, if_neg hm, if_neg hm3]]
        exact text_bin _ _ (wrap_pred n hn) g A0 c0 A2 c2 A1 c1 l vars own a many w hin _ _ _ _ (fun W i => ih (by omega) g A0 c0 A2 c2 A1 c1 l vars own _ many W i) (fun W i => ih (by omega) g A0 c0 A2 c2 A1 c1 l vars own _ many W i) (Fed.text n hin.fed.next vars own) hm hm3 hd
theorem feed_truthZ (d : Int) : ∀ (g : Nat) (A0 : Option Addr) (c0 : Nat) (A2 : Option Addr) (c2 : Nat) (A1 : Option Addr) (c1 : Nat) (l : List Int) (vars : List Slot) (own : Slot) (a many : Int) (w : World) (hin : FIn w g A0 c0 A2 c2 A1 c1 l vars own many a) (hm : Int.tmod (nx l a).1 16 ≠ 0) (hm1 : Int.tmod (nx l a).1 16 ≠ 1) (hm2 : 0 < d → 6 ≤ Int.tmod (nx l a).1 16), Calls Tryd.prog 32 #[.pointer (some ⟨g, 0, none⟩), .agg #[.string own.f0, .slice A1 own.f1.length c1], .int .i64 d] w fun e w' => ∃ A c, e = .returned (EV (truthZ l a vars own).1 (.slice A ((truthZ l a vars own).1).f5.length c)) ∧ FOut w w' g A0 c0 A2 c2 l vars many (truthZ l a vars own).2 (truthZ l a vars own).1 A c := by
  intro g A0 c0 A2 c2 A1 c1 l vars own a many w hin hm hm1 hm2
  unfold truthZ
  by_cases h6 : Int.tmod (nx l a).1 16 = 6
  · rw [if_pos h6]
    exact truth_text d g A0 c0 A2 c2 A1 c1 l vars own a many w hin _ _ _ _ (fun W i => feed_text 1 (by decide) g A0 c0 A2 c2 A1 c1 l vars own _ many W i) (fun W i => feed_text 1 (by decide) g A0 c0 A2 c2 A1 c1 l vars own _ many W i) (Fed.text 1 hin.fed.next vars own) h6
  · rw [if_neg h6]
    exact truth_num d g A0 c0 A2 c2 A1 c1 l vars own a many w hin _ _ _ _ (fun W i => feed_number 1 (by decide) g A0 c0 A2 c2 A1 c1 l vars own _ many W i) (fun W i => feed_number 1 (by decide) g A0 c0 A2 c2 A1 c1 l vars own _ many W i) (Fed.num 1 hin.fed.next vars own) hm hm1 h6 hm2
theorem feed_truth : ∀ (n : Nat), n ≤ 100 → ∀ (g : Nat) (A0 : Option Addr) (c0 : Nat) (A2 : Option Addr) (c2 : Nat) (A1 : Option Addr) (c1 : Nat) (l : List Int) (vars : List Slot) (own : Slot) (a many : Int) (w : World) (hin : FIn w g A0 c0 A2 c2 A1 c1 l vars own many a), Calls Tryd.prog 32 #[.pointer (some ⟨g, 0, none⟩), .agg #[.string own.f0, .slice A1 own.f1.length c1], .int .i64 (n : Int)] w fun e w' => ∃ A c, e = .returned (EV (truthF n l a vars own).1 (.slice A ((truthF n l a vars own).1).f5.length c)) ∧ FOut w w' g A0 c0 A2 c2 l vars many (truthF n l a vars own).2 (truthF n l a vars own).1 A c := by
  intro n
  induction n with
  | zero =>
    intro _ g A0 c0 A2 c2 A1 c1 l vars own a many w hin
    by_cases hm : Int.tmod (nx l a).1 16 = 0
    · rw [show truthF 0 l a vars own = (litE ⟨2, Int.tmod (Int.tdiv (nx l a).1 16) 2, ⟨#[]⟩⟩, (nx l a).2) from by unfold truthF; rw [if_pos hm]]
      exact truth_lit _ g A0 c0 A2 c2 A1 c1 l vars own a many w hin hm
    · by_cases hm1 : Int.tmod (nx l a).1 16 = 1
      · rw [show truthF 0 l a vars own = ofF l (nx l a).2 vars own ⟨#[116]⟩ ⟨2, 1, ⟨#[]⟩⟩ from by unfold truthF; rw [if_neg hm, if_pos hm1]]
        exact truth_of _ g A0 c0 A2 c2 A1 c1 l vars own a many w hin hm1
      · rw [show truthF 0 l a vars own = truthZ l a vars own from by unfold truthF; rw [if_neg hm, if_neg hm1]]
        exact feed_truthZ _ g A0 c0 A2 c2 A1 c1 l vars own a many w hin hm hm1 (fun h => absurd h (by decide))
  | succ n ih =>
    intro hn g A0 c0 A2 c2 A1 c1 l vars own a many w hin
    have hd : 0 < ((n + 1 : Nat) : Int) := by omega
    by_cases hm : Int.tmod (nx l a).1 16 = 0
    · rw [show truthF (n + 1) l a vars own = (litE ⟨2, Int.tmod (Int.tdiv (nx l a).1 16) 2, ⟨#[]⟩⟩, (nx l a).2) from by rw [truthF, if_pos hm]]
      exact truth_lit _ g A0 c0 A2 c2 A1 c1 l vars own a many w hin hm
    · by_cases hm1 : Int.tmod (nx l a).1 16 = 1
      · rw [show truthF (n + 1) l a vars own = ofF l (nx l a).2 vars own ⟨#[116]⟩ ⟨2, 1, ⟨#[]⟩⟩ from by rw [truthF, if_neg hm, if_pos hm1]]
        exact truth_of _ g A0 c0 A2 c2 A1 c1 l vars own a many w hin hm1
      · by_cases hm2 : Int.tmod (nx l a).1 16 = 2
        · rw [show truthF (n + 1) l a vars own = (unE ⟨#[33]⟩ (truthF n l (nx l a).2 vars own).1, (truthF n l (nx l a).2 vars own).2) from by rw [truthF, if_neg hm, if_neg hm1, if_pos hm2]]
          exact truth_un _ _ (wrap_pred n hn) g A0 c0 A2 c2 A1 c1 l vars own a many w hin _ _ (fun W i => ih (by omega) g A0 c0 A2 c2 A1 c1 l vars own _ many W i) hm2 hd
        · by_cases hm6 : Int.tmod (nx l a).1 16 < 6
          · rw [show truthF (n + 1) l a vars own = (binE (rdOf ByteArray.empty logicL (Int.tmod (Int.tdiv (nx l a).1 16) 2)) (truthF n l (nx l a).2 vars own).1 (truthF n l (truthF n l (nx l a).2 vars own).2 vars own).1, (truthF n l (truthF n l (nx l a).2 vars own).2 vars own).2) from by rw [truthF, if_neg hm, if_neg hm1, if_neg hm2, if_pos hm6]]
            exact truth_logic _ _ (wrap_pred n hn) g A0 c0 A2 c2 A1 c1 l vars own a many w hin _ _ _ _ (fun W i => ih (by omega) g A0 c0 A2 c2 A1 c1 l vars own _ many W i) (fun W i => ih (by omega) g A0 c0 A2 c2 A1 c1 l vars own _ many W i) (Fed.truth n hin.fed.next vars own) hm hm1 hm2 hm6 hd
          · rw [show truthF (n + 1) l a vars own = truthZ l a vars own from by rw [truthF, if_neg hm, if_neg hm1, if_neg hm2, if_neg hm6]]
            exact feed_truthZ _ g A0 c0 A2 c2 A1 c1 l vars own a many w hin hm hm1 (fun _ => by omega)
end Go.Proofs.YtccaodehgaaheaaDoor.R
