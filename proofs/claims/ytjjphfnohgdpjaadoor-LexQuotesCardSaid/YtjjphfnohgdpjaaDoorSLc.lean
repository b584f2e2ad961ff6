/- Layer 6 in plain Lean: what follows a word does not turn it; a word that is put is the same word. -/
import Derived.Test.YtjjphfnohgdpjaaDoorSLa
namespace Go.Proofs.YtjjphfnohgdpjaaDoor.SL
set_option linter.unusedVariables false
set_option linter.unusedSimpArgs false
open Go.RowKit Go.Proofs.YtjjphfnohgdpjaaDoor.K Go.Proofs.YtjjphfnohgdpjaaDoor.SN Go.Proofs.YtjjphfnohgdpjaaDoorW.PrintWords
/-! Spans -/
theorem span_stop (set : B) (c : UInt8) (r : B) (hc : set.contains c = false) : ∀ s : B, spanN set (s ++ c :: r) = spanN set s
  | [] => by unfold spanN; rw [List.nil_append, List.takeWhile_cons_of_neg (by rw [hc]; simp)]; rfl
  | x :: s => by
    have ih := span_stop set c r hc s
    unfold spanN at ih ⊢
    rw [List.cons_append]
    by_cases h : set.contains x = true
    · rw [List.takeWhile_cons_of_pos h, List.takeWhile_cons_of_pos h, List.length_cons, List.length_cons, ih]
    · rw [List.takeWhile_cons_of_neg h, List.takeWhile_cons_of_neg h]
theorem span_inside (set r : B) : ∀ s : B, (∃ c ∈ s, set.contains c = false) → spanN set (s ++ r) = spanN set s
  | [], h => by obtain ⟨c, hc, _⟩ := h; simp at hc
  | x :: s, h => by
    unfold spanN
    rw [List.cons_append]
    by_cases hx : set.contains x = true
    · have ih := span_inside set r s (by
        obtain ⟨c, hc, h2⟩ := h
        rcases List.mem_cons.1 hc with rfl | hc
        · rw [hx] at h2; cases h2
        · exact ⟨c, hc, h2⟩)
      unfold spanN at ih
      rw [List.takeWhile_cons_of_pos hx, List.takeWhile_cons_of_pos hx, List.length_cons, List.length_cons, ih]
    · rw [List.takeWhile_cons_of_neg hx, List.takeWhile_cons_of_neg hx]
theorem span_all (set : B) : ∀ s : B, (∀ c ∈ s, set.contains c = true) → spanN set s = s.length
  | [], _ => rfl
  | x :: s, h => by
    have ih := span_all set s (fun c hc => h c (List.mem_cons_of_mem _ hc))
    unfold spanN at ih ⊢
    rw [List.takeWhile_cons_of_pos (h x List.mem_cons_self), List.length_cons, List.length_cons, ih]
theorem span_take (set s : B) : ∀ c ∈ s.take (spanN set s), set.contains c = true := by
  intro c hc
  have e : s.takeWhile set.contains = s.take (spanN set s) := List.prefix_iff_eq_take.1 (List.takeWhile_prefix _)
  rw [← e] at hc
  exact List.all_eq_true.1 List.all_takeWhile c hc
theorem span_next (set s : B) : ∀ c, s[spanN set s]? = some c → set.contains c = false := by
  intro c hc
  have e : s = s.takeWhile set.contains ++ s.dropWhile set.contains := (List.takeWhile_append_dropWhile).symm
  have h2 : s[spanN set s]? = (s.dropWhile set.contains)[0]? := by
    conv => lhs; rw [e]
    unfold spanN
    rw [List.getElem?_append_right (by rw [← e]; exact Nat.le_refl _)]
    simp
  rw [h2] at hc
  cases hd : s.dropWhile set.contains with
  | nil => rw [hd] at hc; simp at hc
  | cons x r =>
    rw [hd] at hc
    simp only [List.getElem?_cons_zero, Option.some.injEq] at hc
    subst hc
    have := List.head?_dropWhile_not set.contains s
    rw [hd] at this
    simpa using this
/-! The first byte of some kind -/
theorem index_app (c : UInt8) (r : B) : ∀ s : B, 0 ≤ Lib.indexByte s c → Lib.indexByte (s ++ r) c = Lib.indexByte s c
  | [], h => by simp [Lib.indexByte] at h
  | x :: s, h => by
    rw [List.cons_append]
    unfold Lib.indexByte at h ⊢
    by_cases hx : (x == c) = true
    · rw [if_pos hx, if_pos hx]
    · rw [if_neg hx] at h
      rw [if_neg hx, if_neg hx]
      by_cases h1 : (Lib.indexByte s c == -1) = true
      · rw [if_pos h1] at h; omega
      · have hg := Lib.indexByte_ge s c
        have h2 : ¬ Lib.indexByte s c = -1 := by simpa using h1
        rw [index_app c r s (by omega)]
theorem index_first (c : UInt8) (r : B) : ∀ s : B, c ∉ s → Lib.indexByte (s ++ c :: r) c = s.length
  | [], _ => by simp [Lib.indexByte]
  | x :: s, h => by
    rw [List.cons_append]
    unfold Lib.indexByte
    have hx : ¬ (x == c) = true := by
      intro e
      exact h (by rw [beq_iff_eq.1 e]; exact List.mem_cons_self)
    have ih := index_first c r s (fun hm => h (List.mem_cons_of_mem _ hm))
    rw [if_neg hx, ih, if_neg (by intro e; rw [beq_iff_eq] at e; omega), List.length_cons]
    omega
theorem index_none (c : UInt8) : ∀ s : B, c ∉ s → Lib.indexByte s c = -1
  | [], _ => rfl
  | x :: s, h => by
    unfold Lib.indexByte
    have hx : ¬ (x == c) = true := by
      intro e
      exact h (by rw [beq_iff_eq.1 e]; exact List.mem_cons_self)
    rw [if_neg hx, index_none c s (fun hm => h (List.mem_cons_of_mem _ hm)), if_pos (show ((-1 : Int) == -1) = true from rfl)]
theorem index_before (c : UInt8) : ∀ s : B, 0 ≤ Lib.indexByte s c → c ∉ s.take (Lib.indexByte s c).toNat
  | [], _ => by simp
  | x :: s, h => by
    unfold Lib.indexByte at h ⊢
    by_cases hx : (x == c) = true
    · rw [if_pos hx]; simp
    · rw [if_neg hx] at h ⊢
      by_cases h1 : (Lib.indexByte s c == -1) = true
      · rw [if_pos h1] at h; omega
      · rw [if_neg h1]
        have hg := Lib.indexByte_ge s c
        have h2 : ¬ Lib.indexByte s c = -1 := by simpa using h1
        have ih := index_before c s (by omega)
        rw [show (Lib.indexByte s c + 1).toNat = (Lib.indexByte s c).toNat + 1 by omega, List.take_succ_cons]
        intro hm
        rcases List.mem_cons.1 hm with e | hm
        · exact hx (by rw [e]; simp)
        · exact ih hm
/-! The sign at the beginning -/
theorem best_congr (s s' : B) : ∀ (l : List ByteArray) (b : ByteArray), (∀ x ∈ l, Lib.hasPrefix s x.data.toList = Lib.hasPrefix s' x.data.toList) → bestSign s l b = bestSign s' l b
  | [], _, _ => rfl
  | x :: r, b, h => by
    unfold bestSign
    rw [h x List.mem_cons_self]
    exact best_congr s s' r _ (fun y hy => h y (List.mem_cons_of_mem _ hy))
theorem signs_short : ∀ x ∈ signsL, x.data.toList.length ≤ 2 := by decide +kernel
theorem prefix_take (s x : B) (n : Nat) (h : x.length ≤ n) : Lib.hasPrefix s x = Lib.hasPrefix (s.take n) x := by
  unfold Lib.hasPrefix
  rw [Bool.eq_iff_iff, List.isPrefixOf_iff_prefix, List.isPrefixOf_iff_prefix, List.prefix_take_iff]
  exact ⟨fun h1 => ⟨h1, h⟩, fun h1 => h1.1⟩
theorem best_take (s : B) (b : ByteArray) : bestSign s signsL b = bestSign (s.take 2) signsL b :=
  best_congr _ _ _ _ fun x hx => prefix_take s _ 2 (signs_short x hx)
theorem best_again : ∀ x ∈ signsL, bestSign x.data.toList signsL ⟨#[]⟩ = x ∧ bestSign ((x.data.toList ++ [32]).take 2) signsL ⟨#[]⟩ = x := by decide +kernel
theorem signs_heads : ∀ x ∈ signsL, x.data.toList ≠ [] ∧ letters.contains (x.data.toList.headD 0) = false ∧ digitsN.contains (x.data.toList.headD 0) = false ∧ x.data.toList.headD 0 ≠ 39 := by decide +kernel
theorem best_ext (s r : B) (b : ByteArray) (h : 2 ≤ s.length) : bestSign (s ++ r) signsL b = bestSign s signsL b := by
  rw [best_take (s ++ r), best_take s, List.take_append_of_le_length h]
/-! What follows a word that ends -/
/-- A text that ends with a space. -/
def Ended (s : B) : Prop := ∃ r c, s = r ++ [c] ∧ spaceN.contains c = true
theorem space_cases (c : UInt8) (h : spaceN.contains c = true) : c = 32 ∨ c = 9 ∨ c = 10 ∨ c = 13 := by
  rw [List.contains_iff_mem] at h
  simpa [spaceN] using h
theorem space_no (c : UInt8) (h : spaceN.contains c = true) : signsN.contains c = false ∧ digitsN.contains c = false ∧ letters.contains c = false ∧ c ≠ 39 := by
  rcases space_cases c h with rfl | rfl | rfl | rfl <;> decide
theorem space_heads_at : ∀ c ∈ spaceN, ∀ x ∈ signsL, Lib.hasPrefix [c] x.data.toList = false := by decide +kernel
theorem space_heads (c : UInt8) (hc : spaceN.contains c = true) (x : ByteArray) (hx : x ∈ signsL) (h : Lib.hasPrefix [c] x.data.toList = true) : False := by
  rw [space_heads_at c (List.contains_iff_mem.1 hc) x hx] at h
  cases h
theorem Ended.drop {s : B} (h : Ended s) (n : Nat) (hn : n < s.length) : Ended (s.drop n) := by
  obtain ⟨r, c, rfl, hc⟩ := h
  rw [List.length_append, List.length_singleton] at hn
  exact ⟨r.drop n, c, by rw [List.drop_append_of_le_length (by omega)], hc⟩
theorem first_ext {s : B} (hs : Ended s) (r : B) {kd : Int} {t : B} {v : Int} {m : Nat} (h : firstS s = some (kd, t, v, m)) : firstS (s ++ r) = some (kd, t, v, m) := by
  obtain ⟨s', c, e, hc⟩ := hs
  obtain ⟨n1, n2, n3, n4⟩ := space_no c hc
  have hm : c ∈ s := by rw [e]; simp
  cases s with
  | nil => simp [firstS] at h
  | cons x l =>
    have hb := first_bounds h
    have hsp : spanN signsN ((x :: l) ++ r) = spanN signsN (x :: l) := span_inside _ _ _ ⟨c, hm, n1⟩
    have hdp : spanN digitsN ((x :: l) ++ r) = spanN digitsN (x :: l) := span_inside _ _ _ ⟨c, hm, n2⟩
    unfold firstS at h ⊢
    rw [List.cons_append] at hsp hdp ⊢
    simp only at h ⊢
    by_cases h1 : letters.contains x = true
    · rw [if_pos h1] at h ⊢
      unfold namedS at h ⊢
      rw [hsp]
      unfold namedAt at h ⊢
      have ht : (x :: (l ++ r)).take (spanN signsN (x :: l)) = (x :: l).take (spanN signsN (x :: l)) := by
        rw [← List.cons_append, List.take_append_of_le_length (span_le _ _)]
      rw [ht]
      exact h
    · rw [if_neg h1] at h ⊢
      by_cases h2 : digitsN.contains x = true
      · rw [if_pos h2] at h ⊢
        unfold countedS at h ⊢
        rw [hdp]
        unfold countedAt at h ⊢
        have ht : (x :: (l ++ r)).take (spanN digitsN (x :: l)) = (x :: l).take (spanN digitsN (x :: l)) := by
          rw [← List.cons_append, List.take_append_of_le_length (span_le _ _)]
        rw [ht]
        exact h
      · rw [if_neg h2] at h ⊢
        by_cases h3 : x = 39
        · rw [if_pos h3] at h ⊢
          unfold quotedS at h ⊢
          simp only [List.drop_succ_cons, List.drop_zero] at h ⊢
          have hn : 0 ≤ Lib.indexByte l 39 := by
            refine Classical.byContradiction fun hn => ?_
            unfold quotedAt at h
            rw [if_pos (by omega)] at h
            cases h
          rw [index_app 39 r l hn]
          have hl := indexByte_lt l 39
          unfold quotedAt at h ⊢
          simp only [List.drop_succ_cons, List.drop_zero] at h ⊢
          rw [List.take_append_of_le_length (by omega)]
          exact h
        · rw [if_neg h3] at h ⊢
          unfold signedS at h ⊢
          have h2l : 2 ≤ (x :: l).length := by
            cases l with
            | nil =>
              exfalso
              have hx : x = c := (List.mem_singleton.1 hm).symm
              subst hx
              unfold signedAt at h
              rcases best_any [x] signsL ⟨#[]⟩ with e1 | ⟨e1, e2⟩
              · rw [e1, if_pos rfl] at h; cases h
              · obtain ⟨q1, q2, q3, q4⟩ := signs_heads _ e1
                exact space_heads x hc _ e1 e2
            | cons y l => simp
          rw [← List.cons_append, best_ext _ _ _ h2l]
          exact h
end Go.Proofs.YtjjphfnohgdpjaaDoor.SL
