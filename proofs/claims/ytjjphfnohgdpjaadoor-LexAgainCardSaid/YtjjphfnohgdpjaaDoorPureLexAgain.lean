/- The statement 'LexAgain' as plain Lean: what is put of the words of a text has the same words, one space between; their places follow. -/
import Derived.Test.YtjjphfnohgdpjaaDoorSLe
import Derived.Test.YtjjphfnohgdpjaaDoorSLw
import Derived.Test.YtjjphfnohgdpjaaDoorK12
namespace Go.Proofs.YtjjphfnohgdpjaaDoor.Pure
set_option linter.unusedVariables false
set_option linter.unusedSimpArgs false
open Go.RowKit Go.Proofs.YtjjphfnohgdpjaaDoor.K Go.Proofs.YtjjphfnohgdpjaaDoor.SN Go.Proofs.YtjjphfnohgdpjaaDoor.SL Go.Proofs.YtjjphfnohgdpjaaDoorW.PrintWords
theorem wf8 {x : Int} (h : (Lit.int .u8 x).wf = true) : 0 ≤ x ∧ x ≤ 255 := by simpa [Lit.wf, IntKind.min, IntKind.max, IntKind.signed, IntKind.bits] using h
theorem places_len : ∀ (p : Nat) (l : List S40), (places p l).length = l.length
  | _, [] => rfl
  | p, x :: r => by rw [places, List.length_cons, List.length_cons, places_len]
theorem places_put : ∀ (p : Nat) (l : List S40), (places p l).map putS1 = l.map putS1
  | _, [] => rfl
  | p, x :: r => by rw [places, List.map_cons, List.map_cons, places_put]; rfl
/-- What All says of a text that is well. -/
theorem all_good (t : B) (h : (allS t).2.2 = 0) : ∀ x ∈ (allS t).1, SL.Good x := by
  unfold allS at h ⊢
  by_cases h1 : t.length > 2048
  · rw [if_pos h1] at h; cases h
  · rw [if_neg h1] at h ⊢
    unfold outS at h ⊢
    by_cases h2 : (lexW (t.drop (spanN spaceN t)) (spanN spaceN t)).2.2 = 0
    · rw [if_pos h2]
      intro x hx
      simp only [List.nil_append] at hx
      exact lexW_good _ _ _ (Nat.le_refl _) x hx
    · rw [if_neg h2] at h; exact absurd h h2
theorem lexW_count : ∀ (n : Nat) (s : B) (p : Nat), s.length ≤ n → (lexW s p).1.length ≤ s.length
  | 0, s, p, h => by
    have : s = [] := List.length_eq_zero_iff.1 (by omega)
    subst this
    rw [lexW_nil]; exact Nat.le_refl _
  | n + 1, s, p, h => by
    by_cases h0 : s = []
    · subst h0; rw [lexW_nil]; exact Nat.le_refl _
    · cases hF : firstS s with
      | none => rw [lexW_bad p h0 hF]; exact Nat.zero_le _
      | some y =>
        obtain ⟨kd, t, v, m⟩ := y
        have hb := first_bounds hF
        rw [lexW_tok p hF, List.length_cons]
        have := lexW_count n (s.drop (m + spanN spaceN (s.drop m))) (p + (m + spanN spaceN (s.drop m))) (by rw [List.length_drop]; omega)
        rw [List.length_drop] at this
        omega
theorem all_count (t : B) : (allS t).1.length ≤ 2048 := by
  unfold allS
  by_cases h1 : t.length > 2048
  · rw [if_pos h1]; exact Nat.zero_le _
  · rw [if_neg h1]
    unfold outS
    split
    · simp only [List.nil_append]
      have := lexW_count _ (t.drop (spanN spaceN t)) (spanN spaceN t) (Nat.le_refl _)
      rw [List.length_drop] at this
      omega
    · exact Nat.zero_le _
theorem first_len {s : B} {kd : Int} {t : B} {v : Int} {m : Nat} (h : firstS s = some (kd, t, v, m)) : t.length ≤ m := by
  rcases first_kinds h with ⟨x, t', e, h1, h2, _, h3, h4⟩ | ⟨x, t', e, h1, h2, h3, _, h4, h5, _, h6⟩ | ⟨_, _, h1, h2, h3, r', _⟩ | ⟨_, _, h1, b, h2, e⟩ <;> omega
theorem lexW_texts : ∀ (n : Nat) (s : B) (p : Nat), s.length ≤ n → ∀ x ∈ (lexW s p).1, x.f1.size ≤ s.length
  | 0, s, p, h, x, hx => by
    have : s = [] := List.length_eq_zero_iff.1 (by omega)
    subst this
    rw [lexW_nil] at hx; cases hx
  | n + 1, s, p, h, x, hx => by
    by_cases h0 : s = []
    · subst h0; rw [lexW_nil] at hx; cases hx
    · cases hF : firstS s with
      | none => rw [lexW_bad p h0 hF] at hx; cases hx
      | some y =>
        obtain ⟨kd, t, v, m⟩ := y
        have hb := first_bounds hF
        rw [lexW_tok p hF] at hx
        rcases List.mem_cons.1 hx with rfl | hx
        · have := first_len hF
          show t.toArray.size ≤ _
          rw [List.size_toArray]; omega
        · have := lexW_texts n _ _ (by rw [List.length_drop]; omega) x hx
          rw [List.length_drop] at this
          omega
theorem all_texts (t : B) : ∀ x ∈ (allS t).1, x.f1.size ≤ 2048 := by
  unfold allS
  by_cases h1 : t.length > 2048
  · rw [if_pos h1]; intro x hx; cases hx
  · rw [if_neg h1]
    unfold outS
    split
    · simp only [List.nil_append]
      intro x hx
      have := lexW_texts _ (t.drop (spanN spaceN t)) (spanN spaceN t) (Nat.le_refl _) x hx
      rw [List.length_drop] at this
      omega
    · intro x hx; cases hx
theorem all_bad (t : B) (h : (allS t).2.2 ≠ 0) : (allS t).1 = [] := by
  unfold allS at h ⊢
  by_cases h1 : t.length > 2048
  · rw [if_pos h1]
  · rw [if_neg h1] at h ⊢
    unfold outS at h ⊢
    split
    · rename_i h2; rw [if_pos h2] at h; exact absurd rfl h
    · rfl
theorem all_put (l : List S40) (hg : ∀ x ∈ l, SL.Good x) (hl : (Lib.join (l.map putS1) [32]).length ≤ 2048) : allS (Lib.join (l.map putS1) [32]) = (places 0 l, ((Lib.join (l.map putS1) [32]).length : Int), 0) := by
  unfold allS
  rw [if_neg (by omega)]
  have hs : spanN spaceN (Lib.join (l.map putS1) [32]) = 0 := by
    cases l with
    | nil => rfl
    | cons x r =>
      obtain ⟨c, q, e, hc⟩ := join_head (x :: r) hg (by simp)
      rw [e]
      unfold spanN
      rw [List.takeWhile_cons_of_neg (by rw [hc]; simp)]
      rfl
  rw [hs, List.drop_zero, lex_put l 0 hg]
  unfold outS
  rw [if_pos rfl, List.nil_append, Nat.zero_add]
theorem wr (x : Int) (h : -9223372036854775808 ≤ x ∧ x < 9223372036854775808) : wrap64 x = x := by unfold wrap64; omega
theorem again_l0 (l : List S40) (T : ByteArray) (hg : ∀ x ∈ l, SL.Good x) (hl : l.length ≤ 2048) (hs : ∀ x ∈ l, x.f1.size ≤ 2048) (hT : T.data.toList = Lib.join (l.map putS1) [32]) :
    ∀ (d i p : Nat), i + d = l.length → p ≤ 4096 * i → (places 0 l).drop i = places p (l.drop i) → Ev (fun k => marshallinglaw06_LexAgain.l0 k true l T (places 0 l) (p : Int) (i : Int)) true := by
  intro d
  induction d with
  | zero =>
    intro i p hi hp hd
    have hP := put_ev (places 0 l) (by rw [places_len]; omega) (by
      intro x hx
      have : ∀ (q : Nat) (r : List S40), (∀ y ∈ r, y.f1.size ≤ 2048) → ∀ y ∈ places q r, y.f1.size ≤ 4096 := by
        intro q r
        induction r generalizing q with
        | nil => intro _ y hy; cases hy
        | cons a r ih =>
          intro hr y hy
          rw [places] at hy
          rcases List.mem_cons.1 hy with rfl | hy
          · have := hr a List.mem_cons_self
            show a.f1.size ≤ 4096
            omega
          · exact ih _ (fun z hz => hr z (List.mem_cons_of_mem _ hz)) y hy
      exact this 0 l hs x hx)
    rw [places_put] at hP
    refine Ev.step (f := fun k => _) (fun k => by rw [marshallinglaw06_LexAgain.l0]) ?_
    refine Ev.neg (by omega) (Ev.pos rfl (Ev.bind hP (Ev.ret ?_)))
    rw [tl, tl, hT]
    show some (_ == _) = _
    rw [beq_self_eq_true]
  | succ d ih =>
    intro i p hi hp hd
    have hlt : i < l.length := by omega
    have hlt2 : i < (places 0 l).length := by rw [places_len]; exact hlt
    have hx := hs l[i] (List.getElem_mem hlt)
    rw [List.drop_eq_getElem_cons hlt, List.drop_eq_getElem_cons hlt2, places, List.cons.injEq] at hd
    obtain ⟨hd1, hd2⟩ := hd
    have e1 : rd_T40 l (i : Int) = l[i] := by simp [rd_T40, hlt]
    have e2 : rd_T40 (places 0 l) (i : Int) = ⟨l[i].f0, l[i].f1, l[i].f2, (p : Int)⟩ := by
      have : rd_T40 (places 0 l) (i : Int) = (places 0 l)[i] := by simp [rd_T40, hlt2]
      rw [this, hd1]
    have hq := put1_len l[i]
    have hsz : (putS1 l[i]).length = l[i].f1.size + (if l[i].f0 = 3 then 2 else 0) := by
      unfold putS1 put1
      split
      · rw [List.length_cons, List.length_append, List.length_singleton, dsize]
      · rw [dsize]; rfl
    refine Ev.step (f := fun k => _) (fun k => by rw [marshallinglaw06_LexAgain.l0]) ?_
    rw [e1, e2]
    refine Ev.pos (by omega) (Ev.pos (by omega) (Ev.pos (by rw [places_len]; omega) (Ev.neg (by simp) ?_)))
    have hI := ih (i + 1) (p + (putS1 l[i]).length + 1) (by omega) (by omega) hd2
    have hb : (p : Int) + (l[i].f1.size : Int) + 4 < 4611686018427387904 := by omega
    by_cases h3 : l[i].f0 = 3
    · rw [if_pos h3] at hsz
      refine Ev.pos h3 ?_
      rw [wr ((p : Int) + (l[i].f1.size : Int)) (by omega), wr ((p : Int) + (l[i].f1.size : Int) + 1) (by omega), wr ((p : Int) + (l[i].f1.size : Int) + 1 + 2) (by omega), wr ((i : Int) + 1) (by omega), show ((p : Int) + (l[i].f1.size : Int) + 1 + 2) = ((p + (putS1 l[i]).length + 1 : Nat) : Int) by omega, show ((i : Int) + 1) = ((i + 1 : Nat) : Int) by omega]
      exact hI
    · rw [if_neg h3] at hsz
      refine Ev.neg h3 ?_
      rw [wr ((p : Int) + (l[i].f1.size : Int)) (by omega), wr ((p : Int) + (l[i].f1.size : Int) + 1) (by omega), wr ((i : Int) + 1) (by omega), show ((p : Int) + (l[i].f1.size : Int) + 1) = ((p + (putS1 l[i]).length + 1 : Nat) : Int) by omega, show ((i : Int) + 1) = ((i + 1 : Nat) : Int) by omega]
      exact hI
theorem LexAgain : ∀ (l0 : List Int) (a1 : Bool), l0.length ≤ maxLen → l0.length * 1 ≤ 140737488351232 → (∀ x ∈ l0, (Lit.int .u8 x).wf = true) → ∃ k, marshallinglaw06_LexAgain.f k l0 a1 = some true := by
  intro l0 a1 _ _ w0
  obtain ⟨t, e1, e2, _⟩ := words_ev l0 a1 (fun x hx => wf8 (w0 x hx))
  have ha := all_ev t
  refine Ev.rounds ?_
  unfold marshallinglaw06_LexAgain.f
  refine Ev.bind examples_ev (Ev.pos rfl (Ev.bind e1 (Ev.bind ha ?_)))
  have hc := all_count t.data.toList
  have hs := all_texts t.data.toList
  by_cases h0 : (allS t.data.toList).2.2 = 0
  · have hg := all_good t.data.toList h0
    generalize (allS t.data.toList).1 = l at hc hs hg ⊢
    have hP := put_ev l (by omega) (fun x hx => by have := hs x hx; omega)
    refine Ev.pos h0 (Ev.bind hP ?_)
    have hb := all_ev ⟨(Lib.join (l.map putS1) [32]).toArray⟩
    rw [mk_data] at hb
    refine Ev.bind hb ?_
    have hsz : (⟨(Lib.join (l.map putS1) [32]).toArray⟩ : ByteArray).size = (Lib.join (l.map putS1) [32]).length := by rw [← dsize, mk_data]
    rw [hsz]
    by_cases h1 : ((Lib.join (l.map putS1) [32]).length : Int) > 2048
    · refine Ev.pos h1 (Ev.ret ?_)
      have : allS (Lib.join (l.map putS1) [32]) = ([], 2048, 4) := by unfold allS; rw [if_pos (by omega)]
      rw [this]; rfl
    · rw [all_put l hg (by omega)]
      refine Ev.neg h1 (Ev.pos rfl (Ev.pos (by rw [places_len]) ?_))
      refine Ev.step (f := fun k => _) (fun k => by rw [marshallinglaw06_LexAgain.j0]) ?_
      refine Ev.neg (by simp) ?_
      exact again_l0 l _ hg hc hs (mk_data _) l.length 0 0 (by omega) (by omega) (by simp)
  · refine Ev.neg h0 (Ev.ret ?_)
    rw [all_bad _ h0]; rfl
end Go.Proofs.YtjjphfnohgdpjaaDoor.Pure
