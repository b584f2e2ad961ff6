/- The statement 'LexTells' as plain Lean: any text has the words, or the error and the place, that the document's lexer says; words are put so; the signs are these. -/
import Derived.Test.YtjjphfnohgdpjaaDoorSLt
import Derived.Test.YtjjphfnohgdpjaaDoorK22
namespace Go.Proofs.YtjjphfnohgdpjaaDoor.Pure
set_option linter.unusedVariables false
set_option linter.unusedSimpArgs false
open Go.RowKit Go.Proofs.YtjjphfnohgdpjaaDoor.K Go.Proofs.YtjjphfnohgdpjaaDoor.SN Go.Proofs.YtjjphfnohgdpjaaDoor.SL Go.Proofs.YtjjphfnohgdpjaaDoor.ST Go.Proofs.YtjjphfnohgdpjaaDoorW.PrintWords
theorem wf8 {x : Int} (h : (Lit.int .u8 x).wf = true) : 0 ≤ x ∧ x ≤ 255 := by simpa [Lit.wf, IntKind.min, IntKind.max, IntKind.signed, IntKind.bits] using h
theorem wf16 {x : Int} (h : (Lit.int .u16 x).wf = true) : 0 ≤ x ∧ x ≤ 65535 := by simpa [Lit.wf, IntKind.min, IntKind.max, IntKind.signed, IntKind.bits] using h
theorem lexW_end : ∀ (n : Nat) (s : B) (p : Nat), s.length ≤ n → (lexW s p).2.2 = 0 → (lexW s p).2.1 = p + s.length
  | 0, s, p, h, _ => by
    have : s = [] := List.length_eq_zero_iff.1 (by omega)
    subst this; rfl
  | n + 1, s, p, h, h0 => by
    by_cases hs : s = []
    · subst hs; rfl
    · cases hF : firstS s with
      | none => rw [lexW_bad p hs hF] at h0; cases h0
      | some y =>
        obtain ⟨kd, t, v, m⟩ := y
        have hb := first_bounds hF
        rw [lexW_tok p hF] at h0 ⊢
        have hk := span_le spaceN (s.drop m)
        rw [List.length_drop] at hk
        generalize spanN spaceN (s.drop m) = k at hk h0 ⊢
        have := lexW_end n (s.drop (m + k)) (p + (m + k)) (by rw [List.length_drop]; omega) h0
        rw [List.length_drop] at this
        show (lexW _ _).2.1 = _
        omega
def allR (s : B) : List S50 × Int × Int := ((allS s).1.map to50, (allS s).2.1, (allS s).2.2)
theorem ref_all (a : ByteArray) : Ev (fun k => marshallingref06_All.f k a) (allR a.data.toList) := by
  unfold marshallingref06_All.f allR allS
  by_cases h : a.size > 2048
  · rw [if_pos (by rw [dsize]; exact h)]
    exact Ev.pos (by omega) (Ev.now _)
  · rw [if_neg (by rw [dsize]; exact h)]
    refine Ev.neg (by omega) ?_
    have hg := ref_go a (by omega) _ 0 [] (Nat.le_refl _) (Nat.zero_le _) (Nat.le_refl _)
    rw [List.drop_zero, Nat.zero_add] at hg
    have hk := span_le spaceN a.data.toList
    generalize spanN spaceN a.data.toList = w at hg hk ⊢
    have he := lexW_end _ (a.data.toList.drop w) w (Nat.le_refl _)
    rw [List.length_drop] at he
    have e : outR a.size [] (lexW (a.data.toList.drop w) w) = ((outS [] (lexW (a.data.toList.drop w) w)).1.map to50, (outS [] (lexW (a.data.toList.drop w) w)).2.1, (outS [] (lexW (a.data.toList.drop w) w)).2.2) := by
      unfold outR outS
      by_cases h0 : (lexW (a.data.toList.drop w) w).2.2 = 0
      · rw [if_pos h0, if_pos h0, he h0, dsize] at *
        simp only [List.nil_append]
        congr 1
        congr 1
        omega
      · rw [if_neg h0, if_neg h0]; rfl
    rw [← e]
    exact hg
theorem same_ev (l : List S40) (hl : l.length ≤ 4096) : Ev (fun k => marshallinglaw06_same.f k l (l.map to50)) true := by
  have key : ∀ (d i : Nat), i + d = l.length → Ev (fun k => marshallinglaw06_same.l0 k l (l.map to50) (i : Int)) true := by
    intro d
    induction d with
    | zero =>
      intro i hi
      refine Ev.step (f := fun k => _) (fun k => by rw [marshallinglaw06_same.l0]) ?_
      exact Ev.neg (by omega) (Ev.now _)
    | succ d ih =>
      intro i hi
      have hlt : i < l.length := by omega
      have e1 : rd_T40 l (i : Int) = l[i] := by simp [rd_T40, hlt]
      have e2 : rd_T50 (l.map to50) (i : Int) = to50 l[i] := by simp [rd_T50, hlt]
      refine Ev.step (f := fun k => _) (fun k => by rw [marshallinglaw06_same.l0]) ?_
      rw [e1, e2, wrap_n i (by omega)]
      exact Ev.pos (by omega) (Ev.pos (by omega) (Ev.pos (by rw [List.length_map]; omega) (Ev.pos rfl (Ev.pos rfl (Ev.pos rfl (Ev.pos rfl (ih (i + 1) (by omega))))))))
  unfold marshallinglaw06_same.f
  exact Ev.pos (by rw [List.length_map]) (key l.length 0 (by omega))
theorem join_snoc : ∀ (l : List B) (x : B), l ≠ [] → Lib.join (l ++ [x]) [32] = Lib.join l [32] ++ 32 :: x
  | [], _, h => absurd rfl h
  | a :: r, x, _ => by
    rw [List.cons_append, Lib.join_cons, Lib.join_cons]
    simp [Lib.joinTail]
theorem ref_put (l : List S40) (hl : l.length ≤ 4096) (hs : ∀ x ∈ l, x.f1.size ≤ 4096) : Ev (fun k => marshallingref06_Put.f k (l.map to50)) ⟨(Lib.join (l.map putS1) [32]).toArray⟩ := by
  have key : ∀ (d i : Nat) (o : ByteArray), i + d = l.length → o.data.toList = Lib.join ((l.take i).map putS1) [32] → o.size ≤ i * 4099 → Ev (fun k => marshallingref06_Put.l0 k (l.map to50) o (i : Int)) ⟨(Lib.join (l.map putS1) [32]).toArray⟩ := by
    intro d
    induction d with
    | zero =>
      intro i o hi ho hz
      rw [List.take_of_length_le (by omega)] at ho
      refine Ev.step (f := fun k => _) (fun k => by rw [marshallingref06_Put.l0]) ?_
      refine Ev.neg (by rw [List.length_map]; omega) (Ev.ret ?_)
      rw [← ho]
    | succ d ih =>
      intro i o hi ho hz
      have hlt : i < l.length := by omega
      have e2 : rd_T50 (l.map to50) (i : Int) = to50 l[i] := by simp [rd_T50, hlt]
      have hx := hs l[i] (List.getElem_mem hlt)
      have hq := put1_len l[i]
      have fin : ∀ o' : ByteArray, o'.data.toList = (if i = 0 then [] else o.data.toList ++ [32]) ++ putS1 l[i] → (i = 0 → o.data.toList = []) → Ev (fun k => marshallingref06_Put.l0 k (l.map to50) o' (wrap64 ((i : Int) + 1))) ⟨(Lib.join (l.map putS1) [32]).toArray⟩ := by
        intro o' ho' _
        rw [wrap_n i (by omega)]
        refine ih (i + 1) o' (by omega) ?_ ?_
        · rw [ho', List.take_succ_eq_append_getElem hlt, List.map_append]
          by_cases h0 : i = 0
          · subst h0
            rw [if_pos rfl]
            simp [Lib.join_one]
          · rw [if_neg h0, ho]
            show _ = Lib.join ((l.take i).map putS1 ++ [putS1 l[i]]) [32]
            rw [join_snoc _ _ (by intro e; have := congrArg List.length e; rw [List.length_map, List.length_take, List.length_nil] at this; omega), List.append_assoc, List.singleton_append]
        · rw [← dsize, ho', List.length_append]
          split
          · simp only [List.length_nil]; omega
          · rw [List.length_append, List.length_singleton, dsize]; omega
      have hi4 : i * 4099 ≤ 4096 * 4099 := Nat.mul_le_mul_right _ (by omega)
      have f1 : (to50 l[i]).f1 = l[i].f1 := rfl
      have f0 : (to50 l[i]).f0 = l[i].f0 := rfl
      have hp3 : l[i].f0 = 3 → putS1 l[i] = 39 :: (l[i].f1.data.toList ++ [39]) := fun h => by unfold putS1 put1; rw [if_pos h]
      have hp0 : ¬ l[i].f0 = 3 → putS1 l[i] = l[i].f1.data.toList := fun h => by unfold putS1 put1; rw [if_neg h]
      have s32 : (⟨#[32]⟩ : ByteArray).size = 1 := rfl
      have s39 : (⟨#[39]⟩ : ByteArray).size = 1 := rfl
      have d32 : (⟨#[32]⟩ : ByteArray).data.toList = [32] := rfl
      have d39 : (⟨#[39]⟩ : ByteArray).data.toList = [39] := rfl
      refine Ev.step (f := fun k => _) (fun k => by rw [marshallingref06_Put.l0]) ?_
      rw [e2, f1, f0]
      refine Ev.pos (by rw [List.length_map]; omega) ?_
      by_cases h0 : i = 0
      · have ho0 : o.data.toList = [] := by rw [ho, h0]; rfl
        have hoz : o.size = 0 := by rw [← dsize, ho0]; rfl
        refine Ev.neg (by omega) (Ev.pos (by omega) ?_)
        by_cases h3 : l[i].f0 = 3
        · refine Ev.pos h3 (Ev.pos (by omega) (Ev.pos (by simp only [ByteArray.size_append, s39]; omega) (Ev.pos (by simp only [ByteArray.size_append, s39]; omega) (fin _ ?_ (fun _ => ho0)))))
          rw [if_pos h0, hp3 h3]
          simp only [ByteArray.data_append, Array.toList_append, ho0, d39]
          simp
        · refine Ev.neg h3 (Ev.pos (by omega) (fin _ ?_ (fun _ => ho0)))
          rw [if_pos h0, hp0 h3]
          simp only [ByteArray.data_append, Array.toList_append, ho0]
      · refine Ev.pos (by omega) (Ev.pos (by omega) (Ev.pos (by omega) ?_))
        by_cases h3 : l[i].f0 = 3
        · refine Ev.pos h3 (Ev.pos (by simp only [ByteArray.size_append, s32]; omega) (Ev.pos (by simp only [ByteArray.size_append, s32, s39]; omega) (Ev.pos (by simp only [ByteArray.size_append, s32, s39]; omega) (fin _ ?_ (fun h => absurd h h0)))))
          rw [if_neg h0, hp3 h3]
          simp only [ByteArray.data_append, Array.toList_append, d32, d39]
          simp
        · refine Ev.neg h3 (Ev.pos (by simp only [ByteArray.size_append, s32]; omega) (fin _ ?_ (fun h => absurd h h0)))
          rw [if_neg h0, hp0 h3]
          simp only [ByteArray.data_append, Array.toList_append, d32]
  unfold marshallingref06_Put.f
  exact key l.length 0 _ (by omega) rfl (Nat.zero_le _)
theorem lexW_small : ∀ (n : Nat) (s : B) (p : Nat), s.length ≤ n → (lexW s p).1.length ≤ s.length ∧ ∀ x ∈ (lexW s p).1, x.f1.size ≤ s.length
  | 0, s, p, h => by
    have : s = [] := List.length_eq_zero_iff.1 (by omega)
    subst this
    rw [lexW_nil]; exact ⟨Nat.le_refl _, fun x hx => by cases hx⟩
  | n + 1, s, p, h => by
    by_cases h0 : s = []
    · subst h0; rw [lexW_nil]; exact ⟨Nat.le_refl _, fun x hx => by cases hx⟩
    · cases hF : firstS s with
      | none => rw [lexW_bad p h0 hF]; exact ⟨Nat.zero_le _, fun x hx => by cases hx⟩
      | some y =>
        obtain ⟨kd, t, v, m⟩ := y
        have hb := first_bounds hF
        have ht : t.length ≤ m := by
          rcases first_kinds hF with ⟨x, t', e, h1, h2, _, h3, h4⟩ | ⟨x, t', e, h1, h2, h3, _, h4, h5, _, h6⟩ | ⟨_, _, h1, h2, h3, r', _⟩ | ⟨_, _, h1, b, h2, e⟩ <;> omega
        have ih := lexW_small n (s.drop (m + spanN spaceN (s.drop m))) (p + (m + spanN spaceN (s.drop m))) (by rw [List.length_drop]; omega)
        rw [List.length_drop] at ih
        rw [lexW_tok p hF, List.length_cons]
        refine ⟨by omega, fun x hx => ?_⟩
        rcases List.mem_cons.1 hx with rfl | hx
        · show t.toArray.size ≤ _
          rw [List.size_toArray]; omega
        · have := ih.2 x hx
          omega
theorem all_small (t : B) : (allS t).1.length ≤ 4096 ∧ ∀ x ∈ (allS t).1, x.f1.size ≤ 4096 := by
  unfold allS
  by_cases h1 : t.length > 2048
  · rw [if_pos h1]; exact ⟨Nat.zero_le _, fun x hx => by cases hx⟩
  · rw [if_neg h1]
    unfold outS
    split
    · simp only [List.nil_append]
      have := lexW_small _ (t.drop (spanN spaceN t)) (spanN spaceN t) (Nat.le_refl _)
      rw [List.length_drop] at this
      exact ⟨by omega, fun x hx => by have := this.2 x hx; omega⟩
    · exact ⟨Nat.zero_le _, fun x hx => by cases hx⟩
theorem tells_l1 (l : List S40) (at_ e : Int) (hl : l.length ≤ 4096) (hs : ∀ x ∈ l, x.f1.size ≤ 4096) : ∀ (d i : Nat), i + d = 25 → Ev (fun k => marshallinglaw06_LexTells.l1 k true l at_ e (l.map to50) at_ e signsL signsL (i : Int)) true := by
  intro d
  induction d with
  | zero =>
    intro i hi
    have hi : i = 25 := by omega
    subst hi
    refine Ev.step (f := fun k => _) (fun k => by rw [marshallinglaw06_LexTells.l1]) ?_
    refine Ev.neg (by decide) (Ev.pos rfl (Ev.bind (same_ev l hl) (Ev.pos rfl (Ev.pos rfl (Ev.pos rfl (Ev.bind (put_ev l hl hs) (Ev.bind (ref_put l hl hs) (Ev.ret ?_))))))))
    rw [beq_self_eq_true]
  | succ d ih =>
    intro i hi
    have hI := ih (i + 1) (by omega)
    rw [← wrap_n i (by omega)] at hI
    refine Ev.step (f := fun k => _) (fun k => by rw [marshallinglaw06_LexTells.l1]) ?_
    exact Ev.pos (by show (i : Int) < 25; omega) (Ev.pos (by omega) (Ev.pos (by show (i : Int) < 25; omega) (Ev.pos rfl hI)))
theorem tells_j1 (u : ByteArray) : Ev (fun k => marshallinglaw06_LexTells.j1 k u true) true := by
  obtain ⟨h1, h2⟩ := all_small u.data.toList
  have ha := all_ev u
  have hr := ref_all u
  unfold allR at hr
  refine Ev.step (f := fun k => _) (fun k => by rw [marshallinglaw06_LexTells.j1]) ?_
  refine Ev.bind ha (Ev.bind hr (Ev.got (a := signsL) rfl (Ev.got (a := signsL) rfl (Ev.pos rfl ?_))))
  exact tells_l1 _ _ _ h1 h2 25 0 rfl
theorem tells_l0 (l1 : List Int) (a2 : Bool) (a4 : Int) (hl : ∀ x ∈ l1, 0 ≤ x ∧ x ≤ 255) : ∀ (d : Nat) (s : ByteArray), s.size + d ≥ 2040 → s.size ≤ 4611686018427387904 → Ev (fun k => marshallinglaw06_LexTells.l0 k s l1 a2 a4 true) true := by
  obtain ⟨t, e1, e2, _⟩ := words_ev l1 a2 hl
  intro d
  induction d with
  | zero =>
    intro s h hb
    refine Ev.step (f := fun k => _) (fun k => by rw [marshallinglaw06_LexTells.l0_s]) ?_
    exact Ev.neg (by omega) (Ev.bind e1 (Ev.pos (by omega) (tells_j1 _)))
  | succ d ih =>
    intro s h hb
    refine Ev.step (f := fun k => _) (fun k => by rw [marshallinglaw06_LexTells.l0_s]) ?_
    by_cases hlt : (s.size : Int) < 2040
    · have h1 : (strOfNums [a4]).size = 1 := by rw [strOfNums_size]; rfl
      refine Ev.pos hlt (Ev.got (a := [a4]) rfl (Ev.pos (by rw [h1]; omega) ?_))
      exact ih _ (by rw [ByteArray.size_append, h1]; omega) (by rw [ByteArray.size_append, h1]; omega)
    · exact Ev.neg hlt (Ev.bind e1 (Ev.pos (by omega) (tells_j1 _)))
theorem LexTells : ∀ (a0 : ByteArray) (l1 : List Int) (a2 : Bool) (a3 : Int) (a4 : Int), a0.size ≤ 140737488351232 → l1.length ≤ maxLen → l1.length * 1 ≤ 140737488351232 → (∀ x ∈ l1, (Lit.int .u8 x).wf = true) → (Lit.int .u16 a3).wf = true → (Lit.int .u8 a4).wf = true → ∃ k, marshallinglaw06_LexTells.f k a0 l1 a2 a3 a4 = some true := by
  intro a0 l1 a2 a3 a4 z0 _ _ w1 w3 w4
  have hx3 := wf16 w3
  have hl := fun x hx => wf8 (w1 x hx)
  obtain ⟨t, e1, e2, _⟩ := words_ev l1 a2 hl
  refine Ev.rounds ?_
  unfold marshallinglaw06_LexTells.f
  refine Ev.bind examples_ev (Ev.pos rfl (Ev.bind e1 (Ev.pos (by omega) ?_)))
  by_cases h : a3 > 60000
  · have hm : Int.tmod a3 4 = a3 % 4 := Int.tmod_eq_emod_of_nonneg hx3.1
    have hw : wrap64 (Int.tmod a3 4) = a3 % 4 := by rw [hm]; unfold wrap64; omega
    rw [hw]
    have hsz : (strOfNums (List.replicate (a3 % 4).toNat 0)).size = (a3 % 4).toNat := by rw [strOfNums_size, List.length_replicate]
    refine Ev.pos h (Ev.pos (by omega) (Ev.pos (by omega) (Ev.got (a := List.replicate (a3 % 4).toNat 0) rfl (Ev.pos (by rw [hsz, ByteArray.size_append]; omega) ?_))))
    exact tells_l0 l1 a2 a4 hl 2040 _ (by omega) (by rw [ByteArray.size_append, hsz, ByteArray.size_append]; omega)
  · exact Ev.neg h (tells_j1 _)
end Go.Proofs.YtjjphfnohgdpjaaDoor.Pure
