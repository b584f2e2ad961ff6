/- The statement 'LexPlaces' as plain Lean: words stand where they begin, one behind the other; what stands between them is space. -/
import Derived.Test.YtjjphfnohgdpjaaDoorSLe
import Derived.Test.YtjjphfnohgdpjaaDoorSLw
import Derived.Test.YtjjphfnohgdpjaaDoorK11
namespace Go.Proofs.YtjjphfnohgdpjaaDoor.Pure
set_option linter.unusedVariables false
set_option linter.unusedSimpArgs false
open Go.RowKit Go.Proofs.YtjjphfnohgdpjaaDoor.K Go.Proofs.YtjjphfnohgdpjaaDoor.SN Go.Proofs.YtjjphfnohgdpjaaDoor.SL Go.Proofs.YtjjphfnohgdpjaaDoorW.PrintWords
theorem wf8 {x : Int} (h : (Lit.int .u8 x).wf = true) : 0 ≤ x ∧ x ≤ 255 := by simpa [Lit.wf, IntKind.min, IntKind.max, IntKind.signed, IntKind.bits] using h
theorem best_prefix (s : B) : bestSign s signsL ⟨#[]⟩ = ⟨#[]⟩ ∨ Lib.hasPrefix s (bestSign s signsL ⟨#[]⟩).data.toList = true := by
  rcases best_any s signsL ⟨#[]⟩ with e | ⟨_, e⟩
  · exact .inl e
  · exact .inr e
/-- A word stands at the beginning as it is put. -/
theorem first_put {s : B} {kd : Int} {t : B} {v : Int} {m : Nat} (h : firstS s = some (kd, t, v, m)) : m = (put1 kd t).length ∧ s.take m = put1 kd t := by
  cases s with
  | nil => simp [firstS] at h
  | cons x l =>
    have hk := first_kinds h
    unfold firstS at h
    simp only at h
    by_cases h1 : letters.contains x = true
    · rw [if_pos h1] at h
      unfold namedS namedAt at h
      have hl := span_le signsN (x :: l)
      generalize spanN signsN (x :: l) = n at h hl
      have ht : ((x :: l).take n).length = n := by rw [List.length_take]; omega
      by_cases hn : isNm ((x :: l).take n) = true
      · rw [if_pos hn] at h
        simp only [Option.some.injEq, Prod.mk.injEq] at h
        obtain ⟨rfl, rfl, rfl, rfl⟩ := h
        exact ⟨ht.symm, rfl⟩
      · rw [if_neg hn] at h
        by_cases hq : n > 20
        · rw [if_pos hq] at h; cases h
        · rw [if_neg hq] at h
          simp only [Option.some.injEq, Prod.mk.injEq] at h
          obtain ⟨rfl, rfl, rfl, rfl⟩ := h
          exact ⟨ht.symm, rfl⟩
    · rw [if_neg h1] at h
      by_cases h2 : digitsN.contains x = true
      · rw [if_pos h2] at h
        unfold countedS countedAt at h
        have hl := span_le digitsN (x :: l)
        generalize spanN digitsN (x :: l) = n at h hl
        have ht : ((x :: l).take n).length = n := by rw [List.length_take]; omega
        by_cases hq : (parsed ((x :: l).take n)).2.isNone = true
        · rw [if_pos hq] at h
          by_cases hz : n > 1 ∧ (x :: l).head? = some 48
          · rw [if_pos hz] at h; cases h
          · rw [if_neg hz] at h
            simp only [Option.some.injEq, Prod.mk.injEq] at h
            obtain ⟨rfl, rfl, rfl, rfl⟩ := h
            exact ⟨ht.symm, rfl⟩
        · rw [if_neg hq] at h; cases h
      · rw [if_neg h2] at h
        by_cases h3 : x = 39
        · rcases hk with ⟨y, t', e, q1, _, _, _, q2⟩ | ⟨y, t', e, q1, q2, _, rfl, _⟩ | ⟨rfl, _, _, _, q5, r, e⟩ | ⟨rfl, _, q2, b, q3, e⟩
          · exfalso
            subst h3
            rw [if_pos rfl] at h
            unfold quotedS quotedAt at h
            split at h
            · cases h
            · split at h
              · cases h
              · simp only [Option.some.injEq, Prod.mk.injEq] at h
                rcases q2 with ⟨rfl, _⟩ | ⟨rfl, _⟩
                · exact absurd h.1 (by decide)
                · exact absurd h.1 (by decide)
          · exfalso
            subst h3
            rw [if_pos rfl] at h
            unfold quotedS quotedAt at h
            split at h
            · cases h
            · split at h
              · cases h
              · simp only [Option.some.injEq, Prod.mk.injEq] at h
                exact absurd h.1 (by decide)
          · subst q5
            refine ⟨by simp [put1], ?_⟩
            rw [e]
            show (39 :: (t ++ 39 :: r)).take (t.length + 2) = 39 :: (t ++ [39])
            rw [List.take_succ_cons, show t ++ 39 :: r = (t ++ [39]) ++ r by simp, List.take_left' (by simp)]
          · exfalso
            subst h3
            rw [if_pos rfl] at h
            unfold quotedS quotedAt at h
            split at h
            · cases h
            · split at h
              · cases h
              · simp only [Option.some.injEq, Prod.mk.injEq] at h
                exact absurd h.1 (by decide)
        · rw [if_neg h3] at h
          unfold signedS signedAt at h
          by_cases hb : (bestSign (x :: l) signsL ⟨#[]⟩).data.toList = []
          · rw [if_pos hb] at h; cases h
          · rw [if_neg hb] at h
            simp only [Option.some.injEq, Prod.mk.injEq] at h
            obtain ⟨rfl, rfl, rfl, rfl⟩ := h
            rcases best_prefix (x :: l) with e | e
            · exact absurd (by rw [e]) hb
            · exact ⟨rfl, (List.prefix_iff_eq_take.1 (List.isPrefixOf_iff_prefix.1 e)).symm⟩
/-- Words, each where it stands, behind spaces; at the end nothing but space. -/
def Stand (S : B) : Nat → List S40 → Prop
  | q, [] => q ≤ S.length ∧ ∀ c ∈ S.drop q, spaceN.contains c = true
  | q, x :: r => ∃ p : Nat, x.f3 = (p : Int) ∧ q ≤ p ∧ p + (putS1 x).length ≤ S.length ∧ (S.drop p).take (putS1 x).length = putS1 x ∧ (∀ k, q ≤ k → k < p → ∃ c, S[k]? = some c ∧ spaceN.contains c = true) ∧ Stand S (p + (putS1 x).length) r
theorem stand_more (S : B) (l : List S40) (q p : Nat) (hqp : q ≤ p) (hsp : ∀ k, q ≤ k → k < p → ∃ c, S[k]? = some c ∧ spaceN.contains c = true) (h : Stand S p l) : Stand S q l := by
  cases l with
  | nil =>
    obtain ⟨h1, h2⟩ := h
    refine ⟨by omega, fun c hc => ?_⟩
    obtain ⟨k, e⟩ := List.mem_iff_getElem?.1 hc
    rw [List.getElem?_drop] at e
    by_cases hlt : q + k < p
    · obtain ⟨c', e', h'⟩ := hsp (q + k) (by omega) hlt
      rw [e] at e'
      rw [Option.some.inj e']; exact h'
    · refine h2 c (List.mem_iff_getElem?.2 ⟨q + k - p, ?_⟩)
      rw [List.getElem?_drop, show p + (q + k - p) = q + k by omega]
      exact e
  | cons x r =>
    obtain ⟨p', h1, h2, h3, h4, h5, h6⟩ := h
    refine ⟨p', h1, by omega, h3, h4, fun k k1 k2 => ?_, h6⟩
    by_cases hlt : k < p
    · exact hsp k k1 hlt
    · exact h5 k (by omega) k2
theorem span_here (set s : B) (k : Nat) (hk : k < spanN set s) : ∃ c, s[k]? = some c ∧ set.contains c = true := by
  have hl := span_le set s
  have hlt : k < s.length := by omega
  refine ⟨s[k], List.getElem?_eq_getElem hlt, span_take set s _ ?_⟩
  exact List.mem_take_iff_getElem.2 ⟨k, by omega, rfl⟩
theorem lexW_stand (S : B) : ∀ (n p : Nat), (S.drop p).length ≤ n → p ≤ S.length → (lexW (S.drop p) p).2.2 = 0 → Stand S p (lexW (S.drop p) p).1 ∧ (lexW (S.drop p) p).2.1 = S.length := by
  intro n
  induction n with
  | zero =>
    intro p h hp h0
    have e : S.drop p = [] := List.length_eq_zero_iff.1 (by omega)
    rw [e, lexW_nil]
    rw [List.length_drop] at h
    exact ⟨⟨hp, by rw [e]; intro c hc; cases hc⟩, by show p = _; omega⟩
  | succ n ih =>
    intro p h hp h0
    rw [List.length_drop] at h
    by_cases hs : S.drop p = []
    · rw [hs, lexW_nil]
      have := congrArg List.length hs
      rw [List.length_drop] at this
      simp at this
      exact ⟨⟨hp, by rw [hs]; intro c hc; cases hc⟩, by show p = _; omega⟩
    · cases hF : firstS (S.drop p) with
      | none => rw [lexW_bad p hs hF] at h0; cases h0
      | some y =>
        obtain ⟨kd, t, v, m⟩ := y
        have hb := first_bounds hF
        obtain ⟨hm, ht⟩ := first_put hF
        rw [lexW_tok p hF] at h0 ⊢
        simp only at h0 ⊢
        have hk := span_le spaceN ((S.drop p).drop m)
        have hsk := span_here spaceN ((S.drop p).drop m)
        rw [List.length_drop, List.length_drop] at hk
        rw [List.length_drop] at hb
        generalize spanN spaceN ((S.drop p).drop m) = k at h0 hk hsk ⊢
        rw [List.drop_drop] at h0 ⊢
        obtain ⟨i1, i2⟩ := ih (p + (m + k)) (by rw [List.length_drop]; omega) (by omega) h0
        have hput : putS1 (⟨kd, ⟨t.toArray⟩, v, (p : Int)⟩ : S40) = put1 kd t := rfl
        refine ⟨⟨p, rfl, Nat.le_refl _, by rw [hput, ← hm]; omega, by rw [hput, ← hm]; exact ht, fun k h1 h2 => by omega, ?_⟩, i2⟩
        rw [hput, ← hm]
        refine stand_more S _ _ _ (by omega) (fun j j1 j2 => ?_) i1
        obtain ⟨c, c1, c2⟩ := hsk (j - (p + m)) (by omega)
        rw [List.drop_drop, List.getElem?_drop, show p + m + (j - (p + m)) = j by omega] at c1
        exact ⟨c, c1, c2⟩
theorem all_stand (S : B) (h : (allS S).2.2 = 0) : S.length ≤ 2048 ∧ Stand S 0 (allS S).1 ∧ (allS S).2.1 = (S.length : Int) := by
  unfold allS at h ⊢
  by_cases h1 : S.length > 2048
  · rw [if_pos h1] at h; cases h
  · rw [if_neg h1] at h ⊢
    have h2 : (lexW (S.drop (spanN spaceN S)) (spanN spaceN S)).2.2 = 0 := by
      unfold outS at h
      by_cases h2 : (lexW (S.drop (spanN spaceN S)) (spanN spaceN S)).2.2 = 0
      · exact h2
      · rw [if_neg h2] at h; exact absurd h h2
    have hk := span_le spaceN S
    have hsk := span_here spaceN S
    generalize spanN spaceN S = k at h h2 hk hsk ⊢
    obtain ⟨i1, i2⟩ := lexW_stand S _ k (Nat.le_refl _) hk h2
    unfold outS
    rw [if_pos h2, i2, List.nil_append]
    exact ⟨by omega, stand_more S _ 0 k (by omega) (fun j _ j2 => hsk j j2) i1, rfl⟩
theorem lexW_at : ∀ (n : Nat) (s : B) (p : Nat), s.length ≤ n → (lexW s p).2.1 ≤ p + s.length ∧ ((lexW s p).2.2 ≠ 0 → (lexW s p).2.1 < p + s.length)
  | 0, s, p, h => by
    have : s = [] := List.length_eq_zero_iff.1 (by omega)
    subst this
    rw [lexW_nil]; exact ⟨Nat.le_refl _, fun h => absurd rfl h⟩
  | n + 1, s, p, h => by
    by_cases h0 : s = []
    · subst h0; rw [lexW_nil]; exact ⟨Nat.le_refl _, fun h => absurd rfl h⟩
    · have hpos : 0 < s.length := List.length_pos_iff.2 h0
      cases hF : firstS s with
      | none => rw [lexW_bad p h0 hF]; exact ⟨by show p ≤ _; omega, fun _ => by show p < _; omega⟩
      | some y =>
        obtain ⟨kd, t, v, m⟩ := y
        have hb := first_bounds hF
        rw [lexW_tok p hF]
        have hk := span_le spaceN (s.drop m)
        rw [List.length_drop] at hk
        generalize spanN spaceN (s.drop m) = k at hk ⊢
        have := lexW_at n (s.drop (m + k)) (p + (m + k)) (by rw [List.length_drop]; omega)
        rw [List.length_drop] at this
        refine ⟨by show (lexW _ _).2.1 ≤ _; omega, fun hh => ?_⟩
        have := this.2 hh
        show (lexW _ _).2.1 < _
        omega
theorem space_eq (c : UInt8) (h : spaceN.contains c = true) : c.toNat = 32 ∨ c.toNat = 9 ∨ c.toNat = 10 ∨ c.toNat = 13 := by
  rcases space_cases c h with rfl | rfl | rfl | rfl <;> decide
theorem places_j1 (S : ByteArray) (at_ : Int) (l : List S40) (hS : S.size ≤ 2048) (i q nx : Nat) (x : ByteArray) (h1 : q ≤ nx) (h2 : nx + x.size ≤ S.size) (h3 : (S.data.toList.drop nx).take x.size = x.data.toList) (hsp : ∀ k, q ≤ k → k < nx → ∃ c, S.data.toList[k]? = some c ∧ spaceN.contains c = true)
    (h : Ev (fun k => marshallinglaw06_LexPlaces.l0 k true S l at_ ((nx + x.size : Nat) : Int) ((i + 1 : Nat) : Int)) true) (hi : i ≤ 2048) : Ev (fun k => marshallinglaw06_LexPlaces.j1 k true S l at_ (q : Int) (i : Int) (nx : Int) x) true := by
  have w1 : wrap64 ((nx : Int) + (x.size : Int)) = ((nx + x.size : Nat) : Int) := by unfold wrap64; omega
  have w2 : wrap64 ((i : Int) + 1) = ((i + 1 : Nat) : Int) := by unfold wrap64; omega
  have key : ∀ (d j : Nat), j + d = nx → q ≤ j → Ev (fun k => marshallinglaw06_LexPlaces.l1 k true S l at_ (i : Int) (nx : Int) x (j : Int)) true := by
    intro d
    induction d with
    | zero =>
      intro j hj hq
      refine Ev.step (f := fun k => _) (fun k => by rw [marshallinglaw06_LexPlaces.l1]) ?_
      refine Ev.neg (by clear w1 w2; omega) ?_
      rw [w1, w2]
      exact h
    | succ d ih =>
      intro j hj hq
      obtain ⟨c, c1, c2⟩ := hsp j hq (by clear w1 w2; omega)
      obtain ⟨hlt, rfl⟩ := List.getElem?_eq_some_iff.1 c1
      have e := bt_eq S j hlt
      have hc := space_eq _ c2
      have w3 : wrap64 ((j : Int) + 1) = ((j + 1 : Nat) : Int) := by clear w1 w2; unfold wrap64; omega
      have hI := ih (j + 1) (by clear w1 w2 w3; omega) (by clear w1 w2 w3; omega)
      have hj2 : (j : Int) < (S.size : Int) := by rw [dsize] at hlt; clear w1 w2 w3; omega
      refine Ev.step (f := fun k => _) (fun k => by rw [marshallinglaw06_LexPlaces.l1]) ?_
      rw [e, w3]
      clear w1 w2 w3
      refine Ev.pos (by omega) (Ev.pos (by omega) (Ev.pos hj2 ?_))
      rcases hc with hc | hc | hc | hc
      · exact Ev.pos (by omega) hI
      · exact Ev.neg (by omega) (Ev.pos (by omega) hI)
      · exact Ev.neg (by omega) (Ev.neg (by omega) (Ev.pos (by omega) hI))
      · exact Ev.neg (by omega) (Ev.neg (by omega) (Ev.neg (by omega) (Ev.pos (by omega) hI)))
  have hext : (S.extract nx (nx + x.size)).data.toList = x.data.toList := by
    rw [ByteArray.data_extract, Array.toList_extract]
    simp only [List.extract_eq_take_drop]
    rw [show nx + x.size - nx = x.size by omega]
    exact h3
  refine Ev.step (f := fun k => _) (fun k => by rw [marshallinglaw06_LexPlaces.j1]) ?_
  rw [w1]
  clear w1 w2
  refine Ev.neg (by omega) (Ev.neg (by omega) (Ev.pos (by omega) (Ev.pos (by omega) (Ev.pos (by omega) ?_))))
  refine Ev.step (f := fun k => _) (fun k => by rw [marshallinglaw06_LexPlaces.j2]) ?_
  refine Ev.neg ?_ (key (nx - q) q (by omega) (Nat.le_refl _))
  rw [Int.toNat_natCast, Int.toNat_natCast, tl, tl, hext]
  simp
theorem places_l0 (S : ByteArray) (l : List S40) (hS : S.size ≤ 2048) (hl : l.length ≤ 2048) : ∀ (d i q : Nat), i + d = l.length → Stand S.data.toList q (l.drop i) → Ev (fun k => marshallinglaw06_LexPlaces.l0 k true S l (S.size : Int) (q : Int) (i : Int)) true := by
  intro d
  induction d with
  | zero =>
    intro i q hi hst
    rw [List.drop_of_length_le (by omega)] at hst
    obtain ⟨s1, s2⟩ := hst
    rw [dsize] at s1
    refine Ev.step (f := fun k => _) (fun k => by rw [marshallinglaw06_LexPlaces.l0]) ?_
    refine Ev.pos (by omega) (Ev.neg (by omega) ?_)
    have he : (⟨#[]⟩ : ByteArray).size = 0 := rfl
    refine places_j1 S _ l hS i q S.size ⟨#[]⟩ s1 (by rw [he]; omega) (by rw [he]; rfl) (fun k k1 k2 => ?_) ?_ (by omega)
    · have hlt : k < S.data.toList.length := by rw [dsize]; exact k2
      refine ⟨S.data.toList[k], List.getElem?_eq_getElem hlt, s2 _ ?_⟩
      refine List.mem_iff_getElem?.2 ⟨k - q, ?_⟩
      rw [List.getElem?_drop, show q + (k - q) = k by omega]
      exact List.getElem?_eq_getElem hlt
    · refine Ev.step (f := fun k => _) (fun k => by rw [marshallinglaw06_LexPlaces.l0]) ?_
      refine Ev.neg (by omega) (Ev.pos rfl (Ev.ret ?_))
      simp
  | succ d ih =>
    intro i q hi hst
    have hlt : i < l.length := by omega
    rw [List.drop_eq_getElem_cons hlt] at hst
    obtain ⟨p, s1, s2, s3, s4, s5, s6⟩ := hst
    rw [dsize] at s3
    have er : rd_T40 l (i : Int) = l[i] := by simp [rd_T40, hlt]
    have hq := put1_len l[i]
    have hI := ih (i + 1) (p + (putS1 l[i]).length) (by omega) s6
    refine Ev.step (f := fun k => _) (fun k => by rw [marshallinglaw06_LexPlaces.l0]) ?_
    rw [er, s1]
    refine Ev.pos (by omega) (Ev.pos (by omega) (Ev.pos (by omega) ?_))
    have hsz : (putS1 l[i]).length = l[i].f1.size + (if l[i].f0 = 3 then 2 else 0) := by
      unfold putS1 put1
      split
      · rw [List.length_cons, List.length_append, List.length_singleton, dsize]
      · rw [dsize]; rfl
    have fin : ∀ x : ByteArray, x.data.toList = putS1 l[i] → Ev (fun k => marshallinglaw06_LexPlaces.j1 k true S l (S.size : Int) (q : Int) (i : Int) (p : Int) x) true := by
      intro x hx
      have hxs : x.size = (putS1 l[i]).length := by rw [← dsize, hx]
      exact places_j1 S _ l hS i q p x s2 (by rw [hxs]; exact s3) (by rw [hxs, s4, hx]) s5 (by rw [hxs]; exact hI) (by omega)
    by_cases h3 : l[i].f0 = 3
    · rw [if_pos h3] at hsz
      refine Ev.pos h3 (Ev.pos (by omega) (Ev.pos (by rw [ByteArray.size_append]; show 1 + _ + 1 ≤ _; omega) (fin _ ?_)))
      unfold putS1 put1
      rw [if_pos h3, ByteArray.data_append, ByteArray.data_append, Array.toList_append, Array.toList_append]
      rfl
    · refine Ev.neg h3 (fin _ ?_)
      unfold putS1 put1
      rw [if_neg h3]
theorem stand_count : ∀ (l : List S40) (S : B) (q : Nat), (∀ x ∈ l, SL.Good x) → Stand S q l → l.length + q ≤ S.length
  | [], S, q, _, h => by rw [List.length_nil, Nat.zero_add]; exact h.1
  | x :: r, S, q, hg, h => by
    obtain ⟨p, h1, h2, h3, h4, h5, h6⟩ := h
    obtain ⟨c, t, e, _⟩ := good_head (hg x List.mem_cons_self)
    have := stand_count r S _ (fun y hy => hg y (List.mem_cons_of_mem _ hy)) h6
    rw [e, List.length_cons] at this
    rw [List.length_cons]
    omega
theorem all_good (t : B) (h : (allS t).2.2 = 0) : ∀ x ∈ (allS t).1, SL.Good x := by
  unfold allS at h ⊢
  by_cases h1 : t.length > 2048
  · rw [if_pos h1] at h; cases h
  · rw [if_neg h1] at h ⊢
    unfold outS at h ⊢
    by_cases h2 : (lexW (t.drop (spanN spaceN t)) (spanN spaceN t)).2.2 = 0
    · rw [if_pos h2]
      intro x hx
      simp only [List.nil_append] at hx
      exact lexW_good _ _ _ (Nat.le_refl _) x hx
    · rw [if_neg h2] at h; exact absurd h h2
theorem LexPlaces : ∀ (l0 : List Int) (a1 : Bool), l0.length ≤ maxLen → l0.length * 1 ≤ 140737488351232 → (∀ x ∈ l0, (Lit.int .u8 x).wf = true) → ∃ k, marshallinglaw06_LexPlaces.f k l0 a1 = some true := by
  intro l0 a1 _ _ w0
  obtain ⟨t, e1, e2, _⟩ := words_ev l0 a1 (fun x hx => wf8 (w0 x hx))
  have ha := all_ev t
  refine Ev.rounds ?_
  unfold marshallinglaw06_LexPlaces.f
  refine Ev.bind examples_ev (Ev.pos rfl (Ev.bind e1 (Ev.bind ha ?_)))
  by_cases h0 : (allS t.data.toList).2.2 = 0
  · obtain ⟨s1, s2, s3⟩ := all_stand t.data.toList h0
    have hc := stand_count _ _ _ (all_good _ h0) s2
    rw [dsize] at s1 s3 hc
    refine Ev.pos h0 ?_
    rw [s3]
    exact places_l0 t _ s1 (by omega) _ 0 0 (Nat.zero_add _) s2
  · have hat : 0 ≤ (allS t.data.toList).2.1 ∧ (allS t.data.toList).2.1 < mx (t.size : Int) 1 := by
      have hlen : ¬ t.data.toList.length > 2048 := by rw [dsize]; omega
      unfold allS at h0 ⊢
      rw [if_neg hlen] at h0 ⊢
      have hk := span_le spaceN t.data.toList
      generalize spanN spaceN t.data.toList = k at h0 hk ⊢
      have hA := lexW_at _ (t.data.toList.drop k) k (Nat.le_refl _)
      rw [List.length_drop] at hA
      unfold outS at h0 ⊢
      by_cases h2 : (lexW (t.data.toList.drop k) k).2.2 = 0
      · rw [if_pos h2] at h0; exact absurd rfl h0
      · rw [if_neg h2]
        have := hA.2 h2
        rw [dsize] at this hk
        refine ⟨by show (0 : Int) ≤ ((lexW _ _).2.1 : Int); omega, ?_⟩
        show ((lexW _ _).2.1 : Int) < _
        unfold mx
        split <;> omega
    refine Ev.neg h0 (Ev.pos hat.1 (Ev.ret ?_))
    rw [decide_eq_true hat.2]
end Go.Proofs.YtjjphfnohgdpjaaDoor.Pure
