/- Layer 6 in plain Lean: words that are put stand again as they were; a text that ends with a space, and a byte behind it that begins nothing. -/
import Derived.Test.YtjjphfnohgdpjaaDoorSLc
namespace Go.Proofs.YtjjphfnohgdpjaaDoor.SL
set_option linter.unusedVariables false
set_option linter.unusedSimpArgs false
open Go.RowKit Go.Proofs.YtjjphfnohgdpjaaDoor.K Go.Proofs.YtjjphfnohgdpjaaDoor.SN Go.Proofs.YtjjphfnohgdpjaaDoorW.PrintWords
/-- A word as it is put. -/
def put1 (kd : Int) (t : B) : B := if kd = 3 then 39 :: (t ++ [39]) else t
theorem span_put (set t r : B) (ht : ∀ c ∈ t, set.contains c = true) (hr : r = [] ∨ ∃ c r', r = c :: r' ∧ set.contains c = false) : spanN set (t ++ r) = t.length := by
  rcases hr with rfl | ⟨c, r', rfl, hc⟩
  · rw [List.append_nil, span_all set t ht]
  · rw [span_stop set c r' hc, span_all set t ht]
theorem take_len (t r : B) : (t ++ r).take t.length = t := List.take_left' rfl
/-- What a word is, by its kind. -/
theorem first_kinds {s : B} {kd : Int} {t : B} {v : Int} {m : Nat} (h : firstS s = some (kd, t, v, m)) :
    (∃ x t', t = x :: t' ∧ letters.contains x = true ∧ (∀ c ∈ t, signsN.contains c = true) ∧ v = 0 ∧ m = t.length ∧ ((kd = 1 ∧ isNm t = true) ∨ (kd = 5 ∧ ¬ isNm t = true ∧ t.length ≤ 20)))
    ∨ (∃ x t', t = x :: t' ∧ letters.contains x = false ∧ digitsN.contains x = true ∧ (∀ c ∈ t, digitsN.contains c = true) ∧ kd = 2 ∧ m = t.length ∧ (parsed t).2.isNone = true ∧ v = (parsed t).1 ∧ ¬ (t.length > 1 ∧ x = 48))
    ∨ (kd = 3 ∧ v = 0 ∧ 39 ∉ t ∧ t.length ≤ 64 ∧ m = t.length + 2 ∧ ∃ r, s = 39 :: (t ++ 39 :: r))
    ∨ (kd = 4 ∧ v = 0 ∧ m = t.length ∧ ∃ b ∈ signsL, t = b.data.toList) := by
  cases s with
  | nil => simp [firstS] at h
  | cons x l =>
    unfold firstS at h
    simp only at h
    by_cases h1 : letters.contains x = true
    · rw [if_pos h1] at h
      unfold namedS namedAt at h
      have hp := span_pos signsN (x :: l) x l rfl (letters_signs x h1)
      have hl := span_le signsN (x :: l)
      have hm := span_take signsN (x :: l)
      generalize spanN signsN (x :: l) = n at h hp hl hm
      have ht : ((x :: l).take n).length = n := by rw [List.length_take]; omega
      obtain ⟨n', rfl⟩ : ∃ n', n = n' + 1 := ⟨n - 1, by omega⟩
      left
      by_cases hn : isNm ((x :: l).take (n' + 1)) = true
      · rw [if_pos hn] at h
        simp only [Option.some.injEq, Prod.mk.injEq] at h
        obtain ⟨rfl, rfl, rfl, rfl⟩ := h
        exact ⟨x, l.take n', rfl, h1, hm, rfl, ht.symm, .inl ⟨rfl, hn⟩⟩
      · rw [if_neg hn] at h
        by_cases hk : n' + 1 > 20
        · rw [if_pos hk] at h; cases h
        · rw [if_neg hk] at h
          simp only [Option.some.injEq, Prod.mk.injEq] at h
          obtain ⟨rfl, rfl, rfl, rfl⟩ := h
          exact ⟨x, l.take n', rfl, h1, hm, rfl, ht.symm, .inr ⟨rfl, hn, by rw [ht]; omega⟩⟩
    · have h1' : letters.contains x = false := by simpa using h1
      rw [if_neg h1] at h
      by_cases h2 : digitsN.contains x = true
      · rw [if_pos h2] at h
        unfold countedS countedAt at h
        have hp := span_pos digitsN (x :: l) x l rfl h2
        have hl := span_le digitsN (x :: l)
        have hm := span_take digitsN (x :: l)
        generalize spanN digitsN (x :: l) = n at h hp hl hm
        have ht : ((x :: l).take n).length = n := by rw [List.length_take]; omega
        obtain ⟨n', rfl⟩ : ∃ n', n = n' + 1 := ⟨n - 1, by omega⟩
        right; left
        by_cases hk : (parsed ((x :: l).take (n' + 1))).2.isNone = true
        · rw [if_pos hk] at h
          by_cases hz : n' + 1 > 1 ∧ (x :: l).head? = some 48
          · rw [if_pos hz] at h; cases h
          · rw [if_neg hz] at h
            simp only [Option.some.injEq, Prod.mk.injEq] at h
            obtain ⟨rfl, rfl, rfl, rfl⟩ := h
            exact ⟨x, l.take n', rfl, h1', h2, hm, rfl, ht.symm, hk, rfl, fun hc => hz ⟨by have := hc.1; rw [ht] at this; exact this, by rw [hc.2]; rfl⟩⟩
        · rw [if_neg hk] at h; cases h
      · rw [if_neg h2] at h
        by_cases h3 : x = 39
        · subst h3
          rw [if_pos rfl] at h
          unfold quotedS at h
          simp only [List.drop_succ_cons, List.drop_zero] at h
          have hg := Lib.indexByte_ge l 39
          have hl := indexByte_lt l 39
          have hb := index_before 39 l
          have hs := fun o => @Lib.indexByte_some l 39 o
          generalize Lib.indexByte l 39 = n at h hg hl hb hs
          unfold quotedAt at h
          simp only [List.drop_succ_cons, List.drop_zero] at h
          by_cases hn : n < 0
          · rw [if_pos hn] at h; cases h
          · rw [if_neg hn] at h
            by_cases hk : n > 64
            · rw [if_pos hk] at h; cases h
            · rw [if_neg hk] at h
              simp only [Option.some.injEq, Prod.mk.injEq] at h
              obtain ⟨rfl, rfl, rfl, rfl⟩ := h
              right; right; left
              have ht : (l.take n.toNat).length = n.toNat := by rw [List.length_take]; omega
              refine ⟨rfl, rfl, hb (by omega), by rw [ht]; omega, by rw [ht], l.drop (n.toNat + 1), ?_⟩
              have hx := (hs n.toNat (by omega)).1
              have hlt : n.toNat < l.length := by omega
              rw [List.getElem?_eq_getElem hlt, Option.some.injEq] at hx
              conv => lhs; rw [← List.take_append_drop n.toNat l, List.drop_eq_getElem_cons hlt, hx]
        · rw [if_neg h3] at h
          unfold signedS signedAt at h
          by_cases hb : (bestSign (x :: l) signsL ⟨#[]⟩).data.toList = []
          · rw [if_pos hb] at h; cases h
          · rw [if_neg hb] at h
            simp only [Option.some.injEq, Prod.mk.injEq] at h
            obtain ⟨rfl, rfl, rfl, rfl⟩ := h
            right; right; right
            rcases best_any (x :: l) signsL ⟨#[]⟩ with e | ⟨e, _⟩
            · exact absurd (by rw [e]) hb
            · exact ⟨rfl, rfl, rfl, _, e, rfl⟩
theorem first_sign (y : UInt8) (l : B) (h1 : letters.contains y = false) (h2 : digitsN.contains y = false) (h3 : y ≠ 39) : firstS (y :: l) = signedS (y :: l) := by
  unfold firstS
  simp only
  rw [if_neg (by rw [h1]; simp), if_neg (by rw [h2]; simp), if_neg h3]
theorem first_again {s : B} {kd : Int} {t : B} {v : Int} {m : Nat} (h : firstS s = some (kd, t, v, m)) (r : B) (hr : r = [] ∨ ∃ r', r = 32 :: r') : firstS (put1 kd t ++ r) = some (kd, t, v, (put1 kd t).length) := by
  rcases first_kinds h with ⟨x, t', e, h1, h2, rfl, h3, h4⟩ | ⟨x, t', e, h1, h2, h3, rfl, h4, h5, rfl, h6⟩ | ⟨rfl, rfl, h1, h2, _, r', _⟩ | ⟨rfl, rfl, h1, b, h2, e⟩
  · have hp : put1 kd t = t := by
      unfold put1; rw [if_neg (by rcases h4 with ⟨rfl, _⟩ | ⟨rfl, _⟩ <;> decide)]
    have hsp : spanN signsN (t ++ r) = t.length := span_put _ _ _ h2 (by rcases hr with hr | ⟨r', hr⟩; exact .inl hr; exact .inr ⟨32, r', hr, by decide⟩)
    rw [hp]
    conv => lhs; rw [e, List.cons_append]
    unfold firstS
    simp only
    rw [if_pos h1, ← List.cons_append, ← e]
    unfold namedS namedAt
    rw [hsp, take_len]
    rcases h4 with ⟨rfl, h4⟩ | ⟨rfl, h4, h5⟩
    · rw [if_pos h4]
    · rw [if_neg h4, if_neg (by omega)]
  · have hsp : spanN digitsN (t ++ r) = t.length := span_put _ _ _ h3 (by rcases hr with hr | ⟨r', hr⟩; exact .inl hr; exact .inr ⟨32, r', hr, by decide⟩)
    show firstS (t ++ r) = _
    conv => lhs; rw [e, List.cons_append]
    unfold firstS
    simp only
    rw [if_neg (by rw [h1]; simp), if_pos h2, ← List.cons_append, ← e]
    unfold countedS countedAt
    rw [hsp, take_len, if_pos h5, if_neg]
    · rfl
    · rintro ⟨h7, h8⟩
      refine h6 ⟨h7, ?_⟩
      rw [e] at h8
      simpa using h8
  · show firstS (39 :: (t ++ [39]) ++ r) = _
    rw [List.cons_append, List.append_assoc, List.singleton_append]
    unfold firstS
    simp only
    rw [if_neg (by decide), if_neg (by decide), if_pos trivial]
    unfold quotedS quotedAt
    simp only [List.drop_succ_cons, List.drop_zero]
    rw [index_first 39 r t h1, if_neg (by omega), if_neg (by omega), Int.toNat_natCast, take_len]
    show _ = some ((3 : Int), t, (0 : Int), (39 :: (t ++ [39])).length)
    simp
  · obtain ⟨g1, g2, g3, g4⟩ := signs_heads b h2
    have hs := signs_short b h2
    rw [← e] at g1 g2 g3 g4 hs
    show firstS (t ++ r) = some (4, t, 0, t.length)
    cases ht : t with
    | nil => exact absurd ht g1
    | cons y t' =>
      rw [ht] at g2 g3 g4
      rw [List.cons_append, first_sign y _ g2 g3 g4, ← List.cons_append, ← ht]
      unfold signedS
      have hb : bestSign (t ++ r) signsL ⟨#[]⟩ = b := by
        obtain ⟨b1, b2⟩ := best_again b h2
        rw [← e] at b1 b2
        rcases hr with rfl | ⟨r', rfl⟩
        · rw [List.append_nil]; exact b1
        · rw [best_take, show t ++ 32 :: r' = (t ++ [32]) ++ r' by simp, List.take_append_of_le_length (by rw [ht]; simp)]
          exact b2
      rw [hb, ← e]
      unfold signedAt
      rw [if_neg g1]
def Good (x : S40) : Prop := ∃ s m, firstS s = some (x.f0, x.f1.data.toList, x.f2, m)
theorem lexW_good : ∀ (n : Nat) (s : B) (p : Nat), s.length ≤ n → ∀ x ∈ (lexW s p).1, Good x
  | 0, s, p, h, x, hx => by
    have : s = [] := List.length_eq_zero_iff.1 (by omega)
    subst this
    rw [lexW_nil] at hx
    cases hx
  | n + 1, s, p, h, x, hx => by
    by_cases h0 : s = []
    · subst h0; rw [lexW_nil] at hx; cases hx
    · cases hF : firstS s with
      | none => rw [lexW_bad p h0 hF] at hx; cases hx
      | some y =>
        obtain ⟨kd, t, v, m⟩ := y
        have hb := first_bounds hF
        rw [lexW_tok p hF] at hx
        rcases List.mem_cons.1 hx with rfl | hx
        · exact ⟨s, m, hF⟩
        · exact lexW_good n _ _ (by rw [List.length_drop]; omega) x hx
def putS1 (x : S40) : B := put1 x.f0 x.f1.data.toList
def places : Nat → List S40 → List S40
  | _, [] => []
  | p, x :: r => ⟨x.f0, x.f1, x.f2, (p : Int)⟩ :: places (p + (putS1 x).length + 1) r
theorem good_head {x : S40} (h : Good x) : ∃ c r, putS1 x = c :: r ∧ spaceN.contains c = false := by
  obtain ⟨s, m, h⟩ := h
  unfold putS1
  generalize x.f1.data.toList = t at h ⊢
  generalize x.f0 = kd at h ⊢
  rcases first_kinds h with ⟨c, t', e, h1, h2, _, h3, h4⟩ | ⟨c, t', e, h1, h2, h3, rfl, h4, h5, _, h6⟩ | ⟨rfl, _, h1, h2, _, r', _⟩ | ⟨rfl, _, h1, b, h2, e⟩
  · refine ⟨c, t', by unfold put1; rw [if_neg (by rcases h4 with ⟨rfl, _⟩ | ⟨rfl, _⟩ <;> decide)]; exact e, ?_⟩
    refine Bool.eq_false_iff.2 fun hc => ?_
    rw [(space_no c hc).2.2.1] at h1; cases h1
  · refine ⟨c, t', by unfold put1; rw [if_neg (by decide)]; exact e, ?_⟩
    refine Bool.eq_false_iff.2 fun hc => ?_
    rw [(space_no c hc).2.1] at h2; cases h2
  · exact ⟨39, t ++ [39], rfl, by decide⟩
  · refine ⟨t.headD 0, t.tail, ?_, ?_⟩
    · unfold put1
      rw [if_neg (by decide)]
      have := (signs_heads b h2).1
      rw [← e] at this
      cases t with
      | nil => exact absurd rfl this
      | cons y t' => rfl
    · have key : ∀ x ∈ signsL, spaceN.contains (x.data.toList.headD 0) = false := by decide +kernel
      rw [e]; exact key b h2
theorem join_head : ∀ (l : List S40), (∀ x ∈ l, Good x) → l ≠ [] → ∃ c r, Lib.join (l.map putS1) [32] = c :: r ∧ spaceN.contains c = false
  | [], _, h => absurd rfl h
  | x :: r, hg, _ => by
    obtain ⟨c, t, e, hc⟩ := good_head (hg x List.mem_cons_self)
    refine ⟨c, t ++ Lib.joinTail [32] (r.map putS1), ?_, hc⟩
    rw [List.map_cons]
    have e2 : Lib.join (putS1 x :: r.map putS1) [32] = putS1 x ++ Lib.joinTail [32] (r.map putS1) := Lib.join_cons _ _ _
    rw [e2, e]; rfl
theorem lex_put : ∀ (l : List S40) (p : Nat), (∀ x ∈ l, Good x) → lexW (Lib.join (l.map putS1) [32]) p = (places p l, p + (Lib.join (l.map putS1) [32]).length, 0)
  | [], p, _ => by rw [List.map_nil]; exact lexW_nil p
  | [x], p, hg => by
    obtain ⟨s, m, h⟩ := hg x List.mem_cons_self
    have h1 := first_again h [] (.inl rfl)
    rw [List.append_nil] at h1
    have e : Lib.join ([x].map putS1) [32] = putS1 x := by simp [Lib.join, Lib.joinTail]
    rw [e, show lexW (putS1 x) p = _ from lexW_tok p h1]
    have hd : (putS1 x).drop (put1 x.f0 x.f1.data.toList).length = [] := List.drop_length
    have hd2 : (putS1 x).drop ((put1 x.f0 x.f1.data.toList).length + spanN spaceN []) = [] := by
      rw [← List.drop_drop, hd]; rfl
    rw [hd, hd2, lexW_nil]
    rfl
  | x :: y :: r, p, hg => by
    obtain ⟨s, m, h⟩ := hg x List.mem_cons_self
    have e : Lib.join ((x :: y :: r).map putS1) [32] = putS1 x ++ 32 :: Lib.join ((y :: r).map putS1) [32] := by
      simp [Lib.join, Lib.joinTail]
    obtain ⟨c, J, hJ, hc⟩ := join_head (y :: r) (fun z hz => hg z (List.mem_cons_of_mem _ hz)) (by simp)
    have ih := lex_put (y :: r) (p + ((putS1 x).length + 1)) (fun z hz => hg z (List.mem_cons_of_mem _ hz))
    have h1 := first_again h (32 :: Lib.join ((y :: r).map putS1) [32]) (.inr ⟨_, rfl⟩)
    rw [e]
    generalize hK : Lib.join ((y :: r).map putS1) [32] = K at h1 ih ⊢
    rw [hK] at hJ
    have hd : (putS1 x ++ 32 :: K).drop (putS1 x).length = 32 :: K := List.drop_left' rfl
    have hs : spanN spaceN (32 :: K) = 1 := by
      have := span_stop spaceN c J hc [32]
      rw [hJ]
      exact this
    have hd2 : (putS1 x ++ 32 :: K).drop ((putS1 x).length + 1) = K := by
      rw [← List.drop_drop, hd]; rfl
    rw [lexW_tok p (s := putS1 x ++ 32 :: K) h1]
    show ((⟨x.f0, ⟨x.f1.data.toList.toArray⟩, x.f2, (p : Int)⟩ : S40) :: (lexW ((putS1 x ++ 32 :: K).drop ((putS1 x).length + spanN spaceN ((putS1 x ++ 32 :: K).drop (putS1 x).length))) _).1, _) = _
    rw [hd, hs, hd2]
    show ((⟨x.f0, ⟨x.f1.data.toList.toArray⟩, x.f2, (p : Int)⟩ : S40) :: (lexW K (p + ((putS1 x).length + spanN spaceN ((putS1 x ++ 32 :: K).drop (putS1 x).length)))).1, (lexW ((putS1 x ++ 32 :: K).drop ((putS1 x).length + spanN spaceN ((putS1 x ++ 32 :: K).drop (putS1 x).length))) (p + ((putS1 x).length + spanN spaceN ((putS1 x ++ 32 :: K).drop (putS1 x).length)))).2) = _
    rw [hd, hs, hd2, ih]
    simp only [places, Prod.mk.injEq, List.length_append, List.length_cons]
    refine ⟨?_, ?_⟩
    · simp only [bs_eq, Nat.add_assoc]
    · exact ⟨by omega, trivial⟩
/-! A byte that begins nothing -/
theorem lex_stop (bad : UInt8) (u : B) (hn : firstS (bad :: u) = none) (hsp : spaceN.contains bad = false) : ∀ (n : Nat) (s : B) (p : Nat), s.length ≤ n → (s = [] ∨ Ended s) → (lexW s p).2.2 = 0 → (lexW (s ++ bad :: u) p).2 = (p + s.length, 2)
  | 0, s, p, h, _, _ => by
    have : s = [] := List.length_eq_zero_iff.1 (by omega)
    subst this
    rw [List.nil_append, lexW_bad p (by simp) hn]
    rfl
  | n + 1, s, p, h, he, h0 => by
    by_cases hs : s = []
    · subst hs
      rw [List.nil_append, lexW_bad p (by simp) hn]
      rfl
    · have hE : Ended s := he.resolve_left hs
      cases hF : firstS s with
      | none => rw [lexW_bad p hs hF] at h0; cases h0
      | some y =>
        obtain ⟨kd, t, v, m⟩ := y
        have hb := first_bounds hF
        rw [lexW_tok p hF] at h0
        simp only at h0
        rw [lexW_tok p (first_ext hE (bad :: u) hF)]
        simp only
        have hd : (s ++ bad :: u).drop m = s.drop m ++ bad :: u := List.drop_append_of_le_length hb.2
        have hk := span_le spaceN (s.drop m)
        rw [List.length_drop] at hk
        rw [hd, span_stop spaceN bad u hsp]
        generalize spanN spaceN (s.drop m) = k at h0 hk ⊢
        have hd2 : (s ++ bad :: u).drop (m + k) = s.drop (m + k) ++ bad :: u := List.drop_append_of_le_length (by omega)
        rw [hd2]
        have hE2 : s.drop (m + k) = [] ∨ Ended (s.drop (m + k)) := by
          by_cases hlt : m + k < s.length
          · exact .inr (hE.drop _ hlt)
          · exact .inl (List.drop_of_length_le (by omega))
        rw [lex_stop bad u hn hsp n (s.drop (m + k)) (p + (m + k)) (by rw [List.length_drop]; omega) hE2 h0, List.length_drop]
        simp only [Prod.mk.injEq, and_true]
        omega
end Go.Proofs.YtjjphfnohgdpjaaDoor.SL
