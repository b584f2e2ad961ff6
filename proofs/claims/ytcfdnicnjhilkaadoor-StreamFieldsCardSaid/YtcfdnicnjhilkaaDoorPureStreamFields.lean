/- The statement 'StreamFields' as plain Lean: the fields of an own stream are found at their places; with one more field the stream is right just if the chapter lets it. -/
import Derived.Test.YtcfdnicnjhilkaaDoorSPJ
import Derived.Test.YtcfdnicnjhilkaaDoorJ13
namespace Go.Proofs.YtcfdnicnjhilkaaDoor.Pure
set_option linter.unusedVariables false
set_option linter.unusedSimpArgs false
open Go.RowKit Go.Proofs.YtcfdnicnjhilkaaDoor.J Go.Proofs.YtcfdnicnjhilkaaDoor.SPJ Go.Proofs.YtcfdnicnjhilkaaDoorW.PrintWords
def nmOf (x : S60) : B := x.f0.data.toList
theorem goS_app (x : S60) : ∀ (l : List S60) (done : List B), goS done l = 0 → goS done (l ++ [x]) = goS (done ++ l.map nmOf) [x]
  | [], done, _ => by simp
  | y :: r, done, h => by
    rw [goS] at h
    rw [List.cons_append, goS]
    by_cases h1 : isNm y.f0.data.toList = true
    · rw [if_pos h1] at h ⊢
      by_cases h2 : y.f1 < 1
      · rw [if_pos h2] at h; omega
      · rw [if_neg h2] at h ⊢
        by_cases h3 : y.f1 > 3
        · rw [if_pos h3] at h; omega
        · rw [if_neg h3] at h ⊢
          by_cases h4 : done.contains y.f0.data.toList = true
          · rw [if_pos h4] at h; omega
          · rw [if_neg h4] at h ⊢
            rw [goS_app x r _ h, List.map_cons, List.append_assoc]
            rfl
    · rw [if_neg h1] at h; omega
theorem goS_at : ∀ (l : List S60) (done : List B), goS done l = 0 → ∀ (i : Nat) (hi : i < l.length), nmOf l[i] ∉ done ++ (l.take i).map nmOf
  | [], _, _, i, hi => by simp at hi
  | y :: r, done, h, i, hi => by
    rw [goS] at h
    by_cases h1 : isNm y.f0.data.toList = true
    · rw [if_pos h1] at h
      by_cases h2 : y.f1 < 1
      · rw [if_pos h2] at h; omega
      · rw [if_neg h2] at h
        by_cases h3 : y.f1 > 3
        · rw [if_pos h3] at h; omega
        · rw [if_neg h3] at h
          by_cases h4 : done.contains y.f0.data.toList = true
          · rw [if_pos h4] at h; omega
          · rw [if_neg h4] at h
            cases i with
            | zero =>
              intro hm
              refine h4 (List.contains_iff_mem.2 ?_)
              simpa [nmOf] using hm
            | succ i =>
              have ih := goS_at r _ h i (by simpa using hi)
              simpa [nmOf, List.append_assoc] using ih
    · rw [if_neg h1] at h; omega
abbrev atP (l : List S60) (n : ByteArray) : Int := idxP (fun s => s.f0.toList == n.toList) l
theorem at_own {l : List S60} (h : goS [] l = 0) (i : Nat) (hi : i < l.length) : atP l l[i].f0 = i := by
  refine idxP_hit _ l i l[i] (by simp [hi]) (by simp) fun j y hj hy => ?_
  have hn := goS_at l [] h i hi
  simp only [List.nil_append, List.mem_map, not_exists, not_and] at hn
  obtain ⟨hjl, rfl⟩ := List.getElem?_eq_some_iff.1 hy
  have h2 := hn l[j] (List.mem_take_iff_getElem.2 ⟨j, by omega, rfl⟩)
  simp only [tl]
  exact beq_eq_false_iff_ne.2 h2
theorem at_there (l : List S60) (n : ByteArray) : decide (atP l n ≥ 0) = (l.map nmOf).contains n.data.toList := by
  rw [Bool.eq_iff_iff, decide_eq_true_iff, List.contains_iff_mem, List.mem_map]
  constructor
  · intro h
    refine Classical.byContradiction fun hc => ?_
    have := idxP_miss (fun s : S60 => s.f0.toList == n.toList) l fun j y hy => by
      simp only [tl]
      refine beq_eq_false_iff_ne.2 fun e => hc ⟨y, List.mem_of_getElem? hy, e⟩
    unfold atP at h; omega
  · rintro ⟨x, hx, e⟩
    unfold atP idxP
    have : (l.findIdx? fun s => s.f0.toList == n.toList).isSome = true := by
      rw [List.findIdx?_isSome]
      refine List.any_eq_true.2 ⟨x, hx, ?_⟩
      simp only [tl]
      exact beq_iff_eq.2 e
    obtain ⟨i, hi⟩ := Option.isSome_iff_exists.1 this
    rw [hi]
    show (i : Int) ≥ 0
    omega
theorem name_ev (n : ByteArray) : Ev (fun k => stream_IsName.f k n) (isNm n.data.toList) := Ev.of (fun k => stream_IsName.mono _ k) (isName_f 0 n)
theorem fields_go (x2 : ByteArray) (x3 : Int) (n : ByteArray) (l : List S60) (h : rightS n.data.toList l = 0) (hs : x2.size ≤ 9223372036854775807) : ∀ (d i : Nat), i + d = l.length →
    Ev (fun k => marshallinglaw03_StreamFields.l0 k x2 x3 true (decide (atP l x2 ≥ 0)) (i : Int) n l) true := by
  obtain ⟨p1, p2, p3⟩ := rightS_parts h
  have hg : goS [] l = 0 := by
    unfold rightS at h
    rw [if_pos p1, if_neg (by omega)] at h
    exact h
  have hsz : ∀ x ∈ l ++ [(⟨x2, x3⟩ : S60)], x.f0.size ≤ 9223372036854775807 := by
    intro x hx
    rcases List.mem_append.1 hx with hx | hx
    · have := isNm_len (p3 x hx).1
      rw [dsize] at this
      omega
    · rw [List.mem_singleton.1 hx]; exact hs
  intro d
  induction d with
  | zero =>
    intro i hi
    refine Ev.step (f := fun k => _) (fun k => by rw [marshallinglaw03_StreamFields.l0]) ?_
    refine Ev.neg (by omega) (Ev.got rfl (Ev.pos (by show l.length + 1 < _; omega) (Ev.bind (right_ev n (l ++ [⟨x2, x3⟩]) hsz) ?_)))
    by_cases h6 : (l.length : Int) = 6
    · refine Ev.pos h6 (Ev.pos rfl ?_)
      have : rightS n.data.toList (l ++ [⟨x2, x3⟩]) = 4 := by
        unfold rightS
        rw [if_pos p1, if_pos (by rw [List.length_append, List.length_singleton]; omega)]
      rw [this]; exact Ev.now _
    · refine Ev.neg h6 (Ev.bind (name_ev x2) ?_)
      have er : rightS n.data.toList (l ++ [⟨x2, x3⟩]) = goS (l.map nmOf) [⟨x2, x3⟩] := by
        unfold rightS
        rw [if_pos p1, if_neg (by rw [List.length_append, List.length_singleton]; omega), goS_app _ l [] hg, List.nil_append]
      rw [er, goS, goS]
      show Ev (fun k => if isNm x2.data.toList = true then _ else _) true
      by_cases h1 : isNm x2.data.toList = true
      · refine Ev.pos h1 ?_
        rw [if_pos h1]
        have fin : ∀ (b : Bool), b = decide (x3 < 1 ∨ x3 > 3) → Ev (fun k => marshallinglaw03_StreamFields.j2 k true (decide (atP l x2 ≥ 0)) (if x3 < 1 then 6 else if x3 > 3 then 6 else if (l.map nmOf).contains x2.data.toList = true then 11 else 0) 0 b) true := by
          intro b hb
          refine Ev.step (f := fun k => _) (fun k => by rw [marshallinglaw03_StreamFields.j2]) ?_
          by_cases hk : x3 < 1 ∨ x3 > 3
          · rw [decide_eq_true hk] at hb
            refine Ev.pos hb (Ev.pos rfl ?_)
            have : (if x3 < 1 then (6 : Int) else if x3 > 3 then 6 else if (l.map nmOf).contains x2.data.toList = true then 11 else 0) = 6 := by
              rcases hk with hk | hk
              · rw [if_pos hk]
              · by_cases hk2 : x3 < 1
                · rw [if_pos hk2]
                · rw [if_neg hk2, if_pos hk]
            rw [this]; exact Ev.now _
          · rw [decide_eq_false hk] at hb
            refine Ev.neg (by rw [hb]; simp) ?_
            rw [if_neg (fun h => hk (Or.inl h)), if_neg (fun h => hk (Or.inr h)), at_there]
            by_cases ht : (l.map nmOf).contains x2.data.toList = true
            · refine Ev.pos ht (Ev.pos rfl ?_)
              rw [if_pos ht]; exact Ev.now _
            · refine Ev.neg ht (Ev.pos rfl ?_)
              rw [if_neg ht]; exact Ev.now _
        by_cases hk : x3 < 1
        · exact Ev.pos hk (fin true (by simp [hk]))
        · exact Ev.neg hk (fin _ (by simp [hk]))
      · refine Ev.neg h1 (Ev.pos rfl ?_)
        rw [if_neg h1]; exact Ev.now _
  | succ d ih =>
    intro i hi
    have hlt : i < l.length := by omega
    refine Ev.step (f := fun k => _) (fun k => by rw [marshallinglaw03_StreamFields.l0]) ?_
    refine Ev.pos (by omega) (Ev.pos (by omega) (Ev.got (a := (i : Int)) ?_ (Ev.pos rfl ?_)))
    · rw [rd_get l i hlt]
      show some (atP l l[i].f0) = some (i : Int)
      rw [at_own hg i hlt]
    · rw [wrap_nat i (by omega)]
      exact ih (i + 1) (by omega)
theorem fields_j0 (x2 : ByteArray) (x3 : Int) (n : ByteArray) (l : List S60) (h : rightS n.data.toList l = 0) (hs : x2.size ≤ 9223372036854775807) :
    Ev (fun k => marshallinglaw03_StreamFields.j0 k x2 x3 true n l) true := by
  obtain ⟨p1, p2, p3⟩ := rightS_parts h
  have hsz : ∀ x ∈ l, x.f0.size ≤ 9223372036854775807 := by
    intro x hx
    have := isNm_len (p3 x hx).1
    rw [dsize] at this
    omega
  refine Ev.step (f := fun k => _) (fun k => by rw [marshallinglaw03_StreamFields.j0]) ?_
  refine Ev.got (a := atP l x2) rfl (Ev.bind (right_ev n l hsz) (Ev.pos h ?_))
  exact fields_go x2 x3 n l h hs l.length 0 (by omega)
theorem StreamFields : ∀ (a0 : Int) (l1 : List Int) (a2 : ByteArray) (a3 : Int) (a4 : Bool), (Lit.int .u8 a0).wf = true → l1.length ≤ maxLen → l1.length * 1 ≤ 140737488351232 → (∀ x ∈ l1, (Lit.int .u8 x).wf = true) → a2.size ≤ 140737488351232 → (Lit.int .i64 a3).wf = true → ∃ k, marshallinglaw03_StreamFields.f k a0 l1 a2 a3 a4 = some true := by
  intro a0 l1 a2 a3 a4 w0 m1 z1 w1 z2 w3
  have o1 := own_ev a0 l1 (wf_u8 w0).1 (fun x hx => wf_u8 (w1 x hx)) (by omega)
  have r1 := own_right a0 (l1.take 6) (by rw [List.length_take]; omega)
  refine Ev.rounds ?_
  unfold marshallinglaw03_StreamFields.f
  refine Ev.got rfl (Ev.pos rfl (Ev.bind o1 ?_))
  by_cases h : a4 = true
  · refine Ev.pos h (Ev.got rfl (Ev.pos ?_ (Ev.pos ?_ (fields_j0 _ _ _ _ r1 ?_))))
    · omega
    · show _ < (6 : Int); omega
    · generalize hq : ((Int.tdiv a0 8) % 256) % 6 = q
      have : 0 ≤ q ∧ q < 6 := by omega
      rcases (by omega : q = 0 ∨ q = 1 ∨ q = 2 ∨ q = 3 ∨ q = 4 ∨ q = 5) with rfl | rfl | rfl | rfl | rfl | rfl <;> decide +kernel
  · exact Ev.neg h (fields_j0 _ _ _ _ r1 (by omega))
end Go.Proofs.YtcfdnicnjhilkaaDoor.Pure
