/- The statement 'StreamOnce' (of every input of bulk at most 1048576) as plain Lean: what a text reads as is written as that very text, and as no longer or shorter one; what is not read leaves nothing. -/
import Derived.Test.YtcfdnicnjhilkaaDoorSP
import Derived.Test.YtcfdnicnjhilkaaDoorF26
namespace Go.Proofs.YtcfdnicnjhilkaaDoor.Pure
set_option linter.unusedVariables false
set_option linter.unusedSimpArgs false
open Go.RowKit Go.Proofs.YtcfdnicnjhilkaaDoor.F Go.Proofs.YtcfdnicnjhilkaaDoor.SP Go.Proofs.YtcfdnicnjhilkaaDoorW.PrintWords
theorem no_tail (c : UInt8) (sep : B) (hs : c ∉ sep) : ∀ r : List B, (∀ y ∈ r, c ∉ y) → c ∉ Lib.joinTail sep r
  | [], _ => by simp [Lib.joinTail]
  | x :: r, h => by
    have e : Lib.joinTail sep (x :: r) = sep ++ x ++ Lib.joinTail sep r := by simp [Lib.joinTail]
    rw [e]
    have ih := no_tail c sep hs r (fun y hy => h y (by simp [hy]))
    have hx := h x (by simp)
    simp only [List.mem_append]
    rintro ((h1 | h1) | h1)
    · exact hs h1
    · exact hx h1
    · exact ih h1
theorem no_join (c : UInt8) (sep : B) (hs : c ∉ sep) (xs : List B) (h : ∀ y ∈ xs, c ∉ y) : c ∉ Lib.join xs sep := by
  cases xs with
  | nil => simp [Lib.join]
  | cons x r =>
    rw [Lib.join_cons]
    simp only [List.mem_append]
    rintro (h1 | h1)
    · exact h x (by simp) h1
    · exact no_tail c sep hs r (fun y hy => h y (by simp [hy])) h1
theorem put_one {n : B} {l : List S60} (h : rightS n l = 0) : ∃ X, putS n l = X ++ [41] ∧ (41 : UInt8) ∉ X := by
  obtain ⟨hn, hl, hx⟩ := rightS_parts h
  refine ⟨n ++ [40] ++ Lib.join (l.map fput) [44], rfl, ?_⟩
  have h1 := no_sign hn 41 (by decide)
  have h2 : (41 : UInt8) ∉ Lib.join (l.map fput) [44] := by
    refine no_join 41 [44] (by decide) _ fun y hy => ?_
    obtain ⟨z, hz, rfl⟩ := List.mem_map.1 hy
    have h3 := no_sign (hx z hz).1 41 (by decide)
    have h4 := wordS_no z.f1 41 (by decide)
    unfold fput
    simp only [List.mem_append, List.mem_singleton]
    rintro ((h | h) | h)
    · exact h3 h
    · revert h; decide
    · exact h4 h
  simp only [List.mem_append, List.mem_singleton]
  rintro ((h | h) | h)
  · exact h1 h
  · revert h; decide
  · exact h2 h
theorem get_ok {s : B} {n : ByteArray} {l : List S60} (h : getS s = (n, l, true)) : rightS n.data.toList l = 0 ∧ putS n.data.toList l = s := by
  unfold getS at h
  by_cases h0 : rightS (Lib.cut s [40]).1 (fieldsS (trimS (Lib.cut s [40]).2.1)) = 0
  · rw [if_pos h0] at h
    by_cases h1 : putS (Lib.cut s [40]).1 (fieldsS (trimS (Lib.cut s [40]).2.1)) = s
    · rw [if_pos h1] at h
      simp only [Prod.mk.injEq, and_true] at h
      rw [← h.1, ← h.2]
      exact ⟨h0, h1⟩
    · rw [if_neg h1] at h; simp at h
  · rw [if_neg h0] at h; simp at h
theorem get_no {s : B} {n : ByteArray} {l : List S60} (h : getS s = (n, l, false)) : n = ⟨#[]⟩ ∧ l = [] := by
  unfold getS at h
  by_cases h0 : rightS (Lib.cut s [40]).1 (fieldsS (trimS (Lib.cut s [40]).2.1)) = 0
  · rw [if_pos h0] at h
    by_cases h1 : putS (Lib.cut s [40]).1 (fieldsS (trimS (Lib.cut s [40]).2.1)) = s
    · rw [if_pos h1] at h; simp at h
    · rw [if_neg h1] at h
      simp only [Prod.mk.injEq, and_true] at h
      exact ⟨h.1.symm, h.2.symm⟩
  · rw [if_neg h0] at h
    simp only [Prod.mk.injEq, and_true] at h
    exact ⟨h.1.symm, h.2.symm⟩
theorem ok_one {s : B} (h : (getS s).2.2 = true) : ∃ X, s = X ++ [41] ∧ (41 : UInt8) ∉ X := by
  obtain ⟨h0, h1⟩ := get_ok (s := s) (n := (getS s).1) (l := (getS s).2.1) (by rw [← h])
  obtain ⟨X, e, hX⟩ := put_one h0
  exact ⟨X, h1 ▸ e, hX⟩
theorem longer_no {s : B} (c : UInt8) (h : (getS s).2.2 = true) : (getS (s ++ [c])).2.2 = false := by
  cases hb : (getS (s ++ [c])).2.2 with
  | false => rfl
  | true =>
    obtain ⟨X, e, hX⟩ := ok_one h
    obtain ⟨Y, e', hY⟩ := ok_one hb
    have : s = Y := (List.append_inj' e' rfl).1
    exact absurd (by rw [← this, e]; simp) hY
theorem shorter_no {s : B} (h : (getS s).2.2 = true) : (getS (s.take (s.length - 1))).2.2 = false := by
  cases hb : (getS (s.take (s.length - 1))).2.2 with
  | false => rfl
  | true =>
    obtain ⟨X, e, hX⟩ := ok_one h
    obtain ⟨Y, e', hY⟩ := ok_one hb
    have : s.take (s.length - 1) = X := by rw [e]; simp
    rw [this] at e'
    exact absurd (by rw [e']; simp) hX
theorem once_j1 (a : ByteArray) (c : Int) (h : a.size ≤ 3000000) : Ev (fun k => marshallinglaw03_StreamOnce.j1 k a c true) true := by
  have g := get_ev a (by omega)
  refine Ev.step (f := fun k => _) (fun k => by rw [marshallinglaw03_StreamOnce.j1]) ?_
  refine Ev.bind g ?_
  by_cases hb : (getS a.data.toList).2.2 = true
  · refine Ev.pos hb ?_
    have hl := longer_no (UInt8.ofNat (c.toNat)) hb
    have hsh := shorter_no hb
    obtain ⟨X, eX, hX⟩ := ok_one hb
    have hsz : 1 ≤ a.size := by rw [← dsize, eX]; simp
    obtain ⟨h0, h1⟩ := get_ok (s := a.data.toList) (n := (getS a.data.toList).1) (l := (getS a.data.toList).2.1) (by rw [← hb])
    have hp := putS_small h0
    have hr := rightS_parts h0
    have ew : wrap64 ((a.size : Int) - 1) = ((a.size - 1 : Nat) : Int) := by unfold wrap64; omega
    have s1 : (strOfNums [c]).size = 1 := by simp [strOfNums]; rfl
    refine Ev.neg (by omega) (Ev.got rfl (Ev.pos (by omega) (Ev.bind (get_ev _ ?_) ?_)))
    · rw [ByteArray.size_append]; omega
    refine Ev.pos (by omega) (Ev.pos (by omega) (Ev.bind (get_ev _ ?_) ?_))
    · rw [ByteArray.size_extract]; omega
    refine Ev.pos rfl (Ev.bind (right_ev _ _ ?_) (Ev.pos h0 (Ev.bind (put_f _ _ (by omega) (by omega)) (Ev.pos ?_ ?_))))
    · intro x hx
      have := isNm_len (hr.2.2 x hx).1
      rw [dsize] at this; omega
    · rw [tl, tl]; exact h1
    · have e1 : (a ++ strOfNums [c]).data.toList = a.data.toList ++ [UInt8.ofNat c.toNat] := by
        rw [ByteArray.data_append, Array.toList_append]; rfl
      have e2 : (a.extract 0 (wrap64 ((a.size : Int) - 1)).toNat).data.toList = a.data.toList.take (a.data.toList.length - 1) := by
        rw [ew, dsize, Int.toNat_natCast, ByteArray.data_extract, Array.toList_extract, List.extract_eq_take_drop]; simp
      rw [e1, e2, hl, hsh]
      exact Ev.neg (by simp) (Ev.now _)
  · have hb' : (getS a.data.toList).2.2 = false := by simpa using hb
    obtain ⟨h0, h1⟩ := get_no (s := a.data.toList) (n := (getS a.data.toList).1) (l := (getS a.data.toList).2.1) (by rw [← hb'])
    refine Ev.neg hb (Ev.pos rfl ?_)
    rw [h0, h1]
    exact Ev.pos (by rw [tl]) (Ev.now _)
theorem once_l0 (l : List Int) (c : Int) (T : List ByteArray) (hT : T.length = 16) (hs : ∀ x ∈ T, x.size ≤ 20) (hl : ∀ x ∈ l, 0 ≤ x ∧ x ≤ 255) (hm : l.length ≤ 9223372036854775806) : ∀ (d i : Nat) (a : ByteArray), i + d = 12 → a.size ≤ 2000000 + 20 * i → Ev (fun k => marshallinglaw03_StreamOnce.l0 k a l c true T (i : Int)) true := by
  intro d
  induction d with
  | zero =>
    intro i a hi ha
    refine Ev.step (f := fun k => _) (fun k => by rw [marshallinglaw03_StreamOnce.l0]) ?_
    have hj := once_j1 a c (by omega)
    by_cases h : (i : Int) < (l.length : Int)
    · exact Ev.pos h (Ev.neg (by omega) hj)
    · exact Ev.neg h hj
  | succ d ih =>
    intro i a hi ha
    refine Ev.step (f := fun k => _) (fun k => by rw [marshallinglaw03_StreamOnce.l0]) ?_
    have hj := once_j1 a c (by omega)
    by_cases h : (i : Int) < (l.length : Int)
    · have hlt : i < l.length := by omega
      have hx := hl _ (List.getElem_mem hlt)
      have er : rd l (i : Int) = l[i] := by simp [rd, hlt]
      have em : Int.tmod (rd l (i : Int)) 16 = l[i] % 16 := by rw [er, Int.tmod_eq_emod_of_nonneg hx.1]
      have hsz : (rdOf ByteArray.empty T (l[i] % 16)).size ≤ 20 := by
        have hk : (l[i] % 16).toNat < T.length := by omega
        have : rdOf ByteArray.empty T (l[i] % 16) = T[(l[i] % 16).toNat] := by simp [rdOf, hk]
        rw [this]; exact hs _ (List.getElem_mem hk)
      refine Ev.pos h (Ev.pos (by omega) (Ev.pos (by omega) (Ev.pos (by rw [em]; omega) (Ev.pos (by rw [em, hT]; omega) (Ev.pos (by rw [em]; omega) ?_)))))
      rw [wrap_nat i (by omega), em]
      exact ih (i + 1) _ (by omega) (by rw [ByteArray.size_append]; omega)
    · exact Ev.neg h hj
theorem StreamOnce : ∀ (a0 : ByteArray) (l1 : List Int) (a2 : Int), a0.size ≤ 1048575 → l1.length ≤ maxLen → l1.length * 1 ≤ 140737488351232 → (∀ x ∈ l1, (Lit.int .u8 x).wf = true) → (Lit.int .u8 a2).wf = true → ∃ k, marshallinglaw03_StreamOnce.f k a0 l1 a2 = some true := by
  intro a0 l1 a2 h0 m1 z1 w1 w2
  refine Ev.rounds ?_
  unfold marshallinglaw03_StreamOnce.f
  refine Ev.got rfl (Ev.pos rfl ?_)
  exact once_l0 l1 a2 _ rfl (by decide +kernel) (fun x hx => wf_u8 (w1 x hx)) (by omega) 12 0 a0 rfl (by omega)
end Go.Proofs.YtcfdnicnjhilkaaDoor.Pure
