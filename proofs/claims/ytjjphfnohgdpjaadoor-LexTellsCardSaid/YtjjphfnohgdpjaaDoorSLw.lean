/- Layer 6 in plain Lean: a text of pieces is short, and ends with a space if it is not tight. -/
import Derived.Test.YtjjphfnohgdpjaaDoorSLd
import Derived.Test.YtjjphfnohgdpjaaDoorK8
namespace Go.Proofs.YtjjphfnohgdpjaaDoor.SL
set_option linter.unusedVariables false
set_option linter.unusedSimpArgs false
open Go.RowKit Go.Proofs.YtjjphfnohgdpjaaDoor.K Go.Proofs.YtjjphfnohgdpjaaDoor.SN Go.Proofs.YtjjphfnohgdpjaaDoorW.PrintWords
def sepsL : List ByteArray := [⟨#[32]⟩, ⟨#[9]⟩, ⟨#[10]⟩, ⟨#[32, 13]⟩]
def wordsIn (k : Nat) (l : List Int) (b : Bool) (parts : List ByteArray) (acc : ByteArray) (i q : Int) : Option ByteArray :=
  if 0 ≤ q then (if q < (parts.length : Int) then (if acc.size + (rdOf ByteArray.empty parts q).size ≤ 9223372036854775807 then (if b = true then (marshallinglaw06_words.l0 k l b parts (acc ++ (rdOf ByteArray.empty parts q)) (wrap64 (i + 1))) else ((some (sepsL : List ByteArray)).bind fun y => (if 0 ≤ (Int.tmod (rd l i) 4) then (if (Int.tmod (rd l i) 4) < (y.length : Int) then (if (acc ++ (rdOf ByteArray.empty parts q)).size + (rdOf ByteArray.empty y (Int.tmod (rd l i) 4)).size ≤ 9223372036854775807 then (marshallinglaw06_words.l0 k l b parts ((acc ++ (rdOf ByteArray.empty parts q)) ++ (rdOf ByteArray.empty y (Int.tmod (rd l i) 4))) (wrap64 (i + 1))) else (none)) else (none)) else (none)))) else (none)) else (none)) else (none)
theorem words_j1 (k : Nat) (l : List Int) (b : Bool) (parts : List ByteArray) (acc : ByteArray) (i : Int) (x : Bool) : marshallinglaw06_words.j1 (k + 1) l b parts acc i x =
    if x = true then (if 0 ≤ i then (if i < (l.length : Int) then (if (wrap64 (rd l i)) < 235 then wordsIn k l b parts acc i (Int.tmod (Int.tmod (wrap64 (rd l i)) 43) 50) else wordsIn k l b parts acc i (Int.tmod (wrap64 (rd l i)) 50)) else none) else none) else some acc := by
  rw [marshallinglaw06_words.j1]; rfl
def EndS (b : Bool) (t : ByteArray) : Prop := b = false → t.data.toList = [] ∨ Ended t.data.toList
theorem rdOf_mem (d : ByteArray) (l : List ByteArray) (q : Int) (h0 : 0 ≤ q) (h : q < (l.length : Int)) : rdOf d l q ∈ l := by
  have : q.toNat < l.length := by omega
  have e : rdOf d l q = l[q.toNat] := by unfold rdOf; simp [this]
  rw [e]; exact List.getElem_mem _
theorem seps_ended : ∀ x ∈ sepsL, x.size ≤ 2 ∧ ∃ r c, x.data.toList = r ++ [c] ∧ spaceN.contains c = true := by
  intro x hx
  simp only [sepsL, List.mem_cons, List.not_mem_nil, or_false] at hx
  rcases hx with rfl | rfl | rfl | rfl
  · exact ⟨by decide, [], 32, rfl, by decide⟩
  · exact ⟨by decide, [], 9, rfl, by decide⟩
  · exact ⟨by decide, [], 10, rfl, by decide⟩
  · exact ⟨by decide, [32], 13, rfl, by decide⟩
theorem words_go (l : List Int) (b : Bool) (parts : List ByteArray) (hl : ∀ x ∈ l, 0 ≤ x ∧ x ≤ 255) (hp : parts.length = 50) (hs : ∀ x ∈ parts, x.size ≤ 21) : ∀ (d i : Nat) (acc : ByteArray), i + d = min l.length 30 → acc.size ≤ 23 * i → EndS b acc →
    ∃ t, Ev (fun k => marshallinglaw06_words.l0 k l b parts acc (i : Int)) t ∧ t.size ≤ 690 ∧ EndS b t := by
  intro d
  induction d with
  | zero =>
    intro i acc hi ha he
    have hm := Nat.min_le_right l.length 30
    refine ⟨acc, ?_, by omega, he⟩
    refine Ev.step (f := fun k => _) (fun k => by rw [marshallinglaw06_words.l0]) ?_
    have e : ∀ x : Bool, x = false → Ev (fun k => marshallinglaw06_words.j1 k l b parts acc (i : Int) x) acc := by
      intro x hx
      refine Ev.step (f := fun k => _) (fun k => by rw [words_j1]) ?_
      exact Ev.neg (by rw [hx]; simp) (Ev.now _)
    by_cases h : (i : Int) < (l.length : Int)
    · exact Ev.pos h (e _ (decide_eq_false (by omega)))
    · exact Ev.neg h (e _ rfl)
  | succ d ih =>
    intro i acc hi ha he
    have m1 := Nat.min_le_left l.length 30
    have m2 := Nat.min_le_right l.length 30
    have hlt : i < l.length := by omega
    have hx := hl _ (List.getElem_mem hlt)
    have er : rd l (i : Int) = l[i] := by simp [rd, hlt]
    have hw : wrap64 ((i : Int) + 1) = ((i + 1 : Nat) : Int) := by unfold wrap64; omega
    have step : ∀ q : Int, 0 ≤ q → q < 50 → ∃ t, Ev (fun k => wordsIn k l b parts acc (i : Int) q) t ∧ t.size ≤ 690 ∧ EndS b t := by
      intro q q0 q1
      have hmem := rdOf_mem ByteArray.empty parts q q0 (by rw [hp]; exact q1)
      have hsz := hs _ hmem
      unfold wordsIn
      generalize rdOf ByteArray.empty parts q = w at hsz ⊢
      by_cases hb : b = true
      · obtain ⟨t, e1, e2, e3⟩ := ih (i + 1) (acc ++ w) (by omega) (by rw [ByteArray.size_append]; omega) (fun h => by rw [hb] at h; cases h)
        refine ⟨t, Ev.pos q0 (Ev.pos (by rw [hp]; exact q1) (Ev.pos (by omega) (Ev.pos hb ?_))), e2, e3⟩
        rw [hw]; exact e1
      · have h4 : 0 ≤ Int.tmod (rd l (i : Int)) 4 ∧ Int.tmod (rd l (i : Int)) 4 < 4 := by
          rw [er, Int.tmod_eq_emod_of_nonneg hx.1]; omega
        have hsm := rdOf_mem ByteArray.empty sepsL _ h4.1 h4.2
        obtain ⟨s1, r, c, s2, s3⟩ := seps_ended _ hsm
        generalize hsp : rdOf ByteArray.empty sepsL (Int.tmod (rd l (i : Int)) 4) = sp at s1 s2 hsm
        obtain ⟨t, e1, e2, e3⟩ := ih (i + 1) (acc ++ w ++ sp) (by omega) (by rw [ByteArray.size_append, ByteArray.size_append]; omega) (fun _ => .inr ⟨(acc ++ w).data.toList ++ r, c, by
          rw [ByteArray.data_append, Array.toList_append, s2, List.append_assoc], s3⟩)
        refine ⟨t, Ev.pos q0 (Ev.pos (by rw [hp]; exact q1) (Ev.pos (by omega) (Ev.neg hb (Ev.got rfl (Ev.pos h4.1 (Ev.pos h4.2 (Ev.pos (by simp only [hsp, ByteArray.size_append]; omega) ?_))))))), e2, e3⟩
        simp only [hsp]
        rw [hw]; exact e1
    have hwr : wrap64 (rd l (i : Int)) = l[i] := by rw [er]; unfold wrap64; omega
    have go : ∃ t, Ev (fun k => marshallinglaw06_words.j1 k l b parts acc (i : Int) (decide ((i : Int) < 30))) t ∧ t.size ≤ 690 ∧ EndS b t := by
      by_cases h235 : l[i] < 235
      · obtain ⟨t, e1, e2, e3⟩ := step (Int.tmod (Int.tmod l[i] 43) 50) (by rw [Int.tmod_eq_emod_of_nonneg hx.1, Int.tmod_eq_emod_of_nonneg (by omega)]; omega) (by rw [Int.tmod_eq_emod_of_nonneg hx.1, Int.tmod_eq_emod_of_nonneg (by omega)]; omega)
        refine ⟨t, ?_, e2, e3⟩
        refine Ev.step (f := fun k => _) (fun k => by rw [words_j1]) ?_
        rw [hwr]
        exact Ev.pos (decide_eq_true (by omega)) (Ev.pos (by omega) (Ev.pos (by omega) (Ev.pos h235 e1)))
      · obtain ⟨t, e1, e2, e3⟩ := step (Int.tmod l[i] 50) (by rw [Int.tmod_eq_emod_of_nonneg hx.1]; omega) (by rw [Int.tmod_eq_emod_of_nonneg hx.1]; omega)
        refine ⟨t, ?_, e2, e3⟩
        refine Ev.step (f := fun k => _) (fun k => by rw [words_j1]) ?_
        rw [hwr]
        exact Ev.pos (decide_eq_true (by omega)) (Ev.pos (by omega) (Ev.pos (by omega) (Ev.neg h235 e1)))
    obtain ⟨t, e1, e2, e3⟩ := go
    refine ⟨t, ?_, e2, e3⟩
    refine Ev.step (f := fun k => _) (fun k => by rw [marshallinglaw06_words.l0]) ?_
    exact Ev.pos (by omega) e1
theorem words_ev (l : List Int) (b : Bool) (hl : ∀ x ∈ l, 0 ≤ x ∧ x ≤ 255) : ∃ t, Ev (fun k => marshallinglaw06_words.f k l b) t ∧ t.size ≤ 690 ∧ EndS b t := by
  unfold marshallinglaw06_words.f
  exact words_go l b _ hl (by decide) (by decide) (min l.length 30) 0 _ (by omega) (by decide) (fun _ => .inl rfl)
end Go.Proofs.YtjjphfnohgdpjaaDoor.SL
