/- Layer 6 in plain Lean: what Put computes; the chapter's examples. -/
import Derived.Test.YtjjphfnohgdpjaaDoorSLb
import Derived.Test.YtjjphfnohgdpjaaDoorSLd
import Derived.Test.YtjjphfnohgdpjaaDoorK7
namespace Go.Proofs.YtjjphfnohgdpjaaDoor.SL
set_option linter.unusedVariables false
set_option linter.unusedSimpArgs false
open Go.RowKit Go.Proofs.YtjjphfnohgdpjaaDoor.K Go.Proofs.YtjjphfnohgdpjaaDoor.SN Go.Proofs.YtjjphfnohgdpjaaDoorW.PrintWords
theorem tail_len (m : Nat) : ∀ r : List B, (∀ y ∈ r, y.length ≤ m) → (Lib.joinTail [32] r).length ≤ r.length * (1 + m)
  | [], _ => by simp [Lib.joinTail]
  | x :: r, h => by
    have ih := tail_len m r (fun y hy => h y (List.mem_cons_of_mem _ hy))
    have hx := h x List.mem_cons_self
    have e : (Lib.joinTail [32] (x :: r)).length = 1 + x.length + (Lib.joinTail [32] r).length := by
      simp [Lib.joinTail]; omega
    rw [e, List.length_cons, Nat.succ_mul]
    omega
theorem join_len (m : Nat) (l : List B) (h : ∀ y ∈ l, y.length ≤ m) : (Lib.join l [32]).length ≤ l.length * (1 + m) := by
  cases l with
  | nil => simp [Lib.join]
  | cons x r =>
    have := tail_len m r (fun y hy => h y (List.mem_cons_of_mem _ hy))
    have hx := h x List.mem_cons_self
    rw [Lib.join_cons, List.length_append, List.length_cons, Nat.succ_mul]
    omega
theorem mk_data (l : B) : (⟨l.toArray⟩ : ByteArray).data.toList = l := rfl
theorem put1_len (x : S40) : (putS1 x).length ≤ x.f1.size + 2 := by
  unfold putS1 put1
  split
  · rw [List.length_cons, List.length_append, List.length_singleton, dsize]; omega
  · rw [dsize]; omega
theorem put_ev (l : List S40) (hl : l.length ≤ 4096) (hs : ∀ x ∈ l, x.f1.size ≤ 4096) : Ev (fun k => lex_Put.f k l) ⟨(Lib.join (l.map putS1) [32]).toArray⟩ := by
  have key : ∀ (d i : Nat) (acc : List ByteArray), i + d = l.length → acc = (l.take i).map (fun x => (⟨(putS1 x).toArray⟩ : ByteArray)) → Ev (fun k => lex_Put.l0 k acc l (l.length : Int) (i : Int)) ⟨(Lib.join (l.map putS1) [32]).toArray⟩ := by
    intro d
    induction d with
    | zero =>
      intro i acc hi ha
      rw [List.take_of_length_le (by omega)] at ha
      have e : acc.map (fun x => x.data.toList) = l.map putS1 := by
        rw [ha, List.map_map]
        exact List.map_congr_left (fun x _ => rfl)
      refine Ev.step (f := fun k => _) (fun k => by rw [lex_Put.l0]) ?_
      refine Ev.neg (by omega) (Ev.got (a := ⟨(Lib.join (l.map putS1) [32]).toArray⟩) ?_ (Ev.now _))
      unfold strings_Join.f
      have hj := join_len 4098 (l.map putS1) (by
        intro y hy
        obtain ⟨x, hx, rfl⟩ := List.mem_map.1 hy
        have := put1_len x
        have := hs x hx
        omega)
      rw [List.length_map] at hj
      have hj2 : l.length * (1 + 4098) ≤ 4096 * (1 + 4098) := Nat.mul_le_mul_right _ hl
      rw [show acc.map (·.data.toList) = l.map putS1 from e]
      rw [if_pos ⟨by rw [ha, List.length_map]; omega, by show (Lib.join (l.map putS1) [32]).length ≤ _; omega⟩]
    | succ d ih =>
      intro i acc hi ha
      have hlt : i < l.length := by omega
      have er : rd_T40 l (i : Int) = l[i] := by simp [rd_T40, hlt]
      have hx := hs l[i] (List.getElem_mem hlt)
      have hw : wrap64 ((i : Int) + 1) = ((i + 1 : Nat) : Int) := by unfold wrap64; omega
      have hacc : acc.length < 8796093022208 := by rw [ha, List.length_map, List.length_take]; omega
      have hn : ∀ y : ByteArray, y.data.toList = putS1 l[i] → acc ++ [y] = (l.take (i + 1)).map (fun x => (⟨(putS1 x).toArray⟩ : ByteArray)) := by
        intro y hy
        rw [List.take_succ_eq_append_getElem hlt, List.map_append, ← ha]
        congr 1
        show [y] = [_]
        congr 1
        exact bext hy
      refine Ev.step (f := fun k => _) (fun k => by rw [lex_Put.l0]) ?_
      rw [er]
      refine Ev.pos (by omega) (Ev.pos (by omega) (Ev.pos (by omega) ?_))
      by_cases h3 : l[i].f0 = 3
      · refine Ev.pos h3 (Ev.pos (by omega) (Ev.pos (by rw [ByteArray.size_append]; show 1 + _ + 1 ≤ _; omega) (Ev.pos hacc ?_)))
        rw [hw]
        refine ih (i + 1) _ (by omega) (hn _ ?_)
        unfold putS1 put1
        rw [if_pos h3, ByteArray.data_append, ByteArray.data_append, Array.toList_append, Array.toList_append]
        rfl
      · refine Ev.neg h3 (Ev.pos hacc ?_)
        rw [hw]
        refine ih (i + 1) _ (by omega) (hn _ ?_)
        unfold putS1 put1
        rw [if_neg h3]
  exact key l.length 0 [] (by omega) rfl
theorem examples_ev : Ev (fun k => marshallinglaw06_examples.f k) true := by
  have e1 : allS [97, 60, 61, 39, 98, 39, 32, 48, 55] = ([], 7, 2) := by kernel_rfl
  have e2 : allS [97, 60, 61, 39, 98, 39] = ([⟨1, ⟨#[97]⟩, 0, 0⟩, ⟨4, ⟨#[60, 61]⟩, 0, 1⟩, ⟨3, ⟨#[98]⟩, 0, 3⟩], 6, 0) := by kernel_rfl
  have a1 := all_ev ⟨#[97, 60, 61, 39, 98, 39, 32, 48, 55]⟩
  have a2 := all_ev ⟨#[97, 60, 61, 39, 98, 39]⟩
  rw [show allS (⟨#[97, 60, 61, 39, 98, 39, 32, 48, 55]⟩ : ByteArray).data.toList = ([], 7, 2) from e1] at a1
  rw [show allS (⟨#[97, 60, 61, 39, 98, 39]⟩ : ByteArray).data.toList = ([⟨1, ⟨#[97]⟩, 0, 0⟩, ⟨4, ⟨#[60, 61]⟩, 0, 1⟩, ⟨3, ⟨#[98]⟩, 0, 3⟩], 6, 0) from e2] at a2
  have p := put_ev [⟨1, ⟨#[97]⟩, 0, 0⟩, ⟨4, ⟨#[60, 61]⟩, 0, 1⟩, ⟨3, ⟨#[98]⟩, 0, 3⟩] (by decide) (by decide)
  unfold marshallinglaw06_examples.f
  refine Ev.bind a1 (Ev.bind a2 ?_)
  refine Ev.pos rfl ?_
  refine Ev.pos rfl ?_
  refine Ev.pos rfl ?_
  refine Ev.pos rfl ?_
  refine Ev.pos rfl ?_
  refine Ev.pos rfl ?_
  refine Ev.pos (by decide) ?_
  refine Ev.pos (by decide +kernel) ?_
  refine Ev.pos (by decide) ?_
  refine Ev.pos (by decide +kernel) ?_
  refine Ev.pos (by decide) ?_
  refine Ev.pos (by decide +kernel) ?_
  refine Ev.bind p ?_
  refine Ev.pos (by decide +kernel) ?_
  refine Ev.got (a := signsL) rfl ?_
  exact Ev.now true
end Go.Proofs.YtjjphfnohgdpjaaDoor.SL
