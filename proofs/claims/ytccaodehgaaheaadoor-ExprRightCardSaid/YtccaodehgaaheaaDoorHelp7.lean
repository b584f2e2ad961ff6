/- Plain words of the expressions' contracts: what holds of all of a list (an answer each), the first that it does not hold of, two lists side by side. -/
import Derived.Test.YtccaodehgaaheaaDoorHelp
namespace Go.Proofs.YtccaodehgaaheaaDoor
open Go.RowKit Go.Proofs.YtccaodehgaaheaaDoorW.PrintWords
def allO {α : Type} (R : α → Option Bool) : List α → Option Bool
  | [] => some true
  | x :: r => (R x).bind fun b => if b = true then allO R r else some false
def firstO {α : Type} (R : α → Option Bool) : List α → Int → Int
  | [], _ => -1
  | x :: r, j => if R x = some true then firstO R r (j + 1) else j
theorem firstO_hit {α : Type} (R : α → Option Bool) : ∀ (l : List α) (k : Nat) (x : α) (j : Int), l[k]? = some x → R x = some false → (∀ i y, i < k → l[i]? = some y → R y = some true) → firstO R l j = j + k
  | [], k, x, j, h, _, _ => by simp at h
  | y :: l, 0, x, j, h, hx, _ => by
    obtain rfl : y = x := by simpa using h
    unfold firstO
    rw [if_neg (by rw [hx]; simp)]
    simp
  | y :: l, k + 1, x, j, h, hx, hb => by
    unfold firstO
    rw [if_pos (hb 0 y (by omega) rfl), firstO_hit R l k x (j + 1) (by simpa using h) hx (fun i z hi hz => hb (i + 1) z (by omega) (by simpa using hz))]
    omega
theorem firstO_miss {α : Type} (R : α → Option Bool) : ∀ (l : List α) (j : Int), (∀ (i : Nat) y, l[i]? = some y → R y = some true) → firstO R l j = -1
  | [], _, _ => rfl
  | y :: l, j, hb => by
    unfold firstO
    rw [if_pos (hb 0 y rfl)]
    exact firstO_miss R l (j + 1) (fun i z hz => hb (i + 1) z (by simpa using hz))
theorem allO_at {α : Type} {R : α → Option Bool} : ∀ {l : List α} {b : Bool} (k : Nat) {x : α}, allO R l = some b → l[k]? = some x → (∀ i y, i < k → l[i]? = some y → R y = some true) → ∃ q, R x = some q
  | [], _, k, _, _, h, _ => by simp at h
  | y :: l, b, 0, x, h, hx, _ => by
    obtain rfl : y = x := by simpa using hx
    unfold allO at h
    obtain ⟨q, hq, _⟩ := Option.bind_eq_some_iff.1 h
    exact ⟨q, hq⟩
  | y :: l, b, k + 1, x, h, hx, hb => by
    unfold allO at h
    rw [hb 0 y (by omega) rfl, Option.bind_some, if_pos rfl] at h
    exact allO_at k h (by simpa using hx) (fun i z hi hz => hb (i + 1) z (by omega) (by simpa using hz))
theorem allO_true {α : Type} {R : α → Option Bool} : ∀ {l : List α} (j : Int), allO R l = some true → firstO R l j = -1
  | [], _, _ => rfl
  | y :: l, j, h => by
    unfold allO at h
    obtain ⟨q, hq, h⟩ := Option.bind_eq_some_iff.1 h
    cases q with
    | false => simp at h
    | true =>
      unfold firstO
      rw [if_pos hq]
      exact allO_true (j + 1) h
theorem allO_false {α : Type} {R : α → Option Bool} : ∀ {l : List α} (j : Nat), allO R l = some false → ∃ k : Nat, firstO R l j = (k : Int)
  | [], _, h => by simp [allO] at h
  | y :: l, j, h => by
    unfold allO at h
    obtain ⟨q, hq, h⟩ := Option.bind_eq_some_iff.1 h
    cases q with
    | false => exact ⟨j, by unfold firstO; rw [if_neg (by rw [hq]; simp)]⟩
    | true =>
      unfold firstO
      rw [if_pos hq]
      exact allO_false (j + 1) h
theorem allO_mono {α : Type} {R R' : α → Option Bool} (h : ∀ x, LeO (R x) (R' x)) : ∀ l, LeO (allO R l) (allO R' l)
  | [] => LeO.refl _
  | x :: l => by
    unfold allO
    exact LeO.bind (h x) (fun _ => LeO.ite (allO_mono h l) (LeO.refl _))
/-- Two lists, one by one. -/
def allO2 {α β : Type} (R : α → β → Option Bool) : List α → List β → Option Bool
  | [], [] => some true
  | x :: r, y :: q => (R x y).bind fun b => if b = true then allO2 R r q else some false
  | _, _ => some false
theorem allO2_mono {α β : Type} {R R' : α → β → Option Bool} (h : ∀ x y, LeO (R x y) (R' x y)) : ∀ l m, LeO (allO2 R l m) (allO2 R' l m)
  | [], [] => LeO.refl _
  | x :: l, y :: m => by
    unfold allO2
    exact LeO.bind (h x y) (fun _ => LeO.ite (allO2_mono h l m) (LeO.refl _))
  | [], _ :: _ => LeO.refl _
  | _ :: _, [] => LeO.refl _
theorem allO2_drop {α β : Type} {R : α → β → Option Bool} {b : Bool} {l : List α} {m : List β} (k : Nat) {x : α} {y : β} (hx : l[k]? = some x) (hy : m[k]? = some y) (h : allO2 R (l.drop k) (m.drop k) = some b) :
    ∃ q, R x y = some q ∧ (q = true → allO2 R (l.drop (k + 1)) (m.drop (k + 1)) = some b) ∧ (q = false → b = false) := by
  obtain ⟨h1, rfl⟩ := List.getElem?_eq_some_iff.1 hx
  obtain ⟨h2, rfl⟩ := List.getElem?_eq_some_iff.1 hy
  rw [List.drop_eq_getElem_cons h1, List.drop_eq_getElem_cons h2] at h
  unfold allO2 at h
  obtain ⟨q, hq, h⟩ := Option.bind_eq_some_iff.1 h
  refine ⟨q, hq, fun e => by subst e; simpa using h, fun e => by subst e; simpa using h.symm⟩
theorem allO2_ne {α β : Type} {R : α → β → Option Bool} {b : Bool} : ∀ {l : List α} {m : List β}, l.length ≠ m.length → allO2 R l m = some b → (∀ x y, ∃ q, R x y = some q) → b = false
  | [], [], h, _, _ => absurd rfl h
  | x :: l, y :: m, h, e, ht => by
    unfold allO2 at e
    obtain ⟨q, _, e⟩ := Option.bind_eq_some_iff.1 e
    cases q with
    | false => simpa using e.symm
    | true => exact allO2_ne (by simpa using h) (by simpa using e) ht
  | [], _ :: _, _, e, _ => by simpa [allO2] using e.symm
  | _ :: _, [], _, e, _ => by simpa [allO2] using e.symm
/-- A block of eight cells that is known whole: its cells, one by one. -/
theorem cells8 {w : World} {g : Nat} {t : TypeId} {v0 v1 v2 v3 v4 v5 v6 v7 : Value} (h : w.heap[g]? = some (.cells #[v0, v1, v2, v3, v4, v5, v6, v7] t (0, 0))) :
    w.cell? ⟨g, 0, none⟩ = some v0 ∧ w.cell? ⟨g, 1, none⟩ = some v1 ∧ w.cell? ⟨g, 2, none⟩ = some v2 ∧ w.cell? ⟨g, 3, none⟩ = some v3 ∧ w.cell? ⟨g, 4, none⟩ = some v4 ∧ w.cell? ⟨g, 5, none⟩ = some v5 ∧ w.cell? ⟨g, 6, none⟩ = some v6 ∧ w.cell? ⟨g, 7, none⟩ = some v7 ∧
    w.frozen? ⟨g, 0, none⟩ = false ∧ w.frozen? ⟨g, 1, none⟩ = false ∧ w.frozen? ⟨g, 2, none⟩ = false ∧ w.frozen? ⟨g, 3, none⟩ = false ∧ w.frozen? ⟨g, 4, none⟩ = false ∧ w.frozen? ⟨g, 5, none⟩ = false ∧ w.frozen? ⟨g, 6, none⟩ = false ∧ w.frozen? ⟨g, 7, none⟩ = false :=
  ⟨(blk_cell h 0).trans rfl, (blk_cell h 1).trans rfl, (blk_cell h 2).trans rfl, (blk_cell h 3).trans rfl, (blk_cell h 4).trans rfl, (blk_cell h 5).trans rfl, (blk_cell h 6).trans rfl, (blk_cell h 7).trans rfl, blk_frozen h 0, blk_frozen h 1, blk_frozen h 2, blk_frozen h 3, blk_frozen h 4, blk_frozen h 5, blk_frozen h 6, blk_frozen h 7⟩
end Go.Proofs.YtccaodehgaaheaaDoor
