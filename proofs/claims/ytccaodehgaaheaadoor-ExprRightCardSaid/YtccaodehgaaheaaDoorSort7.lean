/- slices.Sort and slices.Compact of a row of texts that is one's own: what it holds behind them. -/
import Derived.Test.YtccaodehgaaheaaDoorShelf
import Derived.Test.YtccaodehgaaheaaDoorHelp7
import Derived.Sort.OwnSorted
import Derived.Lib.RowBridge
namespace Go.Proofs.YtccaodehgaaheaaDoor
open Go.RowKit Go.Sort Go.Proofs.YtccaodehgaaheaaDoorW.PrintWords
def texts (xs : List ByteArray) : List (List UInt8) := xs.map (fun s => s.data.toList)
def bytesL (l : List (List UInt8)) : List ByteArray := l.map fun z => (⟨z.toArray⟩ : ByteArray)
def sortS (xs : List ByteArray) : List ByteArray := bytesL ((texts xs).mergeSort fun x y => decide (x ≤ y))
def compactS (xs : List ByteArray) : List ByteArray := bytesL (Lib.compact (texts xs))
theorem bytesL_texts (xs : List ByteArray) : bytesL (texts xs) = xs := by
  unfold bytesL texts
  rw [List.map_map]
  exact List.map_id _
theorem texts_bytesL (l : List (List UInt8)) : texts (bytesL l) = l := by
  unfold bytesL texts
  rw [List.map_map]
  conv => rhs; rw [← List.map_id l]
  apply List.map_congr_left
  intro z _
  simp
theorem encs_bytesL (l : List (List UInt8)) : encs Value.string (bytesL l) = l.map encStr := by
  unfold encs bytesL
  rw [List.map_map]
  rfl
theorem encs_texts (xs : List ByteArray) : encs Value.string xs = (texts xs).map encStr := by
  rw [← encs_bytesL, bytesL_texts]
theorem sortS_length (xs : List ByteArray) : (sortS xs).length = xs.length := by simp [sortS, bytesL, texts]
theorem compactS_length (xs : List ByteArray) : (compactS xs).length ≤ xs.length := by
  unfold compactS bytesL
  rw [List.length_map]
  refine Nat.le_trans (Lib.compact_length_le _) ?_
  unfold texts
  rw [List.length_map]
  exact Nat.le_refl _
/-- The block of a row of texts. -/
theorem row_block {w : World} {base : Nat} {ok : Nat → Prop} {v : Value} {xs : List ByteArray} (h : Kd.R Kd.string 9 w base ok v xs) :
    (v = .slice none 0 0 ∧ xs = []) ∨ ∃ g cap cur, v = .slice (some ⟨g, 0, none⟩) (texts xs).length cap ∧ base ≤ g ∧ w.heap[g]? = some (.cells cur 9 (0, 0)) ∧ (texts xs).length ≤ cap ∧ cap ≤ maxLen ∧ cur.size = cap * 1 ∧ cur.toList.take (texts xs).length = (texts xs).map encStr := by
  have ho := Kd.own_of_R h
  have hl : (texts xs).length = xs.length := by simp [texts]
  rcases ho.2 with ⟨rfl, hn⟩ | ⟨g, cap, cur, rfl, h1, h2, h3, h4, h5, h6⟩
  · exact .inl ⟨rfl, List.length_eq_zero_iff.1 hn⟩
  · exact .inr ⟨g, cap, cur, by rw [hl], h1, h2, by omega, h4, h5, by rw [hl, ← encs_texts, ← h6, Nat.mul_one]⟩
theorem row_of_block {w : World} {base g cap : Nat} {cur : Array Value} {l : List (List UInt8)} (hb : base ≤ g) (hg : w.heap[g]? = some (.cells cur 9 (0, 0))) (h1 : l.length ≤ cap) (h2 : cap ≤ maxLen) (h3 : cur.size = cap * 1) (h4 : cur.toList.take l.length = l.map encStr) :
    Kd.R Kd.string 9 w base (fun _ => True) (.slice (some ⟨g, 0, none⟩) l.length cap) (bytesL l) := by
  have hl : (bytesL l).length = l.length := by simp [bytesL]
  refine Kd.R_of_own (h1 := fun _ => rfl) ?_ (fun _ _ => trivial)
  refine ⟨by simp [encs, hl], .inr ⟨g, cap, cur, by rw [hl], hb, hg, by omega, h2, h3, ?_⟩⟩
  rw [hl, encs_bytesL, Nat.mul_one]
  exact h4
theorem sort_row {w : World} {base : Nat} {ok : Nat → Prop} {v : Value} {xs : List ByteArray} (h : Kd.R Kd.string 9 w base ok v xs) (hl : xs.length < 4611686018427387904) :
    Calls Tryd.prog 40 #[v] w fun e w' => e = .returned (.tuple #[]) ∧ Kd.R Kd.string 9 w' base (fun _ => True) v (sortS xs) ∧ w.grownBy w' v.ownBlock := by
  rcases row_block h with ⟨rfl, rfl⟩ | ⟨g, cap, cur, rfl, hb, hg, h1, h2, h3, h4⟩
  · refine (Tryd.slices_Sort_string_none none 0 w).mono ?_
    rintro e w' ⟨rfl, rfl⟩
    refine ⟨rfl, ?_, World.grownBy.refl _ _⟩
    rw [show sortS [] = [] from by simp [sortS, texts, bytesL]]
    exact Kd.R_nil _ _ _ _ _
  · have hlt : g < w.heap.size := (Array.getElem?_eq_some_iff.1 hg).1
    have hsz : (texts xs).length < 4611686018427387904 := by simpa [texts] using hl
    refine (Tryd.slices_Sort_string g 0 cap (texts xs) w (holds_of_block hg h4) hlt hsz).mono ?_
    rintro e w' ⟨rfl, n, os, rfl⟩
    have hs : ((texts xs).mergeSort fun x y => decide (x ≤ y)).length = (texts xs).length := by simp
    refine ⟨rfl, ?_, grownBy_sorted _⟩
    have := row_of_block (w := grow (putRow encStr (Sort.ahead w n) g 0 ((texts xs).mergeSort fun x y => decide (x ≤ y)).toArray) os) (cap := cap) hb (heap_sorted _ hg) (by rw [hs]; exact h1) h2 (by simp [putCells, h3]) (take_putCells cur ((texts xs).mergeSort fun x y => decide (x ≤ y)) (by rw [hs]; omega))
    rwa [hs] at this
theorem compact_row {w : World} {base : Nat} {ok : Nat → Prop} {v : Value} {xs : List ByteArray} (h : Kd.R Kd.string 9 w base ok v xs) (hl : xs.length < 4611686018427387904) :
    Calls Tryd.prog 41 #[v] w fun e w' => ∃ v', e = .returned v' ∧ Kd.R Kd.string 9 w' base (fun _ => True) v' (compactS xs) ∧ w.grownBy w' v.ownBlock := by
  rcases row_block h with ⟨rfl, rfl⟩ | ⟨g, cap, cur, rfl, hb, hg, h1, h2, h3, h4⟩
  · refine (Tryd.slices_Compact_string_empty none 0 w).mono ?_
    rintro e w' ⟨rfl, rfl⟩
    refine ⟨_, rfl, ?_, World.grownBy.refl _ _⟩
    rw [show compactS [] = [] from rfl]
    exact Kd.R_nil _ _ _ _ _
  · have hsz : (texts xs).length < 4611686018427387904 := by simpa [texts] using hl
    have hc := Lib.compact_length_le (texts xs)
    refine (Tryd.slices_Compact_string g 0 cap (texts xs) w (holds_of_block hg h4) (by omega) h1).mono ?_
    rintro e w' ⟨rfl, n, rfl⟩
    have hlen : (Lib.compact (texts xs) ++ List.replicate ((texts xs).length - (Lib.compact (texts xs)).length) ([] : List UInt8)).length = (texts xs).length := by rw [List.length_append, List.length_replicate]; omega
    refine ⟨_, rfl, ?_, ?_⟩
    · rw [← grow_empty (putRow encStr (Sort.ahead w n) g 0 _)]
      refine row_of_block hb (heap_sorted _ hg) (by omega) h2 (by simp [putCells, h3]) ?_
      have ht := take_putCells cur (Lib.compact (texts xs) ++ List.replicate ((texts xs).length - (Lib.compact (texts xs)).length) ([] : List UInt8)) (by rw [hlen]; omega)
      have e : ∀ X : List Value, List.take (Lib.compact (texts xs)).length (List.take (Lib.compact (texts xs) ++ List.replicate ((texts xs).length - (Lib.compact (texts xs)).length) ([] : List UInt8)).length X) = List.take (Lib.compact (texts xs)).length X := fun X => by
        rw [List.take_take, Nat.min_eq_left (by rw [hlen]; exact hc)]
      rw [← e, ht, List.map_append, List.take_append_of_le_length (by simp), List.take_of_length_le (by simp)]
    · rw [← grow_empty (putRow encStr (Sort.ahead w n) g 0 _)]
      exact grownBy_sorted _
end Go.Proofs.YtccaodehgaaheaaDoor
