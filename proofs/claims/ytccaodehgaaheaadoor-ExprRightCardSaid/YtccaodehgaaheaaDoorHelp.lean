/- Small plain lemmas that the hand-written contracts of this seat share: addresses, rows of texts, the first place in a list, bytes in a set. -/
import Derived.Test.YtccaodehgaaheaaDoorWWords
import Derived.WideShapes
import Derived.Lib.SliceRun
import Derived.Lib.Walk
import Derived.Lib.Hide
import Derived.Laws.RangeAny
namespace Go.Proofs.YtccaodehgaaheaaDoor
open Go.RowKit Go.Proofs.YtccaodehgaaheaaDoorW.PrintWords
theorem addr_plain {w : World} {ad : Addr} {v : Value} (h : w.cell? ad = some v) : ad = ⟨ad.block, ad.off, none⟩ := by
  obtain ⟨b, o, s⟩ := ad
  unfold World.cell? at h
  cases s with
  | none => rfl
  | some x => split at h <;> simp at h
theorem add_at (b o j : Nat) : (⟨b, o, none⟩ : Addr).add j = ⟨b, o + j, none⟩ := by
  unfold Addr.add; split <;> simp_all
theorem strs_cells {w : World} {A : Option Addr} {n : Nat} {xs : List ByteArray} (hr : Kd.C Kd.string w A n xs) (hn : 0 < xs.length) :
    ∃ b o, A = some ⟨b, o, none⟩ ∧ b < w.heap.size ∧ ∀ (j : Nat) x, xs[j]? = some x → w.cell? ⟨b, o + j, none⟩ = some (.string x) := by
  have hl := Kd.C_len hr
  have key : ∀ j, j < xs.length → ∃ ad, A = some ad ∧ w.cell? (ad.add j) = some (.string (xs.getD j ByteArray.empty)) := by
    intro j hj
    obtain ⟨ad, c, e1, _, hK, hc⟩ := Kd.C_get hr ByteArray.empty (j : Int) (by omega) (by omega)
    obtain rfl := hK
    have := hc 0 _ rfl
    exact ⟨ad, e1, by simpa [Kd.string, Kd.scalar] using this⟩
  obtain ⟨ad, rfl, h0⟩ := key 0 hn
  have h0' : w.cell? ad = some (.string (xs.getD 0 ByteArray.empty)) := by simpa [Addr.add] using h0
  have ep := addr_plain h0'
  refine ⟨ad.block, ad.off, by rw [← ep], World.block_lt_of_cell? w _ h0', fun j x hx => ?_⟩
  obtain ⟨hj, rfl⟩ := List.getElem?_eq_some_iff.1 hx
  obtain ⟨ad', e, h⟩ := key j hj
  cases e
  rw [ep, add_at] at h
  rw [h]; simp [hj]
def idxP {α : Type} (p : α → Bool) (l : List α) : Int := match l.findIdx? p with | some i => (i : Int) | none => -1
theorem idxP_hit {α : Type} (p : α → Bool) (l : List α) (k : Nat) (x : α) (hk : l[k]? = some x) (hx : p x = true) (hb : ∀ j y, j < k → l[j]? = some y → p y = false) : idxP p l = k := by
  obtain ⟨hk', rfl⟩ := List.getElem?_eq_some_iff.1 hk
  have : l.findIdx? p = some k := by
    rw [List.findIdx?_eq_some_iff_getElem]
    exact ⟨hk', hx, fun j hj => by simp [hb j _ hj (List.getElem?_eq_getElem (by omega))]⟩
  simp [idxP, this]
theorem idxP_miss {α : Type} (p : α → Bool) (l : List α) (hb : ∀ (j : Nat) y, l[j]? = some y → p y = false) : idxP p l = -1 := by
  have : l.findIdx? p = none := by
    rw [List.findIdx?_eq_none_iff]
    intro x hx
    obtain ⟨j, hj⟩ := List.mem_iff_getElem?.1 hx
    simp [hb j x hj]
  simp [idxP, this]
theorem drop_hit (p : UInt8 → Bool) (l : List UInt8) (k : Nat) (b : UInt8) (hk : l[k]? = some b) (hb : p b = false) (ha : ∀ j y, j < k → l[j]? = some y → p y = true) : l.dropWhile p = l.drop k := by
  induction l generalizing k with
  | nil => simp at hk
  | cons x l ih =>
    cases k with
    | zero => obtain rfl : x = b := by simpa using hk
              simp [hb]
    | succ k =>
      have hx : p x = true := ha 0 x (by omega) rfl
      rw [List.dropWhile_cons_of_pos hx, List.drop_succ_cons]
      exact ih k (by simpa using hk) (fun j y hj hy => ha (j + 1) y (by omega) (by simpa using hy))
theorem drop_miss (p : UInt8 → Bool) (l : List UInt8) (ha : ∀ (j : Nat) y, l[j]? = some y → p y = true) : l.dropWhile p = [] := by
  induction l with
  | nil => rfl
  | cons x l ih =>
    rw [List.dropWhile_cons_of_pos (ha 0 x rfl)]
    exact ih (fun j y hj => ha (j + 1) y (by simpa using hj))
theorem get_data (s : ByteArray) (j : Nat) (h : j < s.size) : s.data.toList[j]? = some (s[j]'h) := by
  have h' : j < s.data.toList.length := by simpa using h
  rw [List.getElem?_eq_getElem h']
  rfl
/-- The inner loop's test: is the rune among the bytes so far? -/
def among (s : ByteArray) (k : Nat) (r : Nat) : Bool := (s.data.toList.take k).any (fun b => b.toNat == r)
theorem among_succ (s : ByteArray) (k : Nat) (r : Nat) (h : k < s.size) : among s (k + 1) r = (among s k r || (r == (s[k]'h).toNat)) := by
  unfold among
  rw [List.take_add_one, get_data s k h]
  simp [Bool.beq_comm (b := r)]
theorem among_all (s : ByteArray) (k : Nat) (r : Nat) (h : s.size ≤ k) : among s k r = s.data.toList.any (fun b => b.toNat == r) := by
  unfold among
  rw [List.take_of_length_le (by simpa using h)]
theorem among_byte (s : ByteArray) (c : UInt8) : s.data.toList.any (fun b => b.toNat == c.toNat) = s.data.toList.contains c := by
  rw [Bool.eq_iff_iff]
  simp only [List.any_eq_true, List.contains_iff_mem, beq_iff_eq]
  constructor
  · rintro ⟨b, hb, e⟩
    rwa [← UInt8.toNat_inj.1 e]
  · intro h
    exact ⟨c, h, rfl⟩
theorem extract_drop (s : ByteArray) (i : Nat) : s.extract i s.size = ⟨(s.data.toList.drop i).toArray⟩ := by
  apply Go.WideShapes.bytes_inj
  rw [ByteArray.data_extract, Array.toList_extract]
  simp only [List.extract_eq_take_drop]
  exact List.take_of_length_le (by rw [List.length_drop, data_length]; exact Nat.le_refl _)
end Go.Proofs.YtccaodehgaaheaaDoor
