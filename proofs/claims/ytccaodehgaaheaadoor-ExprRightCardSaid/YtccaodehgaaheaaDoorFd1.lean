/- The feed: what its bytes make (plain), and its frame in memory. -/
import Derived.Test.YtccaodehgaaheaaDoorR0
import Derived.Laws.Tables
namespace Go.Proofs.YtccaodehgaaheaaDoor.R
open Go.RowKit Go.Proofs.YtccaodehgaaheaaDoorW.PrintWords Go.Proofs.YtccaodehgaaheaaDoorW.PrintLast Go.Proofs.YtccaodehgaaheaaDoorW.PrintMore
set_option linter.unusedVariables false
set_option linter.unusedSimpArgs false
/-! ### plain -/
/-- A variable that may be spoken of, and its fields. -/
structure Slot where
  f0 : ByteArray
  f1 : List ByteArray
def zSlot : Slot := ⟨⟨#[]⟩, []⟩
def rdSlot (xs : List Slot) (i : Int) : Slot := xs.getD i.toNat zSlot
/-- The next byte, and the place behind it. -/
def nx (l : List Int) (a : Int) : Int × Int := if (l.length : Int) ≤ a then (0, a) else (rd l a, a + 1)
/-- The first hit of f among 0, 1, .., n - 1. -/
def seekN {α : Type} (f : Nat → Option α) : Nat → Option α
  | 0 => none
  | n + 1 => (seekN f n).or (f n)
theorem seekN_none {α : Type} {f : Nat → Option α} : ∀ {n : Nat}, (∀ j, j < n → f j = none) → seekN f n = none
  | 0, _ => rfl
  | n + 1, h => by
    unfold seekN
    rw [seekN_none (fun j hj => h j (by omega)), h n (by omega)]
    rfl
theorem seekN_hit {α : Type} {f : Nat → Option α} {kk : Nat} {x : α} (hk : f kk = some x) (hb : ∀ j, j < kk → f j = none) : ∀ {n : Nat}, kk < n → seekN f n = some x
  | 0, h => absurd h (Nat.not_lt_zero _)
  | n + 1, h => by
    unfold seekN
    by_cases e : kk = n
    · subst e
      rw [seekN_none hb, hk]
      rfl
    · rw [seekN_hit hk hb (n := n) (by omega)]
      rfl
theorem seekN_some {α : Type} {f : Nat → Option α} {x : α} : ∀ {n : Nat}, seekN f n = some x → ∃ j, j < n ∧ f j = some x
  | 0, h => by cases h
  | n + 1, h => by
    unfold seekN at h
    cases e : seekN f n with
    | some y =>
      rw [e] at h
      obtain rfl : y = x := by simpa using h
      obtain ⟨j, hj, h2⟩ := seekN_some e
      exact ⟨j, by omega, h2⟩
    | none =>
      rw [e] at h
      exact ⟨n, by omega, by simpa using h⟩
def pickC (fields name : ByteArray) (n : Nat) : Option Unit := if (name.toList == (fields.extract n (n + 1)).toList) = true then some () else none
def pickF (b : Int) (fields : ByteArray) (s : Slot) (k : Nat) : Option ByteArray := (seekN (pickC fields (rdOf ByteArray.empty s.f1 (Int.tmod (Int.tdiv b 8 + k) s.f1.length))) fields.size).map fun _ => rdOf ByteArray.empty s.f1 (Int.tmod (Int.tdiv b 8 + k) s.f1.length)
def pickI (b : Int) (fields : ByteArray) (l : List Slot) (i : Nat) : Option (ByteArray × ByteArray) := (seekN (pickF b fields (rdSlot l (Int.tmod (b + i) l.length))) (rdSlot l (Int.tmod (b + i) l.length)).f1.length).map fun m => ((rdSlot l (Int.tmod (b + i) l.length)).f0, m)
/-- What is spoken of: the first of the variables, from b on, and the first of its fields, from b/8 on, that is one of some letters. -/
def pick (b : Int) (fields : ByteArray) (l : List Slot) : Option (ByteArray × ByteArray) := seekN (pickI b fields l) l.length
def litE (v : S23) : S26 := ⟨0, ⟨#[]⟩, v, ⟨#[]⟩, ⟨#[]⟩, []⟩
def refE (x y : ByteArray) : S26 := ⟨1, ⟨#[]⟩, ⟨0, 0, ⟨#[]⟩⟩, x, y, []⟩
def cntE (x : ByteArray) : S26 := ⟨2, ⟨#[]⟩, ⟨0, 0, ⟨#[]⟩⟩, x, ⟨#[]⟩, []⟩
def unE (o : ByteArray) (x : S26) : S26 := ⟨3, o, ⟨0, 0, ⟨#[]⟩⟩, ⟨#[]⟩, ⟨#[]⟩, [x]⟩
def binE (o : ByteArray) (x y : S26) : S26 := ⟨4, o, ⟨0, 0, ⟨#[]⟩⟩, ⟨#[]⟩, ⟨#[]⟩, [x, y]⟩
def ofF (l : List Int) (a : Int) (vars : List Slot) (own : Slot) (fields : ByteArray) (other : S23) : S26 × Int :=
  (match pick (nx l a).1 fields (vars ++ [own]) with
    | some p => refE p.1 p.2
    | none => litE other, (nx l a).2)
def numsL : List Int := [0, 1, 2, 3, 5, 9223372036854775807]
def arith : List ByteArray := [⟨#[43]⟩, ⟨#[45]⟩, ⟨#[42]⟩, ⟨#[47]⟩, ⟨#[37]⟩]
def wordsL : List ByteArray := [⟨#[]⟩, ⟨#[97]⟩, ⟨#[98]⟩, ⟨#[120, 32, 121]⟩]
def cmpL : List ByteArray := [⟨#[61, 61]⟩, ⟨#[33, 61]⟩, ⟨#[60]⟩, ⟨#[60, 61]⟩, ⟨#[62]⟩, ⟨#[62, 61]⟩, ⟨#[60, 61]⟩, ⟨#[62, 61]⟩]
def logicL : List ByteArray := [⟨#[38, 38]⟩, ⟨#[124, 124]⟩]
def numF : Nat → List Int → Int → List Slot → Slot → S26 × Int
  | 0, l, a, vars, own =>
    if Int.tmod (nx l a).1 8 < 3 then (litE ⟨1, rd numsL (Int.tmod (Int.tdiv (nx l a).1 8) 6), ⟨#[]⟩⟩, (nx l a).2)
    else ofF l (nx l a).2 vars own ⟨#[107, 120, 121]⟩ ⟨1, 1, ⟨#[]⟩⟩
  | n + 1, l, a, vars, own =>
    if Int.tmod (nx l a).1 8 < 3 then (litE ⟨1, rd numsL (Int.tmod (Int.tdiv (nx l a).1 8) 6), ⟨#[]⟩⟩, (nx l a).2)
    else if Int.tmod (nx l a).1 8 < 5 then ofF l (nx l a).2 vars own ⟨#[107, 120, 121]⟩ ⟨1, 1, ⟨#[]⟩⟩
    else if Int.tmod (nx l a).1 8 = 5 then (cntE own.f0, (nx l a).2)
    else if Int.tmod (nx l a).1 8 = 6 then (unE ⟨#[45]⟩ (numF n l (nx l a).2 vars own).1, (numF n l (nx l a).2 vars own).2)
    else (binE (rdOf ByteArray.empty arith (Int.tmod (Int.tdiv (nx l a).1 8) 5)) (numF n l (nx l a).2 vars own).1 (numF n l (numF n l (nx l a).2 vars own).2 vars own).1, (numF n l (numF n l (nx l a).2 vars own).2 vars own).2)
def textF : Nat → List Int → Int → List Slot → Slot → S26 × Int
  | 0, l, a, vars, own =>
    if Int.tmod (nx l a).1 4 = 0 then (litE ⟨3, 0, rdOf ByteArray.empty wordsL (Int.tmod (Int.tdiv (nx l a).1 4) 4)⟩, (nx l a).2)
    else ofF l (nx l a).2 vars own ⟨#[115]⟩ ⟨3, 0, ⟨#[97]⟩⟩
  | n + 1, l, a, vars, own =>
    if Int.tmod (nx l a).1 4 = 0 then (litE ⟨3, 0, rdOf ByteArray.empty wordsL (Int.tmod (Int.tdiv (nx l a).1 4) 4)⟩, (nx l a).2)
    else if Int.tmod (nx l a).1 4 < 3 then ofF l (nx l a).2 vars own ⟨#[115]⟩ ⟨3, 0, ⟨#[97]⟩⟩
    else (binE ⟨#[43]⟩ (textF n l (nx l a).2 vars own).1 (textF n l (textF n l (nx l a).2 vars own).2 vars own).1, (textF n l (textF n l (nx l a).2 vars own).2 vars own).2)
/-- What a truth is where it is none of the deeper ones. -/
def truthZ (l : List Int) (a : Int) (vars : List Slot) (own : Slot) : S26 × Int :=
  if Int.tmod (nx l a).1 16 = 6 then (binE (rdOf ByteArray.empty cmpL (Int.tmod (Int.tdiv (nx l a).1 16) 8)) (textF 1 l (nx l a).2 vars own).1 (textF 1 l (textF 1 l (nx l a).2 vars own).2 vars own).1, (textF 1 l (textF 1 l (nx l a).2 vars own).2 vars own).2)
  else (binE (rdOf ByteArray.empty cmpL (Int.tmod (Int.tdiv (nx l a).1 16) 8)) (numF 1 l (nx l a).2 vars own).1 (numF 1 l (numF 1 l (nx l a).2 vars own).2 vars own).1, (numF 1 l (numF 1 l (nx l a).2 vars own).2 vars own).2)
def truthF : Nat → List Int → Int → List Slot → Slot → S26 × Int
  | 0, l, a, vars, own =>
    if Int.tmod (nx l a).1 16 = 0 then (litE ⟨2, Int.tmod (Int.tdiv (nx l a).1 16) 2, ⟨#[]⟩⟩, (nx l a).2)
    else if Int.tmod (nx l a).1 16 = 1 then ofF l (nx l a).2 vars own ⟨#[116]⟩ ⟨2, 1, ⟨#[]⟩⟩
    else truthZ l a vars own
  | n + 1, l, a, vars, own =>
    if Int.tmod (nx l a).1 16 = 0 then (litE ⟨2, Int.tmod (Int.tdiv (nx l a).1 16) 2, ⟨#[]⟩⟩, (nx l a).2)
    else if Int.tmod (nx l a).1 16 = 1 then ofF l (nx l a).2 vars own ⟨#[116]⟩ ⟨2, 1, ⟨#[]⟩⟩
    else if Int.tmod (nx l a).1 16 = 2 then (unE ⟨#[33]⟩ (truthF n l (nx l a).2 vars own).1, (truthF n l (nx l a).2 vars own).2)
    else if Int.tmod (nx l a).1 16 < 6 then (binE (rdOf ByteArray.empty logicL (Int.tmod (Int.tdiv (nx l a).1 16) 2)) (truthF n l (nx l a).2 vars own).1 (truthF n l (truthF n l (nx l a).2 vars own).2 vars own).1, (truthF n l (truthF n l (nx l a).2 vars own).2 vars own).2)
    else truthZ l a vars own
/-- Bytes, and a place among them. -/
structure Fed (l : List Int) (a : Int) : Prop where
  lo : 0 ≤ a
  hi : a ≤ l.length
  bytes : ∀ b ∈ l, 0 ≤ b ∧ b ≤ 255
theorem Fed.byte {l : List Int} {a : Int} (h : Fed l a) : 0 ≤ (nx l a).1 ∧ (nx l a).1 ≤ 255 := by
  unfold nx
  split
  · simp
  · have hlt : a.toNat < l.length := by have := h.lo; omega
    have : rd l a = l[a.toNat] := by unfold rd; simp [List.getD_eq_getElem?_getD, hlt]
    simp only [this]
    exact h.bytes _ (List.getElem_mem hlt)
theorem Fed.next {l : List Int} {a : Int} (h : Fed l a) : Fed l (nx l a).2 := by
  unfold nx
  split
  · exact h
  · exact ⟨by have := h.lo; simp; omega, by simp; omega, h.bytes⟩
theorem Fed.of {l : List Int} {a : Int} (h : Fed l a) (vars : List Slot) (own : Slot) (fields : ByteArray) (other : S23) : Fed l (ofF l a vars own fields other).2 := h.next
theorem Fed.num : ∀ (n : Nat) {l : List Int} {a : Int} (_ : Fed l a) (vars : List Slot) (own : Slot), Fed l (numF n l a vars own).2
  | 0, l, a, h, vars, own => by
    unfold numF
    split
    · exact h.next
    · exact h.next.of _ _ _ _
  | n + 1, l, a, h, vars, own => by
    unfold numF
    have h1 := h.next
    have h2 := Fed.num n h1 vars own
    split
    · exact h1
    · split
      · exact h1.of _ _ _ _
      · split
        · exact h1
        · split
          · exact h2
          · exact Fed.num n h2 vars own
theorem Fed.text : ∀ (n : Nat) {l : List Int} {a : Int} (_ : Fed l a) (vars : List Slot) (own : Slot), Fed l (textF n l a vars own).2
  | 0, l, a, h, vars, own => by
    unfold textF
    split
    · exact h.next
    · exact h.next.of _ _ _ _
  | n + 1, l, a, h, vars, own => by
    unfold textF
    have h1 := h.next
    have h2 := Fed.text n h1 vars own
    split
    · exact h1
    · split
      · exact h1.of _ _ _ _
      · exact Fed.text n h2 vars own
theorem Fed.truthZ_ {l : List Int} {a : Int} (h : Fed l a) (vars : List Slot) (own : Slot) : Fed l (truthZ l a vars own).2 := by
  unfold truthZ
  split
  · exact Fed.text 1 (Fed.text 1 h.next vars own) vars own
  · exact Fed.num 1 (Fed.num 1 h.next vars own) vars own
theorem Fed.truth : ∀ (n : Nat) {l : List Int} {a : Int} (_ : Fed l a) (vars : List Slot) (own : Slot), Fed l (truthF n l a vars own).2
  | 0, l, a, h, vars, own => by
    unfold truthF
    split
    · exact h.next
    · split
      · exact h.next.of _ _ _ _
      · exact h.truthZ_ vars own
  | n + 1, l, a, h, vars, own => by
    unfold truthF
    have h1 := h.next
    have h2 := Fed.truth n h1 vars own
    split
    · exact h1
    · split
      · exact h1.of _ _ _ _
      · split
        · exact h2
        · split
          · exact Fed.truth n h2 vars own
          · exact h.truthZ_ vars own
/-! ### in memory -/
def kSlot : Kd Slot := Kd.iso (Kd.pair Kd.string (Kd.slice 9 Kd.string)) (fun x : Slot => (x.f0, x.f1))
theorem kSlot_open {w : World} {x : Slot} {cs : List Value} (h : kSlot.K w x cs) : ∃ A1 c1, cs = [.string x.f0, .slice A1 x.f1.length c1] ∧ x.f1.length ≤ c1 ∧ Kd.string.C w A1 x.f1.length x.f1 := by
  obtain ⟨_, _, rfl, rfl, ⟨A1, c1, rfl, l1, g1⟩⟩ := h
  exact ⟨A1, c1, rfl, l1, g1⟩
theorem kSlot_mk (w : World) (x : Slot) {A1 : Option Addr} {c1 : Nat} (l1 : x.f1.length ≤ c1) (g1 : Kd.string.C w A1 x.f1.length x.f1) : kSlot.K w x [.string x.f0, .slice A1 x.f1.length c1] := ⟨[.string x.f0], [.slice A1 x.f1.length c1], rfl, rfl, ⟨A1, c1, rfl, l1, g1⟩⟩
theorem kSlot_mkF (W : World) (ok : Nat → Prop) (x : Slot) {A1 : Option Addr} {c1 : Nat} (l1 : x.f1.length ≤ c1) (g1 : Kd.F Kd.string W ok A1 x.f1.length x.f1) : Kd.FK kSlot W ok x [.string x.f0, .slice A1 x.f1.length c1] := fun W2 hW => kSlot_mk W2 x l1 (g1 W2 hW)
theorem at_Slot {w : World} {A : Option Addr} {n : Nat} {xs : List Slot} (h : Kd.C kSlot w A n xs) (i : Int) (h0 : 0 ≤ i) (h1 : i < n) : ∃ ad A1 c1, A = some ad ∧ w.cell? (ad.add (i.toNat * 2)) = some (.string (rdSlot xs i).f0) ∧ w.cell? ⟨(ad.add (i.toNat * 2)).block, (ad.add (i.toNat * 2)).off + 1, none⟩ = some (.slice A1 (rdSlot xs i).f1.length c1) ∧ (rdSlot xs i).f1.length ≤ c1 ∧ Kd.string.C w A1 (rdSlot xs i).f1.length (rdSlot xs i).f1 := by
  obtain ⟨ad, c, e, _, hK, hc0⟩ := Kd.C_get h zSlot i h0 h1
  have hc : ∀ j u, c[j]? = some u → w.cell? (ad.add (i.toNat * 2 + j)) = some u := hc0
  obtain ⟨A1, c1, rfl, l1, g1⟩ := kSlot_open hK
  exact ⟨ad, A1, c1, e, hc 0 _ rfl, by rw [← add_field _ _ 1 (by omega)]; exact hc 1 _ rfl, l1, g1⟩
theorem heapSlot : Kd.Heap kSlot := Kd.heap_iso _ (Kd.heap_pair Kd.heap_string (Kd.heap_slice 9 Kd.heap_string))
theorem infoSlot : (Tryd.prog.info? 59).map (fun i => (i.zero, i.size, i.bytes)) = some (some (.agg #[(.string ⟨#[]⟩), (.slice none 0 0)]), 2, 40) := by kernel_rfl
theorem own_FSlot {W : World} {b n0 : Nat} {x : Slot} {A1 : Option Addr} {c1 : Nat} (hblk : W.heap[b]? = some (.cells #[.string x.f0, .slice A1 x.f1.length c1] 59 (0, 0))) (hle : x.f1.length ≤ c1) (hF : Kd.F Kd.string W (fun k => k < n0) A1 x.f1.length x.f1) : Kd.F kSlot W (fun k => k < n0 ∨ k = b) (some ⟨b, 0, none⟩) 1 [x] := by
  intro W' hW
  have hb' := (hW b (.inr rfl) (blk_lt hblk)).trans hblk
  have hK := kSlot_mk W' x hle (hF W' (fun k hk hlt => hW k (.inl hk) hlt))
  refine ⟨rfl, by decide, fun _ => ⟨_, rfl, fun j p hj => ?_⟩⟩
  rcases j with _ | j
  · obtain rfl : x = p := by simpa using hj
    refine ⟨_, rfl, hK, fun i u hu => ?_⟩
    have h1 := World.news_of_block hb' i u (by simpa using hu)
    simpa using h1
  · simp at hj
/-- The world as it was but for block g (and new blocks). -/
structure Kb (g : Nat) (w w' : World) : Prop where
  os : w'.os = w.os
  tape : w'.tape = w.tape
  output : w'.output = w.output
  size : w.heap.size ≤ w'.heap.size
  block : ∀ k, k < w.heap.size → k ≠ g → w'.heap[k]? = w.heap[k]?
theorem Kb.refl (g : Nat) (w : World) : Kb g w w := ⟨rfl, rfl, rfl, Nat.le_refl _, fun _ _ _ => rfl⟩
theorem Kb.trans {g : Nat} {a b c : World} (h : Kb g a b) (k : Kb g b c) : Kb g a c := ⟨k.os.trans h.os, k.tape.trans h.tape, k.output.trans h.output, Nat.le_trans h.size k.size, fun i hi hg => (k.block i (Nat.lt_of_lt_of_le hi h.size) hg).trans (h.block i hi hg)⟩
theorem Kb.of_below {g : Nat} {w w' : World} (h : Below w.heap.size w w') : Kb g w w' := ⟨h.os, h.tape, h.output, h.size, fun k hk _ => h.block k hk⟩
theorem Kb.below {g B : Nat} {w w' : World} (h : Kb g w w') (hB : B ≤ w.heap.size) (hg : B ≤ g) : Below B w w' := ⟨h.os, h.tape, h.output, h.size, fun k hk => h.block k (by omega) (by omega)⟩
theorem Kb.blk {g q : Nat} {w w' : World} {o : Obj} (h : Kb g w w') (hb : w.heap[q]? = some o) (hq : q ≠ g) : w'.heap[q]? = some o := (h.block q (blk_lt hb) hq).trans hb
theorem Kb.set (w : World) (g j : Nat) (v : Value) : Kb g w (w.setCell ⟨g, j, none⟩ v) := ⟨rfl, rfl, rfl, by simp [World.setCell], fun k _ hk => Below.heap_setCell w _ v k hk⟩
theorem Kb.drew {g : Nat} {a w : World} (h : Kb g a w) : Kb g a w.drew := ⟨h.os, h.tape, h.output, h.size, h.block⟩
theorem Kb.drewN {g : Nat} {a w : World} (h : Kb g a w) (m : Nat) : Kb g a (w.drewN m) := ⟨h.os, h.tape, h.output, h.size, h.block⟩
theorem Kb.row (w : World) (g : Nat) (cs : Array Value) : Kb g w (w.setRow g cs) := ⟨rfl, rfl, rfl, by simp [World.setRow], fun k _ hk => by simp [World.setRow, Array.getElem?_modify, Ne.symm hk]⟩
/-- A store of a whole variable in a block of its own. -/
theorem ev_store {P : Program} {ops : Array Oper} {rest : List Oper} {o : Oper} {a : Act} {W : World} {Q : Exit → Act → World → Prop} (hgd : o.guard = none) (hN : o.dst = none) (ty : TypeId) (p : Tmp) (y : Operand) (ho : o.op = .store ty (.tmp p) y)
    (g : Nat) (cells : Array Value) (hx : a.eval (.tmp p) = .pointer (some ⟨g, 0, none⟩)) (hy : a.eval y = .agg cells) (t : TypeId) (old : Array Value) (hg : W.heap[g]? = some (.cells old t (0, 0))) (hi : (P.info? ty).map (·.size) = some cells.size)
    (hold : old.size = cells.size) (h1 : cells.all (·.oneCell') = true)
    (h : ∀ w', w'.heap[g]? = some (.cells cells t (0, 0)) → Kb g W w' → wpList P ops Q rest a w') : wpList P ops Q (o :: rest) a W := by
  refine wpList_store_row hgd ty (.tmp p) y ho g cells hx hy t old hg hi hold h1 ?_
  rw [hN]
  exact h _ (setRow_heap W g old cells t (0, 0) hg) (Kb.row W g cells)
/-- What the functions of the feed stand in: the state at g, the own variable in g4, the result in g6; what came in is kept, but for g. -/
structure Frame (w : World) (g g4 g6 : Nat) (A0 : Option Addr) (c0 : Nat) (A2 : Option Addr) (c2 : Nat) (A1 : Option Addr) (c1 : Nat) (l : List Int) (vars : List Slot) (own : Slot) (many : Int) (cs6 : Array Value) (a : Int) (W : World) : Prop where
  st : W.heap[g]? = some (.cells #[.slice A0 l.length c0, .int .i64 a, .slice A2 vars.length c2, .int .i64 many] 62 (0, 0))
  fl : Kd.F (Kd.int .u8) W (fun k => k < w.heap.size ∧ k ≠ g) A0 l.length l
  fv : Kd.F kSlot W (fun k => k < w.heap.size ∧ k ≠ g) A2 vars.length vars
  fo : Kd.F Kd.string W (fun k => k < w.heap.size ∧ k ≠ g) A1 own.f1.length own.f1
  kb : Kb g w W
  glt : g < w.heap.size
  ge4 : w.heap.size ≤ g4
  ge6 : w.heap.size ≤ g6
  ne46 : g4 ≠ g6
  b4 : W.heap[g4]? = some (.cells #[.string own.f0, .slice A1 own.f1.length c1] 59 (0, 0))
  b6 : W.heap[g6]? = some (.cells cs6 26 (0, 0))
section
variable {w W W' : World} {g g4 g6 q : Nat} {A0 A2 A1 : Option Addr} {c0 c2 c1 : Nat} {l : List Int} {vars : List Slot} {own : Slot} {many a a' : Int} {cs6 : Array Value}
theorem Frame.turn (h : Frame w g g4 g6 A0 c0 A2 c2 A1 c1 l vars own many cs6 a W) (hs : W'.heap[g]? = some (.cells #[.slice A0 l.length c0, .int .i64 a', .slice A2 vars.length c2, .int .i64 many] 62 (0, 0))) (hk : Kb g W W') : Frame w g g4 g6 A0 c0 A2 c2 A1 c1 l vars own many cs6 a' W' :=
  ⟨hs, Kd.F_step h.fl (fun k hk' hlt => hk.block k hlt hk'.2), Kd.F_step h.fv (fun k hk' hlt => hk.block k hlt hk'.2), Kd.F_step h.fo (fun k hk' hlt => hk.block k hlt hk'.2), h.kb.trans hk, h.glt, h.ge4, h.ge6, h.ne46, hk.blk h.b4 (by have := h.ge4; have := h.glt; omega), hk.blk h.b6 (by have := h.ge6; have := h.glt; omega)⟩
theorem Frame.grow (h : Frame w g g4 g6 A0 c0 A2 c2 A1 c1 l vars own many cs6 a W) (hb : Below W.heap.size W W') : Frame w g g4 g6 A0 c0 A2 c2 A1 c1 l vars own many cs6 a W' := h.turn (blk_below h.st hb) (Kb.of_below hb)
theorem Frame.other (h : Frame w g g4 g6 A0 c0 A2 c2 A1 c1 l vars own many cs6 a W) (hq : w.heap.size ≤ q) (h4 : q ≠ g4) (h6 : q ≠ g6) (hk : Kb q W W') : Frame w g g4 g6 A0 c0 A2 c2 A1 c1 l vars own many cs6 a W' :=
  have hg : g ≠ q := by have := h.glt; omega
  have st : ∀ k, (k < w.heap.size ∧ k ≠ g) → k < W.heap.size → W'.heap[k]? = W.heap[k]? := fun k hk' hlt => hk.block k hlt (by omega)
  ⟨hk.blk h.st hg, Kd.F_step h.fl st, Kd.F_step h.fv st, Kd.F_step h.fo st, ⟨hk.os.trans h.kb.os, hk.tape.trans h.kb.tape, hk.output.trans h.kb.output, Nat.le_trans h.kb.size hk.size, fun k hlt hk' => (hk.block k (Nat.lt_of_lt_of_le hlt h.kb.size) (by omega)).trans (h.kb.block k hlt hk')⟩, h.glt, h.ge4, h.ge6, h.ne46, hk.blk h.b4 (Ne.symm h4), hk.blk h.b6 (Ne.symm h6)⟩
/-- The result is laid. -/
theorem Frame.result {cs : Array Value} (h : Frame w g g4 g6 A0 c0 A2 c2 A1 c1 l vars own many cs6 a W) (hb : W'.heap[g6]? = some (.cells cs 26 (0, 0))) (hk : Kb g6 W W') : Frame w g g4 g6 A0 c0 A2 c2 A1 c1 l vars own many cs a W' :=
  have hg : g ≠ g6 := by have := h.glt; have := h.ge6; omega
  have st : ∀ k, (k < w.heap.size ∧ k ≠ g) → k < W.heap.size → W'.heap[k]? = W.heap[k]? := fun k hk' hlt => hk.block k hlt (by have := h.ge6; omega)
  ⟨hk.blk h.st hg, Kd.F_step h.fl st, Kd.F_step h.fv st, Kd.F_step h.fo st, ⟨hk.os.trans h.kb.os, hk.tape.trans h.kb.tape, hk.output.trans h.kb.output, Nat.le_trans h.kb.size hk.size, fun k hlt hk' => (hk.block k (Nat.lt_of_lt_of_le hlt h.kb.size) (by have := h.ge6; omega)).trans (h.kb.block k hlt hk')⟩, h.glt, h.ge4, h.ge6, h.ne46, hk.blk h.b4 h.ne46, hb⟩
theorem Frame.fl' (h : Frame w g g4 g6 A0 c0 A2 c2 A1 c1 l vars own many cs6 a W) : Kd.F (Kd.int .u8) W (fun k => k ≠ g) A0 l.length l := Kd.F_mono h.fl (fun _ hk => hk.2)
theorem Frame.fv' (h : Frame w g g4 g6 A0 c0 A2 c2 A1 c1 l vars own many cs6 a W) : Kd.F kSlot W (fun k => k ≠ g) A2 vars.length vars := Kd.F_mono h.fv (fun _ hk => hk.2)
theorem Frame.fo' (h : Frame w g g4 g6 A0 c0 A2 c2 A1 c1 l vars own many cs6 a W) : Kd.F Kd.string W (fun k => k ≠ g) A1 own.f1.length own.f1 := Kd.F_mono h.fo (fun _ hk => hk.2)
/-- The frame at its begin. -/
theorem Frame.start {wa : World} (hg : w.heap[g]? = some (.cells #[.slice A0 l.length c0, .int .i64 a, .slice A2 vars.length c2, .int .i64 many] 62 (0, 0))) (hl : Kd.F (Kd.int .u8) w (fun k => k ≠ g) A0 l.length l) (hv : Kd.F kSlot w (fun k => k ≠ g) A2 vars.length vars) (ho : Kd.F Kd.string w (fun k => k ≠ g) A1 own.f1.length own.f1)
    (h4 : g4 = w.heap.size) (b4 : wa.heap[g4]? = some (.cells #[.string own.f0, .slice A1 own.f1.length c1] 59 (0, 0))) (hb4 : Below w.heap.size w wa) (h6 : wa.heap.size ≤ g6) (b6 : W.heap[g6]? = some (.cells cs6 26 (0, 0))) (hb6 : Below wa.heap.size wa W) : Frame w g g4 g6 A0 c0 A2 c2 A1 c1 l vars own many cs6 a W :=
  have hb := below_then hb4 hb4.size hb6
  have st : ∀ k, k < w.heap.size → W.heap[k]? = w.heap[k]? := fun k hk => hb.block k hk
  ⟨blk_below hg hb, Kd.F_step (Kd.F_mono (Kd.F_bound hl) (fun k hk => ⟨hk.2, hk.1⟩)) (fun k hk _ => st k hk.1), Kd.F_step (Kd.F_mono (Kd.F_bound hv) (fun k hk => ⟨hk.2, hk.1⟩)) (fun k hk _ => st k hk.1), Kd.F_step (Kd.F_mono (Kd.F_bound ho) (fun k hk => ⟨hk.2, hk.1⟩)) (fun k hk _ => st k hk.1), Kb.of_below hb, blk_lt hg, by omega, by have := hb4.size; omega, by have := blk_lt b4; omega, blk_below b4 hb6, b6⟩
end
end Go.Proofs.YtccaodehgaaheaaDoor.R
