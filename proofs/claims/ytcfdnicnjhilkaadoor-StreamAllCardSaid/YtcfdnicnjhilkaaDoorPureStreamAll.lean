/- The statement 'StreamAll' as plain Lean: a list of streams is right if there are at most eight, each is right, and no two have one name. -/
import Derived.Test.YtcfdnicnjhilkaaDoorSP
import Derived.Test.YtcfdnicnjhilkaaDoorF28
namespace Go.Proofs.YtcfdnicnjhilkaaDoor.Pure
set_option linter.unusedVariables false
set_option linter.unusedSimpArgs false
open Go.RowKit Go.Proofs.YtcfdnicnjhilkaaDoor.F Go.Proofs.YtcfdnicnjhilkaaDoor.SP Go.Proofs.YtcfdnicnjhilkaaDoorW.PrintWords
abbrev firstOf (l : List S28) (n : ByteArray) : Int := idxP (fun s => s.f0.toList == n.toList) l
abbrev rightOf (s : S28) : Int := rightS s.f0.data.toList s.f1
def smallS (s : S28) : Prop := ∀ x ∈ s.f1, x.f0.size ≤ 9223372036854775807
theorem rd28 (l : List S28) (i : Nat) (h : i < l.length) : rd_T28 l (i : Int) = l[i] := by simp [rd_T28, h]
theorem right_any (n : ByteArray) (h1 : isNm n.data.toList = true) (ks : List Int) (h6 : ks.length ≤ 6) : rightS n.data.toList (fsO ks) = 0 := by
  have h := own_right 0 ks h6
  have h2 := (rightS_parts h).1
  unfold rightS at h ⊢
  rw [if_pos h2] at h
  rw [if_pos h1]
  exact h
theorem zip_first (P : ByteArray → Prop) : ∀ (ns : List ByteArray) (ks : List Int), (∀ n ∈ ns, P n) → ∀ x ∈ List.zipWith (fun n k => (⟨n, 1 + k % 3⟩ : S60)) ns ks, P x.f0
  | [], _, _, x, hx => by simp at hx
  | n :: ns, [], _, x, hx => by simp at hx
  | n :: ns, k :: ks, h, x, hx => by
    rw [List.zipWith_cons_cons] at hx
    rcases List.mem_cons.1 hx with rfl | hx
    · exact h n (by simp)
    · exact zip_first P ns ks (fun m hm => h m (by simp [hm])) x hx
theorem fsO_small (ks : List Int) : ∀ x ∈ fsO ks, x.f0.size ≤ 9223372036854775807 := by
  intro x hx
  have : ∀ y ∈ fieldsO, y.size ≤ 20 := by decide +kernel
  have := zip_first (fun n => n.size ≤ 20) fieldsO ks this x hx
  exact Nat.le_trans this (by omega)
theorem all_go (l : List S28) (hs : ∀ s ∈ l, smallS s) (hm : l.length ≤ 8) : ∀ (d i : Nat), i + d = l.length → ∃ e, Ev (fun k => stream_All.l0 k l l (l.length : Int) (i : Int)) e ∧ (e = 0 ↔ ∀ j (h : j < l.length), i ≤ j → rightOf l[j] = 0 ∧ firstOf l l[j].f0 = j) := by
  intro d
  induction d with
  | zero =>
    intro i hi
    refine ⟨0, Ev.step (f := fun k => _) (fun k => by rw [stream_All.l0]) (Ev.neg (by omega) (Ev.now _)), by simp; omega⟩
  | succ d ih =>
    intro i hi
    have hlt : i < l.length := by omega
    have hr := right_ev l[i].f0 l[i].f1 (hs _ (List.getElem_mem hlt))
    obtain ⟨e, he, hi2⟩ := ih (i + 1) (by omega)
    have hrd := rd28 l i hlt
    by_cases h0 : rightOf l[i] = 0
    · by_cases h1 : firstOf l l[i].f0 = i
      · refine ⟨e, Ev.step (f := fun k => _) (fun k => by rw [stream_All.l0]) ?_, ?_⟩
        · refine Ev.pos (by omega) (Ev.pos (by omega) (Ev.pos (by omega) ?_))
          rw [hrd]
          refine Ev.bind hr (Ev.pos h0 (Ev.got rfl (Ev.pos h1 ?_)))
          rw [wrap_nat i (by omega)]
          exact he
        · rw [hi2]
          constructor
          · intro h j hj hij
            rcases Nat.eq_or_lt_of_le hij with rfl | hlt'
            · exact ⟨h0, h1⟩
            · exact h j hj hlt'
          · exact fun h j hj hij => h j hj (by omega)
      · refine ⟨11, Ev.step (f := fun k => _) (fun k => by rw [stream_All.l0]) ?_, ?_⟩
        · refine Ev.pos (by omega) (Ev.pos (by omega) (Ev.pos (by omega) ?_))
          rw [hrd]
          exact Ev.bind hr (Ev.pos h0 (Ev.got rfl (Ev.neg h1 (Ev.now _))))
        · exact ⟨fun h => by omega, fun h => absurd (h i hlt (by omega)).2 h1⟩
    · refine ⟨rightOf l[i], Ev.step (f := fun k => _) (fun k => by rw [stream_All.l0]) ?_, ?_⟩
      · refine Ev.pos (by omega) (Ev.pos (by omega) (Ev.pos (by omega) ?_))
        rw [hrd]
        exact Ev.bind hr (Ev.neg h0 (Ev.now _))
      · exact ⟨fun h => absurd h h0, fun h => absurd (h i hlt (by omega)).1 h0⟩
/-- The two nested loops: are all names unlike? -/
theorem unlike2 (l : List S28) (x1 : Int) (x9 : Int) (i : Nat) (hi : i < l.length) (hm : l.length ≤ 20) (r : Bool) (P : Prop) : ∀ (d c : Nat) (b : Bool) (hc : c + d = i), (b = true ↔ P ∧ ∀ a (h : a < c), l[i].f0 ≠ (l[a]'(by omega)).f0) →
    (∀ b', (b' = true ↔ P ∧ ∀ a (h : a < i), l[i].f0 ≠ (l[a]'(by omega)).f0) → Ev (fun k => marshallinglaw03_StreamAll.l1 k x1 true l x9 b' (((i + 1 : Nat) : Int))) r) → Ev (fun k => marshallinglaw03_StreamAll.l2 k x1 true l x9 b (i : Int) (c : Int)) r := by
  intro d
  induction d with
  | zero =>
    intro c b hc hb hK
    obtain rfl : c = i := by omega
    refine Ev.step (f := fun k => _) (fun k => by rw [marshallinglaw03_StreamAll.l2]) (Ev.neg (by omega) ?_)
    rw [wrap_nat c (by omega)]
    exact hK b hb
  | succ d ih =>
    intro c b hc hb hK
    refine Ev.step (f := fun k => _) (fun k => by rw [marshallinglaw03_StreamAll.l2]) (Ev.pos (by omega) ?_)
    rw [wrap_nat c (by omega), rd28 l i hi, rd28 l c (by omega)]
    by_cases h : b = true
    · refine Ev.pos h (Ev.pos (by omega) (Ev.pos (by omega) (Ev.pos (by omega) (Ev.pos (by omega) ?_))))
      refine ih (c + 1) _ (by omega) ?_ hK
      have hb' := hb.1 h
      rw [bne_iff_ne, tl, tl]
      constructor
      · intro hne
        refine ⟨hb'.1, fun a ha => ?_⟩
        rcases Nat.eq_or_lt_of_le (Nat.le_of_lt_succ ha) with rfl | hlt'
        · exact fun e => hne (by rw [e])
        · exact hb'.2 a hlt'
      · intro hx e
        exact hx.2 c (by omega) (bext e)
    · refine Ev.neg h ?_
      refine ih (c + 1) _ (by omega) ?_ hK
      constructor
      · intro hf; cases hf
      · intro hx; exact absurd (hb.2 ⟨hx.1, fun a ha => hx.2 a (by omega)⟩) h
def unlikeTo (l : List S28) (n : Nat) : Prop := ∀ i (h : i < l.length), i < n → ∀ a (h' : a < i), l[i].f0 ≠ (l[a]'(by omega)).f0
theorem unlike1 (l : List S28) (x1 : Int) (x9 : Int) (hm : l.length ≤ 20) (r : Bool) : ∀ (d i : Nat) (b : Bool), i + d = l.length → (b = true ↔ unlikeTo l i) →
    (∀ b', (b' = true ↔ unlikeTo l l.length) → Ev (fun k => if (l.length : Int) > 8 then (some (x9 == 4)) else (marshallinglaw03_StreamAll.l3 k x1 true l x9 b' 0)) r) → Ev (fun k => marshallinglaw03_StreamAll.l1 k x1 true l x9 b (i : Int)) r := by
  intro d
  induction d with
  | zero =>
    intro i b hi hb hK
    refine Ev.step (f := fun k => _) (fun k => by rw [marshallinglaw03_StreamAll.l1]) (Ev.neg (by omega) ?_)
    obtain rfl : i = l.length := by omega
    have h := hK b hb
    by_cases h8 : (l.length : Int) > 8
    · refine Ev.pos h8 (Ev.pos rfl ?_)
      exact Ev.congr (fun k => (if_pos h8).symm) h
    · refine Ev.neg h8 ?_
      exact Ev.congr (fun k => (if_neg h8).symm) h
  | succ d ih =>
    intro i b hi hb hK
    refine Ev.step (f := fun k => _) (fun k => by rw [marshallinglaw03_StreamAll.l1]) (Ev.pos (by omega) ?_)
    refine unlike2 l x1 x9 i (by omega) hm r (unlikeTo l i) i 0 b (by omega) ?_ ?_
    · rw [hb]; exact ⟨fun h => ⟨h, fun a ha => absurd ha (by omega)⟩, fun h => h.1⟩
    · intro b' hb'
      refine ih (i + 1) b' (by omega) ?_ hK
      rw [hb']
      constructor
      · intro h j hj hji a ha
        rcases Nat.eq_or_lt_of_le (Nat.le_of_lt_succ hji) with rfl | hlt'
        · exact h.2 a ha
        · exact h.1 j hj hlt' a ha
      · intro h
        exact ⟨fun j hj hji a ha => h j hj (by omega) a ha, fun a ha => h i (by omega) (by omega) a ha⟩
theorem first_iff (l : List S28) : (∀ j (h : j < l.length), firstOf l l[j].f0 = j) ↔ unlikeTo l l.length := by
  constructor
  · intro h i hi _ a ha e
    have h1 := h i hi
    have h2 := h a (by omega)
    rw [← e, h1] at h2
    omega
  · intro h j hj
    refine idxP_hit _ l j l[j] (by simp [hj]) (by simp) fun a y ha hy => ?_
    have hya : l[a]'(by omega) = y := by
      rw [List.getElem?_eq_getElem (by omega)] at hy
      exact Option.some.inj hy
    have := h j hj hj a ha
    rw [hya] at this
    cases hb : (y.f0.toList == l[j].f0.toList) with
    | false => rfl
    | true =>
      have e := eq_of_beq hb
      rw [tl, tl] at e
      exact absurd (bext e.symm) this
theorem all_l3 (l : List S28) (x1 : Int) (e : Int) (b : Bool) (hm : l.length ≤ 8) (hs : ∀ s ∈ l, smallS s) (he : e = 0 → ∀ j (h : j < l.length), rightOf l[j] = 0 ∧ firstOf l l[j].f0 = j) (hfin : (e == 0) = (b && !(decide (x1 > 250) && decide (l.length > 0)))) : ∀ (d i : Nat), i + d = l.length → Ev (fun k => marshallinglaw03_StreamAll.l3 k x1 true l e b (i : Int)) true := by
  intro d
  induction d with
  | zero =>
    intro i hi
    refine Ev.step (f := fun k => _) (fun k => by rw [marshallinglaw03_StreamAll.l3]) (Ev.neg (by omega) ?_)
    have hc : decide ((l.length : Int) > 0) = decide (l.length > 0) := by simp
    by_cases h1 : x1 > 250
    · refine Ev.pos h1 (Ev.pos rfl ?_)
      cases b with
      | true => refine Ev.pos rfl (Ev.ret ?_); rw [hfin, hc]; simp [h1]
      | false => refine Ev.neg (by simp) (Ev.ret ?_); rw [hfin]; simp
    · refine Ev.neg h1 (Ev.pos rfl ?_)
      cases b with
      | true => refine Ev.pos rfl (Ev.ret ?_); rw [hfin]; simp [h1]
      | false => refine Ev.neg (by simp) (Ev.ret ?_); rw [hfin]; simp
  | succ d ih =>
    intro i hi
    have hlt : i < l.length := by omega
    have hn := ih (i + 1) (by omega)
    refine Ev.step (f := fun k => _) (fun k => by rw [marshallinglaw03_StreamAll.l3]) (Ev.pos (by omega) ?_)
    rw [wrap_nat i (by omega), rd28 l i hlt]
    by_cases h : e = 0
    · have h' := he h i hlt
      exact Ev.pos h (Ev.pos (by omega) (Ev.bind (right_ev l[i].f0 l[i].f1 (hs _ (List.getElem_mem hlt))) (Ev.pos h'.1 (Ev.got rfl (Ev.pos h'.2 hn)))))
    · exact Ev.neg h hn
theorem all_j3 (l : List S28) (x1 : Int) (hm : l.length ≤ 10) (hs : ∀ s ∈ l, smallS s) (hr : x1 ≤ 250 → ∀ s ∈ l, rightOf s = 0) (hb : x1 > 250 → 0 < l.length → ∃ s ∈ l, rightOf s ≠ 0) : Ev (fun k => marshallinglaw03_StreamAll.j3 k x1 true l) true := by
  refine Ev.step (f := fun k => _) (fun k => by rw [marshallinglaw03_StreamAll.j3]) ?_
  by_cases h8 : (l.length : Int) > 8
  · have ha : Ev (fun k => stream_All.f k l) 4 := by unfold stream_All.f; exact Ev.pos h8 (Ev.now _)
    refine Ev.bind ha (unlike1 l x1 4 (by omega) true l.length 0 true (by omega) ?_ ?_)
    · simp [unlikeTo]
    · intro b' _; exact Ev.pos h8 (Ev.now _)
  · obtain ⟨e, he, hi⟩ := all_go l hs (by omega) l.length 0 (by omega)
    have ha : Ev (fun k => stream_All.f k l) e := by unfold stream_All.f; exact Ev.neg h8 he
    refine Ev.bind ha (unlike1 l x1 e (by omega) true l.length 0 true (by omega) ?_ ?_)
    · simp [unlikeTo]
    · intro b' hb'
      refine Ev.neg h8 (all_l3 l x1 e b' (by omega) hs (fun h j hj => hi.1 h j hj (by omega)) ?_ l.length 0 (by omega))
      rw [Bool.eq_iff_iff, beq_iff_eq, hi, Bool.and_eq_true, hb', ← first_iff]
      constructor
      · intro h
        refine ⟨fun j hj => (h j hj (by omega)).2, ?_⟩
        by_cases h1 : x1 > 250
        · by_cases h2 : 0 < l.length
          · obtain ⟨s, hsl, hne⟩ := hb h1 h2
            obtain ⟨j, hj, rfl⟩ := List.mem_iff_getElem.1 hsl
            exact absurd (h j hj (by omega)).1 hne
          · simp [h2]
        · simp [h1]
      · rintro ⟨h, hx⟩ j hj _
        refine ⟨?_, h j hj⟩
        have h2 : 0 < l.length := by omega
        by_cases h1 : x1 > 250
        · simp [h1, h2] at hx
        · exact hr (by omega) _ (List.getElem_mem hj)
theorem by_bad (l : List S60) : rightS [66, 89] l ≠ 0 := by
  unfold rightS
  rw [if_neg (by decide)]
  omega
theorem all_j2 (l : List S28) (x1 : Int) (hx : 0 ≤ x1 ∧ x1 ≤ 255) (hm : l.length ≤ 10) (hs : ∀ s ∈ l, smallS s) (hr : ∀ s ∈ l, rightOf s = 0) (c : Bool) (hc : c = (decide (x1 > 250) && decide (l.length > 0))) : Ev (fun k => marshallinglaw03_StreamAll.j2 k x1 true l c) true := by
  refine Ev.step (f := fun k => _) (fun k => by rw [marshallinglaw03_StreamAll.j2]) ?_
  have ew : wrap64 x1 = x1 := by unfold wrap64; omega
  by_cases h : c = true
  · rw [h] at hc
    have hc' := hc.symm
    rw [Bool.and_eq_true, decide_eq_true_eq, decide_eq_true_eq] at hc'
    rw [ew, Int.tmod_eq_emod_of_nonneg hx.1]
    have hp : (0 : Int) < l.length := by omega
    have h0 := Int.emod_nonneg x1 (b := (l.length : Int)) (by omega)
    have h1 := Int.emod_lt_of_pos x1 hp
    refine Ev.pos h (Ev.neg (by omega) (Ev.pos h0 (Ev.pos h1 ?_)))
    obtain ⟨j, hj⟩ : ∃ j : Nat, x1 % (l.length : Int) = j := ⟨(x1 % (l.length : Int)).toNat, by omega⟩
    rw [hj] at h0 h1 ⊢
    have hjl : j < l.length := by omega
    rw [rd28 l j hjl, Int.toNat_natCast]
    refine all_j3 _ x1 (by rw [List.length_set]; omega) ?_ (fun h => absurd hc'.1 (by omega)) ?_
    · intro s hsm
      rcases List.mem_or_eq_of_mem_set hsm with h2 | h2
      · exact hs s h2
      · subst h2; exact fun x hx => hs _ (List.getElem_mem hjl) x hx
    · intro _ _
      exact ⟨_, List.mem_set hjl _, by_bad _⟩
  · have h' : c = false := by simpa using h
    rw [h'] at hc
    refine Ev.neg h (all_j3 l x1 hm hs (fun _ => hr) ?_)
    intro h1 h2
    simp [h1, h2] at hc
theorem named (a : Int) (d : ByteArray) (i : Nat) (hi : i < 10) (hd : d = rdOf ByteArray.empty [(⟨#[48]⟩ : ByteArray), (⟨#[49]⟩ : ByteArray), (⟨#[50]⟩ : ByteArray), (⟨#[51]⟩ : ByteArray), (⟨#[52]⟩ : ByteArray), (⟨#[53]⟩ : ByteArray), (⟨#[54]⟩ : ByteArray), (⟨#[55]⟩ : ByteArray), (⟨#[56]⟩ : ByteArray), (⟨#[57]⟩ : ByteArray)] (i : Int)) :
    (nmO a).size ≤ 20 ∧ d.size = 1 ∧ isNm ((nmO a).extract 0 (mn ((nmO a).size : Int) 15).toNat ++ d).data.toList = true := by
  have key : ∀ x ∈ namesO, x.size ≤ 20 ∧ ∀ d ∈ [(⟨#[48]⟩ : ByteArray), (⟨#[49]⟩ : ByteArray), (⟨#[50]⟩ : ByteArray), (⟨#[51]⟩ : ByteArray), (⟨#[52]⟩ : ByteArray), (⟨#[53]⟩ : ByteArray), (⟨#[54]⟩ : ByteArray), (⟨#[55]⟩ : ByteArray), (⟨#[56]⟩ : ByteArray), (⟨#[57]⟩ : ByteArray)], d.size = 1 ∧ isNm (x.extract 0 (mn (x.size : Int) 15).toNat ++ d).data.toList = true := by decide +kernel
  have hn : nmO a ∈ namesO := by
    have hk : (a % 8).toNat < namesO.length := by show _ < 8; omega
    have : nmO a = namesO[(a % 8).toNat] := by unfold nmO rdOf; simp [hk]
    rw [this]; exact List.getElem_mem hk
  have hm : d ∈ [(⟨#[48]⟩ : ByteArray), (⟨#[49]⟩ : ByteArray), (⟨#[50]⟩ : ByteArray), (⟨#[51]⟩ : ByteArray), (⟨#[52]⟩ : ByteArray), (⟨#[53]⟩ : ByteArray), (⟨#[54]⟩ : ByteArray), (⟨#[55]⟩ : ByteArray), (⟨#[56]⟩ : ByteArray), (⟨#[57]⟩ : ByteArray)] := by
    rw [hd]
    rcases (by omega : i = 0 ∨ i = 1 ∨ i = 2 ∨ i = 3 ∨ i = 4 ∨ i = 5 ∨ i = 6 ∨ i = 7 ∨ i = 8 ∨ i = 9) with rfl | rfl | rfl | rfl | rfl | rfl | rfl | rfl | rfl | rfl <;> simp [rdOf]
  obtain ⟨h1, h2⟩ := key _ hn
  exact ⟨h1, h2 d hm⟩
theorem all_l0 (l : List Int) (x1 : Int) (hx : 0 ≤ x1 ∧ x1 ≤ 255) (hl : ∀ x ∈ l, 0 ≤ x ∧ x ≤ 255) (hm : l.length ≤ 9223372036854775806) : ∀ (d i : Nat) (acc : List S28), i + d = min l.length 10 → acc.length = i → (∀ s ∈ acc, smallS s) → (∀ s ∈ acc, rightOf s = 0) → Ev (fun k => marshallinglaw03_StreamAll.l0 k l x1 true acc (i : Int)) true := by
  intro d
  induction d with
  | zero =>
    intro i acc hi hacc hs hr
    have m2 := Nat.min_le_right l.length 10
    have hfin : ∀ c, c = false → Ev (fun k => marshallinglaw03_StreamAll.j1 k l x1 true acc (i : Int) c) true := by
      rintro c rfl
      refine Ev.step (f := fun k => _) (fun k => by rw [marshallinglaw03_StreamAll.j1]) (Ev.neg (by simp) ?_)
      by_cases h : x1 > 250
      · exact Ev.pos h (all_j2 acc x1 hx (by omega) hs hr _ (by simp [h]))
      · exact Ev.neg h (all_j2 acc x1 hx (by omega) hs hr _ (by simp [h]))
    refine Ev.step (f := fun k => _) (fun k => by rw [marshallinglaw03_StreamAll.l0]) ?_
    by_cases h : (i : Int) < (l.length : Int)
    · exact Ev.pos h (hfin _ (by rw [decide_eq_false_iff_not]; omega))
    · exact Ev.neg h (hfin _ rfl)
  | succ d ih =>
    intro i acc hi hacc hs hr
    have m1 := Nat.min_le_left l.length 10
    have m2 := Nat.min_le_right l.length 10
    have hlt : i < l.length := by omega
    have h10 : i < 10 := by omega
    have hxi := hl _ (List.getElem_mem hlt)
    have er : rd l (i : Int) = l[i] := by simp [rd, hlt]
    have ho := own_ev l[i] (l.drop i) hxi.1 (fun x hx => hl x (List.mem_of_mem_drop hx)) (by rw [List.length_drop]; omega)
    have h6 : ((l.drop i).take 6).length ≤ 6 := by rw [List.length_take]; omega
    refine Ev.step (f := fun k => _) (fun k => by rw [marshallinglaw03_StreamAll.l0]) (Ev.pos (by omega) ?_)
    refine Ev.step (f := fun k => _) (fun k => by rw [marshallinglaw03_StreamAll.j1]) (Ev.pos (by rw [decide_eq_true_eq]; omega) (Ev.pos (by omega) (Ev.pos (by omega) (Ev.pos (by omega) ?_))))
    rw [er, Int.toNat_natCast, wrap_nat i (by omega)]
    refine Ev.bind ho ?_
    have go : ∀ n : ByteArray, isNm n.data.toList = true → Ev (fun k => marshallinglaw03_StreamAll.l0 k l x1 true (acc ++ [(⟨n, fsO ((l.drop i).take 6)⟩ : S28)]) ((i + 1 : Nat) : Int)) true := by
      intro n hn
      refine ih (i + 1) _ (by omega) (by simp [hacc]) ?_ ?_
      · intro s hsm
        rcases List.mem_append.1 hsm with h | h
        · exact hs s h
        · rw [List.mem_singleton.1 h]; exact fsO_small _
      · intro s hsm
        rcases List.mem_append.1 hsm with h | h
        · exact hr s h
        · rw [List.mem_singleton.1 h]; exact right_any n hn _ h6
    have hown := (rightS_parts (own_right l[i] _ h6)).1
    by_cases h : l[i] > 127
    · obtain ⟨h1, h2, h3⟩ := named l[i] _ i h10 rfl
      have hmn : 0 ≤ mn ((nmO l[i]).size : Int) 15 ∧ mn ((nmO l[i]).size : Int) 15 ≤ ((nmO l[i]).size : Int) := by unfold mn; split <;> omega
      have hq : ((nmO l[i]).extract 0 (mn ((nmO l[i]).size : Int) 15).toNat).size ≤ 20 := by rw [ByteArray.size_extract]; omega
      refine Ev.pos h (Ev.pos hmn.1 (Ev.pos hmn.2 (Ev.got rfl (Ev.pos ?_ (Ev.pos ?_ (Ev.pos (by omega) (go _ h3)))))))
      · show (i : Int) < 10; omega
      · exact Nat.le_trans (Nat.add_le_add hq (Nat.le_of_eq h2)) (by omega)
    · exact Ev.neg h (Ev.pos (by omega) (go _ hown))
theorem StreamAll : ∀ (l0 : List Int) (a1 : Int), l0.length ≤ maxLen → l0.length * 1 ≤ 140737488351232 → (∀ x ∈ l0, (Lit.int .u8 x).wf = true) → (Lit.int .u8 a1).wf = true → ∃ k, marshallinglaw03_StreamAll.f k l0 a1 = some true := by
  intro l0 a1 m0 z0 w0 w1
  refine Ev.rounds ?_
  unfold marshallinglaw03_StreamAll.f
  refine Ev.got rfl (Ev.pos rfl ?_)
  exact all_l0 l0 a1 (wf_u8 w1) (fun x hx => wf_u8 (w0 x hx)) (by omega) (min l0.length 10) 0 [] (by omega) rfl (by simp) (by simp)
end Go.Proofs.YtcfdnicnjhilkaaDoor.Pure
