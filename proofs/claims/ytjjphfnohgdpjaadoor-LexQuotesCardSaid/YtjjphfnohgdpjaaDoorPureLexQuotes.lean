/- The statement 'LexQuotes' as plain Lean: whatever stands between two quotes, without one in it, at most 64 bytes, is one word; without the second quote, or longer, it is an error where it begins. -/
import Derived.Test.YtjjphfnohgdpjaaDoorSQ
import Derived.Test.YtjjphfnohgdpjaaDoorKQ
namespace Go.Proofs.YtjjphfnohgdpjaaDoor.Pure
set_option linter.unusedVariables false
set_option linter.unusedSimpArgs false
open Go.RowKit Go.Proofs.YtjjphfnohgdpjaaDoor.K Go.Proofs.YtjjphfnohgdpjaaDoor.SN Go.Proofs.YtjjphfnohgdpjaaDoor.SL Go.Proofs.YtjjphfnohgdpjaaDoor.SQ Go.Proofs.YtjjphfnohgdpjaaDoorW.PrintWords
theorem wf8 {x : Int} (h : (Lit.int .u8 x).wf = true) : 0 ≤ x ∧ x ≤ 255 := by simpa [Lit.wf, IntKind.min, IntKind.max, IntKind.signed, IntKind.bits] using h
theorem strOf_list (l : List Int) : (strOfNums l).data.toList = l.map (fun b => UInt8.ofNat b.toNat) := by
  first | rfl | simp [strOfNums]
theorem quote_free (s : ByteArray) (n : Nat) : (39 : UInt8) ∉ (strOfNums (padB (quoteB s) n)).data.toList := by
  rw [strOf_list]
  intro h
  obtain ⟨b, hb, e⟩ := List.mem_map.1 h
  unfold padB at hb
  rcases List.mem_append.1 hb with h1 | h1
  · unfold quoteB at h1
    obtain ⟨h2, h3⟩ := List.mem_filter.1 h1
    have h4 := List.mem_of_mem_take h2
    unfold bytesOf at h4
    obtain ⟨c, hc, rfl⟩ := List.mem_map.1 h4
    have h5 : c = 39 := by simpa using e
    subst h5
    exact absurd h3 (by decide)
  · have := (List.mem_replicate.1 h1).2
    subst this
    exact absurd e (by decide)
theorem text_short (s : ByteArray) (n : Nat) (hn : n < 66) : (strOfNums (padB (quoteB s) n)).data.toList.length ≤ 66 := by
  rw [strOf_list, List.length_map]
  unfold padB
  rw [List.length_append, List.length_replicate]
  have : (quoteB s).length ≤ 64 := by unfold quoteB; exact Nat.le_trans (List.length_filter_le _ _) (by rw [List.length_take]; omega)
  omega
theorem LexQuotes : ∀ (a0 : ByteArray) (a1 : Int), a0.size ≤ 140737488351232 → (Lit.int .u8 a1).wf = true → ∃ k, marshallinglaw06_LexQuotes.f k a0 a1 = some true := by
  intro a0 a1 _ w1
  have hb := wf8 w1
  have hq : (39 : UInt8) ∉ (textQ a0 a1).data.toList := quote_free a0 _
  have hs : (textQ a0 a1).data.toList.length ≤ 66 := text_short a0 _ (by omega)
  have hz : (textQ a0 a1).size = (textQ a0 a1).data.toList.length := (dsize _).symm
  refine Ev.rounds ?_
  unfold marshallinglaw06_LexQuotes.f
  have ha := all_ev (((⟨#[120, 39]⟩ : ByteArray) ++ textQ a0 a1) ++ (⟨#[39]⟩ : ByteArray))
  have hc := all_ev ((⟨#[120, 39]⟩ : ByteArray) ++ textQ a0 a1)
  have ea : (((⟨#[120, 39]⟩ : ByteArray) ++ textQ a0 a1) ++ (⟨#[39]⟩ : ByteArray)).data.toList = 120 :: 39 :: ((textQ a0 a1).data.toList ++ [39]) := by simp
  have ec : ((⟨#[120, 39]⟩ : ByteArray) ++ textQ a0 a1).data.toList = 120 :: 39 :: (textQ a0 a1).data.toList := by simp
  rw [ea, all_closed _ hq (by omega)] at ha
  rw [ec, all_open _ hq (by omega)] at hc
  refine Ev.bind examples_ev (Ev.pos rfl (Ev.bind ha (Ev.bind hc (Ev.pos ?_ (Ev.ret rfl)))))
  unfold quotesOk
  refine decide_eq_true ⟨hb.1, hb.2, rfl, rfl, ?_⟩
  by_cases h64 : (textQ a0 a1).data.toList.length > 64
  · rw [if_pos h64]
    exact .inl ⟨by omega, rfl, rfl, rfl⟩
  · rw [if_neg h64]
    exact .inr ⟨by omega, rfl, rfl, rfl, rfl, rfl, rfl⟩
end Go.Proofs.YtjjphfnohgdpjaaDoor.Pure
