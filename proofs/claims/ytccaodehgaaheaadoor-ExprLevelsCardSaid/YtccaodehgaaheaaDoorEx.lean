/- The chapter's examples hold, with sixty rounds. -/
import Derived.Test.YtccaodehgaaheaaDoorP14
namespace Go.Proofs.YtccaodehgaaheaaDoor.Pure
open Go.RowKit Go.Proofs.YtccaodehgaaheaaDoor Go.Proofs.YtccaodehgaaheaaDoor.P Go.Proofs.YtccaodehgaaheaaDoorW.PrintWords
theorem sort_ab : sortS [(⟨#[97]⟩ : ByteArray), (⟨#[98]⟩ : ByteArray)] = [⟨#[97]⟩, ⟨#[98]⟩] := by
  have h : ([97] : List UInt8) ≤ [98] := by decide
  simp only [sortS, texts, bytesL, List.map_cons, List.map_nil]
  rw [show ([[97], [98]] : List (List UInt8)).mergeSort (fun x y => decide (x ≤ y)) = [[97], [98]] from by simp [List.mergeSort, h]]
  rfl
set_option maxRecDepth 100000 in
theorem vars_e : expr_Vars.f 60 4 (⟨#[45]⟩ : ByteArray) 0 0 (⟨#[]⟩ : ByteArray) (⟨#[]⟩ : ByteArray) (⟨#[]⟩ : ByteArray) [(⟨1, ⟨#[]⟩, (⟨0, 0, ⟨#[]⟩⟩ : S23), ⟨#[97]⟩, ⟨#[120]⟩, []⟩ : S26), (⟨4, ⟨#[45]⟩, (⟨0, 0, ⟨#[]⟩⟩ : S23), ⟨#[]⟩, ⟨#[]⟩, [(⟨2, ⟨#[]⟩, (⟨0, 0, ⟨#[]⟩⟩ : S23), ⟨#[98]⟩, ⟨#[]⟩, []⟩ : S26), (⟨0, ⟨#[]⟩, (⟨1, 1, ⟨#[]⟩⟩ : S23), ⟨#[]⟩, ⟨#[]⟩, []⟩ : S26)]⟩ : S26)] = some [⟨#[97]⟩, ⟨#[98]⟩] := by
  have h : expr_Vars.f 60 4 (⟨#[45]⟩ : ByteArray) 0 0 (⟨#[]⟩ : ByteArray) (⟨#[]⟩ : ByteArray) (⟨#[]⟩ : ByteArray) [(⟨1, ⟨#[]⟩, (⟨0, 0, ⟨#[]⟩⟩ : S23), ⟨#[97]⟩, ⟨#[120]⟩, []⟩ : S26), (⟨4, ⟨#[45]⟩, (⟨0, 0, ⟨#[]⟩⟩ : S23), ⟨#[]⟩, ⟨#[]⟩, [(⟨2, ⟨#[]⟩, (⟨0, 0, ⟨#[]⟩⟩ : S23), ⟨#[98]⟩, ⟨#[]⟩, []⟩ : S26), (⟨0, ⟨#[]⟩, (⟨1, 1, ⟨#[]⟩⟩ : S23), ⟨#[]⟩, ⟨#[]⟩, []⟩ : S26)]⟩ : S26)] = some (compactS (sortS [⟨#[97]⟩, ⟨#[98]⟩])) := by kernel_rfl
  have c : compactS [(⟨#[97]⟩ : ByteArray), (⟨#[98]⟩ : ByteArray)] = [⟨#[97]⟩, ⟨#[98]⟩] := by kernel_rfl
  rw [h, sort_ab, c]
set_option maxRecDepth 100000 in
theorem ex60 : marshallinglaw07_examples.f 60 = some true := by
  unfold marshallinglaw07_examples.f
  simp only [marshallinglaw07_lit.f, marshallinglaw07_two.f, Option.bind_some]
  rw [vars_e]
  kernel_rfl
end Go.Proofs.YtccaodehgaaheaaDoor.Pure
