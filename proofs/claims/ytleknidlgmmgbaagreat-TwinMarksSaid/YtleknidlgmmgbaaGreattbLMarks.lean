/- For any marks, TwinMarks returns true: the program's Differ returns what the reference's does. -/
import Derived.Test.YtleknidlgmmgbaaGreattbV2
import Derived.Test.YtleknidlgmmgbaaGreattbFMarks
set_option linter.all false
namespace Go.Proofs.YtleknidlgmmgbaaGreat

open Go.ChangeShapes Go.WideShapes Go.ChangeAt Go.RowKit

set_option maxRecDepth 100000 in
theorem marks_lifted (os : Os) (started : os.Started) (H : Type) (enc : TypeId × Value → H) :
    ReturnsInHanded {} Tryz.checked os 11 .any (Rows.twinMarksSpec.pre6 enc Tryz.prog Tryz.f11 Rows.twinMarksRow.domain false) (Rows.twinMarksSpec.post enc Tryz.prog Tryz.f11 false true false false) := by
  refine returnsInHanded_of_change (C := Tryz.checked) own started (by kernel_rfl) Tryz.func11
    (ChangeSpec.witness6 (enc := enc) (C := Tryz.checked) false ⟨#[], #[.slice none 0 0, .slice none 0 0], []⟩ 8 (by kernel_rfl) (by kernel_rfl) (by kernel_rfl) (by kernel_rfl)) ?_
  intro W base args ds gs before hval0 hW hcnd _
  have hval : ∀ (j : Nat) t v, Tryz.f11.params[j]? = some t → args[j]? = some v → Value.okWide Tryz.prog W .any base t v := hval0
  have hW' := hW
  have hlt : ∀ p ∈ before, p.block < W.heap.size := fun p hp => hW.lt p hp
  obtain ⟨p, q, hA0, hV, rfl, _, _⟩ := hW
  have hA : DataW.TrodAll enc Tryz.prog W 0 (fun _ => true) true Tryz.f11.params.toList args.toList ds p := hA0
  obtain ⟨rfl, rfl⟩ := trodVars_none hV
  rw [Tryz.params11] at hA hval
  obtain ⟨v0, vs0, d0, ds0, p0, q0, hargs, rfl, rfl, h0, r0⟩ := trodAll_cons hA
  obtain ⟨v1, vs1, d1, ds1, p1, q1, rfl, rfl, rfl, h1, r1⟩ := trodAll_cons r0
  obtain ⟨rfl, rfl, rfl⟩ := trodAll_nil r1
  obtain rfl : args = #[v0, v1] := by cases args; simp_all
  obtain ⟨l0, al0, cl0, rfl, hl0, nl0⟩ := open_marks (hval 0 74 v0 rfl rfl) h0 (fun x hx => hlt x (by simp [hx]))
  obtain ⟨l1, al1, cl1, rfl, hl1, nl1⟩ := open_marks (hval 1 74 v1 rfl rfl) h1 (fun x hx => hlt x (by simp [hx]))
  refine (marks_walk al0 cl0 l0 al1 cl1 l1 W hl0 hl1 nl0 nl1).mono fun e W' ⟨he, hb⟩ => ⟨_, he, ?_⟩
  exact post_law laidOut (by rw [Tryz.params11]; decide +kernel) (by kernel_rfl) Tryz.underlying4 hW' rfl rfl hb

theorem marks_holds : Rows.TwinMarksSaid :=
  OpenClaim.holds_of_wide 11 Tryz.f11 rfl rfl rfl rfl rfl rfl rfl ⟨rfl, rfl, rfl, rfl, rfl⟩ rfl rfl rfl rfl rfl (by kernel_rfl) Tryz.func11 marks_facts
    (of_decide_eq_true (by kernel_rfl)) (by unfold Func.isWrapper; first | (rw [if_pos (by decide +kernel)]; kernel_rfl) | (rw [if_neg (by decide +kernel)]; exact ⟨rfl, rfl⟩))
    (fun os started H enc _ => marks_lifted os started H enc)
#print axioms marks_holds

end Go.Proofs.YtleknidlgmmgbaaGreat
