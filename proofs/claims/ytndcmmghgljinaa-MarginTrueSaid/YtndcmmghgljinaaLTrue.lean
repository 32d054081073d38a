/- For any kind and numbers, MarginTrue returns true: in any truth the strength is in the span that Now returns, and the first hour below what is needed is not before Earliest and not after Latest. -/
import Derived.Test.YtndcmmghgljinaaV9
import Derived.Test.YtndcmmghgljinaaFTrue
set_option linter.all false
namespace Go.Proofs.Ytndcmmghgljinaa
open Go.ChangeShapes Go.WideShapes Go.ChangeAt Go.RowKit

set_option maxRecDepth 100000 in
theorem true_lifted (os : Os) (started : os.Started) (H : Type) (enc : TypeId × Value → H) :
    ReturnsInHanded {} Try.checked os 9 .any (Rows.marginTrueSpec.pre6 enc Try.prog Try.f9 Rows.marginTrueRow.domain false) (Rows.marginTrueSpec.post enc Try.prog Try.f9 false true false false) := by
  refine returnsInHanded_of_change (C := Try.checked) own started (by kernel_rfl) Try.func9
    (ChangeSpec.witness6 (enc := enc) (C := Try.checked) false ⟨#[], #[.agg #[.int .i64 0, .int .i64 0, .int .i64 0, .slice none 0 0], .agg #[.slice none 0 0, .slice none 0 0, .int .u16 0, .slice none 0 0]], []⟩ 8 (by kernel_rfl) (by kernel_rfl) (by kernel_rfl) (by kernel_rfl)) ?_
  intro W base args ds gs before hval0 hW hcnd _
  have hval : ∀ (j : Nat) t v, Try.f9.params[j]? = some t → args[j]? = some v → Value.okWide Try.prog W .any base t v := hval0
  have hW' := hW
  have hlt : ∀ p ∈ before, p.block < W.heap.size := fun p hp => hW.lt p hp
  obtain ⟨p, q, hA0, hV, rfl, _, _⟩ := hW
  have hA : DataW.TrodAll enc Try.prog W 0 (fun _ => true) true Try.f9.params.toList args.toList ds p := hA0
  obtain ⟨rfl, rfl⟩ := trodVars_none hV
  rw [Try.params9] at hA hval
  obtain ⟨v0, vs0, d0, ds0, p0, q0, hargs, rfl, rfl, h0, r0⟩ := trodAll_cons hA
  obtain ⟨v1, vs1, d1, ds1, p1, q1, rfl, rfl, rfl, h1, r1⟩ := trodAll_cons r0
  obtain ⟨rfl, rfl, rfl⟩ := trodAll_nil r1
  obtain rfl : args = #[v0, v1] := by cases args; simp_all
  obtain ⟨k0, ak0, ck0, rfl, hk0⟩ := open_kind (hval 0 26 v0 rfl rfl) h0 (fun x hx => hlt x (by simp [hx]))
  obtain ⟨lh1, ah1, ch1, lv1, av1, cv1, f1, lw1, aw1, cw1, rfl, hh1, hv1, bf1, hw1⟩ := open_life (hval 1 66 v1 rfl rfl) h1 (fun x hx => hlt x (by simp [hx]))
  refine (true_walk k0 ak0 ck0 ah1 av1 ch1 cv1 lh1 lv1 f1 aw1 cw1 lw1 W hk0 bf1 hh1.1 hh1.2.1 hh1.2.2 hv1.1 hv1.2.1 hv1.2.2 hw1.1 hw1.2.1 hw1.2.2).mono fun e W' ⟨he, hb⟩ => ⟨_, he, ?_⟩
  exact post_law laidOut (by rw [Try.params9]; decide +kernel) (by kernel_rfl) Try.underlying4 hW' rfl rfl hb

theorem true_holds : Rows.MarginTrueSaid :=
  OpenClaim.holds_of_wide 9 Try.f9 rfl rfl rfl rfl rfl rfl rfl ⟨rfl, rfl, rfl, rfl, rfl⟩ rfl rfl rfl rfl rfl (by kernel_rfl) Try.func9 true_facts
    (of_decide_eq_true (by kernel_rfl)) (by unfold Func.isWrapper; first | (rw [if_pos (by decide +kernel)]; kernel_rfl) | (rw [if_neg (by decide +kernel)]; exact ⟨rfl, rfl⟩))
    (fun os started H enc _ => true_lifted os started H enc)
#print axioms true_holds

end Go.Proofs.Ytndcmmghgljinaa
