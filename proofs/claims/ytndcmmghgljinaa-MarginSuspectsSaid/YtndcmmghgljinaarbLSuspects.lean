/- For any kind, group, check and numbers, MarginSuspects returns true: in any truth of a group each strength is in its span, the only suspect is below what is needed, and in a truth some valve below is a suspect. -/
import Derived.Test.YtndcmmghgljinaarbV13
import Derived.Test.YtndcmmghgljinaarbFSuspects
set_option linter.all false
namespace Go.Proofs.Ytndcmmghgljinaa

open Go.ChangeShapes Go.WideShapes Go.ChangeAt Go.RowKit

set_option maxRecDepth 100000 in
theorem suspects_lifted (os : Os) (started : os.Started) (H : Type) (enc : TypeId × Value → H) :
    ReturnsInHanded {} Try.checked os 14 .any (Rows.marginSuspectsSpec.pre6 enc Try.prog Try.f14 Rows.marginSuspectsRow.domain false) (Rows.marginSuspectsSpec.post enc Try.prog Try.f14 false true false false) := by
  refine returnsInHanded_of_change (C := Try.checked) own started (by kernel_rfl) Try.func14
    (ChangeSpec.witness6 (enc := enc) (C := Try.checked) false ⟨#[], #[.agg #[.int .i64 0, .int .i64 0, .int .i64 0, .slice none 0 0], .agg #[.slice none 0 0, .int .i64 0, .bool false], .slice none 0 0], []⟩ 8 (by kernel_rfl) (by kernel_rfl) (by kernel_rfl) (by kernel_rfl)) ?_
  intro W base args ds gs before hval0 hW hcnd _
  have hval : ∀ (j : Nat) t v, Try.f14.params[j]? = some t → args[j]? = some v → Value.okWide Try.prog W .any base t v := hval0
  have hW' := hW
  have hlt : ∀ p ∈ before, p.block < W.heap.size := fun p hp => hW.lt p hp
  obtain ⟨p, q, hA0, hV, rfl, _, _⟩ := hW
  have hA : DataW.TrodAll enc Try.prog W 0 (fun _ => true) true Try.f14.params.toList args.toList ds p := hA0
  obtain ⟨rfl, rfl⟩ := trodVars_none hV
  rw [Try.params14] at hA hval
  obtain ⟨v0, vs0, d0, ds0, p0, q0, hargs, rfl, rfl, h0, r0⟩ := trodAll_cons hA
  obtain ⟨v1, vs1, d1, ds1, p1, q1, rfl, rfl, rfl, h1, r1⟩ := trodAll_cons r0
  obtain ⟨v2, vs2, d2, ds2, p2, q2, rfl, rfl, rfl, h2, r2⟩ := trodAll_cons r1
  obtain ⟨rfl, rfl, rfl⟩ := trodAll_nil r2
  obtain rfl : args = #[v0, v1, v2] := by cases args; simp_all
  obtain ⟨k0, ak0, ck0, rfl, hk0⟩ := open_kind (hval 0 26 v0 rfl rfl) h0 (fun x hx => hlt x (by simp [hx]))
  obtain ⟨l1, al1, cl1, u1, b1, rfl, hl1, nl1⟩ := open_tested (hval 1 46 v1 rfl rfl) h1 (fun x hx => hlt x (by simp [hx]))
  obtain ⟨l2, al2, cl2, rfl, hl2, nl2, zl2⟩ := open_u32s (hval 2 85 v2 rfl rfl) h2 (fun x hx => hlt x (by simp [hx]))
  refine (suspects_walk k0 ak0 ck0 al1 cl1 l1 u1 b1 al2 cl2 l2 W hk0 hl1 nl1 hl2 nl2 zl2).mono fun e W' ⟨he, hb⟩ => ⟨_, he, ?_⟩
  exact post_law laidOut (by rw [Try.params14]; decide +kernel) (by kernel_rfl) Try.underlying4 hW' rfl rfl hb

theorem suspects_holds : Rows.MarginSuspectsSaid :=
  OpenClaim.holds_of_wide 14 Try.f14 rfl rfl rfl rfl rfl rfl rfl ⟨rfl, rfl, rfl, rfl, rfl⟩ rfl rfl rfl rfl rfl (by kernel_rfl) Try.func14 suspects_facts
    (of_decide_eq_true (by kernel_rfl)) (by unfold Func.isWrapper; first | (rw [if_pos (by decide +kernel)]; kernel_rfl) | (rw [if_neg (by decide +kernel)]; exact ⟨rfl, rfl⟩))
    (fun os started H enc _ => suspects_lifted os started H enc)
#print axioms suspects_holds

end Go.Proofs.Ytndcmmghgljinaa
