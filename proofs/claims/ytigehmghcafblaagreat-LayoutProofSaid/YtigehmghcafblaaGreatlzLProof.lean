/- LayoutProof returns true, whatever the input -/
import Derived.Test.YtigehmghcafblaaGreatlzR5
import Derived.Test.YtigehmghcafblaaGreatlzFProof
set_option linter.all false
namespace Go.Proofs.YtigehmghcafblaaGreat

section

open Go.ChangeShapes Go.WideShapes Go.ChangeAt Go.RowKit

set_option maxRecDepth 100000 in
theorem proof_lifted (os : Os) (started : os.Started) (H : Type) (enc : TypeId × Value → H) :
    ReturnsInHanded {} Tryz.checked os 7 .any (Rows.layoutProofSpec.pre6 enc Tryz.prog Tryz.f7 Rows.layoutProofRow.domain false) (Rows.layoutProofSpec.post enc Tryz.prog Tryz.f7 false true false false) := by
  refine returnsInHanded_of_change (C := Tryz.checked) own started (by kernel_rfl) Tryz.func7
    (ChangeSpec.witness6 (enc := enc) (C := Tryz.checked) false ⟨#[], #[.agg #[.slice none 0 0, .int .i64 0, .int .i64 0, .slice none 0 0], .slice none 0 0, .slice none 0 0], []⟩ 8 (by kernel_rfl) (by kernel_rfl) (by kernel_rfl) (by kernel_rfl)) ?_
  intro W base args ds gs before hval0 hW hcnd _
  have hval : ∀ (j : Nat) t v, Tryz.f7.params[j]? = some t → args[j]? = some v → Value.okWide Tryz.prog W .any base t v := hval0
  have hW' := hW
  have hlt : ∀ p ∈ before, p.block < W.heap.size := fun p hp => hW.lt p hp
  obtain ⟨p, q, hA0, hV, rfl, _, _⟩ := hW
  have hA : DataW.TrodAll enc Tryz.prog W 0 (fun _ => true) true Tryz.f7.params.toList args.toList ds p := hA0
  obtain ⟨rfl, rfl⟩ := trodVars_none hV
  rw [Tryz.params7] at hA hval
  obtain ⟨v0, vs0, d0, ds0, p0, q0, hargs, rfl, rfl, h0, r0⟩ := trodAll_cons hA
  obtain ⟨v1, vs1, d1, ds1, p1, q1, rfl, rfl, rfl, h1, r1⟩ := trodAll_cons r0
  obtain ⟨v2, vs2, d2, ds2, p2, q2, rfl, rfl, rfl, h2, r2⟩ := trodAll_cons r1
  obtain ⟨rfl, rfl, rfl⟩ := trodAll_nil r2
  obtain rfl : args = #[v0, v1, v2] := by cases args; simp_all
  obtain ⟨t0, rfl, hT0, nT0, _, cT0⟩ := open_task (hval 0 25 v0 rfl rfl) h0 (fun x hx => hlt x (by simp [hx]))
  obtain ⟨l1, al1, cl1, rfl, hl1, nl1⟩ := open_pairs (hval 1 34 v1 rfl rfl) h1 (fun x hx => hlt x (by simp [hx]))
  obtain ⟨l2, al2, cl2, rfl, hl2, nl2, kl2, bl2⟩ := open_u8s (hval 2 46 v2 rfl rfl) h2 (fun x hx => hlt x (by simp [hx]))
  refine (proof_walk t0 l1 al1 cl1 l2 al2 cl2 W nT0 hT0 hl1 nl1 hl2 nl2 bl2).mono fun e W' ⟨he, hb⟩ => ⟨_, he, ?_⟩
  exact post_law laidOut (by rw [Tryz.params7]; decide +kernel) (by kernel_rfl) Tryz.underlying4 hW' rfl rfl hb

theorem proof_holds : Rows.LayoutProofSaid :=
  OpenClaim.holds_of_wide 7 Tryz.f7 rfl rfl rfl rfl rfl rfl rfl ⟨rfl, rfl, rfl, rfl, rfl⟩ rfl rfl rfl rfl rfl (by kernel_rfl) Tryz.func7 proof_facts
    (of_decide_eq_true (by kernel_rfl)) (by unfold Func.isWrapper; first | (rw [if_pos (by decide +kernel)]; kernel_rfl) | (rw [if_neg (by decide +kernel)]; exact ⟨rfl, rfl⟩))
    (fun os started H enc _ => proof_lifted os started H enc)
#print axioms proof_holds
end


end Go.Proofs.YtigehmghcafblaaGreat
