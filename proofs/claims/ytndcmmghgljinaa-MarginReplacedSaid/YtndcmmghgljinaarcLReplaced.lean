/- For any kinds, nights and numbers, MarginReplaced returns true: in any truth, with the plan of Replace, no valve is below what it needs at any hour from the one to the other. -/
import Derived.Test.YtndcmmghgljinaarcV14
import Derived.Test.YtndcmmghgljinaarcFReplaced
set_option linter.all false
namespace Go.Proofs.Ytndcmmghgljinaa

open Go.ChangeShapes Go.WideShapes Go.ChangeAt Go.RowKit

set_option maxRecDepth 100000 in
theorem replaced_lifted (os : Os) (started : os.Started) (H : Type) (enc : TypeId × Value → H) :
    ReturnsInHanded {} Try.checked os 15 .any (Rows.marginReplacedSpec.pre6 enc Try.prog Try.f15 Rows.marginReplacedRow.domain false) (Rows.marginReplacedSpec.post enc Try.prog Try.f15 false true false false) := by
  refine returnsInHanded_of_change_sized (C := Try.checked) own started (by kernel_rfl) Try.func15
    (ChangeSpec.witness6 (enc := enc) (C := Try.checked) false ⟨#[], #[.slice none 0 0, .slice none 0 0, .agg #[.int .u16 0, .int .u16 0, .slice none 0 0, .slice none 0 0]], []⟩ 8 (by kernel_rfl) (by kernel_rfl) (by kernel_rfl) (by kernel_rfl)) ?_
  intro W base args ds gs before hval0 hW hcnd hsz0 _
  have hval : ∀ (j : Nat) t v, Try.f15.params[j]? = some t → args[j]? = some v → Value.okWide Try.prog W .any base t v := hval0
  have hsz : (DataW.weightsEach Try.prog (Try.f15.params.toList ++ (Rows.marginReplacedSpec.plain.varTypes Try.prog)) (ds ++ gs)).all (· ≤ reachBytes) = true := hsz0
  have hW' := hW
  have hlt : ∀ p ∈ before, p.block < W.heap.size := fun p hp => hW.lt p hp
  obtain ⟨p, q, hA0, hV, rfl, _, _⟩ := hW
  have hA : DataW.TrodAll enc Try.prog W 0 (fun _ => true) true Try.f15.params.toList args.toList ds p := hA0
  obtain ⟨rfl, rfl⟩ := trodVars_none hV
  rw [Try.params15] at hA hval hsz
  obtain ⟨v0, vs0, d0, ds0, p0, q0, hargs, rfl, rfl, h0, r0⟩ := trodAll_cons hA
  obtain ⟨v1, vs1, d1, ds1, p1, q1, rfl, rfl, rfl, h1, r1⟩ := trodAll_cons r0
  obtain ⟨v2, vs2, d2, ds2, p2, q2, rfl, rfl, rfl, h2, r2⟩ := trodAll_cons r1
  obtain ⟨rfl, rfl, rfl⟩ := trodAll_nil r2
  obtain rfl : args = #[v0, v1, v2] := by cases args; simp_all
  obtain ⟨l0, al0, cl0, rfl, hl0, nl0⟩ := open_kinds (hval 0 87 v0 rfl rfl) h0 (fun x hx => hlt x (by simp [hx]))
  obtain ⟨l1, al1, cl1, rfl, hl1, nl1, zl1⟩ := open_ints (hval 1 47 v1 rfl rfl) h1 (fun x hx => hlt x (by simp [hx]))
  obtain ⟨f2, u2, lw2, aw2, cw2, lo2, ao2, co2, rfl, bf2, bu2, hw2, ho2⟩ := open_kept (hval 2 90 v2 rfl rfl) h2 (fun x hx => hlt x (by simp [hx]))
  have sz0 := kinds_sized (by assumption) (fun n hn => by simpa using List.all_eq_true.1 hsz n (DataW.weights_mem_each (j := 0) rfl rfl n hn))
  refine (replaced_walk al0 cl0 l0 al1 cl1 l1 f2 u2 aw2 cw2 lw2 ao2 lo2.length co2 W hl0 sz0 hl1 nl1 bf2 bu2 hw2.1 hw2.2.1 hw2.2.2).mono fun e W' ⟨he, hb⟩ => ⟨_, he, ?_⟩
  exact post_law laidOut (by rw [Try.params15]; decide +kernel) (by kernel_rfl) Try.underlying4 hW' rfl rfl hb

theorem replaced_holds : Rows.MarginReplacedSaid :=
  OpenClaim.holds_of_wide 15 Try.f15 rfl rfl rfl rfl rfl rfl rfl ⟨rfl, rfl, rfl, rfl, rfl⟩ rfl rfl rfl rfl rfl (by kernel_rfl) Try.func15 replaced_facts
    (of_decide_eq_true (by kernel_rfl)) (by unfold Func.isWrapper; first | (rw [if_pos (by decide +kernel)]; kernel_rfl) | (rw [if_neg (by decide +kernel)]; exact ⟨rfl, rfl⟩))
    (fun os started H enc _ => replaced_lifted os started H enc)
#print axioms replaced_holds

end Go.Proofs.Ytndcmmghgljinaa
