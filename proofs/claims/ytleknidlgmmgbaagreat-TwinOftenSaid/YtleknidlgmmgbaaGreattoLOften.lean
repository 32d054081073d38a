/- For any entries, days and numbers, TwinOften returns true: with more days, or fewer entries that are asked for, no unit is lost; each unit that is suspect has as many entries. -/
import Derived.Test.YtleknidlgmmgbaaGreattoV7
import Derived.Test.YtleknidlgmmgbaaGreattoFOften
set_option linter.all false
namespace Go.Proofs.YtleknidlgmmgbaaGreat

open Go.ChangeShapes Go.WideShapes Go.ChangeAt Go.RowKit

set_option maxRecDepth 100000 in
theorem often_lifted (os : Os) (started : os.Started) (H : Type) (enc : TypeId × Value → H) :
    ReturnsInHanded {} Tryz.checked os 9 .any (Rows.twinOftenSpec.pre6 enc Tryz.prog Tryz.f9 Rows.twinOftenRow.domain false) (Rows.twinOftenSpec.post enc Tryz.prog Tryz.f9 false true false false) := by
  refine returnsInHanded_of_change (C := Tryz.checked) own started (by kernel_rfl) Tryz.func9
    (ChangeSpec.witness6 (enc := enc) (C := Tryz.checked) false ⟨#[], #[.slice none 0 0, .agg #[.int .u8 0, .int .u8 0, .int .i64 0, .int .i64 0], .agg #[.int .u8 0, .int .u8 0]], []⟩ 8 (by kernel_rfl) (by kernel_rfl) (by kernel_rfl) (by kernel_rfl)) ?_
  intro W base args ds gs before hval0 hW hcnd _
  have hval : ∀ (j : Nat) t v, Tryz.f9.params[j]? = some t → args[j]? = some v → Value.okWide Tryz.prog W .any base t v := hval0
  have hW' := hW
  have hlt : ∀ p ∈ before, p.block < W.heap.size := fun p hp => hW.lt p hp
  obtain ⟨p, q, hA0, hV, rfl, _, _⟩ := hW
  have hA : DataW.TrodAll enc Tryz.prog W 0 (fun _ => true) true Tryz.f9.params.toList args.toList ds p := hA0
  obtain ⟨rfl, rfl⟩ := trodVars_none hV
  rw [Tryz.params9] at hA hval
  obtain ⟨v0, vs0, d0, ds0, p0, q0, hargs, rfl, rfl, h0, r0⟩ := trodAll_cons hA
  obtain ⟨v1, vs1, d1, ds1, p1, q1, rfl, rfl, rfl, h1, r1⟩ := trodAll_cons r0
  obtain ⟨v2, vs2, d2, ds2, p2, q2, rfl, rfl, rfl, h2, r2⟩ := trodAll_cons r1
  obtain ⟨rfl, rfl, rfl⟩ := trodAll_nil r2
  obtain rfl : args = #[v0, v1, v2] := by cases args; simp_all
  obtain ⟨l0, al0, cl0, rfl, hl0, nl0, sl0⟩ := open_ents (hval 0 36 v0 rfl rfl) h0 (fun x hx => hlt x (by simp [hx]))
  obtain ⟨f1, g1, y1, m1, rfl, bf1, bg1, by1, bm1⟩ := open_cut (hval 1 63 v1 rfl rfl) h1
  obtain ⟨x2_0, x2_1, rfl, bx2_0, bx2_1⟩ := open_u8_2 (hval 2 67 v2 rfl rfl) h2
  refine (often_walk al0 cl0 l0 f1 g1 y1 m1 x2_0 x2_1 W hl0 nl0 sl0 by1 bm1 bx2_0 bx2_1).mono fun e W' ⟨he, hb⟩ => ⟨_, he, ?_⟩
  exact post_law laidOut (by rw [Tryz.params9]; decide +kernel) (by kernel_rfl) Tryz.underlying4 hW' rfl rfl hb

theorem often_holds : Rows.TwinOftenSaid :=
  OpenClaim.holds_of_wide 9 Tryz.f9 rfl rfl rfl rfl rfl rfl rfl ⟨rfl, rfl, rfl, rfl, rfl⟩ rfl rfl rfl rfl rfl (by kernel_rfl) Tryz.func9 often_facts
    (of_decide_eq_true (by kernel_rfl)) (by unfold Func.isWrapper; first | (rw [if_pos (by decide +kernel)]; kernel_rfl) | (rw [if_neg (by decide +kernel)]; exact ⟨rfl, rfl⟩))
    (fun os started H enc _ => often_lifted os started H enc)
#print axioms often_holds

end Go.Proofs.YtleknidlgmmgbaaGreat
