/- TwinKnown. -/
import Derived.Test.YtleknidlgmmgbaaGreattaW45
import Derived.Deep.Slices
import Derived.Deep.Fields
import Derived.ProofKit
import Derived.OpenShut
import Derived.Carry
import Derived.ChangeSame
import Derived.ReadAgain
import Derived.Test.YtleknidlgmmgbaaGreattaW51
import Derived.Test.YtleknidlgmmgbaaGreattaCX
set_option linter.all false
namespace Go.Proofs.YtleknidlgmmgbaaGreat

section
open Go.ChangeShapes Go.WideShapes Go.ChangeAt Go.RowKit Go.Deep

section
variable {H : Type} {enc : TypeId × Value → H} {P : Program} {w : World} {spare : Nat → Bool}

end

/-- THE POST of a law that leaves old memory alone. -/
theorem trodAll_below {H : Type} {enc : TypeId × Value → H} {P : Program} {W W' : World} (hl : laidOutB P = true) (hb : Below W.heap.size W W') {sp : Nat → Bool} : ∀ {ts : List TypeId} {vs : List Value} {ds : List (DataW H)} {ps : List MemPlace},
    (∀ t ∈ ts, P.readableRec t = true ∧ t < P.types.size) → DataW.TrodAll enc P W 0 (fun _ => true) true ts vs ds ps → (∀ p ∈ ps, p.block < W.heap.size) → (∀ p ∈ ps, sp p.block = true) → DataW.TrodAll enc P W' 0 sp true ts vs ds ps
  | [], [], [], _, _, h, _, _ => h
  | _ :: _, _ :: _, _ :: _, _, hT, ⟨p, q, h1, h2, e⟩, hlt, hs => by
    subst e
    refine ⟨p, q, WideElems.Trod_stays hl (hT _ (by simp)).1 (hT _ (by simp)).2 h1 (fun x hx => hb.same (hlt x (by simp [hx]))) (fun x hx => hs x (by simp [hx])), trodAll_below hl hb (fun t ht => hT t (by simp [ht])) h2 (fun x hx => hlt x (by simp [hx])) (fun x hx => hs x (by simp [hx])), rfl⟩

theorem post_law {H : Type} {enc : TypeId × Value → H} {P : Program} {f : Func} {s : ChangeSpec} {apart : Bool} {W W' : World} {args : Array Value} {ds : List (DataW H)} {before : List MemPlace} {tb : TypeId}
    (hl : laidOutB P = true) (hr : ∀ t ∈ f.params.toList, P.readableRec t = true ∧ t < P.types.size) (hres : f.resultTypes = #[tb]) (hbool : P.underlying tb = some .bool)
    (hW : DataW.Whole enc P f.params.toList s.vars apart W args.toList ds [] before) (hvs : s.vars = []) (hfn : s.fn H ds = { results := [.lit (.bool true)], args := ds }) (hb : Below W.heap.size W W') :
    s.post enc P f apart true false false W args (.bool true) W' := by
  have hlt : ∀ p ∈ before, p.block < W.heap.size := fun p hp => hW.lt p hp
  have hfn' : s.fn H (ds ++ []) = { results := [.lit (.bool true)], args := ds } := by rw [List.append_nil]; exact hfn
  have hW0 := hW
  obtain ⟨pa, pv, hA, hV, hps, hz, hn⟩ := hW
  rw [hvs] at hV
  obtain ⟨_, rfl⟩ := trodVars_none hV
  simp only [List.append_nil] at hps
  subst hps
  have hargs : ∀ sp : Nat → Bool, (∀ p ∈ before, sp p.block = true) → DataW.TrodAll enc P W' 0 sp true f.params.toList args.toList ds before := fun sp hsp => trodAll_below hl hb hr hA hlt hsp
  have hresl : ∀ (b : Nat) (sp : Nat → Bool) (hd : Bool), DataW.TrodAll enc P W' b sp hd f.resultTypes.toList ((Value.bool true).resultList f.resultTypes.size) [.lit (.bool true)] [] := by
    intro b sp hd
    rw [hres]
    exact trodAll_mk1 (shut_bool hbool true)
  have hok : ∀ (j : Nat) (t : TypeId) (r : Value), f.resultTypes[j]? = some t → ((Value.bool true).resultList f.resultTypes.size)[j]? = some r → Value.okWide P W' .any 0 t r := ok_one hres rfl (okWide_bool_mk hbool true)
  have hargs' : ∀ sp : Nat → Bool, (∀ p ∈ before, sp p.block = true) → DataW.TrodAll enc P W' 0 sp true f.params.toList args.toList (s.fn H (ds ++ [])).args before := by rw [hfn']; exact hargs
  have hresl' : ∀ (b : Nat) (sp : Nat → Bool) (hd : Bool), DataW.TrodAll enc P W' b sp hd f.resultTypes.toList ((Value.bool true).resultList f.resultTypes.size) (s.fn H (ds ++ [])).results [] := by rw [hfn']; exact hresl
  have hvars' : ∀ sp : Nat → Bool, DataW.TrodVars enc P W' sp s.vars (s.fn H (ds ++ [])).vars [] := by rw [hfn', hvs]; exact fun _ => rfl
  refine ⟨ds, [], before, [], before, [], hW0, hresl' _ _ _, hargs' _ (fun p hp => by simpa using hlt p hp), hvars' _, World.keptBut_mono (fun p hp => ⟨hp, by simpa using hp⟩) (hb.frame (· ∈ before)), fun _ => ?_⟩
  · refine ⟨hok, _, _, ([] ++ before) ++ [], ⟨[] ++ before, [], trodAll_append (hargs' _ (fun _ _ => rfl)) (hresl' _ _ _), hvars' _, rfl, ?_, ?_⟩, ?_⟩
    · intro b off hp
      have hin : MemPlace.cell b off ∈ before := by simpa using hp
      rw [hb.frozen (hlt _ hin)]
      exact hz b off hin
    · intro ha
      have := hn ha
      simpa using this
    · intro p hp _
      simpa using hp

/- this program -/
theorem own : ownKnob Tryz.prog.godebug = none := by kernel_rfl
end

section
open Go.RowKit


def exRb : St4 := runR exS exB 100
theorem exRb_p : exRb.printed = [7] := by decide +kernel
theorem sus_ex4 (B c : Nat) (w : World) (hR : RdEn w (some ⟨B, 0, none⟩) exE) :
    Calls Tryz.prog 22 #[.slice (some ⟨B, 0, none⟩) exE.length c, .int .i64 4, .int .i64 2] w (fun e w' => ∃ a' c', e = .returned (.tuple #[.slice a' 0 c', .int .i64 0]) ∧ RdUn w' a' [] ∧ (∀ b, a' = some b → w.heap.size ≤ b.block) ∧ Below w.heap.size w w') :=
  suspects_v _ c exE 4 2 [] 0 w hR (by decide) exE_small (by decide +kernel)

set_option maxRecDepth 100000 in
set_option maxHeartbeats 16000000 in
theorem known_walk (w : World) :
    Calls Tryz.prog 5 #[] w (fun e w' => e = .returned (.bool true) ∧ Below w.heap.size w w') := by
 refine enter_F Tryz.func5 rfl Tryz.ntmps5 (by simp) ?_
 intro s0 hs; clear hs; have HB := hid (OldB.refl [] w)
 repeat ((fail_if_success refine stp ?_); with_reducible go_step)
 refine region_F ?_; refine pl ?_; refine listF_abs (fun s1 z' => ?_); clear z'; refine listF_nil ?_
 repeat ((fail_if_success refine stp ?_); with_reducible go_step)
 refine region_F ?_; refine listF_step rfl (fun K' hK => ?_); unfold opF; go_simp; refine (lS_any _).mono ?_; rintro e w2 ⟨A6, rfl, hS6, hb3⟩; refine ⟨_, rfl, hK _ _ ?_⟩; clear hK K'; replace HB := be HB hb3; clear hb3; refine listF_step rfl (fun K' hK => ?_); unfold opF; go_simp; refine (lB_any _).mono ?_; rintro e w4 ⟨B7, rfl, hF7, hB7, hb5⟩; refine ⟨_, rfl, hK _ _ ?_⟩; clear hK K'; replace hS6 := RdSt.at hS6 hb5; replace HB := be HB hb5; clear hb5; refine listF_step rfl (fun K' hK => ?_); unfold opF; go_simp; refine (tRun_v exS A6 (some ⟨B7, 0, none⟩) 1 exB 100 0 exRb _ hS6 exS_len (by decide) hF7 (by decide +kernel) rfl).mono ?_; rintro e w6 ⟨A20, rfl, hP20', hb7⟩; have hP20 := hP20'.pr; have Hf := hid (show ∀ b, A20.pa = some b → b.block < w6.heap.size from fun b hb => by have h9 := exRb_p; rcases hP20 with h | ⟨b1, o1, h1, h2, _⟩; rw [h] at h9; simp at h9; rw [h1] at hb; cases hb; exact h2)
 clear hP20'; refine ⟨_, rfl, hK _ _ ?_⟩; clear hK K'; replace hS6 := RdSt.at hS6 hb7; replace hF7 := Rd.at hF7 hb7; replace HB := be HB hb7; clear hb7; clear hS6 hF7; have HL9 := hid (OldB.refl [] w6)
 iterate 3 refine pl ?_
 refine pa (fun w8 B1 hB kb1' hb9 => ?_); have gb1 := HB.out.gB hB; have lHL9_b1 := HL9.out.gB hB; have eb1 := eB hB; clear hB; replace hP20 := Rd.at hP20 hb9; replace HL9 := be HL9 hb9; replace HB := be HB hb9; clear hb9; have kb1 := kb1'; clear kb1'; have qb1 := kb1.1; obtain ⟨cb1_0, cb1_1, cb1_2, cb1_3, cb1_4, cb1_5, cb1_6, cb1_7⟩ := cl8 kb1; have zb1 := kb1.2.2; refine pl ?_; refine listF_absw (fun w10 hw' => ?_); have kb1' := cells_of hw' (Cells.set (i := 7) (Cells.set (i := 6) (Cells.set (i := 5) (Cells.set (i := 4) (Cells.set (i := 3) (Cells.set (i := 2) (Cells.set (i := 1) (Cells.set (i := 0) (kb1)))))))))
 (try simp only [stC, mC, tC, List.set_cons_zero, List.set_cons_succ] at kb1')
 have hb11 : OldB [B1] w8 w10 := oldsetN hw'; clear hw'; clear cb1_0 cb1_1 cb1_2 cb1_3 cb1_4 cb1_5 cb1_6 cb1_7 zb1; clear qb1; replace kb1 := kb1'; replace hP20 := Rd.oldB hP20 hb11 (fun b hb => by have := Hf.out b hb; first | (simp; done) | (simp; omega)); replace HL9 := mo HL9 hb11; replace HB := mo HB hb11; clear hb11; have qb1 := kb1.1; clear kb1'; refine pl ?_; refine listF_abs (fun s12 z' => ?_); have sl1 := gu 1 z'; have sl2 := gu 2 z'; clear z'; refine listF_nil ?_
 repeat ((fail_if_success refine stp ?_); with_reducible go_step)
 refine region_F ?_; refine listF_step rfl (fun K' hK => ?_); unfold opF; go_simp; refine (lE_any _).mono ?_; rintro e w13 ⟨B12, rfl, hE12, hB12, hb14⟩; refine ⟨_, rfl, hK _ _ ?_⟩; clear hK K'; clear qb1; replace kb1 := kb1.at hb14; replace hP20 := Rd.at hP20 hb14; replace HL9 := be HL9 hb14; replace HB := be HB hb14; clear hb14; have qb1 := kb1.1; refine listF_step rfl (fun K' hK => ?_); unfold opF; go_simp; refine (sus_ex4 B12 3 _ hE12).mono ?_; rintro e w15 ⟨a51, c51, rfl, -, -, hb16⟩; refine ⟨_, rfl, hK _ _ ?_⟩; clear hK K'; clear qb1; replace kb1 := kb1.at hb16; replace hP20 := Rd.at hP20 hb16; replace HL9 := be HL9 hb16; replace hE12 := Rd.at hE12 hb16; replace HB := be HB hb16; clear hb16; have qb1 := kb1.1; clear hE12
 iterate 5 refine pl ?_
 refine listF_abs (fun s17 z' => ?_); replace sl1 := gs 1 z' sl1; replace sl2 := gs 2 z' sl2; have sl3 := gu 3 z'; have sl4 := gu 4 z'; clear z'; refine listF_nil ?_
 repeat ((fail_if_success refine stp ?_); with_reducible go_step)
 refine region_F ?_
 iterate 3 refine pl ?_
 refine py ?_; refine py ?_; refine pl ?_; refine pl ?_; refine py ?_; obtain ⟨cb1_0, cb1_1, cb1_2, cb1_3, cb1_4, cb1_5, cb1_6, cb1_7⟩ := cl8 kb1; refine py ?_; refine pasy (fun w18 B25 hB kb25' hb19 => ?_); have gb25 := HB.out.gB hB; have lHL9_b25 := HL9.out.gB hB; have ob1_b25 := oB qb1 hB; have eb25 := eB hB; clear hB; clear cb1_0 cb1_1 cb1_2 cb1_3 cb1_4 cb1_5 cb1_6 cb1_7; clear qb1; replace kb1 := kb1.at hb19; replace hP20 := Rd.at hP20 hb19; replace HL9 := be HL9 hb19; replace HB := be HB hb19; clear hb19; have qb1 := kb1.1; have kb25 := kb25'; clear kb25'; have qb25 := kb25.1; refine listF_yes rfl rfl (by decide) ?_ (fun K' hK => ?_); (focus (go_simp; done)); unfold opF; go_simp; refine (ints_eq A20.pa A20.pc exRb.printed (some ⟨B25, 0, none⟩) 1 [7] _ hP20 (Cells.rd (f := int1) (m := 1) (l := [7]) (fun _ => rfl) kb25) (by decide) exRb_p).mono ?_; rintro e w20 ⟨rfl, hb21⟩
 refine ⟨_, rfl, hK _ _ ?_⟩; clear hK K'; clear qb1 qb25; replace kb1 := kb1.at hb21; replace kb25 := kb25.at hb21; replace hP20 := Rd.at hP20 hb21; replace HL9 := be HL9 hb21; replace HB := be HB hb21; clear hb21; have qb1 := kb1.1; have qb25 := kb25.1; refine pl ?_; refine pl ?_
 iterate 3 refine py ?_
 refine pl ?_; refine pl ?_; refine listF_yes rfl rfl (by decide) ?_ (fun K' hK => ?_); (focus (go_simp; done)); unfold opF; go_simp; refine (awake_any _).mono ?_; rintro e w22 ⟨rfl, hb23⟩; refine ⟨_, rfl, hK _ _ ?_⟩; clear hK K'; clear qb1 qb25; replace kb1 := kb1.at hb23; replace kb25 := kb25.at hb23; replace hP20 := Rd.at hP20 hb23; replace HL9 := be HL9 hb23; replace HB := be HB hb23; clear hb23; have qb1 := kb1.1; have qb25 := kb25.1; refine pl ?_; refine pl ?_; refine listF_abs (fun s24 z' => ?_); have sl0 := gu 0 z'; clear z' sl1 sl2 sl3 sl4; refine listF_nil ?_
 repeat ((fail_if_success refine stp ?_); with_reducible go_step)
 refine ret_F _ (res_t Tryz.results5 ((getD_F (by decide)).trans sl0)) ?_; exact ⟨rfl, HB.out.toBelow⟩
end


end Go.Proofs.YtleknidlgmmgbaaGreat
