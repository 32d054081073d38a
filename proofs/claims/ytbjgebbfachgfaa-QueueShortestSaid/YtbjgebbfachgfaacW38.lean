/- Bill: the reference's; valid. -/
import Derived.Test.YtbjgebbfachgfaacW37
import Derived.Test.YtbjgebbfachgfaacJ8
import Derived.Test.YtbjgebbfachgfaacW18
set_option linter.unusedVariables false
set_option linter.unusedSimpArgs false
set_option linter.unusedSectionVars false
set_option linter.all false
namespace Go.Proofs.Ytbjgebbfachgfaa
open Go.RowKit

def BillRes (W : Work) (till : Int) (w : World) (e : Ending) (w' : World) : Prop := ∃ a c, e = .returned (.tuple #[.slice a (billRes W till).1.length c, .agg #[.int .i64 (billRes W till).2.1.run, .int .i64 (billRes W till).2.1.lost, .int .i64 (billRes W till).2.1.repair, .int .i64 (billRes W till).2.1.idle], .int .i64 (billRes W till).2.2]) ∧
  RdInts w' a (billRes W till).1 ∧ Below w.heap.size w w'
theorem charges_snoc {q : Qu} {k : Nat} (hk : k < q.jobs.length) : (charges q).take (k + 1) = (charges q).take k ++ [q.jobs[k].charge] := by
  unfold charges
  rw [List.take_succ_eq_append_getElem (by simpa using hk)]; simp

set_option maxRecDepth 100000 in
set_option maxHeartbeats 8000000 in
theorem rBill_any (W : Work) (till : Int) (aj af : Option Addr) (cj cf : Nat) (w : World) (hW : WorkIn w W aj af) :
    Calls Try.prog 28 #[.agg #[.int .i64 W.rules.slice, .int .i64 W.rules.load, .int .i64 W.rules.dump, .int .i64 W.rules.patience, .int .i64 W.rules.rate, .slice aj W.jobs.length cj, .slice af W.faults.length cf], .int .i64 till] w (BillRes W till w) := by
  obtain ⟨i0, hi0, hz0, hz1, hz2⟩ := info_parts info_int
  have HW := hid hW
  clear hW
  refine enter_F Try.func28 rfl Try.ntmps28 (by simp) ?_
  intro s hs
  have sl0 : s 0 = .agg #[.int .i64 W.rules.slice, .int .i64 W.rules.load, .int .i64 W.rules.dump, .int .i64 W.rules.patience, .int .i64 W.rules.rate, .slice aj W.jobs.length cj, .slice af W.faults.length cf] := hs 0 (by simp)
  have sl1 : s 1 = .int .i64 till := hs 1 (by simp)
  clear hs
  repeat (first | ((first | (refine listF_step rfl (fun K' hK => ?_)) | (refine listF_yes rfl rfl (by decide) ?_ (fun K' hK => ?_); (focus (go_simp; done)))); unfold opF; go_simp; (refine hK _ _ ?_); clear hK K') | (refine listF_no (b' := true) rfl rfl (by decide) ?_ ?_ ?_; (focus (go_simp; done)); (focus rfl)) | (refine listF_no (b' := false) rfl rfl (by decide) ?_ ?_ ?_; (focus (go_simp; done)); (focus rfl)) | (refine listF_nu rfl rfl (by decide) ?_ ?_; (focus (go_simp; done))) | (refine listF_nil ?_) | (refine region_F ?_) | (refine cond_F true ?_ ?_; (focus (go_simp; done)); simp only [if_true]) | (refine cond_F false ?_ ?_; (focus (go_simp; done)); simp only [Bool.false_eq_true, if_false]) | (with_reducible go_step))
  (refine listF_step rfl (fun K' hK => ?_); unfold opF; go_simp; refine (rDay_any W till aj af cj cf _ (HW.out.at (by repeat (first | (with_reducible exact Below.refl _ w) | (with_reducible refine bdrewN ?_ _) | (with_reducible refine Below.drew ?_) | (with_reducible refine Below.setCell ?_ (by first | omega | (simp; done) | (simp; omega)) _) | (with_reducible refine Below.alloc ?_ (by first | omega | (simp; done) | (simp; omega)) _))))).mono ?_; rintro e w2 ⟨a, c, a', c', rfl, hl, hq, hb2, hfa, hfq⟩; refine ⟨_, rfl, hK _ _ ?_⟩; clear hK K')
  have k5 : Cells w2 (w.heap.size + 1) [.int .i64 0, .int .i64 0, .int .i64 0, .int .i64 0] := (Cells.new (cs := #[.int .i64 0, .int .i64 0, .int .i64 0, .int .i64 0]) (by first | omega | (simp; done) | (simp; omega))).at hb2
  have HB2 := hid (Below.trans (by repeat (first | (with_reducible exact Below.refl _ w) | (with_reducible refine bdrewN ?_ _) | (with_reducible refine Below.drew ?_) | (with_reducible refine Below.setCell ?_ (by first | omega | (simp; done) | (simp; omega)) _) | (with_reducible refine Below.alloc ?_ (by first | omega | (simp; done) | (simp; omega)) _))) (hb2.mono (by first | omega | (simp; done) | (simp; omega))) : Below w.heap.size w w2)
  have hfa' : ∀ b, a = some b → b.block ≠ w.heap.size + 1 := fun b hb => by have := hfa b hb; simp at this; omega
  have Hfa := hid hfa'
  clear hfa' hfq hfa hb2
  have d0 := k5.cell 0 rfl
  have d1 := k5.cell 1 rfl
  have d2 := k5.cell 2 rfl
  have d3 := k5.cell 3 rfl
  have dz := k5.2.2
  have ds := k5.1
  by_cases he : dayErr W till = 0
  · have he1 : (dayErr W till != 0) = false := by simp [he]
    have He := hid he
    have Hsp := hid (day_spells he)
    have Hdk := hid (day_dok he)
    have Hok := hid (day_ok he)
    have Hb := hid (show billRes W till = (charges (day W till).2, totals (day W till).1, 0) by unfold billRes; rw [if_pos he])
    clear he
    repeat (first | ((first | (refine listF_step rfl (fun K' hK => ?_)) | (refine listF_yes rfl rfl (by decide) ?_ (fun K' hK => ?_); (focus (go_simp; done)))); unfold opF; go_simp; (refine hK _ _ ?_); clear hK K') | (refine listF_no (b' := true) rfl rfl (by decide) ?_ ?_ ?_; (focus (go_simp; done)); (focus rfl)) | (refine listF_no (b' := false) rfl rfl (by decide) ?_ ?_ ?_; (focus (go_simp; done)); (focus rfl)) | (refine listF_nu rfl rfl (by decide) ?_ ?_; (focus (go_simp; done))) | (refine listF_nil ?_) | (refine region_F ?_) | (refine cond_F true ?_ ?_; (focus (go_simp; done)); simp only [if_true]) | (refine cond_F false ?_ ?_; (focus (go_simp; done)); simp only [Bool.false_eq_true, if_false]) | (with_reducible go_step))
    refine wp_absw ?_
    intro wl hwl
    have k8 : Cells wl w2.heap.size [.int .i64 (day W till).2.now, .slice a' (day W till).2.jobs.length c'] := by rw [hwl]; exact Cells.new (cs := #[.int .i64 (day W till).2.now, .slice a' (day W till).2.jobs.length c']) rfl
    have hbl : Below w2.heap.size w2 wl := by rw [hwl]; exact (by repeat (first | (with_reducible exact Below.refl _ w2) | (with_reducible refine bdrewN ?_ _) | (with_reducible refine Below.drew ?_) | (with_reducible refine Below.setCell ?_ (by first | omega | (simp; done) | (simp; omega)) _) | (with_reducible refine Below.alloc ?_ (by first | omega | (simp; done) | (simp; omega)) _)))
    replace k5 := k5.at hbl
    replace hl := Rd.at hl hbl
    replace hq := Rd.at hq hbl
    have HBl := hid (HB2.out.trans (hbl.mono HB2.out.size) : Below w.heap.size w wl)
    have hsl : w2.heap.size < wl.heap.size := k8.1
    clear hwl hbl HB2 d0 d1 d2 d3 dz
    (refine wp_abs ?_; intro s' hs'; have gl5 := congrFun hs' 5; simp only [updS_some, updS_none, Nat.reduceEqDiff, ↓reduceIte] at gl5; (try rw [sl5] at gl5); have gl7 := congrFun hs' 7; simp only [updS_some, updS_none, Nat.reduceEqDiff, ↓reduceIte] at gl7; (try rw [sl7] at gl7); have gl8 := congrFun hs' 8; simp only [updS_some, updS_none, Nat.reduceEqDiff, ↓reduceIte] at gl8; (try rw [sl8] at gl8); have gl10 := congrFun hs' 10; simp only [updS_some, updS_none, Nat.reduceEqDiff, ↓reduceIte] at gl10; (try rw [sl10] at gl10); have gl11 := congrFun hs' 11; simp only [updS_some, updS_none, Nat.reduceEqDiff, ↓reduceIte] at gl11; (try rw [sl11] at gl11); clear hs'; (try clear sl5); (try clear sl7); (try clear sl8); (try clear sl10); (try clear sl11); have sl5 := gl5; clear gl5; have sl7 := gl7; clear gl7; have sl8 := gl8; clear gl8; have sl10 := gl10; clear gl10; have sl11 := gl11; clear gl11)
    have hj12 : (day W till).2.jobs.length ≤ 12 := by have := Hdk.out.len; have := Hok.out.1.jl; omega
    refine loop_F (n := 42) (fun m s wr => ∃ (k : Nat) (v : Value), m = (day W till).2.jobs.length - k ∧ k ≤ (day W till).2.jobs.length ∧ s 5 = .pointer (some ⟨w.heap.size + 1, 0, none⟩) ∧ s 7 = .slice a (day W till).1.length c ∧ s 8 = .pointer (some ⟨w2.heap.size, 0, none⟩) ∧ s 10 = v ∧ s 11 = .int .i64 k ∧ Hid (OwnInts wl.heap.size wr v ((charges (day W till).2).take k)) ∧ Below wl.heap.size wl wr) (k0 := (day W till).2.jobs.length) ⟨0, .slice none 0 0, rfl, Nat.zero_le _, sl5, sl7, sl8, sl10, sl11, hid (Own.nil _ _ _ _ _), Below.refl _ _⟩ ?_
    clear sl5 sl7 sl8 sl10 sl11
    rintro m s wr ⟨k, v, rfl, hk, sl5, sl7, sl8, sl10, sl11, hO, hB⟩
    have hsr := hB.size
    have k8' := k8.at hB
    have k5' := k5.at hB
    have c81 := k8'.cell 1 rfl
    have j8 := k8'.1
    by_cases hlt : k < (day W till).2.jobs.length
    · obtain ⟨b2, o2, rfl, hb2, e1, e2, e3, e4, e5⟩ := RdSts.ne (Rd.at hq hB) hlt
      have x1 : (k : Int) < ((day W till).2.jobs.length : Int) := by omega
      have hwk : IntKind.i64.wrap ((k : Int) + 1) = (k : Int) + 1 := IntWalk.i64_in _ (by omega)
      have ho : wr.ownsRow wl.heap.size 3 1 v k (((charges (day W till).2).take k).flatMap fun n => [Value.int .i64 n]) := by
        have := hO.out; unfold OwnInts Own at this; rw [show ((charges (day W till).2).take k).length = k by simp [charges]; omega] at this; exact this
      have Hsn := hid (charges_snoc hlt)
      have hc3 : True := trivial
      repeat (first | ((first | (refine listF_step rfl (fun K' hK => ?_)) | (refine listF_yes rfl rfl (by decide) ?_ (fun K' hK => ?_); (focus (go_simp; done)))); unfold opF; go_simp; (refine hK _ _ ?_); clear hK K') | (refine listF_no (b' := true) rfl rfl (by decide) ?_ ?_ ?_; (focus (go_simp; done)); (focus rfl)) | (refine listF_no (b' := false) rfl rfl (by decide) ?_ ?_ ?_; (focus (go_simp; done)); (focus rfl)) | (refine listF_nu rfl rfl (by decide) ?_ ?_; (focus (go_simp; done))) | (refine listF_nil ?_) | (refine region_F ?_) | (refine cond_F true ?_ ?_; (focus (go_simp; done)); simp only [if_true]) | (refine cond_F false ?_ ?_; (focus (go_simp; done)); simp only [Bool.false_eq_true, if_false]) | (with_reducible go_step))
      refine listF_absw ?_
      intro wa hwa
      have kE : Cells wa wr.heap.size [.int .i64 (day W till).2.jobs[k].charge] := by rw [hwa]; exact Cells.new (cs := #[.int .i64 (day W till).2.jobs[k].charge]) rfl
      have hba : Below wr.heap.size wr wa := by rw [hwa]; exact (by repeat (first | (with_reducible exact Below.refl _ wr) | (with_reducible refine bdrewN ?_ _) | (with_reducible refine Below.drew ?_) | (with_reducible refine Below.setCell ?_ (by first | omega | (simp; done) | (simp; omega)) _) | (with_reducible refine Below.alloc ?_ (by first | omega | (simp; done) | (simp; omega)) _)))
      have hoa : wa.ownsRow wl.heap.size 3 1 v k (((charges (day W till).2).take k).flatMap fun n => [Value.int .i64 n]) := by rw [hwa]; exact ho.alloc _
      have hsa := hba.size
      clear hwa
      refine listF_step rfl (fun K' hK => ?_)
      refine opF_of_wp (d := 38) rfl (by decide) (fun K1 Q1 hK1 => wp_append_own _ _ _ 48 rfl wl.heap.size 3 i0 _ 1 8 Try.underlying48 hi0 hz0 hz1 hz2 rfl (by decide) v k _ (by rw [mkA_eval]; go_simp) hoa ⟨wr.heap.size, 0, none⟩ 1 1 [.int .i64 (day W till).2.jobs[k].charge] (by rw [mkA_eval]; go_simp) rfl kE.news (by simp [Value.oneCell']) (by unfold maxLen; omega) (by omega) (by omega) (fun v5 w6 ho5 hg5 _ => hK1 _ _ (hK _ _ ?_)))
      clear hK
      have hb6 : Below wl.heap.size wl w6 := (hB.trans (hba.mono hsr)).grown hg5 (by omega) (fun g hg => (World.ownsRow.lt hoa g hg).1)
      repeat (first | ((first | (refine listF_step rfl (fun K' hK => ?_)) | (refine listF_yes rfl rfl (by decide) ?_ (fun K' hK => ?_); (focus (go_simp; done)))); unfold opF; go_simp; (refine hK _ _ ?_); clear hK K') | (refine listF_no (b' := true) rfl rfl (by decide) ?_ ?_ ?_; (focus (go_simp; done)); (focus rfl)) | (refine listF_no (b' := false) rfl rfl (by decide) ?_ ?_ ?_; (focus (go_simp; done)); (focus rfl)) | (refine listF_nu rfl rfl (by decide) ?_ ?_; (focus (go_simp; done))) | (refine listF_nil ?_) | (refine region_F ?_) | (refine cond_F true ?_ ?_; (focus (go_simp; done)); simp only [if_true]) | (refine cond_F false ?_ ?_; (focus (go_simp; done)); simp only [Bool.false_eq_true, if_false]) | (with_reducible go_step))
      refine ⟨_, _, rfl, ?_, k + 1, v5, rfl, by omega, (by first | (go_simp; done) | exact sl5 | (simp only [updS_some, updS_none, Nat.reduceEqDiff, ↓reduceIte]; exact sl5)), (by first | (go_simp; done) | exact sl7 | (simp only [updS_some, updS_none, Nat.reduceEqDiff, ↓reduceIte]; exact sl7)), (by first | (go_simp; done) | exact sl8 | (simp only [updS_some, updS_none, Nat.reduceEqDiff, ↓reduceIte]; exact sl8)), by go_simp, by go_simp, hid ?_, hb6⟩
      · omega
      · rw [Hsn.out]
        refine Own.of (n := k + 1) (by simp [charges]; omega) ?_ ho5
        rw [List.flatMap_append]; rfl
    · have hkl : k = (day W till).2.jobs.length := by omega
      subst hkl
      have hOf := hO.out
      rw [List.take_of_length_le (by simp [charges])] at hOf
      obtain ⟨av, cv, rfl, hrd, hav⟩ := Own.slice (f := fun n : Int => [Value.int .i64 n]) (m := 1) (fun _ => rfl) hOf
      have hll : (day W till).1.length ≤ 1000000 := by have := Hsp.out.1; omega
      have hlr := Rd.at hl hB
      have d0 := k5'.cell 0 rfl
      have d1 := k5'.cell 1 rfl
      have d2 := k5'.cell 2 rfl
      have d3 := k5'.cell 3 rfl
      have dz := k5'.2.2
      have d5 := k5'.1
      clear hOf hO hk hlt
      repeat (first | ((first | (refine listF_step rfl (fun K' hK => ?_)) | (refine listF_yes rfl rfl (by decide) ?_ (fun K' hK => ?_); (focus (go_simp; done)))); unfold opF; go_simp; (refine hK _ _ ?_); clear hK K') | (refine listF_no (b' := true) rfl rfl (by decide) ?_ ?_ ?_; (focus (go_simp; done)); (focus rfl)) | (refine listF_no (b' := false) rfl rfl (by decide) ?_ ?_ ?_; (focus (go_simp; done)); (focus rfl)) | (refine listF_nu rfl rfl (by decide) ?_ ?_; (focus (go_simp; done))) | (refine listF_nil ?_) | (refine region_F ?_) | (refine cond_F true ?_ ?_; (focus (go_simp; done)); simp only [if_true]) | (refine cond_F false ?_ ?_; (focus (go_simp; done)); simp only [Bool.false_eq_true, if_false]) | (with_reducible go_step))
      (refine listF_step rfl (fun K' hK => ?_); unfold opF; go_simp; refine (rtotals_any a c (day W till).1 _ hlr hll (fun i hi => by have := Hsp.out.2 _ (List.getElem_mem hi); have := (Hok.out).2.2; omega)).mono ?_; rintro e w4 ⟨rfl, hb4⟩; refine ⟨_, rfl, hK _ _ ?_⟩; clear hK K')
      obtain ⟨hc4, hf4⟩ := bcell hb4
      have hs4 := hb4.size
      have d6 : w.heap.size + 1 < w4.heap.size := by omega
      repeat (first | ((first | (refine listF_step rfl (fun K' hK => ?_)) | (refine listF_yes rfl rfl (by decide) ?_ (fun K' hK => ?_); (focus (go_simp; done)))); unfold opF; go_simp; (refine hK _ _ ?_); clear hK K') | (refine listF_no (b' := true) rfl rfl (by decide) ?_ ?_ ?_; (focus (go_simp; done)); (focus rfl)) | (refine listF_no (b' := false) rfl rfl (by decide) ?_ ?_ ?_; (focus (go_simp; done)); (focus rfl)) | (refine listF_nu rfl rfl (by decide) ?_ ?_; (focus (go_simp; done))) | (refine listF_nil ?_) | (refine region_F ?_) | (refine cond_F true ?_ ?_; (focus (go_simp; done)); simp only [if_true]) | (refine cond_F false ?_ ?_; (focus (go_simp; done)); simp only [Bool.false_eq_true, if_false]) | (with_reducible go_step))
      refine ret_F (.tuple #[.slice av (charges (day W till).2).length cv, .agg #[.int .i64 (totals (day W till).1).run, .int .i64 (totals (day W till).1).lost, .int .i64 (totals (day W till).1).repair, .int .i64 (totals (day W till).1).idle], .int .i64 0]) (res_tct (ad := ⟨w.heap.size + 1, 0, none⟩) Try.results28 ((getD_F (by simp)).trans (by go_simp)) ((getD_F (by simp)).trans (by go_simp)) (load_tot (by go_simp) (by go_simp) (by go_simp) (by go_simp)) ((getD_F (by simp)).trans (by go_simp))) ?_
      have HB4 := hid ((HBl.out.trans (hB.mono HBl.out.size)).trans (hb4.mono (by have := HBl.out.size; omega)) : Below w.heap.size w w4)
      refine ⟨av, cv, by rw [Hb.out], ?_, (by repeat (first | (with_reducible exact HB4.out) | (with_reducible refine bdrewN ?_ _) | (with_reducible refine Below.drew ?_) | (with_reducible refine Below.setCell ?_ (by first | omega | (simp; done) | (simp; omega)) _) | (with_reducible refine Below.alloc ?_ (by first | omega | (simp; done) | (simp; omega)) _)))⟩
      rw [Hb.out]
      have hrd4 := Rd.at hrd hb4
      exact ((((Rd.setFar hrd4 (fun b hb => by have := hav b hb; omega)).setFar (fun b hb => by have := hav b hb; omega)).setFar (fun b hb => by have := hav b hb; omega)).setFar (fun b hb => by have := hav b hb; omega))
  · have he1 : (dayErr W till != 0) = true := by simp [he]
    have Hb := hid (show billRes W till = ([], Tot.zero, dayErr W till) by unfold billRes; rw [if_neg he])
    clear he
    repeat (first | ((first | (refine listF_step rfl (fun K' hK => ?_)) | (refine listF_yes rfl rfl (by decide) ?_ (fun K' hK => ?_); (focus (go_simp; done)))); unfold opF; go_simp; (refine hK _ _ ?_); clear hK K') | (refine listF_no (b' := true) rfl rfl (by decide) ?_ ?_ ?_; (focus (go_simp; done)); (focus rfl)) | (refine listF_no (b' := false) rfl rfl (by decide) ?_ ?_ ?_; (focus (go_simp; done)); (focus rfl)) | (refine listF_nu rfl rfl (by decide) ?_ ?_; (focus (go_simp; done))) | (refine listF_nil ?_) | (refine region_F ?_) | (refine cond_F true ?_ ?_; (focus (go_simp; done)); simp only [if_true]) | (refine cond_F false ?_ ?_; (focus (go_simp; done)); simp only [Bool.false_eq_true, if_false]) | (with_reducible go_step))
    refine ret_F (.tuple #[.slice none 0 0, .agg #[.int .i64 0, .int .i64 0, .int .i64 0, .int .i64 0], .int .i64 (dayErr W till)]) (res_tct (ad := ⟨w.heap.size + 1, 0, none⟩) Try.results28 ((getD_F (by simp)).trans (by go_simp)) ((getD_F (by simp)).trans (by go_simp)) (load_tot (by go_simp) (by go_simp) (by go_simp) (by go_simp)) ((getD_F (by simp)).trans (by go_simp))) ?_
    refine ⟨none, 0, by rw [Hb.out]; rfl, by rw [Hb.out]; exact .inl rfl, (by repeat (first | (with_reducible exact HB2.out) | (with_reducible refine bdrewN ?_ _) | (with_reducible refine Below.drew ?_) | (with_reducible refine Below.setCell ?_ (by first | omega | (simp; done) | (simp; omega)) _) | (with_reducible refine Below.alloc ?_ (by first | omega | (simp; done) | (simp; omega)) _)))⟩

set_option maxRecDepth 100000 in
set_option maxHeartbeats 2000000 in
theorem valid_any (W : Work) (aj af : Option Addr) (cj cf : Nat) (w : World) (hW : WorkIn w W aj af) :
    Calls Try.prog 37 #[.agg #[.int .i64 W.rules.slice, .int .i64 W.rules.load, .int .i64 W.rules.dump, .int .i64 W.rules.patience, .int .i64 W.rules.rate, .slice aj W.jobs.length cj, .slice af W.faults.length cf]] w fun e w' => e = .returned (.bool (W.err == 0)) ∧ Below w.heap.size w w' := by
  have HW := hid hW
  clear hW
  refine enter_F Try.func37 rfl Try.ntmps37 (by simp) ?_
  intro s hs
  have sl0 : s 0 = .agg #[.int .i64 W.rules.slice, .int .i64 W.rules.load, .int .i64 W.rules.dump, .int .i64 W.rules.patience, .int .i64 W.rules.rate, .slice aj W.jobs.length cj, .slice af W.faults.length cf] := hs 0 (by simp)
  clear hs
  repeat (first | ((first | (refine listF_step rfl (fun K' hK => ?_)) | (refine listF_yes rfl rfl (by decide) ?_ (fun K' hK => ?_); (focus (go_simp; done)))); unfold opF; go_simp; (refine hK _ _ ?_); clear hK K') | (refine listF_no (b' := true) rfl rfl (by decide) ?_ ?_ ?_; (focus (go_simp; done)); (focus rfl)) | (refine listF_no (b' := false) rfl rfl (by decide) ?_ ?_ ?_; (focus (go_simp; done)); (focus rfl)) | (refine listF_nu rfl rfl (by decide) ?_ ?_; (focus (go_simp; done))) | (refine listF_nil ?_) | (refine region_F ?_) | (refine cond_F true ?_ ?_; (focus (go_simp; done)); simp only [if_true]) | (refine cond_F false ?_ ?_; (focus (go_simp; done)); simp only [Bool.false_eq_true, if_false]) | (with_reducible go_step))
  (refine listF_step rfl (fun K' hK => ?_); unfold opF; go_simp; refine (rcheck_any W aj af cj cf _ (HW.out.at (by repeat (first | (with_reducible exact Below.refl _ w) | (with_reducible refine bdrewN ?_ _) | (with_reducible refine Below.drew ?_) | (with_reducible refine Below.setCell ?_ (by first | omega | (simp; done) | (simp; omega)) _) | (with_reducible refine Below.alloc ?_ (by first | omega | (simp; done) | (simp; omega)) _))))).mono ?_; rintro e w2 ⟨rfl, hb2⟩; refine ⟨_, rfl, hK _ _ ?_⟩; clear hK K')
  have HB2 := hid (Below.trans (by repeat (first | (with_reducible exact Below.refl _ w) | (with_reducible refine bdrewN ?_ _) | (with_reducible refine Below.drew ?_) | (with_reducible refine Below.setCell ?_ (by first | omega | (simp; done) | (simp; omega)) _) | (with_reducible refine Below.alloc ?_ (by first | omega | (simp; done) | (simp; omega)) _))) (hb2.mono (by first | omega | (simp; done) | (simp; omega))) : Below w.heap.size w w2)
  repeat (first | ((first | (refine listF_step rfl (fun K' hK => ?_)) | (refine listF_yes rfl rfl (by decide) ?_ (fun K' hK => ?_); (focus (go_simp; done)))); unfold opF; go_simp; (refine hK _ _ ?_); clear hK K') | (refine listF_no (b' := true) rfl rfl (by decide) ?_ ?_ ?_; (focus (go_simp; done)); (focus rfl)) | (refine listF_no (b' := false) rfl rfl (by decide) ?_ ?_ ?_; (focus (go_simp; done)); (focus rfl)) | (refine listF_nu rfl rfl (by decide) ?_ ?_; (focus (go_simp; done))) | (refine listF_nil ?_) | (refine region_F ?_) | (refine cond_F true ?_ ?_; (focus (go_simp; done)); simp only [if_true]) | (refine cond_F false ?_ ?_; (focus (go_simp; done)); simp only [Bool.false_eq_true, if_false]) | (with_reducible go_step))
  exact ret_F (.bool ((check W).2.2 == 0)) (res1_F Try.results37 (by decide) (by go_simp)) ⟨rfl, HB2.out⟩

end Go.Proofs.Ytbjgebbfachgfaa
