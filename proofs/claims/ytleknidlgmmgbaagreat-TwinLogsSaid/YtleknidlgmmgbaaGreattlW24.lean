/- The program: seal, Seal. -/
import Derived.Test.YtleknidlgmmgbaaGreattlW23
set_option linter.all false
namespace Go.Proofs.YtleknidlgmmgbaaGreat

open Go.RowKit


theorem sealF_snoc (n : Int) (l : List Int) (x : Int) : sealF n (l ++ [x]) = (sealF n l * 1009 + x) % 16777259 := by unfold sealF; rw [List.foldl_append]; rfl
theorem sealF_bd {n : Int} (hn : 0 ≤ n ∧ n < 16777259) (l : List Int) : 0 ≤ sealF n l ∧ sealF n l < 16777259 := by
  unfold sealF
  induction l generalizing n with
  | nil => exact hn
  | cons x l ih => exact ih (n := (n * 1009 + x) % 16777259) (by omega)
theorem sealL_in {s : St4} (hO : OkI s) : ∀ x ∈ sealL s, 0 ≤ x ∧ x ≤ 16777215 := by
  intro x hx; unfold sealL at hx; have h1 := hO.tk; have h2 := hO.l1; have h3 := hO.l2; have h4 := hO.wy
  simp only [List.mem_append, List.mem_cons, List.not_mem_nil, or_false] at hx
  rcases hx with ((h | h | h) | h) | h
  · exact hO.w0 x h
  · omega
  · omega
  · exact hO.w2 x h
  · omega
theorem sealL_len {s : St4} (hO : OkI s) : (sealL s).length ≤ 400 := by
  have h0 := hO.l0; have h3 := hO.l2; unfold sealL; simp; omega
theorem concat_seal (s : St4) (A : SA) (B15 B20 B21 : Nat) (w : World) (hR : RdSt w s A) (hO : OkI s) (h15 : Cells w B15 [.int .i64 s.taken, .int .i64 (s.printed.length : Int)]) (h20 : Cells w B20 [.int .i64 s.why])
    (h21 : Cells w B21 [.slice A.sa s.store.length A.sc, .slice (some ⟨B15, 0, none⟩) 2 2, .slice A.pa s.printed.length A.pc, .slice (some ⟨B20, 0, none⟩) 1 1]) :
    Calls Tryz.prog 104 #[.slice (some ⟨B21, 0, none⟩) 4 4] w (fun e w' => ∃ v, e = .returned v ∧ Own int1 1 3 w.heap.size w' v (sealL s) ∧ Below w.heap.size w w') := by
  have hc : catL [⟨A.sa, A.sc, s.store⟩, ⟨some ⟨B15, 0, none⟩, 2, [s.taken, (s.printed.length : Int)]⟩, ⟨A.pa, A.pc, s.printed⟩, ⟨some ⟨B20, 0, none⟩, 1, [s.why]⟩] 4 = sealL s := by simp [catL, sealL]
  have h := concat_any (some ⟨B21, 0, none⟩) 4 [⟨A.sa, A.sc, s.store⟩, ⟨some ⟨B15, 0, none⟩, 2, [s.taken, (s.printed.length : Int)]⟩, ⟨A.pa, A.pc, s.printed⟩, ⟨some ⟨B20, 0, none⟩, 1, [s.why]⟩] w
    (Cells.rd (f := SlI.cs) (m := 1) (l := [⟨A.sa, A.sc, s.store⟩, ⟨some ⟨B15, 0, none⟩, 2, [s.taken, (s.printed.length : Int)]⟩, ⟨A.pa, A.pc, s.printed⟩, ⟨some ⟨B20, 0, none⟩, 1, [s.why]⟩]) (fun _ => rfl) h21)
    (by
      intro x hx
      simp only [List.mem_cons, List.not_mem_nil, or_false] at hx
      rcases hx with rfl | rfl | rfl | rfl
      · exact hR.st
      · exact Cells.rd (f := int1) (m := 1) (l := [s.taken, (s.printed.length : Int)]) (fun _ => rfl) h15
      · exact hR.pr
      · exact Cells.rd (f := int1) (m := 1) (l := [s.why]) (fun _ => rfl) h20)
    (by show (catL _ 4).length ≤ 1000; rw [hc]; have := sealL_len hO; omega) (by simp)
  have e4 : ([⟨A.sa, A.sc, s.store⟩, ⟨some ⟨B15, 0, none⟩, 2, [s.taken, (s.printed.length : Int)]⟩, ⟨A.pa, A.pc, s.printed⟩, ⟨some ⟨B20, 0, none⟩, 1, [s.why]⟩] : List SlI).length = 4 := rfl; rw [e4, hc] at h; exact h

set_option maxRecDepth 100000 in
set_option maxHeartbeats 8000000 in
theorem seal_any (s : St4) (A : SA) (w : World) (hR : RdSt w s A) (hO : OkI s) :
    Calls Tryz.prog 76 #[sV s A] w (fun e w' => e = .returned (.int .i64 (sealI' s)) ∧ Below w.heap.size w w') := by
 have HR := hid hR; have HO := hid hO; clear hR hO; have hp := HO.out.pc; have hln := sealL_len HO.out
 refine enter_F Tryz.func76 rfl Tryz.ntmps76 (by simp) ?_
 intro s0 hs; have Z0 : s0 0 = .agg #[.slice A.sa s.store.length A.sc, .slice A.ta s.tape.length A.tc, .int .i64 s.taken, .slice A.pa s.printed.length A.pc, .int .i64 s.time, .int .i64 s.pc, .int .i64 s.done, .int .i64 s.why] := hs 0 (by simp); clear hs; have HB := hid (OldB.refl [] w)
 refine nr ?_; intros; refine pa (fun w1 B1 hB Y1 hb => ?_); have gb1 := HB.out.gB hB; have eb1 := eB hB; clear hB; replace HB := bE HB hb; clear hb; have Q1 := Y1.1; refine pl ?_; clear Z0; refine lx [1] ?_; intro _ Z1; refine lr ?_; intros; refine pl ?_; have cb1 := clx Y1; refine P2 ?_; refine lx [3] ?_; clear Z1; intro _ Z1 Z3; refine lr ?_; intros
 refine P7 ?_
 refine pas (fun _ B15 hB Y15 hb => ?_); have gb15 := HB.out.gB hB; have ob1_b15 := oB Q1 hB; have eb15 := eB hB; clear hB; clear cb1; clear Q1; revert Y1 HB; refine uA hb ?_; clear hb; intro Y1 Q1 HB; have Q15 := Y15.1; refine pl ?_; have cb1 := clx Y1
 refine P3 ?_
 refine pas (fun _ B20 hB Y20 hb => ?_); have gb20 := HB.out.gB hB; have ob1_b20 := oB Q1 hB; have ob15_b20 := oB Q15 hB; have eb20 := eB hB; clear hB; clear cb1; clear Q1 Q15; revert Y15 Y1 HB; refine uA hb ?_; clear hb; intro Y15 Q15 Y1 Q1 HB; have Q20 := Y20.1; refine pas (fun _ B21 hB Y21 hb => ?_); have gb21 := HB.out.gB hB; have ob1_b21 := oB Q1 hB; have ob15_b21 := oB Q15 hB; have ob20_b21 := oB Q20 hB; have eb21 := eB hB; clear hB; clear Q1 Q15 Q20; revert Y20 Y15 Y1 HB; refine uA hb ?_; clear hb; intro Y20 Q20 Y15 Q15 Y1 Q1 HB; have Q21 := Y21.1; refine cal (concat_seal s A B15 B20 B21 _ (HR.out.old HB.out) HO.out Y15 Y20 Y21) ?_; rintro e w11 ⟨v22, rfl, hO22, hb⟩
 obtain ⟨a22, c22, rfl, hr22, -⟩ := Own.slice (f := int1) (m := 1) (fun _ => rfl) hO22; clear hO22; refine ⟨_, rfl, ?_⟩; clear Q1 Q15 Q20 Q21; revert HB; revert Y21; revert Y20; revert Y15; revert Y1; refine uA hb ?_; clear hb; intro Y1 Q1 Y15 Q15 Y20 Q20 Y21 Q21 HB; refine P2 ?_; clear Z1; refine lx [22,23,24] ?_; clear Z3; intro s13 Z3 Z22 Z23 Z24; refine ln ?_; intros
 have hc0_22 := hid Z22; have hc0_23 := hid Z23; refine loop_F (n := 35) (fun kJ sJ wJ => ∃ (i : Nat), kJ = (sealL s).length - i ∧ sJ 3 = .int .i64 (sealF s.pc ((sealL s).take i)) ∧ sJ 24 = .int .i64 (i : Int) ∧ sJ 22 = s13 22 ∧ sJ 23 = s13 23 ∧ OldB [] w11 wJ ∧ i ≤ (sealL s).length) ⟨0, rfl, (by rw [Z3]; rfl), (by first | exact Z24 | (rw [Z24]; go_num) | (rw [Z24]; rfl)), rfl, rfl, OldB.refl _ _, Nat.zero_le _⟩ ?_; clear Z3 Z24; rintro kJ s14 w15 ⟨i, rfl, Z3, Z24, e22, e23, hb, hil⟩; rw [← e22] at Z22; clear e22; rw [← e23] at Z23; clear e23; have hoJ := hb; clear Q1 Q15 Q20 Q21; replace hr22 := Rd.oldB hr22 hb (by simp); revert Y1 Y15 Y20 Y21 HB; refine uO hb ?_; clear hb; intro Y1 Q1 Y15 Q15 Y20 Q20 Y21 Q21 HB; have HoJ := hid hoJ; clear hoJ; have HL17 := HoJ; clear HoJ
 refine nr ?_; intros; refine pl ?_; refine lx [25] ?_; clear Z3 Z22 Z23 Z24; intro _ Z3 Z22 Z23 Z24 Z25; refine ln ?_; intros
 refine cond_E Z25 (by decide) ?_ ?_ <;> (clear Z25; intro h25 Z25)
 ·skip
  have hi : i < (sealL s).length := by simpa using h25
  have hii : (i : Int) < (sealL s).length := by omega
  obtain ⟨bx, ox, hax, hbx, cx⟩ := RdInts.ne hr22 hi; subst hax; obtain ⟨y, hy⟩ : ∃ y, (sealL s)[i] = y := ⟨_, rfl⟩; have hyb := sealL_in HO.out y (by rw [← hy]; exact List.getElem_mem hi); rw [hy] at cx; obtain ⟨m, hm⟩ : ∃ m, sealF s.pc ((sealL s).take i) = m := ⟨_, rfl⟩; have hmb := sealF_bd (n := s.pc) (by omega) ((sealL s).take i); have Hn := hid (show sealF s.pc ((sealL s).take (i + 1)) = (m * 1009 + y) % 16777259 by rw [List.take_succ_eq_append_getElem hi, sealF_snoc, hy, hm]); rw [hm] at hmb Z3; clear hm hy; have w1 : IntKind.i64.wrap (m * 1009) = m * 1009 := IntWalk.i64_in _ (by omega); have w2 : IntKind.i64.wrap (m * 1009 + y) = m * 1009 + y := IntWalk.i64_in _ (by omega); have e1 : (m * 1009 + y).tmod 16777259 = (m * 1009 + y) % 16777259 := Int.tmod_eq_emod_of_nonneg (by omega); have w3 : IntKind.i64.wrap ((m * 1009 + y) % 16777259) = (m * 1009 + y) % 16777259 := IntWalk.i64_in _ (by omega)
  refine nr ?_; intros
  refine P3 ?_
  clear Z25; refine lx [5] ?_; clear Z3 Z22 Z23 Z24; intro _ Z3 Z22 Z23 Z24 Z5; refine lr ?_; intros
  refine P6 ?_
  clear Z3 Z5; refine lx [3] ?_; clear Z22 Z23 Z24; intro _ Z22 Z23 Z24 Z3; refine lr ?_; intros; refine P2 ?_; clear Z24; refine lx [24] ?_; clear Z3 Z22 Z23; intro _ Z3 Z22 Z23 Z24; refine ln ?_; intros
  refine ⟨_, _, rfl, ?_, i + 1, rfl, (by rw [Z3, Hn.out]), (rL Z24), sh, sh, HL17.out, by omega⟩
  omega
 ·skip
  have hi : i = (sealL s).length := by have h := h25; simp at h; omega
  have Hf := hid (show sealF s.pc ((sealL s).take i) = sealI' s by rw [hi, List.take_length]; rfl); rw [Hf.out] at Z3
  refine zx ?_; intros
  clear HL17; clear hc0_22 hc0_23; refine region_F ?_; refine P2 ?_; clear Z3 Z22 Z23 Z24 Z25; refine lx [2] ?_; intro _ Z2; refine ln ?_; intros
  refine ret_F _ (res_t Tryz.results76 ((getD_F (by decide)).trans Z2)) ?_; exact ⟨rfl, HB.out.toBelow⟩

end Go.Proofs.YtleknidlgmmgbaaGreat
