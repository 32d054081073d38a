/- The program's order: print. -/
import Derived.Test.YtleknidlgmmgbaaGreattsW12
import Derived.Test.YtleknidlgmmgbaaGreattsCY
import Derived.Test.YtleknidlgmmgbaaGreattsCZ
set_option linter.all false
set_option maxRecDepth 100000
set_option maxHeartbeats 4000000
namespace Go.Proofs.YtleknidlgmmgbaaGreat

section
open Go.RowKit

theorem ofrom_any (V G sc : Nat) (ta : Option Addr) (nt tc : Nat) (tk : Int) (qa : Option Addr) (np qc : Nat) (tm p dn wy op nx : Int) (f t : Nat) (st : List Int) (w : World) (hV : Cells w V (mC (some ⟨G, 0, none⟩) st.length sc ta nt tc tk qa np qc tm p dn wy op (f : Int) (t : Int) nx)) (hf : f < 128) (hst : Hid (st.length = 128)) :
    Calls Tryz.prog 119 #[.pointer (some ⟨V, 0, none⟩)] w (fun e w' => e = .returned (.pointer (some ⟨G, f, none⟩)) ∧ Below w.heap.size w w') := by
 have hst2 : st.length = 128 := hst.out
 have hfi : (f : Int) < st.length := by omega
 clear hst2; have kV := hV
 refine enter_F Tryz.func119 rfl Tryz.ntmps119 (by simp) ?_
 intro s0 hs; have sl0 : s0 0 = .pointer (some ⟨V, 0, none⟩) := hs 0 (by simp); clear hs; have HB := hid (OldB.refl [] w); have qV := kV.1
 refine nr ?_; intros; refine pl ?_; refine lx [] ?_; clear sl0; intro _ sl0; refine ln ?_; intros
 have cV := clx kV; refine rgQ 10 [?_,?_,?_,?_,?_,?_,?_,?_,?_,?_] ?walk6 ?dep6
 case walk6 =>
  iterate 10 refine rq ?_
  refine walkR_nil (fun X hX w2 hwz hcz => ?_); clear hX hcz
  (try clear X)
  skip; have hb := hwz.unDrew; clear hwz; clear cV; clear qV; revert HB; revert kV; refine uO hb ?_; clear hb; intro kV qV HB; refine P2 ?_; clear sl0; refine lx [2] ?_; intro _ sl2; refine ln ?_; intros
  refine ret_F _ (res_t Tryz.results119 ((getD_F (by decide)).trans sl2)) ?_; exact ⟨rfl, HB.out.toBelow⟩
 case dep6 => exact dA

theorem oto_any (V G sc : Nat) (ta : Option Addr) (nt tc : Nat) (tk : Int) (qa : Option Addr) (np qc : Nat) (tm p dn wy op nx : Int) (f t : Nat) (st : List Int) (w : World) (hV : Cells w V (mC (some ⟨G, 0, none⟩) st.length sc ta nt tc tk qa np qc tm p dn wy op (f : Int) (t : Int) nx)) (hf : t < 128) (hst : Hid (st.length = 128)) :
    Calls Tryz.prog 148 #[.pointer (some ⟨V, 0, none⟩)] w (fun e w' => e = .returned (.pointer (some ⟨G, t, none⟩)) ∧ Below w.heap.size w w') := by
 have hst2 : st.length = 128 := hst.out
 have hfi : (t : Int) < st.length := by omega
 clear hst2; have kV := hV
 refine enter_F Tryz.func148 rfl Tryz.ntmps148 (by simp) ?_
 intro s0 hs; have sl0 : s0 0 = .pointer (some ⟨V, 0, none⟩) := hs 0 (by simp); clear hs; have HB := hid (OldB.refl [] w); have qV := kV.1
 refine nr ?_; intros; refine pl ?_; refine lx [] ?_; clear sl0; intro _ sl0; refine ln ?_; intros
 have cV := clx kV; refine rgQ 10 [?_,?_,?_,?_,?_,?_,?_,?_,?_,?_] ?walk7 ?dep7
 case walk7 =>
  iterate 10 refine rq ?_
  refine walkR_nil (fun X hX w2 hwz hcz => ?_); clear hX hcz
  (try clear X)
  skip; have hb := hwz.unDrew; clear hwz; clear cV; clear qV; revert HB; revert kV; refine uO hb ?_; clear hb; intro kV qV HB; refine P2 ?_; clear sl0; refine lx [2] ?_; intro _ sl2; refine ln ?_; intros
  refine ret_F _ (res_t Tryz.results148 ((getD_F (by decide)).trans sl2)) ?_; exact ⟨rfl, HB.out.toBelow⟩
 case dep7 => exact dA

theorem XW14f {A B1 : Prop} (hX1 : B1) (e : B1 → A := by exact (oto_any V G sc ta nt tc tk qa np qc tm p dn wy op nx f t st _ kV ht hst).mono) : A := e hX1
theorem omove_any (V G sc : Nat) (ta : Option Addr) (nt tc : Nat) (tk : Int) (qa : Option Addr) (np qc : Nat) (tm p dn wy op nx : Int) (f t : Nat) (st : List Int) (w : World) (hV : Cells w V (mC (some ⟨G, 0, none⟩) st.length sc ta nt tc tk qa np qc tm p dn wy op (f : Int) (t : Int) nx)) (hVG : V ≠ G) (hG : Cells w G (st.flatMap int1)) (hst : Hid (st.length = 128)) (hf : f < 128) (ht : t < 128) (x y : Int) (hx : st.getD f 0 = x) (hy : st.getD t 0 = y) (hxb : 0 ≤ x ∧ x ≤ 16777215) (hyb : 0 ≤ y ∧ y ≤ 16777215) :
    Calls Tryz.prog 121 #[.pointer (some ⟨V, 0, none⟩)] w (fun e w' => e = .returned (.tuple #[]) ∧ Cells w' V (mC (some ⟨G, 0, none⟩) st.length sc ta nt tc tk qa np qc tm p dn wy op (f : Int) (t : Int) nx) ∧ Cells w' G ((st.set t (x)).flatMap int1) ∧ OldB [G] w w') := by
 have Hx := hid hx; have Hy := hid hy; clear hx hy
 have lf : f < st.length := by rw [hst.out]; omega
 have lt : t < st.length := by rw [hst.out]; omega
 have hfi : (f : Int) < st.length := by omega
 have hti : (t : Int) < st.length := by omega
 have hst2 : st.length ≤ 128 := by rw [hst.out]; omega
 have nVG : ¬ V = G := hVG
 have nGV : ¬ G = V := fun e => hVG e.symm
 have kV := hV; have kG := hG
 refine enter_F Tryz.func121 rfl Tryz.ntmps121 (by simp) ?_
 intro s0 hs; have sl0 : s0 0 = .pointer (some ⟨V, 0, none⟩) := hs 0 (by simp); clear hs; have HB := hid (OldB.refl [G] w); have qV := kV.1; have qG := kG.1
 refine nr ?_; intros; refine pl ?_; refine listF_step rfl (fun K' hK => ?_); unfold opF; go_simp; refine XW14f ?_; rintro e _ ⟨rfl, hb⟩; refine ⟨_, rfl, hK _ _ ?_⟩; clear hK K'; clear qV qG; revert HB; revert kG; revert kV; refine uA hb ?_; clear hb; intro kV qV kG qG HB; refine pl ?_; refine listF_step rfl (fun K' hK => ?_); unfold opF; go_simp; refine (ofrom_any V G sc ta nt tc tk qa np qc tm p dn wy op nx f t st _ kV hf hst).mono ?_; rintro e w3 ⟨rfl, hb⟩; refine ⟨_, rfl, hK _ _ ?_⟩; clear hK K'; clear qV qG; revert HB; revert kG; revert kV; refine uA hb ?_; clear hb; intro kV qV kG qG HB; refine pl ?_; have cgf := ints_cell kG lf; rw [← getD_get lf 0, Hx.out] at cgf; refine pl ?_; clear cgf; refine pl ?_; have zG := kG.2.2; have cgt := ints_cell kG lt; refine pl ?_; refine listF_absw ?_
 intro w5 hw'; have kG' := cells_of hw' (Cells.set (kG)); rw [ints_set] at kG'; clear cgt; have hb : OldB [G] w3 w5 := oldset hw'; clear hw'; clear zG; clear qV qG; replace kG := kG'; revert HB; revert kV; refine uO hb ?_; clear hb; intro kV qV HB; have qG := kG.1; clear kG'; clear sl0; refine lx [] ?_; intro _; refine ln ?_; intros
 refine norm_F _ (res_none Tryz.results121) ?_; exact ⟨rfl, kV, kG, HB.out⟩

theorem XW14b {A : Prop} (e : A := by
 obtain ⟨hcq, hfq⟩ := hwq.b0
 clear hrq; go_simp
 (with_reducible exact (oto_any V G sc ta nt tc tk qa np qc tm p dn wy op nx f t st _ (kV.oldB hwq.unDrew (by simp)) ht hst))) : A := e
theorem oadd_any (V G sc : Nat) (ta : Option Addr) (nt tc : Nat) (tk : Int) (qa : Option Addr) (np qc : Nat) (tm p dn wy op nx : Int) (f t : Nat) (st : List Int) (w : World) (hV : Cells w V (mC (some ⟨G, 0, none⟩) st.length sc ta nt tc tk qa np qc tm p dn wy op (f : Int) (t : Int) nx)) (hVG : V ≠ G) (hG : Cells w G (st.flatMap int1)) (hst : Hid (st.length = 128)) (hf : f < 128) (ht : t < 128) (x y : Int) (hx : st.getD f 0 = x) (hy : st.getD t 0 = y) (hxb : 0 ≤ x ∧ x ≤ 16777215) (hyb : 0 ≤ y ∧ y ≤ 16777215) :
    Calls Tryz.prog 122 #[.pointer (some ⟨V, 0, none⟩)] w (fun e w' => e = .returned (.tuple #[]) ∧ Cells w' V (mC (some ⟨G, 0, none⟩) st.length sc ta nt tc tk qa np qc tm p dn wy op (f : Int) (t : Int) nx) ∧ Cells w' G ((st.set t ((x + y) % 16777216)).flatMap int1) ∧ OldB [G] w w') := by
 have Hx := hid hx; have Hy := hid hy; clear hx hy
 have lf : f < st.length := by rw [hst.out]; omega
 have lt : t < st.length := by rw [hst.out]; omega
 have hfi : (f : Int) < st.length := by omega
 have hti : (t : Int) < st.length := by omega
 have hst2 : st.length ≤ 128 := by rw [hst.out]; omega
 have nVG : ¬ V = G := hVG
 have nGV : ¬ G = V := fun e => hVG e.symm
 have wa : IntKind.i64.wrap (y + x) = y + x := IntWalk.i64_in _ (by omega); have hb := i64_andW (y + x)
 have hc : (y + x) % 16777216 = (x + y) % 16777216 := by rw [Int.add_comm]
 rw [hc] at hb; clear hc; have kV := hV; have kG := hG
 refine enter_F Tryz.func122 rfl Tryz.ntmps122 (by simp) ?_
 intro s0 hs; have sl0 : s0 0 = .pointer (some ⟨V, 0, none⟩) := hs 0 (by simp); clear hs; have HB := hid (OldB.refl [G] w); have qV := kV.1; have qG := kG.1
 refine zx ?_; intros
 have cgf := ints_cell kG lf; have cgt := ints_cell kG lt; rw [← getD_get lf 0, Hx.out] at cgf; rw [← getD_get lt 0, Hy.out] at cgt; have cV := clx kV; refine rgQ 10 [?_,?_,?_,?_,?_,?_,?_,?_,?_,?_] ?walk8 ?dep8
 case walk8 =>
  refine rq ?_; refine walkR_q (by rfl) (fun X hX wq hwq hrq => ?_) ?_
  · exact XW14b
  refine rq ?_; refine walkR_q (by rfl) (fun X hX wq hwq hrq => ?_) ?_
  · exact XW14b
  iterate 3 refine rq ?_
  refine walkR_q (by rfl) (fun X hX wq hwq hrq => ?_) ?_
  · obtain ⟨hcq, hfq⟩ := hwq.b0
    clear hrq; go_simp
    (with_reducible exact (ofrom_any V G sc ta nt tc tk qa np qc tm p dn wy op nx f t st _ (kV.oldB hwq.unDrew (by simp)) hf hst))
  refine rq ?_; refine rq ?_; refine walkR_nil (fun X hX w1 hwz hcz => ?_); clear hX hcz
  (try clear X)
  skip; have hb2 := hwz.unDrew; clear hwz; clear cV; clear qV qG; revert HB; revert kG; revert kV; refine uO hb2 ?_; clear hb2; intro kV qV kG qG HB; clear cgf cgt
  refine P3 ?_
  have zG := kG.2.2; have cgt := ints_cell kG lt; refine pl ?_; refine listF_absw ?_; intro w3 hw'; have kG' := cells_of hw' (Cells.set (kG)); rw [ints_set] at kG'; clear cgt; have hb4 : OldB [G] w1 w3 := oldset hw'; clear hw'; clear zG; clear qV qG; replace kG := kG'; revert HB; revert kV; refine uO hb4 ?_; clear hb4; intro kV qV HB; have qG := kG.1; clear kG'; clear sl0; refine lx [] ?_; intro s5; refine ln ?_; intros
  refine norm_F _ (res_none Tryz.results122) ?_; exact ⟨rfl, kV, kG, HB.out⟩
 case dep8 => exact dA

theorem XW14c {A : Prop} (e : A := by
 obtain ⟨hcq, hfq⟩ := hwq.b0
 clear hrq; go_simp
 (with_reducible exact (oto_any V G sc ta nt tc tk qa np qc tm p dn wy op nx f t st _ (kV.oldB hwq.unDrew (by simp)) ht hst))) : A := e
theorem osub_any (V G sc : Nat) (ta : Option Addr) (nt tc : Nat) (tk : Int) (qa : Option Addr) (np qc : Nat) (tm p dn wy op nx : Int) (f t : Nat) (st : List Int) (w : World) (hV : Cells w V (mC (some ⟨G, 0, none⟩) st.length sc ta nt tc tk qa np qc tm p dn wy op (f : Int) (t : Int) nx)) (hVG : V ≠ G) (hG : Cells w G (st.flatMap int1)) (hst : Hid (st.length = 128)) (hf : f < 128) (ht : t < 128) (x y : Int) (hx : st.getD f 0 = x) (hy : st.getD t 0 = y) (hxb : 0 ≤ x ∧ x ≤ 16777215) (hyb : 0 ≤ y ∧ y ≤ 16777215) :
    Calls Tryz.prog 123 #[.pointer (some ⟨V, 0, none⟩)] w (fun e w' => e = .returned (.tuple #[]) ∧ Cells w' V (mC (some ⟨G, 0, none⟩) st.length sc ta nt tc tk qa np qc tm p dn wy op (f : Int) (t : Int) nx) ∧ Cells w' G ((st.set t ((y - x) % 16777216)).flatMap int1) ∧ OldB [G] w w') := by
 have Hx := hid hx; have Hy := hid hy; clear hx hy
 have lf : f < st.length := by rw [hst.out]; omega
 have lt : t < st.length := by rw [hst.out]; omega
 have hfi : (f : Int) < st.length := by omega
 have hti : (t : Int) < st.length := by omega
 have hst2 : st.length ≤ 128 := by rw [hst.out]; omega
 have nVG : ¬ V = G := hVG
 have nGV : ¬ G = V := fun e => hVG e.symm
 have wa : IntKind.i64.wrap (y - x) = y - x := IntWalk.i64_in _ (by omega); have hb := i64_andW (y - x); have kV := hV; have kG := hG
 refine enter_F Tryz.func123 rfl Tryz.ntmps123 (by simp) ?_
 intro s0 hs; have sl0 : s0 0 = .pointer (some ⟨V, 0, none⟩) := hs 0 (by simp); clear hs; have HB := hid (OldB.refl [G] w); have qV := kV.1; have qG := kG.1
 refine zx ?_; intros
 have cgf := ints_cell kG lf; have cgt := ints_cell kG lt; rw [← getD_get lf 0, Hx.out] at cgf; rw [← getD_get lt 0, Hy.out] at cgt; have cV := clx kV; refine rgQ 10 [?_,?_,?_,?_,?_,?_,?_,?_,?_,?_] ?walk9 ?dep9
 case walk9 =>
  refine rq ?_; refine walkR_q (by rfl) (fun X hX wq hwq hrq => ?_) ?_
  · exact XW14c
  refine rq ?_; refine walkR_q (by rfl) (fun X hX wq hwq hrq => ?_) ?_
  · exact XW14c
  iterate 3 refine rq ?_
  refine walkR_q (by rfl) (fun X hX wq hwq hrq => ?_) ?_
  · obtain ⟨hcq, hfq⟩ := hwq.b0
    clear hrq; go_simp
    (with_reducible exact (ofrom_any V G sc ta nt tc tk qa np qc tm p dn wy op nx f t st _ (kV.oldB hwq.unDrew (by simp)) hf hst))
  refine rq ?_; refine rq ?_; refine walkR_nil (fun X hX w1 hwz hcz => ?_); clear hX hcz
  (try clear X)
  skip; have hb2 := hwz.unDrew; clear hwz; clear cV; clear qV qG; revert HB; revert kG; revert kV; refine uO hb2 ?_; clear hb2; intro kV qV kG qG HB; clear cgf cgt
  refine P3 ?_
  have zG := kG.2.2; have cgt := ints_cell kG lt; refine pl ?_; refine listF_absw ?_; intro w3 hw'; have kG' := cells_of hw' (Cells.set (kG)); rw [ints_set] at kG'; clear cgt; have hb4 : OldB [G] w1 w3 := oldset hw'; clear hw'; clear zG; clear qV qG; replace kG := kG'; revert HB; revert kV; refine uO hb4 ?_; clear hb4; intro kV qV HB; have qG := kG.1; clear kG'; clear sl0; refine lx [] ?_; intro s5; refine ln ?_; intros
  refine norm_F _ (res_none Tryz.results123) ?_; exact ⟨rfl, kV, kG, HB.out⟩
 case dep9 => exact dA

theorem omul_any (V G sc : Nat) (ta : Option Addr) (nt tc : Nat) (tk : Int) (qa : Option Addr) (np qc : Nat) (tm p dn wy op nx : Int) (f t : Nat) (st : List Int) (w : World) (hV : Cells w V (mC (some ⟨G, 0, none⟩) st.length sc ta nt tc tk qa np qc tm p dn wy op (f : Int) (t : Int) nx)) (hVG : V ≠ G) (hG : Cells w G (st.flatMap int1)) (hst : Hid (st.length = 128)) (hf : f < 128) (ht : t < 128) (x y : Int) (hx : st.getD f 0 = x) (hy : st.getD t 0 = y) (hxb : 0 ≤ x ∧ x ≤ 16777215) (hyb : 0 ≤ y ∧ y ≤ 16777215) :
    Calls Tryz.prog 124 #[.pointer (some ⟨V, 0, none⟩)] w (fun e w' => e = .returned (.tuple #[]) ∧ Cells w' V (mC (some ⟨G, 0, none⟩) st.length sc ta nt tc tk qa np qc tm p dn wy op (f : Int) (t : Int) nx) ∧ Cells w' G ((st.set t (prodI x y)).flatMap int1) ∧ OldB [G] w w') := by
 have Hx := hid hx; have Hy := hid hy; clear hx hy
 have lf : f < st.length := by rw [hst.out]; omega
 have lt : t < st.length := by rw [hst.out]; omega
 have hfi : (f : Int) < st.length := by omega
 have hti : (t : Int) < st.length := by omega
 have hst2 : st.length ≤ 128 := by rw [hst.out]; omega
 have nVG : ¬ V = G := hVG
 have nGV : ¬ G = V := fun e => hVG e.symm
 have hs := sprod_bd hxb hyb; have wm : IntKind.i64.wrap (signI x * signI y) = signI x * signI y := IntWalk.i64_in _ (by omega); have hfd : (signI x * signI y).fdiv 8388608 = signI x * signI y / 8388608 := Int.fdiv_eq_ediv_of_nonneg _ (by decide); have hb : bits .and .i64 (signI x * signI y / 8388608) 16777215 = prodI x y := i64_andW _; clear hs; have kV := hV; have kG := hG
 refine enter_F Tryz.func124 rfl Tryz.ntmps124 (by simp) ?_
 intro s0 hs; have sl0 : s0 0 = .pointer (some ⟨V, 0, none⟩) := hs 0 (by simp); clear hs; have HB := hid (OldB.refl [G] w); have qV := kV.1; have qG := kG.1
 refine nr ?_; intros; refine pl ?_; refine listF_step rfl (fun K' hK => ?_); unfold opF; go_simp; refine XW14f ?_; rintro e w1 ⟨rfl, hb2⟩; refine ⟨_, rfl, hK _ _ ?_⟩; clear hK K'; clear qV qG; revert HB; revert kG; revert kV; refine uA hb2 ?_; clear hb2; intro kV qV kG qG HB; refine pl ?_; refine listF_step rfl (fun K' hK => ?_); unfold opF; go_simp; refine (ofrom_any V G sc ta nt tc tk qa np qc tm p dn wy op nx f t st _ kV hf hst).mono ?_; rintro e w3 ⟨rfl, hb4⟩; refine ⟨_, rfl, hK _ _ ?_⟩; clear hK K'; clear qV qG; revert HB; revert kG; revert kV; refine uA hb4 ?_; clear hb4; intro kV qV kG qG HB; refine pl ?_; have cgf := ints_cell kG lf; rw [← getD_get lf 0, Hx.out] at cgf; refine pl ?_; clear cgf; refine listF_step rfl (fun K' hK => ?_); unfold opF; go_simp; refine (signed_any x _ hxb).mono ?_; rintro e w' ⟨rfl, rfl⟩
 refine ⟨_, rfl, hK _ _ ?_⟩; clear hK K'; refine pl ?_; refine listF_step rfl (fun K' hK => ?_); unfold opF; go_simp; refine XW14f ?_; rintro e w6 ⟨rfl, hb7⟩; refine ⟨_, rfl, hK _ _ ?_⟩; clear hK K'; clear qV qG; revert HB; revert kG; revert kV; refine uA hb7 ?_; clear hb7; intro kV qV kG qG HB; refine pl ?_; have cgt := ints_cell kG lt; rw [← getD_get lt 0, Hy.out] at cgt; refine pl ?_; clear cgt; refine listF_step rfl (fun K' hK => ?_); unfold opF; go_simp; refine (signed_any y _ hyb).mono ?_; rintro e w' ⟨rfl, rfl⟩; refine ⟨_, rfl, hK _ _ ?_⟩; clear hK K'
 refine P4 ?_
 have zG := kG.2.2; have cgt := ints_cell kG lt; refine pl ?_; refine listF_absw ?_; intro w9 hw'; have kG' := cells_of hw' (Cells.set (kG)); rw [ints_set] at kG'; clear cgt; have hb10 : OldB [G] w6 w9 := oldset hw'; clear hw'; clear zG; clear qV qG; replace kG := kG'; revert HB; revert kV; refine uO hb10 ?_; clear hb10; intro kV qV HB; have qG := kG.1; clear kG'; clear sl0; refine lx [] ?_; intro s11; refine ln ?_; intros
 refine norm_F _ (res_none Tryz.results124) ?_; exact ⟨rfl, kV, kG, HB.out⟩

theorem oread_any (V G sc : Nat) (ta : Option Addr) (nt tc : Nat) (tk : Nat) (qa : Option Addr) (np qc : Nat) (tm p dn wy op nx : Int) (f t : Nat) (st : List Int) (w : World) (hV : Cells w V (mC (some ⟨G, 0, none⟩) st.length sc ta nt tc (tk : Int) qa np qc tm p dn wy op (f : Int) (t : Int) nx)) (hVG : V ≠ G) (hG : Cells w G (st.flatMap int1)) (hst : Hid (st.length = 128)) (tp : List Int) (hnt : nt = tp.length) (hf : f < 128) (ht : t < 128) (htk : tk < tp.length) (htl : tp.length ≤ 200) (x : Int) (hx : tp.getD tk 0 = x) (hRt : RdInts w ta tp) (htV : ∀ b, ta = some b → b.block ≠ V ∧ b.block ≠ G) :
    Calls Tryz.prog 125 #[.pointer (some ⟨V, 0, none⟩)] w (fun e w' => e = .returned (.tuple #[]) ∧ Cells w' V (mC (some ⟨G, 0, none⟩) st.length sc ta nt tc ((tk : Int) + 1) qa np qc tm p dn wy op (f : Int) (t : Int) nx) ∧ Cells w' G ((st.set t x).flatMap int1) ∧ OldB [V, G] w w') := by
 subst hnt; have Hx := hid hx; have HRt := hid hRt; clear hx hRt
 have lf : f < st.length := by rw [hst.out]; omega
 have lt : t < st.length := by rw [hst.out]; omega
 have hfi : (f : Int) < st.length := by omega
 have hti : (t : Int) < st.length := by omega
 have hst2 : st.length ≤ 128 := by rw [hst.out]; omega
 have nVG : ¬ V = G := hVG
 have nGV : ¬ G = V := fun e => hVG e.symm
 have hti2 : (tk : Int) < tp.length := by omega
 have wtk : IntKind.i64.wrap ((tk : Int) + 1) = tk + 1 := IntWalk.i64_in _ (by omega); obtain ⟨bt, ot, hat, hbt, c0⟩ := RdInts.ne HRt.out htk; subst hat; rw [← getD_get htk 0, Hx.out] at c0; have kV := hV; have kG := hG
 refine enter_F Tryz.func125 rfl Tryz.ntmps125 (by simp) ?_
 intro s0 hs; have sl0 : s0 0 = .pointer (some ⟨V, 0, none⟩) := hs 0 (by simp); clear hs; have HB := hid (OldB.refl [V, G] w); have qV := kV.1; have qG := kG.1
 refine zx ?_; intros
 have cV := clx kV; refine rgQ 14 [?_,?_,?_,?_,?_,?_,?_,?_,?_,?_,?_,?_,?_,?_] ?walk10 ?dep10
 case walk10 =>
  refine rq ?_; refine walkR_q (by rfl) (fun X hX wq hwq hrq => ?_) ?_
  · obtain ⟨hcq, hfq⟩ := hwq.b0
    clear hrq; go_simp
    (with_reducible exact (oto_any V G sc (some ⟨bt, ot, none⟩) tp.length tc (tk : Int) qa np qc tm p dn wy op nx f t st _ (kV.oldB hwq.unDrew (by simp)) ht hst))
  iterate 12 refine rq ?_
  refine walkR_nil (fun X hX w1 hwz hcz => ?_); clear hX hcz
  (try clear X)
  skip; have hb := hwz.unDrew; clear hwz; clear cV; clear qV qG; revert HB; revert kG; revert kV; refine uO hb ?_; clear hb; intro kV qV kG qG HB; clear c0; refine pl ?_; have zG := kG.2.2; have cgt := ints_cell kG lt; refine pl ?_; refine listF_absw ?_; intro w3 hw'; have kG' := cells_of hw' (Cells.set (kG)); rw [ints_set] at kG'; clear cgt; have hb : OldB [G] w1 w3 := oldset hw'; clear hw'; clear zG; clear qV qG; replace kG := kG'; revert HB; revert kV; refine uO hb ?_; clear hb; intro kV qV HB; have qG := kG.1; clear kG'; refine lx [] ?_; clear sl0; intro _ sl0; refine lr ?_; intros
  refine P4 ?_
  have cV := clx kV
  refine P5 ?_
  have zV := kV.2.2; refine pl ?_; refine sto kV ?_; clear kV cV zV; intro _ kV hb; clear qV qG; revert HB; revert kG; refine uO hb ?_; clear hb; intro kG qG HB; have qV := kV.1; clear sl0; refine lx [] ?_; intro _; refine ln ?_; intros
  refine norm_F _ (res_none Tryz.results125) ?_; exact ⟨rfl, kV, kG, HB.out⟩
 case dep10 => exact dA
end

section
open Go.RowKit


theorem Own.setOff {α : Type} {f : α → List Value} {m : Nat} {T : TypeId} {base X o : Nat} {w : World} {v : Value} {l : List α} (h : Own f m T base w v l) (hn : v.ownBlock ≠ some X) (u : Value) : Own f m T base (w.setCell ⟨X, o, none⟩ u) v l :=
  h.kept fun g hg => Below.heap_setCell w _ u g (fun e => hn (by rw [hg]; exact congrArg some e))

theorem XW14d {A : Prop} (e : A := by
 rintro LJ sJ wJ hL hd ⟨kB0, kC0, kB1, kO0, kLow, kSz, kFl, kFa, kOX, kZ15_5, kZ15_7, hs0, hv0, hv1, hv2, hv3, hv4, hv5, hv6, hv7, hv8, hv9, hv12, hv13, hv14, kP0, kW10, kW11, kEP0_W10, kEW10_W11⟩ K hK
 clear hd; rw [if_pos (by rfl)]; unfold opF; go_simp
 refine hK _ _ ⟨?_, ?_, ?_, ?_, ?_, ?_, ?_, ?_, ?_, ?_, ?_, ?_, ?_, ?_, ?_, ?_, ?_, ?_, ?_, ?_, ?_, ?_, ?_, ?_, ?_, ?_, ?_, ?_, ?_, ?_⟩ <;> first | assumption | (simp [upd, updS]; done) | (simp [upd, updS]; assumption)) : A := e
theorem XW14e {A : Prop} (e : A := by first | omega | (simp; done) | (simp; omega) | (have := hG.size; omega)) : A := e
theorem oprint_any (N : Nat) (pr : List Int) (V G sc : Nat) (ta : Option Addr) (nt tc : Nat) (tk : Int) (qa : Option Addr) (qc : Nat) (tm p dn wy op nx : Int) (f t : Nat) (st : List Int) (w : World) (hV : Cells w V (mC (some ⟨G, 0, none⟩) st.length sc ta nt tc tk qa pr.length qc tm p dn wy op (f : Int) (t : Int) nx)) (hVG : V ≠ G) (hG : Cells w G (st.flatMap int1)) (hst : Hid (st.length = 128)) (hP : Own int1 1 3 N w (Value.slice qa pr.length qc) pr) (hPV : (Value.slice qa pr.length qc).ownBlock ≠ some V) (hPG : (Value.slice qa pr.length qc).ownBlock ≠ some G) (hNV : N ≤ V) (hNG : N ≤ G) (hNw : N ≤ w.heap.size) (hpl : pr.length ≤ 1000) (hf : f < 128) (x : Int) (hx : st.getD f 0 = x) :
    Calls Tryz.prog 126 #[.pointer (some ⟨V, 0, none⟩)] w (fun e w' => ∃ ax cx, e = .returned (.tuple #[]) ∧ Cells w' V (mC (some ⟨G, 0, none⟩) st.length sc ta nt tc tk ax (pr ++ [x]).length cx tm p dn wy op (f : Int) (t : Int) nx) ∧ Cells w' G (st.flatMap int1) ∧ Own int1 1 3 N w' (.slice ax (pr ++ [x]).length cx) (pr ++ [x]) ∧ (Value.slice ax (pr ++ [x]).length cx).ownBlock ≠ some V ∧ (Value.slice ax (pr ++ [x]).length cx).ownBlock ≠ some G ∧ (∀ c, (Value.slice ax (pr ++ [x]).length cx).ownBlock = some c → (Value.slice qa pr.length qc).ownBlock = some c ∨ w.heap.size ≤ c) ∧ OldB (V :: (Value.slice qa pr.length qc).ownBlock.toList) w w') := by
 have Hx := hid hx; clear hx
 have lf : f < st.length := by rw [hst.out]; omega
 have nVG : ¬ V = G := hVG
 have nGV : ¬ G = V := fun e => hVG e.symm
 have hVs := hV.1; have hGs := hG.1; have hP0 : Own int1 1 3 N w.drew (Value.slice qa pr.length qc) pr := hP; obtain ⟨i0, hi0, hz0, hy0, hx0⟩ := info_parts info_int; have kV := hV; have kG := hG
 refine enter_F Tryz.func126 rfl Tryz.ntmps126 (by simp) ?_
 intro s0 hs; have sl0 : s0 0 = .pointer (some ⟨V, 0, none⟩) := hs 0 (by simp); clear hs; have HB := hid (OldB.refl [] w); have qV := kV.1; have qG := kG.1
 refine zx ?_; intros
 clear qV qG; skip; have hlw := Below.refl N w; have Hnv := hid hPV; have Hng := hid hPG; refine cut_any (fun sJ wJ => ∃ ax cx, Cells wJ V (mC (some ⟨G, 0, none⟩) st.length sc ta nt tc tk ax (pr ++ [x]).length cx tm p dn wy op (f : Int) (t : Int) nx) ∧ Cells wJ G (st.flatMap int1) ∧ Own int1 1 3 N wJ (.slice ax (pr ++ [x]).length cx) (pr ++ [x]) ∧ (Value.slice ax (pr ++ [x]).length cx).ownBlock ≠ some V ∧ (Value.slice ax (pr ++ [x]).length cx).ownBlock ≠ some G ∧ (∀ c, (Value.slice ax (pr ++ [x]).length cx).ownBlock = some c → (Value.slice qa pr.length qc).ownBlock = some c ∨ w.heap.size ≤ c) ∧ OldB (V :: (Value.slice qa pr.length qc).ownBlock.toList) w wJ) ?_ ?_
 · refine regionI_F (fun (LJ : Nat → Bool) (sJ : Nat → Value) (wJ : World) => (LJ 15 = false → Cells wJ V [Value.slice (some ⟨G, 0, none⟩) st.length sc, Value.slice ta nt tc, .int .i64 tk, (Value.slice qa pr.length qc), .int .i64 tm, .int .i64 p, .int .i64 dn, .int .i64 wy, .int .i64 op, .int .i64 (f : Int), .int .i64 (t : Int), .int .i64 nx]) ∧ (LJ 15 = true → Cells wJ V [Value.slice (some ⟨G, 0, none⟩) st.length sc, Value.slice ta nt tc, .int .i64 tk, sJ 13, .int .i64 tm, .int .i64 p, .int .i64 dn, .int .i64 wy, .int .i64 op, .int .i64 (f : Int), .int .i64 (t : Int), .int .i64 nx]) ∧ Cells wJ G (st.flatMap int1) ∧ (LJ 15 = true → LJ 11 = true) ∧ Below N w wJ ∧ N ≤ wJ.heap.size ∧ (LJ 10 = true → (sJ 12).ownBlock ≠ some V) ∧ (LJ 11 = true → (sJ 13).ownBlock ≠ some V ∧ (sJ 13).ownBlock ≠ some G ∧ ∀ c, (sJ 13).ownBlock = some c → (Value.slice qa pr.length qc).ownBlock = some c ∨ w.heap.size ≤ c) ∧ OldB (V :: (Value.slice qa pr.length qc).ownBlock.toList) w wJ ∧ (LJ 15 = true → LJ 5 = true) ∧ (LJ 15 = true → LJ 7 = true) ∧ sJ 0 = .pointer (some ⟨V, 0, none⟩) ∧ (LJ 0 = true → sJ 2 = .pointer (some ⟨V, 0, none⟩)) ∧ (LJ 1 = true → sJ 3 = .pointer (some ⟨V, 0, none⟩)) ∧ (LJ 2 = true → sJ 4 = .pointer (some ⟨V, 0, none⟩)) ∧ (LJ 3 = true → sJ 5 = .pointer (some ⟨V, 0, none⟩)) ∧ (LJ 4 = true → sJ 6 = .pointer (some ⟨V, 3, none⟩)) ∧ (LJ 5 = true → sJ 7 = (Value.slice qa pr.length qc)) ∧ (LJ 6 = true → sJ 8 = .pointer (some ⟨V, 0, none⟩)) ∧ (LJ 7 = true → sJ 9 = .pointer (some ⟨G, f, none⟩)) ∧ (LJ 8 = true → sJ 10 = .pointer (some ⟨G, f, none⟩)) ∧ (LJ 9 = true → sJ 11 = .int .i64 x) ∧ (LJ 12 = true → sJ 14 = .pointer (some ⟨V, 0, none⟩)) ∧ (LJ 13 = true → sJ 15 = .pointer (some ⟨V, 0, none⟩)) ∧ (LJ 14 = true → sJ 16 = .pointer (some ⟨V, 3, none⟩)) ∧ (LJ 11 = false → Own int1 1 3 N wJ (Value.slice qa pr.length qc) pr) ∧ (LJ 10 = true → Own int1 1 3 N wJ (sJ 12) [x]) ∧ (LJ 11 = true → Own int1 1 3 N wJ (sJ 13) (pr ++ [x])) ∧ (LJ 11 = false → LJ 10 = true → Apart (Value.slice qa pr.length qc) (sJ 12)) ∧ (LJ 10 = true → LJ 11 = true → Apart (sJ 12) (sJ 13))) (by kernel_rfl) (by kernel_rfl) (by kernel_rfl) ?_ ?_ ⟨?_, ?_, ?_, ?_, ?_, ?_, ?_, ?_, ?_, ?_, ?_, ?_, ?_, ?_, ?_, ?_, trivial⟩
   · refine ⟨fun _ => (by repeat (first | (with_reducible exact kV) | (with_reducible refine Cells.drew ?_) | (with_reducible refine Cells.up ?_ _) | (with_reducible refine Cells.setFar ?_ (by omega)))), (by simp), (by repeat (first | (with_reducible exact kG) | (with_reducible refine Cells.drew ?_) | (with_reducible refine Cells.up ?_ _) | (with_reducible refine Cells.setFar ?_ (by omega)))), (by simp), (by repeat (first | (with_reducible exact hlw) | (with_reducible refine bdrewN ?_ _) | (with_reducible refine Below.drew ?_) | (with_reducible refine Below.setCell ?_ (by first | omega | (simp; done) | (simp; omega)) _) | (with_reducible refine Below.alloc ?_ (by first | omega | (simp; done) | (simp; omega)) _))), (by first | omega | (simp; done) | (simp; omega)), ((fun h => by simp at h)), ((fun h => by simp at h)), ((OldB.drewN (OldB.refl _ _))), (by simp), (by simp), ?_, (by simp), (by simp), (by simp), (by simp), (by simp), (by simp), (by simp), (by simp), (by simp), (by simp), (by simp), (by simp), (by simp), (fun _ => hP0), (by simp), (by simp), (by simp), (by simp)⟩
     · go_simp
   · rintro sJ wJ ⟨kB0, kC0, kB1, kO0, kLow, kSz, kFl, kFa, kOX, kZ15_5, kZ15_7, hs0, hv0, hv1, hv2, hv3, hv4, hv5, hv6, hv7, hv8, hv9, hv12, hv13, hv14, kP0, kW10, kW11, kEP0_W10, kEW10_W11⟩
     replace kB0 := kC0 (by simp); clear kC0; clear kO0; clear kZ15_5; clear kZ15_7; replace hv0 := hv0 (by simp); replace hv1 := hv1 (by simp); replace hv2 := hv2 (by simp); replace hv3 := hv3 (by simp); replace hv4 := hv4 (by simp); replace hv5 := hv5 (by simp); replace hv6 := hv6 (by simp); replace hv7 := hv7 (by simp); replace hv8 := hv8 (by simp); replace hv9 := hv9 (by simp); replace hv12 := hv12 (by simp); replace hv13 := hv13 (by simp); replace hv14 := hv14 (by simp); clear kP0; replace kW10 := kW10 (by simp); replace kW11 := kW11 (by simp); clear kEP0_W10; replace kEW10_W11 := kEW10_W11 (by simp) (by simp); have hfa := kFa (by simp); obtain ⟨ax, cx, hvx, _, _⟩ := Own.slice (f := int1) (m := 1) (fun _ => rfl) kW11; rw [hvx] at kW11 hfa kB0; exact ⟨trv, _, rfl, ax, cx, kB0, kB1, kW11, hfa.1, hfa.2.1, hfa.2.2, kOX⟩
   · exact XW14d
   · exact XW14d
   · rintro LJ sJ wJ hL hd ⟨kB0, kC0, kB1, kO0, kLow, kSz, kFl, kFa, kOX, kZ15_5, kZ15_7, hs0, hv0, hv1, hv2, hv3, hv4, hv5, hv6, hv7, hv8, hv9, hv12, hv13, hv14, kP0, kW10, kW11, kEP0_W10, kEW10_W11⟩ K hK
     have ga1 := hd ⟨1, .data⟩ (by simp) rfl; have gv1 := hv1 ga1; clear hd; rw [if_pos (by rfl)]; unfold opF; go_simp
     refine hK _ _ ⟨?_, ?_, ?_, ?_, ?_, ?_, ?_, ?_, ?_, ?_, ?_, ?_, ?_, ?_, ?_, ?_, ?_, ?_, ?_, ?_, ?_, ?_, ?_, ?_, ?_, ?_, ?_, ?_, ?_, ?_⟩ <;> first | assumption | (simp [upd, updS]; done) | (simp [upd, updS]; assumption)
   · rintro LJ sJ wJ hL hd ⟨kB0, kC0, kB1, kO0, kLow, kSz, kFl, kFa, kOX, kZ15_5, kZ15_7, hs0, hv0, hv1, hv2, hv3, hv4, hv5, hv6, hv7, hv8, hv9, hv12, hv13, hv14, kP0, kW10, kW11, kEP0_W10, kEW10_W11⟩ K hK
     have ga2 := hd ⟨2, .data⟩ (by simp) rfl; have gv2 := hv2 ga2; clear hd; rw [if_pos (by rfl)]; unfold opF; go_simp
     refine hK _ _ ⟨?_, ?_, ?_, ?_, ?_, ?_, ?_, ?_, ?_, ?_, ?_, ?_, ?_, ?_, ?_, ?_, ?_, ?_, ?_, ?_, ?_, ?_, ?_, ?_, ?_, ?_, ?_, ?_, ?_, ?_⟩ <;> first | assumption | (simp [upd, updS]; done) | (simp [upd, updS]; assumption)
   · rintro LJ sJ wJ hL hd ⟨kB0, kC0, kB1, kO0, kLow, kSz, kFl, kFa, kOX, kZ15_5, kZ15_7, hs0, hv0, hv1, hv2, hv3, hv4, hv5, hv6, hv7, hv8, hv9, hv12, hv13, hv14, kP0, kW10, kW11, kEP0_W10, kEW10_W11⟩ K hK
     have ga3 := hd ⟨3, .data⟩ (by simp) rfl; have gv3 := hv3 ga3; clear hd; rw [if_pos (by rfl)]; unfold opF; go_simp
     refine hK _ _ ⟨?_, ?_, ?_, ?_, ?_, ?_, ?_, ?_, ?_, ?_, ?_, ?_, ?_, ?_, ?_, ?_, ?_, ?_, ?_, ?_, ?_, ?_, ?_, ?_, ?_, ?_, ?_, ?_, ?_, ?_⟩ <;> first | assumption | (simp [upd, updS]; done) | (simp [upd, updS]; assumption)
   · rintro LJ sJ wJ hL hd ⟨kB0, kC0, kB1, kO0, kLow, kSz, kFl, kFa, kOX, kZ15_5, kZ15_7, hs0, hv0, hv1, hv2, hv3, hv4, hv5, hv6, hv7, hv8, hv9, hv12, hv13, hv14, kP0, kW10, kW11, kEP0_W10, kEW10_W11⟩ K hK
     have ga4 := hd ⟨4, .data⟩ (by simp) rfl; have gv4 := hv4 ga4; clear hd; rw [if_pos (by rfl)]; unfold opF; have kN0 := kB0 (by cases hh : LJ 15 with | false => rfl | true => exact absurd (kZ15_5 hh) (by rw [hL]; decide)); obtain ⟨cc0_0, cc0_1, cc0_2, cc0_3, cc0_4, cc0_5, cc0_6, cc0_7, cc0_8, cc0_9, cc0_10, cc0_11⟩ := cl12 kN0; have ccs0 := kN0.1; go_simp
     refine hK _ _ ⟨?_, ?_, ?_, ?_, ?_, ?_, ?_, ?_, ?_, ?_, ?_, ?_, ?_, ?_, ?_, ?_, ?_, ?_, ?_, ?_, ?_, ?_, ?_, ?_, ?_, ?_, ?_, ?_, ?_, ?_⟩ <;> first | assumption | (simp [upd, updS]; done) | (simp [upd, updS]; assumption)
   · exact XW14d
   · rintro LJ sJ wJ hL hd ⟨kB0, kC0, kB1, kO0, kLow, kSz, kFl, kFa, kOX, kZ15_5, kZ15_7, hs0, hv0, hv1, hv2, hv3, hv4, hv5, hv6, hv7, hv8, hv9, hv12, hv13, hv14, kP0, kW10, kW11, kEP0_W10, kEW10_W11⟩ K hK
     have ga6 := hd ⟨6, .data⟩ (by simp) rfl; have gv6 := hv6 ga6; clear hd; rw [if_pos (by rfl)]; have kN0 := kB0 (by cases hh : LJ 15 with | false => rfl | true => exact absurd (kZ15_7 hh) (by rw [hL]; decide)); unfold opF; go_simp; refine (ofrom_any V G sc ta nt tc tk qa pr.length qc tm p dn wy op nx f t st _ kN0 hf hst).mono ?_; rintro e wN ⟨rfl, hbN⟩; have hsN := hbN.size; exact ⟨_, rfl, hK _ _ ⟨(fun h => by have h := (by simpa [upd] using h : LJ 15 = false); exact Cells.at (kB0 h) hbN), (fun h => by have h := (by simpa [upd] using h : LJ 15 = true); refine Cells.at ?_ hbN; simpa [updS] using kC0 h), (Cells.at (kB1) hbN), (by simpa [upd] using kO0), (kLow.trans (hbN.mono kSz)), XW14e, ((fun h => by simpa [upd, updS] using kFl (by simpa [upd] using h))), ((fun h => by simpa [upd, updS] using kFa (by simpa [upd] using h))), ((OldB.below kOX hbN)), (by simpa [upd] using kZ15_5), (by simp [upd]), (by simpa [upd, updS] using hs0), (by simpa [upd, updS] using hv0), (by simpa [upd, updS] using hv1), (by simpa [upd, updS] using hv2), (by simpa [upd, updS] using hv3), (by simpa [upd, updS] using hv4), (by simpa [upd, updS] using hv5), (by simpa [upd, updS] using hv6), (by simp [upd, updS]), (by simpa [upd, updS] using hv8), (by simpa [upd, updS] using hv9), (by simpa [upd, updS] using hv12), (by simpa [upd, updS] using hv13), (by simpa [upd, updS] using hv14), (fun h1 => by have h1 := (by simpa [upd] using h1 : LJ 11 = false); simpa [updS] using Own.at (kP0 h1) hbN), (fun h1 => by have h1 := (by simpa [upd] using h1 : LJ 10 = true); simpa [updS] using Own.at (kW10 h1) hbN), (fun h1 => by have h1 := (by simpa [upd] using h1 : LJ 11 = true); simpa [updS] using Own.at (kW11 h1) hbN), (fun h1 h2 => by have h1 := (by simpa [upd] using h1 : LJ 11 = false); have h2 := (by simpa [upd] using h2 : LJ 10 = true); simpa [updS] using kEP0_W10 h1 h2), (fun h1 h2 => by have h1 := (by simpa [upd] using h1 : LJ 10 = true); have h2 := (by simpa [upd] using h2 : LJ 11 = true); simpa [updS] using kEW10_W11 h1 h2)⟩⟩
   · rintro LJ sJ wJ hL hd ⟨kB0, kC0, kB1, kO0, kLow, kSz, kFl, kFa, kOX, kZ15_5, kZ15_7, hs0, hv0, hv1, hv2, hv3, hv4, hv5, hv6, hv7, hv8, hv9, hv12, hv13, hv14, kP0, kW10, kW11, kEP0_W10, kEW10_W11⟩ K hK
     have ga7 := hd ⟨7, .data⟩ (by simp) rfl; have gv7 := hv7 ga7; clear hd; rw [if_pos (by rfl)]; unfold opF; go_simp
     refine hK _ _ ⟨?_, ?_, ?_, ?_, ?_, ?_, ?_, ?_, ?_, ?_, ?_, ?_, ?_, ?_, ?_, ?_, ?_, ?_, ?_, ?_, ?_, ?_, ?_, ?_, ?_, ?_, ?_, ?_, ?_, ?_⟩ <;> first | assumption | (simp [upd, updS]; done) | (simp [upd, updS]; assumption)
   · rintro LJ sJ wJ hL hd ⟨kB0, kC0, kB1, kO0, kLow, kSz, kFl, kFa, kOX, kZ15_5, kZ15_7, hs0, hv0, hv1, hv2, hv3, hv4, hv5, hv6, hv7, hv8, hv9, hv12, hv13, hv14, kP0, kW10, kW11, kEP0_W10, kEW10_W11⟩ K hK
     have ga8 := hd ⟨8, .data⟩ (by simp) rfl; have gv8 := hv8 ga8; clear hd; rw [if_pos (by rfl)]; unfold opF; have cgf := ints_cell kB1 lf; rw [← getD_get lf 0, Hx.out] at cgf; go_simp
     refine hK _ _ ⟨?_, ?_, ?_, ?_, ?_, ?_, ?_, ?_, ?_, ?_, ?_, ?_, ?_, ?_, ?_, ?_, ?_, ?_, ?_, ?_, ?_, ?_, ?_, ?_, ?_, ?_, ?_, ?_, ?_, ?_⟩ <;> first | assumption | (simp [upd, updS]; done) | (simp [upd, updS]; assumption)
   · rintro LJ sJ wJ hL hd ⟨kB0, kC0, kB1, kO0, kLow, kSz, kFl, kFa, kOX, kZ15_5, kZ15_7, hs0, hv0, hv1, hv2, hv3, hv4, hv5, hv6, hv7, hv8, hv9, hv12, hv13, hv14, kP0, kW10, kW11, kEP0_W10, kEW10_W11⟩ K hK
     have ga9 := hd ⟨9, .data⟩ (by simp) rfl; have gv9 := hv9 ga9; clear hd; rw [if_pos (by rfl)]; unfold opF; go_simp; exact hK _ _ ⟨(fun h => by have h := (by simpa [upd] using h : LJ 15 = false); exact Cells.up (kB0 h) _), (fun h => by have h := (by simpa [upd] using h : LJ 15 = true); refine Cells.up ?_ _; simpa [updS] using kC0 h), (Cells.up (kB1) _), (by simpa [upd] using kO0), (kLow.alloc (by omega) _), XW14e, ((fun _ => by have hz := kB1.1; have hv := hVs; simp only [updS_some, ↓reduceIte]; intro e; simp [Value.ownBlock] at e; have hs := kOX.size; omega)), ((fun h => by simpa [upd, updS] using kFa (by simpa [upd] using h))), ((OldB.below kOX (below_alloc1 _ _))), (by simpa [upd] using kZ15_5), (by simpa [upd] using kZ15_7), (by simpa [upd, updS] using hs0), (by simpa [upd, updS] using hv0), (by simpa [upd, updS] using hv1), (by simpa [upd, updS] using hv2), (by simpa [upd, updS] using hv3), (by simpa [upd, updS] using hv4), (by simpa [upd, updS] using hv5), (by simpa [upd, updS] using hv6), (by simpa [upd, updS] using hv7), (by simpa [upd, updS] using hv8), (by simpa [upd, updS] using hv9), (by simpa [upd, updS] using hv12), (by simpa [upd, updS] using hv13), (by simpa [upd, updS] using hv14), (fun h1 => by have h1 := (by simpa [upd] using h1 : LJ 11 = false); simpa [updS] using Own.alloc (kP0 h1) _), (fun _ => by first | exact Own.lit (by omega) (by unfold maxLen; simp) (by rfl) (fun _ => rfl) | (simp only [updS_some, ↓reduceIte]; exact Own.lit (by omega) (by unfold maxLen; simp) (by rfl) (fun _ => rfl)) | (simpa [updS] using Own.lit (by omega) (by unfold maxLen; simp) (by rfl) (fun _ => rfl))), (fun h1 => by have h1 := (by simpa [upd] using h1 : LJ 11 = true); simpa [updS] using Own.alloc (kW11 h1) _), (fun h1 h2 => by have h1 := (by simpa [upd] using h1 : LJ 11 = false); simpa [updS] using Apart.new (kP0 h1) _ _), (fun h1 h2 => by have h2 := (by simpa [upd] using h2 : LJ 11 = true); simpa [updS] using (Apart.new (kW11 h2) _ _).symm)⟩
   · rintro LJ sJ wJ hL hd ⟨kB0, kC0, kB1, kO0, kLow, kSz, kFl, kFa, kOX, kZ15_5, kZ15_7, hs0, hv0, hv1, hv2, hv3, hv4, hv5, hv6, hv7, hv8, hv9, hv12, hv13, hv14, kP0, kW10, kW11, kEP0_W10, kEW10_W11⟩ K hK
     have ga5 := hd ⟨5, .data⟩ (by simp) rfl; have gv5 := hv5 ga5; have ga10 := hd ⟨10, .data⟩ (by simp) rfl; have ga7 := hd ⟨7, .chain⟩ (by simp) rfl; have gv7 := hv7 ga7; clear hd; rw [if_pos (by rfl)]; have hcj : LJ 11 = false := hL; have kWx := kP0 hcj; have kWy := kW10 ga10; obtain ⟨ay, cy, hvy, hry, hny⟩ := Own.slice (f := int1) (m := 1) (fun _ => rfl) kWy; refine opF_app (d := 13) rfl (by decide) (.tmp 7) (.tmp 12) _ rfl 3 i0 _ 8 Tryz.underlying22 hi0 hz0 hy0 hx0 rfl (by decide) (fun _ => rfl) int_one N (Value.slice qa pr.length qc) pr [x] ay cy (by go_simp) (by simpa using hvy) kWx hry (by simp; unfold maxLen; omega) (by simp; omega) (by omega) (fun v' w' hO hG hV => ?_); exact hK _ _ ⟨(fun h => by have h := (by simpa [upd] using h : LJ 15 = false); exact Cells.grown (kB0 h) hG Hnv.out), (fun h => by have h := (by simpa [upd] using h : LJ 15 = true); exact absurd (kO0 h) (by rw [hL]; decide)), (Cells.grown (kB1) hG Hng.out), (by simp [upd]), (low_grown kLow hG (by omega) (fun k hk => by have := (World.ownsRow.lt kWx k hk).1; omega)), XW14e, ((fun h => by simpa [upd, updS] using kFl (by simpa [upd] using h))), ((fun _ => by have hs := kOX.size; simp only [updS_some, ↓reduceIte]; rcases hV with e | e <;> rw [e]; exact ⟨Hnv.out, Hng.out, fun c h => .inl h⟩; exact ⟨fun e2 => by have := Option.some.inj e2; omega, fun e2 => by have := Option.some.inj e2; omega, fun c h => .inr (by have := Option.some.inj h; omega)⟩)), ((OldB.grown kOX hG (fun k hk => .inr (by simp [hk])))), (by simpa [upd] using kZ15_5), (by simpa [upd] using kZ15_7), (by simpa [upd, updS] using hs0), (by simpa [upd, updS] using hv0), (by simpa [upd, updS] using hv1), (by simpa [upd, updS] using hv2), (by simpa [upd, updS] using hv3), (by simpa [upd, updS] using hv4), (by simpa [upd, updS] using hv5), (by simpa [upd, updS] using hv6), (by simpa [upd, updS] using hv7), (by simpa [upd, updS] using hv8), (by simpa [upd, updS] using hv9), (by simpa [upd, updS] using hv12), (by simpa [upd, updS] using hv13), (by simpa [upd, updS] using hv14), (fun h1 => by simp [upd] at h1), (fun h1 => by have h1 := (by simpa [upd] using h1 : LJ 10 = true); simpa [updS] using Own.grown (kW10 h1) hG (kEP0_W10 hcj h1).symm), (fun _ => by first | exact hO | (simp only [updS_some, ↓reduceIte]; exact hO) | (simpa [updS] using hO)), (fun h1 h2 => by simp [upd] at h1), (fun h1 h2 => by have h1 := (by simpa [upd] using h1 : LJ 10 = true); simpa [updS] using Apart.app (kW10 h1) (kEP0_W10 hcj h1).symm hV)⟩
   · rintro LJ sJ wJ hL hd ⟨kB0, kC0, kB1, kO0, kLow, kSz, kFl, kFa, kOX, kZ15_5, kZ15_7, hs0, hv0, hv1, hv2, hv3, hv4, hv5, hv6, hv7, hv8, hv9, hv12, hv13, hv14, kP0, kW10, kW11, kEP0_W10, kEW10_W11⟩ K hK
     have ga0 := hd ⟨0, .data⟩ (by simp) rfl; have gv0 := hv0 ga0; have ga0 := hd ⟨0, .phase⟩ (by simp) rfl; have gv0 := hv0 ga0; clear hd; rw [if_pos (by rfl)]; unfold opF; go_simp
     refine hK _ _ ⟨?_, ?_, ?_, ?_, ?_, ?_, ?_, ?_, ?_, ?_, ?_, ?_, ?_, ?_, ?_, ?_, ?_, ?_, ?_, ?_, ?_, ?_, ?_, ?_, ?_, ?_, ?_, ?_, ?_, ?_⟩ <;> first | assumption | (simp [upd, updS]; done) | (simp [upd, updS]; assumption)
   · rintro LJ sJ wJ hL hd ⟨kB0, kC0, kB1, kO0, kLow, kSz, kFl, kFa, kOX, kZ15_5, kZ15_7, hs0, hv0, hv1, hv2, hv3, hv4, hv5, hv6, hv7, hv8, hv9, hv12, hv13, hv14, kP0, kW10, kW11, kEP0_W10, kEW10_W11⟩ K hK
     have ga12 := hd ⟨12, .data⟩ (by simp) rfl; have gv12 := hv12 ga12; clear hd; rw [if_pos (by rfl)]; unfold opF; go_simp
     refine hK _ _ ⟨?_, ?_, ?_, ?_, ?_, ?_, ?_, ?_, ?_, ?_, ?_, ?_, ?_, ?_, ?_, ?_, ?_, ?_, ?_, ?_, ?_, ?_, ?_, ?_, ?_, ?_, ?_, ?_, ?_, ?_⟩ <;> first | assumption | (simp [upd, updS]; done) | (simp [upd, updS]; assumption)
   · rintro LJ sJ wJ hL hd ⟨kB0, kC0, kB1, kO0, kLow, kSz, kFl, kFa, kOX, kZ15_5, kZ15_7, hs0, hv0, hv1, hv2, hv3, hv4, hv5, hv6, hv7, hv8, hv9, hv12, hv13, hv14, kP0, kW10, kW11, kEP0_W10, kEW10_W11⟩ K hK
     have ga13 := hd ⟨13, .data⟩ (by simp) rfl; have gv13 := hv13 ga13; clear hd; rw [if_pos (by rfl)]; unfold opF; go_simp
     refine hK _ _ ⟨?_, ?_, ?_, ?_, ?_, ?_, ?_, ?_, ?_, ?_, ?_, ?_, ?_, ?_, ?_, ?_, ?_, ?_, ?_, ?_, ?_, ?_, ?_, ?_, ?_, ?_, ?_, ?_, ?_, ?_⟩ <;> first | assumption | (simp [upd, updS]; done) | (simp [upd, updS]; assumption)
   · rintro LJ sJ wJ hL hd ⟨kB0, kC0, kB1, kO0, kLow, kSz, kFl, kFa, kOX, kZ15_5, kZ15_7, hs0, hv0, hv1, hv2, hv3, hv4, hv5, hv6, hv7, hv8, hv9, hv12, hv13, hv14, kP0, kW10, kW11, kEP0_W10, kEW10_W11⟩ K hK
     have ga14 := hd ⟨14, .data⟩ (by simp) rfl; have gv14 := hv14 ga14; have ga11 := hd ⟨11, .data⟩ (by simp) rfl; have ga11 := hd ⟨11, .chain⟩ (by simp) rfl; have ga5 := hd ⟨5, .phase⟩ (by simp) rfl; have ga7 := hd ⟨7, .phase⟩ (by simp) rfl; have ga11 := hd ⟨11, .phase⟩ (by simp) rfl; clear hd; rw [if_pos (by rfl)]; have kWs := kW11 (by first | assumption | exact ga11)
     obtain ⟨ay, cy, hvy, _, _⟩ := Own.slice (f := int1) (m := 1) (fun _ => rfl) kWs; have kN0 := kB0 hL; obtain ⟨cc0_0, cc0_1, cc0_2, cc0_3, cc0_4, cc0_5, cc0_6, cc0_7, cc0_8, cc0_9, cc0_10, cc0_11⟩ := cl12 kN0; have ccs := kN0.1; have ccz := kN0.2.2; have Hvy := hid hvy; unfold opF; go_simp; exact hK undef _ ⟨(by simp [upd]), (fun _ => by show Cells _ V [Value.slice (some ⟨G, 0, none⟩) st.length sc, Value.slice ta nt tc, .int .i64 tk, sJ 13, .int .i64 tm, .int .i64 p, .int .i64 dn, .int .i64 wy, .int .i64 op, .int .i64 (f : Int), .int .i64 (t : Int), .int .i64 nx]; rw [Hvy.out]; have hz := kN0.set (i := 3) (u := Value.slice ay ((pr ++ [x])).length cy); first | exact hz | simpa using hz), (Cells.setFar (kB1) (by omega)), (by simp [upd]; exact ga11), (kLow.setCell (by first | omega | (simp; omega)) _), XW14e, ((fun h => by simpa [upd, updS] using kFl (by simpa [upd] using h))), ((fun h => by simpa [upd, updS] using kFa (by simpa [upd] using h))), ((OldB.set kOX (by simp))), (by simp [upd]; exact ga5), (by simp [upd]; exact ga7), (by simpa [upd, updS] using hs0), (by simpa [upd, updS] using hv0), (by simpa [upd, updS] using hv1), (by simpa [upd, updS] using hv2), (by simpa [upd, updS] using hv3), (by simpa [upd, updS] using hv4), (by simpa [upd, updS] using hv5), (by simpa [upd, updS] using hv6), (by simpa [upd, updS] using hv7), (by simpa [upd, updS] using hv8), (by simpa [upd, updS] using hv9), (by simpa [upd, updS] using hv12), (by simpa [upd, updS] using hv13), (by simpa [upd, updS] using hv14), (fun h1 => by have h1 := (by simpa [upd] using h1 : LJ 11 = false); simpa [updS] using Own.setOff (kP0 h1) Hnv.out _), (fun h1 => by have h1 := (by simpa [upd] using h1 : LJ 10 = true); simpa [updS] using Own.setOff (kW10 h1) (kFl (by assumption)) _), (fun h1 => by have h1 := (by simpa [upd] using h1 : LJ 11 = true); simpa [updS] using Own.setOff (kW11 h1) (kFa (by assumption)).1 _), (fun h1 h2 => by have h1 := (by simpa [upd] using h1 : LJ 11 = false); have h2 := (by simpa [upd] using h2 : LJ 10 = true); simpa [updS] using kEP0_W10 h1 h2), (fun h1 h2 => by have h1 := (by simpa [upd] using h1 : LJ 10 = true); have h2 := (by simpa [upd] using h2 : LJ 11 = true); simpa [updS] using kEW10_W11 h1 h2)⟩
 rintro sM0 w1 ⟨ax, cx, kV9, kG9, hO9, hv9, hg9, hc9, ho9⟩; clear kV kG; have HB := hid (OldB.refl [] w1); clear sl0
 refine zx ?_; intros
 refine norm_F _ (res_none Tryz.results126) ?_; exact ⟨ax, cx, rfl, kV9, kG9, hO9, hv9, hg9, hc9, ho9⟩
end


end Go.Proofs.YtleknidlgmmgbaaGreat
