/- The program's order: what the orders do. -/
import Derived.Test.YtleknidlgmmgbaaGreatteW12
import Derived.Test.YtleknidlgmmgbaaGreatteCZ
set_option linter.all false
set_option maxRecDepth 100000
set_option maxHeartbeats 4000000
namespace Go.Proofs.YtleknidlgmmgbaaGreat

open Go.RowKit

theorem ofrom_any (V G sc : Nat) (ta : Option Addr) (nt tc : Nat) (tk : Int) (qa : Option Addr) (np qc : Nat) (tm p dn wy op nx : Int) (f t : Nat) (st : List Int) (w : World) (hV : Cells w V (mC (some ⟨G, 0, none⟩) st.length sc ta nt tc tk qa np qc tm p dn wy op (f : Int) (t : Int) nx)) (hf : f < 128) (hst : Hid (st.length = 128)) :
    Calls Tryz.prog 119 #[.pointer (some ⟨V, 0, none⟩)] w (fun e w' => e = .returned (.pointer (some ⟨G, f, none⟩)) ∧ Below w.heap.size w w') := by
 have hst2 : st.length = 128 := hst.out
 have hfi : (f : Int) < st.length := by omega
 clear hst2; have kV := hV
 refine enter_F Tryz.func119 rfl Tryz.ntmps119 (by simp) ?_
 intro s0 hs; have sl0 : s0 0 = .pointer (some ⟨V, 0, none⟩) := hs 0 (by simp); clear hs; have HB := hid (OldB.refl [] w); have qV := kV.1
 refine nr ?_; intros; refine pl ?_; refine lx [] ?_; clear sl0; intro _ sl0; refine ln ?_; intros
 have cV := clx kV; refine rgQ 10 [?_,?_,?_,?_,?_,?_,?_,?_,?_,?_] ?walk6 ?dep6
 case walk6 =>
  iterate 10 refine rq ?_
  refine walkR_nil (fun X hX w2 hwz hcz => ?_); clear hX hcz
  (try clear X)
  skip; have hb := hwz.unDrew; clear hwz; clear cV; clear qV; revert HB; revert kV; refine uO hb ?_; clear hb; intro kV qV HB; refine P2 ?_; clear sl0; refine lx [2] ?_; intro _ sl2; refine ln ?_; intros
  refine ret_F _ (res_t Tryz.results119 ((getD_F (by decide)).trans sl2)) ?_; exact ⟨rfl, HB.out.toBelow⟩
 case dep6 => exact dA

theorem oto_any (V G sc : Nat) (ta : Option Addr) (nt tc : Nat) (tk : Int) (qa : Option Addr) (np qc : Nat) (tm p dn wy op nx : Int) (f t : Nat) (st : List Int) (w : World) (hV : Cells w V (mC (some ⟨G, 0, none⟩) st.length sc ta nt tc tk qa np qc tm p dn wy op (f : Int) (t : Int) nx)) (hf : t < 128) (hst : Hid (st.length = 128)) :
    Calls Tryz.prog 148 #[.pointer (some ⟨V, 0, none⟩)] w (fun e w' => e = .returned (.pointer (some ⟨G, t, none⟩)) ∧ Below w.heap.size w w') := by
 have hst2 : st.length = 128 := hst.out
 have hfi : (t : Int) < st.length := by omega
 clear hst2; have kV := hV
 refine enter_F Tryz.func148 rfl Tryz.ntmps148 (by simp) ?_
 intro s0 hs; have sl0 : s0 0 = .pointer (some ⟨V, 0, none⟩) := hs 0 (by simp); clear hs; have HB := hid (OldB.refl [] w); have qV := kV.1
 refine nr ?_; intros; refine pl ?_; refine lx [] ?_; clear sl0; intro _ sl0; refine ln ?_; intros
 have cV := clx kV; refine rgQ 10 [?_,?_,?_,?_,?_,?_,?_,?_,?_,?_] ?walk7 ?dep7
 case walk7 =>
  iterate 10 refine rq ?_
  refine walkR_nil (fun X hX w2 hwz hcz => ?_); clear hX hcz
  (try clear X)
  skip; have hb := hwz.unDrew; clear hwz; clear cV; clear qV; revert HB; revert kV; refine uO hb ?_; clear hb; intro kV qV HB; refine P2 ?_; clear sl0; refine lx [2] ?_; intro _ sl2; refine ln ?_; intros
  refine ret_F _ (res_t Tryz.results148 ((getD_F (by decide)).trans sl2)) ?_; exact ⟨rfl, HB.out.toBelow⟩
 case dep7 => exact dA

theorem XW13d {A B1 : Prop} (hX1 : B1) (e : B1 → A := by exact (oto_any V G sc ta nt tc tk qa np qc tm p dn wy op nx f t st _ kV ht hst).mono) : A := e hX1
theorem omove_any (V G sc : Nat) (ta : Option Addr) (nt tc : Nat) (tk : Int) (qa : Option Addr) (np qc : Nat) (tm p dn wy op nx : Int) (f t : Nat) (st : List Int) (w : World) (hV : Cells w V (mC (some ⟨G, 0, none⟩) st.length sc ta nt tc tk qa np qc tm p dn wy op (f : Int) (t : Int) nx)) (hVG : V ≠ G) (hG : Cells w G (st.flatMap int1)) (hst : Hid (st.length = 128)) (hf : f < 128) (ht : t < 128) (x y : Int) (hx : st.getD f 0 = x) (hy : st.getD t 0 = y) (hxb : 0 ≤ x ∧ x ≤ 16777215) (hyb : 0 ≤ y ∧ y ≤ 16777215) :
    Calls Tryz.prog 121 #[.pointer (some ⟨V, 0, none⟩)] w (fun e w' => e = .returned (.tuple #[]) ∧ Cells w' V (mC (some ⟨G, 0, none⟩) st.length sc ta nt tc tk qa np qc tm p dn wy op (f : Int) (t : Int) nx) ∧ Cells w' G ((st.set t (x)).flatMap int1) ∧ OldB [G] w w') := by
 have Hx := hid hx; have Hy := hid hy; clear hx hy
 have lf : f < st.length := by rw [hst.out]; omega
 have lt : t < st.length := by rw [hst.out]; omega
 have hfi : (f : Int) < st.length := by omega
 have hti : (t : Int) < st.length := by omega
 have hst2 : st.length ≤ 128 := by rw [hst.out]; omega
 have nVG : ¬ V = G := hVG
 have nGV : ¬ G = V := fun e => hVG e.symm
 have kV := hV; have kG := hG
 refine enter_F Tryz.func121 rfl Tryz.ntmps121 (by simp) ?_
 intro s0 hs; have sl0 : s0 0 = .pointer (some ⟨V, 0, none⟩) := hs 0 (by simp); clear hs; have HB := hid (OldB.refl [G] w); have qV := kV.1; have qG := kG.1
 refine nr ?_; intros; refine pl ?_; refine listF_step rfl (fun K' hK => ?_); unfold opF; go_simp; refine XW13d ?_; rintro e _ ⟨rfl, hb⟩; refine ⟨_, rfl, hK _ _ ?_⟩; clear hK K'; clear qV qG; revert HB; revert kG; revert kV; refine uA hb ?_; clear hb; intro kV qV kG qG HB; refine pl ?_; refine listF_step rfl (fun K' hK => ?_); unfold opF; go_simp; refine (ofrom_any V G sc ta nt tc tk qa np qc tm p dn wy op nx f t st _ kV hf hst).mono ?_; rintro e w3 ⟨rfl, hb⟩; refine ⟨_, rfl, hK _ _ ?_⟩; clear hK K'; clear qV qG; revert HB; revert kG; revert kV; refine uA hb ?_; clear hb; intro kV qV kG qG HB; refine pl ?_; have cgf := ints_cell kG lf; rw [← getD_get lf 0, Hx.out] at cgf; refine pl ?_; clear cgf; refine pl ?_; have zG := kG.2.2; have cgt := ints_cell kG lt; refine pl ?_; refine listF_absw ?_
 intro w5 hw'; have kG' := cells_of hw' (Cells.set (kG)); rw [ints_set] at kG'; clear cgt; have hb : OldB [G] w3 w5 := oldset hw'; clear hw'; clear zG; clear qV qG; replace kG := kG'; revert HB; revert kV; refine uO hb ?_; clear hb; intro kV qV HB; have qG := kG.1; clear kG'; clear sl0; refine lx [] ?_; intro _; refine ln ?_; intros
 refine norm_F _ (res_none Tryz.results121) ?_; exact ⟨rfl, kV, kG, HB.out⟩

theorem XW13b {A : Prop} (e : A := by
 obtain ⟨hcq, hfq⟩ := hwq.b0
 clear hrq; go_simp
 (with_reducible exact (oto_any V G sc ta nt tc tk qa np qc tm p dn wy op nx f t st _ (kV.oldB hwq.unDrew (by simp)) ht hst))) : A := e
theorem oadd_any (V G sc : Nat) (ta : Option Addr) (nt tc : Nat) (tk : Int) (qa : Option Addr) (np qc : Nat) (tm p dn wy op nx : Int) (f t : Nat) (st : List Int) (w : World) (hV : Cells w V (mC (some ⟨G, 0, none⟩) st.length sc ta nt tc tk qa np qc tm p dn wy op (f : Int) (t : Int) nx)) (hVG : V ≠ G) (hG : Cells w G (st.flatMap int1)) (hst : Hid (st.length = 128)) (hf : f < 128) (ht : t < 128) (x y : Int) (hx : st.getD f 0 = x) (hy : st.getD t 0 = y) (hxb : 0 ≤ x ∧ x ≤ 16777215) (hyb : 0 ≤ y ∧ y ≤ 16777215) :
    Calls Tryz.prog 122 #[.pointer (some ⟨V, 0, none⟩)] w (fun e w' => e = .returned (.tuple #[]) ∧ Cells w' V (mC (some ⟨G, 0, none⟩) st.length sc ta nt tc tk qa np qc tm p dn wy op (f : Int) (t : Int) nx) ∧ Cells w' G ((st.set t ((x + y) % 16777216)).flatMap int1) ∧ OldB [G] w w') := by
 have Hx := hid hx; have Hy := hid hy; clear hx hy
 have lf : f < st.length := by rw [hst.out]; omega
 have lt : t < st.length := by rw [hst.out]; omega
 have hfi : (f : Int) < st.length := by omega
 have hti : (t : Int) < st.length := by omega
 have hst2 : st.length ≤ 128 := by rw [hst.out]; omega
 have nVG : ¬ V = G := hVG
 have nGV : ¬ G = V := fun e => hVG e.symm
 have wa : IntKind.i64.wrap (y + x) = y + x := IntWalk.i64_in _ (by omega); have hb := i64_andW (y + x)
 have hc : (y + x) % 16777216 = (x + y) % 16777216 := by rw [Int.add_comm]
 rw [hc] at hb; clear hc; have kV := hV; have kG := hG
 refine enter_F Tryz.func122 rfl Tryz.ntmps122 (by simp) ?_
 intro s0 hs; have sl0 : s0 0 = .pointer (some ⟨V, 0, none⟩) := hs 0 (by simp); clear hs; have HB := hid (OldB.refl [G] w); have qV := kV.1; have qG := kG.1
 refine zx ?_; intros
 have cgf := ints_cell kG lf; have cgt := ints_cell kG lt; rw [← getD_get lf 0, Hx.out] at cgf; rw [← getD_get lt 0, Hy.out] at cgt; have cV := clx kV; refine rgQ 10 [?_,?_,?_,?_,?_,?_,?_,?_,?_,?_] ?walk8 ?dep8
 case walk8 =>
  refine rq ?_; refine walkR_q (by rfl) (fun X hX wq hwq hrq => ?_) ?_
  · exact XW13b
  refine rq ?_; refine walkR_q (by rfl) (fun X hX wq hwq hrq => ?_) ?_
  · exact XW13b
  iterate 3 refine rq ?_
  refine walkR_q (by rfl) (fun X hX wq hwq hrq => ?_) ?_
  · obtain ⟨hcq, hfq⟩ := hwq.b0
    clear hrq; go_simp
    (with_reducible exact (ofrom_any V G sc ta nt tc tk qa np qc tm p dn wy op nx f t st _ (kV.oldB hwq.unDrew (by simp)) hf hst))
  refine rq ?_; refine rq ?_; refine walkR_nil (fun X hX w1 hwz hcz => ?_); clear hX hcz
  (try clear X)
  skip; have hb2 := hwz.unDrew; clear hwz; clear cV; clear qV qG; revert HB; revert kG; revert kV; refine uO hb2 ?_; clear hb2; intro kV qV kG qG HB; clear cgf cgt
  refine P3 ?_
  have zG := kG.2.2; have cgt := ints_cell kG lt; refine pl ?_; refine listF_absw ?_; intro w3 hw'; have kG' := cells_of hw' (Cells.set (kG)); rw [ints_set] at kG'; clear cgt; have hb4 : OldB [G] w1 w3 := oldset hw'; clear hw'; clear zG; clear qV qG; replace kG := kG'; revert HB; revert kV; refine uO hb4 ?_; clear hb4; intro kV qV HB; have qG := kG.1; clear kG'; clear sl0; refine lx [] ?_; intro s5; refine ln ?_; intros
  refine norm_F _ (res_none Tryz.results122) ?_; exact ⟨rfl, kV, kG, HB.out⟩
 case dep8 => exact dA

theorem XW13c {A : Prop} (e : A := by
 obtain ⟨hcq, hfq⟩ := hwq.b0
 clear hrq; go_simp
 (with_reducible exact (oto_any V G sc ta nt tc tk qa np qc tm p dn wy op nx f t st _ (kV.oldB hwq.unDrew (by simp)) ht hst))) : A := e
theorem osub_any (V G sc : Nat) (ta : Option Addr) (nt tc : Nat) (tk : Int) (qa : Option Addr) (np qc : Nat) (tm p dn wy op nx : Int) (f t : Nat) (st : List Int) (w : World) (hV : Cells w V (mC (some ⟨G, 0, none⟩) st.length sc ta nt tc tk qa np qc tm p dn wy op (f : Int) (t : Int) nx)) (hVG : V ≠ G) (hG : Cells w G (st.flatMap int1)) (hst : Hid (st.length = 128)) (hf : f < 128) (ht : t < 128) (x y : Int) (hx : st.getD f 0 = x) (hy : st.getD t 0 = y) (hxb : 0 ≤ x ∧ x ≤ 16777215) (hyb : 0 ≤ y ∧ y ≤ 16777215) :
    Calls Tryz.prog 123 #[.pointer (some ⟨V, 0, none⟩)] w (fun e w' => e = .returned (.tuple #[]) ∧ Cells w' V (mC (some ⟨G, 0, none⟩) st.length sc ta nt tc tk qa np qc tm p dn wy op (f : Int) (t : Int) nx) ∧ Cells w' G ((st.set t ((y - x) % 16777216)).flatMap int1) ∧ OldB [G] w w') := by
 have Hx := hid hx; have Hy := hid hy; clear hx hy
 have lf : f < st.length := by rw [hst.out]; omega
 have lt : t < st.length := by rw [hst.out]; omega
 have hfi : (f : Int) < st.length := by omega
 have hti : (t : Int) < st.length := by omega
 have hst2 : st.length ≤ 128 := by rw [hst.out]; omega
 have nVG : ¬ V = G := hVG
 have nGV : ¬ G = V := fun e => hVG e.symm
 have wa : IntKind.i64.wrap (y - x) = y - x := IntWalk.i64_in _ (by omega); have hb := i64_andW (y - x); have kV := hV; have kG := hG
 refine enter_F Tryz.func123 rfl Tryz.ntmps123 (by simp) ?_
 intro s0 hs; have sl0 : s0 0 = .pointer (some ⟨V, 0, none⟩) := hs 0 (by simp); clear hs; have HB := hid (OldB.refl [G] w); have qV := kV.1; have qG := kG.1
 refine zx ?_; intros
 have cgf := ints_cell kG lf; have cgt := ints_cell kG lt; rw [← getD_get lf 0, Hx.out] at cgf; rw [← getD_get lt 0, Hy.out] at cgt; have cV := clx kV; refine rgQ 10 [?_,?_,?_,?_,?_,?_,?_,?_,?_,?_] ?walk9 ?dep9
 case walk9 =>
  refine rq ?_; refine walkR_q (by rfl) (fun X hX wq hwq hrq => ?_) ?_
  · exact XW13c
  refine rq ?_; refine walkR_q (by rfl) (fun X hX wq hwq hrq => ?_) ?_
  · exact XW13c
  iterate 3 refine rq ?_
  refine walkR_q (by rfl) (fun X hX wq hwq hrq => ?_) ?_
  · obtain ⟨hcq, hfq⟩ := hwq.b0
    clear hrq; go_simp
    (with_reducible exact (ofrom_any V G sc ta nt tc tk qa np qc tm p dn wy op nx f t st _ (kV.oldB hwq.unDrew (by simp)) hf hst))
  refine rq ?_; refine rq ?_; refine walkR_nil (fun X hX w1 hwz hcz => ?_); clear hX hcz
  (try clear X)
  skip; have hb2 := hwz.unDrew; clear hwz; clear cV; clear qV qG; revert HB; revert kG; revert kV; refine uO hb2 ?_; clear hb2; intro kV qV kG qG HB; clear cgf cgt
  refine P3 ?_
  have zG := kG.2.2; have cgt := ints_cell kG lt; refine pl ?_; refine listF_absw ?_; intro w3 hw'; have kG' := cells_of hw' (Cells.set (kG)); rw [ints_set] at kG'; clear cgt; have hb4 : OldB [G] w1 w3 := oldset hw'; clear hw'; clear zG; clear qV qG; replace kG := kG'; revert HB; revert kV; refine uO hb4 ?_; clear hb4; intro kV qV HB; have qG := kG.1; clear kG'; clear sl0; refine lx [] ?_; intro s5; refine ln ?_; intros
  refine norm_F _ (res_none Tryz.results123) ?_; exact ⟨rfl, kV, kG, HB.out⟩
 case dep9 => exact dA

theorem omul_any (V G sc : Nat) (ta : Option Addr) (nt tc : Nat) (tk : Int) (qa : Option Addr) (np qc : Nat) (tm p dn wy op nx : Int) (f t : Nat) (st : List Int) (w : World) (hV : Cells w V (mC (some ⟨G, 0, none⟩) st.length sc ta nt tc tk qa np qc tm p dn wy op (f : Int) (t : Int) nx)) (hVG : V ≠ G) (hG : Cells w G (st.flatMap int1)) (hst : Hid (st.length = 128)) (hf : f < 128) (ht : t < 128) (x y : Int) (hx : st.getD f 0 = x) (hy : st.getD t 0 = y) (hxb : 0 ≤ x ∧ x ≤ 16777215) (hyb : 0 ≤ y ∧ y ≤ 16777215) :
    Calls Tryz.prog 124 #[.pointer (some ⟨V, 0, none⟩)] w (fun e w' => e = .returned (.tuple #[]) ∧ Cells w' V (mC (some ⟨G, 0, none⟩) st.length sc ta nt tc tk qa np qc tm p dn wy op (f : Int) (t : Int) nx) ∧ Cells w' G ((st.set t (prodI x y)).flatMap int1) ∧ OldB [G] w w') := by
 have Hx := hid hx; have Hy := hid hy; clear hx hy
 have lf : f < st.length := by rw [hst.out]; omega
 have lt : t < st.length := by rw [hst.out]; omega
 have hfi : (f : Int) < st.length := by omega
 have hti : (t : Int) < st.length := by omega
 have hst2 : st.length ≤ 128 := by rw [hst.out]; omega
 have nVG : ¬ V = G := hVG
 have nGV : ¬ G = V := fun e => hVG e.symm
 have hs := sprod_bd hxb hyb; have wm : IntKind.i64.wrap (signI x * signI y) = signI x * signI y := IntWalk.i64_in _ (by omega); have hfd : (signI x * signI y).fdiv 8388608 = signI x * signI y / 8388608 := Int.fdiv_eq_ediv_of_nonneg _ (by decide); have hb : bits .and .i64 (signI x * signI y / 8388608) 16777215 = prodI x y := i64_andW _; clear hs; have kV := hV; have kG := hG
 refine enter_F Tryz.func124 rfl Tryz.ntmps124 (by simp) ?_
 intro s0 hs; have sl0 : s0 0 = .pointer (some ⟨V, 0, none⟩) := hs 0 (by simp); clear hs; have HB := hid (OldB.refl [G] w); have qV := kV.1; have qG := kG.1
 refine nr ?_; intros; refine pl ?_; refine listF_step rfl (fun K' hK => ?_); unfold opF; go_simp; refine XW13d ?_; rintro e w1 ⟨rfl, hb2⟩; refine ⟨_, rfl, hK _ _ ?_⟩; clear hK K'; clear qV qG; revert HB; revert kG; revert kV; refine uA hb2 ?_; clear hb2; intro kV qV kG qG HB; refine pl ?_; refine listF_step rfl (fun K' hK => ?_); unfold opF; go_simp; refine (ofrom_any V G sc ta nt tc tk qa np qc tm p dn wy op nx f t st _ kV hf hst).mono ?_; rintro e w3 ⟨rfl, hb4⟩; refine ⟨_, rfl, hK _ _ ?_⟩; clear hK K'; clear qV qG; revert HB; revert kG; revert kV; refine uA hb4 ?_; clear hb4; intro kV qV kG qG HB; refine pl ?_; have cgf := ints_cell kG lf; rw [← getD_get lf 0, Hx.out] at cgf; refine pl ?_; clear cgf; refine listF_step rfl (fun K' hK => ?_); unfold opF; go_simp; refine (signed_any x _ hxb).mono ?_; rintro e w' ⟨rfl, rfl⟩
 refine ⟨_, rfl, hK _ _ ?_⟩; clear hK K'; refine pl ?_; refine listF_step rfl (fun K' hK => ?_); unfold opF; go_simp; refine XW13d ?_; rintro e w6 ⟨rfl, hb7⟩; refine ⟨_, rfl, hK _ _ ?_⟩; clear hK K'; clear qV qG; revert HB; revert kG; revert kV; refine uA hb7 ?_; clear hb7; intro kV qV kG qG HB; refine pl ?_; have cgt := ints_cell kG lt; rw [← getD_get lt 0, Hy.out] at cgt; refine pl ?_; clear cgt; refine listF_step rfl (fun K' hK => ?_); unfold opF; go_simp; refine (signed_any y _ hyb).mono ?_; rintro e w' ⟨rfl, rfl⟩; refine ⟨_, rfl, hK _ _ ?_⟩; clear hK K'
 refine P4 ?_
 have zG := kG.2.2; have cgt := ints_cell kG lt; refine pl ?_; refine listF_absw ?_; intro w9 hw'; have kG' := cells_of hw' (Cells.set (kG)); rw [ints_set] at kG'; clear cgt; have hb10 : OldB [G] w6 w9 := oldset hw'; clear hw'; clear zG; clear qV qG; replace kG := kG'; revert HB; revert kV; refine uO hb10 ?_; clear hb10; intro kV qV HB; have qG := kG.1; clear kG'; clear sl0; refine lx [] ?_; intro s11; refine ln ?_; intros
 refine norm_F _ (res_none Tryz.results124) ?_; exact ⟨rfl, kV, kG, HB.out⟩

theorem oread_any (V G sc : Nat) (ta : Option Addr) (nt tc : Nat) (tk : Nat) (qa : Option Addr) (np qc : Nat) (tm p dn wy op nx : Int) (f t : Nat) (st : List Int) (w : World) (hV : Cells w V (mC (some ⟨G, 0, none⟩) st.length sc ta nt tc (tk : Int) qa np qc tm p dn wy op (f : Int) (t : Int) nx)) (hVG : V ≠ G) (hG : Cells w G (st.flatMap int1)) (hst : Hid (st.length = 128)) (tp : List Int) (hnt : nt = tp.length) (hf : f < 128) (ht : t < 128) (htk : tk < tp.length) (htl : tp.length ≤ 200) (x : Int) (hx : tp.getD tk 0 = x) (hRt : RdInts w ta tp) (htV : ∀ b, ta = some b → b.block ≠ V ∧ b.block ≠ G) :
    Calls Tryz.prog 125 #[.pointer (some ⟨V, 0, none⟩)] w (fun e w' => e = .returned (.tuple #[]) ∧ Cells w' V (mC (some ⟨G, 0, none⟩) st.length sc ta nt tc ((tk : Int) + 1) qa np qc tm p dn wy op (f : Int) (t : Int) nx) ∧ Cells w' G ((st.set t x).flatMap int1) ∧ OldB [V, G] w w') := by
 subst hnt; have Hx := hid hx; have HRt := hid hRt; clear hx hRt
 have lf : f < st.length := by rw [hst.out]; omega
 have lt : t < st.length := by rw [hst.out]; omega
 have hfi : (f : Int) < st.length := by omega
 have hti : (t : Int) < st.length := by omega
 have hst2 : st.length ≤ 128 := by rw [hst.out]; omega
 have nVG : ¬ V = G := hVG
 have nGV : ¬ G = V := fun e => hVG e.symm
 have hti2 : (tk : Int) < tp.length := by omega
 have wtk : IntKind.i64.wrap ((tk : Int) + 1) = tk + 1 := IntWalk.i64_in _ (by omega); obtain ⟨bt, ot, hat, hbt, c0⟩ := RdInts.ne HRt.out htk; subst hat; rw [← getD_get htk 0, Hx.out] at c0; have kV := hV; have kG := hG
 refine enter_F Tryz.func125 rfl Tryz.ntmps125 (by simp) ?_
 intro s0 hs; have sl0 : s0 0 = .pointer (some ⟨V, 0, none⟩) := hs 0 (by simp); clear hs; have HB := hid (OldB.refl [V, G] w); have qV := kV.1; have qG := kG.1
 refine zx ?_; intros
 have cV := clx kV; refine rgQ 14 [?_,?_,?_,?_,?_,?_,?_,?_,?_,?_,?_,?_,?_,?_] ?walk10 ?dep10
 case walk10 =>
  refine rq ?_; refine walkR_q (by rfl) (fun X hX wq hwq hrq => ?_) ?_
  · obtain ⟨hcq, hfq⟩ := hwq.b0
    clear hrq; go_simp
    (with_reducible exact (oto_any V G sc (some ⟨bt, ot, none⟩) tp.length tc (tk : Int) qa np qc tm p dn wy op nx f t st _ (kV.oldB hwq.unDrew (by simp)) ht hst))
  iterate 12 refine rq ?_
  refine walkR_nil (fun X hX w1 hwz hcz => ?_); clear hX hcz
  (try clear X)
  skip; have hb := hwz.unDrew; clear hwz; clear cV; clear qV qG; revert HB; revert kG; revert kV; refine uO hb ?_; clear hb; intro kV qV kG qG HB; clear c0; refine pl ?_; have zG := kG.2.2; have cgt := ints_cell kG lt; refine pl ?_; refine listF_absw ?_; intro w3 hw'; have kG' := cells_of hw' (Cells.set (kG)); rw [ints_set] at kG'; clear cgt; have hb : OldB [G] w1 w3 := oldset hw'; clear hw'; clear zG; clear qV qG; replace kG := kG'; revert HB; revert kV; refine uO hb ?_; clear hb; intro kV qV HB; have qG := kG.1; clear kG'; refine lx [] ?_; clear sl0; intro _ sl0; refine lr ?_; intros
  refine P4 ?_
  have cV := clx kV
  refine P5 ?_
  have zV := kV.2.2; refine pl ?_; refine sto kV ?_; clear kV cV zV; intro _ kV hb; clear qV qG; revert HB; revert kG; refine uO hb ?_; clear hb; intro kG qG HB; have qV := kV.1; clear sl0; refine lx [] ?_; intro _; refine ln ?_; intros
  refine norm_F _ (res_none Tryz.results125) ?_; exact ⟨rfl, kV, kG, HB.out⟩
 case dep10 => exact dA

end Go.Proofs.YtleknidlgmmgbaaGreat
