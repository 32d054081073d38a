/- The program: First. -/
import Derived.Test.YtleknidlgmmgbaaGreattsW31
import Derived.Test.YtleknidlgmmgbaaGreattsG13
import Derived.Test.YtleknidlgmmgbaaGreattsCZ
set_option linter.all false
namespace Go.Proofs.YtleknidlgmmgbaaGreat

open Go.RowKit

theorem load_t3 {w : World} {b o : Nat} {x0 : Value} (h0 : w.cell? ⟨b, o, none⟩ = some x0) :
    (loadVar 3 ⟨b, o, none⟩).run Tryz.prog w = .ok (x0) w := by
  simp [go_sem, h0]
theorem load_t30 {w : World} {b o : Nat} {x0 : Value} (h0 : w.cell? ⟨b, o, none⟩ = some x0) :
    (loadVar 30 ⟨b, o, none⟩).run Tryz.prog w = .ok (x0) w := by
  simp [go_sem, h0]


theorem OkI.len {s : St4} (h : OkI s) : LenI s := ⟨by have := h.l0; omega, by have := h.l1; omega, by have := h.l2; omega⟩
theorem TW.both {w : World} {M lo hi : Nat} {A : SA} {s : St4} {fs : List Flt} {n : Int} (h : ∀ av, (∀ k ∈ av, k < lo ∧ A.free s k) → TW av w M s fs n) (hw : w.heap.size ≤ hi) (av : List Nat) (hav : ∀ k ∈ av, (k < lo ∧ A.free s k) ∨ hi ≤ k) : TW av w M s fs n := by
  have key : ∀ (av l1 : List Nat), (∀ k ∈ l1, k < lo ∧ A.free s k) → (∀ k ∈ av, (k < lo ∧ A.free s k) ∨ hi ≤ k) → TW (av ++ l1) w M s fs n := by
    intro av
    induction av with
    | nil => intro l1 h1 _; exact h l1 h1
    | cons k av ih =>
      intro l1 h1 h2
      rcases h2 k (by simp) with h3 | h3
      · refine (ih (k :: l1) (fun q hq => ?_) (fun q hq => h2 q (by simp [hq]))).less (fun q hq => by simp at hq ⊢; rcases hq with e | e | e <;> simp [e])
        rcases List.mem_cons.1 hq with e | e
        · exact e ▸ h3
        · exact h1 q e
      · exact (ih l1 h1 (fun q hq => h2 q (by simp [hq]))).avoid (Nat.le_trans hw h3)
  have := key av [] (by simp) hav
  simpa using this
theorem iv_out {a b c d k : Nat} {p : Prop} (h : b ≤ c ∨ d ≤ a) (h1 : c ≤ k) (h2 : k < d) (hp : p) : (k < a ∧ p) ∨ b ≤ k := by
  rcases h with h | h
  · right; omega
  · exact .inl ⟨by omega, hp⟩
theorem nn_one {most i : Nat} (h : i ≤ most) : nn 1 most i = i := by unfold nn; omega
def Stp4.zero : Stp4 := ⟨0, ⟨0, 0, 0, 0⟩, 0, 0⟩
/-- what First answers -/
def firstR (s : St4) (fs : List Flt) (most : Int) : Int × Stp4 × Int :=
  if askErr12 s fs most ≠ 0 then (0, Stp4.zero, askErr12 s fs most) else match firstN s fs most.toNat with
    | some n => ((n : Int), stepOf (run4 n s) (run4 (n + 1) s), 0)
    | none => (0, Stp4.zero, 9)
theorem firstR_bad {s : St4} {fs : List Flt} {most ea : Int} (h : askErr12 s fs most = ea) (he : ea ≠ 0) : firstR s fs most = (0, Stp4.zero, ea) := by unfold firstR; rw [h, if_pos he]
theorem firstR_at {s : St4} {fs : List Flt} {most i : Nat} (h : askErr12 s fs most = 0) (hi : i < most) (h0 : ∀ j, j < i → firstU s fs j = false) (h1 : firstU s fs i = true) : firstR s fs most = ((i : Int), stepOf (run4 i s) (run4 (i + 1) s), 0) := by
  have : firstN s fs most = some i := by
    unfold firstN; rw [List.find?_range_eq_some]; exact ⟨h1, by simpa using hi, fun j hj => by simp [h0 j hj]⟩
  unfold firstR; rw [h, if_neg (by decide), Int.toNat_natCast, this]
theorem firstR_no {s : St4} {fs : List Flt} {most : Nat} (h : askErr12 s fs most = 0) (h0 : ∀ j, j < most → firstU s fs j = false) : firstR s fs most = (0, Stp4.zero, 9) := by
  have : firstN s fs most = none := by
    unfold firstN; rw [List.find?_eq_none]; intro j hj; rw [h0 j (by simpa using hj)]; decide
  unfold firstR; rw [h, if_neg (by decide), Int.toNat_natCast, this]
/-- what the rounds of First find -/
structure FirJ (s : St4) (fs : List Flt) (most : Nat) (w0 : World) (M1 M2 B6 B7 B8 B9 B10 X Y Z D i : Nat) (W : World) : Prop where
  b : Below w0.heap.size w0 W
  c6 : Cells W B6 [.int .i64 0]
  c7 : Cells W B7 [.int .i64 0, .int .i64 0, .int .i64 0, .int .i64 0, .int .i64 0, .int .i64 0, .int .i64 0]
  c8 : Cells W B8 [.int .i64 0]
  c9 : Cells W B9 [.pointer (some ⟨M1, 0, none⟩)]
  c10 : Cells W B10 [.pointer (some ⟨M2, 0, none⟩)]
  cX : Cells W X [.pointer (some ⟨M2, 0, none⟩)]
  cY : Cells W Y [.int .i64 (most : Int)]
  cZ : Cells W Z [.int .i64 1]
  t1 : TW [M2, D + 1] W M1 (run12 s fs i) fs (i : Int)
  u : ∀ j, j < i → firstU s fs j = false
theorem FirJ.old {s : St4} {fs : List Flt} {most : Nat} {w0 : World} {M1 M2 B6 B7 B8 B9 B10 X Y Z D i : Nat} {W W' : World} (h : FirJ s fs most w0 M1 M2 B6 B7 B8 B9 B10 X Y Z D i W) {k : Nat} (ho : OldB [k] W W') (hk : k = M2 ∨ k = D + 1)
    (h6 : B6 ≠ k) (h7 : B7 ≠ k) (h8 : B8 ≠ k) (h9 : B9 ≠ k) (h10 : B10 ≠ k) (hX : X ≠ k) (hY : Y ≠ k) (hZ : Z ≠ k) (h0 : w0.heap.size ≤ k) : FirJ s fs most w0 M1 M2 B6 B7 B8 B9 B10 X Y Z D i W' :=
  ⟨h.b.trans (ho.lowN h.b.size (by simp; omega)), h.c6.oldB ho (by simpa using h6), h.c7.oldB ho (by simpa using h7), h.c8.oldB ho (by simpa using h8), h.c9.oldB ho (by simpa using h9), h.c10.oldB ho (by simpa using h10), h.cX.oldB ho (by simpa using hX), h.cY.oldB ho (by simpa using hY), h.cZ.oldB ho (by simpa using hZ), h.t1.old ho (by simpa using hk), h.u⟩
theorem FirJ.at {s : St4} {fs : List Flt} {most : Nat} {w0 : World} {M1 M2 B6 B7 B8 B9 B10 X Y Z D i : Nat} {W W' : World} (h : FirJ s fs most w0 M1 M2 B6 B7 B8 B9 B10 X Y Z D i W) (hb : Below W.heap.size W W') : FirJ s fs most w0 M1 M2 B6 B7 B8 B9 B10 X Y Z D i W' :=
  ⟨h.b.trans (hb.mono h.b.size), h.c6.at hb, h.c7.at hb, h.c8.at hb, h.c9.at hb, h.c10.at hb, h.cX.at hb, h.cY.at hb, h.cZ.at hb, h.t1.at hb, h.u⟩

theorem XW33b {A : Prop} (e : A := by
 rintro sJ wJ hbJ hunJ hdJ
 have sv3 := (hunJ 3 (by decide) (un_of (by kernel_rfl))).trans sl3; have kJ := kb3.at hbJ; have qJ := kJ.1; have cJ := clx kJ; rw [if_pos (by rfl)]; exact oV) : A := e
theorem XW33c {A : Prop} (e : A := by
 rintro sJ wJ hbJ hunJ hdJ
 rw [if_pos (by rfl)]; exact opV_alloc (by intro K' hK; unfold opF; go_simp; exact hK)) : A := e
theorem XW33d {A : Prop} (e : A := by
 rw [show X 5 = B6 from hX.at0 0 _ rfl] at hkq ⊢
 replace hkq : Cells wq B6 [.int .i64 0] := hkq; have hks := hkq.1; have hkz := hkq.2.2; have hk0 := hkq.cell 0 rfl; go_simp
 (first | ((with_reducible refine writeB_mk (Cells.set hkq) ?_ ?_); (focus (repeat (first | (with_reducible exact Only.refl _ _) | (with_reducible refine Only.set ?_)))); rfl))) : A := e
theorem XW33e {A : Prop} (e : A := by first | (simp; done) | (simp; omega)) : A := e
theorem XW33f {A : Prop} (e : A := by first | exact List.nodup_nil | exact List.nodup_singleton _ | (simp; done) | (simp; omega)) : A := e
theorem XW33g {A B1 : Prop} (hX1 : B1) (e : B1 → A := by intro hX1; exact retMark_F _ hDm (res_ccc Tryz.results16 ((getD_F (by decide)).trans sl6) ((getD_F (by decide)).trans sl7) ((getD_F (by decide)).trans sl8) (load_t3 cRb6_0) (load_t29 cRb7_0 cRb7_1 cRb7_2 cRb7_3 cRb7_4 cRb7_5 cRb7_6) (load_t30 cRb8_0)) hX1) : A := e hX1
set_option maxRecDepth 100000 in
set_option maxHeartbeats 32000000 in
theorem tfirst12_v (s : St4) (A : SA) (af : Option Addr) (cf : Nat) (fs : List Flt) (most n er : Int) (st : Stp4) (w : World) (hR : RdSt w s A) (hL : LenI s) (hlf : fs.length ≤ 9223372036854775807) (hF : RdFl w af fs) (hfr : firstR s fs most = (n, st, er)) :
    Calls Tryz.prog 16 #[.agg #[.slice A.sa s.store.length A.sc, .slice A.ta s.tape.length A.tc, .int .i64 s.taken, .slice A.pa s.printed.length A.pc, .int .i64 s.time, .int .i64 s.pc, .int .i64 s.done, .int .i64 s.why], .slice af fs.length cf, .int .i64 most] w (fun e w' => e = .returned (.tuple #[.int .i64 n, .agg #[.int .i64 st.pc, .int .i64 st.ord.op, .int .i64 st.ord.fr, .int .i64 st.ord.tt, .int .i64 st.ord.nx, .int .i64 st.time, .int .i64 st.til], .int .i64 er]) ∧ Below w.heap.size w w') := by
 have hmf := hmf; have HR := hid hR; have HL := hid hL; have HF := hid hF; have Hfr := hid hfr; clear hR hL hF hfr; obtain ⟨ea, hA⟩ : ∃ x, askErr12 s fs most = x := ⟨_, rfl⟩; have HA := hid hA; clear hA; refine enterM_F Tryz.func16 rfl Tryz.ntmps16 (by simp) ?_; intro s0 hs; have sl0 : s0 0 = .agg #[.slice A.sa s.store.length A.sc, .slice A.ta s.tape.length A.tc, .int .i64 s.taken, .slice A.pa s.printed.length A.pc, .int .i64 s.time, .int .i64 s.pc, .int .i64 s.done, .int .i64 s.why] := hs 0 (by simp); have sl1 : s0 1 = .slice af fs.length cf := hs 1 (by simp); have sl2 : s0 2 = .int .i64 most := hs 2 (by simp); clear hs; have HB := hid (OldB.refl [] w)
 refine nr ?_; intros; refine pa (fun w1 B3 hB kb3 hb2 => ?_); have gb3 := HB.out.gB hB; have eb3 := eB hB; clear hB; replace HB := bE HB hb2; clear hb2; have qb3 := kb3.1; refine pa (fun w3 B6 hB kb6 hb4 => ?_); have gb6 := HB.out.gB hB; have ob3_b6 := oB qb3 hB; have eb6 := eB hB; clear hB; clear qb3; revert HB; revert kb3; refine uA hb4 ?_; clear hb4; intro kb3 qb3 HB; have qb6 := kb6.1; refine pa (fun w5 B7 hB kb7 hb6 => ?_); have gb7 := HB.out.gB hB; have ob3_b7 := oB qb3 hB; have ob6_b7 := oB qb6 hB; have eb7 := eB hB; clear hB; clear qb3 qb6; revert HB; revert kb6; revert kb3; refine uA hb6 ?_; clear hb6; intro kb3 qb3 kb6 qb6 HB; have qb7 := kb7.1; refine pa (fun w7 B8 hB kb8 hb8 => ?_); have gb8 := HB.out.gB hB; have ob3_b8 := oB qb3 hB; have ob6_b8 := oB qb6 hB; have ob7_b8 := oB qb7 hB
 have eb8 := eB hB; clear hB; clear qb3 qb6 qb7; revert HB; revert kb7; revert kb6; revert kb3; refine uA hb8 ?_; clear hb8; intro kb3 qb3 kb6 qb6 kb7 qb7 HB; have qb8 := kb8.1; clear sl0; refine lx [3,6,7,8] ?_; clear sl1 sl2; intro s9 sl1 sl2 sl3 sl6 sl7 sl8; refine lr ?_; intros; have cb3 := clx kb3
 refine P3 ?_
 refine cal (tcheck_v s A af cf fs most ea _ (HR.out.old HB.out) HL.out (Rd.oldB HF.out HB.out (by simp)) hlf HA.out) ?_; rintro e w10 ⟨rfl, hb11⟩; refine ⟨_, rfl, ?_⟩; clear cb3; clear qb3 qb6 qb7 qb8; revert HB; revert kb8; revert kb7; revert kb6; revert kb3; refine uA hb11 ?_; clear hb11; intro kb3 qb3 kb6 qb6 kb7 qb7 kb8 qb8 HB; have cb8_0 := kb8.cell 0 rfl; have zb8 := kb8.2.2; refine pl ?_; refine sto kb8 ?_; clear kb8 cb8_0 zb8; intro w12 kb8 hb13; clear qb3 qb6 qb7 qb8; revert HB; revert kb7; revert kb6; revert kb3; refine uO hb13 ?_; clear hb13; intro kb3 qb3 kb6 qb6 kb7 qb7 HB; have qb8 := kb8.1; refine lx [] ?_; clear sl1 sl2 sl3 sl6 sl7 sl8; intro s14 sl1 sl2 sl3 sl6 sl7 sl8; refine ln ?_; intros
 by_cases he : ea = 0
 ·skip
  subst he; obtain ⟨hok, hfl, hfo, hm1, hm2⟩ := ask12_zero.1 HA.out; have Hok := hid hok; have Hfo := hid hfo; clear hok hfo; obtain ⟨mn, rfl⟩ : ∃ mn : Nat, most = (mn : Int) := ⟨most.toNat, by omega⟩; have HA0 := HA; have Hfr := Hfr; refine region_F ?_; have cb8_0 := kb8.cell 0 rfl; refine P2 ?_; refine lx [18] ?_; clear sl1 sl2 sl3 sl6 sl7 sl8; intro s15 sl1 sl2 sl3 sl6 sl7 sl8 sl18; refine ln ?_; intros
  refine cond_f ?_
  refine zx ?_; intros
  clear cb8_0; refine regV 7 [fun v _ _ _ => v = .agg #[Value.slice A.sa s.store.length A.sc, Value.slice A.ta s.tape.length A.tc, .int .i64 s.taken, Value.slice A.pa s.printed.length A.pc, .int .i64 s.time, .int .i64 s.pc, .int .i64 s.done, .int .i64 s.why], fun v _ _ _ => v = .slice af fs.length cf, fun v a b W => ∃ M, v = .pointer (some ⟨M, 0, none⟩) ∧ a ≤ M ∧ M < b ∧ ∀ av, (∀ k ∈ av, (k < a ∧ A.free s k) ∨ b ≤ k) → TW av W M s fs 0, fun v _ _ _ => v = .agg #[Value.slice A.sa s.store.length A.sc, Value.slice A.ta s.tape.length A.tc, .int .i64 s.taken, Value.slice A.pa s.printed.length A.pc, .int .i64 s.time, .int .i64 s.pc, .int .i64 s.done, .int .i64 s.why], fun v a b W => ∃ M, v = .pointer (some ⟨M, 0, none⟩) ∧ a ≤ M ∧ M < b ∧ ∀ av, (∀ k ∈ av, (k < a ∧ A.free s k) ∨ b ≤ k) → TW av W M s [] 0, fun v a b W => ∃ B, v = .pointer (some ⟨B, 0, none⟩) ∧ a ≤ B ∧ B < b ∧ Cells W B [.pointer none], fun v a b W => ∃ B, v = .pointer (some ⟨B, 0, none⟩) ∧ a ≤ B ∧ B < b ∧ Cells W B [.pointer none]] (by kernel_rfl) (by kernel_rfl) (by kernel_rfl) (by kernel_rfl) ⟨fun _ _ _ _ _ h _ => h, fun _ _ _ _ _ h _ => h, fun _ _ _ _ _ ⟨M, h1, h2, h3, h4⟩ hb => ⟨M, h1, h2, h3, fun av hav => (h4 av hav).at hb⟩, fun _ _ _ _ _ h _ => h, fun _ _ _ _ _ ⟨M, h1, h2, h3, h4⟩ hb => ⟨M, h1, h2, h3, fun av hav => (h4 av hav).at hb⟩, fun _ _ _ _ _ ⟨B, h1, h2, h3, h4⟩ hb => ⟨B, h1, h2, h3, h4.at hb⟩, fun _ _ _ _ _ ⟨B, h1, h2, h3, h4⟩ hb => ⟨B, h1, h2, h3, h4.at hb⟩, trivial⟩ ⟨?_, ?_, ?_, ?_, ?_, ?_, ?_, trivial⟩ ?_
  · exact XW33b
  · rintro sJ wJ hbJ hunJ hdJ
    have sv1 := (hunJ 1 (by decide) (un_of (by kernel_rfl))).trans sl1; rw [if_pos (by rfl)]; exact oV
  · rintro sJ wJ hbJ hunJ hdJ
    have sv21 : sJ 21 = .agg #[Value.slice A.sa s.store.length A.sc, Value.slice A.ta s.tape.length A.tc, .int .i64 s.taken, Value.slice A.pa s.printed.length A.pc, .int .i64 s.time, .int .i64 s.pc, .int .i64 s.done, .int .i64 s.why] := (hdJ 0 (by kernel_rfl) 21 rfl).elim fun _ h => h.elim fun _ h => h.2.2
    have sv22 : sJ 22 = .slice af fs.length cf := (hdJ 1 (by kernel_rfl) 22 rfl).elim fun _ h => h.elim fun _ h => h.2.2
    rw [if_pos (by rfl)]; unfold opF; go_simp; refine (tstart_any s A af cf fs _ (HR.out.old (HB.out.below hbJ)) (Rd.oldB HF.out (HB.out.below hbJ) (by simp)) hfl Hfo.out).mono ?_; rintro e wN ⟨M, rfl, gM, hTW, hbN⟩; exact ⟨_, rfl, ⟨M, rfl, gM, (hTW [] (by simp)).lt, TW.both hTW (Nat.le_refl _)⟩, hbN⟩
  · exact XW33b
  · rintro sJ wJ hbJ hunJ hdJ
    have sv24 : sJ 24 = .agg #[Value.slice A.sa s.store.length A.sc, Value.slice A.ta s.tape.length A.tc, .int .i64 s.taken, Value.slice A.pa s.printed.length A.pc, .int .i64 s.time, .int .i64 s.pc, .int .i64 s.done, .int .i64 s.why] := (hdJ 3 (by kernel_rfl) 24 rfl).elim fun _ h => h.elim fun _ h => h.2.2
    rw [if_pos (by rfl)]; unfold opF; go_simp; refine (tstart_any s A none 0 [] _ (HR.out.old (HB.out.below hbJ)) (.inl rfl) (by decide) (by intro f hf; cases hf)).mono ?_; rintro e wN ⟨M, rfl, gM, hTW, hbN⟩; exact ⟨_, rfl, ⟨M, rfl, gM, (hTW [] (by simp)).lt, TW.both hTW (Nat.le_refl _)⟩, hbN⟩
  · exact XW33c
  · exact XW33c
  intro s18 w16 aJ bJ hb17 hunJ hvJ hapJ; replace sl2 := (hunJ 2 (by decide) (un_of (by kernel_rfl))).trans sl2; replace sl6 := (hunJ 6 (by decide) (un_of (by kernel_rfl))).trans sl6; replace sl7 := (hunJ 7 (by decide) (un_of (by kernel_rfl))).trans sl7; replace sl8 := (hunJ 8 (by decide) (un_of (by kernel_rfl))).trans sl8; clear sl1 sl3 sl18; obtain ⟨gw23, gm23, gh23, hq23⟩ := hvJ 2 (by decide); obtain ⟨M1, sl23, maM1, mbM1, hTFM1⟩ := hq23 23 rfl; clear hq23; obtain ⟨gw25, gm25, gh25, hq25⟩ := hvJ 4 (by decide); obtain ⟨M2, sl25, maM2, mbM2, hTFM2⟩ := hq25 25 rfl; clear hq25; obtain ⟨gw9, gm9, gh9, hq9⟩ := hvJ 5 (by decide); obtain ⟨B9, sl9, gl9, gr9, kb9'⟩ := hq9 9 rfl; clear hq9; obtain ⟨gw10, gm10, gh10, hq10⟩ := hvJ 6 (by decide); obtain ⟨B10, sl10, gl10, gr10, kb10'⟩ := hq10 10 rfl; clear hq10; have ap23_25 := hapJ 2 4 (by decide) (by decide) (by decide); have ap23_9 := hapJ 2 5 (by decide) (by decide) (by decide); have ap23_10 := hapJ 2 6 (by decide) (by decide) (by decide)
  have ap25_9 := hapJ 4 5 (by decide) (by decide) (by decide); have ap25_10 := hapJ 4 6 (by decide) (by decide) (by decide); have ap9_10 := hapJ 5 6 (by decide) (by decide) (by decide); clear hunJ hvJ hapJ; have gS := HB.out.size
  have ob3_b9 : B3 < B9 := by have := qb3; omega
  have ob6_b9 : B6 < B9 := by have := qb6; omega
  have ob7_b9 : B7 < B9 := by have := qb7; omega
  have ob8_b9 : B8 < B9 := by have := qb8; omega
  have gb9 : w.heap.size ≤ B9 := by omega
  have ob3_b10 : B3 < B10 := by have := qb3; omega
  have ob6_b10 : B6 < B10 := by have := qb6; omega
  have ob7_b10 : B7 < B10 := by have := qb7; omega
  have ob8_b10 : B8 < B10 := by have := qb8; omega
  have gb10 : w.heap.size ≤ B10 := by omega
  have ob9_b10 : B9 ≠ B10 := by omega
  have o6M1 : B6 < M1 := by have := qb6; omega
  have o6M2 : B6 < M2 := by have := qb6; omega
  have o7M1 : B7 < M1 := by have := qb7; omega
  have o7M2 : B7 < M2 := by have := qb7; omega
  have o8M1 : B8 < M1 := by have := qb8; omega
  have o8M2 : B8 < M2 := by have := qb8; omega
  have o9M1 : B9 ≠ M1 := by omega
  have o9M2 : B9 ≠ M2 := by omega
  have o10M1 : B10 ≠ M1 := by omega
  have o10M2 : B10 ≠ M2 := by omega
  have o7a : B7 < aJ 4 := by have := qb7; omega
  have hfB : ∀ k, w.heap.size ≤ k → A.free s k := fun k hk => HR.out.freeB hk
  clear qb3 qb6 qb7 qb8; revert HB; revert kb8; revert kb7; revert kb6; revert kb3; refine uA hb17 ?_; clear hb17; intro kb3 qb3 kb6 qb6 kb7 qb7 kb8 qb8 HB; have kb9 := kb9'; clear kb9'; have qb9 := kb9.1; have kb10 := kb10'; clear kb10'; have qb10 := kb10.1; have hT1 := hTFM1 [M2, B9, B10] (fun k hk => by simp at hk; rcases hk with e | e | e <;> subst e; exact iv_out ap23_25 maM2 mbM2 (hfB _ (by omega)); exact iv_out ap23_9 gl9 gr9 (hfB _ (by omega)); exact iv_out ap23_10 gl10 gr10 (hfB _ (by omega))); have hT2 := hTFM2 [M1, B9, B10, B7] (fun k hk => by simp at hk; rcases hk with e | e | e | e <;> subst e; exact iv_out ap23_25.symm maM1 mbM1 (hfB _ (by omega)); exact iv_out ap25_9 gl9 gr9 (hfB _ (by omega)); exact iv_out ap25_10 gl10 gr10 (hfB _ (by omega)); exact .inl ⟨o7a, hfB _ gb7⟩)
  have oM12 : M1 ≠ M2 := by omega
  have gM1 : w.heap.size ≤ M1 := by omega
  have gM2 : w.heap.size ≤ M2 := by omega
  clear hTFM1 hTFM2; have cb9_0 := kb9.cell 0 rfl; have zb9 := kb9.2.2; refine pl ?_; refine sto kb9 ?_; clear kb9 cb9_0 zb9; intro w19 kb9 hb20; clear qb3 qb6 qb7 qb8 qb9 qb10; replace hT1 := TW.old hT1 hb20 (by simp); replace hT2 := TW.old hT2 hb20 (by simp); revert HB; revert kb10; revert kb8; revert kb7; revert kb6; revert kb3; refine uO hb20 ?_; clear hb20; intro kb3 qb3 kb6 qb6 kb7 qb7 kb8 qb8 kb10 qb10 HB; have qb9 := kb9.1; have cb10_0 := kb10.cell 0 rfl; have zb10 := kb10.2.2; refine pl ?_; refine sto kb10 ?_; clear kb10 cb10_0 zb10; intro w21 kb10 hb22; clear qb3 qb6 qb7 qb8 qb9 qb10; replace hT1 := TW.old hT1 hb22 (by simp); replace hT2 := TW.old hT2 hb22 (by simp); revert HB; revert kb9; revert kb8; revert kb7; revert kb6; revert kb3; refine uO hb22 ?_; clear hb22; intro kb3 qb3 kb6 qb6 kb7 qb7 kb8 qb8 kb9 qb9 HB; have qb10 := kb10.1; clear sl23 sl25; refine lx [] ?_; clear sl2 sl6 sl7 sl8 sl9 sl10; intro s23 sl2 sl6 sl7 sl8 sl9 sl10; refine lr ?_; intros; have cb10_0 := kb10.cell 0 rfl; refine P2 ?_; refine listF_step rfl (fun K' hK => ?_); unfold opF; go_simp; refine (stretches_any M2 1 mn _).mono ?_; rintro e w24 ⟨X, Y, Z, rfl, kX', kY', kZ', ⟨gX', gY', gZ'⟩, hb25⟩
  have oM2X : M2 < X := by have := hT2.lt; omega
  have oM2Y : M2 < Y := by have := hT2.lt; omega
  have oM2Z : M2 < Z := by have := hT2.lt; omega
  have oM1X : M1 < X := by have := hT1.lt; omega
  have oM1Y : M1 < Y := by have := hT1.lt; omega
  have oM1Z : M1 < Z := by have := hT1.lt; omega
  have ob3_X : B3 < X := by have := gX'; omega
  have ob6_X : B6 < X := by have := gX'; omega
  have ob7_X : B7 < X := by have := gX'; omega
  have ob8_X : B8 < X := by have := gX'; omega
  have ob9_X : B9 < X := by have := gX'; omega
  have ob10_X : B10 < X := by have := gX'; omega
  have ob3_Y : B3 < Y := by have := gY'; omega
  have ob6_Y : B6 < Y := by have := gY'; omega
  have ob7_Y : B7 < Y := by have := gY'; omega
  have ob8_Y : B8 < Y := by have := gY'; omega
  have ob9_Y : B9 < Y := by have := gY'; omega
  have ob10_Y : B10 < Y := by have := gY'; omega
  have ob3_Z : B3 < Z := by have := gZ'; omega
  have ob6_Z : B6 < Z := by have := gZ'; omega
  have ob7_Z : B7 < Z := by have := gZ'; omega
  have ob8_Z : B8 < Z := by have := gZ'; omega
  have ob9_Z : B9 < Z := by have := gZ'; omega
  have ob10_Z : B10 < Z := by have := gZ'; omega
  refine ⟨_, rfl, hK _ _ ?_⟩; clear hK K'; clear cb10_0; clear qb3 qb6 qb7 qb8 qb9 qb10; replace hT1 := TW.at hT1 hb25; replace hT2 := TW.at hT2 hb25; revert HB; revert kb10; revert kb9; revert kb8; revert kb7; revert kb6; revert kb3; refine uA hb25 ?_; clear hb25; intro kb3 qb3 kb6 qb6 kb7 qb7 kb8 qb8 kb9 qb9 kb10 qb10 HB; have kX := kX'; clear kX'; have qX := kX.1; have kY := kY'; clear kY'; have qY := kY.1; have kZ := kZ'; clear kZ'; have qZ := kZ.1; clear sl2; refine lx [28] ?_; clear sl6 sl7 sl8 sl9 sl10; intro s26 sl6 sl7 sl8 sl9 sl10 sl28; refine ln ?_; intros
  obtain ⟨D, hDD⟩ : ∃ d, w24.heap.size = d := ⟨_, rfl⟩
  have db6 : B6 < D := by have := kb6.1; omega
  have db7 : B7 < D := by have := kb7.1; omega
  have db8 : B8 < D := by have := kb8.1; omega
  have db9 : B9 < D := by have := kb9.1; omega
  have db10 : B10 < D := by have := kb10.1; omega
  have dX : X < D := by have := kX.1; omega
  have dY : Y < D := by have := kY.1; omega
  have dZ : Z < D := by have := kZ.1; omega
  have dM1 : M1 < D := by have := hT1.lt; omega
  have dM2 : M2 < D := by have := hT2.lt; omega
  have dwD : w.heap.size ≤ D := by have := HB.out.size; omega
  have hT1a : TW [M2, D + 1] w24 M1 (run12 s fs 0) fs ((0 : Nat) : Int) := (hT1.avoid (j := D + 1) (by omega)).less (by simp)
  have hT2a : TW [M1, B7, D + 1] w24 M2 (run12 s [] (nn 1 mn 0)) [] ((nn 1 mn 0 : Nat) : Int) := by rw [nn_zero]; exact (hT2.avoid (j := D + 1) (by omega)).less (by simp)
  have hJ0 : FirJ s fs mn w M1 M2 B6 B7 B8 B9 B10 X Y Z D 0 w24 := ⟨HB.out.toBelow, kb6, kb7, kb8, kb9, kb10, kX, kY, kZ, hT1a, fun j hj => by omega⟩; have HJ0 := hid hJ0; have HT2a := hid hT2a; clear hJ0 hT2a hT1a; refine wp_range_r (α := Nat × SA) (enc := fun x : Nat × SA => #[.int .i64 (x.1 : Int), .agg #[.slice x.2.sa (run12 s [] (nn 1 mn x.1)).store.length x.2.sc, .slice x.2.ta (run12 s [] (nn 1 mn x.1)).tape.length x.2.tc, .int .i64 (run12 s [] (nn 1 mn x.1)).taken, .slice x.2.pa (run12 s [] (nn 1 mn x.1)).printed.length x.2.pc, .int .i64 (run12 s [] (nn 1 mn x.1)).time, .int .i64 (run12 s [] (nn 1 mn x.1)).pc, .int .i64 (run12 s [] (nn 1 mn x.1)).done, .int .i64 (run12 s [] (nn 1 mn x.1)).why]]) (gf := 80) (lb := #[.pointer (some ⟨X, 0, none⟩), .pointer (some ⟨Y, 0, none⟩), .pointer (some ⟨Z, 0, none⟩)]) ?hg ?eg (fun _ => rfl) (fun pre W => FirJ s fs mn w M1 M2 B6 B7 B8 B9 B10 X Y Z D pre.length W ∧ TW [M1, B7, D + 1] W M2 (run12 s [] (nn 1 mn pre.length)) [] ((nn 1 mn pre.length : Nat) : Int)) (fun pre x W => x.1 = pre.length ∧ x.1 < cntN 1 mn ∧ FirJ s fs mn w M1 M2 B6 B7 B8 B9 B10 X Y Z D x.1 W ∧ TW [M1, B7, D + 1] W M2 (run12 s [] (nn 1 mn (x.1 + 1))) [] ((nn 1 mn (x.1 + 1) : Nat) : Int) ∧ RdSt W (run12 s [] (nn 1 mn x.1)) x.2 ∧ ∀ k ∈ [M2, M1, B7, D + 1], x.2.free (run12 s [] (nn 1 mn x.1)) k) (fun xs => xs.length = cntN 1 mn) (fun W => Below w.heap.size w W ∧ Cells W B6 [.int .i64 n] ∧ Cells W B7 (Stp4.cs st) ∧ Cells W B8 [.int .i64 er]) ?hJ ?hD ?h0 ?hiter ?hround ?hdone ?hleave
  case hg => rw [mkA_eval]; go_simp
  case eg => intro args w; rfl
  case hJ =>
   rintro pre Wx r r' ⟨h1, h2⟩ hLx; rw [hDD] at hLx ⊢; exact ⟨h1.old oldB_put (.inr rfl) (by omega) (by omega) (by omega) (by omega) (by omega) (by omega) (by omega) (by omega) (by omega), h2.old oldB_put (by simp)⟩
  case hD =>
   rintro Wx r r' ⟨h1, h2, h3, h4⟩ hLx; rw [hDD] at hLx ⊢; exact ⟨bel_put h1 (by omega), h2.put (by omega), h3.put (by omega), h4.put (by omega)⟩
  case h0 =>
   intro r; have hb : Below w24.heap.size w24 ((w24.alloc (.deferred (some []))).alloc (.loop r)) := ((Below.refl _ _).alloc (Nat.le_refl _) _).alloc (by simp) _; exact ⟨HJ0.out.at hb, HT2a.out.at hb⟩
  case hiter =>
   rintro r r' Wx ⟨h1, h2⟩ hLx hy; rw [hDD] at hLx hy ⊢; refine (stretches1_any [M1, B7, D + 1] s M2 X Y Z (D + 1) [] 1 mn (fun i av W => av = [M1, B7, D + 1] ∧ FirJ s fs mn w M1 M2 B6 B7 B8 B9 B10 X Y Z D i W ∧ LoopAt W D r) (fun W => (Below w.heap.size w W ∧ Cells W B6 [.int .i64 n] ∧ Cells W B7 (Stp4.cs st) ∧ Cells W B8 [.int .i64 er]) ∧ LoopAt W D r') Wx Hok.out (by intro f hf; cases hf) (by decide) (by decide) (by omega) (by have h9 := h2; rw [show ([] : List (Nat × SA)).length = 0 from rfl, nn_zero] at h9; exact h9) (by omega) (by omega) (by omega) ⟨rfl, h1, hLx⟩ (fun i av W W' h ho => ⟨h.1, h.2.1.old ho (.inl rfl) (by omega) (by omega) (by omega) (by omega) (by omega) (by omega) (by omega) (by omega) (by omega), h.2.2.oldB ho (by simp; omega)⟩) (fun i av W h => ⟨h.2.1.cX, h.2.1.cY, h.2.1.cZ, fun k hk => by have a1 := h.2.1.t1.lt; have a2 := h.2.1.c7.1; have a3 := (Array.getElem?_eq_some_iff.1 h.2.2.1).1; rw [h.1] at hk; simp at hk; omega⟩) (fun i av A W hi hT hR hAf h => ?_)).mono ?_
   · obtain ⟨rfl, h8, h9⟩ := h
     refine yield_mono (hy (List.replicate i (0, SA.none)) (i, A) W ⟨by simp, hi, h8, hT, hR, hAf⟩ h9) ?_; rintro e W' (⟨rfl, ⟨h3, h4⟩, h5⟩ | ⟨rfl, h3, h4⟩)
     · rw [show (List.replicate i ((0, SA.none) : Nat × SA) ++ [(i, A)]).length = i + 1 by simp] at h3 h4; exact .inl ⟨rfl, _, h4, rfl, h3, h5⟩
     · exact .inr ⟨rfl, h3, h4⟩
   · rintro e W' ⟨hv, ⟨_, h3, rfl, h4, h5⟩ | ⟨h3, h4⟩⟩
     · refine ⟨hv, .inl ⟨List.replicate (cntN 1 mn) (0, SA.none), ?_, by simp, h5⟩⟩; rw [List.length_replicate]; exact ⟨h4, by rw [cnt_one, nn_one (Nat.le_refl _)]; exact h3⟩
     · exact ⟨hv, .inr ⟨h3, h4⟩⟩
  case hround =>
   clear kb3 kb6 kb7 kb8 kb9 kb10 kX kY kZ qb3 qb6 qb7 qb8 qb9 qb10 qX qY qZ hT1 hT2 HB sl28; rintro pre ⟨i, A'⟩ Wx r ⟨hpl, hic, hj, hT2, hRb, hAf⟩ hL; rw [hDD] at hL ⊢
   simp only [zip2, foldl2, mkA_tmps, tm_put, mkA_mk]
   refine wpIn_abs (fun s28 z' => ?_); have t6 := slg z' sl6; clear sl6; have sl6 := t6; clear t6; have t7 := slg z' sl7; clear sl7; have sl7 := t7; clear t7; have t8 := slg z' sl8; clear sl8; have sl8 := t8; clear t8; have t9 := slg z' sl9; clear sl9; have sl9 := t9; clear t9; have t10 := slg z' sl10; clear sl10; have sl10 := t10; clear t10; have sl29 := gu 29 z'; have sl30 := gu 30 z'; clear z'; have Hpl := hid hpl; clear hpl
   (try dsimp only at Hpl hic hj hT2 hRb hAf)
   rw [cnt_one] at hic; rw [nn_one (show i + 1 ≤ mn by omega)] at hT2
   (try dsimp only at sl30)
   rw [nn_one (show i ≤ mn by omega)] at hRb hAf sl30; obtain ⟨p, hp⟩ : ∃ p, run12 s [] i = p := ⟨_, rfl⟩; rw [hp] at hRb hAf sl30; have Hp := hid hp; clear hp; obtain ⟨q, hq⟩ : ∃ q, run12 s [] (i + 1) = q := ⟨_, rfl⟩; rw [hq] at hT2; have Hq := hid hq; clear hq; have hokp := hid (show OkI p by rw [← Hp.out]; exact after_ok (fs := []) (by intro f hf; cases hf) Hok.out); have hokq := hid (show OkI q by rw [← Hq.out]; exact after_ok (fs := []) (by intro f hf; cases hf) Hok.out); obtain ⟨hbW, k6', k7', k8', k9', k10', kX', kY', kZ', hT1, hu⟩ := hj; have Hu := hid hu; clear hu; have HB := hid (OldB.nil (Bs := []) hbW); clear hbW; have hT2c := hT2; obtain ⟨A2, bm2, km2, gm2, kM2', hR2, hf2, -, -, -, -, -, hav2⟩ := hT2c; have kb6 := k6'; clear k6'; have qb6 := kb6.1; have kb7 := k7'; clear k7'; have qb7 := kb7.1; have kb8 := k8'; clear k8'; have qb8 := kb8.1; have kb9 := k9'; clear k9'; have qb9 := kb9.1; have kb10 := k10'; clear k10'; have qb10 := kb10.1; have kX := kX'
   clear kX'; have qX := kX.1; have kY := kY'; clear kY'; have qY := kY.1; have kZ := kZ'; clear kZ'; have qZ := kZ.1; have kM2 := kM2'; clear kM2'; have qM2 := kM2.1
   refine nxi ?_
   refine region_FI (ρ := some (D + 1)) rfl ?_; refine pl ?_; clear sl29; refine lx [11] ?_; clear sl6 sl7 sl8 sl9 sl10 sl30; intro s29 sl6 sl7 sl8 sl9 sl10 sl30 sl11; refine nli ?_
   refine region_FI (ρ := some (D + 1)) rfl ?_; have HN := hid (OldB.refl [] Wx); refine pa (fun w30 B12 hB kb12 hb31 => ?_); have gb12 := HB.out.gB hB; have lHN_b12 := HN.out.gB hB; have ob6_b12 := oB qb6 hB; have ob7_b12 := oB qb7 hB; have ob8_b12 := oB qb8 hB; have ob9_b12 := oB qb9 hB; have ob10_b12 := oB qb10 hB; have oX_b12 := oB qX hB; have oY_b12 := oB qY hB; have oZ_b12 := oB qZ hB; have oM2_b12 := oB qM2 hB; have eb12 := eB hB; clear hB; clear qb6 qb7 qb8 qb9 qb10 qX qY qZ qM2; revert HB; revert HN; revert kM2; revert kZ; revert kY; revert kX; revert kb10; revert kb9; revert kb8; revert kb7; revert kb6; refine uA hb31 ?_; clear hb31; intro kb6 qb6 kb7 qb7 kb8 qb8 kb9 qb9 kb10 qb10 kX qX kY qY kZ qZ kM2 qM2 HN HB; have qb12 := kb12.1
   have oM1b12 : M1 < B12 := by have := hT1.lt; omega
   have oDb12 : D + 1 < B12 := by have := (Array.getElem?_eq_some_iff.1 hL.1).1; omega
   have cb12 := clx kb12; have zb12 := kb12.2.2; refine pl ?_; refine sto kb12 ?_; clear kb12 cb12 zb12; intro w32 kb12 hb33; clear qb6 qb7 qb8 qb9 qb10 qX qY qZ qM2 qb12; revert HB; revert HN; revert kM2; revert kZ; revert kY; revert kX; revert kb10; revert kb9; revert kb8; revert kb7; revert kb6; refine uO hb33 ?_; clear hb33; intro kb6 qb6 kb7 qb7 kb8 qb8 kb9 qb9 kb10 qb10 kX qX kY qY kZ qZ kM2 qM2 HN HB; have qb12 := kb12.1; replace hL := LoopAt.at hL HN.out.toBelow; replace hT1 := TW.at hT1 HN.out.toBelow; replace hT2 := TW.at hT2 HN.out.toBelow; replace hRb := RdSt.at hRb HN.out.toBelow; replace hR2 := RdSt.at hR2 HN.out.toBelow; clear HN; clear sl30; refine lx [12] ?_; clear sl6 sl7 sl8 sl9 sl10 sl11; intro s34 sl6 sl7 sl8 sl9 sl10 sl11 sl12; refine nli ?_
   refine ⟨hL, fun r' => ?_⟩; obtain ⟨w35, hwP⟩ : ∃ x, x = w32.putObj (D + 1) (.loop r') := ⟨_, rfl⟩
   have hb36 : OldB [D + 1] w32 w35 := by rw [hwP]; exact oldB_put
   have hLp : LoopAt w35 D r' := by rw [hwP]; exact hL.put
   rw [← hwP]; clear hwP; have hDs := (Array.getElem?_eq_some_iff.1 hL.1).1; clear hL; clear qb6 qb7 qb8 qb9 qb10 qX qY qZ qM2 qb12; replace hT1 := TW.old hT1 hb36 (by simp); replace hT2 := TW.old hT2 hb36 (by simp); replace hRb := (by first | exact RdSt.old hRb hb36 | exact RdSt.oldK hRb (hAf _ (by simp)) hb36); replace hR2 := (by first | exact RdSt.old hR2 hb36 | exact RdSt.oldK hR2 (hav2 _ (by simp)) hb36); revert HB; revert kb12; revert kM2; revert kZ; revert kY; revert kX; revert kb10; revert kb9; revert kb8; revert kb7; revert kb6; refine uO hb36 ?_; clear hb36; intro kb6 qb6 kb7 qb7 kb8 qb8 kb9 qb9 kb10 qb10 kX qX kY qY kZ qZ kM2 qM2 kb12 qb12 HB; have hL := hLp; clear hLp
   refine nxi ?_
   refine region_FI (ρ := some (D + 1)) rfl ?_; have cb9_0 := kb9.cell 0 rfl; refine pl ?_; refine cal (tdo_any [M2, D + 1] (run12 s fs i) M1 fs i _ hT1 (fun k hk => by have a1 := qM2; have a2 := (Array.getElem?_eq_some_iff.1 hL.1).1; simp at hk; omega) (after_ok Hfo.out Hok.out) Hfo.out hfl (by omega)) ?_; rintro e w37 ⟨rfl, hT9, hb38⟩; clear hT1; rw [← run12_snoc] at hT9; obtain ⟨c, hc⟩ : ∃ c, run12 s fs (i + 1) = c := ⟨_, rfl⟩; rw [hc] at hT9; have Hc := hid hc; have hokc := hid (show OkI c by rw [← hc]; exact after_ok Hfo.out Hok.out); clear hc; have hT1 := hT9; clear hT9; have hT1c := hT1; obtain ⟨A1, bm1, km1, gm1, kM1', hR1, hf1, -, -, -, -, -, hav1⟩ := hT1c; refine ⟨_, rfl, ?_⟩; clear cb9_0; clear qb6 qb7 qb8 qb9 qb10 qX qY qZ qM2 qb12; replace hT2 := TW.old hT2 hb38 (by simp); replace hRb := (by first | exact RdSt.old hRb hb38 | exact RdSt.oldK hRb (hAf _ (by simp)) hb38); replace hR2 := (by first | exact RdSt.old hR2 hb38 | exact RdSt.oldK hR2 (hav2 _ (by simp)) hb38); replace hL := LoopAt.oldB hL hb38 XW33e; revert HB; revert kb12; revert kM2; revert kZ; revert kY; revert kX; revert kb10; revert kb9; revert kb8; revert kb7; revert kb6; refine uO hb38 ?_; clear hb38; intro kb6 qb6 kb7 qb7 kb8 qb8 kb9 qb9 kb10 qb10 kX qX kY qY kZ qZ kM2 qM2 kb12 qb12 HB; have kM1 := kM1'; clear kM1'; have qM1 := kM1.1; refine lx [] ?_; clear sl6 sl7 sl8 sl9 sl10 sl11 sl12; intro s39 sl6 sl7 sl8 sl9 sl10 sl11 sl12; refine nli ?_
   have cb6_0 := kb6.cell 0 rfl; obtain ⟨cb7_0, cb7_1, cb7_2, cb7_3, cb7_4, cb7_5, cb7_6⟩ := cl7 kb7; have cb8_0 := kb8.cell 0 rfl; have cb9_0 := kb9.cell 0 rfl; have cb10_0 := kb10.cell 0 rfl; have cX_0 := kX.cell 0 rfl; have cY_0 := kY.cell 0 rfl; have cZ_0 := kZ.cell 0 rfl; have cM2 := clx kM2; have cb12 := clx kb12; have cM1 := clx kM1; refine rgI (ρ := some (D + 1)) 8 [?_,?_,?_,?_,?_,?_,?_,?_] ?walk32 ?dep32
   case walk32 =>
    iterate 8 refine rq ?_
    refine walkR_nil (fun X hX w40 hwz hcz => ?_); clear hX hcz
    (try clear X)
    skip; have hb41 := hwz.unDrew; clear hwz; clear cM1 cM2 cX_0 cY_0 cZ_0 cb10_0 cb12 cb6_0 cb7_0 cb7_1 cb7_2 cb7_3 cb7_4 cb7_5 cb7_6 cb8_0 cb9_0; clear qb6 qb7 qb8 qb9 qb10 qX qY qZ qM2 qb12 qM1; replace hT2 := TW.old hT2 hb41 (by simp); replace hRb := (by first | exact RdSt.old hRb hb41 | exact RdSt.oldK hRb (hAf _ (by simp)) hb41); replace hR2 := (by first | exact RdSt.old hR2 hb41 | exact RdSt.oldK hR2 (hav2 _ (by simp)) hb41); replace hL := LoopAt.oldB hL hb41 XW33e; replace hT1 := TW.old hT1 hb41 (by simp); replace hR1 := (by first | exact RdSt.old hR1 hb41 | exact RdSt.oldK hR1 (hav1 _ (by simp)) hb41); revert HB; revert kM1; revert kb12; revert kM2; revert kZ; revert kY; revert kX; revert kb10; revert kb9; revert kb8; revert kb7; revert kb6; refine uO hb41 ?_; clear hb41; intro kb6 qb6 kb7 qb7 kb8 qb8 kb9 qb9 kb10 qb10 kX qX kY qY kZ qZ kM2 qM2 kb12 qb12 kM1 qM1 HB
    refine cal (tequal_any c A1 q A2 _ hR1 hR2 hokc.out.len hokq.out.len) ?_; rintro e w42 ⟨rfl, hb43⟩; refine ⟨_, rfl, ?_⟩; clear qb6 qb7 qb8 qb9 qb10 qX qY qZ qM2 qb12 qM1; replace hT2 := TW.at hT2 hb43; replace hRb := RdSt.at hRb hb43; replace hR2 := RdSt.at hR2 hb43; replace hL := LoopAt.at hL hb43; replace hT1 := TW.at hT1 hb43; replace hR1 := RdSt.at hR1 hb43; revert HB; revert kM1; revert kb12; revert kM2; revert kZ; revert kY; revert kX; revert kb10; revert kb9; revert kb8; revert kb7; revert kb6; refine uA hb43 ?_; clear hb43; intro kb6 qb6 kb7 qb7 kb8 qb8 kb9 qb9 kb10 qb10 kX qX kY qY kZ qZ kM2 qM2 kb12 qb12 kM1 qM1 HB; clear sl9; refine lx [41] ?_; clear sl6 sl7 sl8 sl10 sl11 sl12; intro s44 sl6 sl7 sl8 sl10 sl11 sl12 sl41; refine nli ?_
    refine cond_EI sl41 (by decide) ?_ ?_ <;> (clear sl41; intro h41 sl41)
    ·skip
     have H41 := hid h41; clear h41
     refine nxi ?_
     have hpl2 : (pre ++ [(i, A')]).length = i + 1 := by simp [← Hpl.out]
     refine ⟨.inl ⟨rfl, ?_⟩, hL⟩; rw [hpl2, nn_one (show i + 1 ≤ mn by omega), Hq.out]; refine ⟨⟨HB.out.toBelow, kb6, kb7, kb8, kb9, kb10, kX, kY, kZ, by rw [Hc.out]; exact hT1, fun j hj => ?_⟩, hT2⟩
     rcases Nat.lt_or_ge j i with h | h
     · exact Hu.out j h
     · have e : j = i := by omega
       subst e; unfold firstU; rw [Hc.out, ← run_nil, Hq.out]; simpa using H41.out
    ·skip
     have H41 := hid h41; clear h41; clear hT1 hT2 hR1 hR2
     refine nxi ?_
     have cb6_0 := kb6.cell 0 rfl; obtain ⟨cb7_0, cb7_1, cb7_2, cb7_3, cb7_4, cb7_5, cb7_6⟩ := cl7 kb7; have cb8_0 := kb8.cell 0 rfl; have cb9_0 := kb9.cell 0 rfl; have cb10_0 := kb10.cell 0 rfl; have cX_0 := kX.cell 0 rfl; have cY_0 := kY.cell 0 rfl; have cZ_0 := kZ.cell 0 rfl; have cM2 := clx kM2; have cb12 := clx kb12; have cM1 := clx kM1; refine rgI (ρ := some (D + 1)) 9 [?_,?_,?_,?_,?_,?_,?_,?_,?_] ?walk33 ?dep33
     case walk33 =>
      iterate 9 refine rq ?_
      refine walkR_nil (fun X hX w45 hwz hcz => ?_); clear hX hcz
      (try clear X)
      skip; have hb46 := hwz.unDrew; clear hwz; clear cM1 cM2 cX_0 cY_0 cZ_0 cb10_0 cb12 cb6_0 cb7_0 cb7_1 cb7_2 cb7_3 cb7_4 cb7_5 cb7_6 cb8_0 cb9_0; clear qb6 qb7 qb8 qb9 qb10 qX qY qZ qM2 qb12 qM1; replace hRb := (by first | exact RdSt.old hRb hb46 | exact RdSt.oldK hRb (hAf _ (by simp)) hb46); replace hL := LoopAt.oldB hL hb46 XW33e; revert HB; revert kM1; revert kb12; revert kM2; revert kZ; revert kY; revert kX; revert kb10; revert kb9; revert kb8; revert kb7; revert kb6; refine uO hb46 ?_; clear hb46; intro kb6 qb6 kb7 qb7 kb8 qb8 kb9 qb9 kb10 qb10 kX qX kY qY kZ qZ kM2 qM2 kb12 qb12 kM1 qM1 HB; refine pl ?_; obtain ⟨cb7_0, cb7_1, cb7_2, cb7_3, cb7_4, cb7_5, cb7_6⟩ := cl7 kb7; have zb7 := kb7.2.2; refine pl ?_; refine sto kb7 ?_; clear kb7 cb7_0 cb7_1 cb7_2 cb7_3 cb7_4 cb7_5 cb7_6 zb7; intro w47 kb7 hb48; clear qb6 qb7 qb8 qb9 qb10 qX qY qZ qM2 qb12 qM1; replace hRb := (by first | exact RdSt.old hRb hb48 | exact RdSt.oldK hRb (hAf _ (by simp)) hb48); replace hL := LoopAt.oldB hL hb48 XW33e; revert HB; revert kM1; revert kb12; revert kM2; revert kZ; revert kY; revert kX; revert kb10; revert kb9; revert kb8; revert kb6; refine uO hb48 ?_; clear hb48; intro kb6 qb6 kb8 qb8 kb9 qb9 kb10 qb10 kX qX kY qY kZ qZ kM2 qM2 kb12 qb12 kM1 qM1 HB; have qb7 := kb7.1; clear sl41; refine lx [] ?_; clear sl6 sl7 sl8 sl10 sl11 sl12; intro s49 sl6 sl7 sl8 sl10 sl11 sl12; refine nli ?_
      have cb6_0 := kb6.cell 0 rfl; obtain ⟨cb7_0, cb7_1, cb7_2, cb7_3, cb7_4, cb7_5, cb7_6⟩ := cl7 kb7; have cb8_0 := kb8.cell 0 rfl; have cb9_0 := kb9.cell 0 rfl; have cb10_0 := kb10.cell 0 rfl; have cX_0 := kX.cell 0 rfl; have cY_0 := kY.cell 0 rfl; have cZ_0 := kZ.cell 0 rfl; have cM2 := clx kM2; have cb12 := clx kb12; have cM1 := clx kM1; refine rgI (ρ := some (D + 1)) 7 [?_,?_,?_,?_,?_,?_,?_] ?walk34 ?dep34
      case walk34 =>
       iterate 7 refine rq ?_
       refine walkR_nil (fun X hX w50 hwz hcz => ?_); clear hX hcz
       (try clear X)
       skip; have hb51 := hwz.unDrew; clear hwz; clear cM1 cM2 cX_0 cY_0 cZ_0 cb10_0 cb12 cb6_0 cb7_0 cb7_1 cb7_2 cb7_3 cb7_4 cb7_5 cb7_6 cb8_0 cb9_0; clear qb6 qb7 qb8 qb9 qb10 qX qY qZ qM2 qb12 qM1; replace hRb := (by first | exact RdSt.old hRb hb51 | exact RdSt.oldK hRb (hAf _ (by simp)) hb51); replace hL := LoopAt.oldB hL hb51 XW33e; revert HB; revert kM1; revert kb12; revert kM2; revert kZ; revert kY; revert kX; revert kb10; revert kb9; revert kb8; revert kb7; revert kb6; refine uO hb51 ?_; clear hb51; intro kb6 qb6 kb7 qb7 kb8 qb8 kb9 qb9 kb10 qb10 kX qX kY qY kZ qZ kM2 qM2 kb12 qb12 kM1 qM1 HB; refine pl ?_; clear sl10; refine lx [59] ?_; clear sl6 sl7 sl8 sl11 sl12; intro s52 sl6 sl7 sl8 sl11 sl12 sl59; refine nli ?_
       refine cond_EI sl59 (by decide) ?_ ?_ <;> (clear sl59; intro h59 sl59)
       ·skip
        refine nxi ?_
        refine region_FI (ρ := some (D + 1)) rfl ?_; refine pl ?_; have cb12 := clx kb12
        refine P3 ?_
        clear sl59; refine lx [62,64] ?_; clear sl6 sl7 sl8 sl11 sl12; intro s53 sl6 sl7 sl8 sl11 sl12 sl62 sl64; obtain ⟨pn, hpn⟩ : ∃ n : Nat, p.pc = (n : Int) := ⟨p.pc.toNat, by have := hokp.out.pc; omega⟩
        have hpl8 : pn < p.store.length := by have := hokp.out.pc; have := hokp.out.l0; omega
        have hpl9 : (pn : Int) < (p.store.length : Int) := by omega
        obtain ⟨bs, os, hse, hbs, hcs⟩ := RdInts.ne hRb.st hpl8; rw [hpn] at sl64; rw [hse] at sl62; obtain ⟨wd, hwd⟩ : ∃ y, p.store[pn] = y := ⟨_, rfl⟩; rw [hwd] at hcs; have hwd12 := hokp.out.w0 wd (by rw [← hwd]; exact List.getElem_mem hpl8); have Hord := hid (show orderOf p = decodeO wd by unfold orderOf; rw [hpn, Int.toNat_natCast, getD_get hpl8, hwd]); clear hwd hpn hse; refine P2 ?_; refine cal (oDecode_ok wd _ hwd12) ?_; rintro e w54 ⟨rfl, hb55⟩; refine ⟨_, rfl, ?_⟩; clear cb12; clear qb6 qb7 qb8 qb9 qb10 qX qY qZ qM2 qb12 qM1; replace hRb := RdSt.at hRb hb55; replace hL := LoopAt.at hL hb55; revert HB; revert kM1; revert kb12; revert kM2; revert kZ; revert kY; revert kX; revert kb10; revert kb9; revert kb8; revert kb7; revert kb6; refine uA hb55 ?_; clear hb55; intro kb6 qb6 kb7 qb7 kb8 qb8 kb9 qb9 kb10 qb10 kX qX kY qY kZ qZ kM2 qM2 kb12 qb12 kM1 qM1 HB; clear hRb hcs
        refine P4 ?_
        obtain ⟨cb7_0, cb7_1, cb7_2, cb7_3, cb7_4, cb7_5, cb7_6⟩ := cl7 kb7; have zb7 := kb7.2.2; refine pl ?_; refine sto kb7 ?_; clear kb7 cb7_0 cb7_1 cb7_2 cb7_3 cb7_4 cb7_5 cb7_6 zb7; intro w56 kb7 hb57; clear qb6 qb7 qb8 qb9 qb10 qX qY qZ qM2 qb12 qM1; replace hL := LoopAt.oldB hL hb57 XW33e; revert HB; revert kM1; revert kb12; revert kM2; revert kZ; revert kY; revert kX; revert kb10; revert kb9; revert kb8; revert kb6; refine uO hb57 ?_; clear hb57; intro kb6 qb6 kb8 qb8 kb9 qb9 kb10 qb10 kX qX kY qY kZ qZ kM2 qM2 kb12 qb12 kM1 qM1 HB; have qb7 := kb7.1; clear sl12 sl62 sl64; refine lx [] ?_; clear sl6 sl7 sl8 sl11; intro s58 sl6 sl7 sl8 sl11; refine nli ?_
        have cb6_0 := kb6.cell 0 rfl; obtain ⟨cb7_0, cb7_1, cb7_2, cb7_3, cb7_4, cb7_5, cb7_6⟩ := cl7 kb7; have cb8_0 := kb8.cell 0 rfl; have cb9_0 := kb9.cell 0 rfl; have cb10_0 := kb10.cell 0 rfl; have cX_0 := kX.cell 0 rfl; have cY_0 := kY.cell 0 rfl; have cZ_0 := kZ.cell 0 rfl; have cM2 := clx kM2; have cb12 := clx kb12; have cM1 := clx kM1
        have nb7_b6 : ¬ B7 = B6 := by omega
        have nb8_b6 : ¬ B8 = B6 := by omega
        have nb9_b6 : ¬ B9 = B6 := by omega
        have nb10_b6 : ¬ B10 = B6 := by omega
        have nX_b6 : ¬ X = B6 := by omega
        have nY_b6 : ¬ Y = B6 := by omega
        have nZ_b6 : ¬ Z = B6 := by omega
        have nM2_b6 : ¬ M2 = B6 := by omega
        have nb12_b6 : ¬ B12 = B6 := by omega
        have nM1_b6 : ¬ M1 = B6 := by omega
        refine regionR_FI (ρ := some (D + 1)) [B6] [[.int .i64 0]] [5] [.q [], .q [], .st 5] [?v35_0, ?v35_1, fun _ => undef] [fun _ => [], fun _ => [], ?c35_2] (by kernel_rfl) (by kernel_rfl) (by kernel_rfl) (by kernel_rfl) (by kernel_rfl) XW33f (bc_cons (by repeat (first | (with_reducible exact kb6) | (with_reducible refine Cells.drew ?_) | (with_reducible refine Cells.up ?_ _) | (with_reducible refine Cells.setFar ?_ (by omega)))) bc_nil) ?walk35 ?dep35 (by repeat (first | refine out_then ?_ | refine out_inB ?_); rintro ⟨_, _, h, _⟩; rcases h with ⟨h, _⟩ | ⟨h, _⟩ <;> cases h) rfl
        case walk35 =>
         refine rq ?_; refine rq ?_; refine walkR_st (by rfl) (fun X hX wq hwq hkq => ?_) ?_
         · exact XW33d
         refine walkR_nil (fun X hX w59 hwz hcz => ?_); have kz0 := hcz 5 (by simp); rw [show X 5 = B6 from hX.at0 0 _ rfl] at kz0
         simp only [updC_some, updC_none, Nat.reduceEqDiff, ↓reduceIte] at kz0
         clear hX hcz
         (try clear X)
         clear nb7_b6 nb8_b6 nb9_b6 nb10_b6 nX_b6 nY_b6 nZ_b6 nM2_b6 nb12_b6 nM1_b6; have hb60 := hwz.unDrew; clear hwz
         (try simp only [stC, mC, tC, tC, List.set_cons_zero, List.set_cons_succ] at kz0)
         clear cM1 cM2 cX_0 cY_0 cZ_0 cb10_0 cb12 cb6_0 cb7_0 cb7_1 cb7_2 cb7_3 cb7_4 cb7_5 cb7_6 cb8_0 cb9_0; clear qb6 qb7 qb8 qb9 qb10 qX qY qZ qM2 qb12 qM1; replace kb6 := kz0; replace hL := LoopAt.oldB hL hb60 XW33e; revert HB; revert kM1; revert kb12; revert kM2; revert kZ; revert kY; revert kX; revert kb10; revert kb9; revert kb8; revert kb7; refine uO hb60 ?_; clear hb60; intro kb7 qb7 kb8 qb8 kb9 qb9 kb10 qb10 kX qX kY qY kZ qZ kM2 qM2 kb12 qb12 kM1 qM1 HB; have qb6 := kb6.1; clear kz0; obtain ⟨cb7_0, cb7_1, cb7_2, cb7_3, cb7_4, cb7_5, cb7_6⟩ := cl7 kb7; have zb7 := kb7.2.2; refine pl ?_; refine sto kb7 ?_; clear kb7 cb7_0 cb7_1 cb7_2 cb7_3 cb7_4 cb7_5 cb7_6 zb7; intro w61 kb7 hb62; clear qb6 qb7 qb8 qb9 qb10 qX qY qZ qM2 qb12 qM1; replace hL := LoopAt.oldB hL hb62 XW33e; revert HB; revert kM1; revert kb12; revert kM2; revert kZ; revert kY; revert kX; revert kb10; revert kb9; revert kb8; revert kb6; refine uO hb62 ?_; clear hb62; intro kb6 qb6 kb8 qb8 kb9 qb9 kb10 qb10 kX qX kY qY kZ qZ kM2 qM2 kb12 qb12 kM1 qM1 HB; have qb7 := kb7.1; have cb8_0 := kb8.cell 0 rfl; have zb8 := kb8.2.2; refine pl ?_; refine sto kb8 ?_; clear kb8 cb8_0 zb8; intro w63 kb8 hb64; clear qb6 qb7 qb8 qb9 qb10 qX qY qZ qM2 qb12 qM1; replace hL := LoopAt.oldB hL hb64 XW33e; revert HB; revert kM1; revert kb12; revert kM2; revert kZ; revert kY; revert kX; revert kb10; revert kb9; revert kb7; revert kb6; refine uO hb64 ?_; clear hb64; intro kb6 qb6 kb7 qb7 kb9 qb9 kb10 qb10 kX qX kY qY kZ qZ kM2 qM2 kb12 qb12 kM1 qM1 HB; have qb8 := kb8.1; clear sl11; refine lx [] ?_; clear sl6 sl7 sl8; intro s65 sl6 sl7 sl8; refine nli ?_
         refine ⟨.inr ⟨rfl, ?_⟩, hL⟩
         have hfu : firstU s fs i = true := by unfold firstU; rw [Hc.out, ← run_nil, Hq.out]; simpa using H41.out
         have e9 := Hfr.out.symm.trans (firstR_at HA0.out (by omega) Hu.out hfu); rw [← run_nil, ← run_nil, Hp.out, Hq.out] at e9
         obtain ⟨rfl, rfl, rfl⟩ : n = (i : Int) ∧ st = stepOf p q ∧ er = 0 := by simpa using e9
         refine ⟨HB.out.toBelow, kb6, ?_, kb8⟩; refine Cells.conv kb7 ?_; unfold stepOf; rw [if_pos (show p.done < q.done by simpa using h59), Hord.out]
         (try rfl)
        case dep35 => exact dA
       ·skip
        clear hRb
        refine nxi ?_
        have cb6_0 := kb6.cell 0 rfl; obtain ⟨cb7_0, cb7_1, cb7_2, cb7_3, cb7_4, cb7_5, cb7_6⟩ := cl7 kb7; have cb8_0 := kb8.cell 0 rfl; have cb9_0 := kb9.cell 0 rfl; have cb10_0 := kb10.cell 0 rfl; have cX_0 := kX.cell 0 rfl; have cY_0 := kY.cell 0 rfl; have cZ_0 := kZ.cell 0 rfl; have cM2 := clx kM2; have cb12 := clx kb12; have cM1 := clx kM1
        have nb7_b6 : ¬ B7 = B6 := by omega
        have nb8_b6 : ¬ B8 = B6 := by omega
        have nb9_b6 : ¬ B9 = B6 := by omega
        have nb10_b6 : ¬ B10 = B6 := by omega
        have nX_b6 : ¬ X = B6 := by omega
        have nY_b6 : ¬ Y = B6 := by omega
        have nZ_b6 : ¬ Z = B6 := by omega
        have nM2_b6 : ¬ M2 = B6 := by omega
        have nb12_b6 : ¬ B12 = B6 := by omega
        have nM1_b6 : ¬ M1 = B6 := by omega
        refine regionR_FI (ρ := some (D + 1)) [B6] [[.int .i64 0]] [5] [.q [], .q [], .st 5] [?v36_0, ?v36_1, fun _ => undef] [fun _ => [], fun _ => [], ?c36_2] (by kernel_rfl) (by kernel_rfl) (by kernel_rfl) (by kernel_rfl) (by kernel_rfl) XW33f (bc_cons (by repeat (first | (with_reducible exact kb6) | (with_reducible refine Cells.drew ?_) | (with_reducible refine Cells.up ?_ _) | (with_reducible refine Cells.setFar ?_ (by omega)))) bc_nil) ?walk36 ?dep36 (by repeat (first | refine out_then ?_ | refine out_inB ?_); rintro ⟨_, _, h, _⟩; rcases h with ⟨h, _⟩ | ⟨h, _⟩ <;> cases h) rfl
        case walk36 =>
         refine rq ?_; refine rq ?_; refine walkR_st (by rfl) (fun X hX wq hwq hkq => ?_) ?_
         · exact XW33d
         refine walkR_nil (fun X hX w66 hwz hcz => ?_); have kz0 := hcz 5 (by simp); rw [show X 5 = B6 from hX.at0 0 _ rfl] at kz0
         simp only [updC_some, updC_none, Nat.reduceEqDiff, ↓reduceIte] at kz0
         clear hX hcz
         (try clear X)
         clear nb7_b6 nb8_b6 nb9_b6 nb10_b6 nX_b6 nY_b6 nZ_b6 nM2_b6 nb12_b6 nM1_b6; have hb67 := hwz.unDrew; clear hwz
         (try simp only [stC, mC, tC, tC, List.set_cons_zero, List.set_cons_succ] at kz0)
         clear cM1 cM2 cX_0 cY_0 cZ_0 cb10_0 cb12 cb6_0 cb7_0 cb7_1 cb7_2 cb7_3 cb7_4 cb7_5 cb7_6 cb8_0 cb9_0; clear qb6 qb7 qb8 qb9 qb10 qX qY qZ qM2 qb12 qM1; replace kb6 := kz0; replace hL := LoopAt.oldB hL hb67 XW33e; revert HB; revert kM1; revert kb12; revert kM2; revert kZ; revert kY; revert kX; revert kb10; revert kb9; revert kb8; revert kb7; refine uO hb67 ?_; clear hb67; intro kb7 qb7 kb8 qb8 kb9 qb9 kb10 qb10 kX qX kY qY kZ qZ kM2 qM2 kb12 qb12 kM1 qM1 HB; have qb6 := kb6.1; clear kz0; obtain ⟨cb7_0, cb7_1, cb7_2, cb7_3, cb7_4, cb7_5, cb7_6⟩ := cl7 kb7; have zb7 := kb7.2.2; refine pl ?_; refine sto kb7 ?_; clear kb7 cb7_0 cb7_1 cb7_2 cb7_3 cb7_4 cb7_5 cb7_6 zb7; intro w68 kb7 hb69; clear qb6 qb7 qb8 qb9 qb10 qX qY qZ qM2 qb12 qM1; replace hL := LoopAt.oldB hL hb69 XW33e; revert HB; revert kM1; revert kb12; revert kM2; revert kZ; revert kY; revert kX; revert kb10; revert kb9; revert kb8; revert kb6; refine uO hb69 ?_; clear hb69; intro kb6 qb6 kb8 qb8 kb9 qb9 kb10 qb10 kX qX kY qY kZ qZ kM2 qM2 kb12 qb12 kM1 qM1 HB; have qb7 := kb7.1; have cb8_0 := kb8.cell 0 rfl; have zb8 := kb8.2.2; refine pl ?_; refine sto kb8 ?_; clear kb8 cb8_0 zb8; intro w70 kb8 hb71; clear qb6 qb7 qb8 qb9 qb10 qX qY qZ qM2 qb12 qM1; replace hL := LoopAt.oldB hL hb71 XW33e; revert HB; revert kM1; revert kb12; revert kM2; revert kZ; revert kY; revert kX; revert kb10; revert kb9; revert kb7; revert kb6; refine uO hb71 ?_; clear hb71; intro kb6 qb6 kb7 qb7 kb9 qb9 kb10 qb10 kX qX kY qY kZ qZ kM2 qM2 kb12 qb12 kM1 qM1 HB; have qb8 := kb8.1; clear sl11 sl12 sl59; refine lx [] ?_; clear sl6 sl7 sl8; intro s72 sl6 sl7 sl8; refine nli ?_
         refine ⟨.inr ⟨rfl, ?_⟩, hL⟩
         have hfu : firstU s fs i = true := by unfold firstU; rw [Hc.out, ← run_nil, Hq.out]; simpa using H41.out
         have e9 := Hfr.out.symm.trans (firstR_at HA0.out (by omega) Hu.out hfu); rw [← run_nil, ← run_nil, Hp.out, Hq.out] at e9
         obtain ⟨rfl, rfl, rfl⟩ : n = (i : Int) ∧ st = stepOf p q ∧ er = 0 := by simpa using e9
         refine ⟨HB.out.toBelow, kb6, ?_, kb8⟩; refine Cells.conv kb7 ?_; unfold stepOf; rw [if_neg (show ¬ p.done < q.done by simpa using h59)]
         (try rfl)
        case dep36 => exact dA
      case dep34 => exact dA
     case dep33 => exact dA
   case dep32 => exact dA
  case hdone =>
   clear kb3 kb6 kb7 kb8 kb9 kb10 kX kY kZ qb3 qb6 qb7 qb8 qb9 qb10 qX qY qZ hT1 hT2 HB; rintro xs Wx ⟨h1, -⟩ hFin hDm; rw [hDD] at hDm ⊢
   simp only [mkA_tmps, mkA_defers, mkA_eta]
   obtain ⟨hbW, k6', k7', k8', k9', k10', kX', kY', kZ', hT1, hu⟩ := h1; clear k9' k10' kX' kY' kZ' hT1; have HB := hid (OldB.nil (Bs := []) hbW); clear hbW; have e9 := Hfr.out.symm.trans (firstR_no HA0.out (fun j hj => hu j (by rw [hFin, cnt_one]; exact hj)))
   obtain ⟨rfl, rfl, rfl⟩ : n = 0 ∧ st = Stp4.zero ∧ er = 9 := by simpa using e9
   clear hu hFin e9; have kb6 := k6'; clear k6'; have qb6 := kb6.1; have kb7 := k7'; clear k7'; have qb7 := kb7.1; have kb8 := k8'; clear k8'; have qb8 := kb8.1
   refine zx ?_; intros
   have cb6_0 := kb6.cell 0 rfl; obtain ⟨cb7_0, cb7_1, cb7_2, cb7_3, cb7_4, cb7_5, cb7_6⟩ := cl7 kb7; have cb8_0 := kb8.cell 0 rfl
   have nb7_b6 : ¬ B7 = B6 := by omega
   have nb8_b6 : ¬ B8 = B6 := by omega
   refine regionR_F [B6] [[.int .i64 0]] [4] [.q [], .st 4] [?v37_0, fun _ => undef] [fun _ => [], ?c37_1] (by kernel_rfl) (by kernel_rfl) (by kernel_rfl) (by kernel_rfl) (by kernel_rfl) XW33f (bc_cons (by repeat (first | (with_reducible exact kb6) | (with_reducible refine Cells.drew ?_) | (with_reducible refine Cells.up ?_ _) | (with_reducible refine Cells.setFar ?_ (by omega)))) bc_nil) ?walk37 ?dep37
   case walk37 =>
    refine rq ?_; refine walkR_st (by rfl) (fun X hX wq hwq hkq => ?_) ?_
    · rw [show X 4 = B6 from hX.at0 0 _ rfl] at hkq ⊢
      replace hkq : Cells wq B6 [.int .i64 0] := hkq; have hks := hkq.1; have hkz := hkq.2.2; have hk0 := hkq.cell 0 rfl; go_simp
      (first | ((with_reducible refine writeB_mk (Cells.set hkq) ?_ ?_); (focus (repeat (first | (with_reducible exact Only.refl _ _) | (with_reducible refine Only.set ?_)))); rfl))
    refine walkR_nil (fun X hX w73 hwz hcz => ?_); have kz0 := hcz 4 (by simp); rw [show X 4 = B6 from hX.at0 0 _ rfl] at kz0
    simp only [updC_some, updC_none, Nat.reduceEqDiff, ↓reduceIte] at kz0
    clear hX hcz
    (try clear X)
    clear nb7_b6 nb8_b6; have hb74 := hwz.unDrew; clear hwz
    (try simp only [stC, mC, tC, tC, List.set_cons_zero, List.set_cons_succ] at kz0)
    clear cb6_0 cb7_0 cb7_1 cb7_2 cb7_3 cb7_4 cb7_5 cb7_6 cb8_0; clear qb6 qb7 qb8; replace kb6 := kz0; replace hDm := Dfr.oldB hDm hb74 XW33e; revert HB; revert kb8; revert kb7; refine uO hb74 ?_; clear hb74; intro kb7 qb7 kb8 qb8 HB; have qb6 := kb6.1; clear kz0; obtain ⟨cb7_0, cb7_1, cb7_2, cb7_3, cb7_4, cb7_5, cb7_6⟩ := cl7 kb7; have zb7 := kb7.2.2; refine pl ?_; refine sto kb7 ?_; clear kb7 cb7_0 cb7_1 cb7_2 cb7_3 cb7_4 cb7_5 cb7_6 zb7; intro w75 kb7 hb76; clear qb6 qb7 qb8; replace hDm := Dfr.oldB hDm hb76 XW33e; revert HB; revert kb8; revert kb6; refine uO hb76 ?_; clear hb76; intro kb6 qb6 kb8 qb8 HB; have qb7 := kb7.1; have cb8_0 := kb8.cell 0 rfl; have zb8 := kb8.2.2; refine pl ?_; refine sto kb8 ?_; clear kb8 cb8_0 zb8; intro w77 kb8 hb78; clear qb6 qb7 qb8; replace hDm := Dfr.oldB hDm hb78 XW33e; revert HB; revert kb7; revert kb6; refine uO hb78 ?_; clear hb78; intro kb6 qb6 kb7 qb7 HB; have qb8 := kb8.1; clear sl9 sl10 sl28; refine lx [] ?_; clear sl6 sl7 sl8; intro s79 sl6 sl7 sl8; refine ln ?_; intros
    have kRb6 := kb6.put (o := .deferred none) (show B6 ≠ D by omega); have cRb6_0 := kRb6.cell 0 rfl; have kRb7 := kb7.put (o := .deferred none) (show B7 ≠ D by omega); obtain ⟨cRb7_0, cRb7_1, cRb7_2, cRb7_3, cRb7_4, cRb7_5, cRb7_6⟩ := cl7 kRb7; have kRb8 := kb8.put (o := .deferred none) (show B8 ≠ D by omega); have cRb8_0 := kRb8.cell 0 rfl; refine XW33g ?_; exact ⟨rfl, bel_put HB.out.toBelow (by omega)⟩
   case dep37 => exact dA
  case hleave =>
   clear kb3 kb6 kb7 kb8 kb9 kb10 kX kY kZ qb3 qb6 qb7 qb8 qb9 qb10 qX qY qZ hT1 hT2 HB; rintro Wx ⟨hbW, k6', k7', k8'⟩ hDm; rw [hDD] at hDm ⊢
   simp only [mkA_tmps, mkA_defers, mkA_eta]
   have HB := hid (OldB.nil (Bs := []) hbW); clear hbW; have kb6 := k6'; clear k6'; have qb6 := kb6.1; have kb7 := k7'; clear k7'; have qb7 := kb7.1; have kb8 := k8'; clear k8'; have qb8 := kb8.1; have kRb6 := kb6.put (o := .deferred none) (show B6 ≠ D by omega); have cRb6_0 := kRb6.cell 0 rfl; have kRb7 := kb7.put (o := .deferred none) (show B7 ≠ D by omega); obtain ⟨cRb7_0, cRb7_1, cRb7_2, cRb7_3, cRb7_4, cRb7_5, cRb7_6⟩ := cl7 kRb7; have kRb8 := kb8.put (o := .deferred none) (show B8 ≠ D by omega); have cRb8_0 := kRb8.cell 0 rfl; refine XW33g ?_; exact ⟨rfl, bel_put HB.out.toBelow (by omega)⟩
 ·skip
  have e9 := Hfr.out.symm.trans (firstR_bad HA.out he)
  obtain ⟨rfl, rfl, rfl⟩ : n = 0 ∧ st = Stp4.zero ∧ er = ea := by simpa using e9
  refine region_F ?_; have cb8_0 := kb8.cell 0 rfl; refine P2 ?_; refine lx [18] ?_; clear sl1 sl2 sl3 sl6 sl7 sl8; intro s80 sl1 sl2 sl3 sl6 sl7 sl8 sl18; refine ln ?_; intros
  refine cond_t ?_
  refine zx ?_; intros
  have cb3 := clx kb3; have cb6_0 := kb6.cell 0 rfl; obtain ⟨cb7_0, cb7_1, cb7_2, cb7_3, cb7_4, cb7_5, cb7_6⟩ := cl7 kb7
  have nb3_b6 : ¬ B3 = B6 := by omega
  have nb3_b7 : ¬ B3 = B7 := by omega
  have nb3_b8 : ¬ B3 = B8 := by omega
  have nb6_b7 : ¬ B6 = B7 := by omega
  have nb6_b8 : ¬ B6 = B8 := by omega
  have nb7_b6 : ¬ B7 = B6 := by omega
  have nb7_b8 : ¬ B7 = B8 := by omega
  have nb8_b6 : ¬ B8 = B6 := by omega
  have nb8_b7 : ¬ B8 = B7 := by omega
  refine regionR_F [B6, B7, B8] [_, _, _] [5, 6, 7] [.q [6], .q [7], .st 5, .st 6] [?v38_0, ?v38_1, fun _ => undef, fun _ => undef] [fun _ => [], fun _ => [], ?c38_2, ?c38_3] (by kernel_rfl) (by kernel_rfl) (by kernel_rfl) (by kernel_rfl) (by kernel_rfl) XW33f (bc_cons (by repeat (first | (with_reducible exact kb6) | (with_reducible refine Cells.drew ?_) | (with_reducible refine Cells.up ?_ _) | (with_reducible refine Cells.setFar ?_ (by omega)))) (bc_cons (by repeat (first | (with_reducible exact kb7) | (with_reducible refine Cells.drew ?_) | (with_reducible refine Cells.up ?_ _) | (with_reducible refine Cells.setFar ?_ (by omega)))) (bc_cons (by repeat (first | (with_reducible exact kb8) | (with_reducible refine Cells.drew ?_) | (with_reducible refine Cells.up ?_ _) | (with_reducible refine Cells.setFar ?_ (by omega)))) bc_nil))) ?walk38 ?dep38
  case walk38 =>
   refine walkR_q (by rfl) (fun X hX wq hwq hrq => ?_) ?_
   · obtain ⟨hcq, hfq⟩ := hwq.b3
     have kq6 := hrq 6 (by simp); rw [show X 6 = B7 from hX.at0 1 _ rfl] at kq6; replace kq6 : Cells wq B7 _ := kq6; have kqs6 := kq6.1; have kq6_0 := kq6.cell 0 rfl; have kq6_1 := kq6.cell 1 rfl; have kq6_2 := kq6.cell 2 rfl; have kq6_3 := kq6.cell 3 rfl; have kq6_4 := kq6.cell 4 rfl; have kq6_5 := kq6.cell 5 rfl; have kq6_6 := kq6.cell 6 rfl; clear hrq; go_simp
     (first | rfl | exact ⟨rfl, rfl⟩)
   refine walkR_q (by rfl) (fun X hX wq hwq hrq => ?_) ?_
   · obtain ⟨hcq, hfq⟩ := hwq.b3
     have kq7 := hrq 7 (by simp); rw [show X 7 = B8 from hX.at0 2 _ rfl] at kq7; replace kq7 : Cells wq B8 _ := kq7; have kqs7 := kq7.1; have kq7_0 := kq7.cell 0 rfl; clear hrq; go_simp
     (first | rfl | exact ⟨rfl, rfl⟩)
   refine walkR_st (by rfl) (fun X hX wq hwq hkq => ?_) ?_
   · rw [show X 5 = B6 from hX.at0 0 _ rfl] at hkq ⊢
     replace hkq : Cells wq B6 _ := hkq; have hks := hkq.1; have hkz := hkq.2.2; have hk0 := hkq.cell 0 rfl; go_simp
     (first | ((with_reducible refine writeB_mk (Cells.set hkq) ?_ ?_); (focus (repeat (first | (with_reducible exact Only.refl _ _) | (with_reducible refine Only.set ?_)))); rfl))
   refine walkR_st (by rfl) (fun X hX wq hwq hkq => ?_) ?_
   · rw [show X 6 = B7 from hX.at0 1 _ rfl] at hkq ⊢
     replace hkq : Cells wq B7 _ := hkq; have hks := hkq.1; have hkz := hkq.2.2; have hk0 := hkq.cell 0 rfl; have hk1 := hkq.cell 1 rfl; have hk2 := hkq.cell 2 rfl; have hk3 := hkq.cell 3 rfl; have hk4 := hkq.cell 4 rfl; have hk5 := hkq.cell 5 rfl; have hk6 := hkq.cell 6 rfl; go_simp
     (first | ((with_reducible refine writeB_mk (Cells.set (Cells.set (Cells.set (Cells.set (Cells.set (Cells.set (Cells.set hkq))))))) ?_ ?_); (focus (repeat (first | (with_reducible exact Only.refl _ _) | (with_reducible refine Only.set ?_)))); rfl))
   refine walkR_nil (fun X hX w81 hwz hcz => ?_); have kz0 := hcz 5 (by simp); rw [show X 5 = B6 from hX.at0 0 _ rfl] at kz0
   simp only [updC_some, updC_none, Nat.reduceEqDiff, ↓reduceIte] at kz0
   have kz1 := hcz 6 (by simp); rw [show X 6 = B7 from hX.at0 1 _ rfl] at kz1
   simp only [updC_some, updC_none, Nat.reduceEqDiff, ↓reduceIte] at kz1
   have kz2 := hcz 7 (by simp); rw [show X 7 = B8 from hX.at0 2 _ rfl] at kz2; replace kz2 : Cells w81 B8 _ := kz2; clear hX hcz
   (try clear X)
   clear nb3_b6 nb3_b7 nb3_b8 nb6_b7 nb6_b8 nb7_b6 nb7_b8 nb8_b6 nb8_b7; have hb82 := hwz.unDrew; clear hwz
   (try simp only [stC, mC, tC, tC, List.set_cons_zero, List.set_cons_succ] at kz0)
   (try simp only [stC, mC, tC, tC, List.set_cons_zero, List.set_cons_succ] at kz1)
   (try simp only [stC, mC, tC, tC, List.set_cons_zero, List.set_cons_succ] at kz2)
   clear cb3 cb6_0 cb7_0 cb7_1 cb7_2 cb7_3 cb7_4 cb7_5 cb7_6 cb8_0; clear qb3 qb6 qb7 qb8; replace kb6 := kz0; replace kb7 := kz1; replace kb8 := kz2; revert HB; revert kb3; refine uO hb82 ?_; clear hb82; intro kb3 qb3 HB; have qb6 := kb6.1; have qb7 := kb7.1; have qb8 := kb8.1; clear kz0 kz1 kz2; have cb8_0 := kb8.cell 0 rfl; have zb8 := kb8.2.2; refine pl ?_; refine sto kb8 ?_; clear kb8 cb8_0 zb8; intro w83 kb8 hb84; clear qb3 qb6 qb7 qb8; revert HB; revert kb7; revert kb6; revert kb3; refine uO hb84 ?_; clear hb84; intro kb3 qb3 kb6 qb6 kb7 qb7 HB; have qb8 := kb8.1; clear sl1 sl2 sl3 sl18; refine lx [] ?_; clear sl6 sl7 sl8; intro s85 sl6 sl7 sl8; refine ln ?_; intros
   have cb6_0 := kb6.cell 0 rfl; obtain ⟨cb7_0, cb7_1, cb7_2, cb7_3, cb7_4, cb7_5, cb7_6⟩ := cl7 kb7; have cb8_0 := kb8.cell 0 rfl; refine retM_F _ (res_ccc Tryz.results16 ((getD_F (by decide)).trans sl6) ((getD_F (by decide)).trans sl7) ((getD_F (by decide)).trans sl8) (load_t3 cb6_0) (load_t29 cb7_0 cb7_1 cb7_2 cb7_3 cb7_4 cb7_5 cb7_6) (load_t30 cb8_0)) ?_; exact ⟨rfl, HB.out.toBelow⟩
  case dep38 => exact dA

end Go.Proofs.YtleknidlgmmgbaaGreat
