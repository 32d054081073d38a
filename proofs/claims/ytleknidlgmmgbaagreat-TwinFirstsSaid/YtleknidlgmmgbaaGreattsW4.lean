/- The reference: Turned, asked. -/
import Derived.Test.YtleknidlgmmgbaaGreattsW12
import Derived.Test.YtleknidlgmmgbaaGreattsG14
import Derived.Test.YtleknidlgmmgbaaGreattsW3
import Derived.Test.YtleknidlgmmgbaaGreattsCZ
set_option linter.all false
set_option maxRecDepth 100000
set_option maxHeartbeats 16000000
namespace Go.Proofs.YtleknidlgmmgbaaGreat

section
open Go.RowKit


theorem made_ints (n : Nat) : (madeCells (Value.int .i64 0).cells (n * 1)).toList = (List.replicate n (0 : Int)).flatMap int1 := by
  have h1 : (List.replicate n (0 : Int)).flatMap int1 = List.replicate n (Value.int .i64 0) := by
    induction n with
    | zero => rfl
    | succ n ih => rw [List.replicate_succ, List.flatMap_cons, ih, List.replicate_succ]; rfl
  rw [h1]
  apply List.ext_getElem
  · simp [madeCells]
  · intro i h1 h2
    simp [madeCells, Value.cells, Nat.mod_one]
theorem opV_make {o : Oper} {m9 d k : Nat} {s : Nat → Value} {w : World} (hd : o.dst = some d) (hd9 : d < m9) (hk : k ≤ 1000) (ho : o.op = .makeSlice 22 (.const (.int .i64 k)) (.const (.int .i64 k))) :
    opF Tryz.prog o m9 s w (fun v w'' => (∃ B, v = .slice (some ⟨B, 0, none⟩) k k ∧ w.heap.size ≤ B ∧ B < w''.heap.size ∧ Cells w'' B ((List.replicate k (0 : Int)).flatMap int1)) ∧ Below w.heap.size w w'') := by
  obtain ⟨i0, hi0, hz0, hy0, hx0⟩ := info_parts info_int; obtain ⟨wN, hmk, hOm, hGm⟩ := run_make_full (P := Tryz.prog) w w.heap.size 22 3 i0 (.int .i64 0) 1 Tryz.underlying22 hi0 hz0 hy0 .i64 .i64 k (by rw [hx0]; omega) (by unfold maxLen; omega) (Nat.le_refl _); have hbN : Below w.heap.size w wN := ⟨hGm.os, hGm.tape, hGm.output, hGm.size, fun k hk => hGm.block k hk (by simp)⟩; have hO := Own.of (f := int1) (m := 1) (n := k) (l := List.replicate k (0 : Int)) (by simp) (by rw [← made_ints]) hOm; refine opF_of_wp hd hd9 (fun K1 Q hK1 => ?_); unfold Oper.wp execOp; have e1 : evF m9 s (.const (.int .i64 k)) = .int .i64 k := rfl
  simp only [ho, Sem.run_bind, Sem.run_pure, Result.andThen_ok, mkA_eval, e1, hmk]
  exact hK1 _ _ ⟨⟨_, rfl, Nat.le_refl _, hO.toCells.1, hO.toCells⟩, hbN⟩
def BegP (N : Nat) (n : Int) (tp : List Int) (v : Value) (W : World) : Prop := ∃ B B' c', v = .agg #[.slice (some ⟨B, 0, none⟩) 128 128, .slice (some ⟨B', 0, none⟩) tp.length c', .int .i64 0, .slice none 0 0, .int .i64 (n % 16), .int .i64 n, .int .i64 0, .int .i64 0] ∧ N ≤ B ∧ N ≤ B' ∧ B ≠ B' ∧ Cells W B ((List.replicate 128 (0 : Int)).flatMap int1) ∧ RdInts W (some ⟨B', 0, none⟩) tp
def beginS (l tp : List Int) (n : Int) : St4 := ⟨l ++ List.replicate (128 - l.length) 0, tp, 0, [], n % 16, n, 0, 0⟩
abbrev begL (l : List Int) (i : Nat) : List Int := l.take i ++ List.replicate (128 - i) 0
theorem begL_len {l : List Int} {i : Nat} (hi : i ≤ l.length) (hl : l.length ≤ 128) : (begL l i).length = 128 := by unfold begL; rw [List.length_append, List.length_take, List.length_replicate, Nat.min_eq_left hi]; omega
theorem begL_set {l : List Int} {i : Nat} {x : Int} (hi : i < l.length) (hl : l.length ≤ 128) (hx : l[i] = x) : (begL l i).set i x = begL l (i + 1) := by
  unfold begL; obtain ⟨k, hk⟩ : ∃ k, 128 - i = k + 1 := ⟨127 - i, by omega⟩
  have h1 : (l.take i).length = i := by rw [List.length_take]; omega
  rw [List.set_append_right _ _ (by omega), hk, List.replicate_succ, show i - (l.take i).length = 0 by omega, List.set_cons_zero, List.take_succ_eq_append_getElem hi, hx, show 128 - (i + 1) = k by omega]
  simp

theorem XW4b {A : Prop} (e : A := by
 rintro sJ wJ hbJ hunJ aI bI hdJ hpJ
 have sv2 := (hunJ 2 (by decide) (un_of (by kernel_rfl))).trans sl2; rw [if_pos (by rfl)]; exact oV) : A := e
theorem rbegin_ok (a : Option Addr) (c : Nat) (l : List Int) (bt ot : Nat) (tc : Nat) (tp : List Int) (n : Int) (w : World) (hR : RdInts w a l) (hT : RdInts w (some ⟨bt, ot, none⟩) tp) (hl : l.length ≤ 128) (ht : tp.length ≤ 200) (ht0 : 0 < tp.length) (ho : oddI l < 0) (hot : oddI tp < 0) (hn : addrB n = true) :
    Calls Tryz.prog 70 #[.slice a l.length c, .slice (some ⟨bt, ot, none⟩) tp.length tc, .int .i64 n] w (fun e w' => ∃ A : SA, e = .returned (.tuple #[.agg #[.slice A.sa (beginS l tp n).store.length A.sc, .slice A.ta (beginS l tp n).tape.length A.tc, .int .i64 (beginS l tp n).taken, .slice A.pa (beginS l tp n).printed.length A.pc, .int .i64 (beginS l tp n).time, .int .i64 (beginS l tp n).pc, .int .i64 (beginS l tp n).done, .int .i64 (beginS l tp n).why], .int .i64 0]) ∧ RdSt w' (beginS l tp n) A ∧ (∀ k, k < w.heap.size → A.free (beginS l tp n) k) ∧ Below w.heap.size w w') := by
 have HR := hid hR; have HT := hid hT; clear hR hT; obtain ⟨i0, hi0, hz0, hy0, hx0⟩ := info_parts info_int
 have hl2 : (l.length : Int) ≤ 128 := by omega
 have ht2 : (tp.length : Int) ≤ 200 := by omega
 have n3 : ¬ 0 ≤ oddI l := by omega
 have n4 : ¬ 0 ≤ oddI tp := by omega
 have hn2 := (inI_iff _ _ _).1 hn; have tm : n.tmod 16 = n % 16 := Int.tmod_eq_emod_of_nonneg hn2.1; have wz := IntWalk.i64_in (n % 16) (by omega); have hn0 : 0 ≤ n ∧ n ≤ 127 := hn2; clear hn2
 refine enter_F Tryz.func70 rfl Tryz.ntmps70 (by simp) ?_
 intro s0 hs; have sl0 : s0 0 = .slice a l.length c := hs 0 (by simp); have sl1 : s0 1 = .slice (some ⟨bt, ot, none⟩) tp.length tc := hs 1 (by simp); have sl2 : s0 2 = .int .i64 n := hs 2 (by simp); clear hs; have HB := hid (OldB.refl [] w)
 refine nr ?_; intros; refine pa (fun w1 B6 hB kb6 hb2 => ?_); have gb6 := HB.out.gB hB; have eb6 := eB hB; clear hB; replace HB := bE HB hb2; clear hb2; have qb6 := kb6.1; refine pl ?_; refine lx [6] ?_; clear sl0 sl1 sl2; intro s3 sl0 sl1 sl2 sl6; refine lr ?_; intros
 refine P4 ?_
 iterate 3 refine py ?_
 refine pl ?_; refine lx [17] ?_; clear sl0 sl1 sl2 sl6; intro s4 sl0 sl1 sl2 sl6 sl17; refine ln ?_; intros
 refine cond_f ?_
 refine nr ?_; intros; refine pl ?_; refine cal (rodd_any a c l _ (Rd.oldB HR.out HB.out (by simp)) (by omega)) ?_; rintro e w5 ⟨rfl, hb6⟩; refine ⟨_, rfl, ?_⟩; clear qb6; revert HB; revert kb6; refine uA hb6 ?_; clear hb6; intro kb6 qb6 HB; refine P2 ?_; refine py ?_; refine listF_yes rfl rfl (by decide) ?_ (fun K' hK => ?_); (focus (go_simp; done)); unfold opF; go_simp; refine (rodd_any (some ⟨bt, ot, none⟩) tc tp _ (Rd.oldB HT.out HB.out (by simp)) (by omega)).mono ?_; rintro e w7 ⟨rfl, hb8⟩; refine ⟨_, rfl, hK _ _ ?_⟩; clear hK K'; clear qb6; revert HB; revert kb6; refine uA hb8 ?_; clear hb8; intro kb6 qb6 HB; refine py ?_; refine P2 ?_; refine py ?_; refine listF_yes rfl rfl (by decide) ?_ (fun K' hK => ?_); (focus (go_simp; done)); unfold opF; go_simp; refine (raddr_any n _).mono ?_; rintro e w' ⟨rfl, rfl⟩
 refine ⟨_, rfl, hK _ _ ?_⟩; clear hK K'; refine py ?_; refine pl ?_; clear sl17; refine lx [31] ?_; clear sl0 sl1 sl2 sl6; intro s10 sl0 sl1 sl2 sl6 sl31; refine ln ?_; intros
 refine cond_f ?_
 refine zx ?_; intros
 refine regW 9 [fun v a b W => ∃ B, v = .slice (some ⟨B, 0, none⟩) 128 128 ∧ a ≤ B ∧ B < b ∧ Cells W B ((List.replicate 128 (0 : Int)).flatMap int1), fun v a b W => ∃ B, v = .slice (some ⟨B, 0, none⟩) 0 0 ∧ a ≤ B ∧ B < b ∧ Cells W B ([] : List Value), fun v _ _ _ => v = .slice (some ⟨bt, ot, none⟩) tp.length tc, fun v a b W => ∃ B c', v = .slice (some ⟨B, 0, none⟩) tp.length c' ∧ a ≤ B ∧ B < b ∧ RdInts W (some ⟨B, 0, none⟩) tp, fun v _ _ _ => v = .int .i64 n, fun v _ _ _ => v = .int .i64 n, fun v _ _ _ => v = .int .i64 (n % 16), fun v a b W => BegP w7.heap.size n tp v W, fun v a b W => ∃ B, v = .pointer (some ⟨B, 0, none⟩) ∧ a ≤ B ∧ B < b ∧ Cells W B [Value.slice none 0 0, .slice none 0 0, .int .i64 0, .slice none 0 0, .int .i64 0, .int .i64 0, .int .i64 0, .int .i64 0]] (by kernel_rfl) (by kernel_rfl) (by kernel_rfl) (by kernel_rfl) ⟨fun _ _ _ _ _ ⟨B, h1, h2, h3, h4⟩ hb => ⟨B, h1, h2, h3, h4.at hb⟩, fun _ _ _ _ _ ⟨B, h1, h2, h3, h4⟩ hb => ⟨B, h1, h2, h3, h4.at hb⟩, fun _ _ _ _ _ h _ => h, fun _ _ _ _ _ ⟨B, c', h1, h2, h3, h4⟩ hb => ⟨B, c', h1, h2, h3, Rd.at h4 hb⟩, fun _ _ _ _ _ h _ => h, fun _ _ _ _ _ h _ => h, fun _ _ _ _ _ h _ => h, fun _ _ _ _ _ ⟨B, B', c', h1, h2, h3, h4, h5, h6⟩ hb => ⟨B, B', c', h1, h2, h3, h4, h5.at hb, Rd.at h6 hb⟩, fun _ _ _ _ _ ⟨B, h1, h2, h3, h4⟩ hb => ⟨B, h1, h2, h3, h4.at hb⟩, trivial⟩ ⟨?_, ?_, ?_, ?_, ?_, ?_, ?_, ?_, ?_, trivial⟩ ?_
 · rintro sJ wJ hbJ hunJ aI bI hdJ hpJ
   rw [if_pos (by rfl)]; exact opV_make rfl (by decide) (by decide) rfl
 · rintro sJ wJ hbJ hunJ aI bI hdJ hpJ
   rw [if_pos (by rfl)]; exact opV_slice (by intro K' hK; unfold opF; go_simp; exact hK)
 · rintro sJ wJ hbJ hunJ aI bI hdJ hpJ
   have sv1 := (hunJ 1 (by decide) (un_of (by kernel_rfl))).trans sl1; rw [if_pos (by rfl)]; exact oV
 · rintro sJ wJ hbJ hunJ aI bI hdJ hpJ
   obtain ⟨lw1, hw1, hv1⟩ := hdJ 1 (by kernel_rfl); replace hv1 := hv1 34 rfl; obtain ⟨B34, sv34, gl34, gr34, kb34'⟩ := hv1; have sv35 : sJ 35 = .slice (some ⟨bt, ot, none⟩) tp.length tc := (hdJ 2 (by kernel_rfl)).2.2 35 rfl; rw [if_pos (by rfl)]; have hTJ := Rd.at (Rd.oldB HT.out HB.out (by simp)) hbJ; refine opF_app0 (d := 36) rfl (by decide) (.tmp 34) (.tmp 35) _ rfl 3 i0 _ 8 Tryz.underlying22 hi0 hz0 hy0 hx0 (fun _ => rfl) B34 tp bt ot tc (by go_simp) (by go_simp) hTJ ht0 (by omega) (by omega) (fun B c' w' h1 h2 h3 h4 => ?_); exact ⟨⟨B, c', rfl, h1, h2, h3⟩, h4⟩
 · exact XW4b
 · exact XW4b
 · rintro sJ wJ hbJ hunJ aI bI hdJ hpJ
   have sv38 : sJ 38 = .int .i64 n := (hdJ 5 (by kernel_rfl)).2.2 38 rfl; rw [if_pos (by rfl)]; exact oV
 · rintro sJ wJ hbJ hunJ aI bI hdJ hpJ
   obtain ⟨lw0, hw0, hv0⟩ := hdJ 0 (by kernel_rfl); replace hv0 := hv0 33 rfl; obtain ⟨B33, sv33, ha33, hb33, kc33⟩ := hv0; obtain ⟨lw3, hw3, hv3⟩ := hdJ 3 (by kernel_rfl); replace hv3 := hv3 36 rfl; obtain ⟨B36, c36, sv36, ha36, hb36, kc36⟩ := hv3; have sv37 : sJ 37 = .int .i64 n := (hdJ 4 (by kernel_rfl)).2.2 37 rfl; have sv39 : sJ 39 = .int .i64 (n % 16) := (hdJ 6 (by kernel_rfl)).2.2 39 rfl; rw [if_pos (by rfl)]; have hp := hpJ 0 3 (by kernel_rfl) (by kernel_rfl) (by decide)
   have hne : B33 ≠ B36 := by omega
   have hw1 := Nat.le_trans lw0 ha33; have hw2 := Nat.le_trans lw3 ha36; unfold opF; go_simp; exact ⟨⟨B33, B36, c36, rfl, hw1, hw2, hne, kc33, kc36⟩, Below.refl _ _⟩
 · rintro sJ wJ hbJ hunJ aI bI hdJ hpJ
   rw [if_pos (by rfl)]; exact opV_alloc (by intro K' hK; unfold opF; go_simp; exact hK)
 intro s13 w11 aJ bJ hb12 hunJ hvJ hapJ; replace sl0 := (hunJ 0 (by decide) (un_of (by kernel_rfl))).trans sl0; replace sl6 := (hunJ 6 (by decide) (un_of (by kernel_rfl))).trans sl6; clear sl1 sl2 sl31; obtain ⟨gw33, gm33, gh33, hq33⟩ := hvJ 0 (by decide); obtain ⟨B33, sl33, ha33, hb33, kc33⟩ := hq33 33 rfl; clear hq33; obtain ⟨gw34, gm34, gh34, hq34⟩ := hvJ 1 (by decide); obtain ⟨B34, sl34, gl34, gr34, kb34'⟩ := hq34 34 rfl; clear hq34; obtain ⟨gw36, gm36, gh36, hq36⟩ := hvJ 3 (by decide); obtain ⟨B36, c36, sl36, ha36, hb36, kc36⟩ := hq36 36 rfl; clear hq36; obtain ⟨gw40, gm40, gh40, hq40⟩ := hvJ 7 (by decide); obtain ⟨g, g2, c2, sl40, hg0, hg2, hgg, kg', kg2⟩ := hq40 40 rfl; clear hq40; obtain ⟨gw8, gm8, gh8, hq8⟩ := hvJ 8 (by decide); obtain ⟨B8, sl8, gl8, gr8, kb8'⟩ := hq8 8 rfl; clear hq8; have ap33_34 := hapJ 0 1 (by decide) (by decide) (by decide); have ap33_36 := hapJ 0 3 (by decide) (by decide) (by decide); have ap33_40 := hapJ 0 7 (by decide) (by decide) (by decide)
 have ap33_8 := hapJ 0 8 (by decide) (by decide) (by decide); have ap34_36 := hapJ 1 3 (by decide) (by decide) (by decide); have ap34_40 := hapJ 1 7 (by decide) (by decide) (by decide); have ap34_8 := hapJ 1 8 (by decide) (by decide) (by decide); have ap36_40 := hapJ 3 7 (by decide) (by decide) (by decide); have ap36_8 := hapJ 3 8 (by decide) (by decide) (by decide); have ap40_8 := hapJ 7 8 (by decide) (by decide) (by decide); clear hunJ hvJ hapJ; have gS := HB.out.size
 have ob6_b34 : B6 < B34 := by have := qb6; omega
 have gb34 : w.heap.size ≤ B34 := by omega
 have ob6_b8 : B6 < B8 := by have := qb6; omega
 have gb8 : w.heap.size ≤ B8 := by omega
 have ob34_b8 : B34 ≠ B8 := by omega
 have hgB : g ≠ B8 := fun e => by subst e; have h1 := kb8'.cell 0 rfl; have h2 := kg'.cell 0 rfl; rw [h1] at h2; cases h2
 have hg2B : g2 ≠ B8 := fun e => by subst e; have h1 := kb8'.cell 0 rfl; obtain ⟨b9, o9, h3, _, h2⟩ := RdInts.ne kg2 ht0; cases h3; simp only [Nat.zero_add] at h2; rw [h1] at h2; cases h2
 have oB6g : B6 < g := by have := kb6.1; omega
 have oB6g2 : B6 < g2 := by have := kb6.1; omega
 have gg : w.heap.size ≤ g := by omega
 clear gl8 gr8 ha33 hb33 kc33 ha36 hb36 kc36 ap33_34 ap33_36 ap33_40 ap33_8 ap34_36 ap34_40 ap34_8 ap36_40 ap36_8 ap40_8; clear qb6; revert HB; revert kb6; refine uA hb12 ?_; clear hb12; intro kb6 qb6 HB; have kb34 := kb34'; clear kb34'; have qb34 := kb34.1; have kb8 := kb8'; clear kb8'; have qb8 := kb8.1; clear qb34 kb34; have kg := kg'; clear kg'; have qg := kg.1; have cb8 := clx kb8; have zb8 := kb8.2.2; refine pl ?_; refine sto kb8 ?_; clear kb8 cb8 zb8; intro w14 kb8 hb15; clear qb6 qb8 qg; replace kg2 := Rd.oldB kg2 hb15 (fun b hb => by cases hb; simp; omega); revert HB; revert kg; revert kb6; refine uO hb15 ?_; clear hb15; intro kb6 qb6 kg qg HB; have qb8 := kb8.1; clear sl33 sl34 sl36 sl40; refine lx [] ?_; clear sl0 sl6 sl8; intro s16 sl0 sl6 sl8; refine lr ?_; intros; refine pl ?_; refine lx [9] ?_; clear sl0 sl6 sl8; intro s17 sl0 sl6 sl8 sl9; refine ln ?_; intros
 have hc0_0 := hid sl0; have hc0_6 := hid sl6; have hc0_8 := hid sl8; refine loop_F (n := 56) (fun kJ sJ wJ => ∃ (i : Nat), kJ = l.length - i ∧ sJ 9 = .int .i64 (i : Int) ∧ sJ 0 = s17 0 ∧ sJ 6 = s17 6 ∧ sJ 8 = s17 8 ∧ OldB [g] w14 wJ ∧ Cells wJ g ((begL l i).flatMap int1) ∧ i ≤ l.length) ⟨0, rfl, (by first | exact sl9 | (rw [sl9]; go_num) | (rw [sl9]; rfl)), rfl, rfl, rfl, OldB.refl _ _, (by have e : begL l 0 = List.replicate 128 0 := (by simp [begL]); rw [e]; exact kg), Nat.zero_le _⟩ ?_; clear sl9; rintro kJ s18 w19 ⟨i, rfl, sl9, e0, e6, e8, hb20, mg', hil⟩; replace sl0 := e0.trans sl0; clear e0; replace sl6 := e6.trans sl6; clear e6; replace sl8 := e8.trans sl8; clear e8; have hoJ := hb20; clear qb6 qb8 qg; replace kg := mg'; replace kg2 := Rd.oldB kg2 hb20 (fun b hb => by cases hb; simp; omega); revert HB; revert kb8; revert kb6; refine uO hb20 ?_; clear hb20; intro kb6 qb6 kb8 qb8 HB; have qg := kg.1; clear mg'; have HoJ := hid hoJ; clear hoJ; have HL21 := HoJ; clear HoJ
 refine nr ?_; intros
 refine P4 ?_
 refine lx [44] ?_; clear sl0 sl6 sl8 sl9; intro s22 sl0 sl6 sl8 sl9 sl44; refine ln ?_; intros
 refine cond_E sl44 (by decide) ?_ ?_ <;> (clear sl44; intro h44 sl44)
 ·skip
  have hi : i < l.length := by simpa using h44
  have hii : (i : Int) < l.length := by omega
  obtain ⟨bl, ol, hal, hbl, -⟩ := RdInts.ne HR.out hi; subst hal; obtain ⟨x, hx⟩ : ∃ x, l[i] = x := ⟨_, rfl⟩; have d0 := rd_at1 (Rd.oldB HR.out HB.out (by simp)) hi hx
  have nbl : ¬ bl = g := by omega
  have hbw : bl < w19.heap.size := by have := HB.out.size; omega
  have Hx := hid hx
  have hig : i < (begL l i).length := by rw [begL_len hil hl]; omega
  have hi8 : (i : Int) < 128 := by omega
  clear hx
  refine zx ?_; intros
  obtain ⟨cb6_0, cb6_1, cb6_2, cb6_3, cb6_4, cb6_5, cb6_6, cb6_7⟩ := cl8 kb6; have cb8 := clx kb8
  have nb6_g : ¬ B6 = g := by omega
  have nb8_g : ¬ B8 = g := by omega
  refine regionR_F [g] [((begL l i).flatMap int1)] [9] [.q [], .q [], .q [], .q [], .q [], .q [], .q [], .q [], .st 9] [?v17_0, ?v17_1, ?v17_2, ?v17_3, ?v17_4, ?v17_5, ?v17_6, ?v17_7, fun _ => undef] [fun _ => [], fun _ => [], fun _ => [], fun _ => [], fun _ => [], fun _ => [], fun _ => [], fun _ => [], ?c17_8] (by kernel_rfl) (by kernel_rfl) (by kernel_rfl) (by kernel_rfl) (by kernel_rfl) (by first | exact List.nodup_nil | exact List.nodup_singleton _ | (simp; done) | (simp; omega)) (bc_cons (by repeat (first | (with_reducible exact kg) | (with_reducible refine Cells.drew ?_) | (with_reducible refine Cells.up ?_ _) | (with_reducible refine Cells.setFar ?_ (by omega)))) bc_nil) ?walk17 ?dep17
  case walk17 =>
   iterate 8 refine rq ?_
   refine walkR_st (by rfl) (fun X hX wq hwq hkq => ?_) ?_
   · rw [show X 9 = g from hX.at0 0 _ rfl] at hkq ⊢
     replace hkq : Cells wq g (((begL l i).flatMap int1)) := hkq; have hks := hkq.1; have hkz := hkq.2.2; have f0 := ints_cell hkq hig; go_simp
     (first | ((with_reducible refine writeB_mk (Cells.set hkq) ?_ ?_); (focus (repeat (first | (with_reducible exact Only.refl _ _) | (with_reducible refine Only.set ?_)))); rfl))
   refine walkR_nil (fun X hX w23 hwz hcz => ?_); have kz0 := hcz 9 (by simp); rw [show X 9 = g from hX.at0 0 _ rfl] at kz0
   simp only [updC_some, updC_none, Nat.reduceEqDiff, ↓reduceIte] at kz0
   clear hX hcz
   (try clear X)
   clear nb6_g nb8_g; have hb24 := hwz.unDrew; clear hwz
   (try simp only [stC, mC, tC, List.set_cons_zero, List.set_cons_succ] at kz0)
   clear cb6_0 cb6_1 cb6_2 cb6_3 cb6_4 cb6_5 cb6_6 cb6_7 cb8; clear qb6 qb8 qg; replace kg := kz0; replace kg2 := Rd.oldB kg2 hb24 (fun b hb => by cases hb; simp; omega); revert HB; revert HL21; revert kb8; revert kb6; refine uO hb24 ?_; clear hb24; intro kb6 qb6 kb8 qb8 HL21 HB; have qg := kg.1; clear kz0; rw [ints_set, begL_set hi hl Hx.out] at kg; clear sl44; refine lx [] ?_; clear sl0 sl6 sl8 sl9; intro s25 sl0 sl6 sl8 sl9; refine lr ?_; intros
   refine P3 ?_
   clear sl9; refine lx [9] ?_; clear sl0 sl6 sl8; intro s26 sl0 sl6 sl8 sl9; refine ln ?_; intros
   refine ⟨_, _, rfl, ?_, i + 1, rfl, (rL sl9), (sl0.trans hc0_0.out.symm), (sl6.trans hc0_6.out.symm), (sl8.trans hc0_8.out.symm), HL21.out, (by first | (with_reducible exact kg) | (apply Cells.conv; (focus (exact kg)); (first | rfl | (simp; done)))), by omega⟩
   omega
  case dep17 => exact dA
 ·skip
  have hi : i = l.length := by have h := h44; simp at h; omega
  refine zx ?_; intros
  clear HL21; clear hc0_0 hc0_6 hc0_8; refine region_F ?_; have cb8 := clx kb8; refine pl ?_; obtain ⟨cb6_0, cb6_1, cb6_2, cb6_3, cb6_4, cb6_5, cb6_6, cb6_7⟩ := cl8 kb6; have zb6 := kb6.2.2; refine pl ?_; refine sto kb6 ?_; clear kb6 cb6_0 cb6_1 cb6_2 cb6_3 cb6_4 cb6_5 cb6_6 cb6_7 cb8 zb6; intro w27 kb6 hb28; clear qb6 qb8 qg; replace kg2 := Rd.oldB kg2 hb28 (fun b hb => by cases hb; simp; omega); revert HB; revert kg; revert kb8; refine uO hb28 ?_; clear hb28; intro kb8 qb8 kg qg HB; have qb6 := kb6.1; refine pl ?_; clear sl0 sl8 sl9 sl44; refine lx [7] ?_; clear sl6; intro s29 sl6 sl7; refine ln ?_; intros
  obtain ⟨cb6_0, cb6_1, cb6_2, cb6_3, cb6_4, cb6_5, cb6_6, cb6_7⟩ := cl8 kb6; refine ret_F _ (res_ct Tryz.results70 ((getD_F (by decide)).trans sl6) (load_t24 cb6_0 cb6_1 cb6_2 cb6_3 cb6_4 cb6_5 cb6_6 cb6_7) ((getD_F (by decide)).trans sl7)) ?_
  have hfin : begL l i = (beginS l tp n).store := by rw [hi]; simp [begL, beginS]
  rw [hfin] at kg; exact ⟨⟨some ⟨g, 0, none⟩, 128, some ⟨g2, 0, none⟩, c2, none, 0⟩, by simp [beginS]; omega, ⟨Cells.rd (f := int1) (m := 1) (fun _ => rfl) kg, kg2, .inl rfl⟩, (fun k hk => ⟨fun _ b hb => by cases hb; show g ≠ k; omega, fun _ b hb => by cases hb; show g2 ≠ k; omega, fun h => absurd rfl h⟩), HB.out.toBelow⟩
end

section
open Go.RowKit


theorem two_lt {k : Nat} (h : ((2 ^ k : Nat) : Int) < 16777216) : k < 24 := by
  have h1 : 2 ^ k < 2 ^ 24 := by omega
  exact (Nat.pow_lt_pow_iff_right (by decide)).1 h1
theorem two_ge {k : Nat} (h : ¬ ((2 ^ k : Nat) : Int) < 16777216) : 24 ≤ k := by
  rcases Nat.lt_or_ge k 24 with g | g
  · have := Nat.pow_lt_pow_right (show 1 < 2 by decide) g
    omega
  · exact g
theorem two_bd {k : Nat} (h : k < 24) {P : Int} (hP : ((2 ^ k : Nat) : Int) = P) : (1 ≤ P ∧ P ≤ 8388608) ∧ ((2 ^ (k + 1) : Nat) : Int) = 2 * P := by
  have h1 := Nat.pow_le_pow_right (show 0 < 2 by decide) (show k ≤ 23 by omega); have h2 := Nat.pow_pos (n := k) (show 0 < 2 by decide); rw [Nat.pow_succ]
  omega
theorem turn_bd {a b : Int} (ha : 0 ≤ a) (hb : 0 ≤ b) {k : Nat} {P T : Int} (hP : ((2 ^ k : Nat) : Int) = P) (hT : turnU a b k = T) : 0 ≤ T ∧ T < P := by
  obtain ⟨x, rfl⟩ := Int.eq_ofNat_of_zero_le ha; obtain ⟨y, rfl⟩ := Int.eq_ofNat_of_zero_le hb; rw [turnU_xor] at hT; have := Nat.mod_lt (x ^^^ y) (Nat.pow_pos (n := k) (show 0 < 2 by decide))
  omega
theorem turn_parts {a P : Int} (ha : 0 ≤ a ∧ a ≤ 16777215) (hP : 1 ≤ P) : ∃ q r, a.tdiv P = q ∧ q.tmod 2 = r ∧ (0 ≤ q ∧ q ≤ 16777215) ∧ (0 ≤ r ∧ r ≤ 1) ∧ a / P % 2 = r := by
  have h1 := Int.ediv_nonneg ha.1 (show 0 ≤ P by omega); have h2 := Int.ediv_le_self P ha.1; exact ⟨_, _, Int.tdiv_eq_ediv_of_nonneg ha.1, Int.tmod_eq_emod_of_nonneg h1, ⟨h1, by omega⟩, by omega, rfl⟩

theorem rturned_any (a b : Int) (w : World) (ha : 0 ≤ a ∧ a ≤ 16777215) (hb : 0 ≤ b ∧ b ≤ 16777215) :
    Calls Tryz.prog 112 #[.int .i64 a, .int .i64 b] w (fun e w' => e = .returned (.int .i64 (xorI a b)) ∧ Below w.heap.size w w') := by
 have HA := hid ha; have HB2 := hid hb; clear ha hb
 refine enter_F Tryz.func112 rfl Tryz.ntmps112 (by simp) ?_
 intro s0 hs; have sl0 : s0 0 = .int .i64 a := hs 0 (by simp); have sl1 : s0 1 = .int .i64 b := hs 1 (by simp); clear hs; have HB := hid (OldB.refl [] w)
 refine nr ?_; intros; refine pl ?_; refine lx [] ?_; clear sl0 sl1; intro s1 sl0 sl1; refine lr ?_; intros; refine P2 ?_; refine lx [5,6] ?_; clear sl0 sl1; intro s2 sl0 sl1 sl5 sl6; refine ln ?_; intros
 have hc0_0 := hid sl0; have hc0_1 := hid sl1; refine loop_F (n := 24) (fun kJ sJ wJ => ∃ (k : Nat), kJ = 24 - k ∧ sJ 5 = .int .i64 (turnU a b k) ∧ sJ 6 = .int .i64 ((2 ^ k : Nat) : Int) ∧ sJ 0 = s2 0 ∧ sJ 1 = s2 1 ∧ OldB [] w wJ ∧ k ≤ 24) ⟨0, rfl, (by rw [sl5]; rfl), (by rw [sl6]; rfl), rfl, rfl, OldB.refl _ _, Nat.zero_le _⟩ ?_; clear sl5 sl6; rintro kJ s3 w4 ⟨k, rfl, sl5, sl6, e0, e1, hb5, hk4⟩; replace sl0 := e0.trans sl0; clear e0; replace sl1 := e1.trans sl1; clear e1; have hoJ := hb5; replace HB := mO HB hb5; clear hb5; have HoJ := hid hoJ; clear hoJ; have HL6 := HoJ; clear HoJ
 refine nr ?_; intros; refine P2 ?_; refine lx [8] ?_; clear sl0 sl1 sl5 sl6; intro s7 sl0 sl1 sl5 sl6 sl8; refine ln ?_; intros
 refine cond_E sl8 (by decide) ?_ ?_ <;> (clear sl8; intro h8 sl8)
 ·skip
  have hk := two_lt (by simpa using h8); obtain ⟨P, hP⟩ : ∃ z : Int, ((2 ^ k : Nat) : Int) = z := ⟨_, rfl⟩; obtain ⟨T, hT⟩ : ∃ z, turnU a b k = z := ⟨_, rfl⟩; obtain ⟨hPb, hP2⟩ := two_bd hk hP; have hTb := turn_bd HA.out.1 HB2.out.1 hP hT; rw [hP] at sl6; rw [hT] at sl5; obtain ⟨q1, r1, d1, e1, b1, c1, f1⟩ := turn_parts HA.out hPb.1; obtain ⟨q2, r2, d2, e2, b2, c2, f2⟩ := turn_parts HB2.out hPb.1; have Hn := hid (show turnU a b (k + 1) = T + if r1 ≠ r2 then P else 0 by rw [← f1, ← f2, ← hP, ← hT]; rfl); have HP2 := hid hP2; clear hP2 f1 f2 hP hT h8
  have zP : ¬ P = 0 := by omega
  have w1 : IntKind.i64.wrap q1 = q1 := IntWalk.i64_in _ (by omega); have w2 : IntKind.i64.wrap q2 = q2 := IntWalk.i64_in _ (by omega); have w3 : IntKind.i64.wrap r1 = r1 := IntWalk.i64_in _ (by omega); have w4 : IntKind.i64.wrap r2 = r2 := IntWalk.i64_in _ (by omega); have w5 : IntKind.i64.wrap (T + P) = T + P := IntWalk.i64_in _ (by omega); have w6 : IntKind.i64.wrap (2 * P) = 2 * P := IntWalk.i64_in _ (by omega)
  refine zx ?_; intros
  refine rgQ 8 [?_,?_,?_,?_,?_,?_,?_,?_] ?walk6 ?dep6
  case walk6 =>
   iterate 8 refine rq ?_
   refine walkR_nil (fun X hX w8 hwz hcz => ?_); clear hX hcz
   (try clear X)
   skip; have hb9 := hwz.unDrew; clear hwz; revert HB; revert HL6; refine zO hb9 ?_; clear hb9; intro HL6 HB; refine pl ?_; clear sl8; refine lx [17] ?_; clear sl0 sl1 sl5 sl6; intro s10 sl0 sl1 sl5 sl6 sl17; refine ln ?_; intros
   refine cond_E sl17 (by decide) ?_ ?_ <;> (clear sl17; intro h17 sl17)
   ·skip
    have g17 : ¬ r1 = r2 := by simpa using h17
    have Hn2 := hid (show turnU a b (k + 1) = T + P by rw [Hn.out, if_pos g17])
    refine nr ?_; intros
    refine P4 ?_
    clear sl5 sl17; refine lx [5] ?_; clear sl0 sl1 sl6; intro s11 sl0 sl1 sl6 sl5; refine lr ?_; intros
    refine P3 ?_
    clear sl6; refine lx [6] ?_; clear sl0 sl1 sl5; intro s12 sl0 sl1 sl5 sl6; refine ln ?_; intros
    refine ⟨_, _, rfl, ?_, k + 1, rfl, (by rw [sl5, Hn2.out]), (by rw [sl6, HP2.out]), (sl0.trans hc0_0.out.symm), (sl1.trans hc0_1.out.symm), HL6.out, by omega⟩
    omega
   ·skip
    have g17 : r1 = r2 := by simpa using h17
    have Hn2 := hid (show turnU a b (k + 1) = T by rw [Hn.out, if_neg (fun h => h g17)]; omega); clear g17 h17
    refine nr ?_; intros
    refine P3 ?_
    clear sl6 sl17; refine lx [6] ?_; clear sl0 sl1 sl5; intro s13 sl0 sl1 sl5 sl6; refine ln ?_; intros
    refine ⟨_, _, rfl, ?_, k + 1, rfl, (by rw [sl5, Hn2.out]), (by rw [sl6, HP2.out]), (sl0.trans hc0_0.out.symm), (sl1.trans hc0_1.out.symm), HL6.out, by omega⟩
    omega
  case dep6 => exact dA
 ·skip
  have hk := two_ge (by simpa using h8); have Hf := hid (show turnU a b k = xorI a b by rw [show k = 24 by omega]; exact turned_eq HA.out HB2.out); clear h8
  refine zx ?_; intros
  clear HL6; clear hc0_0 hc0_1; refine region_F ?_; refine P2 ?_; clear sl0 sl1 sl5 sl6 sl8; refine lx [4] ?_; intro s14 sl4; refine ln ?_; intros
  refine ret_F _ (res_t Tryz.results112 ((getD_F (by decide)).trans sl4)) ?_; exact ⟨ret_int Hf.out, HB.out.toBelow⟩


abbrev Flt.cs (f : Flt) : List Value := [.int .i64 f.done, .int .i64 f.addr, .int .i64 f.mask]
abbrev RdFl := Rd Flt.cs 3
theorem RdFl.ne {w : World} {a : Option Addr} {l : List Flt} (h : RdFl w a l) {k : Nat} (hk : k < l.length) :
    ∃ b off, a = some ⟨b, off, none⟩ ∧ b < w.heap.size ∧ w.cell? ⟨b, off + k * 3, none⟩ = some (.int .i64 l[k].done) ∧ w.cell? ⟨b, off + k * 3 + 1, none⟩ = some (.int .i64 l[k].addr) ∧ w.cell? ⟨b, off + k * 3 + 2, none⟩ = some (.int .i64 l[k].mask) := by
  obtain ⟨b, off, ha, hb, hc⟩ := Rd.ne h hk; exact ⟨b, off, ha, hb, hc 0 _ rfl, hc 1 _ rfl, hc 2 _ rfl⟩
def err0 (s : St4) (fs : List Flt) : Int := if (chk4 s).2.2 ≠ 0 then (chk4 s).2.2 else if 10 < fs.length then 3 else 0
def errU (s : St4) (fs : List Flt) (i : Nat) : Int := if err0 s fs ≠ 0 then err0 s fs else flErr (fs.take i)
theorem flErr_snoc (fs : List Flt) (f : Flt) : flErr (fs ++ [f]) = if flErr fs ≠ 0 then flErr fs else fErr f := by
  unfold flErr; rw [List.find?_append]
  cases h : fs.find? (fun f => fErr f != 0) with
  | none =>
    simp
    cases h2 : (fErr f != 0) <;> simp at h2 <;> simp [h2]
  | some y =>
    have h1 := List.find?_some h
    simp at h1
    simp [h1]
theorem errU_0 {s : St4} {fs : List Flt} : errU s fs 0 = err0 s fs := by unfold errU; split <;> simp_all [flErr]
theorem errU_succ {s : St4} {fs : List Flt} {i : Nat} (h : i < fs.length) {y : Flt} (hy : fs[i] = y) (h0 : errU s fs i = 0) : errU s fs (i + 1) = fErr y := by
  subst hy; unfold errU at *
  split at h0
  · rename_i h1; exact absurd h0 h1
  · rename_i h1
    rw [if_neg h1, List.take_succ_eq_append_getElem h, flErr_snoc, if_neg (by omega)]
theorem errU_stay {s : St4} {fs : List Flt} : ∀ {k i : Nat}, errU s fs i ≠ 0 → i + k ≤ fs.length → errU s fs (i + k) = errU s fs i
  | 0, _, _, _ => rfl
  | k + 1, i, h, hl => by
    have ih := errU_stay (k := k) h (by omega)
    by_cases h1 : err0 s fs ≠ 0
    · unfold errU; rw [if_pos h1, if_pos h1]
    · rw [show i + (k + 1) = (i + k) + 1 by omega]
      have h2 : flErr (fs.take (i + k)) = errU s fs i := by rw [← ih]; unfold errU; rw [if_neg h1]
      unfold errU; rw [if_neg h1, List.take_succ_eq_append_getElem (by omega), flErr_snoc, h2, if_pos h, if_neg h1]; unfold errU; rw [if_neg h1]
theorem ask_errU {s : St4} {fs : List Flt} {most : Int} : askErr12 s fs most = if errU s fs fs.length ≠ 0 then errU s fs fs.length else if inI most 0 1000 = false then 7 else 0 := by
  unfold askErr12 errU err0; rw [List.take_length]
  by_cases h1 : (chk4 s).2.2 ≠ 0
  · rw [if_pos h1, if_pos h1, if_pos h1, if_pos h1]
  · rw [if_neg h1, if_neg h1]
    by_cases h2 : 10 < fs.length
    · rw [if_pos h2, if_pos h2]; rfl
    · rw [if_neg h2, if_neg h2]; simp


theorem rcheck4_v (s : St4) (A : SA) (c1 c2 c3 : Int) (w : World) (hC : chk4 s = (c1, c2, c3)) (hR : RdSt w s A) (hL : LenI s) :
    Calls Tryz.prog 77 #[.agg #[.slice A.sa s.store.length A.sc, .slice A.ta s.tape.length A.tc, .int .i64 s.taken, .slice A.pa s.printed.length A.pc, .int .i64 s.time, .int .i64 s.pc, .int .i64 s.done, .int .i64 s.why]] w (fun e w' => e = .returned (.tuple #[.int .i64 c1, .int .i64 c2, .int .i64 c3]) ∧ Below w.heap.size w w') := by
  have := rcheck4_any s A w hR hL; rw [hC] at this; exact this

theorem XW4c {A : Prop} (e : A := by rw [sl9, Hn.out]; unfold fErr; simp at *; simp [*] <;> exact H0.out) : A := e
theorem XW4d {A : Prop} (e : A := by exact ⟨trv, _, rfl, (by rw [sl59]; have h := h55; simp at h; simp [h]), (sl9.trans hj62_9.out.symm), HL63.out⟩) : A := e
theorem rasked12_any (s : St4) (A : SA) (af : Option Addr) (cf : Nat) (fs : List Flt) (most : Int) (w : World) (hR : RdSt w s A) (hL : LenI s) (hF : RdFl w af fs) (hlf : fs.length ≤ 9223372036854775807) :
    Calls Tryz.prog 49 #[.agg #[.slice A.sa s.store.length A.sc, .slice A.ta s.tape.length A.tc, .int .i64 s.taken, .slice A.pa s.printed.length A.pc, .int .i64 s.time, .int .i64 s.pc, .int .i64 s.done, .int .i64 s.why], .slice af fs.length cf, .int .i64 most] w (fun e w' => e = .returned (.int .i64 (askErr12 s fs most)) ∧ Below w.heap.size w w') := by
 have HR := hid hR; have HF := hid hF; have HLn := hid hL; clear hR hF hL; obtain ⟨⟨c1, c2, c3⟩, hC⟩ : ∃ z, chk4 s = z := ⟨_, rfl⟩; have HC := hid hC; clear hC
 refine enter_F Tryz.func49 rfl Tryz.ntmps49 (by simp) ?_
 intro s0 hs; have sl0 : s0 0 = .agg #[.slice A.sa s.store.length A.sc, .slice A.ta s.tape.length A.tc, .int .i64 s.taken, .slice A.pa s.printed.length A.pc, .int .i64 s.time, .int .i64 s.pc, .int .i64 s.done, .int .i64 s.why] := hs 0 (by simp); have sl1 : s0 1 = .slice af fs.length cf := hs 1 (by simp); have sl2 : s0 2 = .int .i64 most := hs 2 (by simp); clear hs; have HB := hid (OldB.refl [] w)
 refine nr ?_; intros; refine pa (fun _ B3 hB kb3 hb => ?_); have gb3 := HB.out.gB hB; have eb3 := eB hB; clear hB; replace HB := bE HB hb; clear hb; have qb3 := kb3.1; refine pl ?_; clear sl0; refine lx [3] ?_; clear sl1 sl2; intro _ sl1 sl2 sl3; refine lr ?_; intros; have cb3 := clx kb3; refine pl ?_; refine cal (rcheck4_v s A c1 c2 c3 _ HC.out (HR.out.old HB.out) HLn.out) ?_; rintro e w4 ⟨rfl, hb⟩; refine ⟨_, rfl, ?_⟩; clear cb3; clear qb3; revert HB; revert kb3; refine uA hb ?_; clear hb; intro kb3 qb3 HB
 refine P7 ?_
 clear sl3; refine lx [9] ?_; clear sl1 sl2; intro s6 sl1 sl2 sl9; refine ln ?_; intros
 have hj7_1 := hid sl1; have hj7_2 := hid sl2; have hj7_9 := hid sl9; refine cut_any (fun sJ wJ => sJ 24 = .bool (decide (c3 = 0 ∧ 10 < fs.length)) ∧ sJ 1 = s6 1 ∧ sJ 2 = s6 2 ∧ sJ 9 = s6 9 ∧ OldB [] w4 wJ) ?_ ?_
 ·skip
  have HL8 := hid (OldB.refl [] w4); refine region_F ?_
  refine P3 ?_
  refine lx [20] ?_; clear sl1 sl2 sl9; intro _ sl1 sl2 sl9 sl20
  refine boolG sl20 (fun sl20' h20 => ?_) (fun sl20' h20 => ?_) <;> (clear sl20; have sl20 := sl20'; clear sl20')
  ·skip
   iterate 3 refine py ?_
   refine pl ?_; clear sl20; refine lx [24] ?_; clear sl1 sl2 sl9; intro _ sl1 sl2 sl9 sl24; refine ln ?_; intros
   exact ⟨trv, _, rfl, (by rw [sl24]; have h := h20; simp at h; congr 1; rw [Bool.eq_iff_iff]; simp [h]; omega), (sl1.trans hj7_1.out.symm), (sl2.trans hj7_2.out.symm), (sl9.trans hj7_9.out.symm), HL8.out⟩
  ·skip
   refine F3 ?_; refine pl ?_; clear sl20; refine lx [24] ?_; clear sl1 sl2 sl9; intro _ sl1 sl2 sl9 sl24; refine ln ?_; intros
   exact ⟨trv, _, rfl, (by rw [sl24]; have h := h20; simp at h; simp [h]), (sl1.trans hj7_1.out.symm), (sl2.trans hj7_2.out.symm), (sl9.trans hj7_9.out.symm), HL8.out⟩
 ·skip
  rintro s12 w13 ⟨sl24, e1, e2, e9, hb⟩; replace sl1 := e1.trans sl1; clear e1 hj7_1; replace sl2 := e2.trans sl2; clear e2 hj7_2; replace sl9 := e9.trans sl9; clear e9 hj7_9; clear qb3; revert HB; revert kb3; refine uO hb ?_; clear hb; intro kb3 qb3 HB
  refine zx ?_; intros
  have hj15_1 := hid sl1; have hj15_2 := hid sl2; refine cut_any (fun sJ wJ => sJ 9 = .int .i64 (err0 s fs) ∧ sJ 1 = s12 1 ∧ sJ 2 = s12 2 ∧ OldB [] w13 wJ) ?_ ?_
  ·skip
   have HL16 := hid (OldB.refl [] w13)
   refine cond_E sl24 (by decide) ?_ ?_ <;> (clear sl24; intro h24 sl24)
   ·skip
    refine nr ?_; intros; refine pl ?_; clear sl9 sl24; refine lx [9] ?_; clear sl1 sl2; intro _ sl1 sl2 sl9; refine ln ?_; intros
    exact ⟨trv, _, rfl, (by rw [sl9]; have h := h24; simp at h; unfold err0; rw [HC.out, if_neg (by simpa using h.1), if_pos h.2]), (sl1.trans hj15_1.out.symm), (sl2.trans hj15_2.out.symm), HL16.out⟩
   ·skip
    refine zx ?_; intros
    exact ⟨trv, _, rfl, (by rw [sl9]; have h := h24; simp at h; unfold err0; rw [HC.out]; by_cases h9 : c3 = 0; (rw [if_neg (by simpa using h9), if_neg (by have := h h9; omega), h9]); rw [if_pos (by simpa using h9)]), (sl1.trans hj15_1.out.symm), (sl2.trans hj15_2.out.symm), HL16.out⟩
  ·skip
   clear sl9 sl24; rintro s18 w19 ⟨sl9, e1, e2, hb⟩; replace sl1 := e1.trans sl1; clear e1 hj15_1; replace sl2 := e2.trans sl2; clear e2 hj15_2; clear qb3; revert HB; revert kb3; refine uO hb ?_; clear hb; intro kb3 qb3 HB
   refine nr ?_; intros; refine pl ?_; refine lx [10] ?_; clear sl1 sl2 sl9; intro s21 sl1 sl2 sl9 sl10; refine ln ?_; intros
   have hc0_1 := hid sl1; have hc0_2 := hid sl2; refine loop_F (n := 61) (fun kJ sJ wJ => ∃ (i : Nat), kJ = fs.length - i ∧ sJ 9 = .int .i64 (errU s fs i) ∧ sJ 10 = .int .i64 (i : Int) ∧ sJ 1 = s21 1 ∧ sJ 2 = s21 2 ∧ OldB [] w19 wJ ∧ i ≤ fs.length) ⟨0, rfl, (by rw [sl9, errU_0]), (by first | exact sl10 | (rw [sl10]; go_num) | (rw [sl10]; rfl)), rfl, rfl, OldB.refl _ _, Nat.zero_le _⟩ ?_; clear sl9 sl10; rintro kJ s22 w23 ⟨i, rfl, sl9, sl10, e1, e2, hb, hil⟩; replace sl1 := e1.trans sl1; clear e1; replace sl2 := e2.trans sl2; clear e2; have hoJ := hb; clear qb3; revert HB; revert kb3; refine uO hb ?_; clear hb; intro kb3 qb3 HB; have HoJ := hid hoJ; clear hoJ; have HL25 := HoJ; clear HoJ
   refine zx ?_; intros
   have hj26_1 := hid sl1; have hj26_2 := hid sl2; have hj26_9 := hid sl9; have hj26_10 := hid sl10; refine cut_any (fun sJ wJ => sJ 32 = .bool (decide (i < fs.length ∧ errU s fs i = 0)) ∧ sJ 1 = s22 1 ∧ sJ 2 = s22 2 ∧ sJ 9 = s22 9 ∧ sJ 10 = s22 10 ∧ OldB [] w23 wJ) ?_ ?_
   ·skip
    have HL27 := hid (OldB.refl [] w23); refine region_F ?_
    refine P5 ?_
    refine lx [29] ?_; clear sl1 sl2 sl9 sl10; intro _ sl1 sl2 sl9 sl10 sl29
    refine boolG sl29 (fun sl29' h29 => ?_) (fun sl29' h29 => ?_) <;> (clear sl29; have sl29 := sl29'; clear sl29')
    ·skip
     refine py ?_; refine py ?_; refine pl ?_; clear sl29; refine lx [30,31,32] ?_; clear sl1 sl2 sl9 sl10; intro _ sl1 sl2 sl9 sl10 sl30 sl31 sl32; refine ln ?_; intros
     exact ⟨trv, _, rfl, (by rw [sl32]; have h := h29; simp at h; congr 1; rw [Bool.eq_iff_iff]; simp [h]), (sl1.trans hj26_1.out.symm), (sl2.trans hj26_2.out.symm), (sl9.trans hj26_9.out.symm), (sl10.trans hj26_10.out.symm), HL27.out⟩
    ·skip
     refine F2 ?_; refine pl ?_; clear sl29; refine lx [32] ?_; clear sl1 sl2 sl9 sl10; intro _ sl1 sl2 sl9 sl10 sl32; refine ln ?_; intros
     exact ⟨trv, _, rfl, (by rw [sl32]; have h := h29; simp at h; simp; omega), (sl1.trans hj26_1.out.symm), (sl2.trans hj26_2.out.symm), (sl9.trans hj26_9.out.symm), (sl10.trans hj26_10.out.symm), HL27.out⟩
   ·skip
    rintro s31 w32 ⟨sl32, e1, e2, e9, e10, hb⟩; replace sl1 := e1.trans sl1; clear e1 hj26_1; replace sl2 := e2.trans sl2; clear e2 hj26_2; replace sl9 := e9.trans sl9; clear e9 hj26_9; replace sl10 := e10.trans sl10; clear e10 hj26_10; clear qb3; revert HB; revert HL25; revert kb3; refine uO hb ?_; clear hb; intro kb3 qb3 HL25 HB
    refine zx ?_; intros
    refine cond_E sl32 (by decide) ?_ ?_ <;> (clear sl32; intro h32 sl32)
    ·skip
     have h9 := h32
     simp only [decide_eq_true_eq] at h9
     have hi : i < fs.length := h9.1
     have hii : (i : Int) < fs.length := by omega
     have H0 := hid h9.2; clear h9 h32; obtain ⟨b, off, hae, hbs, c0, c1', c2'⟩ := RdFl.ne (Rd.oldB HF.out HB.out (by simp)) hi; subst hae; obtain ⟨y, hy⟩ : ∃ y, fs[i] = y := ⟨_, rfl⟩; rw [hy] at c0 c1' c2'; have Hn := hid (errU_succ hi hy H0.out); clear hy
     refine nr ?_; intros
     refine P4 ?_
     refine pa (fun _ B11 hB kb11 hb => ?_); have gb11 := HB.out.gB hB; have lHL25_b11 := HL25.out.gB hB; have ob3_b11 := oB qb3 hB; have eb11 := eB hB; clear hB; clear qb3; revert HB; revert HL25; revert kb3; refine uA hb ?_; clear hb; intro kb3 qb3 HL25 HB; have qb11 := kb11.1; have cb11 := clx kb11; have zb11 := kb11.2.2; refine pl ?_; refine sto kb11 ?_; clear kb11 cb11 zb11; intro _ kb11 hb; clear qb3 qb11; revert HB; revert HL25; revert kb3; refine uO hb ?_; clear hb; intro kb3 qb3 HL25 HB; have qb11 := kb11.1; clear sl32; refine lx [11] ?_; clear sl1 sl2 sl9 sl10; intro _ sl1 sl2 sl9 sl10 sl11; refine lr ?_; intros; refine pl ?_; have cb11 := clx kb11; refine pl ?_; refine cal (raddr_any y.addr _) ?_; rintro e w' ⟨rfl, rfl⟩; refine ⟨_, rfl, ?_⟩; refine pl ?_; refine lx [42] ?_; clear sl1 sl2 sl9 sl10 sl11; intro _ sl1 sl2 sl9 sl10 sl11 sl42; refine ln ?_; intros
     refine cond_E sl42 (by decide) ?_ ?_ <;> (clear sl42; intro h42 sl42)
     ·skip
      refine nr ?_; intros; refine pl ?_; clear sl9 sl42; refine lx [9] ?_; clear sl1 sl2 sl10 sl11; intro _ sl1 sl2 sl10 sl11 sl9; refine lr ?_; intros; refine P2 ?_; refine cal (rin12_any y.done 0 1000 _) ?_; rintro e w' ⟨rfl, rfl⟩; refine ⟨_, rfl, ?_⟩; refine P2 ?_; refine lx [47] ?_; clear sl1 sl2 sl9 sl10 sl11; intro _ sl1 sl2 sl9 sl10 sl11 sl47
      refine boolG sl47 (fun sl47' h47 => ?_) (fun sl47' h47 => ?_) <;> (clear sl47; have sl47 := sl47'; clear sl47')
      ·skip
       refine pn true ?_
       refine pn true ?_; refine pn true ?_; refine pn true ?_; refine pl ?_; clear sl11 sl47; refine lx [52] ?_; clear sl1 sl2 sl9 sl10; intro _ sl1 sl2 sl9 sl10 sl52; refine ln ?_; intros
       refine cond_t ?_
       refine nr ?_; intros; refine pl ?_; clear sl9 sl52; refine lx [9] ?_; clear sl1 sl2 sl10; intro _ sl1 sl2 sl10 sl9; refine lr ?_; intros
       refine P3 ?_
       clear sl10; refine lx [10] ?_; clear sl1 sl2 sl9; intro _ sl1 sl2 sl9 sl10; refine ln ?_; intros
       clear cb11; refine ⟨_, _, rfl, ?_, i + 1, rfl, XW4c, (rL sl10), (sl1.trans hc0_1.out.symm), (sl2.trans hc0_2.out.symm), HL25.out, by omega⟩
       omega
      ·skip
       refine py ?_; refine py ?_; refine listF_yes rfl rfl (by decide) ?_ (fun K' hK => ?_); (focus (go_simp; done)); unfold opF; go_simp; refine (rin12_any y.mask 1 16777215 _).mono ?_; rintro e w' ⟨rfl, rfl⟩; refine ⟨_, rfl, hK _ _ ?_⟩; clear hK K'; refine py ?_; refine pl ?_; clear sl11 sl47; refine lx [48,49,50,51,52] ?_; clear sl1 sl2 sl9 sl10; intro _ sl1 sl2 sl9 sl10 sl48 sl49 sl50 sl51 sl52; refine ln ?_; intros
       refine cond_E sl52 (by decide) ?_ ?_ <;> (clear sl52; intro h52 sl52)
       ·skip
        refine nr ?_; intros; refine pl ?_; clear sl9 sl52; refine lx [9] ?_; clear sl1 sl2 sl10 sl48 sl49 sl50 sl51; intro _ sl1 sl2 sl10 sl48 sl49 sl50 sl51 sl9; refine lr ?_; intros
        refine P3 ?_
        clear sl10; refine lx [10] ?_; clear sl1 sl2 sl9 sl48 sl49 sl50 sl51; intro _ sl1 sl2 sl9 sl48 sl49 sl50 sl51 sl10; refine ln ?_; intros
        clear cb11; refine ⟨_, _, rfl, ?_, i + 1, rfl, XW4c, (rL sl10), (sl1.trans hc0_1.out.symm), (sl2.trans hc0_2.out.symm), HL25.out, by omega⟩
        omega
       ·skip
        refine nr ?_; intros
        refine P3 ?_
        clear sl10 sl52; refine lx [10] ?_; clear sl1 sl2 sl9 sl48 sl49 sl50 sl51; intro _ sl1 sl2 sl9 sl48 sl49 sl50 sl51 sl10; refine ln ?_; intros
        clear cb11; refine ⟨_, _, rfl, ?_, i + 1, rfl, XW4c, (rL sl10), (sl1.trans hc0_1.out.symm), (sl2.trans hc0_2.out.symm), HL25.out, by omega⟩
        omega
     ·skip
      refine nr ?_; intros; refine P2 ?_; refine cal (rin12_any y.done 0 1000 _) ?_; rintro e w' ⟨rfl, rfl⟩; refine ⟨_, rfl, ?_⟩; refine P2 ?_; clear sl42; refine lx [47] ?_; clear sl1 sl2 sl9 sl10 sl11; intro _ sl1 sl2 sl9 sl10 sl11 sl47
      refine boolG sl47 (fun sl47' h47 => ?_) (fun sl47' h47 => ?_) <;> (clear sl47; have sl47 := sl47'; clear sl47')
      ·skip
       refine pn true ?_
       refine pn true ?_; refine pn true ?_; refine pn true ?_; refine pl ?_; clear sl11 sl47; refine lx [52] ?_; clear sl1 sl2 sl9 sl10; intro _ sl1 sl2 sl9 sl10 sl52; refine ln ?_; intros
       refine cond_t ?_
       refine nr ?_; intros; refine pl ?_; clear sl9 sl52; refine lx [9] ?_; clear sl1 sl2 sl10; intro _ sl1 sl2 sl10 sl9; refine lr ?_; intros
       refine P3 ?_
       clear sl10; refine lx [10] ?_; clear sl1 sl2 sl9; intro _ sl1 sl2 sl9 sl10; refine ln ?_; intros
       clear cb11; refine ⟨_, _, rfl, ?_, i + 1, rfl, XW4c, (rL sl10), (sl1.trans hc0_1.out.symm), (sl2.trans hc0_2.out.symm), HL25.out, by omega⟩
       omega
      ·skip
       refine py ?_; refine py ?_; refine listF_yes rfl rfl (by decide) ?_ (fun K' hK => ?_); (focus (go_simp; done)); unfold opF; go_simp; refine (rin12_any y.mask 1 16777215 _).mono ?_; rintro e w' ⟨rfl, rfl⟩; refine ⟨_, rfl, hK _ _ ?_⟩; clear hK K'; refine py ?_; refine pl ?_; clear sl11 sl47; refine lx [48,49,50,51,52] ?_; clear sl1 sl2 sl9 sl10; intro _ sl1 sl2 sl9 sl10 sl48 sl49 sl50 sl51 sl52; refine ln ?_; intros
       refine cond_E sl52 (by decide) ?_ ?_ <;> (clear sl52; intro h52 sl52)
       ·skip
        refine nr ?_; intros; refine pl ?_; clear sl9 sl52; refine lx [9] ?_; clear sl1 sl2 sl10 sl48 sl49 sl50 sl51; intro _ sl1 sl2 sl10 sl48 sl49 sl50 sl51 sl9; refine lr ?_; intros
        refine P3 ?_
        clear sl10; refine lx [10] ?_; clear sl1 sl2 sl9 sl48 sl49 sl50 sl51; intro _ sl1 sl2 sl9 sl48 sl49 sl50 sl51 sl10; refine ln ?_; intros
        clear cb11; refine ⟨_, _, rfl, ?_, i + 1, rfl, XW4c, (rL sl10), (sl1.trans hc0_1.out.symm), (sl2.trans hc0_2.out.symm), HL25.out, by omega⟩
        omega
       ·skip
        refine nr ?_; intros
        refine P3 ?_
        clear sl10 sl52; refine lx [10] ?_; clear sl1 sl2 sl9 sl48 sl49 sl50 sl51; intro _ sl1 sl2 sl9 sl48 sl49 sl50 sl51 sl10; refine ln ?_; intros
        clear cb11; refine ⟨_, _, rfl, ?_, i + 1, rfl, XW4c, (rL sl10), (sl1.trans hc0_1.out.symm), (sl2.trans hc0_2.out.symm), HL25.out, by omega⟩
        omega
    ·skip
     have Hf := hid (show errU s fs i = errU s fs fs.length by have h9 := h32; simp only [decide_eq_false_iff_not] at h9; by_cases g : errU s fs i = 0; (rw [show i = fs.length by (have := fun k => h9 ⟨k, g⟩; omega)]); (have g2 := errU_stay (k := fs.length - i) g (by omega); rw [show i + (fs.length - i) = fs.length by omega] at g2; exact g2.symm)); rw [Hf.out] at sl9; clear h32
     refine zx ?_; intros
     clear HL25; clear hc0_1 hc0_2; have hj62_9 := hid sl9; refine cut_any (fun sJ wJ => sJ 59 = .bool (decide (errU s fs fs.length = 0 ∧ inI most 0 1000 = false)) ∧ sJ 9 = s31 9 ∧ OldB [] w32 wJ) ?_ ?_
     ·skip
      have HL63 := hid (OldB.refl [] w32); refine region_F ?_
      refine P3 ?_
      clear sl1 sl10 sl32; refine lx [55] ?_; clear sl2 sl9; intro _ sl2 sl9 sl55
      refine boolG sl55 (fun sl55' h55 => ?_) (fun sl55' h55 => ?_) <;> (clear sl55; have sl55 := sl55'; clear sl55')
      ·skip
       refine py ?_; refine listF_yes rfl rfl (by decide) ?_ (fun K' hK => ?_); (focus (go_simp; done)); unfold opF; go_simp; refine (rin12_any most 0 1000 _).mono ?_; rintro e w' ⟨rfl, rfl⟩; refine ⟨_, rfl, hK _ _ ?_⟩; clear hK K'; refine py ?_; refine pl ?_; clear sl2 sl55; refine lx [59] ?_; clear sl9; intro _ sl9 sl59; refine ln ?_; intros
       exact XW4d
      ·skip
       refine F3 ?_; refine pl ?_; clear sl2 sl55; refine lx [59] ?_; clear sl9; intro _ sl9 sl59; refine ln ?_; intros
       exact XW4d
     ·skip
      clear sl1 sl2 sl10 sl32; rintro s68 w69 ⟨sl59, e9, hb⟩; replace sl9 := e9.trans sl9; clear e9 hj62_9; clear qb3; revert HB; revert kb3; refine uO hb ?_; clear hb; intro kb3 qb3 HB
      refine zx ?_; intros
      refine cond_E sl59 (by decide) ?_ ?_ <;> (clear sl59; intro h59 sl59)
      ·skip
       refine nr ?_; intros; refine pl ?_; clear sl9 sl59; refine lx [9] ?_; intro _ sl9; refine lr ?_; intros; refine P2 ?_; clear sl9; refine lx [6] ?_; intro _ sl6; refine ln ?_; intros
       refine ret_F _ (res_t Tryz.results49 ((getD_F (by decide)).trans sl6)) ?_; have h9 := h59
       simp at h9
       exact ⟨by rw [ask_errU, if_neg (by simpa using h9.1), if_pos h9.2], HB.out.toBelow⟩
      ·skip
       refine nr ?_; intros; refine P2 ?_; clear sl9 sl59; refine lx [6] ?_; intro _ sl6; refine ln ?_; intros
       refine ret_F _ (res_t Tryz.results49 ((getD_F (by decide)).trans sl6)) ?_; have h9 := h59
       simp at h9
       exact ⟨by rw [ask_errU]; by_cases g : errU s fs fs.length = 0; (rw [if_neg (by simpa using g), if_neg (by rw [h9 g]; decide), g]); (rw [if_pos g]), HB.out.toBelow⟩
end


end Go.Proofs.YtleknidlgmmgbaaGreat
