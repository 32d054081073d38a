/- The state of the examples. -/
import Derived.Test.YtleknidlgmmgbaaGreattoW12
import Derived.Test.YtleknidlgmmgbaaGreattoG14
import Derived.Test.YtleknidlgmmgbaaGreattoW9
import Derived.Test.YtleknidlgmmgbaaGreattoCZ
set_option linter.all false
set_option maxRecDepth 100000
set_option maxHeartbeats 16000000
namespace Go.Proofs.YtleknidlgmmgbaaGreat

section
open Go.RowKit


theorem made_ints (n : Nat) : (madeCells (Value.int .i64 0).cells (n * 1)).toList = (List.replicate n (0 : Int)).flatMap int1 := by
  have h1 : (List.replicate n (0 : Int)).flatMap int1 = List.replicate n (Value.int .i64 0) := by
    induction n with
    | zero => rfl
    | succ n ih => rw [List.replicate_succ, List.flatMap_cons, ih, List.replicate_succ]; rfl
  rw [h1]
  apply List.ext_getElem
  · simp [madeCells]
  · intro i h1 h2
    simp [madeCells, Value.cells, Nat.mod_one]
theorem opV_make {o : Oper} {m9 d k : Nat} {s : Nat → Value} {w : World} (hd : o.dst = some d) (hd9 : d < m9) (hk : k ≤ 1000) (ho : o.op = .makeSlice 22 (.const (.int .i64 k)) (.const (.int .i64 k))) :
    opF Tryz.prog o m9 s w (fun v w'' => (∃ B, v = .slice (some ⟨B, 0, none⟩) k k ∧ w.heap.size ≤ B ∧ B < w''.heap.size ∧ Cells w'' B ((List.replicate k (0 : Int)).flatMap int1)) ∧ Below w.heap.size w w'') := by
  obtain ⟨i0, hi0, hz0, hy0, hx0⟩ := info_parts info_int; obtain ⟨wN, hmk, hOm, hGm⟩ := run_make_full (P := Tryz.prog) w w.heap.size 22 3 i0 (.int .i64 0) 1 Tryz.underlying22 hi0 hz0 hy0 .i64 .i64 k (by rw [hx0]; omega) (by unfold maxLen; omega) (Nat.le_refl _); have hbN : Below w.heap.size w wN := ⟨hGm.os, hGm.tape, hGm.output, hGm.size, fun k hk => hGm.block k hk (by simp)⟩; have hO := Own.of (f := int1) (m := 1) (n := k) (l := List.replicate k (0 : Int)) (by simp) (by rw [← made_ints]) hOm; refine opF_of_wp hd hd9 (fun K1 Q hK1 => ?_); unfold Oper.wp execOp; have e1 : evF m9 s (.const (.int .i64 k)) = .int .i64 k := rfl
  simp only [ho, Sem.run_bind, Sem.run_pure, Result.andThen_ok, mkA_eval, e1, hmk]
  exact hK1 _ _ ⟨⟨_, rfl, Nat.le_refl _, hO.toCells.1, hO.toCells⟩, hbN⟩
def BegP (N : Nat) (n : Int) (tp : List Int) (v : Value) (W : World) : Prop := ∃ B B' c', v = .agg #[.slice (some ⟨B, 0, none⟩) 128 128, .slice (some ⟨B', 0, none⟩) tp.length c', .int .i64 0, .slice none 0 0, .int .i64 (n % 16), .int .i64 n, .int .i64 0, .int .i64 0] ∧ N ≤ B ∧ N ≤ B' ∧ B ≠ B' ∧ Cells W B ((List.replicate 128 (0 : Int)).flatMap int1) ∧ RdInts W (some ⟨B', 0, none⟩) tp
def beginS (l tp : List Int) (n : Int) : St4 := ⟨l ++ List.replicate (128 - l.length) 0, tp, 0, [], n % 16, n, 0, 0⟩
abbrev begL (l : List Int) (i : Nat) : List Int := l.take i ++ List.replicate (128 - i) 0
theorem begL_len {l : List Int} {i : Nat} (hi : i ≤ l.length) (hl : l.length ≤ 128) : (begL l i).length = 128 := by unfold begL; rw [List.length_append, List.length_take, List.length_replicate, Nat.min_eq_left hi]; omega
theorem begL_set {l : List Int} {i : Nat} {x : Int} (hi : i < l.length) (hl : l.length ≤ 128) (hx : l[i] = x) : (begL l i).set i x = begL l (i + 1) := by
  unfold begL; obtain ⟨k, hk⟩ : ∃ k, 128 - i = k + 1 := ⟨127 - i, by omega⟩
  have h1 : (l.take i).length = i := by rw [List.length_take]; omega
  rw [List.set_append_right _ _ (by omega), hk, List.replicate_succ, show i - (l.take i).length = 0 by omega, List.set_cons_zero, List.take_succ_eq_append_getElem hi, hx, show 128 - (i + 1) = k by omega]
  simp

theorem XW50b {A : Prop} (e : A := by
 rintro sJ wJ hbJ hunJ aI bI hdJ hpJ
 have sv2 := (hunJ 2 (by decide) (un_of (by kernel_rfl))).trans sl2; rw [if_pos (by rfl)]; exact oV) : A := e
theorem rbegin_ok (a : Option Addr) (c : Nat) (l : List Int) (bt ot : Nat) (tc : Nat) (tp : List Int) (n : Int) (w : World) (hR : RdInts w a l) (hT : RdInts w (some ⟨bt, ot, none⟩) tp) (hl : l.length ≤ 128) (ht : tp.length ≤ 200) (ht0 : 0 < tp.length) (ho : oddI l < 0) (hot : oddI tp < 0) (hn : addrB n = true) :
    Calls Tryz.prog 70 #[.slice a l.length c, .slice (some ⟨bt, ot, none⟩) tp.length tc, .int .i64 n] w (fun e w' => ∃ A : SA, e = .returned (.tuple #[.agg #[.slice A.sa (beginS l tp n).store.length A.sc, .slice A.ta (beginS l tp n).tape.length A.tc, .int .i64 (beginS l tp n).taken, .slice A.pa (beginS l tp n).printed.length A.pc, .int .i64 (beginS l tp n).time, .int .i64 (beginS l tp n).pc, .int .i64 (beginS l tp n).done, .int .i64 (beginS l tp n).why], .int .i64 0]) ∧ RdSt w' (beginS l tp n) A ∧ (∀ k, k < w.heap.size → A.free (beginS l tp n) k) ∧ Below w.heap.size w w') := by
 have HR := hid hR; have HT := hid hT; clear hR hT; obtain ⟨i0, hi0, hz0, hy0, hx0⟩ := info_parts info_int
 have hl2 : (l.length : Int) ≤ 128 := by omega
 have ht2 : (tp.length : Int) ≤ 200 := by omega
 have n3 : ¬ 0 ≤ oddI l := by omega
 have n4 : ¬ 0 ≤ oddI tp := by omega
 have hn2 := (inI_iff _ _ _).1 hn; have tm : n.tmod 16 = n % 16 := Int.tmod_eq_emod_of_nonneg hn2.1; have wz := IntWalk.i64_in (n % 16) (by omega); have hn0 : 0 ≤ n ∧ n ≤ 127 := hn2; clear hn2
 refine enter_F Tryz.func70 rfl Tryz.ntmps70 (by simp) ?_
 intro s0 hs; have sl0 : s0 0 = .slice a l.length c := hs 0 (by simp); have sl1 : s0 1 = .slice (some ⟨bt, ot, none⟩) tp.length tc := hs 1 (by simp); have sl2 : s0 2 = .int .i64 n := hs 2 (by simp); clear hs; have HB := hid (OldB.refl [] w)
 refine nr ?_; intros; refine pa (fun w1 B6 hB kb6 hb2 => ?_); have gb6 := HB.out.gB hB; have eb6 := eB hB; clear hB; replace HB := bE HB hb2; clear hb2; have qb6 := kb6.1; refine pl ?_; refine lx [6] ?_; clear sl0 sl1 sl2; intro s3 sl0 sl1 sl2 sl6; refine lr ?_; intros
 refine P4 ?_
 iterate 3 refine py ?_
 refine pl ?_; refine lx [17] ?_; clear sl0 sl1 sl2 sl6; intro s4 sl0 sl1 sl2 sl6 sl17; refine ln ?_; intros
 refine cond_f ?_
 refine nr ?_; intros; refine pl ?_; refine cal (rodd_any a c l _ (Rd.oldB HR.out HB.out (by simp)) (by omega)) ?_; rintro e w5 ⟨rfl, hb6⟩; refine ⟨_, rfl, ?_⟩; clear qb6; revert HB; revert kb6; refine uA hb6 ?_; clear hb6; intro kb6 qb6 HB; refine P2 ?_; refine py ?_; refine listF_yes rfl rfl (by decide) ?_ (fun K' hK => ?_); (focus (go_simp; done)); unfold opF; go_simp; refine (rodd_any (some ⟨bt, ot, none⟩) tc tp _ (Rd.oldB HT.out HB.out (by simp)) (by omega)).mono ?_; rintro e w7 ⟨rfl, hb8⟩; refine ⟨_, rfl, hK _ _ ?_⟩; clear hK K'; clear qb6; revert HB; revert kb6; refine uA hb8 ?_; clear hb8; intro kb6 qb6 HB; refine py ?_; refine P2 ?_; refine py ?_; refine listF_yes rfl rfl (by decide) ?_ (fun K' hK => ?_); (focus (go_simp; done)); unfold opF; go_simp; refine (raddr_any n _).mono ?_; rintro e w' ⟨rfl, rfl⟩
 refine ⟨_, rfl, hK _ _ ?_⟩; clear hK K'; refine py ?_; refine pl ?_; clear sl17; refine lx [31] ?_; clear sl0 sl1 sl2 sl6; intro s10 sl0 sl1 sl2 sl6 sl31; refine ln ?_; intros
 refine cond_f ?_
 refine zx ?_; intros
 refine regW 9 [fun v a b W => ∃ B, v = .slice (some ⟨B, 0, none⟩) 128 128 ∧ a ≤ B ∧ B < b ∧ Cells W B ((List.replicate 128 (0 : Int)).flatMap int1), fun v a b W => ∃ B, v = .slice (some ⟨B, 0, none⟩) 0 0 ∧ a ≤ B ∧ B < b ∧ Cells W B ([] : List Value), fun v _ _ _ => v = .slice (some ⟨bt, ot, none⟩) tp.length tc, fun v a b W => ∃ B c', v = .slice (some ⟨B, 0, none⟩) tp.length c' ∧ a ≤ B ∧ B < b ∧ RdInts W (some ⟨B, 0, none⟩) tp, fun v _ _ _ => v = .int .i64 n, fun v _ _ _ => v = .int .i64 n, fun v _ _ _ => v = .int .i64 (n % 16), fun v a b W => BegP w7.heap.size n tp v W, fun v a b W => ∃ B, v = .pointer (some ⟨B, 0, none⟩) ∧ a ≤ B ∧ B < b ∧ Cells W B [Value.slice none 0 0, .slice none 0 0, .int .i64 0, .slice none 0 0, .int .i64 0, .int .i64 0, .int .i64 0, .int .i64 0]] (by kernel_rfl) (by kernel_rfl) (by kernel_rfl) (by kernel_rfl) ⟨fun _ _ _ _ _ ⟨B, h1, h2, h3, h4⟩ hb => ⟨B, h1, h2, h3, h4.at hb⟩, fun _ _ _ _ _ ⟨B, h1, h2, h3, h4⟩ hb => ⟨B, h1, h2, h3, h4.at hb⟩, fun _ _ _ _ _ h _ => h, fun _ _ _ _ _ ⟨B, c', h1, h2, h3, h4⟩ hb => ⟨B, c', h1, h2, h3, Rd.at h4 hb⟩, fun _ _ _ _ _ h _ => h, fun _ _ _ _ _ h _ => h, fun _ _ _ _ _ h _ => h, fun _ _ _ _ _ ⟨B, B', c', h1, h2, h3, h4, h5, h6⟩ hb => ⟨B, B', c', h1, h2, h3, h4, h5.at hb, Rd.at h6 hb⟩, fun _ _ _ _ _ ⟨B, h1, h2, h3, h4⟩ hb => ⟨B, h1, h2, h3, h4.at hb⟩, trivial⟩ ⟨?_, ?_, ?_, ?_, ?_, ?_, ?_, ?_, ?_, trivial⟩ ?_
 · rintro sJ wJ hbJ hunJ aI bI hdJ hpJ
   rw [if_pos (by rfl)]; exact opV_make rfl (by decide) (by decide) rfl
 · rintro sJ wJ hbJ hunJ aI bI hdJ hpJ
   rw [if_pos (by rfl)]; exact opV_slice (by intro K' hK; unfold opF; go_simp; exact hK)
 · rintro sJ wJ hbJ hunJ aI bI hdJ hpJ
   have sv1 := (hunJ 1 (by decide) (un_of (by kernel_rfl))).trans sl1; rw [if_pos (by rfl)]; exact oV
 · rintro sJ wJ hbJ hunJ aI bI hdJ hpJ
   obtain ⟨lw1, hw1, hv1⟩ := hdJ 1 (by kernel_rfl); replace hv1 := hv1 34 rfl; obtain ⟨B34, sv34, gl34, gr34, kb34'⟩ := hv1; have sv35 : sJ 35 = .slice (some ⟨bt, ot, none⟩) tp.length tc := (hdJ 2 (by kernel_rfl)).2.2 35 rfl; rw [if_pos (by rfl)]; have hTJ := Rd.at (Rd.oldB HT.out HB.out (by simp)) hbJ; refine opF_app0 (d := 36) rfl (by decide) (.tmp 34) (.tmp 35) _ rfl 3 i0 _ 8 Tryz.underlying22 hi0 hz0 hy0 hx0 (fun _ => rfl) B34 tp bt ot tc (by go_simp) (by go_simp) hTJ ht0 (by omega) (by omega) (fun B c' w' h1 h2 h3 h4 => ?_); exact ⟨⟨B, c', rfl, h1, h2, h3⟩, h4⟩
 · exact XW50b
 · exact XW50b
 · rintro sJ wJ hbJ hunJ aI bI hdJ hpJ
   have sv38 : sJ 38 = .int .i64 n := (hdJ 5 (by kernel_rfl)).2.2 38 rfl; rw [if_pos (by rfl)]; exact oV
 · rintro sJ wJ hbJ hunJ aI bI hdJ hpJ
   obtain ⟨lw0, hw0, hv0⟩ := hdJ 0 (by kernel_rfl); replace hv0 := hv0 33 rfl; obtain ⟨B33, sv33, ha33, hb33, kc33⟩ := hv0; obtain ⟨lw3, hw3, hv3⟩ := hdJ 3 (by kernel_rfl); replace hv3 := hv3 36 rfl; obtain ⟨B36, c36, sv36, ha36, hb36, kc36⟩ := hv3; have sv37 : sJ 37 = .int .i64 n := (hdJ 4 (by kernel_rfl)).2.2 37 rfl; have sv39 : sJ 39 = .int .i64 (n % 16) := (hdJ 6 (by kernel_rfl)).2.2 39 rfl; rw [if_pos (by rfl)]; have hp := hpJ 0 3 (by kernel_rfl) (by kernel_rfl) (by decide)
   have hne : B33 ≠ B36 := by omega
   have hw1 := Nat.le_trans lw0 ha33; have hw2 := Nat.le_trans lw3 ha36; unfold opF; go_simp; exact ⟨⟨B33, B36, c36, rfl, hw1, hw2, hne, kc33, kc36⟩, Below.refl _ _⟩
 · rintro sJ wJ hbJ hunJ aI bI hdJ hpJ
   rw [if_pos (by rfl)]; exact opV_alloc (by intro K' hK; unfold opF; go_simp; exact hK)
 intro s13 w11 aJ bJ hb12 hunJ hvJ hapJ; replace sl0 := (hunJ 0 (by decide) (un_of (by kernel_rfl))).trans sl0; replace sl6 := (hunJ 6 (by decide) (un_of (by kernel_rfl))).trans sl6; clear sl1 sl2 sl31; obtain ⟨gw33, gm33, gh33, hq33⟩ := hvJ 0 (by decide); obtain ⟨B33, sl33, ha33, hb33, kc33⟩ := hq33 33 rfl; clear hq33; obtain ⟨gw34, gm34, gh34, hq34⟩ := hvJ 1 (by decide); obtain ⟨B34, sl34, gl34, gr34, kb34'⟩ := hq34 34 rfl; clear hq34; obtain ⟨gw36, gm36, gh36, hq36⟩ := hvJ 3 (by decide); obtain ⟨B36, c36, sl36, ha36, hb36, kc36⟩ := hq36 36 rfl; clear hq36; obtain ⟨gw40, gm40, gh40, hq40⟩ := hvJ 7 (by decide); obtain ⟨g, g2, c2, sl40, hg0, hg2, hgg, kg', kg2⟩ := hq40 40 rfl; clear hq40; obtain ⟨gw8, gm8, gh8, hq8⟩ := hvJ 8 (by decide); obtain ⟨B8, sl8, gl8, gr8, kb8'⟩ := hq8 8 rfl; clear hq8; have ap33_34 := hapJ 0 1 (by decide) (by decide) (by decide); have ap33_36 := hapJ 0 3 (by decide) (by decide) (by decide); have ap33_40 := hapJ 0 7 (by decide) (by decide) (by decide)
 have ap33_8 := hapJ 0 8 (by decide) (by decide) (by decide); have ap34_36 := hapJ 1 3 (by decide) (by decide) (by decide); have ap34_40 := hapJ 1 7 (by decide) (by decide) (by decide); have ap34_8 := hapJ 1 8 (by decide) (by decide) (by decide); have ap36_40 := hapJ 3 7 (by decide) (by decide) (by decide); have ap36_8 := hapJ 3 8 (by decide) (by decide) (by decide); have ap40_8 := hapJ 7 8 (by decide) (by decide) (by decide); clear hunJ hvJ hapJ; have gS := HB.out.size
 have ob6_b34 : B6 < B34 := by have := qb6; omega
 have gb34 : w.heap.size ≤ B34 := by omega
 have ob6_b8 : B6 < B8 := by have := qb6; omega
 have gb8 : w.heap.size ≤ B8 := by omega
 have ob34_b8 : B34 ≠ B8 := by omega
 have hgB : g ≠ B8 := fun e => by subst e; have h1 := kb8'.cell 0 rfl; have h2 := kg'.cell 0 rfl; rw [h1] at h2; cases h2
 have hg2B : g2 ≠ B8 := fun e => by subst e; have h1 := kb8'.cell 0 rfl; obtain ⟨b9, o9, h3, _, h2⟩ := RdInts.ne kg2 ht0; cases h3; simp only [Nat.zero_add] at h2; rw [h1] at h2; cases h2
 have oB6g : B6 < g := by have := kb6.1; omega
 have oB6g2 : B6 < g2 := by have := kb6.1; omega
 have gg : w.heap.size ≤ g := by omega
 clear gl8 gr8 ha33 hb33 kc33 ha36 hb36 kc36 ap33_34 ap33_36 ap33_40 ap33_8 ap34_36 ap34_40 ap34_8 ap36_40 ap36_8 ap40_8; clear qb6; revert HB; revert kb6; refine uA hb12 ?_; clear hb12; intro kb6 qb6 HB; have kb34 := kb34'; clear kb34'; have qb34 := kb34.1; have kb8 := kb8'; clear kb8'; have qb8 := kb8.1; clear qb34 kb34; have kg := kg'; clear kg'; have qg := kg.1; have cb8 := clx kb8; have zb8 := kb8.2.2; refine pl ?_; refine sto kb8 ?_; clear kb8 cb8 zb8; intro w14 kb8 hb15; clear qb6 qb8 qg; replace kg2 := Rd.oldB kg2 hb15 (fun b hb => by cases hb; simp; omega); revert HB; revert kg; revert kb6; refine uO hb15 ?_; clear hb15; intro kb6 qb6 kg qg HB; have qb8 := kb8.1; clear sl33 sl34 sl36 sl40; refine lx [] ?_; clear sl0 sl6 sl8; intro s16 sl0 sl6 sl8; refine lr ?_; intros; refine pl ?_; refine lx [9] ?_; clear sl0 sl6 sl8; intro s17 sl0 sl6 sl8 sl9; refine ln ?_; intros
 have hc0_0 := hid sl0; have hc0_6 := hid sl6; have hc0_8 := hid sl8; refine loop_F (n := 56) (fun kJ sJ wJ => ∃ (i : Nat), kJ = l.length - i ∧ sJ 9 = .int .i64 (i : Int) ∧ sJ 0 = s17 0 ∧ sJ 6 = s17 6 ∧ sJ 8 = s17 8 ∧ OldB [g] w14 wJ ∧ Cells wJ g ((begL l i).flatMap int1) ∧ i ≤ l.length) ⟨0, rfl, (by first | exact sl9 | (rw [sl9]; go_num) | (rw [sl9]; rfl)), rfl, rfl, rfl, OldB.refl _ _, (by have e : begL l 0 = List.replicate 128 0 := (by simp [begL]); rw [e]; exact kg), Nat.zero_le _⟩ ?_; clear sl9; rintro kJ s18 w19 ⟨i, rfl, sl9, e0, e6, e8, hb20, mg', hil⟩; replace sl0 := e0.trans sl0; clear e0; replace sl6 := e6.trans sl6; clear e6; replace sl8 := e8.trans sl8; clear e8; have hoJ := hb20; clear qb6 qb8 qg; replace kg := mg'; replace kg2 := Rd.oldB kg2 hb20 (fun b hb => by cases hb; simp; omega); revert HB; revert kb8; revert kb6; refine uO hb20 ?_; clear hb20; intro kb6 qb6 kb8 qb8 HB; have qg := kg.1; clear mg'; have HoJ := hid hoJ; clear hoJ; have HL21 := HoJ; clear HoJ
 refine nr ?_; intros
 refine P4 ?_
 refine lx [44] ?_; clear sl0 sl6 sl8 sl9; intro s22 sl0 sl6 sl8 sl9 sl44; refine ln ?_; intros
 refine cond_E sl44 (by decide) ?_ ?_ <;> (clear sl44; intro h44 sl44)
 ·skip
  have hi : i < l.length := by simpa using h44
  have hii : (i : Int) < l.length := by omega
  obtain ⟨bl, ol, hal, hbl, -⟩ := RdInts.ne HR.out hi; subst hal; obtain ⟨x, hx⟩ : ∃ x, l[i] = x := ⟨_, rfl⟩; have d0 := rd_at1 (Rd.oldB HR.out HB.out (by simp)) hi hx
  have nbl : ¬ bl = g := by omega
  have hbw : bl < w19.heap.size := by have := HB.out.size; omega
  have Hx := hid hx
  have hig : i < (begL l i).length := by rw [begL_len hil hl]; omega
  have hi8 : (i : Int) < 128 := by omega
  clear hx
  refine zx ?_; intros
  obtain ⟨cb6_0, cb6_1, cb6_2, cb6_3, cb6_4, cb6_5, cb6_6, cb6_7⟩ := cl8 kb6; have cb8 := clx kb8
  have nb6_g : ¬ B6 = g := by omega
  have nb8_g : ¬ B8 = g := by omega
  refine regionR_F [g] [((begL l i).flatMap int1)] [9] [.q [], .q [], .q [], .q [], .q [], .q [], .q [], .q [], .st 9] [?v17_0, ?v17_1, ?v17_2, ?v17_3, ?v17_4, ?v17_5, ?v17_6, ?v17_7, fun _ => undef] [fun _ => [], fun _ => [], fun _ => [], fun _ => [], fun _ => [], fun _ => [], fun _ => [], fun _ => [], ?c17_8] (by kernel_rfl) (by kernel_rfl) (by kernel_rfl) (by kernel_rfl) (by kernel_rfl) (by first | exact List.nodup_nil | exact List.nodup_singleton _ | (simp; done) | (simp; omega)) (bc_cons (by repeat (first | (with_reducible exact kg) | (with_reducible refine Cells.drew ?_) | (with_reducible refine Cells.up ?_ _) | (with_reducible refine Cells.setFar ?_ (by omega)))) bc_nil) ?walk17 ?dep17
  case walk17 =>
   iterate 8 refine rq ?_
   refine walkR_st (by rfl) (fun X hX wq hwq hkq => ?_) ?_
   · rw [show X 9 = g from hX.at0 0 _ rfl] at hkq ⊢
     replace hkq : Cells wq g (((begL l i).flatMap int1)) := hkq; have hks := hkq.1; have hkz := hkq.2.2; have f0 := ints_cell hkq hig; go_simp
     (first | ((with_reducible refine writeB_mk (Cells.set hkq) ?_ ?_); (focus (repeat (first | (with_reducible exact Only.refl _ _) | (with_reducible refine Only.set ?_)))); rfl))
   refine walkR_nil (fun X hX w23 hwz hcz => ?_); have kz0 := hcz 9 (by simp); rw [show X 9 = g from hX.at0 0 _ rfl] at kz0
   simp only [updC_some, updC_none, Nat.reduceEqDiff, ↓reduceIte] at kz0
   clear hX hcz
   (try clear X)
   clear nb6_g nb8_g; have hb24 := hwz.unDrew; clear hwz
   (try simp only [stC, mC, tC, List.set_cons_zero, List.set_cons_succ] at kz0)
   clear cb6_0 cb6_1 cb6_2 cb6_3 cb6_4 cb6_5 cb6_6 cb6_7 cb8; clear qb6 qb8 qg; replace kg := kz0; replace kg2 := Rd.oldB kg2 hb24 (fun b hb => by cases hb; simp; omega); revert HB; revert HL21; revert kb8; revert kb6; refine uO hb24 ?_; clear hb24; intro kb6 qb6 kb8 qb8 HL21 HB; have qg := kg.1; clear kz0; rw [ints_set, begL_set hi hl Hx.out] at kg; clear sl44; refine lx [] ?_; clear sl0 sl6 sl8 sl9; intro s25 sl0 sl6 sl8 sl9; refine lr ?_; intros
   refine P3 ?_
   clear sl9; refine lx [9] ?_; clear sl0 sl6 sl8; intro s26 sl0 sl6 sl8 sl9; refine ln ?_; intros
   refine ⟨_, _, rfl, ?_, i + 1, rfl, (rL sl9), (sl0.trans hc0_0.out.symm), (sl6.trans hc0_6.out.symm), (sl8.trans hc0_8.out.symm), HL21.out, (by first | (with_reducible exact kg) | (apply Cells.conv; (focus (exact kg)); (first | rfl | (simp; done)))), by omega⟩
   omega
  case dep17 => exact dA
 ·skip
  have hi : i = l.length := by have h := h44; simp at h; omega
  refine zx ?_; intros
  clear HL21; clear hc0_0 hc0_6 hc0_8; refine region_F ?_; have cb8 := clx kb8; refine pl ?_; obtain ⟨cb6_0, cb6_1, cb6_2, cb6_3, cb6_4, cb6_5, cb6_6, cb6_7⟩ := cl8 kb6; have zb6 := kb6.2.2; refine pl ?_; refine sto kb6 ?_; clear kb6 cb6_0 cb6_1 cb6_2 cb6_3 cb6_4 cb6_5 cb6_6 cb6_7 cb8 zb6; intro w27 kb6 hb28; clear qb6 qb8 qg; replace kg2 := Rd.oldB kg2 hb28 (fun b hb => by cases hb; simp; omega); revert HB; revert kg; revert kb8; refine uO hb28 ?_; clear hb28; intro kb8 qb8 kg qg HB; have qb6 := kb6.1; refine pl ?_; clear sl0 sl8 sl9 sl44; refine lx [7] ?_; clear sl6; intro s29 sl6 sl7; refine ln ?_; intros
  obtain ⟨cb6_0, cb6_1, cb6_2, cb6_3, cb6_4, cb6_5, cb6_6, cb6_7⟩ := cl8 kb6; refine ret_F _ (res_ct Tryz.results70 ((getD_F (by decide)).trans sl6) (load_t24 cb6_0 cb6_1 cb6_2 cb6_3 cb6_4 cb6_5 cb6_6 cb6_7) ((getD_F (by decide)).trans sl7)) ?_
  have hfin : begL l i = (beginS l tp n).store := by rw [hi]; simp [begL, beginS]
  rw [hfin] at kg; exact ⟨⟨some ⟨g, 0, none⟩, 128, some ⟨g2, 0, none⟩, c2, none, 0⟩, by simp [beginS]; omega, ⟨Cells.rd (f := int1) (m := 1) (fun _ => rfl) kg, kg2, .inl rfl⟩, (fun k hk => ⟨fun _ b hb => by cases hb; show g ≠ k; omega, fun _ b hb => by cases hb; show g2 ≠ k; omega, fun h => absurd rfl h⟩), HB.out.toBelow⟩
end

section
open Go.RowKit


abbrev Flt.cs (f : Flt) : List Value := [.int .i64 f.done, .int .i64 f.addr, .int .i64 f.mask]
abbrev RdFl := Rd Flt.cs 3
theorem RdFl.ne {w : World} {a : Option Addr} {l : List Flt} (h : RdFl w a l) {k : Nat} (hk : k < l.length) :
    ∃ b off, a = some ⟨b, off, none⟩ ∧ b < w.heap.size ∧ w.cell? ⟨b, off + k * 3, none⟩ = some (.int .i64 l[k].done) ∧ w.cell? ⟨b, off + k * 3 + 1, none⟩ = some (.int .i64 l[k].addr) ∧ w.cell? ⟨b, off + k * 3 + 2, none⟩ = some (.int .i64 l[k].mask) := by
  obtain ⟨b, off, ha, hb, hc⟩ := Rd.ne h hk; exact ⟨b, off, ha, hb, hc 0 _ rfl, hc 1 _ rfl, hc 2 _ rfl⟩
def err0 (s : St4) (fs : List Flt) : Int := if (chk4 s).2.2 ≠ 0 then (chk4 s).2.2 else if 10 < fs.length then 3 else 0
def errU (s : St4) (fs : List Flt) (i : Nat) : Int := if err0 s fs ≠ 0 then err0 s fs else flErr (fs.take i)
theorem flErr_snoc (fs : List Flt) (f : Flt) : flErr (fs ++ [f]) = if flErr fs ≠ 0 then flErr fs else fErr f := by
  unfold flErr; rw [List.find?_append]
  cases h : fs.find? (fun f => fErr f != 0) with
  | none =>
    simp
    cases h2 : (fErr f != 0) <;> simp at h2 <;> simp [h2]
  | some y =>
    have h1 := List.find?_some h
    simp at h1
    simp [h1]
theorem errU_0 {s : St4} {fs : List Flt} : errU s fs 0 = err0 s fs := by unfold errU; split <;> simp_all [flErr]
theorem errU_succ {s : St4} {fs : List Flt} {i : Nat} (h : i < fs.length) {y : Flt} (hy : fs[i] = y) (h0 : errU s fs i = 0) : errU s fs (i + 1) = fErr y := by
  subst hy; unfold errU at *
  split at h0
  · rename_i h1; exact absurd h0 h1
  · rename_i h1
    rw [if_neg h1, List.take_succ_eq_append_getElem h, flErr_snoc, if_neg (by omega)]
theorem errU_stay {s : St4} {fs : List Flt} : ∀ {k i : Nat}, errU s fs i ≠ 0 → i + k ≤ fs.length → errU s fs (i + k) = errU s fs i
  | 0, _, _, _ => rfl
  | k + 1, i, h, hl => by
    have ih := errU_stay (k := k) h (by omega)
    by_cases h1 : err0 s fs ≠ 0
    · unfold errU; rw [if_pos h1, if_pos h1]
    · rw [show i + (k + 1) = (i + k) + 1 by omega]
      have h2 : flErr (fs.take (i + k)) = errU s fs i := by rw [← ih]; unfold errU; rw [if_neg h1]
      unfold errU; rw [if_neg h1, List.take_succ_eq_append_getElem (by omega), flErr_snoc, h2, if_pos h, if_neg h1]; unfold errU; rw [if_neg h1]
theorem ask_errU {s : St4} {fs : List Flt} {most : Int} : askErr12 s fs most = if errU s fs fs.length ≠ 0 then errU s fs fs.length else if inI most 0 1000 = false then 7 else 0 := by
  unfold askErr12 errU err0; rw [List.take_length]
  by_cases h1 : (chk4 s).2.2 ≠ 0
  · rw [if_pos h1, if_pos h1, if_pos h1, if_pos h1]
  · rw [if_neg h1, if_neg h1]
    by_cases h2 : 10 < fs.length
    · rw [if_pos h2, if_pos h2]; rfl
    · rw [if_neg h2, if_neg h2]; simp
end

section
open Go.RowKit


theorem hitS_len (n : Int) : ∀ (fs : List Flt) (st : List Int), (hitS fs n st).length = st.length := by
  suffices h : ∀ (gs : List Flt) (st : List Int), (gs.foldl (fun st f => st.set f.addr.toNat (xorI (st.getD f.addr.toNat 0) f.mask)) st).length = st.length from fun fs st => h _ _
  intro gs
  induction gs with
  | nil => intro st; rfl
  | cons f gs ih => intro st; rw [List.foldl_cons, ih, List.length_set]
end

section
open Go.RowKit


theorem RdSt.oldK {w w' : World} {s : St4} {A : SA} {k : Nat} (h : RdSt w s A) (hf : A.free s k) (ho : OldB [k] w w') : RdSt w' s A := by
  have go : ∀ {a : Option Addr} {l : List Int}, RdInts w a l → (l ≠ [] → ∀ b, a = some b → b.block ≠ k) → RdInts w' a l := by
    intro a l h1 h2
    by_cases e : l = []
    · exact .inl e
    · exact Rd.oldB h1 ho (fun b hb => by simp; exact h2 e b hb)
  exact ⟨go h.st hf.1, go h.tp hf.2.1, go h.pr hf.2.2⟩
theorem RdSt.freeB {w : World} {s : St4} {A : SA} {k : Nat} (h : RdSt w s A) (hk : w.heap.size ≤ k) : A.free s k := by
  have go : ∀ {a : Option Addr} {l : List Int}, RdInts w a l → l ≠ [] → ∀ b, a = some b → b.block ≠ k := by
    intro a l h1 h2 b hb
    rcases h1 with h1 | ⟨b', off, ha, hlt, _⟩
    · exact absurd h1 h2
    · rw [ha] at hb; cases hb; show b' ≠ k; omega
  exact ⟨go h.st, go h.tp, go h.pr⟩
end

section
open Go.RowKit


def exL : List Int := [12583560, 0, 0, 0, 0, 0, 0, 0, 10569226, 0, 4278016, 0, 14909453]
def exT : List Int := [3, 4, 16777215]
def exS : St4 := beginS exL exT 0

theorem lS_any (w : World) :
    Calls Tryz.prog 26 #[] w (fun e w' => ∃ A : SA, e = .returned (.agg #[.slice A.sa exS.store.length A.sc, .slice A.ta exS.tape.length A.tc, .int .i64 exS.taken, .slice A.pa exS.printed.length A.pc, .int .i64 exS.time, .int .i64 exS.pc, .int .i64 exS.done, .int .i64 exS.why]) ∧ RdSt w' exS A ∧ Below w.heap.size w w') := by
 refine enter_F Tryz.func26 rfl Tryz.ntmps26 (by simp) ?_
 intro _ hs; clear hs; have HB := hid (OldB.refl [] w)
 refine nr ?_; intros; refine pa (fun _ B0 hB kb0 hb => ?_); have gb0 := HB.out.gB hB; have eb0 := eB hB; clear hB; replace HB := bE HB hb; clear hb; have qb0 := kb0.1; refine lx [0] ?_; intro _ sl0; refine lr ?_; intros; refine listF_step rfl (fun K' hK => ?_); refine uponF.mono (fun v w4 h => ?_) (opV_make (k := 13) (d := 4) rfl (by decide) (by decide) rfl); obtain ⟨⟨B4, rfl, gB4, lB4, k4'⟩, hb⟩ := h; refine hK _ _ ?_; clear hK K'
 have ob0_b4 : B0 < B4 := by omega
 have gb4 : w.heap.size ≤ B4 := by have := HB.out.size; omega
 have k4'' : Cells w4 B4 [.int .i64 0, .int .i64 0, .int .i64 0, .int .i64 0, .int .i64 0, .int .i64 0, .int .i64 0, .int .i64 0, .int .i64 0, .int .i64 0, .int .i64 0, .int .i64 0, .int .i64 0] := k4'; clear k4' gB4 lB4; clear qb0; revert HB; revert kb0; refine uA hb ?_; clear hb; intro kb0 qb0 HB; have kb4 := k4''; clear k4''; have qb4 := kb4.1; refine pl ?_; refine lx [1] ?_; clear sl0; intro _ sl0 sl1; refine lr ?_; intros
 refine P5 ?_
 have cb4 := clx kb4; have zb4 := kb4.2.2; refine pl ?_; refine sto kb4 ?_; clear kb4 cb4 zb4; intro _ kb4 hb; clear qb0 qb4; revert HB; revert kb0; refine uO hb ?_; clear hb; intro kb0 qb0 HB; have qb4 := kb4.1; refine pl ?_; have cb4 := clx kb4; have zb4 := kb4.2.2; refine pl ?_; refine sto kb4 ?_; clear kb4 cb4 zb4; intro _ kb4 hb; clear qb0 qb4; revert HB; revert kb0; refine uO hb ?_; clear hb; intro kb0 qb0 HB; have qb4 := kb4.1; refine pl ?_; have cb4 := clx kb4; have zb4 := kb4.2.2; refine pl ?_; refine sto kb4 ?_; clear kb4 cb4 zb4; intro _ kb4 hb; clear qb0 qb4; revert HB; revert kb0; refine uO hb ?_; clear hb; intro kb0 qb0 HB; have qb4 := kb4.1; refine pl ?_; have cb4 := clx kb4; have zb4 := kb4.2.2; refine pl ?_; refine sto kb4 ?_; clear kb4 cb4 zb4; intro _ kb4 hb; clear qb0 qb4; revert HB; revert kb0; refine uO hb ?_; clear hb; intro kb0 qb0 HB; have qb4 := kb4.1; refine lx [] ?_; clear sl0 sl1; intro _ sl0 sl1; refine lr ?_; intros; refine pl ?_; refine pas (fun _ B15 hB kb15 hb => ?_); have gb15 := HB.out.gB hB; have ob0_b15 := oB qb0 hB; have ob4_b15 := oB qb4 hB; have eb15 := eB hB; clear hB; clear qb0 qb4; revert HB; revert kb4; revert kb0; refine uA hb ?_; clear hb; intro kb0 qb0 kb4 qb4 HB; have qb15 := kb15.1; refine cal (rbegin_ok (some ⟨B4, 0, none⟩) 13 exL B15 0 3 exT 0 _ (Cells.rd (f := int1) (m := 1) (l := exL) (fun _ => rfl) kb4) (Cells.rd (f := int1) (m := 1) (l := exT) (fun _ => rfl) kb15) (by decide) (by decide) (by decide) (by decide +kernel) (by decide +kernel) (by decide)) ?_; rintro e w18 ⟨A, rfl, hRS, hf0, hb⟩; have Hf0 := hid (hf0 B0 (by omega)); have Hf2 := hid (fun k (hk : w18.heap.size ≤ k) => RdSt.freeB (k := k) hRS hk); clear hf0; refine ⟨_, rfl, ?_⟩
 clear qb0 qb4 qb15; revert HB; revert kb15; revert kb4; revert kb0; refine uA hb ?_; clear hb; intro kb0 qb0 kb4 qb4 kb15 qb15 HB; have HL9 := hid (OldB.refl [] w18)
 refine P3 ?_
 refine pa (fun _ B2 hB kb2 hb => ?_); have gb2 := HB.out.gB hB; have lHL9_b2 := HL9.out.gB hB; have ob0_b2 := oB qb0 hB; have ob4_b2 := oB qb4 hB; have ob15_b2 := oB qb15 hB; have eb2 := eB hB; clear hB; clear qb0 qb4 qb15; replace hRS := RdSt.at hRS hb; revert HB; revert HL9; revert kb15; revert kb4; revert kb0; refine uA hb ?_; clear hb; intro kb0 qb0 kb4 qb4 kb15 qb15 HL9 HB; have qb2 := kb2.1; have cb2 := clx kb2; have zb2 := kb2.2.2; refine pl ?_; refine sto kb2 ?_; clear kb2 cb2 zb2; intro _ kb2 hb; clear qb0 qb4 qb15 qb2; replace hRS := RdSt.oldK hRS (by first | exact Hf0.out | exact Hf2.out _ (by omega)) hb; revert HB; revert HL9; revert kb15; revert kb4; revert kb0; refine uO hb ?_; clear hb; intro kb0 qb0 kb4 qb4 kb15 qb15 HL9 HB; have qb2 := kb2.1; refine pl ?_; clear sl1; refine lx [2] ?_; clear sl0; intro _ sl0 sl2; refine lr ?_; intros; have cb2 := clx kb2; refine pl ?_; obtain ⟨cb0_0, cb0_1, cb0_2, cb0_3, cb0_4, cb0_5, cb0_6, cb0_7⟩ := cl8 kb0; have zb0 := kb0.2.2; refine pl ?_; refine sto kb0 ?_; clear kb0 cb0_0 cb0_1 cb0_2 cb0_3 cb0_4 cb0_5 cb0_6 cb0_7 cb2 zb0; intro _ kb0 hb; clear qb0 qb4 qb15 qb2; replace kb4 := kb4.oB hb; replace kb15 := kb15.oB hb; replace kb2 := kb2.oB hb; replace hRS := RdSt.oldK hRS (by first | exact Hf0.out | exact Hf2.out _ (by omega)) hb; clear HL9; replace HB := mO HB hb; clear hb; have qb0 := kb0.1; have qb4 := kb4.1; have qb15 := kb15.1; have qb2 := kb2.1; clear sl2; refine lx [] ?_; clear sl0; intro _ sl0; refine ln ?_; intros
 obtain ⟨cb0_0, cb0_1, cb0_2, cb0_3, cb0_4, cb0_5, cb0_6, cb0_7⟩ := cl8 kb0; refine ret_F _ (res_c Tryz.results26 ((getD_F (by decide)).trans sl0) (load_t24 cb0_0 cb0_1 cb0_2 cb0_3 cb0_4 cb0_5 cb0_6 cb0_7)) ?_; exact ⟨A, rfl, hRS, HB.out.toBelow⟩
end


end Go.Proofs.YtleknidlgmmgbaaGreat
