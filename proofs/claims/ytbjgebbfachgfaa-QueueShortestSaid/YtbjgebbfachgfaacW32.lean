/- Next: the program's. -/
import Derived.Test.YtbjgebbfachgfaacW31
import Derived.Test.YtbjgebbfachgfaacJ6
set_option linter.unusedVariables false
set_option linter.unusedSimpArgs false
set_option linter.unusedSectionVars false
set_option linter.all false
namespace Go.Proofs.Ytbjgebbfachgfaa
open Go.RowKit

theorem clone0_n (a : Option Addr) (c n : Nat) (hn : n = 0) (w : World) :
    Calls Try.prog 53 #[.slice a n c] w fun e w' => (∃ a' c', e = .returned (.slice a' 0 c')) ∧ Below w.heap.size w w' := by
  subst hn; exact (clone0_any a c w).mono fun _ _ h => by
    first | exact h | (obtain ⟨a', c', h1, h2⟩ := h; exact ⟨⟨a', c', h1⟩, h2⟩)
theorem Cells.kept {w w' : World} {b : Nat} {l : List Value} (h : Cells w b l) (hb : w'.heap[b]? = w.heap[b]?) (hs : w.heap.size ≤ w'.heap.size) : Cells w' b l :=
  ⟨Nat.lt_of_lt_of_le h.1 hs, fun i v hv => (cell_block hb).trans (h.2.1 i v hv), fun o => (frozen_block hb).trans (h.2.2 o)⟩
theorem Rd.block {α : Type} {f : α → List Value} {m : Nat} {w w' : World} {g o : Nat} {l : List α} (h : Rd f m w (some ⟨g, o, none⟩) l) (hb : w'.heap[g]? = w.heap[g]?) (hs : w.heap.size ≤ w'.heap.size) : Rd f m w' (some ⟨g, o, none⟩) l := by
  rcases h with h | ⟨b, off, ha, hlt, hc⟩
  · exact .inl h
  · cases ha
    exact .inr ⟨g, o, rfl, Nat.lt_of_lt_of_le hlt hs, fun i x hi j v hj => (cell_block hb).trans (hc i x hi j v hj)⟩
theorem Own.frozen {α : Type} {f : α → List Value} {m : Nat} {T : TypeId} {base : Nat} {w : World} {g n cap : Nat} {l : List α} (h : Own f m T base w (.slice (some ⟨g, 0, none⟩) n cap) l) : ∀ o, w.frozen? ⟨g, o, none⟩ = false := by
  intro o
  rcases h.2 with ⟨h1, _⟩ | ⟨g', cap', cur, hv, _, hg, _⟩
  · cases h1
  · cases hv
    simp [World.frozen?, hg]
theorem Own.cells0 {α : Type} {f : α → List Value} {m : Nat} (hf : ∀ x, (f x).length = m) {T : TypeId} {base : Nat} {w : World} {g n cap : Nat} {l : List α} (h : Own f m T base w (.slice (some ⟨g, 0, none⟩) n cap) l) : ∀ i x, l[i]? = some x → ∀ j v, (f x)[j]? = some v → w.cell? ⟨g, i * m + j, none⟩ = some v := by
  intro i x hi j v hj
  rcases Own.rd' hf h rfl with h0 | ⟨b, off, he, _, hc⟩
  · rw [h0] at hi; cases hi
  · cases he
    have := hc i x hi j v hj
    rwa [Nat.zero_add] at this

set_option maxRecDepth 100000 in
set_option maxHeartbeats 8000000 in
theorem qNext_new (W : Work) (q : Qu) (aj af aq : Option Addr) (cj cf cq : Nat) (w : World) (hW : WorkIn w W aj af) (hq : RdSts w aq q.jobs) :
    Calls Try.prog 22 #[.agg #[.int .i64 W.rules.slice, .int .i64 W.rules.load, .int .i64 W.rules.dump, .int .i64 W.rules.patience, .int .i64 W.rules.rate, .slice aj W.jobs.length cj, .slice af W.faults.length cf], .agg #[.int .i64 q.now, .slice aq q.jobs.length cq]] w fun e w' => ∃ a c, e = .returned (.tuple #[.agg #[.int .i64 (nextRes W q).1.kind, .int .i64 (nextRes W q).1.job, .int .i64 (nextRes W q).1.from0, .int .i64 (nextRes W q).1.until0], .agg #[.int .i64 (nextRes W q).2.1.now, .slice a (nextRes W q).2.1.jobs.length c], .int .i64 (nextRes W q).2.2]) ∧
      RdSts w' a (nextRes W q).2.1.jobs ∧ Below w.heap.size w w' ∧ ∀ b, a = some b → w.heap.size ≤ b.block := by
  have HW := hid hW
  have Hq := hid hq
  clear hW hq
  refine enter_F Try.func22 rfl Try.ntmps22 (by simp) ?_
  intro s hs
  have sl0 : s 0 = .agg #[.int .i64 W.rules.slice, .int .i64 W.rules.load, .int .i64 W.rules.dump, .int .i64 W.rules.patience, .int .i64 W.rules.rate, .slice aj W.jobs.length cj, .slice af W.faults.length cf] := hs 0 (by simp)
  have sl1 : s 1 = .agg #[.int .i64 q.now, .slice aq q.jobs.length cq] := hs 1 (by simp)
  clear hs
  repeat (first | ((first | (refine listF_step rfl (fun K' hK => ?_)) | (refine listF_yes rfl rfl (by decide) ?_ (fun K' hK => ?_); (focus (go_simp; done)))); unfold opF; go_simp; (refine hK _ _ ?_); clear hK K') | (refine listF_no (b' := true) rfl rfl (by decide) ?_ ?_ ?_; (focus (go_simp; done)); (focus rfl)) | (refine listF_no (b' := false) rfl rfl (by decide) ?_ ?_ ?_; (focus (go_simp; done)); (focus rfl)) | (refine listF_nu rfl rfl (by decide) ?_ ?_; (focus (go_simp; done))) | (refine listF_nil ?_) | (refine region_F ?_) | (refine cond_F true ?_ ?_; (focus (go_simp; done)); simp only [if_true]) | (refine cond_F false ?_ ?_; (focus (go_simp; done)); simp only [Bool.false_eq_true, if_false]) | (with_reducible go_step))
  (refine listF_step rfl (fun K' hK => ?_); unfold opF; go_simp; refine (qcheck_any W aj af cj cf _ (HW.out.at (by repeat (first | (with_reducible exact Below.refl _ _) | (with_reducible refine bdrewN ?_ _) | (with_reducible refine Below.drew ?_) | (with_reducible refine Below.setCell ?_ (by first | omega | (simp; done) | (simp; omega)) _) | (with_reducible refine Below.alloc ?_ (by first | omega | (simp; done) | (simp; omega)) _))))).mono ?_; rintro e w2 ⟨rfl, hb2⟩; refine ⟨_, rfl, hK _ _ ?_⟩; clear hK K')
  have k0 : Cells w2 w.heap.size #[.int .i64 W.rules.slice, .int .i64 W.rules.load, .int .i64 W.rules.dump, .int .i64 W.rules.patience, .int .i64 W.rules.rate, .slice aj W.jobs.length cj, .slice af W.faults.length cf].toList := ((((Cells.new rfl).up _).up _).up _).at hb2
  have k1 : Cells w2 (w.heap.size + 1) #[.int .i64 q.now, .slice aq q.jobs.length cq].toList := (((Cells.new (by first | omega | (simp; done) | (simp; omega))).up _).up _).at hb2
  have k2 : Cells w2 (w.heap.size + 1 + 1) [.int .i64 0, .int .i64 0, .int .i64 0, .int .i64 0] := ((Cells.new (cs := #[.int .i64 0, .int .i64 0, .int .i64 0, .int .i64 0]) (by first | omega | (simp; done) | (simp; omega))).up _).at hb2
  have k3 : Cells w2 (w.heap.size + 1 + 1 + 1) [.int .i64 0, .slice none 0 0] := (Cells.new (cs := #[.int .i64 0, .slice none 0 0]) (by first | omega | (simp; done) | (simp; omega))).at hb2
  have HB2 := hid (Below.trans (by repeat (first | (with_reducible exact Below.refl _ w) | (with_reducible refine bdrewN ?_ _) | (with_reducible refine Below.drew ?_) | (with_reducible refine Below.setCell ?_ (by first | omega | (simp; done) | (simp; omega)) _) | (with_reducible refine Below.alloc ?_ (by first | omega | (simp; done) | (simp; omega)) _))) (hb2.mono (by first | omega | (simp; done) | (simp; omega))) : Below w.heap.size w w2)
  have hs2 : w.heap.size + 1 + 1 + 1 < w2.heap.size := k3.1
  clear hb2
  by_cases he : W.err = 0
  · have hck := check_of_err he
    have HK := hid (wok_of_err he)
    have hNE : nextErr W q = quErr W q := by unfold nextErr; rw [if_pos he]
    have HNE := hid hNE; clear hNE
    rw [hck]
    clear hck he
    have c0 := k2.cell 0 rfl
    have c1 := k2.cell 1 rfl
    have c2 := k2.cell 2 rfl
    have c3 := k2.cell 3 rfl
    have d0 := k3.cell 0 rfl
    have d1 := k3.cell 1 rfl
    have cz := k2.2.2
    have dz := k3.2.2
    have a5 := k0.cell 5 rfl
    have b0 := k1.cell 0 rfl
    have b1 := k1.cell 1 rfl
    have hs0 : w.heap.size < w2.heap.size := by omega
    have hs1 : w.heap.size + 1 < w2.heap.size := by omega
    have hs2' : w.heap.size + 1 + 1 < w2.heap.size := by omega
    by_cases hlen : q.jobs.length = W.jobs.length
    · have hl1 : ((q.jobs.length : Int) != (W.jobs.length : Int)) = false := by simp [hlen]
      have Hlen := hid hlen; clear hlen
      rcases Bool.eq_false_or_eq_true (inb q.now 0 1000000) with hnow | hnow
      · repeat (first | ((first | (refine listF_step rfl (fun K' hK => ?_)) | (refine listF_yes rfl rfl (by decide) ?_ (fun K' hK => ?_); (focus (go_simp; done)))); unfold opF; go_simp; (first | (refine hK _ _ ?_) | ((go_at_call 46; refine (qout_any _ _ _ _).mono ?_; rintro e w' ⟨rfl, rfl⟩); refine ⟨_, rfl, hK _ _ ?_⟩)); clear hK K') | (refine listF_no (b' := true) rfl rfl (by decide) ?_ ?_ ?_; (focus (go_simp; done)); (focus rfl)) | (refine listF_no (b' := false) rfl rfl (by decide) ?_ ?_ ?_; (focus (go_simp; done)); (focus rfl)) | (refine listF_nu rfl rfl (by decide) ?_ ?_; (focus (go_simp; done))) | (refine listF_nil ?_) | (refine region_F ?_) | (refine cond_F true ?_ ?_; (focus (go_simp; done)); simp only [if_true]) | (refine cond_F false ?_ ?_; (focus (go_simp; done)); simp only [Bool.false_eq_true, if_false]) | (with_reducible go_step))
        (refine wp_abs ?_; intro s' hs'; have gl2 := congrFun hs' 2; simp only [updS_some, updS_none, Nat.reduceEqDiff, ↓reduceIte] at gl2; (try rw [sl2] at gl2); have gl3 := congrFun hs' 3; simp only [updS_some, updS_none, Nat.reduceEqDiff, ↓reduceIte] at gl3; (try rw [sl3] at gl3); have gl4 := congrFun hs' 4; simp only [updS_some, updS_none, Nat.reduceEqDiff, ↓reduceIte] at gl4; (try rw [sl4] at gl4); have gl5 := congrFun hs' 5; simp only [updS_some, updS_none, Nat.reduceEqDiff, ↓reduceIte] at gl5; (try rw [sl5] at gl5); have gl39 := congrFun hs' 39; simp only [updS_some, updS_none, Nat.reduceEqDiff, ↓reduceIte] at gl39; (try rw [sl39] at gl39); have gl40 := congrFun hs' 40; simp only [updS_some, updS_none, Nat.reduceEqDiff, ↓reduceIte] at gl40; (try rw [sl40] at gl40); have gl41 := congrFun hs' 41; simp only [updS_some, updS_none, Nat.reduceEqDiff, ↓reduceIte] at gl41; (try rw [sl41] at gl41); clear hs'; (try clear sl2); (try clear sl3); (try clear sl4); (try clear sl5); (try clear sl39); (try clear sl40); (try clear sl41); have sl2 := gl2; clear gl2; have sl3 := gl3; clear gl3; have sl4 := gl4; clear gl4; have sl5 := gl5; clear gl5; have sl39 := gl39; clear gl39; have sl40 := gl40; clear gl40; have sl41 := gl41; clear gl41)
        have HNO : Hid (∀ (k : Nat) (h : k < q.jobs.length) (h' : k < W.jobs.length), stOk W.jobs[k] q.jobs[k] = false → nextRes W q = (Spell.zero, Qu.zero, 7)) := by
          intro k h h' hb
          have : quErr W q = 7 := by
            unfold quErr
            rw [if_neg (by simp [Hlen.out]), if_neg (by simp [hnow]), if_pos ⟨k, h, by rw [Work.job_eq h', Qu.st_eq h]; exact hb⟩]
          unfold nextRes; rw [HNE.out, this]; rfl
        have Hnow := hid hnow; clear hnow
        refine loop_F (n := 114) (fun m s wr => ∃ k : Nat, m = q.jobs.length - k ∧ k ≤ q.jobs.length ∧ s 2 = .pointer (some ⟨w.heap.size, 0, none⟩) ∧ s 3 = .pointer (some ⟨w.heap.size + 1, 0, none⟩) ∧ s 4 = .pointer (some ⟨w.heap.size + 1 + 1, 0, none⟩) ∧ s 5 = .pointer (some ⟨w.heap.size + 1 + 1 + 1, 0, none⟩) ∧
          s 39 = .slice aq q.jobs.length cq ∧ s 40 = .int .i64 q.jobs.length ∧ s 41 = .int .i64 k ∧ Below w2.heap.size w2 wr ∧ Hid (∀ (i : Nat) (h : i < q.jobs.length) (h' : i < W.jobs.length), i < k → stOk W.jobs[i] q.jobs[i] = true)) (k0 := q.jobs.length) ⟨0, rfl, Nat.zero_le _, sl2, sl3, sl4, sl5, sl39, sl40, sl41, Below.refl _ _, hid (fun i _ _ h => by omega)⟩ ?_
        clear sl2 sl3 sl4 sl5 sl39 sl40 sl41
        rintro m s wr ⟨k, rfl, hk, sl2, sl3, sl4, sl5, sl39, sl40, sl41, hB, hok⟩
        have k0' := k0.at hB
        have k1' := k1.at hB
        have k2' := k2.at hB
        have k3' := k3.at hB
        have HBr := hid (Below.trans HB2.out (hB.mono HB2.out.size) : Below w.heap.size w wr)
        clear c0 c1 c2 c3 d0 d1 cz dz a5 b0 b1
        have c0 := k2'.cell 0 rfl
        have c1 := k2'.cell 1 rfl
        have c2 := k2'.cell 2 rfl
        have c3 := k2'.cell 3 rfl
        have d0 := k3'.cell 0 rfl
        have d1 := k3'.cell 1 rfl
        have cz := k2'.2.2
        have dz := k3'.2.2
        have a5 := k0'.cell 5 rfl
        have b0 := k1'.cell 0 rfl
        have b1 := k1'.cell 1 rfl
        have hsr := hB.size
        have hs3 : w.heap.size + 1 + 1 + 1 < wr.heap.size := by omega
        have hr0 : w.heap.size < wr.heap.size := by omega
        have hr1 : w.heap.size + 1 < wr.heap.size := by omega
        have hr2 : w.heap.size + 1 + 1 < wr.heap.size := by omega
        by_cases hlt : k < q.jobs.length
        · have hlt' : k < W.jobs.length := by have := Hlen.out; omega
          obtain ⟨n1, o1, rfl, hn1, e1, e2, e3, e4⟩ := RdJobs.ne (HW.out.jobs.at HBr.out) hlt'
          obtain ⟨n2, o2, rfl, hn2, g1, g2, g3, g4, g5⟩ := RdSts.ne (Rd.at Hq.out HBr.out) hlt
          have x1 : (k : Int) < (q.jobs.length : Int) := by omega
          have x2 : (k : Int) < (W.jobs.length : Int) := by omega
          have HNO := hid (HNO.out k hlt hlt')
          have hqle : q.jobs.length ≤ 12 := by have := HK.out.jl; have := Hlen.out; omega
          have hBk : Below w.heap.size w wr := HBr.out
          have hwk : IntKind.i64.wrap ((k : Int) + 1) = (k : Int) + 1 := IntWalk.i64_in _ (by omega)
          as_aux_lemma =>
          rcases Bool.eq_false_or_eq_true (inb q.jobs[k].progress 0 W.jobs[k].fin) with hb1 | hb1
          ·
            rcases Bool.eq_false_or_eq_true (inb q.jobs[k].since 0 1000000) with hb2 | hb2
            ·
              rcases Bool.eq_false_or_eq_true (inb q.jobs[k].charge 0 1000000000) with hb3 | hb3
              ·
                rcases Bool.eq_false_or_eq_true (inb q.jobs[k].why 0 2) with hb4 | hb4
                ·
                  rcases Bool.eq_false_or_eq_true (inb q.jobs[k].ended (-1) 1000000) with hb5 | hb5
                  ·
                    rcases beq_or q.jobs[k].why 0 with hb6 | hb6
                    · rcases beq_or q.jobs[k].progress W.jobs[k].fin with hb7 | hb7
                      · have Hbad := hid (HNO.out (by unfold stOk; simp [hb1, hb2, hb3, hb4, hb5, hb6, hb7]))
                        repeat (first | ((first | (refine listF_step rfl (fun K' hK => ?_)) | (refine listF_yes rfl rfl (by decide) ?_ (fun K' hK => ?_); (focus (go_simp; done)))); unfold opF; go_simp; (first | (refine hK _ _ ?_) | ((first | (go_at_call 52; refine (qend_job W.jobs[k] _).mono ?_; rintro e w7 ⟨rfl, rfl⟩) | (go_at_call 46; refine (qout_any _ _ _ _).mono ?_; rintro e w' ⟨rfl, rfl⟩)); refine ⟨_, rfl, hK _ _ ?_⟩)); clear hK K') | (refine listF_no (b' := true) rfl rfl (by decide) ?_ ?_ ?_; (focus (go_simp; done)); (focus rfl)) | (refine listF_no (b' := false) rfl rfl (by decide) ?_ ?_ ?_; (focus (go_simp; done)); (focus rfl)) | (refine listF_nu rfl rfl (by decide) ?_ ?_; (focus (go_simp; done))) | (refine listF_nil ?_) | (refine region_F ?_) | (refine cond_F true ?_ ?_; (focus (go_simp; done)); simp only [if_true]) | (refine cond_F false ?_ ?_; (focus (go_simp; done)); simp only [Bool.false_eq_true, if_false]) | (with_reducible go_step))
                        refine regionI_F (RetJ w.heap.size w (w.heap.size + 1 + 1) (w.heap.size + 1 + 1 + 1) [.int .i64 0, .int .i64 0, .int .i64 0, .int .i64 0] [.int .i64 0, .slice none 0 0] 4 5 6 87 88 4 (.int .i64 7)) (by kernel_rfl) (by kernel_rfl) (by kernel_rfl) ?_ ?_ ⟨?_, ?_, ?_, ?_, ?_, trivial⟩
                        · refine ⟨(by repeat (first | (with_reducible exact k2') | (with_reducible exact m2) | (with_reducible exact k2) | (with_reducible refine Cells.drew ?_) | (with_reducible refine Cells.up ?_ _) | (with_reducible refine Cells.setFar ?_ (by omega)))), (by repeat (first | (with_reducible exact k3') | (with_reducible exact m3) | (with_reducible exact k3) | (with_reducible refine Cells.drew ?_) | (with_reducible refine Cells.up ?_ _) | (with_reducible refine Cells.setFar ?_ (by omega)))), (by repeat (first | (with_reducible exact hBk) | (with_reducible refine bdrewN ?_ _) | (with_reducible refine Below.drew ?_) | (with_reducible refine Below.setCell ?_ (by first | omega | (simp; done) | (simp; omega)) _) | (with_reducible refine Below.alloc ?_ (by first | omega | (simp; done) | (simp; omega)) _))), ?_, ?_, by simp, by simp, by simp⟩
                          · go_simp
                          · go_simp
                        · rintro s1 w1 ⟨kS, kA, hBw, hs4, hs5, h1, h2, h6⟩
                          have hs6 := h6 (by simp)
                          clear h1 h2 h6
                          have hsS := kS.1
                          have hsA := kA.1
                          have cc0 := kS.cell 0 rfl
                          have cc1 := kS.cell 1 rfl
                          have cc2 := kS.cell 2 rfl
                          have cc3 := kS.cell 3 rfl
                          have dd0 := kA.cell 0 rfl
                          have dd1 := kA.cell 1 rfl
                          have ccz := kS.2.2
                          have ddz := kA.2.2
                          repeat (first | ((first | (refine listF_step rfl (fun K' hK => ?_)) | (refine listF_yes rfl rfl (by decide) ?_ (fun K' hK => ?_); (focus (go_simp; done)))); unfold opF; go_simp; (refine hK _ _ ?_); clear hK K') | (refine listF_no (b' := true) rfl rfl (by decide) ?_ ?_ ?_; (focus (go_simp; done)); (focus rfl)) | (refine listF_no (b' := false) rfl rfl (by decide) ?_ ?_ ?_; (focus (go_simp; done)); (focus rfl)) | (refine listF_nu rfl rfl (by decide) ?_ ?_; (focus (go_simp; done))) | (refine listF_nil ?_) | (refine region_F ?_) | (refine cond_F true ?_ ?_; (focus (go_simp; done)); simp only [if_true]) | (refine cond_F false ?_ ?_; (focus (go_simp; done)); simp only [Bool.false_eq_true, if_false]) | (with_reducible go_step))
                          refine ret_F (.tuple #[.agg #[.int .i64 0, .int .i64 0, .int .i64 0, .int .i64 0], .agg #[.int .i64 0, .slice none 0 0], .int .i64 7]) (res_cct (ad := ⟨w.heap.size + 1 + 1, 0, none⟩) (ad2 := ⟨w.heap.size + 1 + 1 + 1, 0, none⟩) Try.results22 ((getD_F (by simp)).trans (by go_simp)) ((getD_F (by simp)).trans (by go_simp)) (load_spell cc0 cc1 cc2 cc3) (load_qu dd0 dd1) ((getD_F (by simp)).trans (by go_simp))) ?_
                          rw [Hbad.out]
                          exact ⟨none, 0, rfl, .inl rfl, hBw, fun b hb => (by cases hb)⟩
                        · rintro L s1 w1 hL hd ⟨kS, kA, hBw, hs4, hs5, h1, h2, h6⟩ K hK
                          clear hd
                          rw [if_pos (by rfl)]
                          unfold opF
                          have cc0 := kS.cell 0 rfl
                          have cc1 := kS.cell 1 rfl
                          have cc2 := kS.cell 2 rfl
                          have cc3 := kS.cell 3 rfl
                          go_simp
                          exact hK _ _ ⟨kS, kA, hBw, by simpa [upd, updS] using hs4, by simpa [upd, updS] using hs5, by simp [upd, updS], by simpa [upd, updS] using h2, by simpa [upd, updS] using h6⟩
                        · rintro L s1 w1 hL hd ⟨kS, kA, hBw, hs4, hs5, h1, h2, h6⟩ K hK
                          clear hd
                          rw [if_pos (by rfl)]
                          unfold opF
                          have dd0 := kA.cell 0 rfl
                          have dd1 := kA.cell 1 rfl
                          go_simp
                          exact hK _ _ ⟨kS, kA, hBw, by simpa [upd, updS] using hs4, by simpa [upd, updS] using hs5, by simpa [upd, updS] using h1, by simp [upd, updS], by simpa [upd, updS] using h6⟩
                        · rintro L s1 w1 hL hd ⟨kS, kA, hBw, hs4, hs5, h1, h2, h6⟩ K hK
                          have hv := h1 (hd ⟨0, .data⟩ (by simp) rfl)
                          clear hd
                          rw [if_pos (by rfl)]
                          unfold opF
                          have cc0 := kS.cell 0 rfl
                          have cc1 := kS.cell 1 rfl
                          have cc2 := kS.cell 2 rfl
                          have cc3 := kS.cell 3 rfl
                          have ccz := kS.2.2
                          go_simp
                          exact hK undef _ ⟨(((kS.set (i := 0) (u := .int .i64 0)).set (i := 1) (u := .int .i64 0)).set (i := 2) (u := .int .i64 0)).set (i := 3) (u := .int .i64 0), (((kA.setFar (by omega)).setFar (by omega)).setFar (by omega)).setFar (by omega), (((hBw.setCell (by simp; omega) _).setCell (by simp; omega) _).setCell (by simp; omega) _).setCell (by simp; omega) _, by simpa [upd, updS] using hs4, by simpa [upd, updS] using hs5, by simpa [upd, updS] using h1, by simpa [upd, updS] using h2, by simpa [upd, updS] using h6⟩
                        · rintro L s1 w1 hL hd ⟨kS, kA, hBw, hs4, hs5, h1, h2, h6⟩ K hK
                          have hv := h2 (hd ⟨1, .data⟩ (by simp) rfl)
                          clear hd
                          rw [if_pos (by rfl)]
                          unfold opF
                          have dd0 := kA.cell 0 rfl
                          have dd1 := kA.cell 1 rfl
                          have ddz := kA.2.2
                          go_simp
                          exact hK undef _ ⟨(kS.setFar (by omega)).setFar (by omega), (kA.set (i := 0) (u := .int .i64 0)).set (i := 1) (u := .slice none 0 0), (hBw.setCell (by simp; omega) _).setCell (by simp; omega) _, by simpa [upd, updS] using hs4, by simpa [upd, updS] using hs5, by simpa [upd, updS] using h1, by simpa [upd, updS] using h2, by simpa [upd, updS] using h6⟩
                        · rintro L s1 w1 hL hd ⟨kS, kA, hBw, hs4, hs5, h1, h2, h6⟩ K hK
                          clear hd
                          rw [if_pos (by rfl)]
                          unfold opF
                          go_simp
                          exact hK _ _ ⟨kS, kA, hBw, by simpa [upd, updS] using hs4, by simpa [upd, updS] using hs5, by simpa [upd, updS] using h1, by simpa [upd, updS] using h2, by simp [upd, updS]⟩
                      · have Hok := hid (show stOk W.jobs[k] q.jobs[k] = true by unfold stOk; simp [hb1, hb2, hb3, hb4, hb5, hb6, hb7])
                        repeat (first | ((first | (refine listF_step rfl (fun K' hK => ?_)) | (refine listF_yes rfl rfl (by decide) ?_ (fun K' hK => ?_); (focus (go_simp; done)))); unfold opF; go_simp; (first | (refine hK _ _ ?_) | ((first | (go_at_call 52; refine (qend_job W.jobs[k] _).mono ?_; rintro e w7 ⟨rfl, rfl⟩) | (go_at_call 46; refine (qout_any _ _ _ _).mono ?_; rintro e w' ⟨rfl, rfl⟩)); refine ⟨_, rfl, hK _ _ ?_⟩)); clear hK K') | (refine listF_no (b' := true) rfl rfl (by decide) ?_ ?_ ?_; (focus (go_simp; done)); (focus rfl)) | (refine listF_no (b' := false) rfl rfl (by decide) ?_ ?_ ?_; (focus (go_simp; done)); (focus rfl)) | (refine listF_nu rfl rfl (by decide) ?_ ?_; (focus (go_simp; done))) | (refine listF_nil ?_) | (refine region_F ?_) | (refine cond_F true ?_ ?_; (focus (go_simp; done)); simp only [if_true]) | (refine cond_F false ?_ ?_; (focus (go_simp; done)); simp only [Bool.false_eq_true, if_false]) | (with_reducible go_step))
                        refine ⟨_, _, rfl, ?_, k + 1, rfl, by omega, by first | (go_simp; done) | exact sl2 | (simp only [updS_some, updS_none, Nat.reduceEqDiff, ↓reduceIte]; exact sl2), by first | (go_simp; done) | exact sl3 | (simp only [updS_some, updS_none, Nat.reduceEqDiff, ↓reduceIte]; exact sl3), by first | (go_simp; done) | exact sl4 | (simp only [updS_some, updS_none, Nat.reduceEqDiff, ↓reduceIte]; exact sl4), by first | (go_simp; done) | exact sl5 | (simp only [updS_some, updS_none, Nat.reduceEqDiff, ↓reduceIte]; exact sl5), by first | (go_simp; done) | exact sl39 | (simp only [updS_some, updS_none, Nat.reduceEqDiff, ↓reduceIte]; exact sl39), by first | (go_simp; done) | exact sl40 | (simp only [updS_some, updS_none, Nat.reduceEqDiff, ↓reduceIte]; exact sl40), by go_simp, (by repeat (first | (with_reducible exact hB) | (with_reducible refine bdrewN ?_ _) | (with_reducible refine Below.drew ?_) | (with_reducible refine Below.setCell ?_ (by first | omega | (simp; done) | (simp; omega)) _) | (with_reducible refine Below.alloc ?_ (by first | omega | (simp; done) | (simp; omega)) _))), hid (fun i h h' hi => by rcases Nat.lt_or_ge i k with h1 | h1; exact hok.out i h h' h1; obtain rfl : i = k := (by omega); exact Hok.out)⟩; omega
                    · have Hok := hid (show stOk W.jobs[k] q.jobs[k] = true by unfold stOk; simp [hb1, hb2, hb3, hb4, hb5, hb6])
                      repeat (first | ((first | (refine listF_step rfl (fun K' hK => ?_)) | (refine listF_yes rfl rfl (by decide) ?_ (fun K' hK => ?_); (focus (go_simp; done)))); unfold opF; go_simp; (first | (refine hK _ _ ?_) | ((first | (go_at_call 52; refine (qend_job W.jobs[k] _).mono ?_; rintro e w7 ⟨rfl, rfl⟩) | (go_at_call 46; refine (qout_any _ _ _ _).mono ?_; rintro e w' ⟨rfl, rfl⟩)); refine ⟨_, rfl, hK _ _ ?_⟩)); clear hK K') | (refine listF_no (b' := true) rfl rfl (by decide) ?_ ?_ ?_; (focus (go_simp; done)); (focus rfl)) | (refine listF_no (b' := false) rfl rfl (by decide) ?_ ?_ ?_; (focus (go_simp; done)); (focus rfl)) | (refine listF_nu rfl rfl (by decide) ?_ ?_; (focus (go_simp; done))) | (refine listF_nil ?_) | (refine region_F ?_) | (refine cond_F true ?_ ?_; (focus (go_simp; done)); simp only [if_true]) | (refine cond_F false ?_ ?_; (focus (go_simp; done)); simp only [Bool.false_eq_true, if_false]) | (with_reducible go_step))
                      refine ⟨_, _, rfl, ?_, k + 1, rfl, by omega, by first | (go_simp; done) | exact sl2 | (simp only [updS_some, updS_none, Nat.reduceEqDiff, ↓reduceIte]; exact sl2), by first | (go_simp; done) | exact sl3 | (simp only [updS_some, updS_none, Nat.reduceEqDiff, ↓reduceIte]; exact sl3), by first | (go_simp; done) | exact sl4 | (simp only [updS_some, updS_none, Nat.reduceEqDiff, ↓reduceIte]; exact sl4), by first | (go_simp; done) | exact sl5 | (simp only [updS_some, updS_none, Nat.reduceEqDiff, ↓reduceIte]; exact sl5), by first | (go_simp; done) | exact sl39 | (simp only [updS_some, updS_none, Nat.reduceEqDiff, ↓reduceIte]; exact sl39), by first | (go_simp; done) | exact sl40 | (simp only [updS_some, updS_none, Nat.reduceEqDiff, ↓reduceIte]; exact sl40), by go_simp, (by repeat (first | (with_reducible exact hB) | (with_reducible refine bdrewN ?_ _) | (with_reducible refine Below.drew ?_) | (with_reducible refine Below.setCell ?_ (by first | omega | (simp; done) | (simp; omega)) _) | (with_reducible refine Below.alloc ?_ (by first | omega | (simp; done) | (simp; omega)) _))), hid (fun i h h' hi => by rcases Nat.lt_or_ge i k with h1 | h1; exact hok.out i h h' h1; obtain rfl : i = k := (by omega); exact Hok.out)⟩; omega
                  · --F
                    have Hbad := hid (HNO.out (by unfold stOk; simp [hb1, hb2, hb3, hb4, hb5]))
                    repeat (first | ((first | (refine listF_step rfl (fun K' hK => ?_)) | (refine listF_yes rfl rfl (by decide) ?_ (fun K' hK => ?_); (focus (go_simp; done)))); unfold opF; go_simp; (first | (refine hK _ _ ?_) | ((first | (go_at_call 52; refine (qend_job W.jobs[k] _).mono ?_; rintro e w7 ⟨rfl, rfl⟩) | (go_at_call 46; refine (qout_any _ _ _ _).mono ?_; rintro e w' ⟨rfl, rfl⟩)); refine ⟨_, rfl, hK _ _ ?_⟩)); clear hK K') | (refine listF_no (b' := true) rfl rfl (by decide) ?_ ?_ ?_; (focus (go_simp; done)); (focus rfl)) | (refine listF_no (b' := false) rfl rfl (by decide) ?_ ?_ ?_; (focus (go_simp; done)); (focus rfl)) | (refine listF_nu rfl rfl (by decide) ?_ ?_; (focus (go_simp; done))) | (refine listF_nil ?_) | (refine region_F ?_) | (refine cond_F true ?_ ?_; (focus (go_simp; done)); simp only [if_true]) | (refine cond_F false ?_ ?_; (focus (go_simp; done)); simp only [Bool.false_eq_true, if_false]) | (with_reducible go_step))
                    refine regionI_F (RetJ w.heap.size w (w.heap.size + 1 + 1) (w.heap.size + 1 + 1 + 1) [.int .i64 0, .int .i64 0, .int .i64 0, .int .i64 0] [.int .i64 0, .slice none 0 0] 4 5 6 87 88 4 (.int .i64 7)) (by kernel_rfl) (by kernel_rfl) (by kernel_rfl) ?_ ?_ ⟨?_, ?_, ?_, ?_, ?_, trivial⟩
                    · refine ⟨(by repeat (first | (with_reducible exact k2') | (with_reducible exact m2) | (with_reducible exact k2) | (with_reducible refine Cells.drew ?_) | (with_reducible refine Cells.up ?_ _) | (with_reducible refine Cells.setFar ?_ (by omega)))), (by repeat (first | (with_reducible exact k3') | (with_reducible exact m3) | (with_reducible exact k3) | (with_reducible refine Cells.drew ?_) | (with_reducible refine Cells.up ?_ _) | (with_reducible refine Cells.setFar ?_ (by omega)))), (by repeat (first | (with_reducible exact hBk) | (with_reducible refine bdrewN ?_ _) | (with_reducible refine Below.drew ?_) | (with_reducible refine Below.setCell ?_ (by first | omega | (simp; done) | (simp; omega)) _) | (with_reducible refine Below.alloc ?_ (by first | omega | (simp; done) | (simp; omega)) _))), ?_, ?_, by simp, by simp, by simp⟩
                      · go_simp
                      · go_simp
                    · rintro s1 w1 ⟨kS, kA, hBw, hs4, hs5, h1, h2, h6⟩
                      have hs6 := h6 (by simp)
                      clear h1 h2 h6
                      have hsS := kS.1
                      have hsA := kA.1
                      have cc0 := kS.cell 0 rfl
                      have cc1 := kS.cell 1 rfl
                      have cc2 := kS.cell 2 rfl
                      have cc3 := kS.cell 3 rfl
                      have dd0 := kA.cell 0 rfl
                      have dd1 := kA.cell 1 rfl
                      have ccz := kS.2.2
                      have ddz := kA.2.2
                      repeat (first | ((first | (refine listF_step rfl (fun K' hK => ?_)) | (refine listF_yes rfl rfl (by decide) ?_ (fun K' hK => ?_); (focus (go_simp; done)))); unfold opF; go_simp; (refine hK _ _ ?_); clear hK K') | (refine listF_no (b' := true) rfl rfl (by decide) ?_ ?_ ?_; (focus (go_simp; done)); (focus rfl)) | (refine listF_no (b' := false) rfl rfl (by decide) ?_ ?_ ?_; (focus (go_simp; done)); (focus rfl)) | (refine listF_nu rfl rfl (by decide) ?_ ?_; (focus (go_simp; done))) | (refine listF_nil ?_) | (refine region_F ?_) | (refine cond_F true ?_ ?_; (focus (go_simp; done)); simp only [if_true]) | (refine cond_F false ?_ ?_; (focus (go_simp; done)); simp only [Bool.false_eq_true, if_false]) | (with_reducible go_step))
                      refine ret_F (.tuple #[.agg #[.int .i64 0, .int .i64 0, .int .i64 0, .int .i64 0], .agg #[.int .i64 0, .slice none 0 0], .int .i64 7]) (res_cct (ad := ⟨w.heap.size + 1 + 1, 0, none⟩) (ad2 := ⟨w.heap.size + 1 + 1 + 1, 0, none⟩) Try.results22 ((getD_F (by simp)).trans (by go_simp)) ((getD_F (by simp)).trans (by go_simp)) (load_spell cc0 cc1 cc2 cc3) (load_qu dd0 dd1) ((getD_F (by simp)).trans (by go_simp))) ?_
                      rw [Hbad.out]
                      exact ⟨none, 0, rfl, .inl rfl, hBw, fun b hb => (by cases hb)⟩
                    · rintro L s1 w1 hL hd ⟨kS, kA, hBw, hs4, hs5, h1, h2, h6⟩ K hK
                      clear hd
                      rw [if_pos (by rfl)]
                      unfold opF
                      have cc0 := kS.cell 0 rfl
                      have cc1 := kS.cell 1 rfl
                      have cc2 := kS.cell 2 rfl
                      have cc3 := kS.cell 3 rfl
                      go_simp
                      exact hK _ _ ⟨kS, kA, hBw, by simpa [upd, updS] using hs4, by simpa [upd, updS] using hs5, by simp [upd, updS], by simpa [upd, updS] using h2, by simpa [upd, updS] using h6⟩
                    · rintro L s1 w1 hL hd ⟨kS, kA, hBw, hs4, hs5, h1, h2, h6⟩ K hK
                      clear hd
                      rw [if_pos (by rfl)]
                      unfold opF
                      have dd0 := kA.cell 0 rfl
                      have dd1 := kA.cell 1 rfl
                      go_simp
                      exact hK _ _ ⟨kS, kA, hBw, by simpa [upd, updS] using hs4, by simpa [upd, updS] using hs5, by simpa [upd, updS] using h1, by simp [upd, updS], by simpa [upd, updS] using h6⟩
                    · rintro L s1 w1 hL hd ⟨kS, kA, hBw, hs4, hs5, h1, h2, h6⟩ K hK
                      have hv := h1 (hd ⟨0, .data⟩ (by simp) rfl)
                      clear hd
                      rw [if_pos (by rfl)]
                      unfold opF
                      have cc0 := kS.cell 0 rfl
                      have cc1 := kS.cell 1 rfl
                      have cc2 := kS.cell 2 rfl
                      have cc3 := kS.cell 3 rfl
                      have ccz := kS.2.2
                      go_simp
                      exact hK undef _ ⟨(((kS.set (i := 0) (u := .int .i64 0)).set (i := 1) (u := .int .i64 0)).set (i := 2) (u := .int .i64 0)).set (i := 3) (u := .int .i64 0), (((kA.setFar (by omega)).setFar (by omega)).setFar (by omega)).setFar (by omega), (((hBw.setCell (by simp; omega) _).setCell (by simp; omega) _).setCell (by simp; omega) _).setCell (by simp; omega) _, by simpa [upd, updS] using hs4, by simpa [upd, updS] using hs5, by simpa [upd, updS] using h1, by simpa [upd, updS] using h2, by simpa [upd, updS] using h6⟩
                    · rintro L s1 w1 hL hd ⟨kS, kA, hBw, hs4, hs5, h1, h2, h6⟩ K hK
                      have hv := h2 (hd ⟨1, .data⟩ (by simp) rfl)
                      clear hd
                      rw [if_pos (by rfl)]
                      unfold opF
                      have dd0 := kA.cell 0 rfl
                      have dd1 := kA.cell 1 rfl
                      have ddz := kA.2.2
                      go_simp
                      exact hK undef _ ⟨(kS.setFar (by omega)).setFar (by omega), (kA.set (i := 0) (u := .int .i64 0)).set (i := 1) (u := .slice none 0 0), (hBw.setCell (by simp; omega) _).setCell (by simp; omega) _, by simpa [upd, updS] using hs4, by simpa [upd, updS] using hs5, by simpa [upd, updS] using h1, by simpa [upd, updS] using h2, by simpa [upd, updS] using h6⟩
                    · rintro L s1 w1 hL hd ⟨kS, kA, hBw, hs4, hs5, h1, h2, h6⟩ K hK
                      clear hd
                      rw [if_pos (by rfl)]
                      unfold opF
                      go_simp
                      exact hK _ _ ⟨kS, kA, hBw, by simpa [upd, updS] using hs4, by simpa [upd, updS] using hs5, by simpa [upd, updS] using h1, by simpa [upd, updS] using h2, by simp [upd, updS]⟩
                · --F
                  have Hbad := hid (HNO.out (by unfold stOk; simp [hb1, hb2, hb3, hb4]))
                  repeat (first | ((first | (refine listF_step rfl (fun K' hK => ?_)) | (refine listF_yes rfl rfl (by decide) ?_ (fun K' hK => ?_); (focus (go_simp; done)))); unfold opF; go_simp; (first | (refine hK _ _ ?_) | ((first | (go_at_call 52; refine (qend_job W.jobs[k] _).mono ?_; rintro e w7 ⟨rfl, rfl⟩) | (go_at_call 46; refine (qout_any _ _ _ _).mono ?_; rintro e w' ⟨rfl, rfl⟩)); refine ⟨_, rfl, hK _ _ ?_⟩)); clear hK K') | (refine listF_no (b' := true) rfl rfl (by decide) ?_ ?_ ?_; (focus (go_simp; done)); (focus rfl)) | (refine listF_no (b' := false) rfl rfl (by decide) ?_ ?_ ?_; (focus (go_simp; done)); (focus rfl)) | (refine listF_nu rfl rfl (by decide) ?_ ?_; (focus (go_simp; done))) | (refine listF_nil ?_) | (refine region_F ?_) | (refine cond_F true ?_ ?_; (focus (go_simp; done)); simp only [if_true]) | (refine cond_F false ?_ ?_; (focus (go_simp; done)); simp only [Bool.false_eq_true, if_false]) | (with_reducible go_step))
                  refine regionI_F (RetJ w.heap.size w (w.heap.size + 1 + 1) (w.heap.size + 1 + 1 + 1) [.int .i64 0, .int .i64 0, .int .i64 0, .int .i64 0] [.int .i64 0, .slice none 0 0] 4 5 6 87 88 4 (.int .i64 7)) (by kernel_rfl) (by kernel_rfl) (by kernel_rfl) ?_ ?_ ⟨?_, ?_, ?_, ?_, ?_, trivial⟩
                  · refine ⟨(by repeat (first | (with_reducible exact k2') | (with_reducible exact m2) | (with_reducible exact k2) | (with_reducible refine Cells.drew ?_) | (with_reducible refine Cells.up ?_ _) | (with_reducible refine Cells.setFar ?_ (by omega)))), (by repeat (first | (with_reducible exact k3') | (with_reducible exact m3) | (with_reducible exact k3) | (with_reducible refine Cells.drew ?_) | (with_reducible refine Cells.up ?_ _) | (with_reducible refine Cells.setFar ?_ (by omega)))), (by repeat (first | (with_reducible exact hBk) | (with_reducible refine bdrewN ?_ _) | (with_reducible refine Below.drew ?_) | (with_reducible refine Below.setCell ?_ (by first | omega | (simp; done) | (simp; omega)) _) | (with_reducible refine Below.alloc ?_ (by first | omega | (simp; done) | (simp; omega)) _))), ?_, ?_, by simp, by simp, by simp⟩
                    · go_simp
                    · go_simp
                  · rintro s1 w1 ⟨kS, kA, hBw, hs4, hs5, h1, h2, h6⟩
                    have hs6 := h6 (by simp)
                    clear h1 h2 h6
                    have hsS := kS.1
                    have hsA := kA.1
                    have cc0 := kS.cell 0 rfl
                    have cc1 := kS.cell 1 rfl
                    have cc2 := kS.cell 2 rfl
                    have cc3 := kS.cell 3 rfl
                    have dd0 := kA.cell 0 rfl
                    have dd1 := kA.cell 1 rfl
                    have ccz := kS.2.2
                    have ddz := kA.2.2
                    repeat (first | ((first | (refine listF_step rfl (fun K' hK => ?_)) | (refine listF_yes rfl rfl (by decide) ?_ (fun K' hK => ?_); (focus (go_simp; done)))); unfold opF; go_simp; (refine hK _ _ ?_); clear hK K') | (refine listF_no (b' := true) rfl rfl (by decide) ?_ ?_ ?_; (focus (go_simp; done)); (focus rfl)) | (refine listF_no (b' := false) rfl rfl (by decide) ?_ ?_ ?_; (focus (go_simp; done)); (focus rfl)) | (refine listF_nu rfl rfl (by decide) ?_ ?_; (focus (go_simp; done))) | (refine listF_nil ?_) | (refine region_F ?_) | (refine cond_F true ?_ ?_; (focus (go_simp; done)); simp only [if_true]) | (refine cond_F false ?_ ?_; (focus (go_simp; done)); simp only [Bool.false_eq_true, if_false]) | (with_reducible go_step))
                    refine ret_F (.tuple #[.agg #[.int .i64 0, .int .i64 0, .int .i64 0, .int .i64 0], .agg #[.int .i64 0, .slice none 0 0], .int .i64 7]) (res_cct (ad := ⟨w.heap.size + 1 + 1, 0, none⟩) (ad2 := ⟨w.heap.size + 1 + 1 + 1, 0, none⟩) Try.results22 ((getD_F (by simp)).trans (by go_simp)) ((getD_F (by simp)).trans (by go_simp)) (load_spell cc0 cc1 cc2 cc3) (load_qu dd0 dd1) ((getD_F (by simp)).trans (by go_simp))) ?_
                    rw [Hbad.out]
                    exact ⟨none, 0, rfl, .inl rfl, hBw, fun b hb => (by cases hb)⟩
                  · rintro L s1 w1 hL hd ⟨kS, kA, hBw, hs4, hs5, h1, h2, h6⟩ K hK
                    clear hd
                    rw [if_pos (by rfl)]
                    unfold opF
                    have cc0 := kS.cell 0 rfl
                    have cc1 := kS.cell 1 rfl
                    have cc2 := kS.cell 2 rfl
                    have cc3 := kS.cell 3 rfl
                    go_simp
                    exact hK _ _ ⟨kS, kA, hBw, by simpa [upd, updS] using hs4, by simpa [upd, updS] using hs5, by simp [upd, updS], by simpa [upd, updS] using h2, by simpa [upd, updS] using h6⟩
                  · rintro L s1 w1 hL hd ⟨kS, kA, hBw, hs4, hs5, h1, h2, h6⟩ K hK
                    clear hd
                    rw [if_pos (by rfl)]
                    unfold opF
                    have dd0 := kA.cell 0 rfl
                    have dd1 := kA.cell 1 rfl
                    go_simp
                    exact hK _ _ ⟨kS, kA, hBw, by simpa [upd, updS] using hs4, by simpa [upd, updS] using hs5, by simpa [upd, updS] using h1, by simp [upd, updS], by simpa [upd, updS] using h6⟩
                  · rintro L s1 w1 hL hd ⟨kS, kA, hBw, hs4, hs5, h1, h2, h6⟩ K hK
                    have hv := h1 (hd ⟨0, .data⟩ (by simp) rfl)
                    clear hd
                    rw [if_pos (by rfl)]
                    unfold opF
                    have cc0 := kS.cell 0 rfl
                    have cc1 := kS.cell 1 rfl
                    have cc2 := kS.cell 2 rfl
                    have cc3 := kS.cell 3 rfl
                    have ccz := kS.2.2
                    go_simp
                    exact hK undef _ ⟨(((kS.set (i := 0) (u := .int .i64 0)).set (i := 1) (u := .int .i64 0)).set (i := 2) (u := .int .i64 0)).set (i := 3) (u := .int .i64 0), (((kA.setFar (by omega)).setFar (by omega)).setFar (by omega)).setFar (by omega), (((hBw.setCell (by simp; omega) _).setCell (by simp; omega) _).setCell (by simp; omega) _).setCell (by simp; omega) _, by simpa [upd, updS] using hs4, by simpa [upd, updS] using hs5, by simpa [upd, updS] using h1, by simpa [upd, updS] using h2, by simpa [upd, updS] using h6⟩
                  · rintro L s1 w1 hL hd ⟨kS, kA, hBw, hs4, hs5, h1, h2, h6⟩ K hK
                    have hv := h2 (hd ⟨1, .data⟩ (by simp) rfl)
                    clear hd
                    rw [if_pos (by rfl)]
                    unfold opF
                    have dd0 := kA.cell 0 rfl
                    have dd1 := kA.cell 1 rfl
                    have ddz := kA.2.2
                    go_simp
                    exact hK undef _ ⟨(kS.setFar (by omega)).setFar (by omega), (kA.set (i := 0) (u := .int .i64 0)).set (i := 1) (u := .slice none 0 0), (hBw.setCell (by simp; omega) _).setCell (by simp; omega) _, by simpa [upd, updS] using hs4, by simpa [upd, updS] using hs5, by simpa [upd, updS] using h1, by simpa [upd, updS] using h2, by simpa [upd, updS] using h6⟩
                  · rintro L s1 w1 hL hd ⟨kS, kA, hBw, hs4, hs5, h1, h2, h6⟩ K hK
                    clear hd
                    rw [if_pos (by rfl)]
                    unfold opF
                    go_simp
                    exact hK _ _ ⟨kS, kA, hBw, by simpa [upd, updS] using hs4, by simpa [upd, updS] using hs5, by simpa [upd, updS] using h1, by simpa [upd, updS] using h2, by simp [upd, updS]⟩
              · --F
                have Hbad := hid (HNO.out (by unfold stOk; simp [hb1, hb2, hb3]))
                repeat (first | ((first | (refine listF_step rfl (fun K' hK => ?_)) | (refine listF_yes rfl rfl (by decide) ?_ (fun K' hK => ?_); (focus (go_simp; done)))); unfold opF; go_simp; (first | (refine hK _ _ ?_) | ((first | (go_at_call 52; refine (qend_job W.jobs[k] _).mono ?_; rintro e w7 ⟨rfl, rfl⟩) | (go_at_call 46; refine (qout_any _ _ _ _).mono ?_; rintro e w' ⟨rfl, rfl⟩)); refine ⟨_, rfl, hK _ _ ?_⟩)); clear hK K') | (refine listF_no (b' := true) rfl rfl (by decide) ?_ ?_ ?_; (focus (go_simp; done)); (focus rfl)) | (refine listF_no (b' := false) rfl rfl (by decide) ?_ ?_ ?_; (focus (go_simp; done)); (focus rfl)) | (refine listF_nu rfl rfl (by decide) ?_ ?_; (focus (go_simp; done))) | (refine listF_nil ?_) | (refine region_F ?_) | (refine cond_F true ?_ ?_; (focus (go_simp; done)); simp only [if_true]) | (refine cond_F false ?_ ?_; (focus (go_simp; done)); simp only [Bool.false_eq_true, if_false]) | (with_reducible go_step))
                refine regionI_F (RetJ w.heap.size w (w.heap.size + 1 + 1) (w.heap.size + 1 + 1 + 1) [.int .i64 0, .int .i64 0, .int .i64 0, .int .i64 0] [.int .i64 0, .slice none 0 0] 4 5 6 87 88 4 (.int .i64 7)) (by kernel_rfl) (by kernel_rfl) (by kernel_rfl) ?_ ?_ ⟨?_, ?_, ?_, ?_, ?_, trivial⟩
                · refine ⟨(by repeat (first | (with_reducible exact k2') | (with_reducible exact m2) | (with_reducible exact k2) | (with_reducible refine Cells.drew ?_) | (with_reducible refine Cells.up ?_ _) | (with_reducible refine Cells.setFar ?_ (by omega)))), (by repeat (first | (with_reducible exact k3') | (with_reducible exact m3) | (with_reducible exact k3) | (with_reducible refine Cells.drew ?_) | (with_reducible refine Cells.up ?_ _) | (with_reducible refine Cells.setFar ?_ (by omega)))), (by repeat (first | (with_reducible exact hBk) | (with_reducible refine bdrewN ?_ _) | (with_reducible refine Below.drew ?_) | (with_reducible refine Below.setCell ?_ (by first | omega | (simp; done) | (simp; omega)) _) | (with_reducible refine Below.alloc ?_ (by first | omega | (simp; done) | (simp; omega)) _))), ?_, ?_, by simp, by simp, by simp⟩
                  · go_simp
                  · go_simp
                · rintro s1 w1 ⟨kS, kA, hBw, hs4, hs5, h1, h2, h6⟩
                  have hs6 := h6 (by simp)
                  clear h1 h2 h6
                  have hsS := kS.1
                  have hsA := kA.1
                  have cc0 := kS.cell 0 rfl
                  have cc1 := kS.cell 1 rfl
                  have cc2 := kS.cell 2 rfl
                  have cc3 := kS.cell 3 rfl
                  have dd0 := kA.cell 0 rfl
                  have dd1 := kA.cell 1 rfl
                  have ccz := kS.2.2
                  have ddz := kA.2.2
                  repeat (first | ((first | (refine listF_step rfl (fun K' hK => ?_)) | (refine listF_yes rfl rfl (by decide) ?_ (fun K' hK => ?_); (focus (go_simp; done)))); unfold opF; go_simp; (refine hK _ _ ?_); clear hK K') | (refine listF_no (b' := true) rfl rfl (by decide) ?_ ?_ ?_; (focus (go_simp; done)); (focus rfl)) | (refine listF_no (b' := false) rfl rfl (by decide) ?_ ?_ ?_; (focus (go_simp; done)); (focus rfl)) | (refine listF_nu rfl rfl (by decide) ?_ ?_; (focus (go_simp; done))) | (refine listF_nil ?_) | (refine region_F ?_) | (refine cond_F true ?_ ?_; (focus (go_simp; done)); simp only [if_true]) | (refine cond_F false ?_ ?_; (focus (go_simp; done)); simp only [Bool.false_eq_true, if_false]) | (with_reducible go_step))
                  refine ret_F (.tuple #[.agg #[.int .i64 0, .int .i64 0, .int .i64 0, .int .i64 0], .agg #[.int .i64 0, .slice none 0 0], .int .i64 7]) (res_cct (ad := ⟨w.heap.size + 1 + 1, 0, none⟩) (ad2 := ⟨w.heap.size + 1 + 1 + 1, 0, none⟩) Try.results22 ((getD_F (by simp)).trans (by go_simp)) ((getD_F (by simp)).trans (by go_simp)) (load_spell cc0 cc1 cc2 cc3) (load_qu dd0 dd1) ((getD_F (by simp)).trans (by go_simp))) ?_
                  rw [Hbad.out]
                  exact ⟨none, 0, rfl, .inl rfl, hBw, fun b hb => (by cases hb)⟩
                · rintro L s1 w1 hL hd ⟨kS, kA, hBw, hs4, hs5, h1, h2, h6⟩ K hK
                  clear hd
                  rw [if_pos (by rfl)]
                  unfold opF
                  have cc0 := kS.cell 0 rfl
                  have cc1 := kS.cell 1 rfl
                  have cc2 := kS.cell 2 rfl
                  have cc3 := kS.cell 3 rfl
                  go_simp
                  exact hK _ _ ⟨kS, kA, hBw, by simpa [upd, updS] using hs4, by simpa [upd, updS] using hs5, by simp [upd, updS], by simpa [upd, updS] using h2, by simpa [upd, updS] using h6⟩
                · rintro L s1 w1 hL hd ⟨kS, kA, hBw, hs4, hs5, h1, h2, h6⟩ K hK
                  clear hd
                  rw [if_pos (by rfl)]
                  unfold opF
                  have dd0 := kA.cell 0 rfl
                  have dd1 := kA.cell 1 rfl
                  go_simp
                  exact hK _ _ ⟨kS, kA, hBw, by simpa [upd, updS] using hs4, by simpa [upd, updS] using hs5, by simpa [upd, updS] using h1, by simp [upd, updS], by simpa [upd, updS] using h6⟩
                · rintro L s1 w1 hL hd ⟨kS, kA, hBw, hs4, hs5, h1, h2, h6⟩ K hK
                  have hv := h1 (hd ⟨0, .data⟩ (by simp) rfl)
                  clear hd
                  rw [if_pos (by rfl)]
                  unfold opF
                  have cc0 := kS.cell 0 rfl
                  have cc1 := kS.cell 1 rfl
                  have cc2 := kS.cell 2 rfl
                  have cc3 := kS.cell 3 rfl
                  have ccz := kS.2.2
                  go_simp
                  exact hK undef _ ⟨(((kS.set (i := 0) (u := .int .i64 0)).set (i := 1) (u := .int .i64 0)).set (i := 2) (u := .int .i64 0)).set (i := 3) (u := .int .i64 0), (((kA.setFar (by omega)).setFar (by omega)).setFar (by omega)).setFar (by omega), (((hBw.setCell (by simp; omega) _).setCell (by simp; omega) _).setCell (by simp; omega) _).setCell (by simp; omega) _, by simpa [upd, updS] using hs4, by simpa [upd, updS] using hs5, by simpa [upd, updS] using h1, by simpa [upd, updS] using h2, by simpa [upd, updS] using h6⟩
                · rintro L s1 w1 hL hd ⟨kS, kA, hBw, hs4, hs5, h1, h2, h6⟩ K hK
                  have hv := h2 (hd ⟨1, .data⟩ (by simp) rfl)
                  clear hd
                  rw [if_pos (by rfl)]
                  unfold opF
                  have dd0 := kA.cell 0 rfl
                  have dd1 := kA.cell 1 rfl
                  have ddz := kA.2.2
                  go_simp
                  exact hK undef _ ⟨(kS.setFar (by omega)).setFar (by omega), (kA.set (i := 0) (u := .int .i64 0)).set (i := 1) (u := .slice none 0 0), (hBw.setCell (by simp; omega) _).setCell (by simp; omega) _, by simpa [upd, updS] using hs4, by simpa [upd, updS] using hs5, by simpa [upd, updS] using h1, by simpa [upd, updS] using h2, by simpa [upd, updS] using h6⟩
                · rintro L s1 w1 hL hd ⟨kS, kA, hBw, hs4, hs5, h1, h2, h6⟩ K hK
                  clear hd
                  rw [if_pos (by rfl)]
                  unfold opF
                  go_simp
                  exact hK _ _ ⟨kS, kA, hBw, by simpa [upd, updS] using hs4, by simpa [upd, updS] using hs5, by simpa [upd, updS] using h1, by simpa [upd, updS] using h2, by simp [upd, updS]⟩
            · --F
              have Hbad := hid (HNO.out (by unfold stOk; simp [hb1, hb2]))
              repeat (first | ((first | (refine listF_step rfl (fun K' hK => ?_)) | (refine listF_yes rfl rfl (by decide) ?_ (fun K' hK => ?_); (focus (go_simp; done)))); unfold opF; go_simp; (first | (refine hK _ _ ?_) | ((first | (go_at_call 52; refine (qend_job W.jobs[k] _).mono ?_; rintro e w7 ⟨rfl, rfl⟩) | (go_at_call 46; refine (qout_any _ _ _ _).mono ?_; rintro e w' ⟨rfl, rfl⟩)); refine ⟨_, rfl, hK _ _ ?_⟩)); clear hK K') | (refine listF_no (b' := true) rfl rfl (by decide) ?_ ?_ ?_; (focus (go_simp; done)); (focus rfl)) | (refine listF_no (b' := false) rfl rfl (by decide) ?_ ?_ ?_; (focus (go_simp; done)); (focus rfl)) | (refine listF_nu rfl rfl (by decide) ?_ ?_; (focus (go_simp; done))) | (refine listF_nil ?_) | (refine region_F ?_) | (refine cond_F true ?_ ?_; (focus (go_simp; done)); simp only [if_true]) | (refine cond_F false ?_ ?_; (focus (go_simp; done)); simp only [Bool.false_eq_true, if_false]) | (with_reducible go_step))
              refine regionI_F (RetJ w.heap.size w (w.heap.size + 1 + 1) (w.heap.size + 1 + 1 + 1) [.int .i64 0, .int .i64 0, .int .i64 0, .int .i64 0] [.int .i64 0, .slice none 0 0] 4 5 6 87 88 4 (.int .i64 7)) (by kernel_rfl) (by kernel_rfl) (by kernel_rfl) ?_ ?_ ⟨?_, ?_, ?_, ?_, ?_, trivial⟩
              · refine ⟨(by repeat (first | (with_reducible exact k2') | (with_reducible exact m2) | (with_reducible exact k2) | (with_reducible refine Cells.drew ?_) | (with_reducible refine Cells.up ?_ _) | (with_reducible refine Cells.setFar ?_ (by omega)))), (by repeat (first | (with_reducible exact k3') | (with_reducible exact m3) | (with_reducible exact k3) | (with_reducible refine Cells.drew ?_) | (with_reducible refine Cells.up ?_ _) | (with_reducible refine Cells.setFar ?_ (by omega)))), (by repeat (first | (with_reducible exact hBk) | (with_reducible refine bdrewN ?_ _) | (with_reducible refine Below.drew ?_) | (with_reducible refine Below.setCell ?_ (by first | omega | (simp; done) | (simp; omega)) _) | (with_reducible refine Below.alloc ?_ (by first | omega | (simp; done) | (simp; omega)) _))), ?_, ?_, by simp, by simp, by simp⟩
                · go_simp
                · go_simp
              · rintro s1 w1 ⟨kS, kA, hBw, hs4, hs5, h1, h2, h6⟩
                have hs6 := h6 (by simp)
                clear h1 h2 h6
                have hsS := kS.1
                have hsA := kA.1
                have cc0 := kS.cell 0 rfl
                have cc1 := kS.cell 1 rfl
                have cc2 := kS.cell 2 rfl
                have cc3 := kS.cell 3 rfl
                have dd0 := kA.cell 0 rfl
                have dd1 := kA.cell 1 rfl
                have ccz := kS.2.2
                have ddz := kA.2.2
                repeat (first | ((first | (refine listF_step rfl (fun K' hK => ?_)) | (refine listF_yes rfl rfl (by decide) ?_ (fun K' hK => ?_); (focus (go_simp; done)))); unfold opF; go_simp; (refine hK _ _ ?_); clear hK K') | (refine listF_no (b' := true) rfl rfl (by decide) ?_ ?_ ?_; (focus (go_simp; done)); (focus rfl)) | (refine listF_no (b' := false) rfl rfl (by decide) ?_ ?_ ?_; (focus (go_simp; done)); (focus rfl)) | (refine listF_nu rfl rfl (by decide) ?_ ?_; (focus (go_simp; done))) | (refine listF_nil ?_) | (refine region_F ?_) | (refine cond_F true ?_ ?_; (focus (go_simp; done)); simp only [if_true]) | (refine cond_F false ?_ ?_; (focus (go_simp; done)); simp only [Bool.false_eq_true, if_false]) | (with_reducible go_step))
                refine ret_F (.tuple #[.agg #[.int .i64 0, .int .i64 0, .int .i64 0, .int .i64 0], .agg #[.int .i64 0, .slice none 0 0], .int .i64 7]) (res_cct (ad := ⟨w.heap.size + 1 + 1, 0, none⟩) (ad2 := ⟨w.heap.size + 1 + 1 + 1, 0, none⟩) Try.results22 ((getD_F (by simp)).trans (by go_simp)) ((getD_F (by simp)).trans (by go_simp)) (load_spell cc0 cc1 cc2 cc3) (load_qu dd0 dd1) ((getD_F (by simp)).trans (by go_simp))) ?_
                rw [Hbad.out]
                exact ⟨none, 0, rfl, .inl rfl, hBw, fun b hb => (by cases hb)⟩
              · rintro L s1 w1 hL hd ⟨kS, kA, hBw, hs4, hs5, h1, h2, h6⟩ K hK
                clear hd
                rw [if_pos (by rfl)]
                unfold opF
                have cc0 := kS.cell 0 rfl
                have cc1 := kS.cell 1 rfl
                have cc2 := kS.cell 2 rfl
                have cc3 := kS.cell 3 rfl
                go_simp
                exact hK _ _ ⟨kS, kA, hBw, by simpa [upd, updS] using hs4, by simpa [upd, updS] using hs5, by simp [upd, updS], by simpa [upd, updS] using h2, by simpa [upd, updS] using h6⟩
              · rintro L s1 w1 hL hd ⟨kS, kA, hBw, hs4, hs5, h1, h2, h6⟩ K hK
                clear hd
                rw [if_pos (by rfl)]
                unfold opF
                have dd0 := kA.cell 0 rfl
                have dd1 := kA.cell 1 rfl
                go_simp
                exact hK _ _ ⟨kS, kA, hBw, by simpa [upd, updS] using hs4, by simpa [upd, updS] using hs5, by simpa [upd, updS] using h1, by simp [upd, updS], by simpa [upd, updS] using h6⟩
              · rintro L s1 w1 hL hd ⟨kS, kA, hBw, hs4, hs5, h1, h2, h6⟩ K hK
                have hv := h1 (hd ⟨0, .data⟩ (by simp) rfl)
                clear hd
                rw [if_pos (by rfl)]
                unfold opF
                have cc0 := kS.cell 0 rfl
                have cc1 := kS.cell 1 rfl
                have cc2 := kS.cell 2 rfl
                have cc3 := kS.cell 3 rfl
                have ccz := kS.2.2
                go_simp
                exact hK undef _ ⟨(((kS.set (i := 0) (u := .int .i64 0)).set (i := 1) (u := .int .i64 0)).set (i := 2) (u := .int .i64 0)).set (i := 3) (u := .int .i64 0), (((kA.setFar (by omega)).setFar (by omega)).setFar (by omega)).setFar (by omega), (((hBw.setCell (by simp; omega) _).setCell (by simp; omega) _).setCell (by simp; omega) _).setCell (by simp; omega) _, by simpa [upd, updS] using hs4, by simpa [upd, updS] using hs5, by simpa [upd, updS] using h1, by simpa [upd, updS] using h2, by simpa [upd, updS] using h6⟩
              · rintro L s1 w1 hL hd ⟨kS, kA, hBw, hs4, hs5, h1, h2, h6⟩ K hK
                have hv := h2 (hd ⟨1, .data⟩ (by simp) rfl)
                clear hd
                rw [if_pos (by rfl)]
                unfold opF
                have dd0 := kA.cell 0 rfl
                have dd1 := kA.cell 1 rfl
                have ddz := kA.2.2
                go_simp
                exact hK undef _ ⟨(kS.setFar (by omega)).setFar (by omega), (kA.set (i := 0) (u := .int .i64 0)).set (i := 1) (u := .slice none 0 0), (hBw.setCell (by simp; omega) _).setCell (by simp; omega) _, by simpa [upd, updS] using hs4, by simpa [upd, updS] using hs5, by simpa [upd, updS] using h1, by simpa [upd, updS] using h2, by simpa [upd, updS] using h6⟩
              · rintro L s1 w1 hL hd ⟨kS, kA, hBw, hs4, hs5, h1, h2, h6⟩ K hK
                clear hd
                rw [if_pos (by rfl)]
                unfold opF
                go_simp
                exact hK _ _ ⟨kS, kA, hBw, by simpa [upd, updS] using hs4, by simpa [upd, updS] using hs5, by simpa [upd, updS] using h1, by simpa [upd, updS] using h2, by simp [upd, updS]⟩
          · --F
            have Hbad := hid (HNO.out (by unfold stOk; simp [hb1]))
            repeat (first | ((first | (refine listF_step rfl (fun K' hK => ?_)) | (refine listF_yes rfl rfl (by decide) ?_ (fun K' hK => ?_); (focus (go_simp; done)))); unfold opF; go_simp; (first | (refine hK _ _ ?_) | ((first | (go_at_call 52; refine (qend_job W.jobs[k] _).mono ?_; rintro e w7 ⟨rfl, rfl⟩) | (go_at_call 46; refine (qout_any _ _ _ _).mono ?_; rintro e w' ⟨rfl, rfl⟩)); refine ⟨_, rfl, hK _ _ ?_⟩)); clear hK K') | (refine listF_no (b' := true) rfl rfl (by decide) ?_ ?_ ?_; (focus (go_simp; done)); (focus rfl)) | (refine listF_no (b' := false) rfl rfl (by decide) ?_ ?_ ?_; (focus (go_simp; done)); (focus rfl)) | (refine listF_nu rfl rfl (by decide) ?_ ?_; (focus (go_simp; done))) | (refine listF_nil ?_) | (refine region_F ?_) | (refine cond_F true ?_ ?_; (focus (go_simp; done)); simp only [if_true]) | (refine cond_F false ?_ ?_; (focus (go_simp; done)); simp only [Bool.false_eq_true, if_false]) | (with_reducible go_step))
            refine regionI_F (RetJ w.heap.size w (w.heap.size + 1 + 1) (w.heap.size + 1 + 1 + 1) [.int .i64 0, .int .i64 0, .int .i64 0, .int .i64 0] [.int .i64 0, .slice none 0 0] 4 5 6 87 88 4 (.int .i64 7)) (by kernel_rfl) (by kernel_rfl) (by kernel_rfl) ?_ ?_ ⟨?_, ?_, ?_, ?_, ?_, trivial⟩
            · refine ⟨(by repeat (first | (with_reducible exact k2') | (with_reducible exact m2) | (with_reducible exact k2) | (with_reducible refine Cells.drew ?_) | (with_reducible refine Cells.up ?_ _) | (with_reducible refine Cells.setFar ?_ (by omega)))), (by repeat (first | (with_reducible exact k3') | (with_reducible exact m3) | (with_reducible exact k3) | (with_reducible refine Cells.drew ?_) | (with_reducible refine Cells.up ?_ _) | (with_reducible refine Cells.setFar ?_ (by omega)))), (by repeat (first | (with_reducible exact hBk) | (with_reducible refine bdrewN ?_ _) | (with_reducible refine Below.drew ?_) | (with_reducible refine Below.setCell ?_ (by first | omega | (simp; done) | (simp; omega)) _) | (with_reducible refine Below.alloc ?_ (by first | omega | (simp; done) | (simp; omega)) _))), ?_, ?_, by simp, by simp, by simp⟩
              · go_simp
              · go_simp
            · rintro s1 w1 ⟨kS, kA, hBw, hs4, hs5, h1, h2, h6⟩
              have hs6 := h6 (by simp)
              clear h1 h2 h6
              have hsS := kS.1
              have hsA := kA.1
              have cc0 := kS.cell 0 rfl
              have cc1 := kS.cell 1 rfl
              have cc2 := kS.cell 2 rfl
              have cc3 := kS.cell 3 rfl
              have dd0 := kA.cell 0 rfl
              have dd1 := kA.cell 1 rfl
              have ccz := kS.2.2
              have ddz := kA.2.2
              repeat (first | ((first | (refine listF_step rfl (fun K' hK => ?_)) | (refine listF_yes rfl rfl (by decide) ?_ (fun K' hK => ?_); (focus (go_simp; done)))); unfold opF; go_simp; (refine hK _ _ ?_); clear hK K') | (refine listF_no (b' := true) rfl rfl (by decide) ?_ ?_ ?_; (focus (go_simp; done)); (focus rfl)) | (refine listF_no (b' := false) rfl rfl (by decide) ?_ ?_ ?_; (focus (go_simp; done)); (focus rfl)) | (refine listF_nu rfl rfl (by decide) ?_ ?_; (focus (go_simp; done))) | (refine listF_nil ?_) | (refine region_F ?_) | (refine cond_F true ?_ ?_; (focus (go_simp; done)); simp only [if_true]) | (refine cond_F false ?_ ?_; (focus (go_simp; done)); simp only [Bool.false_eq_true, if_false]) | (with_reducible go_step))
              refine ret_F (.tuple #[.agg #[.int .i64 0, .int .i64 0, .int .i64 0, .int .i64 0], .agg #[.int .i64 0, .slice none 0 0], .int .i64 7]) (res_cct (ad := ⟨w.heap.size + 1 + 1, 0, none⟩) (ad2 := ⟨w.heap.size + 1 + 1 + 1, 0, none⟩) Try.results22 ((getD_F (by simp)).trans (by go_simp)) ((getD_F (by simp)).trans (by go_simp)) (load_spell cc0 cc1 cc2 cc3) (load_qu dd0 dd1) ((getD_F (by simp)).trans (by go_simp))) ?_
              rw [Hbad.out]
              exact ⟨none, 0, rfl, .inl rfl, hBw, fun b hb => (by cases hb)⟩
            · rintro L s1 w1 hL hd ⟨kS, kA, hBw, hs4, hs5, h1, h2, h6⟩ K hK
              clear hd
              rw [if_pos (by rfl)]
              unfold opF
              have cc0 := kS.cell 0 rfl
              have cc1 := kS.cell 1 rfl
              have cc2 := kS.cell 2 rfl
              have cc3 := kS.cell 3 rfl
              go_simp
              exact hK _ _ ⟨kS, kA, hBw, by simpa [upd, updS] using hs4, by simpa [upd, updS] using hs5, by simp [upd, updS], by simpa [upd, updS] using h2, by simpa [upd, updS] using h6⟩
            · rintro L s1 w1 hL hd ⟨kS, kA, hBw, hs4, hs5, h1, h2, h6⟩ K hK
              clear hd
              rw [if_pos (by rfl)]
              unfold opF
              have dd0 := kA.cell 0 rfl
              have dd1 := kA.cell 1 rfl
              go_simp
              exact hK _ _ ⟨kS, kA, hBw, by simpa [upd, updS] using hs4, by simpa [upd, updS] using hs5, by simpa [upd, updS] using h1, by simp [upd, updS], by simpa [upd, updS] using h6⟩
            · rintro L s1 w1 hL hd ⟨kS, kA, hBw, hs4, hs5, h1, h2, h6⟩ K hK
              have hv := h1 (hd ⟨0, .data⟩ (by simp) rfl)
              clear hd
              rw [if_pos (by rfl)]
              unfold opF
              have cc0 := kS.cell 0 rfl
              have cc1 := kS.cell 1 rfl
              have cc2 := kS.cell 2 rfl
              have cc3 := kS.cell 3 rfl
              have ccz := kS.2.2
              go_simp
              exact hK undef _ ⟨(((kS.set (i := 0) (u := .int .i64 0)).set (i := 1) (u := .int .i64 0)).set (i := 2) (u := .int .i64 0)).set (i := 3) (u := .int .i64 0), (((kA.setFar (by omega)).setFar (by omega)).setFar (by omega)).setFar (by omega), (((hBw.setCell (by simp; omega) _).setCell (by simp; omega) _).setCell (by simp; omega) _).setCell (by simp; omega) _, by simpa [upd, updS] using hs4, by simpa [upd, updS] using hs5, by simpa [upd, updS] using h1, by simpa [upd, updS] using h2, by simpa [upd, updS] using h6⟩
            · rintro L s1 w1 hL hd ⟨kS, kA, hBw, hs4, hs5, h1, h2, h6⟩ K hK
              have hv := h2 (hd ⟨1, .data⟩ (by simp) rfl)
              clear hd
              rw [if_pos (by rfl)]
              unfold opF
              have dd0 := kA.cell 0 rfl
              have dd1 := kA.cell 1 rfl
              have ddz := kA.2.2
              go_simp
              exact hK undef _ ⟨(kS.setFar (by omega)).setFar (by omega), (kA.set (i := 0) (u := .int .i64 0)).set (i := 1) (u := .slice none 0 0), (hBw.setCell (by simp; omega) _).setCell (by simp; omega) _, by simpa [upd, updS] using hs4, by simpa [upd, updS] using hs5, by simpa [upd, updS] using h1, by simpa [upd, updS] using h2, by simpa [upd, updS] using h6⟩
            · rintro L s1 w1 hL hd ⟨kS, kA, hBw, hs4, hs5, h1, h2, h6⟩ K hK
              clear hd
              rw [if_pos (by rfl)]
              unfold opF
              go_simp
              exact hK _ _ ⟨kS, kA, hBw, by simpa [upd, updS] using hs4, by simpa [upd, updS] using hs5, by simpa [upd, updS] using h1, by simpa [upd, updS] using h2, by simp [upd, updS]⟩
        · have hkl : k = q.jobs.length := by omega
          subst hkl
          clear hlt hk
          have HQ : Hid (QOk W q) := hid ⟨Hlen.out, ((inb_iff _ _ _).1 Hnow.out).1, ((inb_iff _ _ _).1 Hnow.out).2, fun i h h' => hok.out i h h' h⟩
          have HQE : Hid (quErr W q = if waits q.jobs = false then 9 else 0) := by
            show quErr W q = _
            unfold quErr
            rw [if_neg (by simp [Hlen.out]), if_neg (by simp [Hnow.out]), if_neg]
            rintro ⟨i, hi, hb⟩
            have hi' : i < W.jobs.length := by have := Hlen.out; omega
            rw [Work.job_eq hi', Qu.st_eq hi, hok.out i hi hi' hi] at hb
            cases hb
          clear hok HNO
          have hq12 : q.jobs.length ≤ 12 := by have := HK.out.jl; have := Hlen.out; omega
          clear k0 k1 k2 k3
          by_cases hne : 0 < q.jobs.length
          · obtain ⟨bq, oq, rfl, _⟩ := Rd.ne (Rd.at Hq.out HBr.out) hne
            repeat (first | ((first | (refine listF_step rfl (fun K' hK => ?_)) | (refine listF_yes rfl rfl (by decide) ?_ (fun K' hK => ?_); (focus (go_simp; done)))); unfold opF; go_simp; (refine hK _ _ ?_); clear hK K') | (refine listF_no (b' := true) rfl rfl (by decide) ?_ ?_ ?_; (focus (go_simp; done)); (focus rfl)) | (refine listF_no (b' := false) rfl rfl (by decide) ?_ ?_ ?_; (focus (go_simp; done)); (focus rfl)) | (refine listF_nu rfl rfl (by decide) ?_ ?_; (focus (go_simp; done))) | (refine listF_nil ?_) | (refine region_F ?_) | (refine cond_F true ?_ ?_; (focus (go_simp; done)); simp only [if_true]) | (refine cond_F false ?_ ?_; (focus (go_simp; done)); simp only [Bool.false_eq_true, if_false]) | (with_reducible go_step))
            (refine listF_step rfl (fun K' hK => ?_); unfold opF; go_simp; refine (clone_any bq oq cq q.jobs _ hq12 hne (Rd.at Hq.out HBr.out)).mono ?_; rintro e w3 ⟨g, cap, rfl, hO, hb3⟩; refine ⟨_, rfl, hK _ _ ?_⟩; clear hK K')
            have hgz := Own.frozen hO
            have hgc := Own.cells0 (f := St.cs) (m := 5) (fun _ => rfl) hO
            obtain ⟨hg1, hg2⟩ := World.ownsRow.lt hO g rfl
            have k0 := k0'.at hb3
            have k1 := k1'.at hb3
            have k2 := k2'.at hb3
            have k3 := k3'.at hb3
            have HB3 := hid (Below.trans HBr.out (hb3.mono HBr.out.size) : Below w.heap.size w w3)
            have hs33 := hb3.size
            clear c0 c1 c2 c3 d0 d1 cz dz a5 b0 b1 hO hb3 k0' k1' k2' k3'
            obtain ⟨wz, hwz⟩ : ∃ x, ((w3.setCell ⟨w.heap.size + 1, 1, none⟩ (.slice (some ⟨g, 0, none⟩) q.jobs.length cap)).alloc (.cells #[.int .i64 W.rules.slice, .int .i64 W.rules.load, .int .i64 W.rules.dump, .int .i64 W.rules.patience, .int .i64 W.rules.rate, .slice aj W.jobs.length cj, .slice af W.faults.length cf, .int .i64 q.now, .slice (some ⟨g, 0, none⟩) q.jobs.length cap] 93)) = x := ⟨_, rfl⟩
            have hR : Hid (RoomOf w.heap.size w wz w3.heap.size g W q aj af cj cf cap) := by
              have kR : Cells wz w3.heap.size [.int .i64 W.rules.slice, .int .i64 W.rules.load, .int .i64 W.rules.dump, .int .i64 W.rules.patience, .int .i64 W.rules.rate, .slice aj W.jobs.length cj, .slice af W.faults.length cf, .int .i64 q.now, .slice (some ⟨g, 0, none⟩) q.jobs.length cap] := by rw [← hwz]; exact Cells.new (by simp)
              have hbz : Below w.heap.size w wz := by rw [← hwz]; exact (by repeat (first | (with_reducible exact HB3.out) | (with_reducible refine bdrewN ?_ _) | (with_reducible refine Below.drew ?_) | (with_reducible refine Below.setCell ?_ (by first | omega | (simp; done) | (simp; omega)) _) | (with_reducible refine Below.alloc ?_ (by first | omega | (simp; done) | (simp; omega)) _)))
              have hfar : ∀ i, wz.cell? ⟨g, i, none⟩ = w3.cell? ⟨g, i, none⟩ := by
                intro i
                rw [← hwz, (below_alloc1 _ _).cell (p := ⟨g, i, none⟩) (by simpa using hg2)]
                exact set_far (.inl (by omega))
              refine hid ⟨kR.cell 0 rfl, kR.cell 1 rfl, kR.cell 2 rfl, kR.cell 3 rfl, kR.cell 4 rfl, kR.cell 5 rfl, kR.cell 6 rfl, kR.cell 7 rfl, kR.cell 8 rfl, kR.2.2, kR.1, by omega, rfl, HW.out, hbz, by rw [← hwz]; simp; omega, by omega, by omega, ?_, ?_⟩
              · intro o
                rw [← hwz, (below_alloc1 _ _).frozen (p := ⟨g, o, none⟩) (by simpa using hg2), World.frozen?_setCell]
                exact hgz o
              · intro i x hi j v hj
                rw [hfar]; exact hgc i x hi j v hj
            have m2 : Cells wz (w.heap.size + 1 + 1) [.int .i64 0, .int .i64 0, .int .i64 0, .int .i64 0] := by rw [← hwz]; exact (k2.setFar (by omega)).up _
            have m3 : Cells wz (w.heap.size + 1 + 1 + 1) [.int .i64 0, .slice none 0 0] := by rw [← hwz]; exact (k3.setFar (by omega)).up _
            have HBz : Hid (Below w.heap.size w wz) := hid (by rw [← hwz]; exact (by repeat (first | (with_reducible exact HB3.out) | (with_reducible refine bdrewN ?_ _) | (with_reducible refine Below.drew ?_) | (with_reducible refine Below.setCell ?_ (by first | omega | (simp; done) | (simp; omega)) _) | (with_reducible refine Below.alloc ?_ (by first | omega | (simp; done) | (simp; omega)) _))))
            have hsz : w3.heap.size < wz.heap.size := by rw [← hwz]; simp
            have z0 := k0.cell 0 rfl
            have z1 := k0.cell 1 rfl
            have z2 := k0.cell 2 rfl
            have z3 := k0.cell 3 rfl
            have z4 := k0.cell 4 rfl
            have z5 := k0.cell 5 rfl
            have z6 := k0.cell 6 rfl
            have y0 := k1.cell 0 rfl
            have y1 := k1.cell 1 rfl
            have yz := k1.2.2
            have t0 : w.heap.size < w3.heap.size := by omega
            have t1 : w.heap.size + 1 < w3.heap.size := by omega
            repeat (first | ((first | (refine listF_step rfl (fun K' hK => ?_)) | (refine listF_yes rfl rfl (by decide) ?_ (fun K' hK => ?_); (focus (go_simp; done)))); unfold opF; go_simp; (refine hK _ _ ?_); clear hK K') | (refine listF_no (b' := true) rfl rfl (by decide) ?_ ?_ ?_; (focus (go_simp; done)); (focus rfl)) | (refine listF_no (b' := false) rfl rfl (by decide) ?_ ?_ ?_; (focus (go_simp; done)); (focus rfl)) | (refine listF_nu rfl rfl (by decide) ?_ ?_; (focus (go_simp; done))) | (refine listF_nil ?_) | (refine region_F ?_) | (refine cond_F true ?_ ?_; (focus (go_simp; done)); simp only [if_true]) | (refine cond_F false ?_ ?_; (focus (go_simp; done)); simp only [Bool.false_eq_true, if_false]) | (with_reducible go_step))
            try rw [hwz]
            clear hwz z0 z1 z2 z3 z4 z5 z6 y0 y1 yz k0 k1 k2 k3 hgc hgz t0 t1
            rcases Bool.eq_false_or_eq_true (waits q.jobs) with hw | hw
            · (refine listF_step rfl (fun K' hK => ?_); unfold opF; go_simp; refine (qwaits_any w3.heap.size 7 (some ⟨g, 0, none⟩) cap q.jobs _ (by omega) hR.out.rd hR.out.c8).mono ?_; rintro e w5 ⟨rfl, hb5⟩; refine ⟨_, rfl, hK _ _ ?_⟩; clear hK K')
              have hR5 := hid (hR.out.at hb5)
              have m2 := m2.at hb5
              have m3 := m3.at hb5
              have hs5 := hb5.size
              have hg5 := hR5.out.glt
              clear hb5
              repeat (first | ((first | (refine listF_step rfl (fun K' hK => ?_)) | (refine listF_yes rfl rfl (by decide) ?_ (fun K' hK => ?_); (focus (go_simp; done)))); unfold opF; go_simp; (first | (refine hK _ _ ?_) | ((go_at_call 55; refine (next_any w.heap.size w _ w3.heap.size g W q aj af cj cf cap hR5.out HK.out HQ.out hw).mono ?_; rintro e w6 ⟨rfl, hRO, hKe⟩; obtain ⟨e0, e1⟩ := hKe; have m4 := m2.kept (e1 _ m2.1 (by omega) (by omega)) e0; have m5 := m3.kept (e1 _ m3.1 (by omega) (by omega)) e0; have c0 := m4.cell 0 rfl; have c1 := m4.cell 1 rfl; have c2 := m4.cell 2 rfl; have c3 := m4.cell 3 rfl; have d0 := m5.cell 0 rfl; have d1 := m5.cell 1 rfl; have cz := m4.2.2; have dz := m5.2.2; have r7 := hRO.c7; have r8 := hRO.c8; have hs6 := hRO.lt; have hg6 := hRO.glt; have HRO := hid hRO; clear hRO e1); refine ⟨_, rfl, hK _ _ ?_⟩)); clear hK K') | (refine listF_no (b' := true) rfl rfl (by decide) ?_ ?_ ?_; (focus (go_simp; done)); (focus rfl)) | (refine listF_no (b' := false) rfl rfl (by decide) ?_ ?_ ?_; (focus (go_simp; done)); (focus rfl)) | (refine listF_nu rfl rfl (by decide) ?_ ?_; (focus (go_simp; done))) | (refine listF_nil ?_) | (refine region_F ?_) | (refine cond_F true ?_ ?_; (focus (go_simp; done)); simp only [if_true]) | (refine cond_F false ?_ ?_; (focus (go_simp; done)); simp only [Bool.false_eq_true, if_false]) | (with_reducible go_step))
              have Hr := hid (show nextRes W q = ((nextStep W q).1, (nextStep W q).2, 0) by unfold nextRes; rw [HNE.out, HQE.out, hw]; rfl)
              (refine wp_abs ?_; intro s' hs'; have gl4 := congrFun hs' 4; simp only [updS_some, updS_none, Nat.reduceEqDiff, ↓reduceIte] at gl4; (try rw [sl4] at gl4); have gl5 := congrFun hs' 5; simp only [updS_some, updS_none, Nat.reduceEqDiff, ↓reduceIte] at gl5; (try rw [sl5] at gl5); have gl10 := congrFun hs' 10; simp only [updS_some, updS_none, Nat.reduceEqDiff, ↓reduceIte] at gl10; (try rw [sl10] at gl10); clear hs'; (try clear sl4); (try clear sl5); (try clear sl10); have sl4 := gl4; clear gl4; have sl5 := gl5; clear gl5; have sl10 := gl10; clear gl10)
              obtain ⟨wn, hwn⟩ : ∃ x, (((w6.setCell ⟨w.heap.size + 1 + 1, 0, none⟩ (.int .i64 (nextStep W q).1.kind)).setCell ⟨w.heap.size + 1 + 1, 1, none⟩ (.int .i64 (nextStep W q).1.job)).setCell ⟨w.heap.size + 1 + 1, 2, none⟩ (.int .i64 (nextStep W q).1.from0)).setCell ⟨w.heap.size + 1 + 1, 3, none⟩ (.int .i64 (nextStep W q).1.until0) = x := ⟨_, rfl⟩
              have p2 : Cells wn (w.heap.size + 1 + 1) [.int .i64 (nextStep W q).1.kind, .int .i64 (nextStep W q).1.job, .int .i64 (nextStep W q).1.from0, .int .i64 (nextStep W q).1.until0] := by
                rw [← hwn]
                exact (((m4.set (i := 0) (u := .int .i64 (nextStep W q).1.kind)).set (i := 1) (u := .int .i64 (nextStep W q).1.job)).set (i := 2) (u := .int .i64 (nextStep W q).1.from0)).set (i := 3) (u := .int .i64 (nextStep W q).1.until0)
              have p3 : Cells wn (w.heap.size + 1 + 1 + 1) [.int .i64 0, .slice none 0 0] := by
                rw [← hwn]; exact (((m5.setFar (by omega)).setFar (by omega)).setFar (by omega)).setFar (by omega)
              have HRn : Hid (RoomOf w.heap.size w wn w3.heap.size g W (nextStep W q).2 aj af cj cf cap) := by
                refine hid ?_
                rw [← hwn]; exact (((HRO.out.setFar (by omega) (by omega) (by omega)).setFar (by omega) (by omega) (by omega)).setFar (by omega) (by omega) (by omega)).setFar (by omega) (by omega) (by omega)
              rw [hwn]
              clear hwn c0 c1 c2 c3 d0 d1 cz dz r7 r8 m4 m5 HRO
              generalize nextStep W q = NS at *
              obtain ⟨⟨nk, nj, nf0, nu⟩, ⟨nn, js⟩⟩ := NS
              simp only at *
              have c0 := p2.cell 0 rfl
              have c1 := p2.cell 1 rfl
              have c2 := p2.cell 2 rfl
              have c3 := p2.cell 3 rfl
              have d0 := p3.cell 0 rfl
              have d1 := p3.cell 1 rfl
              have cz := p2.2.2
              have dz := p3.2.2
              have r7 := HRn.out.c7
              have r8 := HRn.out.c8
              have v1 : ¬ w3.heap.size = w.heap.size + 1 + 1 := by omega
              have v2 : ¬ w3.heap.size = w.heap.size + 1 + 1 + 1 := by omega
              have v3 : ¬ w.heap.size + 1 + 1 = w3.heap.size := by omega
              have v4 : ¬ w.heap.size + 1 + 1 + 1 = w3.heap.size := by omega
              as_aux_lemma =>
              refine regionI_F (fun (LJ : Nat → Bool) (sJ : Nat → Value) (wJ : World) => Cells wJ (w.heap.size + 1 + 1) [.int .i64 nk, .int .i64 nj, .int .i64 nf0, .int .i64 nu] ∧ (LJ 7 = false → Cells wJ (w.heap.size + 1 + 1 + 1) [.int .i64 0, .slice none 0 0]) ∧ (LJ 7 = true → Cells wJ (w.heap.size + 1 + 1 + 1) [.int .i64 nn, .slice (some ⟨g, 0, none⟩) js.length cap]) ∧ RoomOf w.heap.size w wJ w3.heap.size g W ⟨nn, js⟩ aj af cj cf cap ∧ sJ 4 = .pointer (some ⟨w.heap.size + 1 + 1, 0, none⟩) ∧ sJ 5 = .pointer (some ⟨w.heap.size + 1 + 1 + 1, 0, none⟩) ∧ sJ 10 = .pointer (some ⟨w3.heap.size, 0, none⟩) ∧ (LJ 0 = true → sJ 108 = .agg #[.int .i64 nk, .int .i64 nj, .int .i64 nf0, .int .i64 nu]) ∧ (LJ 1 = true → sJ 109 = .pointer (some ⟨w3.heap.size, 0, none⟩)) ∧ (LJ 2 = true → sJ 110 = .pointer (some ⟨w3.heap.size, 0, none⟩)) ∧ (LJ 3 = true → sJ 111 = .pointer (some ⟨w3.heap.size, 7, none⟩)) ∧ (LJ 4 = true → sJ 112 = .pointer (some ⟨w3.heap.size, 7, none⟩)) ∧ (LJ 5 = true → sJ 113 = .agg #[.int .i64 nn, .slice (some ⟨g, 0, none⟩) js.length cap]) ∧ (LJ 8 = true → sJ 6 = .int .i64 0)) (by kernel_rfl) (by kernel_rfl) (by kernel_rfl) ?_ ?_ ⟨?_, ?_, ?_, ?_, ?_, ?_, ?_, ?_, ?_, trivial⟩
              · refine ⟨(by repeat (first | (with_reducible exact p2) | (with_reducible refine Cells.drew ?_) | (with_reducible refine Cells.up ?_ _) | (with_reducible refine Cells.setFar ?_ (by omega)))), fun _ => (by repeat (first | (with_reducible exact p3) | (with_reducible refine Cells.drew ?_) | (with_reducible refine Cells.up ?_ _) | (with_reducible refine Cells.setFar ?_ (by omega)))), (by simp), HRn.out.drew, ?_, ?_, ?_, (by simp), (by simp), (by simp), (by simp), (by simp), (by simp), (by simp)⟩
                · go_simp
                · go_simp
                · go_simp
              · rintro sJ wJ ⟨kB0, kB1, kC1, kRoom, hs4, hs5, hs10, hv0, hv1, hv2, hv3, hv4, hv5, hv8⟩
                replace kB1 := kC1 (by simp)
                clear kC1
                replace hv0 := hv0 (by simp)
                replace hv1 := hv1 (by simp)
                replace hv2 := hv2 (by simp)
                replace hv3 := hv3 (by simp)
                replace hv4 := hv4 (by simp)
                replace hv5 := hv5 (by simp)
                replace hv8 := hv8 (by simp)
                have hsS := kB0.1
                have hsA := kB1.1
                repeat (first | ((first | (refine listF_step rfl (fun K' hK => ?_)) | (refine listF_yes rfl rfl (by decide) ?_ (fun K' hK => ?_); (focus (go_simp; done)))); unfold opF; go_simp; (refine hK _ _ ?_); clear hK K') | (refine listF_no (b' := true) rfl rfl (by decide) ?_ ?_ ?_; (focus (go_simp; done)); (focus rfl)) | (refine listF_no (b' := false) rfl rfl (by decide) ?_ ?_ ?_; (focus (go_simp; done)); (focus rfl)) | (refine listF_nu rfl rfl (by decide) ?_ ?_; (focus (go_simp; done))) | (refine listF_nil ?_) | (refine region_F ?_) | (refine cond_F true ?_ ?_; (focus (go_simp; done)); simp only [if_true]) | (refine cond_F false ?_ ?_; (focus (go_simp; done)); simp only [Bool.false_eq_true, if_false]) | (with_reducible go_step))
                refine ret_F (.tuple #[.agg #[.int .i64 nk, .int .i64 nj, .int .i64 nf0, .int .i64 nu], .agg #[.int .i64 nn, .slice (some ⟨g, 0, none⟩) js.length cap], .int .i64 0]) (res_cct (ad := ⟨w.heap.size + 1 + 1, 0, none⟩) (ad2 := ⟨w.heap.size + 1 + 1 + 1, 0, none⟩) Try.results22 ((getD_F (by simp)).trans (by go_simp)) ((getD_F (by simp)).trans (by go_simp)) (load_spell (kB0.cell 0 rfl) (kB0.cell 1 rfl) (kB0.cell 2 rfl) (kB0.cell 3 rfl)) (load_qu (kB1.cell 0 rfl) (kB1.cell 1 rfl)) ((getD_F (by simp)).trans (by go_simp))) ?_
                rw [Hr.out]
                exact ⟨some ⟨g, 0, none⟩, cap, rfl, kRoom.rd, kRoom.bel, fun b hb => by cases hb; exact kRoom.gge⟩
              · rintro LJ sJ wJ hL hd ⟨kB0, kB1, kC1, kRoom, hs4, hs5, hs10, hv0, hv1, hv2, hv3, hv4, hv5, hv8⟩ K hK
                clear hd
                rw [if_pos (by rfl)]
                unfold opF
                have cc0_0 := kB0.cell 0 rfl
                have cc0_1 := kB0.cell 1 rfl
                have cc0_2 := kB0.cell 2 rfl
                have cc0_3 := kB0.cell 3 rfl
                go_simp
                exact hK _ _ ⟨kB0, (by simp only [upd]; exact fun h => (kB1 h)), (by simp only [upd]; exact fun h => (kC1 h)), kRoom, (by simpa [upd, updS] using hs4), (by simpa [upd, updS] using hs5), (by simpa [upd, updS] using hs10), (by simp [upd, updS]), (by simpa [upd, updS] using hv1), (by simpa [upd, updS] using hv2), (by simpa [upd, updS] using hv3), (by simpa [upd, updS] using hv4), (by simpa [upd, updS] using hv5), (by simpa [upd, updS] using hv8)⟩
              · rintro LJ sJ wJ hL hd ⟨kB0, kB1, kC1, kRoom, hs4, hs5, hs10, hv0, hv1, hv2, hv3, hv4, hv5, hv8⟩ K hK
                clear hd
                rw [if_pos (by rfl)]
                unfold opF
                go_simp
                exact hK _ _ ⟨kB0, (by simp only [upd]; exact fun h => (kB1 h)), (by simp only [upd]; exact fun h => (kC1 h)), kRoom, (by simpa [upd, updS] using hs4), (by simpa [upd, updS] using hs5), (by simpa [upd, updS] using hs10), (by simpa [upd, updS] using hv0), (by simp [upd, updS]), (by simpa [upd, updS] using hv2), (by simpa [upd, updS] using hv3), (by simpa [upd, updS] using hv4), (by simpa [upd, updS] using hv5), (by simpa [upd, updS] using hv8)⟩
              · rintro LJ sJ wJ hL hd ⟨kB0, kB1, kC1, kRoom, hs4, hs5, hs10, hv0, hv1, hv2, hv3, hv4, hv5, hv8⟩ K hK
                have gv1 := hv1 (hd ⟨1, .data⟩ (by simp) rfl)
                clear hd
                rw [if_pos (by rfl)]
                unfold opF
                go_simp
                exact hK _ _ ⟨kB0, (by simp only [upd]; exact fun h => (kB1 h)), (by simp only [upd]; exact fun h => (kC1 h)), kRoom, (by simpa [upd, updS] using hs4), (by simpa [upd, updS] using hs5), (by simpa [upd, updS] using hs10), (by simpa [upd, updS] using hv0), (by simpa [upd, updS] using hv1), (by simp [upd, updS]), (by simpa [upd, updS] using hv3), (by simpa [upd, updS] using hv4), (by simpa [upd, updS] using hv5), (by simpa [upd, updS] using hv8)⟩
              · rintro LJ sJ wJ hL hd ⟨kB0, kB1, kC1, kRoom, hs4, hs5, hs10, hv0, hv1, hv2, hv3, hv4, hv5, hv8⟩ K hK
                have gv2 := hv2 (hd ⟨2, .data⟩ (by simp) rfl)
                clear hd
                rw [if_pos (by rfl)]
                unfold opF
                go_simp
                exact hK _ _ ⟨kB0, (by simp only [upd]; exact fun h => (kB1 h)), (by simp only [upd]; exact fun h => (kC1 h)), kRoom, (by simpa [upd, updS] using hs4), (by simpa [upd, updS] using hs5), (by simpa [upd, updS] using hs10), (by simpa [upd, updS] using hv0), (by simpa [upd, updS] using hv1), (by simpa [upd, updS] using hv2), (by simp [upd, updS]), (by simpa [upd, updS] using hv4), (by simpa [upd, updS] using hv5), (by simpa [upd, updS] using hv8)⟩
              · rintro LJ sJ wJ hL hd ⟨kB0, kB1, kC1, kRoom, hs4, hs5, hs10, hv0, hv1, hv2, hv3, hv4, hv5, hv8⟩ K hK
                have gv3 := hv3 (hd ⟨3, .data⟩ (by simp) rfl)
                clear hd
                rw [if_pos (by rfl)]
                unfold opF
                go_simp
                exact hK _ _ ⟨kB0, (by simp only [upd]; exact fun h => (kB1 h)), (by simp only [upd]; exact fun h => (kC1 h)), kRoom, (by simpa [upd, updS] using hs4), (by simpa [upd, updS] using hs5), (by simpa [upd, updS] using hs10), (by simpa [upd, updS] using hv0), (by simpa [upd, updS] using hv1), (by simpa [upd, updS] using hv2), (by simpa [upd, updS] using hv3), (by simp [upd, updS]), (by simpa [upd, updS] using hv5), (by simpa [upd, updS] using hv8)⟩
              · rintro LJ sJ wJ hL hd ⟨kB0, kB1, kC1, kRoom, hs4, hs5, hs10, hv0, hv1, hv2, hv3, hv4, hv5, hv8⟩ K hK
                have gv4 := hv4 (hd ⟨4, .data⟩ (by simp) rfl)
                clear hd
                rw [if_pos (by rfl)]
                unfold opF
                have r7' := kRoom.c7
                have r8' := kRoom.c8
                go_simp
                exact hK _ _ ⟨kB0, (by simp only [upd]; exact fun h => (kB1 h)), (by simp only [upd]; exact fun h => (kC1 h)), kRoom, (by simpa [upd, updS] using hs4), (by simpa [upd, updS] using hs5), (by simpa [upd, updS] using hs10), (by simpa [upd, updS] using hv0), (by simpa [upd, updS] using hv1), (by simpa [upd, updS] using hv2), (by simpa [upd, updS] using hv3), (by simpa [upd, updS] using hv4), (by simp [upd, updS]), (by simpa [upd, updS] using hv8)⟩
              · rintro LJ sJ wJ hL hd ⟨kB0, kB1, kC1, kRoom, hs4, hs5, hs10, hv0, hv1, hv2, hv3, hv4, hv5, hv8⟩ K hK
                have gv0 := hv0 (hd ⟨0, .data⟩ (by simp) rfl)
                clear hd
                rw [if_pos (by rfl)]
                unfold opF
                have cc0_0 := kB0.cell 0 rfl
                have cc0_1 := kB0.cell 1 rfl
                have cc0_2 := kB0.cell 2 rfl
                have cc0_3 := kB0.cell 3 rfl
                have ccz0 := kB0.2.2
                go_simp
                exact hK undef _ ⟨((((kB0.set (i := 0) (u := .int .i64 nk)).set (i := 1) (u := .int .i64 nj)).set (i := 2) (u := .int .i64 nf0)).set (i := 3) (u := .int .i64 nu)), (by simp only [upd]; exact fun h => (((((kB1 h).setFar (by omega)).setFar (by omega)).setFar (by omega)).setFar (by omega))), (by simp only [upd]; exact fun h => (((((kC1 h).setFar (by omega)).setFar (by omega)).setFar (by omega)).setFar (by omega))), ((((kRoom.setFar (by omega) (by omega) (by omega)).setFar (by omega) (by omega) (by omega)).setFar (by omega) (by omega) (by omega)).setFar (by omega) (by omega) (by omega)), (by simpa [upd, updS] using hs4), (by simpa [upd, updS] using hs5), (by simpa [upd, updS] using hs10), (by simpa [upd, updS] using hv0), (by simpa [upd, updS] using hv1), (by simpa [upd, updS] using hv2), (by simpa [upd, updS] using hv3), (by simpa [upd, updS] using hv4), (by simpa [upd, updS] using hv5), (by simpa [upd, updS] using hv8)⟩
              · rintro LJ sJ wJ hL hd ⟨kB0, kB1, kC1, kRoom, hs4, hs5, hs10, hv0, hv1, hv2, hv3, hv4, hv5, hv8⟩ K hK
                have gv5 := hv5 (hd ⟨5, .data⟩ (by simp) rfl)
                clear hd
                rw [if_pos (by rfl)]
                unfold opF
                have kN1 := kB1 hL
                have cc1_0 := kN1.cell 0 rfl
                have cc1_1 := kN1.cell 1 rfl
                have ccz1 := kN1.2.2
                go_simp
                exact hK undef _ ⟨((kB0.setFar (by omega)).setFar (by omega)), (by simp [upd]), (fun _ => ((kN1.set (i := 0) (u := .int .i64 nn)).set (i := 1) (u := .slice (some ⟨g, 0, none⟩) js.length cap))), ((kRoom.setFar (by omega) (by omega) (by omega)).setFar (by omega) (by omega) (by omega)), (by simpa [upd, updS] using hs4), (by simpa [upd, updS] using hs5), (by simpa [upd, updS] using hs10), (by simpa [upd, updS] using hv0), (by simpa [upd, updS] using hv1), (by simpa [upd, updS] using hv2), (by simpa [upd, updS] using hv3), (by simpa [upd, updS] using hv4), (by simpa [upd, updS] using hv5), (by simpa [upd, updS] using hv8)⟩
              · rintro LJ sJ wJ hL hd ⟨kB0, kB1, kC1, kRoom, hs4, hs5, hs10, hv0, hv1, hv2, hv3, hv4, hv5, hv8⟩ K hK
                clear hd
                rw [if_pos (by rfl)]
                unfold opF
                go_simp
                exact hK _ _ ⟨kB0, (by simp only [upd]; exact fun h => (kB1 h)), (by simp only [upd]; exact fun h => (kC1 h)), kRoom, (by simpa [upd, updS] using hs4), (by simpa [upd, updS] using hs5), (by simpa [upd, updS] using hs10), (by simpa [upd, updS] using hv0), (by simpa [upd, updS] using hv1), (by simpa [upd, updS] using hv2), (by simpa [upd, updS] using hv3), (by simpa [upd, updS] using hv4), (by simpa [upd, updS] using hv5), (by simp [upd, updS])⟩
            · have Hr := hid (show nextRes W q = (Spell.zero, Qu.zero, 9) by unfold nextRes; rw [HNE.out, HQE.out, hw]; rfl)
              (refine listF_step rfl (fun K' hK => ?_); unfold opF; go_simp; refine (qwaits_any w3.heap.size 7 (some ⟨g, 0, none⟩) cap q.jobs _ (by omega) hR.out.rd hR.out.c8).mono ?_; rintro e w5 ⟨rfl, hb5⟩; refine ⟨_, rfl, hK _ _ ?_⟩; clear hK K')
              have m2 := m2.at hb5
              have m3 := m3.at hb5
              have HB5 := hid (Below.trans HBz.out (hb5.mono HBz.out.size) : Below w.heap.size w w5)
              have c0 := m2.cell 0 rfl
              have c1 := m2.cell 1 rfl
              have c2 := m2.cell 2 rfl
              have c3 := m2.cell 3 rfl
              have d0 := m3.cell 0 rfl
              have d1 := m3.cell 1 rfl
              have cz := m2.2.2
              have dz := m3.2.2
              have hs5 := hb5.size
              clear hb5
              repeat (first | ((first | (refine listF_step rfl (fun K' hK => ?_)) | (refine listF_yes rfl rfl (by decide) ?_ (fun K' hK => ?_); (focus (go_simp; done)))); unfold opF; go_simp; (refine hK _ _ ?_); clear hK K') | (refine listF_no (b' := true) rfl rfl (by decide) ?_ ?_ ?_; (focus (go_simp; done)); (focus rfl)) | (refine listF_no (b' := false) rfl rfl (by decide) ?_ ?_ ?_; (focus (go_simp; done)); (focus rfl)) | (refine listF_nu rfl rfl (by decide) ?_ ?_; (focus (go_simp; done))) | (refine listF_nil ?_) | (refine region_F ?_) | (refine cond_F true ?_ ?_; (focus (go_simp; done)); simp only [if_true]) | (refine cond_F false ?_ ?_; (focus (go_simp; done)); simp only [Bool.false_eq_true, if_false]) | (with_reducible go_step))
              refine regionI_F (RetJ w.heap.size w (w.heap.size + 1 + 1) (w.heap.size + 1 + 1 + 1) [.int .i64 0, .int .i64 0, .int .i64 0, .int .i64 0] [.int .i64 0, .slice none 0 0] 4 5 6 104 105 4 (.int .i64 9)) (by kernel_rfl) (by kernel_rfl) (by kernel_rfl) ?_ ?_ ⟨?_, ?_, ?_, ?_, ?_, trivial⟩
              · refine ⟨(by repeat (first | (with_reducible exact k2') | (with_reducible exact m2) | (with_reducible exact k2) | (with_reducible refine Cells.drew ?_) | (with_reducible refine Cells.up ?_ _) | (with_reducible refine Cells.setFar ?_ (by omega)))), (by repeat (first | (with_reducible exact k3') | (with_reducible exact m3) | (with_reducible exact k3) | (with_reducible refine Cells.drew ?_) | (with_reducible refine Cells.up ?_ _) | (with_reducible refine Cells.setFar ?_ (by omega)))), (by repeat (first | (with_reducible exact HB5.out) | (with_reducible refine bdrewN ?_ _) | (with_reducible refine Below.drew ?_) | (with_reducible refine Below.setCell ?_ (by first | omega | (simp; done) | (simp; omega)) _) | (with_reducible refine Below.alloc ?_ (by first | omega | (simp; done) | (simp; omega)) _))), ?_, ?_, by simp, by simp, by simp⟩
                · go_simp
                · go_simp
              · rintro s1 w1 ⟨kS, kA, hBw, hs4, hs5, h1, h2, h6⟩
                have hs6 := h6 (by simp)
                clear h1 h2 h6
                have hsS := kS.1
                have hsA := kA.1
                have cc0 := kS.cell 0 rfl
                have cc1 := kS.cell 1 rfl
                have cc2 := kS.cell 2 rfl
                have cc3 := kS.cell 3 rfl
                have dd0 := kA.cell 0 rfl
                have dd1 := kA.cell 1 rfl
                have ccz := kS.2.2
                have ddz := kA.2.2
                repeat (first | ((first | (refine listF_step rfl (fun K' hK => ?_)) | (refine listF_yes rfl rfl (by decide) ?_ (fun K' hK => ?_); (focus (go_simp; done)))); unfold opF; go_simp; (refine hK _ _ ?_); clear hK K') | (refine listF_no (b' := true) rfl rfl (by decide) ?_ ?_ ?_; (focus (go_simp; done)); (focus rfl)) | (refine listF_no (b' := false) rfl rfl (by decide) ?_ ?_ ?_; (focus (go_simp; done)); (focus rfl)) | (refine listF_nu rfl rfl (by decide) ?_ ?_; (focus (go_simp; done))) | (refine listF_nil ?_) | (refine region_F ?_) | (refine cond_F true ?_ ?_; (focus (go_simp; done)); simp only [if_true]) | (refine cond_F false ?_ ?_; (focus (go_simp; done)); simp only [Bool.false_eq_true, if_false]) | (with_reducible go_step))
                refine ret_F (.tuple #[.agg #[.int .i64 0, .int .i64 0, .int .i64 0, .int .i64 0], .agg #[.int .i64 0, .slice none 0 0], .int .i64 9]) (res_cct (ad := ⟨w.heap.size + 1 + 1, 0, none⟩) (ad2 := ⟨w.heap.size + 1 + 1 + 1, 0, none⟩) Try.results22 ((getD_F (by simp)).trans (by go_simp)) ((getD_F (by simp)).trans (by go_simp)) (load_spell cc0 cc1 cc2 cc3) (load_qu dd0 dd1) ((getD_F (by simp)).trans (by go_simp))) ?_
                rw [Hr.out]
                exact ⟨none, 0, rfl, .inl rfl, hBw, fun b hb => (by cases hb)⟩
              · rintro L s1 w1 hL hd ⟨kS, kA, hBw, hs4, hs5, h1, h2, h6⟩ K hK
                clear hd
                rw [if_pos (by rfl)]
                unfold opF
                have cc0 := kS.cell 0 rfl
                have cc1 := kS.cell 1 rfl
                have cc2 := kS.cell 2 rfl
                have cc3 := kS.cell 3 rfl
                go_simp
                exact hK _ _ ⟨kS, kA, hBw, by simpa [upd, updS] using hs4, by simpa [upd, updS] using hs5, by simp [upd, updS], by simpa [upd, updS] using h2, by simpa [upd, updS] using h6⟩
              · rintro L s1 w1 hL hd ⟨kS, kA, hBw, hs4, hs5, h1, h2, h6⟩ K hK
                clear hd
                rw [if_pos (by rfl)]
                unfold opF
                have dd0 := kA.cell 0 rfl
                have dd1 := kA.cell 1 rfl
                go_simp
                exact hK _ _ ⟨kS, kA, hBw, by simpa [upd, updS] using hs4, by simpa [upd, updS] using hs5, by simpa [upd, updS] using h1, by simp [upd, updS], by simpa [upd, updS] using h6⟩
              · rintro L s1 w1 hL hd ⟨kS, kA, hBw, hs4, hs5, h1, h2, h6⟩ K hK
                have hv := h1 (hd ⟨0, .data⟩ (by simp) rfl)
                clear hd
                rw [if_pos (by rfl)]
                unfold opF
                have cc0 := kS.cell 0 rfl
                have cc1 := kS.cell 1 rfl
                have cc2 := kS.cell 2 rfl
                have cc3 := kS.cell 3 rfl
                have ccz := kS.2.2
                go_simp
                exact hK undef _ ⟨(((kS.set (i := 0) (u := .int .i64 0)).set (i := 1) (u := .int .i64 0)).set (i := 2) (u := .int .i64 0)).set (i := 3) (u := .int .i64 0), (((kA.setFar (by omega)).setFar (by omega)).setFar (by omega)).setFar (by omega), (((hBw.setCell (by simp; omega) _).setCell (by simp; omega) _).setCell (by simp; omega) _).setCell (by simp; omega) _, by simpa [upd, updS] using hs4, by simpa [upd, updS] using hs5, by simpa [upd, updS] using h1, by simpa [upd, updS] using h2, by simpa [upd, updS] using h6⟩
              · rintro L s1 w1 hL hd ⟨kS, kA, hBw, hs4, hs5, h1, h2, h6⟩ K hK
                have hv := h2 (hd ⟨1, .data⟩ (by simp) rfl)
                clear hd
                rw [if_pos (by rfl)]
                unfold opF
                have dd0 := kA.cell 0 rfl
                have dd1 := kA.cell 1 rfl
                have ddz := kA.2.2
                go_simp
                exact hK undef _ ⟨(kS.setFar (by omega)).setFar (by omega), (kA.set (i := 0) (u := .int .i64 0)).set (i := 1) (u := .slice none 0 0), (hBw.setCell (by simp; omega) _).setCell (by simp; omega) _, by simpa [upd, updS] using hs4, by simpa [upd, updS] using hs5, by simpa [upd, updS] using h1, by simpa [upd, updS] using h2, by simpa [upd, updS] using h6⟩
              · rintro L s1 w1 hL hd ⟨kS, kA, hBw, hs4, hs5, h1, h2, h6⟩ K hK
                clear hd
                rw [if_pos (by rfl)]
                unfold opF
                go_simp
                exact hK _ _ ⟨kS, kA, hBw, by simpa [upd, updS] using hs4, by simpa [upd, updS] using hs5, by simpa [upd, updS] using h1, by simpa [upd, updS] using h2, by simp [upd, updS]⟩
          · have h0 : q.jobs.length = 0 := by omega
            have hnil : q.jobs = [] := List.length_eq_zero_iff.1 h0
            have Hr := hid (show nextRes W q = (Spell.zero, Qu.zero, 9) by unfold nextRes; rw [HNE.out, HQE.out, hnil]; rfl)
            clear HQE hnil hne
            have H0 := hid h0; clear h0
            repeat (first | ((first | (refine listF_step rfl (fun K' hK => ?_)) | (refine listF_yes rfl rfl (by decide) ?_ (fun K' hK => ?_); (focus (go_simp; done)))); unfold opF; go_simp; (refine hK _ _ ?_); clear hK K') | (refine listF_no (b' := true) rfl rfl (by decide) ?_ ?_ ?_; (focus (go_simp; done)); (focus rfl)) | (refine listF_no (b' := false) rfl rfl (by decide) ?_ ?_ ?_; (focus (go_simp; done)); (focus rfl)) | (refine listF_nu rfl rfl (by decide) ?_ ?_; (focus (go_simp; done))) | (refine listF_nil ?_) | (refine region_F ?_) | (refine cond_F true ?_ ?_; (focus (go_simp; done)); simp only [if_true]) | (refine cond_F false ?_ ?_; (focus (go_simp; done)); simp only [Bool.false_eq_true, if_false]) | (with_reducible go_step))
            (refine listF_step rfl (fun K' hK => ?_); unfold opF; go_simp; refine (clone0_n aq cq q.jobs.length H0.out _).mono ?_; rintro e w3 ⟨⟨a3, c3', rfl⟩, hb3⟩; refine ⟨_, rfl, hK _ _ ?_⟩; clear hK K')
            have k0 := k0'.at hb3
            have k1 := k1'.at hb3
            have k2 := k2'.at hb3
            have k3 := k3'.at hb3
            have HB3 := hid (Below.trans HBr.out (hb3.mono HBr.out.size) : Below w.heap.size w w3)
            have hs33 := hb3.size
            clear c0 c1 c2 c3 d0 d1 cz dz a5 b0 b1 hb3 k0' k1' k2' k3'
            obtain ⟨wz, hwz⟩ : ∃ x, ((w3.setCell ⟨w.heap.size + 1, 1, none⟩ (.slice a3 0 c3')).alloc (.cells #[.int .i64 W.rules.slice, .int .i64 W.rules.load, .int .i64 W.rules.dump, .int .i64 W.rules.patience, .int .i64 W.rules.rate, .slice aj W.jobs.length cj, .slice af W.faults.length cf, .int .i64 q.now, .slice a3 0 c3'] 93)) = x := ⟨_, rfl⟩
            have kR : Cells wz w3.heap.size [.int .i64 W.rules.slice, .int .i64 W.rules.load, .int .i64 W.rules.dump, .int .i64 W.rules.patience, .int .i64 W.rules.rate, .slice aj W.jobs.length cj, .slice af W.faults.length cf, .int .i64 q.now, .slice a3 0 c3'] := by rw [← hwz]; exact Cells.new (by simp)
            have m2 : Cells wz (w.heap.size + 1 + 1) [.int .i64 0, .int .i64 0, .int .i64 0, .int .i64 0] := by rw [← hwz]; exact (k2.setFar (by omega)).up _
            have m3 : Cells wz (w.heap.size + 1 + 1 + 1) [.int .i64 0, .slice none 0 0] := by rw [← hwz]; exact (k3.setFar (by omega)).up _
            have HBz : Hid (Below w.heap.size w wz) := hid (by rw [← hwz]; exact (by repeat (first | (with_reducible exact HB3.out) | (with_reducible refine bdrewN ?_ _) | (with_reducible refine Below.drew ?_) | (with_reducible refine Below.setCell ?_ (by first | omega | (simp; done) | (simp; omega)) _) | (with_reducible refine Below.alloc ?_ (by first | omega | (simp; done) | (simp; omega)) _))))
            have z0 := k0.cell 0 rfl
            have z1 := k0.cell 1 rfl
            have z2 := k0.cell 2 rfl
            have z3 := k0.cell 3 rfl
            have z4 := k0.cell 4 rfl
            have z5 := k0.cell 5 rfl
            have z6 := k0.cell 6 rfl
            have y0 := k1.cell 0 rfl
            have y1 := k1.cell 1 rfl
            have yz := k1.2.2
            have t0 : w.heap.size < w3.heap.size := by omega
            have t1 : w.heap.size + 1 < w3.heap.size := by omega
            repeat (first | ((first | (refine listF_step rfl (fun K' hK => ?_)) | (refine listF_yes rfl rfl (by decide) ?_ (fun K' hK => ?_); (focus (go_simp; done)))); unfold opF; go_simp; (refine hK _ _ ?_); clear hK K') | (refine listF_no (b' := true) rfl rfl (by decide) ?_ ?_ ?_; (focus (go_simp; done)); (focus rfl)) | (refine listF_no (b' := false) rfl rfl (by decide) ?_ ?_ ?_; (focus (go_simp; done)); (focus rfl)) | (refine listF_nu rfl rfl (by decide) ?_ ?_; (focus (go_simp; done))) | (refine listF_nil ?_) | (refine region_F ?_) | (refine cond_F true ?_ ?_; (focus (go_simp; done)); simp only [if_true]) | (refine cond_F false ?_ ?_; (focus (go_simp; done)); simp only [Bool.false_eq_true, if_false]) | (with_reducible go_step))
            try rw [hwz]
            clear hwz z0 z1 z2 z3 z4 z5 z6 y0 y1 yz k0 k1 k2 k3 t0 t1
            (refine listF_step rfl (fun K' hK => ?_); unfold opF; go_simp; refine (qwaits_any w3.heap.size 7 a3 c3' [] _ (by simp) (.inl rfl) (kR.cell 8 rfl)).mono ?_; rintro e w5 ⟨rfl, hb5⟩; refine ⟨_, rfl, hK _ _ ?_⟩; clear hK K')
            have m2 := m2.at hb5
            have m3 := m3.at hb5
            have HB5 := hid (Below.trans HBz.out (hb5.mono HBz.out.size) : Below w.heap.size w w5)
            have hw0 : waits [] = false := rfl
            clear hb5
            repeat (first | ((first | (refine listF_step rfl (fun K' hK => ?_)) | (refine listF_yes rfl rfl (by decide) ?_ (fun K' hK => ?_); (focus (go_simp; done)))); unfold opF; go_simp; (refine hK _ _ ?_); clear hK K') | (refine listF_no (b' := true) rfl rfl (by decide) ?_ ?_ ?_; (focus (go_simp; done)); (focus rfl)) | (refine listF_no (b' := false) rfl rfl (by decide) ?_ ?_ ?_; (focus (go_simp; done)); (focus rfl)) | (refine listF_nu rfl rfl (by decide) ?_ ?_; (focus (go_simp; done))) | (refine listF_nil ?_) | (refine region_F ?_) | (refine cond_F true ?_ ?_; (focus (go_simp; done)); simp only [if_true]) | (refine cond_F false ?_ ?_; (focus (go_simp; done)); simp only [Bool.false_eq_true, if_false]) | (with_reducible go_step))
            refine regionI_F (RetJ w.heap.size w (w.heap.size + 1 + 1) (w.heap.size + 1 + 1 + 1) [.int .i64 0, .int .i64 0, .int .i64 0, .int .i64 0] [.int .i64 0, .slice none 0 0] 4 5 6 104 105 4 (.int .i64 9)) (by kernel_rfl) (by kernel_rfl) (by kernel_rfl) ?_ ?_ ⟨?_, ?_, ?_, ?_, ?_, trivial⟩
            · refine ⟨(by repeat (first | (with_reducible exact k2') | (with_reducible exact m2) | (with_reducible exact k2) | (with_reducible refine Cells.drew ?_) | (with_reducible refine Cells.up ?_ _) | (with_reducible refine Cells.setFar ?_ (by omega)))), (by repeat (first | (with_reducible exact k3') | (with_reducible exact m3) | (with_reducible exact k3) | (with_reducible refine Cells.drew ?_) | (with_reducible refine Cells.up ?_ _) | (with_reducible refine Cells.setFar ?_ (by omega)))), (by repeat (first | (with_reducible exact HB5.out) | (with_reducible refine bdrewN ?_ _) | (with_reducible refine Below.drew ?_) | (with_reducible refine Below.setCell ?_ (by first | omega | (simp; done) | (simp; omega)) _) | (with_reducible refine Below.alloc ?_ (by first | omega | (simp; done) | (simp; omega)) _))), ?_, ?_, by simp, by simp, by simp⟩
              · go_simp
              · go_simp
            · rintro s1 w1 ⟨kS, kA, hBw, hs4, hs5, h1, h2, h6⟩
              have hs6 := h6 (by simp)
              clear h1 h2 h6
              have hsS := kS.1
              have hsA := kA.1
              have cc0 := kS.cell 0 rfl
              have cc1 := kS.cell 1 rfl
              have cc2 := kS.cell 2 rfl
              have cc3 := kS.cell 3 rfl
              have dd0 := kA.cell 0 rfl
              have dd1 := kA.cell 1 rfl
              have ccz := kS.2.2
              have ddz := kA.2.2
              repeat (first | ((first | (refine listF_step rfl (fun K' hK => ?_)) | (refine listF_yes rfl rfl (by decide) ?_ (fun K' hK => ?_); (focus (go_simp; done)))); unfold opF; go_simp; (refine hK _ _ ?_); clear hK K') | (refine listF_no (b' := true) rfl rfl (by decide) ?_ ?_ ?_; (focus (go_simp; done)); (focus rfl)) | (refine listF_no (b' := false) rfl rfl (by decide) ?_ ?_ ?_; (focus (go_simp; done)); (focus rfl)) | (refine listF_nu rfl rfl (by decide) ?_ ?_; (focus (go_simp; done))) | (refine listF_nil ?_) | (refine region_F ?_) | (refine cond_F true ?_ ?_; (focus (go_simp; done)); simp only [if_true]) | (refine cond_F false ?_ ?_; (focus (go_simp; done)); simp only [Bool.false_eq_true, if_false]) | (with_reducible go_step))
              refine ret_F (.tuple #[.agg #[.int .i64 0, .int .i64 0, .int .i64 0, .int .i64 0], .agg #[.int .i64 0, .slice none 0 0], .int .i64 9]) (res_cct (ad := ⟨w.heap.size + 1 + 1, 0, none⟩) (ad2 := ⟨w.heap.size + 1 + 1 + 1, 0, none⟩) Try.results22 ((getD_F (by simp)).trans (by go_simp)) ((getD_F (by simp)).trans (by go_simp)) (load_spell cc0 cc1 cc2 cc3) (load_qu dd0 dd1) ((getD_F (by simp)).trans (by go_simp))) ?_
              rw [Hr.out]
              exact ⟨none, 0, rfl, .inl rfl, hBw, fun b hb => (by cases hb)⟩
            · rintro L s1 w1 hL hd ⟨kS, kA, hBw, hs4, hs5, h1, h2, h6⟩ K hK
              clear hd
              rw [if_pos (by rfl)]
              unfold opF
              have cc0 := kS.cell 0 rfl
              have cc1 := kS.cell 1 rfl
              have cc2 := kS.cell 2 rfl
              have cc3 := kS.cell 3 rfl
              go_simp
              exact hK _ _ ⟨kS, kA, hBw, by simpa [upd, updS] using hs4, by simpa [upd, updS] using hs5, by simp [upd, updS], by simpa [upd, updS] using h2, by simpa [upd, updS] using h6⟩
            · rintro L s1 w1 hL hd ⟨kS, kA, hBw, hs4, hs5, h1, h2, h6⟩ K hK
              clear hd
              rw [if_pos (by rfl)]
              unfold opF
              have dd0 := kA.cell 0 rfl
              have dd1 := kA.cell 1 rfl
              go_simp
              exact hK _ _ ⟨kS, kA, hBw, by simpa [upd, updS] using hs4, by simpa [upd, updS] using hs5, by simpa [upd, updS] using h1, by simp [upd, updS], by simpa [upd, updS] using h6⟩
            · rintro L s1 w1 hL hd ⟨kS, kA, hBw, hs4, hs5, h1, h2, h6⟩ K hK
              have hv := h1 (hd ⟨0, .data⟩ (by simp) rfl)
              clear hd
              rw [if_pos (by rfl)]
              unfold opF
              have cc0 := kS.cell 0 rfl
              have cc1 := kS.cell 1 rfl
              have cc2 := kS.cell 2 rfl
              have cc3 := kS.cell 3 rfl
              have ccz := kS.2.2
              go_simp
              exact hK undef _ ⟨(((kS.set (i := 0) (u := .int .i64 0)).set (i := 1) (u := .int .i64 0)).set (i := 2) (u := .int .i64 0)).set (i := 3) (u := .int .i64 0), (((kA.setFar (by omega)).setFar (by omega)).setFar (by omega)).setFar (by omega), (((hBw.setCell (by simp; omega) _).setCell (by simp; omega) _).setCell (by simp; omega) _).setCell (by simp; omega) _, by simpa [upd, updS] using hs4, by simpa [upd, updS] using hs5, by simpa [upd, updS] using h1, by simpa [upd, updS] using h2, by simpa [upd, updS] using h6⟩
            · rintro L s1 w1 hL hd ⟨kS, kA, hBw, hs4, hs5, h1, h2, h6⟩ K hK
              have hv := h2 (hd ⟨1, .data⟩ (by simp) rfl)
              clear hd
              rw [if_pos (by rfl)]
              unfold opF
              have dd0 := kA.cell 0 rfl
              have dd1 := kA.cell 1 rfl
              have ddz := kA.2.2
              go_simp
              exact hK undef _ ⟨(kS.setFar (by omega)).setFar (by omega), (kA.set (i := 0) (u := .int .i64 0)).set (i := 1) (u := .slice none 0 0), (hBw.setCell (by simp; omega) _).setCell (by simp; omega) _, by simpa [upd, updS] using hs4, by simpa [upd, updS] using hs5, by simpa [upd, updS] using h1, by simpa [upd, updS] using h2, by simpa [upd, updS] using h6⟩
            · rintro L s1 w1 hL hd ⟨kS, kA, hBw, hs4, hs5, h1, h2, h6⟩ K hK
              clear hd
              rw [if_pos (by rfl)]
              unfold opF
              go_simp
              exact hK _ _ ⟨kS, kA, hBw, by simpa [upd, updS] using hs4, by simpa [upd, updS] using hs5, by simpa [upd, updS] using h1, by simpa [upd, updS] using h2, by simp [upd, updS]⟩
      · have hq2 : quErr W q = 7 := by unfold quErr; rw [if_neg (by simp [Hlen.out]), if_pos hnow]
        have Hr := hid (show nextRes W q = (Spell.zero, Qu.zero, 7) by unfold nextRes; rw [HNE.out, hq2]; rfl)
        clear hq2
        repeat (first | ((first | (refine listF_step rfl (fun K' hK => ?_)) | (refine listF_yes rfl rfl (by decide) ?_ (fun K' hK => ?_); (focus (go_simp; done)))); unfold opF; go_simp; (first | (refine hK _ _ ?_) | ((go_at_call 46; refine (qout_any _ _ _ _).mono ?_; rintro e w' ⟨rfl, rfl⟩); refine ⟨_, rfl, hK _ _ ?_⟩)); clear hK K') | (refine listF_no (b' := true) rfl rfl (by decide) ?_ ?_ ?_; (focus (go_simp; done)); (focus rfl)) | (refine listF_no (b' := false) rfl rfl (by decide) ?_ ?_ ?_; (focus (go_simp; done)); (focus rfl)) | (refine listF_nu rfl rfl (by decide) ?_ ?_; (focus (go_simp; done))) | (refine listF_nil ?_) | (refine region_F ?_) | (refine cond_F true ?_ ?_; (focus (go_simp; done)); simp only [if_true]) | (refine cond_F false ?_ ?_; (focus (go_simp; done)); simp only [Bool.false_eq_true, if_false]) | (with_reducible go_step))
        refine regionI_F (RetJ w.heap.size w (w.heap.size + 1 + 1) (w.heap.size + 1 + 1 + 1) [.int .i64 0, .int .i64 0, .int .i64 0, .int .i64 0] [.int .i64 0, .slice none 0 0] 4 5 6 36 37 4 (.int .i64 7)) (by kernel_rfl) (by kernel_rfl) (by kernel_rfl) ?_ ?_ ⟨?_, ?_, ?_, ?_, ?_, trivial⟩
        · refine ⟨(by repeat (first | (with_reducible exact k2') | (with_reducible exact m2) | (with_reducible exact k2) | (with_reducible refine Cells.drew ?_) | (with_reducible refine Cells.up ?_ _) | (with_reducible refine Cells.setFar ?_ (by omega)))), (by repeat (first | (with_reducible exact k3') | (with_reducible exact m3) | (with_reducible exact k3) | (with_reducible refine Cells.drew ?_) | (with_reducible refine Cells.up ?_ _) | (with_reducible refine Cells.setFar ?_ (by omega)))), (by repeat (first | (with_reducible exact HB2.out) | (with_reducible refine bdrewN ?_ _) | (with_reducible refine Below.drew ?_) | (with_reducible refine Below.setCell ?_ (by first | omega | (simp; done) | (simp; omega)) _) | (with_reducible refine Below.alloc ?_ (by first | omega | (simp; done) | (simp; omega)) _))), ?_, ?_, by simp, by simp, by simp⟩
          · go_simp
          · go_simp
        · rintro s1 w1 ⟨kS, kA, hBw, hs4, hs5, h1, h2, h6⟩
          have hs6 := h6 (by simp)
          clear h1 h2 h6
          have hsS := kS.1
          have hsA := kA.1
          have cc0 := kS.cell 0 rfl
          have cc1 := kS.cell 1 rfl
          have cc2 := kS.cell 2 rfl
          have cc3 := kS.cell 3 rfl
          have dd0 := kA.cell 0 rfl
          have dd1 := kA.cell 1 rfl
          have ccz := kS.2.2
          have ddz := kA.2.2
          repeat (first | ((first | (refine listF_step rfl (fun K' hK => ?_)) | (refine listF_yes rfl rfl (by decide) ?_ (fun K' hK => ?_); (focus (go_simp; done)))); unfold opF; go_simp; (refine hK _ _ ?_); clear hK K') | (refine listF_no (b' := true) rfl rfl (by decide) ?_ ?_ ?_; (focus (go_simp; done)); (focus rfl)) | (refine listF_no (b' := false) rfl rfl (by decide) ?_ ?_ ?_; (focus (go_simp; done)); (focus rfl)) | (refine listF_nu rfl rfl (by decide) ?_ ?_; (focus (go_simp; done))) | (refine listF_nil ?_) | (refine region_F ?_) | (refine cond_F true ?_ ?_; (focus (go_simp; done)); simp only [if_true]) | (refine cond_F false ?_ ?_; (focus (go_simp; done)); simp only [Bool.false_eq_true, if_false]) | (with_reducible go_step))
          refine ret_F (.tuple #[.agg #[.int .i64 0, .int .i64 0, .int .i64 0, .int .i64 0], .agg #[.int .i64 0, .slice none 0 0], .int .i64 7]) (res_cct (ad := ⟨w.heap.size + 1 + 1, 0, none⟩) (ad2 := ⟨w.heap.size + 1 + 1 + 1, 0, none⟩) Try.results22 ((getD_F (by simp)).trans (by go_simp)) ((getD_F (by simp)).trans (by go_simp)) (load_spell cc0 cc1 cc2 cc3) (load_qu dd0 dd1) ((getD_F (by simp)).trans (by go_simp))) ?_
          rw [Hr.out]
          exact ⟨none, 0, rfl, .inl rfl, hBw, fun b hb => (by cases hb)⟩
        · rintro L s1 w1 hL hd ⟨kS, kA, hBw, hs4, hs5, h1, h2, h6⟩ K hK
          clear hd
          rw [if_pos (by rfl)]
          unfold opF
          have cc0 := kS.cell 0 rfl
          have cc1 := kS.cell 1 rfl
          have cc2 := kS.cell 2 rfl
          have cc3 := kS.cell 3 rfl
          go_simp
          exact hK _ _ ⟨kS, kA, hBw, by simpa [upd, updS] using hs4, by simpa [upd, updS] using hs5, by simp [upd, updS], by simpa [upd, updS] using h2, by simpa [upd, updS] using h6⟩
        · rintro L s1 w1 hL hd ⟨kS, kA, hBw, hs4, hs5, h1, h2, h6⟩ K hK
          clear hd
          rw [if_pos (by rfl)]
          unfold opF
          have dd0 := kA.cell 0 rfl
          have dd1 := kA.cell 1 rfl
          go_simp
          exact hK _ _ ⟨kS, kA, hBw, by simpa [upd, updS] using hs4, by simpa [upd, updS] using hs5, by simpa [upd, updS] using h1, by simp [upd, updS], by simpa [upd, updS] using h6⟩
        · rintro L s1 w1 hL hd ⟨kS, kA, hBw, hs4, hs5, h1, h2, h6⟩ K hK
          have hv := h1 (hd ⟨0, .data⟩ (by simp) rfl)
          clear hd
          rw [if_pos (by rfl)]
          unfold opF
          have cc0 := kS.cell 0 rfl
          have cc1 := kS.cell 1 rfl
          have cc2 := kS.cell 2 rfl
          have cc3 := kS.cell 3 rfl
          have ccz := kS.2.2
          go_simp
          exact hK undef _ ⟨(((kS.set (i := 0) (u := .int .i64 0)).set (i := 1) (u := .int .i64 0)).set (i := 2) (u := .int .i64 0)).set (i := 3) (u := .int .i64 0), (((kA.setFar (by omega)).setFar (by omega)).setFar (by omega)).setFar (by omega), (((hBw.setCell (by simp; omega) _).setCell (by simp; omega) _).setCell (by simp; omega) _).setCell (by simp; omega) _, by simpa [upd, updS] using hs4, by simpa [upd, updS] using hs5, by simpa [upd, updS] using h1, by simpa [upd, updS] using h2, by simpa [upd, updS] using h6⟩
        · rintro L s1 w1 hL hd ⟨kS, kA, hBw, hs4, hs5, h1, h2, h6⟩ K hK
          have hv := h2 (hd ⟨1, .data⟩ (by simp) rfl)
          clear hd
          rw [if_pos (by rfl)]
          unfold opF
          have dd0 := kA.cell 0 rfl
          have dd1 := kA.cell 1 rfl
          have ddz := kA.2.2
          go_simp
          exact hK undef _ ⟨(kS.setFar (by omega)).setFar (by omega), (kA.set (i := 0) (u := .int .i64 0)).set (i := 1) (u := .slice none 0 0), (hBw.setCell (by simp; omega) _).setCell (by simp; omega) _, by simpa [upd, updS] using hs4, by simpa [upd, updS] using hs5, by simpa [upd, updS] using h1, by simpa [upd, updS] using h2, by simpa [upd, updS] using h6⟩
        · rintro L s1 w1 hL hd ⟨kS, kA, hBw, hs4, hs5, h1, h2, h6⟩ K hK
          clear hd
          rw [if_pos (by rfl)]
          unfold opF
          go_simp
          exact hK _ _ ⟨kS, kA, hBw, by simpa [upd, updS] using hs4, by simpa [upd, updS] using hs5, by simpa [upd, updS] using h1, by simpa [upd, updS] using h2, by simp [upd, updS]⟩
    · have hl1 : ((q.jobs.length : Int) != (W.jobs.length : Int)) = true := by simp; omega
      have hq2 : quErr W q = 2 := by unfold quErr; rw [if_pos hlen]
      have Hr := hid (show nextRes W q = (Spell.zero, Qu.zero, 2) by unfold nextRes; rw [HNE.out, hq2]; rfl)
      clear hq2
      clear hlen
      repeat (first | ((first | (refine listF_step rfl (fun K' hK => ?_)) | (refine listF_yes rfl rfl (by decide) ?_ (fun K' hK => ?_); (focus (go_simp; done)))); unfold opF; go_simp; (refine hK _ _ ?_); clear hK K') | (refine listF_no (b' := true) rfl rfl (by decide) ?_ ?_ ?_; (focus (go_simp; done)); (focus rfl)) | (refine listF_no (b' := false) rfl rfl (by decide) ?_ ?_ ?_; (focus (go_simp; done)); (focus rfl)) | (refine listF_nu rfl rfl (by decide) ?_ ?_; (focus (go_simp; done))) | (refine listF_nil ?_) | (refine region_F ?_) | (refine cond_F true ?_ ?_; (focus (go_simp; done)); simp only [if_true]) | (refine cond_F false ?_ ?_; (focus (go_simp; done)); simp only [Bool.false_eq_true, if_false]) | (with_reducible go_step))
      refine regionI_F (RetJ w.heap.size w (w.heap.size + 1 + 1) (w.heap.size + 1 + 1 + 1) [.int .i64 0, .int .i64 0, .int .i64 0, .int .i64 0] [.int .i64 0, .slice none 0 0] 4 5 6 30 31 4 (.int .i64 2)) (by kernel_rfl) (by kernel_rfl) (by kernel_rfl) ?_ ?_ ⟨?_, ?_, ?_, ?_, ?_, trivial⟩
      · refine ⟨(by repeat (first | (with_reducible exact k2') | (with_reducible exact m2) | (with_reducible exact k2) | (with_reducible refine Cells.drew ?_) | (with_reducible refine Cells.up ?_ _) | (with_reducible refine Cells.setFar ?_ (by omega)))), (by repeat (first | (with_reducible exact k3') | (with_reducible exact m3) | (with_reducible exact k3) | (with_reducible refine Cells.drew ?_) | (with_reducible refine Cells.up ?_ _) | (with_reducible refine Cells.setFar ?_ (by omega)))), (by repeat (first | (with_reducible exact HB2.out) | (with_reducible refine bdrewN ?_ _) | (with_reducible refine Below.drew ?_) | (with_reducible refine Below.setCell ?_ (by first | omega | (simp; done) | (simp; omega)) _) | (with_reducible refine Below.alloc ?_ (by first | omega | (simp; done) | (simp; omega)) _))), ?_, ?_, by simp, by simp, by simp⟩
        · go_simp
        · go_simp
      · rintro s1 w1 ⟨kS, kA, hBw, hs4, hs5, h1, h2, h6⟩
        have hs6 := h6 (by simp)
        clear h1 h2 h6
        have hsS := kS.1
        have hsA := kA.1
        have cc0 := kS.cell 0 rfl
        have cc1 := kS.cell 1 rfl
        have cc2 := kS.cell 2 rfl
        have cc3 := kS.cell 3 rfl
        have dd0 := kA.cell 0 rfl
        have dd1 := kA.cell 1 rfl
        have ccz := kS.2.2
        have ddz := kA.2.2
        repeat (first | ((first | (refine listF_step rfl (fun K' hK => ?_)) | (refine listF_yes rfl rfl (by decide) ?_ (fun K' hK => ?_); (focus (go_simp; done)))); unfold opF; go_simp; (refine hK _ _ ?_); clear hK K') | (refine listF_no (b' := true) rfl rfl (by decide) ?_ ?_ ?_; (focus (go_simp; done)); (focus rfl)) | (refine listF_no (b' := false) rfl rfl (by decide) ?_ ?_ ?_; (focus (go_simp; done)); (focus rfl)) | (refine listF_nu rfl rfl (by decide) ?_ ?_; (focus (go_simp; done))) | (refine listF_nil ?_) | (refine region_F ?_) | (refine cond_F true ?_ ?_; (focus (go_simp; done)); simp only [if_true]) | (refine cond_F false ?_ ?_; (focus (go_simp; done)); simp only [Bool.false_eq_true, if_false]) | (with_reducible go_step))
        refine ret_F (.tuple #[.agg #[.int .i64 0, .int .i64 0, .int .i64 0, .int .i64 0], .agg #[.int .i64 0, .slice none 0 0], .int .i64 2]) (res_cct (ad := ⟨w.heap.size + 1 + 1, 0, none⟩) (ad2 := ⟨w.heap.size + 1 + 1 + 1, 0, none⟩) Try.results22 ((getD_F (by simp)).trans (by go_simp)) ((getD_F (by simp)).trans (by go_simp)) (load_spell cc0 cc1 cc2 cc3) (load_qu dd0 dd1) ((getD_F (by simp)).trans (by go_simp))) ?_
        rw [Hr.out]
        exact ⟨none, 0, rfl, .inl rfl, hBw, fun b hb => (by cases hb)⟩
      · rintro L s1 w1 hL hd ⟨kS, kA, hBw, hs4, hs5, h1, h2, h6⟩ K hK
        clear hd
        rw [if_pos (by rfl)]
        unfold opF
        have cc0 := kS.cell 0 rfl
        have cc1 := kS.cell 1 rfl
        have cc2 := kS.cell 2 rfl
        have cc3 := kS.cell 3 rfl
        go_simp
        exact hK _ _ ⟨kS, kA, hBw, by simpa [upd, updS] using hs4, by simpa [upd, updS] using hs5, by simp [upd, updS], by simpa [upd, updS] using h2, by simpa [upd, updS] using h6⟩
      · rintro L s1 w1 hL hd ⟨kS, kA, hBw, hs4, hs5, h1, h2, h6⟩ K hK
        clear hd
        rw [if_pos (by rfl)]
        unfold opF
        have dd0 := kA.cell 0 rfl
        have dd1 := kA.cell 1 rfl
        go_simp
        exact hK _ _ ⟨kS, kA, hBw, by simpa [upd, updS] using hs4, by simpa [upd, updS] using hs5, by simpa [upd, updS] using h1, by simp [upd, updS], by simpa [upd, updS] using h6⟩
      · rintro L s1 w1 hL hd ⟨kS, kA, hBw, hs4, hs5, h1, h2, h6⟩ K hK
        have hv := h1 (hd ⟨0, .data⟩ (by simp) rfl)
        clear hd
        rw [if_pos (by rfl)]
        unfold opF
        have cc0 := kS.cell 0 rfl
        have cc1 := kS.cell 1 rfl
        have cc2 := kS.cell 2 rfl
        have cc3 := kS.cell 3 rfl
        have ccz := kS.2.2
        go_simp
        exact hK undef _ ⟨(((kS.set (i := 0) (u := .int .i64 0)).set (i := 1) (u := .int .i64 0)).set (i := 2) (u := .int .i64 0)).set (i := 3) (u := .int .i64 0), (((kA.setFar (by omega)).setFar (by omega)).setFar (by omega)).setFar (by omega), (((hBw.setCell (by simp; omega) _).setCell (by simp; omega) _).setCell (by simp; omega) _).setCell (by simp; omega) _, by simpa [upd, updS] using hs4, by simpa [upd, updS] using hs5, by simpa [upd, updS] using h1, by simpa [upd, updS] using h2, by simpa [upd, updS] using h6⟩
      · rintro L s1 w1 hL hd ⟨kS, kA, hBw, hs4, hs5, h1, h2, h6⟩ K hK
        have hv := h2 (hd ⟨1, .data⟩ (by simp) rfl)
        clear hd
        rw [if_pos (by rfl)]
        unfold opF
        have dd0 := kA.cell 0 rfl
        have dd1 := kA.cell 1 rfl
        have ddz := kA.2.2
        go_simp
        exact hK undef _ ⟨(kS.setFar (by omega)).setFar (by omega), (kA.set (i := 0) (u := .int .i64 0)).set (i := 1) (u := .slice none 0 0), (hBw.setCell (by simp; omega) _).setCell (by simp; omega) _, by simpa [upd, updS] using hs4, by simpa [upd, updS] using hs5, by simpa [upd, updS] using h1, by simpa [upd, updS] using h2, by simpa [upd, updS] using h6⟩
      · rintro L s1 w1 hL hd ⟨kS, kA, hBw, hs4, hs5, h1, h2, h6⟩ K hK
        clear hd
        rw [if_pos (by rfl)]
        unfold opF
        go_simp
        exact hK _ _ ⟨kS, kA, hBw, by simpa [upd, updS] using hs4, by simpa [upd, updS] using hs5, by simpa [upd, updS] using h1, by simpa [upd, updS] using h2, by simp [upd, updS]⟩
  · have he' : ((check W).2.2 == 0) = false := by unfold Work.err at he; simp [he]
    have he2 : ((check W).2.2 != 0) = true := by unfold Work.err at he; simp [he]
    have c0 := k2.cell 0 rfl
    have c1 := k2.cell 1 rfl
    have c2 := k2.cell 2 rfl
    have c3 := k2.cell 3 rfl
    have d0 := k3.cell 0 rfl
    have d1 := k3.cell 1 rfl
    have cz := k2.2.2
    have dz := k3.2.2
    have Hn : Hid (nextErr W q = (check W).2.2 ∧ nextErr W q ≠ 0) := by show _ ∧ _; unfold nextErr; rw [if_neg he]; exact ⟨rfl, he⟩
    have Hr := hid (show nextRes W q = (Spell.zero, Qu.zero, nextErr W q) by unfold nextRes; rw [if_neg Hn.out.2])
    clear he
    repeat (first | ((first | (refine listF_step rfl (fun K' hK => ?_)) | (refine listF_yes rfl rfl (by decide) ?_ (fun K' hK => ?_); (focus (go_simp; done)))); unfold opF; go_simp; (refine hK _ _ ?_); clear hK K') | (refine listF_no (b' := true) rfl rfl (by decide) ?_ ?_ ?_; (focus (go_simp; done)); (focus rfl)) | (refine listF_no (b' := false) rfl rfl (by decide) ?_ ?_ ?_; (focus (go_simp; done)); (focus rfl)) | (refine listF_nu rfl rfl (by decide) ?_ ?_; (focus (go_simp; done))) | (refine listF_nil ?_) | (refine region_F ?_) | (refine cond_F true ?_ ?_; (focus (go_simp; done)); simp only [if_true]) | (refine cond_F false ?_ ?_; (focus (go_simp; done)); simp only [Bool.false_eq_true, if_false]) | (with_reducible go_step))
    go_region_with fail
    all_goals
      simp only [mkA_put, List.getElem_toArray, List.getElem_cons_succ, List.getElem_cons_zero]
      repeat (first | ((first | (refine listF_step rfl (fun K' hK => ?_)) | (refine listF_yes rfl rfl (by decide) ?_ (fun K' hK => ?_); (focus (go_simp; done)))); unfold opF; go_simp; (refine hK _ _ ?_); clear hK K') | (refine listF_no (b' := true) rfl rfl (by decide) ?_ ?_ ?_; (focus (go_simp; done)); (focus rfl)) | (refine listF_no (b' := false) rfl rfl (by decide) ?_ ?_ ?_; (focus (go_simp; done)); (focus rfl)) | (refine listF_nu rfl rfl (by decide) ?_ ?_; (focus (go_simp; done))) | (refine listF_nil ?_) | (refine region_F ?_) | (refine cond_F true ?_ ?_; (focus (go_simp; done)); simp only [if_true]) | (refine cond_F false ?_ ?_; (focus (go_simp; done)); simp only [Bool.false_eq_true, if_false]) | (with_reducible go_step))
      refine ret_F (.tuple #[.agg #[.int .i64 0, .int .i64 0, .int .i64 0, .int .i64 0], .agg #[.int .i64 0, .slice none 0 0], .int .i64 (check W).2.2]) (res_cct (ad := ⟨w.heap.size + 1 + 1, 0, none⟩) (ad2 := ⟨w.heap.size + 1 + 1 + 1, 0, none⟩) Try.results22 ((getD_F (by simp)).trans (by go_simp)) ((getD_F (by simp)).trans (by go_simp)) (load_spell ?_ ?_ ?_ ?_) (load_qu ?_ ?_) ((getD_F (by simp)).trans (by go_simp))) ?_
      · go_simp
      · go_simp
      · go_simp
      · go_simp
      · go_simp
      · go_simp
      · rw [Hr.out, ← Hn.out.1]
        exact ⟨none, 0, rfl, .inl rfl, (by repeat (first | (with_reducible exact HB2.out) | (with_reducible refine bdrewN ?_ _) | (with_reducible refine Below.drew ?_) | (with_reducible refine Below.setCell ?_ (by first | omega | (simp; done) | (simp; omega)) _) | (with_reducible refine Below.alloc ?_ (by first | omega | (simp; done) | (simp; omega)) _))), fun b hb => (by cases hb)⟩

theorem qNext_any (W : Work) (q : Qu) (aj af aq : Option Addr) (cj cf cq : Nat) (w : World) (hW : WorkIn w W aj af) (hq : RdSts w aq q.jobs) :
    Calls Try.prog 22 #[.agg #[.int .i64 W.rules.slice, .int .i64 W.rules.load, .int .i64 W.rules.dump, .int .i64 W.rules.patience, .int .i64 W.rules.rate, .slice aj W.jobs.length cj, .slice af W.faults.length cf], .agg #[.int .i64 q.now, .slice aq q.jobs.length cq]] w fun e w' => ∃ a c, e = .returned (.tuple #[.agg #[.int .i64 (nextRes W q).1.kind, .int .i64 (nextRes W q).1.job, .int .i64 (nextRes W q).1.from0, .int .i64 (nextRes W q).1.until0], .agg #[.int .i64 (nextRes W q).2.1.now, .slice a (nextRes W q).2.1.jobs.length c], .int .i64 (nextRes W q).2.2]) ∧
      RdSts w' a (nextRes W q).2.1.jobs ∧ Below w.heap.size w w' :=
  (qNext_new W q aj af aq cj cf cq w hW hq).mono fun _ _ ⟨a, c, h1, h2, h3, _⟩ => ⟨a, c, h1, h2, h3⟩

end Go.Proofs.Ytbjgebbfachgfaa
