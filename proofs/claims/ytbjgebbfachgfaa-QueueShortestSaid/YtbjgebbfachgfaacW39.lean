/- spells and the function that it returns: the program's. -/
import Derived.Test.YtbjgebbfachgfaacW32
import Derived.Test.YtbjgebbfachgfaacJ7
import Derived.Test.YtbjgebbfachgfaacW38
set_option linter.unusedVariables false
set_option linter.unusedSimpArgs false
set_option linter.unusedSectionVars false
set_option linter.all false
namespace Go.Proofs.Ytbjgebbfachgfaa
open Go.RowKit

theorem spells_any (R : Nat) (till : Int) (w : World) : Calls Try.prog 58 #[.pointer (some ⟨R, 0, none⟩), .int .i64 till] w fun e w' => e = .returned (.func (.func 70) #[] #[.pointer (some ⟨w.heap.size, 0, none⟩), .pointer (some ⟨w.heap.size + 1, 0, none⟩)]) ∧
    Cells w' w.heap.size [.pointer (some ⟨R, 0, none⟩)] ∧ Cells w' (w.heap.size + 1) [.int .i64 till] ∧ Below w.heap.size w w' ∧ w'.heap.size = w.heap.size + 2 := by
  refine enter_F Try.func58 rfl Try.ntmps58 (by simp) ?_
  intro s hs
  have sl0 : s 0 = .pointer (some ⟨R, 0, none⟩) := hs 0 (by simp)
  have sl1 : s 1 = .int .i64 till := hs 1 (by simp)
  clear hs
  repeat (first | ((first | (refine listF_step rfl (fun K' hK => ?_)) | (refine listF_yes rfl rfl (by decide) ?_ (fun K' hK => ?_); (focus (go_simp; done)))); unfold opF; go_simp; (refine hK _ _ ?_); clear hK K') | (refine listF_no (b' := true) rfl rfl (by decide) ?_ ?_ ?_; (focus (go_simp; done)); (focus rfl)) | (refine listF_no (b' := false) rfl rfl (by decide) ?_ ?_ ?_; (focus (go_simp; done)); (focus rfl)) | (refine listF_nu rfl rfl (by decide) ?_ ?_; (focus (go_simp; done))) | (refine listF_nil ?_) | (refine region_F ?_) | (refine cond_F true ?_ ?_; (focus (go_simp; done)); simp only [if_true]) | (refine cond_F false ?_ ?_; (focus (go_simp; done)); simp only [Bool.false_eq_true, if_false]) | (with_reducible go_step))
  refine ret_F (.func (.func 70) #[] #[.pointer (some ⟨w.heap.size, 0, none⟩), .pointer (some ⟨w.heap.size + 1, 0, none⟩)]) (res1_F Try.results58 (by decide) (by go_simp)) ⟨rfl, ?_, ?_, (by repeat (first | (with_reducible exact Below.refl _ w) | (with_reducible refine bdrewN ?_ _) | (with_reducible refine Below.drew ?_) | (with_reducible refine Below.setCell ?_ (by first | omega | (simp; done) | (simp; omega)) _) | (with_reducible refine Below.alloc ?_ (by first | omega | (simp; done) | (simp; omega)) _))), by simp⟩
  · exact (Cells.new (cs := #[.pointer (some ⟨R, 0, none⟩)]) rfl).up _
  · exact Cells.new (cs := #[.int .i64 till]) (by first | omega | (simp; done) | (simp; omega))

theorem res0_F {P : Program} {fn : Func} {tmps : Array Value} {w : World} (h : fn.results = #[]) : (results fn tmps).run P w = .ok (.tuple #[]) w := by
  simp only [results, h]
  simp [Sem.run_bind, Result.andThen]
theorem norm_F {P : Program} {fn : Func} {R : Ending → World → Prop} {n : Nat} {s : Nat → Value} {w : World} (v : Value) (hr : (results fn (tmA n s)).run P w = .ok v w) (h : R (.returned v) w) : bodyPost P fn R .normal (mkA n s []) w := ⟨rfl, v, hr, h⟩
/-- what holds while the spells of a day come: all: the machine's; lst: in the list -/
def DInv (N : Nat) (w0 : World) (R g bm bu B4 B5 base : Nat) (W : Work) (till : Int) (aj af : Option Addr) (cj cf cq : Nat) (all lst : List Spell) (wr : World) : Prop :=
  ∃ (q : Qu) (m : Nat) (v : Value), DayI W till m all q ∧ RoomOf N w0 wr R g W q aj af cj cf cq ∧ OwnSpells base wr v lst ∧ Cells wr B4 [v] ∧ Cells wr B5 [.int .i64 0, .slice none 0 0] ∧ Cells wr bm [.pointer (some ⟨R, 0, none⟩)] ∧ Cells wr bu [.int .i64 till]

theorem DInv.below {N : Nat} {w0 : World} {R g bm bu B4 B5 base : Nat} {W : Work} {till : Int} {aj af : Option Addr} {cj cf cq : Nat} {all lst : List Spell} {w w' : World} (h : DInv N w0 R g bm bu B4 B5 base W till aj af cj cf cq all lst w) (hb : Below w.heap.size w w') : DInv N w0 R g bm bu B4 B5 base W till aj af cj cf cq all lst w' := by
  obtain ⟨q, m, v, h1, h2, h3, h4, h5, h6, h7⟩ := h
  exact ⟨q, m, v, h1, h2.at hb, h3.at hb, h4.at hb, h5.at hb, h6.at hb, h7.at hb⟩
theorem LoopAt.at {W W' : World} {l : Nat} {r : Loop} (h : LoopAt W l r) (hb : Below W.heap.size W W') : LoopAt W' l r :=
  ⟨(hb.block _ (Array.getElem?_eq_some_iff.1 h.1).1).trans h.1, (hb.block _ (Array.getElem?_eq_some_iff.1 h.2).1).trans h.2⟩

set_option maxRecDepth 100000 in
set_option maxHeartbeats 4000000 in
theorem spells1_any (N : Nat) (w0 : World) (R g bm bu B4 B5 D : Nat) (W : Work) (till : Int) (aj af : Option Addr) (cj cf cq : Nat) (hK : WOk W) (ht0 : 0 ≤ till) (ht : till ≤ 5000)
    (hR : R < D) (hg : g < D) (h1 : bm < D) (h2 : bu < D) (h4 : B4 < D) (h5 : B5 < D) (n1 : bm ≠ R) (n2 : bm ≠ g) (n3 : bu ≠ R) (n4 : bu ≠ g) (n5 : B4 ≠ R) (n6 : B4 ≠ g) (n7 : B5 ≠ R) (n8 : B5 ≠ g)
    (r : Loop) (W0 : World) (hJ : DInv N w0 R g bm bu B4 B5 (D + 2) W till aj af cj cf cq [] [] W0) (hL : LoopAt W0 D r)
    (hy : ∀ pre x W1, DInv N w0 R g bm bu B4 B5 (D + 2) W till aj af cj cf cq (pre ++ [x]) pre W1 → LoopAt W1 D r → YieldAt Fence.wide 0 Try.prog (D + 1) #[.agg #[.int .i64 x.kind, .int .i64 x.job, .int .i64 x.from0, .int .i64 x.until0]] W1 fun e W' => e = .returned (.bool true) ∧ DInv N w0 R g bm bu B4 B5 (D + 2) W till aj af cj cf cq (pre ++ [x]) (pre ++ [x]) W' ∧ LoopAt W' D r) :
    Calls Try.prog 70 #[.func (.yield (D + 1)) #[] #[], .pointer (some ⟨bm, 0, none⟩), .pointer (some ⟨bu, 0, none⟩)] W0 fun e W' => (∃ v, e = .returned v) ∧ ∃ xs, DInv N w0 R g bm bu B4 B5 (D + 2) W till aj af cj cf cq xs xs W' ∧ (∃ q, dayLoop W till till.toNat (beginQ W) = (xs, q)) ∧ LoopAt W' D r := by
  refine enter_F Try.func70 rfl Try.ntmps70 (by simp) ?_
  intro s hs
  have sl0 : s 0 = .func (.yield (D + 1)) #[] #[] := hs 0 (by simp)
  have sl1 : s 1 = .pointer (some ⟨bm, 0, none⟩) := hs 1 (by simp)
  have sl2 : s 2 = .pointer (some ⟨bu, 0, none⟩) := hs 2 (by simp)
  clear hs
  repeat (first | ((first | (refine listF_step rfl (fun K' hK => ?_)) | (refine listF_yes rfl rfl (by decide) ?_ (fun K' hK => ?_); (focus (go_simp; done)))); unfold opF; go_simp; (refine hK _ _ ?_); clear hK K') | (refine listF_no (b' := true) rfl rfl (by decide) ?_ ?_ ?_; (focus (go_simp; done)); (focus rfl)) | (refine listF_no (b' := false) rfl rfl (by decide) ?_ ?_ ?_; (focus (go_simp; done)); (focus rfl)) | (refine listF_nu rfl rfl (by decide) ?_ ?_; (focus (go_simp; done))) | (refine listF_nil ?_) | (refine region_F ?_) | (refine cond_F true ?_ ?_; (focus (go_simp; done)); simp only [if_true]) | (refine cond_F false ?_ ?_; (focus (go_simp; done)); simp only [Bool.false_eq_true, if_false]) | (with_reducible go_step))
  refine loop_F (n := 23) (fun k s wr => ∃ pre : List Spell, k = till.toNat + 1 - pre.length ∧ pre.length ≤ till.toNat ∧ s 0 = .func (.yield (D + 1)) #[] #[] ∧ s 1 = .pointer (some ⟨bm, 0, none⟩) ∧ s 2 = .pointer (some ⟨bu, 0, none⟩) ∧ DInv N w0 R g bm bu B4 B5 (D + 2) W till aj af cj cf cq pre pre wr ∧ LoopAt wr D r) (k0 := till.toNat + 1) ⟨[], rfl, Nat.zero_le _, sl0, sl1, sl2, hJ, hL⟩ ?_
  clear sl0 sl1 sl2 hJ hL
  rintro k s wr ⟨pre, rfl, hpl, sl0, sl1, sl2, hJ, hL⟩
  have hJ' := hJ
  obtain ⟨q, m, v, hD, hRo, hO, k4, k5, km, ku⟩ := hJ'
  have HD := hid hD
  have HRo := hid hRo
  have HO := hid hO
  have HJ := hid hJ
  have HL := hid hL
  have HK := hid hK
  have hm0 := km.cell 0 rfl
  have hu0 := ku.cell 0 rfl
  have hms := km.1
  have hus := ku.1
  have hc7 := hRo.c7
  have hRl := hRo.lt
  have hjl : q.jobs.length ≤ 9223372036854775807 := by have := hD.ok.len; have := hK.jl; omega
  clear hD hRo hO hJ hL hK
  have HW8 := hid (show ∀ wq, Below wr.heap.size wr wq → Calls Try.prog 54 #[.pointer (some ⟨R, 7, none⟩)] wq fun e w'' => e = .returned (.bool (waits q.jobs)) ∧ Below wr.heap.size wr w'' from fun wq hwq =>
    (qwaits_any R 7 (some ⟨g, 0, none⟩) cq q.jobs wq hjl (Rd.at HRo.out.rd hwq) ((hwq.cell (p := ⟨R, 8, none⟩) HRo.out.lt).trans HRo.out.c8)).mono fun _ _ ⟨e1, e2⟩ => ⟨e1, hwq.trans (e2.mono hwq.size)⟩)
  rcases dec_or (q.now < till) with t1 | t1
  · rcases Bool.eq_false_or_eq_true (waits q.jobs) with hw | hw
    · repeat (first | ((first | (refine listF_step rfl (fun K' hK => ?_)) | (refine listF_yes rfl rfl (by decide) ?_ (fun K' hK => ?_); (focus (go_simp; done)))); unfold opF; go_simp; (refine hK _ _ ?_); clear hK K') | (refine listF_no (b' := true) rfl rfl (by decide) ?_ ?_ ?_; (focus (go_simp; done)); (focus rfl)) | (refine listF_no (b' := false) rfl rfl (by decide) ?_ ?_ ?_; (focus (go_simp; done)); (focus rfl)) | (refine listF_nu rfl rfl (by decide) ?_ ?_; (focus (go_simp; done))) | (refine listF_nil ?_) | (refine region_F ?_) | (refine cond_F true ?_ ?_; (focus (go_simp; done)); simp only [if_true]) | (refine cond_F false ?_ ?_; (focus (go_simp; done)); simp only [Bool.false_eq_true, if_false]) | (with_reducible go_step))
      refine regionQ_F (Below wr.heap.size wr) (by kernel_rfl) (by kernel_rfl) (Below.refl _ _).drew ?_
      repeat (first | (refine listQ_step (v := ?_) rfl ?_ ?_; rotate_left; (focus (intro wq hwq; obtain ⟨hcq, hfq⟩ := bcell hwq; go_simp; (first | rfl | (exact ⟨rfl, rfl⟩) | (exact HW8.out _ hwq))))) | (refine listQ_yes (v := ?_) rfl rfl (by decide) ?_ ?_ ?_; rotate_left; (focus (go_simp; done)); (focus (intro wq hwq; obtain ⟨hcq, hfq⟩ := bcell hwq; go_simp; (first | rfl | (exact ⟨rfl, rfl⟩) | (exact HW8.out _ hwq))))) | (refine listQ_no (b' := true) rfl rfl (by decide) ?_ ?_ ?_; (focus (go_simp; done)); (focus rfl)) | (refine listQ_no (b' := false) rfl rfl (by decide) ?_ ?_ ?_; (focus (go_simp; done)); (focus rfl)) | (refine listQ_nu rfl rfl (by decide) ?_ ?_; (focus (go_simp; done))) | (refine listQ_nil ?_))
      intro w2 hw2
      rename_i KB hKB KC hKC
      refine hKC _ _ ?_
      refine cond_F true ?_ ?_
      · go_simp
      simp only [if_true]
      refine wp_skip ?_
      refine hKB _ _ ?_
      refine wp_block ?_
      refine wp_seq_k fun KD hKD => ?_
      (refine wp_abs ?_; intro s' hs'; have gl0 := congrFun hs' 0; simp only [updS_some, updS_none, Nat.reduceEqDiff, ↓reduceIte] at gl0; (try rw [sl0] at gl0); have gl1 := congrFun hs' 1; simp only [updS_some, updS_none, Nat.reduceEqDiff, ↓reduceIte] at gl1; (try rw [sl1] at gl1); have gl2 := congrFun hs' 2; simp only [updS_some, updS_none, Nat.reduceEqDiff, ↓reduceIte] at gl2; (try rw [sl2] at gl2); clear hs'; (try clear sl0); (try clear sl1); (try clear sl2); have sl0 := gl0; clear gl0; have sl1 := gl1; clear gl1; have sl2 := gl2; clear gl2)
      have hJ2 := HJ.out.below hw2
      have hL2 := HL.out.at hw2
      have HR2 := hid (HRo.out.at hw2)
      have HO2 := hid (HO.out.at hw2)
      have k42 := k4.at hw2
      have k52 := k5.at hw2
      have km2 := km.at hw2
      have ku2 := ku.at hw2
      have hm2 := km2.cell 0 rfl
      have hms2 := km2.1
      have hw2s := hw2.size
      clear hJ2 hm0 hu0 hms hus hc7 hRl hw2 k4 k5 km ku HRo HO HJ HL HW8
      refine region_yield (k := 3) (by kernel_rfl) ?_
      simp only [List.take_succ_cons, List.take_zero, List.drop_succ_cons, List.drop_zero]
      repeat (first | ((first | (refine listF_step rfl (fun K' hK => ?_)) | (refine listF_yes rfl rfl (by decide) ?_ (fun K' hK => ?_); (focus (go_simp; done)))); unfold opF; go_simp; (refine hK _ _ ?_); clear hK K') | (refine listF_no (b' := true) rfl rfl (by decide) ?_ ?_ ?_; (focus (go_simp; done)); (focus rfl)) | (refine listF_no (b' := false) rfl rfl (by decide) ?_ ?_ ?_; (focus (go_simp; done)); (focus rfl)) | (refine listF_nu rfl rfl (by decide) ?_ ?_; (focus (go_simp; done))) | (refine listF_nil ?_) | (refine region_F ?_) | (refine cond_F true ?_ ?_; (focus (go_simp; done)); simp only [if_true]) | (refine cond_F false ?_ ?_; (focus (go_simp; done)); simp only [Bool.false_eq_true, if_false]) | (with_reducible go_step))
      (refine listF_step rfl (fun K' hK => ?_); unfold opF; go_simp; refine (next_any N w0 _ R g W q aj af cj cf cq HR2.out HK.out HD.out.ok.q hw).mono ?_; rintro e w3 ⟨rfl, hR3, hK3⟩; refine ⟨_, rfl, hK _ _ ?_⟩; clear hK K')
      obtain ⟨m', hm', hD'⟩ := HD.out.next HK.out ht (by simpa using t1) hw
      have hown : OwnSpells (D + 2) w3 v pre := HO2.out.kept (fun b hb => by
        have := World.ownsRow.lt HO2.out b hb
        exact hK3.2 b this.2 (by omega) (by omega))
      have hL3 : LoopAt w3 D r := ⟨(hK3.2 _ (Array.getElem?_eq_some_iff.1 hL2.1).1 (by omega) (by omega)).trans hL2.1, (hK3.2 _ (Array.getElem?_eq_some_iff.1 hL2.2).1 (by omega) (by omega)).trans hL2.2⟩
      have hM : DInv N w0 R g bm bu B4 B5 (D + 2) W till aj af cj cf cq (pre ++ [(nextStep W q).1]) pre w3 :=
        ⟨_, m', v, hD', hR3, hown, k42.kept (hK3.2 _ k42.1 n5 n6) hK3.1, k52.kept (hK3.2 _ k52.1 n7 n8) hK3.1, km2.kept (hK3.2 _ km2.1 n1 n2) hK3.1, ku2.kept (hK3.2 _ ku2.1 n3 n4) hK3.1⟩
      have hpl' : pre.length + 1 ≤ till.toNat := by have := hD'.len; simp at this; omega
      clear hown hR3 hK3 hL2 HR2 HO2 k42 k52 km2 ku2 hm2 hms2 hw2s hD' hm'
      generalize (nextStep W q).1 = sp at *
      refine listF_nil ?_
      refine yield_in (l := D + 1) (d := 21) (v := .agg #[.int .i64 sp.kind, .int .i64 sp.job, .int .i64 sp.from0, .int .i64 sp.until0]) rfl (fun c h => by cases h) rfl ?_ (hy pre sp w3 hM hL3) ?_
      · go_simp
      · rintro e w4 ⟨rfl, hJ4, hL4⟩
        refine ⟨_, rfl, listF_in _ _ _ (by kernel_rfl) ?_⟩
        repeat (first | ((first | (refine listF_step rfl (fun K' hK => ?_)) | (refine listF_yes rfl rfl (by decide) ?_ (fun K' hK => ?_); (focus (go_simp; done)))); unfold opF; go_simp; (refine hK _ _ ?_); clear hK K') | (refine listF_no (b' := true) rfl rfl (by decide) ?_ ?_ ?_; (focus (go_simp; done)); (focus rfl)) | (refine listF_no (b' := false) rfl rfl (by decide) ?_ ?_ ?_; (focus (go_simp; done)); (focus rfl)) | (refine listF_nu rfl rfl (by decide) ?_ ?_; (focus (go_simp; done))) | (refine listF_nil ?_) | (refine region_F ?_) | (refine cond_F true ?_ ?_; (focus (go_simp; done)); simp only [if_true]) | (refine cond_F false ?_ ?_; (focus (go_simp; done)); simp only [Bool.false_eq_true, if_false]) | (with_reducible go_step))
        refine ⟨_, _, rfl, ?_, pre ++ [sp], rfl, by simp; omega, (by first | (go_simp; done) | exact sl0 | (simp only [updS_some, updS_none, Nat.reduceEqDiff, ↓reduceIte]; exact sl0)), (by first | (go_simp; done) | exact sl1 | (simp only [updS_some, updS_none, Nat.reduceEqDiff, ↓reduceIte]; exact sl1)), (by first | (go_simp; done) | exact sl2 | (simp only [updS_some, updS_none, Nat.reduceEqDiff, ↓reduceIte]; exact sl2)), hJ4, hL4⟩
        simp; omega
    · repeat (first | ((first | (refine listF_step rfl (fun K' hK => ?_)) | (refine listF_yes rfl rfl (by decide) ?_ (fun K' hK => ?_); (focus (go_simp; done)))); unfold opF; go_simp; (refine hK _ _ ?_); clear hK K') | (refine listF_no (b' := true) rfl rfl (by decide) ?_ ?_ ?_; (focus (go_simp; done)); (focus rfl)) | (refine listF_no (b' := false) rfl rfl (by decide) ?_ ?_ ?_; (focus (go_simp; done)); (focus rfl)) | (refine listF_nu rfl rfl (by decide) ?_ ?_; (focus (go_simp; done))) | (refine listF_nil ?_) | (refine region_F ?_) | (refine cond_F true ?_ ?_; (focus (go_simp; done)); simp only [if_true]) | (refine cond_F false ?_ ?_; (focus (go_simp; done)); simp only [Bool.false_eq_true, if_false]) | (with_reducible go_step))
      refine regionQ_F (Below wr.heap.size wr) (by kernel_rfl) (by kernel_rfl) (Below.refl _ _).drew ?_
      repeat (first | (refine listQ_step (v := ?_) rfl ?_ ?_; rotate_left; (focus (intro wq hwq; obtain ⟨hcq, hfq⟩ := bcell hwq; go_simp; (first | rfl | (exact ⟨rfl, rfl⟩) | (exact HW8.out _ hwq))))) | (refine listQ_yes (v := ?_) rfl rfl (by decide) ?_ ?_ ?_; rotate_left; (focus (go_simp; done)); (focus (intro wq hwq; obtain ⟨hcq, hfq⟩ := bcell hwq; go_simp; (first | rfl | (exact ⟨rfl, rfl⟩) | (exact HW8.out _ hwq))))) | (refine listQ_no (b' := true) rfl rfl (by decide) ?_ ?_ ?_; (focus (go_simp; done)); (focus rfl)) | (refine listQ_no (b' := false) rfl rfl (by decide) ?_ ?_ ?_; (focus (go_simp; done)); (focus rfl)) | (refine listQ_nu rfl rfl (by decide) ?_ ?_; (focus (go_simp; done))) | (refine listQ_nil ?_))
      intro w2 hw2
      repeat (first | ((first | (refine listF_step rfl (fun K' hK => ?_)) | (refine listF_yes rfl rfl (by decide) ?_ (fun K' hK => ?_); (focus (go_simp; done)))); unfold opF; go_simp; (refine hK _ _ ?_); clear hK K') | (refine listF_no (b' := true) rfl rfl (by decide) ?_ ?_ ?_; (focus (go_simp; done)); (focus rfl)) | (refine listF_no (b' := false) rfl rfl (by decide) ?_ ?_ ?_; (focus (go_simp; done)); (focus rfl)) | (refine listF_nu rfl rfl (by decide) ?_ ?_; (focus (go_simp; done))) | (refine listF_nil ?_) | (refine region_F ?_) | (refine cond_F true ?_ ?_; (focus (go_simp; done)); simp only [if_true]) | (refine cond_F false ?_ ?_; (focus (go_simp; done)); simp only [Bool.false_eq_true, if_false]) | (with_reducible go_step))
      exact norm_F (.tuple #[]) (res0_F Try.results70) ⟨⟨_, rfl⟩, pre, HJ.out.below hw2, ⟨q, by have := HD.out.done (by rw [hw]; simp); exact this⟩, HL.out.at hw2⟩
  · repeat (first | ((first | (refine listF_step rfl (fun K' hK => ?_)) | (refine listF_yes rfl rfl (by decide) ?_ (fun K' hK => ?_); (focus (go_simp; done)))); unfold opF; go_simp; (refine hK _ _ ?_); clear hK K') | (refine listF_no (b' := true) rfl rfl (by decide) ?_ ?_ ?_; (focus (go_simp; done)); (focus rfl)) | (refine listF_no (b' := false) rfl rfl (by decide) ?_ ?_ ?_; (focus (go_simp; done)); (focus rfl)) | (refine listF_nu rfl rfl (by decide) ?_ ?_; (focus (go_simp; done))) | (refine listF_nil ?_) | (refine region_F ?_) | (refine cond_F true ?_ ?_; (focus (go_simp; done)); simp only [if_true]) | (refine cond_F false ?_ ?_; (focus (go_simp; done)); simp only [Bool.false_eq_true, if_false]) | (with_reducible go_step))
    refine regionQ_F (Below wr.heap.size wr) (by kernel_rfl) (by kernel_rfl) (Below.refl _ _).drew ?_
    repeat (first | (refine listQ_step (v := ?_) rfl ?_ ?_; rotate_left; (focus (intro wq hwq; obtain ⟨hcq, hfq⟩ := bcell hwq; go_simp; (first | rfl | (exact ⟨rfl, rfl⟩) | (exact HW8.out _ hwq))))) | (refine listQ_yes (v := ?_) rfl rfl (by decide) ?_ ?_ ?_; rotate_left; (focus (go_simp; done)); (focus (intro wq hwq; obtain ⟨hcq, hfq⟩ := bcell hwq; go_simp; (first | rfl | (exact ⟨rfl, rfl⟩) | (exact HW8.out _ hwq))))) | (refine listQ_no (b' := true) rfl rfl (by decide) ?_ ?_ ?_; (focus (go_simp; done)); (focus rfl)) | (refine listQ_no (b' := false) rfl rfl (by decide) ?_ ?_ ?_; (focus (go_simp; done)); (focus rfl)) | (refine listQ_nu rfl rfl (by decide) ?_ ?_; (focus (go_simp; done))) | (refine listQ_nil ?_))
    intro w2 hw2
    repeat (first | ((first | (refine listF_step rfl (fun K' hK => ?_)) | (refine listF_yes rfl rfl (by decide) ?_ (fun K' hK => ?_); (focus (go_simp; done)))); unfold opF; go_simp; (refine hK _ _ ?_); clear hK K') | (refine listF_no (b' := true) rfl rfl (by decide) ?_ ?_ ?_; (focus (go_simp; done)); (focus rfl)) | (refine listF_no (b' := false) rfl rfl (by decide) ?_ ?_ ?_; (focus (go_simp; done)); (focus rfl)) | (refine listF_nu rfl rfl (by decide) ?_ ?_; (focus (go_simp; done))) | (refine listF_nil ?_) | (refine region_F ?_) | (refine cond_F true ?_ ?_; (focus (go_simp; done)); simp only [if_true]) | (refine cond_F false ?_ ?_; (focus (go_simp; done)); simp only [Bool.false_eq_true, if_false]) | (with_reducible go_step))
    exact norm_F (.tuple #[]) (res0_F Try.results70) ⟨⟨_, rfl⟩, pre, HJ.out.below hw2, ⟨q, by have := HD.out.done (by rw [t1]; rfl); exact this⟩, HL.out.at hw2⟩

end Go.Proofs.Ytbjgebbfachgfaa
